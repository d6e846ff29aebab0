/- Inline text. (Printed by gen8.py.) -/
import Derived.Test.YtagfpmbccfghnaaDoorX7
set_option linter.unusedVariables false
set_option linter.unusedSimpArgs false
namespace Go.Am
open Go Go.RowKit Go.Proofs

/-- How far the inline text goes. -/
def ink : List UInt8 → Nat
  | [] => 0
  | c :: r => if Lib.hasPrefix (c :: r) [60, 63] = true then 0 else ink r + 1
theorem ink_le : ∀ l : List UInt8, ink l ≤ l.length
  | [] => Nat.le_refl _
  | c :: r => by
    unfold ink
    have := ink_le r
    split
    · omega
    · simp; omega
theorem index_ink : ∀ l : List UInt8, (Lib.index l [60, 63] = -1 ∧ ink l = l.length) ∨ (Lib.index l [60, 63] = (ink l : Int) ∧ ink l < l.length)
  | [] => .inl ⟨rfl, rfl⟩
  | c :: r => by
    unfold Lib.index ink
    by_cases h : Lib.hasPrefix (c :: r) [60, 63] = true
    · right
      have h' : ([60, 63] : List UInt8).isPrefixOf (c :: r) = true := h
      rw [if_pos h', if_pos h]
      simp
    · have h' : ¬ ([60, 63] : List UInt8).isPrefixOf (c :: r) = true := h
      rw [if_neg h', if_neg h]
      rcases index_ink r with ⟨h1, h2⟩ | ⟨h1, h2⟩
      · left; rw [h1]; simp [h2]
      · right
        rw [h1]
        have : ¬ ((ink r : Int) == -1) = true := by simp <;> omega
        rw [if_neg this]
        simp [h2]

abbrev echo : List UInt8 := [101, 99, 104, 111]
/-- The tokens and the place behind inline text and its tag. -/
def inlT (s : List UInt8) (pos : Nat) (ts : List Tk) : List Tk := if 0 < ink (s.drop pos) then ts ++ [⟨1, 0, (s.drop pos).take (ink (s.drop pos)), pos⟩] else ts
def inlP (s : List UInt8) (pos : Nat) : Nat := pos + ink (s.drop pos)
def inlH (s : List UInt8) (pos : Nat) (ts : List Tk) : List AObj :=
  if inlP s pos = s.length then LH s (inlP s pos) 0 (inlT s pos ts)
  else if Lib.hasPrefix (s.drop (inlP s pos)) [60, 63, 61] = true then LH s ((inlP s pos + 3 : Nat) : Int) 0 (inlT s pos ts ++ [⟨3, 0, echo, inlP s pos⟩])
  else LH s ((inlP s pos + 2 : Nat) : Int) 0 (inlT s pos ts)

theorem inlNil (s : List UInt8) (pos : Nat) (hn : ([] : List Tk).length ≤ 900000) (hp : pos ≤ s.length) (hs : s.length ≤ 100000) :
    ACall Tryd.prog 32 [.optr 0 0 0 0] (LH s pos 0 []) (fun _ h => h = inlH s pos []) := by
  obtain ⟨k, hk⟩ : ∃ k, ink (s.drop pos) = k := ⟨_, rfl⟩
  have hix := index_ink (s.drop pos)
  have hkl := ink_le (s.drop pos)
  have hdl : (s.drop pos).length = s.length - pos := by simp
  have hP : inlP s pos = pos + k := by unfold inlP; rw [hk]
  rw [hk] at hix hkl
  refine ACall.of_vc tabL_ok mixed Tryd.func32 rfl (by kernel_rfl) _ _ _ rfl (by kernel_rfl) ?_
  refine ⟨rfl, rfl, rfl, rfl, rfl, rfl, ⟨by omega, by omega⟩, ?_⟩
  refine ⟨_, index_ok (s.drop pos) [60, 63] (by omega) _, ?_⟩
  rintro _ _ ⟨rfl, rfl⟩
  rcases hix with ⟨h1, h2⟩ | ⟨h1, h2⟩
  · rw [h1]
    refine splitB.mk (fun _ => ?_) (fun h => absurd h (by decide))
    by_cases hk0 : 0 < k
    · refine splitB.mk (fun _ => ?_) (fun h => by exfalso; have q : ¬ (((s.drop pos).length : Int) : Int) > 0 := of_decide_eq_false h; omega)
      have hT : inlT s pos [] = [Tk.mk 1 0 ((s.drop pos).take k) pos] := by unfold inlT; rw [hk, if_pos hk0] <;> rfl
      have e1 : IntKind.i64.wrap ((pos : Int) + ((s.drop pos).length : Int)) = ((pos + k : Nat) : Int) := by rw [w64] <;> omega
      have et : ((s.drop pos).take (((s.drop pos).length : Int)).toNat) = (s.drop pos).take k := by congr 1 <;> omega
      refine ⟨⟨by omega, by show (((s.drop pos).length : Int) : Int) ≤ ((s.drop pos).length : Int); omega⟩, ?_⟩
      refine ⟨_, (add_ok s pos 0 1 0 (((s.drop pos).length : Int)) ((s.drop pos).take (((s.drop pos).length : Int)).toNat) [] (by simp at hn ⊢ <;> omega)).mono (fun _ h hh => show h = LH s ((pos + k : Nat) : Int) 0 [Tk.mk 1 0 ((s.drop pos).take k) pos] by rw [hh, e1, et] <;> rfl), ?_⟩
      rintro _ _ rfl
      refine ⟨rfl, rfl, rfl, rfl, rfl, rfl, ?_⟩
      refine splitB.mk (fun h36 => ?_) (fun h36 => ?_)
      · have hq : pos + k = s.length := by have q := eq_of_beq h36; omega
        have hH : inlH s pos [] = LH s ((pos + k : Nat) : Int) 0 [Tk.mk 1 0 ((s.drop pos).take k) pos] := by unfold inlH; rw [hP, if_pos hq, hT]
        exact ⟨[0, 1], .junk, LH s ((pos + k : Nat) : Int) 0 [Tk.mk 1 0 ((s.drop pos).take k) pos], by simp, (show 1 ≤ 2 by decide), .junk _, ⟨⟨fun _ => ⟨rfl, rfl⟩, rfl, rfl, rfl, fun i hi => by obtain rfl : i = 0 := (by omega); exact ⟨.str_eq rfl, .int_eq rfl, .own_eq rfl ⟨_, _, _, _, rfl⟩ ⟨_, _, _, _, rfl⟩ rfl rfl, .int_eq rfl, trivial⟩⟩, ⟨fun h => absurd (show 1 < 1 from h) (by decide), rfl, rfl, rfl, fun i hi => ⟨.int_eq rfl, .int_eq rfl, .str_eq rfl, .int_eq rfl, trivial⟩⟩, trivial⟩, by rw [hH]⟩
      · have hq : ¬ pos + k = s.length := by have q := ne_of_beq_false h36; omega
        have cp := hasPrefix_ok (s.drop (pos + k)) [60, 63, 61] []
        obtain ⟨b, hb⟩ : ∃ b, Lib.hasPrefix (s.drop (pos + k)) [60, 63, 61] = b := ⟨_, rfl⟩
        rw [hb] at cp
        refine .quiet ⟨rfl, rfl, rfl, rfl, rfl, rfl, ⟨by omega, by omega⟩, [.str (s.drop (pos + k)), .str [60, 63, 61]], .bool b, ⟨.str_eq rfl, .str_eq rfl, trivial⟩, rfl, cp.mono (fun _ _ h => h.1), ?_⟩
        cases b
        · refine splitB.mk (fun h => absurd h (by decide)) (fun _ => ?_)
          have hH : inlH s pos [] = LH s ((pos + k + 2 : Nat) : Int) 0 [Tk.mk 1 0 ((s.drop pos).take k) pos] := by unfold inlH; rw [hP, if_neg hq, hb, hT] <;> rfl
          have e2 : IntKind.i64.wrap (((pos + k : Nat) : Int) + 2) = ((pos + k + 2 : Nat) : Int) := by rw [w64] <;> omega
          refine ⟨rfl, rfl, rfl, rfl, rfl, rfl, ?_⟩
          exact ⟨[0, 1], .junk, LH s ((pos + k + 2 : Nat) : Int) 0 [Tk.mk 1 0 ((s.drop pos).take k) pos], by simp, (show 1 ≤ 2 by decide), .junk _, ⟨⟨fun _ => ⟨rfl, rfl⟩, rfl, rfl, rfl, fun i hi => by obtain rfl : i = 0 := (by omega); exact ⟨.str_eq rfl, .int_eq e2, .own_eq rfl ⟨_, _, _, _, rfl⟩ ⟨_, _, _, _, rfl⟩ rfl rfl, .int_eq rfl, trivial⟩⟩, ⟨fun h => absurd (show 1 < 1 from h) (by decide), rfl, rfl, rfl, fun i hi => ⟨.int_eq rfl, .int_eq rfl, .str_eq rfl, .int_eq rfl, trivial⟩⟩, trivial⟩, by rw [hH]⟩
        · refine splitB.mk (fun _ => ?_) (fun h => absurd h (by decide))
          have hH : inlH s pos [] = LH s ((pos + k + 3 : Nat) : Int) 0 [Tk.mk 1 0 ((s.drop pos).take k) pos, Tk.mk 3 0 echo ((pos + k : Nat) : Int)] := by unfold inlH; rw [hP, if_neg hq, hb, hT] <;> rfl
          have e3 : IntKind.i64.wrap (((pos + k : Nat) : Int) + 3) = ((pos + k + 3 : Nat) : Int) := by rw [w64] <;> omega
          refine ⟨_, (add_ok s ((pos + k : Nat) : Int) 0 3 0 3 echo [Tk.mk 1 0 ((s.drop pos).take k) pos] (by simp at hn ⊢ <;> omega)).mono (fun _ h hh => show h = inlH s pos [] by rw [hh, e3, hH] <;> rfl), ?_⟩
          rintro _ _ rfl
          rw [hH]
          exact ⟨[0, 1], .junk, LH s ((pos + k + 3 : Nat) : Int) 0 [Tk.mk 1 0 ((s.drop pos).take k) pos, Tk.mk 3 0 echo ((pos + k : Nat) : Int)], by simp, (show 1 ≤ 2 by decide), .junk _, ⟨⟨fun _ => ⟨rfl, rfl⟩, rfl, rfl, rfl, fun i hi => by obtain rfl : i = 0 := (by omega); exact ⟨.str_eq rfl, .int_eq rfl, .own_eq rfl ⟨_, _, _, _, rfl⟩ ⟨_, _, _, _, rfl⟩ rfl rfl, .int_eq rfl, trivial⟩⟩, ⟨fun h => absurd (show 1 < 1 from h) (by decide), rfl, rfl, rfl, fun i hi => ⟨.int_eq rfl, .int_eq rfl, .str_eq rfl, .int_eq rfl, trivial⟩⟩, trivial⟩, rfl⟩
    · refine splitB.mk (fun h => by exfalso; have q : (((s.drop pos).length : Int) : Int) > 0 := of_decide_eq_true h; omega) (fun _ => ?_)
      have hT : inlT s pos [] = [] := by unfold inlT; rw [hk, if_neg hk0]
      have hP : inlP s pos = pos := by omega
      refine ⟨rfl, rfl, rfl, rfl, rfl, rfl, ?_⟩
      refine splitB.mk (fun h36 => ?_) (fun h36 => ?_)
      · have hq : pos = s.length := by have q := eq_of_beq h36; omega
        have hH : inlH s pos [] = LH s (pos : Int) 0 [] := by unfold inlH; rw [hP, if_pos hq, hT]
        exact ⟨[0], .junk, LH s (pos : Int) 0 [], by simp, (show 1 ≤ 1 by decide), .junk _, ⟨⟨fun _ => ⟨rfl, rfl⟩, rfl, rfl, rfl, fun i hi => by obtain rfl : i = 0 := (by omega); exact ⟨.str_eq rfl, .int_eq rfl, .nils, .int_eq rfl, trivial⟩⟩, trivial⟩, by rw [hH]⟩
      · have hq : ¬ pos = s.length := by have q := ne_of_beq_false h36; omega
        have cp := hasPrefix_ok (s.drop (pos)) [60, 63, 61] []
        obtain ⟨b, hb⟩ : ∃ b, Lib.hasPrefix (s.drop (pos)) [60, 63, 61] = b := ⟨_, rfl⟩
        rw [hb] at cp
        refine .quiet ⟨rfl, rfl, rfl, rfl, rfl, rfl, ⟨by omega, by omega⟩, [.str (s.drop (pos)), .str [60, 63, 61]], .bool b, ⟨.str_eq rfl, .str_eq rfl, trivial⟩, rfl, cp.mono (fun _ _ h => h.1), ?_⟩
        cases b
        · refine splitB.mk (fun h => absurd h (by decide)) (fun _ => ?_)
          have hH : inlH s pos [] = LH s ((pos + 2 : Nat) : Int) 0 [] := by unfold inlH; rw [hP, if_neg hq, hb, hT] <;> rfl
          have e2 : IntKind.i64.wrap ((pos : Int) + 2) = ((pos + 2 : Nat) : Int) := by rw [w64] <;> omega
          refine ⟨rfl, rfl, rfl, rfl, rfl, rfl, ?_⟩
          exact ⟨[0], .junk, LH s ((pos + 2 : Nat) : Int) 0 [], by simp, (show 1 ≤ 1 by decide), .junk _, ⟨⟨fun _ => ⟨rfl, rfl⟩, rfl, rfl, rfl, fun i hi => by obtain rfl : i = 0 := (by omega); exact ⟨.str_eq rfl, .int_eq e2, .nils, .int_eq rfl, trivial⟩⟩, trivial⟩, by rw [hH]⟩
        · refine splitB.mk (fun _ => ?_) (fun h => absurd h (by decide))
          have hH : inlH s pos [] = LH s ((pos + 3 : Nat) : Int) 0 [Tk.mk 3 0 echo (pos : Int)] := by unfold inlH; rw [hP, if_neg hq, hb, hT] <;> rfl
          have e3 : IntKind.i64.wrap ((pos : Int) + 3) = ((pos + 3 : Nat) : Int) := by rw [w64] <;> omega
          refine ⟨_, (add_ok s (pos : Int) 0 3 0 3 echo [] (by simp at hn ⊢ <;> omega)).mono (fun _ h hh => show h = inlH s pos [] by rw [hh, e3, hH] <;> rfl), ?_⟩
          rintro _ _ rfl
          rw [hH]
          exact ⟨[0, 1], .junk, LH s ((pos + 3 : Nat) : Int) 0 [Tk.mk 3 0 echo (pos : Int)], by simp, (show 1 ≤ 2 by decide), .junk _, ⟨⟨fun _ => ⟨rfl, rfl⟩, rfl, rfl, rfl, fun i hi => by obtain rfl : i = 0 := (by omega); exact ⟨.str_eq rfl, .int_eq rfl, .own_eq rfl ⟨_, _, _, _, rfl⟩ ⟨_, _, _, _, rfl⟩ rfl rfl, .int_eq rfl, trivial⟩⟩, ⟨fun h => absurd (show 1 < 1 from h) (by decide), rfl, rfl, rfl, fun i hi => ⟨.int_eq rfl, .int_eq rfl, .str_eq rfl, .int_eq rfl, trivial⟩⟩, trivial⟩, rfl⟩
  · rw [h1]
    refine splitB.mk (fun h => by exfalso; have q := of_decide_eq_true h; omega) (fun _ => ?_)
    by_cases hk0 : 0 < k
    · refine splitB.mk (fun _ => ?_) (fun h => by exfalso; have q : ¬ ((k : Int) : Int) > 0 := of_decide_eq_false h; omega)
      have hT : inlT s pos [] = [Tk.mk 1 0 ((s.drop pos).take k) pos] := by unfold inlT; rw [hk, if_pos hk0] <;> rfl
      have e1 : IntKind.i64.wrap ((pos : Int) + (k : Int)) = ((pos + k : Nat) : Int) := by rw [w64] <;> omega
      have et : ((s.drop pos).take ((k : Int)).toNat) = (s.drop pos).take k := by congr 1 <;> omega
      refine ⟨⟨by omega, by show ((k : Int) : Int) ≤ ((s.drop pos).length : Int); omega⟩, ?_⟩
      refine ⟨_, (add_ok s pos 0 1 0 ((k : Int)) ((s.drop pos).take ((k : Int)).toNat) [] (by simp at hn ⊢ <;> omega)).mono (fun _ h hh => show h = LH s ((pos + k : Nat) : Int) 0 [Tk.mk 1 0 ((s.drop pos).take k) pos] by rw [hh, e1, et] <;> rfl), ?_⟩
      rintro _ _ rfl
      refine ⟨rfl, rfl, rfl, rfl, rfl, rfl, ?_⟩
      refine splitB.mk (fun h36 => ?_) (fun h36 => ?_)
      · have hq : pos + k = s.length := by have q := eq_of_beq h36; omega
        have hH : inlH s pos [] = LH s ((pos + k : Nat) : Int) 0 [Tk.mk 1 0 ((s.drop pos).take k) pos] := by unfold inlH; rw [hP, if_pos hq, hT]
        exact ⟨[0, 1], .junk, LH s ((pos + k : Nat) : Int) 0 [Tk.mk 1 0 ((s.drop pos).take k) pos], by simp, (show 1 ≤ 2 by decide), .junk _, ⟨⟨fun _ => ⟨rfl, rfl⟩, rfl, rfl, rfl, fun i hi => by obtain rfl : i = 0 := (by omega); exact ⟨.str_eq rfl, .int_eq rfl, .own_eq rfl ⟨_, _, _, _, rfl⟩ ⟨_, _, _, _, rfl⟩ rfl rfl, .int_eq rfl, trivial⟩⟩, ⟨fun h => absurd (show 1 < 1 from h) (by decide), rfl, rfl, rfl, fun i hi => ⟨.int_eq rfl, .int_eq rfl, .str_eq rfl, .int_eq rfl, trivial⟩⟩, trivial⟩, by rw [hH]⟩
      · have hq : ¬ pos + k = s.length := by have q := ne_of_beq_false h36; omega
        have cp := hasPrefix_ok (s.drop (pos + k)) [60, 63, 61] []
        obtain ⟨b, hb⟩ : ∃ b, Lib.hasPrefix (s.drop (pos + k)) [60, 63, 61] = b := ⟨_, rfl⟩
        rw [hb] at cp
        refine .quiet ⟨rfl, rfl, rfl, rfl, rfl, rfl, ⟨by omega, by omega⟩, [.str (s.drop (pos + k)), .str [60, 63, 61]], .bool b, ⟨.str_eq rfl, .str_eq rfl, trivial⟩, rfl, cp.mono (fun _ _ h => h.1), ?_⟩
        cases b
        · refine splitB.mk (fun h => absurd h (by decide)) (fun _ => ?_)
          have hH : inlH s pos [] = LH s ((pos + k + 2 : Nat) : Int) 0 [Tk.mk 1 0 ((s.drop pos).take k) pos] := by unfold inlH; rw [hP, if_neg hq, hb, hT] <;> rfl
          have e2 : IntKind.i64.wrap (((pos + k : Nat) : Int) + 2) = ((pos + k + 2 : Nat) : Int) := by rw [w64] <;> omega
          refine ⟨rfl, rfl, rfl, rfl, rfl, rfl, ?_⟩
          exact ⟨[0, 1], .junk, LH s ((pos + k + 2 : Nat) : Int) 0 [Tk.mk 1 0 ((s.drop pos).take k) pos], by simp, (show 1 ≤ 2 by decide), .junk _, ⟨⟨fun _ => ⟨rfl, rfl⟩, rfl, rfl, rfl, fun i hi => by obtain rfl : i = 0 := (by omega); exact ⟨.str_eq rfl, .int_eq e2, .own_eq rfl ⟨_, _, _, _, rfl⟩ ⟨_, _, _, _, rfl⟩ rfl rfl, .int_eq rfl, trivial⟩⟩, ⟨fun h => absurd (show 1 < 1 from h) (by decide), rfl, rfl, rfl, fun i hi => ⟨.int_eq rfl, .int_eq rfl, .str_eq rfl, .int_eq rfl, trivial⟩⟩, trivial⟩, by rw [hH]⟩
        · refine splitB.mk (fun _ => ?_) (fun h => absurd h (by decide))
          have hH : inlH s pos [] = LH s ((pos + k + 3 : Nat) : Int) 0 [Tk.mk 1 0 ((s.drop pos).take k) pos, Tk.mk 3 0 echo ((pos + k : Nat) : Int)] := by unfold inlH; rw [hP, if_neg hq, hb, hT] <;> rfl
          have e3 : IntKind.i64.wrap (((pos + k : Nat) : Int) + 3) = ((pos + k + 3 : Nat) : Int) := by rw [w64] <;> omega
          refine ⟨_, (add_ok s ((pos + k : Nat) : Int) 0 3 0 3 echo [Tk.mk 1 0 ((s.drop pos).take k) pos] (by simp at hn ⊢ <;> omega)).mono (fun _ h hh => show h = inlH s pos [] by rw [hh, e3, hH] <;> rfl), ?_⟩
          rintro _ _ rfl
          rw [hH]
          exact ⟨[0, 1], .junk, LH s ((pos + k + 3 : Nat) : Int) 0 [Tk.mk 1 0 ((s.drop pos).take k) pos, Tk.mk 3 0 echo ((pos + k : Nat) : Int)], by simp, (show 1 ≤ 2 by decide), .junk _, ⟨⟨fun _ => ⟨rfl, rfl⟩, rfl, rfl, rfl, fun i hi => by obtain rfl : i = 0 := (by omega); exact ⟨.str_eq rfl, .int_eq rfl, .own_eq rfl ⟨_, _, _, _, rfl⟩ ⟨_, _, _, _, rfl⟩ rfl rfl, .int_eq rfl, trivial⟩⟩, ⟨fun h => absurd (show 1 < 1 from h) (by decide), rfl, rfl, rfl, fun i hi => ⟨.int_eq rfl, .int_eq rfl, .str_eq rfl, .int_eq rfl, trivial⟩⟩, trivial⟩, rfl⟩
    · refine splitB.mk (fun h => by exfalso; have q : ((k : Int) : Int) > 0 := of_decide_eq_true h; omega) (fun _ => ?_)
      have hT : inlT s pos [] = [] := by unfold inlT; rw [hk, if_neg hk0]
      have hP : inlP s pos = pos := by omega
      refine ⟨rfl, rfl, rfl, rfl, rfl, rfl, ?_⟩
      refine splitB.mk (fun h36 => ?_) (fun h36 => ?_)
      · have hq : pos = s.length := by have q := eq_of_beq h36; omega
        have hH : inlH s pos [] = LH s (pos : Int) 0 [] := by unfold inlH; rw [hP, if_pos hq, hT]
        exact ⟨[0], .junk, LH s (pos : Int) 0 [], by simp, (show 1 ≤ 1 by decide), .junk _, ⟨⟨fun _ => ⟨rfl, rfl⟩, rfl, rfl, rfl, fun i hi => by obtain rfl : i = 0 := (by omega); exact ⟨.str_eq rfl, .int_eq rfl, .nils, .int_eq rfl, trivial⟩⟩, trivial⟩, by rw [hH]⟩
      · have hq : ¬ pos = s.length := by have q := ne_of_beq_false h36; omega
        have cp := hasPrefix_ok (s.drop (pos)) [60, 63, 61] []
        obtain ⟨b, hb⟩ : ∃ b, Lib.hasPrefix (s.drop (pos)) [60, 63, 61] = b := ⟨_, rfl⟩
        rw [hb] at cp
        refine .quiet ⟨rfl, rfl, rfl, rfl, rfl, rfl, ⟨by omega, by omega⟩, [.str (s.drop (pos)), .str [60, 63, 61]], .bool b, ⟨.str_eq rfl, .str_eq rfl, trivial⟩, rfl, cp.mono (fun _ _ h => h.1), ?_⟩
        cases b
        · refine splitB.mk (fun h => absurd h (by decide)) (fun _ => ?_)
          have hH : inlH s pos [] = LH s ((pos + 2 : Nat) : Int) 0 [] := by unfold inlH; rw [hP, if_neg hq, hb, hT] <;> rfl
          have e2 : IntKind.i64.wrap ((pos : Int) + 2) = ((pos + 2 : Nat) : Int) := by rw [w64] <;> omega
          refine ⟨rfl, rfl, rfl, rfl, rfl, rfl, ?_⟩
          exact ⟨[0], .junk, LH s ((pos + 2 : Nat) : Int) 0 [], by simp, (show 1 ≤ 1 by decide), .junk _, ⟨⟨fun _ => ⟨rfl, rfl⟩, rfl, rfl, rfl, fun i hi => by obtain rfl : i = 0 := (by omega); exact ⟨.str_eq rfl, .int_eq e2, .nils, .int_eq rfl, trivial⟩⟩, trivial⟩, by rw [hH]⟩
        · refine splitB.mk (fun _ => ?_) (fun h => absurd h (by decide))
          have hH : inlH s pos [] = LH s ((pos + 3 : Nat) : Int) 0 [Tk.mk 3 0 echo (pos : Int)] := by unfold inlH; rw [hP, if_neg hq, hb, hT] <;> rfl
          have e3 : IntKind.i64.wrap ((pos : Int) + 3) = ((pos + 3 : Nat) : Int) := by rw [w64] <;> omega
          refine ⟨_, (add_ok s (pos : Int) 0 3 0 3 echo [] (by simp at hn ⊢ <;> omega)).mono (fun _ h hh => show h = inlH s pos [] by rw [hh, e3, hH] <;> rfl), ?_⟩
          rintro _ _ rfl
          rw [hH]
          exact ⟨[0, 1], .junk, LH s ((pos + 3 : Nat) : Int) 0 [Tk.mk 3 0 echo (pos : Int)], by simp, (show 1 ≤ 2 by decide), .junk _, ⟨⟨fun _ => ⟨rfl, rfl⟩, rfl, rfl, rfl, fun i hi => by obtain rfl : i = 0 := (by omega); exact ⟨.str_eq rfl, .int_eq rfl, .own_eq rfl ⟨_, _, _, _, rfl⟩ ⟨_, _, _, _, rfl⟩ rfl rfl, .int_eq rfl, trivial⟩⟩, ⟨fun h => absurd (show 1 < 1 from h) (by decide), rfl, rfl, rfl, fun i hi => ⟨.int_eq rfl, .int_eq rfl, .str_eq rfl, .int_eq rfl, trivial⟩⟩, trivial⟩, rfl⟩

theorem inlCons (s : List UInt8) (pos : Nat) (t : Tk) (ts : List Tk) (hn : ((t :: ts) : List Tk).length ≤ 900000) (hp : pos ≤ s.length) (hs : s.length ≤ 100000) :
    ACall Tryd.prog 32 [.optr 0 0 0 0] (LH s pos 0 (t :: ts)) (fun _ h => h = inlH s pos (t :: ts)) := by
  obtain ⟨k, hk⟩ : ∃ k, ink (s.drop pos) = k := ⟨_, rfl⟩
  have hix := index_ink (s.drop pos)
  have hkl := ink_le (s.drop pos)
  have hdl : (s.drop pos).length = s.length - pos := by simp
  have hP : inlP s pos = pos + k := by unfold inlP; rw [hk]
  rw [hk] at hix hkl
  refine ACall.of_vc tabL_ok mixed Tryd.func32 rfl (by kernel_rfl) _ _ _ rfl (by kernel_rfl) ?_
  refine ⟨rfl, rfl, rfl, rfl, rfl, rfl, ⟨by omega, by omega⟩, ?_⟩
  refine ⟨_, index_ok (s.drop pos) [60, 63] (by omega) _, ?_⟩
  rintro _ _ ⟨rfl, rfl⟩
  rcases hix with ⟨h1, h2⟩ | ⟨h1, h2⟩
  · rw [h1]
    refine splitB.mk (fun _ => ?_) (fun h => absurd h (by decide))
    by_cases hk0 : 0 < k
    · refine splitB.mk (fun _ => ?_) (fun h => by exfalso; have q : ¬ (((s.drop pos).length : Int) : Int) > 0 := of_decide_eq_false h; omega)
      have hT : inlT s pos (t :: ts) = (t :: ts ++ [Tk.mk 1 0 ((s.drop pos).take k) pos]) := by unfold inlT; rw [hk, if_pos hk0] <;> rfl
      have e1 : IntKind.i64.wrap ((pos : Int) + ((s.drop pos).length : Int)) = ((pos + k : Nat) : Int) := by rw [w64] <;> omega
      have et : ((s.drop pos).take (((s.drop pos).length : Int)).toNat) = (s.drop pos).take k := by congr 1 <;> omega
      refine ⟨⟨by omega, by show (((s.drop pos).length : Int) : Int) ≤ ((s.drop pos).length : Int); omega⟩, ?_⟩
      refine ⟨_, (add_ok s pos 0 1 0 (((s.drop pos).length : Int)) ((s.drop pos).take (((s.drop pos).length : Int)).toNat) (t :: ts) (by simp at hn ⊢ <;> omega)).mono (fun _ h hh => show h = LH s ((pos + k : Nat) : Int) 0 (t :: ts ++ [Tk.mk 1 0 ((s.drop pos).take k) pos]) by rw [hh, e1, et] <;> rfl), ?_⟩
      rintro _ _ rfl
      refine ⟨rfl, rfl, rfl, rfl, rfl, rfl, ?_⟩
      refine splitB.mk (fun h36 => ?_) (fun h36 => ?_)
      · have hq : pos + k = s.length := by have q := eq_of_beq h36; omega
        have hH : inlH s pos (t :: ts) = LH s ((pos + k : Nat) : Int) 0 (t :: ts ++ [Tk.mk 1 0 ((s.drop pos).take k) pos]) := by unfold inlH; rw [hP, if_pos hq, hT]
        exact ⟨[0, 1], .junk, LH s ((pos + k : Nat) : Int) 0 (t :: ts ++ [Tk.mk 1 0 ((s.drop pos).take k) pos]), by simp, (show 2 ≤ 2 by decide), .junk _, ⟨⟨fun _ => ⟨rfl, rfl⟩, rfl, rfl, rfl, fun i hi => by obtain rfl : i = 0 := (by omega); exact ⟨.str_eq rfl, .int_eq rfl, .own_eq rfl ⟨_, _, _, _, rfl⟩ ⟨_, _, _, _, rfl⟩ rfl rfl, .int_eq rfl, trivial⟩⟩, ⟨fun _ => ⟨rfl, rfl⟩, rfl, rfl, rfl, fun i hi => ⟨.int_eq rfl, .int_eq rfl, .str_eq rfl, .int_eq rfl, trivial⟩⟩, trivial⟩, by rw [hH]⟩
      · have hq : ¬ pos + k = s.length := by have q := ne_of_beq_false h36; omega
        have cp := hasPrefix_ok (s.drop (pos + k)) [60, 63, 61] []
        obtain ⟨b, hb⟩ : ∃ b, Lib.hasPrefix (s.drop (pos + k)) [60, 63, 61] = b := ⟨_, rfl⟩
        rw [hb] at cp
        refine .quiet ⟨rfl, rfl, rfl, rfl, rfl, rfl, ⟨by omega, by omega⟩, [.str (s.drop (pos + k)), .str [60, 63, 61]], .bool b, ⟨.str_eq rfl, .str_eq rfl, trivial⟩, rfl, cp.mono (fun _ _ h => h.1), ?_⟩
        cases b
        · refine splitB.mk (fun h => absurd h (by decide)) (fun _ => ?_)
          have hH : inlH s pos (t :: ts) = LH s ((pos + k + 2 : Nat) : Int) 0 (t :: ts ++ [Tk.mk 1 0 ((s.drop pos).take k) pos]) := by unfold inlH; rw [hP, if_neg hq, hb, hT] <;> rfl
          have e2 : IntKind.i64.wrap (((pos + k : Nat) : Int) + 2) = ((pos + k + 2 : Nat) : Int) := by rw [w64] <;> omega
          refine ⟨rfl, rfl, rfl, rfl, rfl, rfl, ?_⟩
          exact ⟨[0, 1], .junk, LH s ((pos + k + 2 : Nat) : Int) 0 (t :: ts ++ [Tk.mk 1 0 ((s.drop pos).take k) pos]), by simp, (show 2 ≤ 2 by decide), .junk _, ⟨⟨fun _ => ⟨rfl, rfl⟩, rfl, rfl, rfl, fun i hi => by obtain rfl : i = 0 := (by omega); exact ⟨.str_eq rfl, .int_eq e2, .own_eq rfl ⟨_, _, _, _, rfl⟩ ⟨_, _, _, _, rfl⟩ rfl rfl, .int_eq rfl, trivial⟩⟩, ⟨fun _ => ⟨rfl, rfl⟩, rfl, rfl, rfl, fun i hi => ⟨.int_eq rfl, .int_eq rfl, .str_eq rfl, .int_eq rfl, trivial⟩⟩, trivial⟩, by rw [hH]⟩
        · refine splitB.mk (fun _ => ?_) (fun h => absurd h (by decide))
          have hH : inlH s pos (t :: ts) = LH s ((pos + k + 3 : Nat) : Int) 0 ((t :: ts ++ [Tk.mk 1 0 ((s.drop pos).take k) pos]) ++ [Tk.mk 3 0 echo ((pos + k : Nat) : Int)]) := by unfold inlH; rw [hP, if_neg hq, hb, hT] <;> rfl
          have e3 : IntKind.i64.wrap (((pos + k : Nat) : Int) + 3) = ((pos + k + 3 : Nat) : Int) := by rw [w64] <;> omega
          refine ⟨_, (add_ok s ((pos + k : Nat) : Int) 0 3 0 3 echo (t :: ts ++ [Tk.mk 1 0 ((s.drop pos).take k) pos]) (by simp at hn ⊢ <;> omega)).mono (fun _ h hh => show h = inlH s pos (t :: ts) by rw [hh, e3, hH] <;> rfl), ?_⟩
          rintro _ _ rfl
          rw [hH]
          exact ⟨[0, 1], .junk, LH s ((pos + k + 3 : Nat) : Int) 0 ((t :: ts ++ [Tk.mk 1 0 ((s.drop pos).take k) pos]) ++ [Tk.mk 3 0 echo ((pos + k : Nat) : Int)]), by simp, (show 2 ≤ 2 by decide), .junk _, ⟨⟨fun _ => ⟨rfl, rfl⟩, rfl, rfl, rfl, fun i hi => by obtain rfl : i = 0 := (by omega); exact ⟨.str_eq rfl, .int_eq rfl, .own_eq rfl ⟨_, _, _, _, rfl⟩ ⟨_, _, _, _, rfl⟩ rfl rfl, .int_eq rfl, trivial⟩⟩, ⟨fun _ => ⟨rfl, rfl⟩, rfl, rfl, rfl, fun i hi => ⟨.int_eq rfl, .int_eq rfl, .str_eq rfl, .int_eq rfl, trivial⟩⟩, trivial⟩, rfl⟩
    · refine splitB.mk (fun h => by exfalso; have q : (((s.drop pos).length : Int) : Int) > 0 := of_decide_eq_true h; omega) (fun _ => ?_)
      have hT : inlT s pos (t :: ts) = (t :: ts) := by unfold inlT; rw [hk, if_neg hk0]
      have hP : inlP s pos = pos := by omega
      refine ⟨rfl, rfl, rfl, rfl, rfl, rfl, ?_⟩
      refine splitB.mk (fun h36 => ?_) (fun h36 => ?_)
      · have hq : pos = s.length := by have q := eq_of_beq h36; omega
        have hH : inlH s pos (t :: ts) = LH s (pos : Int) 0 (t :: ts) := by unfold inlH; rw [hP, if_pos hq, hT]
        exact ⟨[0, 1], .junk, LH s (pos : Int) 0 (t :: ts), by simp, (show 2 ≤ 2 by decide), .junk _, ⟨⟨fun _ => ⟨rfl, rfl⟩, rfl, rfl, rfl, fun i hi => by obtain rfl : i = 0 := (by omega); exact ⟨.str_eq rfl, .int_eq rfl, .own_eq rfl ⟨_, _, _, _, rfl⟩ ⟨_, _, _, _, rfl⟩ rfl rfl, .int_eq rfl, trivial⟩⟩, ⟨fun _ => ⟨rfl, rfl⟩, rfl, rfl, rfl, fun i hi => ⟨.int_eq rfl, .int_eq rfl, .str_eq rfl, .int_eq rfl, trivial⟩⟩, trivial⟩, by rw [hH]⟩
      · have hq : ¬ pos = s.length := by have q := ne_of_beq_false h36; omega
        have cp := hasPrefix_ok (s.drop (pos)) [60, 63, 61] []
        obtain ⟨b, hb⟩ : ∃ b, Lib.hasPrefix (s.drop (pos)) [60, 63, 61] = b := ⟨_, rfl⟩
        rw [hb] at cp
        refine .quiet ⟨rfl, rfl, rfl, rfl, rfl, rfl, ⟨by omega, by omega⟩, [.str (s.drop (pos)), .str [60, 63, 61]], .bool b, ⟨.str_eq rfl, .str_eq rfl, trivial⟩, rfl, cp.mono (fun _ _ h => h.1), ?_⟩
        cases b
        · refine splitB.mk (fun h => absurd h (by decide)) (fun _ => ?_)
          have hH : inlH s pos (t :: ts) = LH s ((pos + 2 : Nat) : Int) 0 (t :: ts) := by unfold inlH; rw [hP, if_neg hq, hb, hT] <;> rfl
          have e2 : IntKind.i64.wrap ((pos : Int) + 2) = ((pos + 2 : Nat) : Int) := by rw [w64] <;> omega
          refine ⟨rfl, rfl, rfl, rfl, rfl, rfl, ?_⟩
          exact ⟨[0, 1], .junk, LH s ((pos + 2 : Nat) : Int) 0 (t :: ts), by simp, (show 2 ≤ 2 by decide), .junk _, ⟨⟨fun _ => ⟨rfl, rfl⟩, rfl, rfl, rfl, fun i hi => by obtain rfl : i = 0 := (by omega); exact ⟨.str_eq rfl, .int_eq e2, .own_eq rfl ⟨_, _, _, _, rfl⟩ ⟨_, _, _, _, rfl⟩ rfl rfl, .int_eq rfl, trivial⟩⟩, ⟨fun _ => ⟨rfl, rfl⟩, rfl, rfl, rfl, fun i hi => ⟨.int_eq rfl, .int_eq rfl, .str_eq rfl, .int_eq rfl, trivial⟩⟩, trivial⟩, by rw [hH]⟩
        · refine splitB.mk (fun _ => ?_) (fun h => absurd h (by decide))
          have hH : inlH s pos (t :: ts) = LH s ((pos + 3 : Nat) : Int) 0 ((t :: ts) ++ [Tk.mk 3 0 echo (pos : Int)]) := by unfold inlH; rw [hP, if_neg hq, hb, hT] <;> rfl
          have e3 : IntKind.i64.wrap ((pos : Int) + 3) = ((pos + 3 : Nat) : Int) := by rw [w64] <;> omega
          refine ⟨_, (add_ok s (pos : Int) 0 3 0 3 echo (t :: ts) (by simp at hn ⊢ <;> omega)).mono (fun _ h hh => show h = inlH s pos (t :: ts) by rw [hh, e3, hH] <;> rfl), ?_⟩
          rintro _ _ rfl
          rw [hH]
          exact ⟨[0, 1], .junk, LH s ((pos + 3 : Nat) : Int) 0 ((t :: ts) ++ [Tk.mk 3 0 echo (pos : Int)]), by simp, (show 2 ≤ 2 by decide), .junk _, ⟨⟨fun _ => ⟨rfl, rfl⟩, rfl, rfl, rfl, fun i hi => by obtain rfl : i = 0 := (by omega); exact ⟨.str_eq rfl, .int_eq rfl, .own_eq rfl ⟨_, _, _, _, rfl⟩ ⟨_, _, _, _, rfl⟩ rfl rfl, .int_eq rfl, trivial⟩⟩, ⟨fun _ => ⟨rfl, rfl⟩, rfl, rfl, rfl, fun i hi => ⟨.int_eq rfl, .int_eq rfl, .str_eq rfl, .int_eq rfl, trivial⟩⟩, trivial⟩, rfl⟩
  · rw [h1]
    refine splitB.mk (fun h => by exfalso; have q := of_decide_eq_true h; omega) (fun _ => ?_)
    by_cases hk0 : 0 < k
    · refine splitB.mk (fun _ => ?_) (fun h => by exfalso; have q : ¬ ((k : Int) : Int) > 0 := of_decide_eq_false h; omega)
      have hT : inlT s pos (t :: ts) = (t :: ts ++ [Tk.mk 1 0 ((s.drop pos).take k) pos]) := by unfold inlT; rw [hk, if_pos hk0] <;> rfl
      have e1 : IntKind.i64.wrap ((pos : Int) + (k : Int)) = ((pos + k : Nat) : Int) := by rw [w64] <;> omega
      have et : ((s.drop pos).take ((k : Int)).toNat) = (s.drop pos).take k := by congr 1 <;> omega
      refine ⟨⟨by omega, by show ((k : Int) : Int) ≤ ((s.drop pos).length : Int); omega⟩, ?_⟩
      refine ⟨_, (add_ok s pos 0 1 0 ((k : Int)) ((s.drop pos).take ((k : Int)).toNat) (t :: ts) (by simp at hn ⊢ <;> omega)).mono (fun _ h hh => show h = LH s ((pos + k : Nat) : Int) 0 (t :: ts ++ [Tk.mk 1 0 ((s.drop pos).take k) pos]) by rw [hh, e1, et] <;> rfl), ?_⟩
      rintro _ _ rfl
      refine ⟨rfl, rfl, rfl, rfl, rfl, rfl, ?_⟩
      refine splitB.mk (fun h36 => ?_) (fun h36 => ?_)
      · have hq : pos + k = s.length := by have q := eq_of_beq h36; omega
        have hH : inlH s pos (t :: ts) = LH s ((pos + k : Nat) : Int) 0 (t :: ts ++ [Tk.mk 1 0 ((s.drop pos).take k) pos]) := by unfold inlH; rw [hP, if_pos hq, hT]
        exact ⟨[0, 1], .junk, LH s ((pos + k : Nat) : Int) 0 (t :: ts ++ [Tk.mk 1 0 ((s.drop pos).take k) pos]), by simp, (show 2 ≤ 2 by decide), .junk _, ⟨⟨fun _ => ⟨rfl, rfl⟩, rfl, rfl, rfl, fun i hi => by obtain rfl : i = 0 := (by omega); exact ⟨.str_eq rfl, .int_eq rfl, .own_eq rfl ⟨_, _, _, _, rfl⟩ ⟨_, _, _, _, rfl⟩ rfl rfl, .int_eq rfl, trivial⟩⟩, ⟨fun _ => ⟨rfl, rfl⟩, rfl, rfl, rfl, fun i hi => ⟨.int_eq rfl, .int_eq rfl, .str_eq rfl, .int_eq rfl, trivial⟩⟩, trivial⟩, by rw [hH]⟩
      · have hq : ¬ pos + k = s.length := by have q := ne_of_beq_false h36; omega
        have cp := hasPrefix_ok (s.drop (pos + k)) [60, 63, 61] []
        obtain ⟨b, hb⟩ : ∃ b, Lib.hasPrefix (s.drop (pos + k)) [60, 63, 61] = b := ⟨_, rfl⟩
        rw [hb] at cp
        refine .quiet ⟨rfl, rfl, rfl, rfl, rfl, rfl, ⟨by omega, by omega⟩, [.str (s.drop (pos + k)), .str [60, 63, 61]], .bool b, ⟨.str_eq rfl, .str_eq rfl, trivial⟩, rfl, cp.mono (fun _ _ h => h.1), ?_⟩
        cases b
        · refine splitB.mk (fun h => absurd h (by decide)) (fun _ => ?_)
          have hH : inlH s pos (t :: ts) = LH s ((pos + k + 2 : Nat) : Int) 0 (t :: ts ++ [Tk.mk 1 0 ((s.drop pos).take k) pos]) := by unfold inlH; rw [hP, if_neg hq, hb, hT] <;> rfl
          have e2 : IntKind.i64.wrap (((pos + k : Nat) : Int) + 2) = ((pos + k + 2 : Nat) : Int) := by rw [w64] <;> omega
          refine ⟨rfl, rfl, rfl, rfl, rfl, rfl, ?_⟩
          exact ⟨[0, 1], .junk, LH s ((pos + k + 2 : Nat) : Int) 0 (t :: ts ++ [Tk.mk 1 0 ((s.drop pos).take k) pos]), by simp, (show 2 ≤ 2 by decide), .junk _, ⟨⟨fun _ => ⟨rfl, rfl⟩, rfl, rfl, rfl, fun i hi => by obtain rfl : i = 0 := (by omega); exact ⟨.str_eq rfl, .int_eq e2, .own_eq rfl ⟨_, _, _, _, rfl⟩ ⟨_, _, _, _, rfl⟩ rfl rfl, .int_eq rfl, trivial⟩⟩, ⟨fun _ => ⟨rfl, rfl⟩, rfl, rfl, rfl, fun i hi => ⟨.int_eq rfl, .int_eq rfl, .str_eq rfl, .int_eq rfl, trivial⟩⟩, trivial⟩, by rw [hH]⟩
        · refine splitB.mk (fun _ => ?_) (fun h => absurd h (by decide))
          have hH : inlH s pos (t :: ts) = LH s ((pos + k + 3 : Nat) : Int) 0 ((t :: ts ++ [Tk.mk 1 0 ((s.drop pos).take k) pos]) ++ [Tk.mk 3 0 echo ((pos + k : Nat) : Int)]) := by unfold inlH; rw [hP, if_neg hq, hb, hT] <;> rfl
          have e3 : IntKind.i64.wrap (((pos + k : Nat) : Int) + 3) = ((pos + k + 3 : Nat) : Int) := by rw [w64] <;> omega
          refine ⟨_, (add_ok s ((pos + k : Nat) : Int) 0 3 0 3 echo (t :: ts ++ [Tk.mk 1 0 ((s.drop pos).take k) pos]) (by simp at hn ⊢ <;> omega)).mono (fun _ h hh => show h = inlH s pos (t :: ts) by rw [hh, e3, hH] <;> rfl), ?_⟩
          rintro _ _ rfl
          rw [hH]
          exact ⟨[0, 1], .junk, LH s ((pos + k + 3 : Nat) : Int) 0 ((t :: ts ++ [Tk.mk 1 0 ((s.drop pos).take k) pos]) ++ [Tk.mk 3 0 echo ((pos + k : Nat) : Int)]), by simp, (show 2 ≤ 2 by decide), .junk _, ⟨⟨fun _ => ⟨rfl, rfl⟩, rfl, rfl, rfl, fun i hi => by obtain rfl : i = 0 := (by omega); exact ⟨.str_eq rfl, .int_eq rfl, .own_eq rfl ⟨_, _, _, _, rfl⟩ ⟨_, _, _, _, rfl⟩ rfl rfl, .int_eq rfl, trivial⟩⟩, ⟨fun _ => ⟨rfl, rfl⟩, rfl, rfl, rfl, fun i hi => ⟨.int_eq rfl, .int_eq rfl, .str_eq rfl, .int_eq rfl, trivial⟩⟩, trivial⟩, rfl⟩
    · refine splitB.mk (fun h => by exfalso; have q : ((k : Int) : Int) > 0 := of_decide_eq_true h; omega) (fun _ => ?_)
      have hT : inlT s pos (t :: ts) = (t :: ts) := by unfold inlT; rw [hk, if_neg hk0]
      have hP : inlP s pos = pos := by omega
      refine ⟨rfl, rfl, rfl, rfl, rfl, rfl, ?_⟩
      refine splitB.mk (fun h36 => ?_) (fun h36 => ?_)
      · have hq : pos = s.length := by have q := eq_of_beq h36; omega
        have hH : inlH s pos (t :: ts) = LH s (pos : Int) 0 (t :: ts) := by unfold inlH; rw [hP, if_pos hq, hT]
        exact ⟨[0, 1], .junk, LH s (pos : Int) 0 (t :: ts), by simp, (show 2 ≤ 2 by decide), .junk _, ⟨⟨fun _ => ⟨rfl, rfl⟩, rfl, rfl, rfl, fun i hi => by obtain rfl : i = 0 := (by omega); exact ⟨.str_eq rfl, .int_eq rfl, .own_eq rfl ⟨_, _, _, _, rfl⟩ ⟨_, _, _, _, rfl⟩ rfl rfl, .int_eq rfl, trivial⟩⟩, ⟨fun _ => ⟨rfl, rfl⟩, rfl, rfl, rfl, fun i hi => ⟨.int_eq rfl, .int_eq rfl, .str_eq rfl, .int_eq rfl, trivial⟩⟩, trivial⟩, by rw [hH]⟩
      · have hq : ¬ pos = s.length := by have q := ne_of_beq_false h36; omega
        have cp := hasPrefix_ok (s.drop (pos)) [60, 63, 61] []
        obtain ⟨b, hb⟩ : ∃ b, Lib.hasPrefix (s.drop (pos)) [60, 63, 61] = b := ⟨_, rfl⟩
        rw [hb] at cp
        refine .quiet ⟨rfl, rfl, rfl, rfl, rfl, rfl, ⟨by omega, by omega⟩, [.str (s.drop (pos)), .str [60, 63, 61]], .bool b, ⟨.str_eq rfl, .str_eq rfl, trivial⟩, rfl, cp.mono (fun _ _ h => h.1), ?_⟩
        cases b
        · refine splitB.mk (fun h => absurd h (by decide)) (fun _ => ?_)
          have hH : inlH s pos (t :: ts) = LH s ((pos + 2 : Nat) : Int) 0 (t :: ts) := by unfold inlH; rw [hP, if_neg hq, hb, hT] <;> rfl
          have e2 : IntKind.i64.wrap ((pos : Int) + 2) = ((pos + 2 : Nat) : Int) := by rw [w64] <;> omega
          refine ⟨rfl, rfl, rfl, rfl, rfl, rfl, ?_⟩
          exact ⟨[0, 1], .junk, LH s ((pos + 2 : Nat) : Int) 0 (t :: ts), by simp, (show 2 ≤ 2 by decide), .junk _, ⟨⟨fun _ => ⟨rfl, rfl⟩, rfl, rfl, rfl, fun i hi => by obtain rfl : i = 0 := (by omega); exact ⟨.str_eq rfl, .int_eq e2, .own_eq rfl ⟨_, _, _, _, rfl⟩ ⟨_, _, _, _, rfl⟩ rfl rfl, .int_eq rfl, trivial⟩⟩, ⟨fun _ => ⟨rfl, rfl⟩, rfl, rfl, rfl, fun i hi => ⟨.int_eq rfl, .int_eq rfl, .str_eq rfl, .int_eq rfl, trivial⟩⟩, trivial⟩, by rw [hH]⟩
        · refine splitB.mk (fun _ => ?_) (fun h => absurd h (by decide))
          have hH : inlH s pos (t :: ts) = LH s ((pos + 3 : Nat) : Int) 0 ((t :: ts) ++ [Tk.mk 3 0 echo (pos : Int)]) := by unfold inlH; rw [hP, if_neg hq, hb, hT] <;> rfl
          have e3 : IntKind.i64.wrap ((pos : Int) + 3) = ((pos + 3 : Nat) : Int) := by rw [w64] <;> omega
          refine ⟨_, (add_ok s (pos : Int) 0 3 0 3 echo (t :: ts) (by simp at hn ⊢ <;> omega)).mono (fun _ h hh => show h = inlH s pos (t :: ts) by rw [hh, e3, hH] <;> rfl), ?_⟩
          rintro _ _ rfl
          rw [hH]
          exact ⟨[0, 1], .junk, LH s ((pos + 3 : Nat) : Int) 0 ((t :: ts) ++ [Tk.mk 3 0 echo (pos : Int)]), by simp, (show 2 ≤ 2 by decide), .junk _, ⟨⟨fun _ => ⟨rfl, rfl⟩, rfl, rfl, rfl, fun i hi => by obtain rfl : i = 0 := (by omega); exact ⟨.str_eq rfl, .int_eq rfl, .own_eq rfl ⟨_, _, _, _, rfl⟩ ⟨_, _, _, _, rfl⟩ rfl rfl, .int_eq rfl, trivial⟩⟩, ⟨fun _ => ⟨rfl, rfl⟩, rfl, rfl, rfl, fun i hi => ⟨.int_eq rfl, .int_eq rfl, .str_eq rfl, .int_eq rfl, trivial⟩⟩, trivial⟩, rfl⟩

theorem inl_ok (s : List UInt8) (pos : Nat) (ts : List Tk) (hn : ts.length ≤ 900000) (hp : pos ≤ s.length) (hs : s.length ≤ 100000) :
    ACall Tryd.prog 32 [.optr 0 0 0 0] (LH s pos 0 ts) (fun _ h => h = inlH s pos ts) := by
  cases ts with
  | nil => exact inlNil s pos hn hp hs
  | cons t ts => exact inlCons s pos t ts hn hp hs

end Go.Am
