/- The reference: l14Token. (Printed by gen16.py.) -/
import Derived.Test.YtagfpmbccfghnaaDoorX15
set_option linter.unusedVariables false
set_option linter.unusedSimpArgs false
namespace Go.Am
open Go Go.RowKit Go.Proofs

def stN (pos n : Nat) : Option Nat → Tk × Nat × Int
  | some v => if v ≤ 1000000000 then (⟨4, v, [], pos⟩, pos + n, 0) else (⟨0, 0, [], pos⟩, pos, 4)
  | none => (⟨0, 0, [], pos⟩, pos, 4)
def stS (pos : Nat) : Option (List UInt8 × Nat) → Tk × Nat × Int
  | none => (⟨5, 0, [], pos⟩, pos, 3)
  | some (a, n) => (⟨5, 0, a, pos⟩, pos + n, 0)
def stM (pos : Nat) : Option (List UInt8) → Tk × Nat × Int
  | none => (⟨6, 0, [], pos⟩, pos, 2)
  | some m => (⟨6, 0, m, pos⟩, pos + m.length, 0)
/-- The reference's token: what it is, where it ends, a fault's code. -/
def stk (s : List UInt8) (pos : Nat) : Tk × Nat × Int :=
  if (s.getD pos 0).toNat = 36 then
    (if nameLen (s.drop (pos + 1)) = 0 then (⟨2, 0, [], pos⟩, pos, 2) else (⟨2, 0, (s.drop (pos + 1)).take (nameLen (s.drop (pos + 1))), pos⟩, pos + 1 + nameLen (s.drop (pos + 1)), 0))
  else if nst (s.getD pos 0) = true then (⟨3, 0, (s.drop pos).take (nameLen (s.drop pos)), pos⟩, pos + nameLen (s.drop pos), 0)
  else if dig (s.getD pos 0) = true then stN pos (digLen (s.drop pos)) (parseI ((s.drop pos).take (digLen (s.drop pos))))
  else if (s.getD pos 0).toNat = 39 then stS pos (strGo ((s.drop pos).drop 1) [] 1)
  else stM pos (marksI.find? fun m => Lib.hasPrefix (s.drop pos) m)
def stV (x : Tk × Nat × Int) : PV := .tup [.agg x.1.cells, .int .i64 x.2.1, .int .i64 x.2.2]
theorem cut_eq (s : List UInt8) (a n : Nat) : (s.take (a + n)).drop a = (s.drop a).take n := by rw [List.drop_take]; congr 1; omega
theorem l14Token_ok (s : List UInt8) (pos : Nat) (hp : pos < s.length) (hs : s.length ≤ 100000) : ACall Tryd.prog 31 [.str s, .int .i64 pos] [] (fun res h => res = stV (stk s pos) ∧ h = []) := by
  have e1 : IntKind.i64.wrap ((pos : Int) + 1) = ((pos + 1 : Nat) : Int) := by rw [w64] <;> omega
  refine ACall.of_vc tabL_ok mixed Tryd.func31 rfl (by kernel_rfl) _ _ _ rfl (by kernel_rfl) ?_
  refine ⟨rfl, ?_⟩
  refine ⟨⟨by omega, by omega⟩, ?_⟩
  refine splitB.mk (fun h14 => ?_) (fun h14 => ?_)
  · have h14 : (s.getD pos 0).toNat = 36 := eqT _ 36 h14
    obtain ⟨n, hn⟩ : ∃ n, nameLen (s.drop (pos + 1)) = n := ⟨_, rfl⟩
    have hnl : n ≤ s.length - (pos + 1) := by rw [← hn]; have q := cnt_le pName (s.drop (pos + 1)) 0; simp only [List.length_drop] at q; exact q
    have hT : stk s pos = (if n = 0 then (⟨2, 0, [], pos⟩, pos, 2) else (⟨2, 0, (s.drop (pos + 1)).take n, pos⟩, pos + 1 + n, 0)) := by unfold stk; rw [if_pos h14, hn]
    have cn := l14Name_ok s (pos + 1) (by omega) (by omega)
    rw [hn, ← e1] at cn
    refine ⟨_, cn.frame0 _ rfl (fun _ => rfl), ?_⟩
    rintro _ _ ⟨rfl, rfl⟩
    refine ⟨rfl, rfl, ?_⟩
    refine ⟨⟨by omega, by rw [e1]; omega, by omega⟩, ?_⟩
    refine ⟨rfl, rfl, ?_⟩
    refine ⟨rfl, rfl, ?_⟩
    have et : (s.take ((pos + 1 + n : Nat) : Int).toNat).drop (IntKind.i64.wrap ((pos : Int) + 1)).toNat = (s.drop (pos + 1)).take n := by rw [e1]; exact cut_eq s (pos + 1) n
    refine splitB.mk (fun h32 => ?_) (fun h32 => ?_)
    · have h32 : (s.take ((pos + 1 + n : Nat) : Int).toNat).drop (IntKind.i64.wrap ((pos : Int) + 1)).toNat = [] := eq_of_beq h32
      have hz : n = 0 := by rw [et] at h32; have q := congrArg List.length h32; simp only [List.length_take, List.length_drop, List.length_nil] at q; omega
      rw [if_pos hz] at hT
      refine ⟨rfl, rfl, ?_⟩
      refine ⟨rfl, ?_⟩; exact ⟨[], stV (⟨2, 0, [], pos⟩, pos, 2), [], by simp, Nat.zero_le _, .tup_l ⟨.agg_l ⟨.int_eq rfl, .int_eq rfl, .str_eq h32, .int_eq rfl, trivial⟩, .int_eq rfl, .int_eq rfl, trivial⟩, trivial, by rw [hT], rfl⟩
    · have h32 : ¬ (s.take ((pos + 1 + n : Nat) : Int).toNat).drop (IntKind.i64.wrap ((pos : Int) + 1)).toNat = [] := ne_of_beq_false h32
      have hz : ¬ n = 0 := by rw [et] at h32; intro hz; rw [hz] at h32; exact h32 rfl
      rw [if_neg hz] at hT
      refine ⟨rfl, rfl, ?_⟩
      refine ⟨rfl, ?_⟩; exact ⟨[], stV (⟨2, 0, (s.drop (pos + 1)).take n, pos⟩, pos + 1 + n, 0), [], by simp, Nat.zero_le _, .tup_l ⟨.agg_l ⟨.int_eq rfl, .int_eq rfl, .str_eq et, .int_eq rfl, trivial⟩, .int_eq rfl, .int_eq rfl, trivial⟩, trivial, by rw [hT], rfl⟩
  · have h14 : ¬ (s.getD pos 0).toNat = 36 := eqF _ 36 h14
    refine ⟨⟨by omega, by omega⟩, ?_⟩
    refine ⟨_, (l14Letter_ok _).frame0 _ rfl (fun _ => rfl), ?_⟩
    rintro _ _ ⟨rfl, rfl⟩
    refine splitB.mk (fun h37 => ?_) (fun h37 => ?_)
    · have h37 : nst (s.getD pos 0) = true := h37
      obtain ⟨n, hn⟩ : ∃ n, nameLen (s.drop pos) = n := ⟨_, rfl⟩
      have hnl : n ≤ s.length - pos := by rw [← hn]; have q := cnt_le pName (s.drop pos) 0; simp only [List.length_drop] at q; exact q
      have hT : stk s pos = (⟨3, 0, (s.drop pos).take n, pos⟩, pos + n, 0) := by unfold stk; rw [if_neg h14, if_pos h37, hn]
      have cn := l14Name_ok s pos (by omega) (by omega)
      rw [hn] at cn
      refine ⟨_, cn.frame0 _ rfl (fun _ => rfl), ?_⟩
      rintro _ _ ⟨rfl, rfl⟩
      refine ⟨rfl, rfl, ?_⟩
      refine ⟨⟨by omega, by omega, by omega⟩, ?_⟩
      refine ⟨rfl, rfl, ?_⟩
      refine ⟨rfl, rfl, ?_⟩
      refine ⟨rfl, ?_⟩; exact ⟨[], stV (⟨3, 0, (s.drop pos).take n, pos⟩, pos + n, 0), [], by simp, Nat.zero_le _, .tup_l ⟨.agg_l ⟨.int_eq rfl, .int_eq rfl, .str_eq (cut_eq s pos n), .int_eq rfl, trivial⟩, .int_eq rfl, .int_eq rfl, trivial⟩, trivial, by rw [hT], rfl⟩
    · have h37 : ¬ nst (s.getD pos 0) = true := by rw [show nst (s.getD pos 0) = false from h37]; decide
      refine ⟨⟨by omega, by omega⟩, ?_⟩
      refine ⟨_, (l14Digit_ok _).frame0 _ rfl (fun _ => rfl), ?_⟩
      rintro _ _ ⟨rfl, rfl⟩
      refine splitB.mk (fun h53 => ?_) (fun h53 => ?_)
      · have h53 : dig (s.getD pos 0) = true := h53
        have hT : stk s pos = stN pos (digLen (s.drop pos)) (parseI ((s.drop pos).take (digLen (s.drop pos)))) := by unfold stk; rw [if_neg h14, if_neg h37, if_pos h53]
        have hdle : digLen (s.drop pos) ≤ (s.drop pos).length := cnt_le _ _ 0
        have hdl : (s.drop pos).length = s.length - pos := by simp
        refine LoopVC.mk Nat (fun k => [(0, .str s), (1, .int .i64 pos), (4, .optr 0 0 0 0), (7, .optr 1 0 0 0), (8, .int .i64 ((pos + k : Nat) : Int))]) (fun k => [.row 0 4 1 33 (fun _ => zTok), .row 0 4 1 33 (fun _ => [.int .i64 0, .int .i64 0, .str [], .int .i64 pos])]) (fun k => k ≤ digLen (s.drop pos)) (fun k => digLen (s.drop pos) - k) 0 (Nat.zero_le _) ?_ (fun k hk => ?_)
        · exact ⟨[0, 1], by simp, Nat.zero_le _, ⟨.str_eq rfl, .int_eq rfl, .optr_eq rfl ⟨_, _, _, _, rfl⟩ ⟨_, _, _, _, rfl⟩ rfl rfl, .optr_eq rfl ⟨_, _, _, _, rfl⟩ ⟨_, _, _, _, rfl⟩ rfl rfl, .int_eq rfl, trivial⟩, ⟨⟨fun h => absurd h (Nat.not_lt_zero _), rfl, rfl, rfl, fun i hi => by obtain rfl : i = 0 := (by omega); exact ⟨.int_eq rfl, .int_eq rfl, .str_eq rfl, .int_eq rfl, trivial⟩⟩, ⟨fun h => absurd h (Nat.not_lt_zero _), rfl, rfl, rfl, fun i hi => by obtain rfl : i = 0 := (by omega); exact ⟨.int_eq rfl, .int_eq rfl, .str_eq rfl, .int_eq rfl, trivial⟩⟩, trivial⟩⟩
        · have hc := cnt_lt (fun _ c => dig c) (s.drop pos) 0 k hk
          obtain ⟨b2, hb2⟩ : ∃ b2, dig ((s.drop pos).getD k 0) = b2 := ⟨_, rfl⟩
          have cd2 := l14Digit_ok (s.getD (pos + k) 0)
          rw [show dig (s.getD (pos + k) 0) = b2 by rw [← getD_drop]; exact hb2] at cd2
          refine splitB.mk (fun h62 => ?_) (fun h62 => ?_)
          · have h62 : k < (s.drop pos).length := by have q := of_decide_eq_true h62; omega
            iterate 2 refine splitB.mk (fun _ => ?_) (fun h => absurd h (by decide))
            refine ⟨⟨by first | omega | (simp only; omega), by first | omega | (simp only; omega)⟩, ?_⟩
            refine splitB.mk (fun _ => ?_) (fun h => absurd h (by decide))
            refine ⟨_, cd2.frame0 _ rfl (fun _ => rfl), ?_⟩
            rintro _ _ ⟨rfl, rfl⟩
            refine splitB.mk (fun _ => ?_) (fun h => absurd h (by decide))
            refine splitB.mk (fun h67 => ?_) (fun h67 => ?_)
            · have hlt : k < digLen (s.drop pos) := hc.2 ⟨h62, by show dig ((s.drop pos).getD k 0) = true; rw [hb2]; exact h67⟩
              exact ⟨k + 1, hlt, by simp only; omega, [0, 1], by simp, Nat.zero_le _, ⟨.str_eq rfl, .int_eq rfl, .optr_eq rfl ⟨_, _, _, _, rfl⟩ ⟨_, _, _, _, rfl⟩ rfl rfl, .optr_eq rfl ⟨_, _, _, _, rfl⟩ ⟨_, _, _, _, rfl⟩ rfl rfl, .int_eq (by rw [w64] <;> omega), trivial⟩, ⟨⟨fun h => absurd h (Nat.not_lt_zero _), rfl, rfl, rfl, fun i hi => by obtain rfl : i = 0 := (by omega); exact ⟨.int_eq rfl, .int_eq rfl, .str_eq rfl, .int_eq rfl, trivial⟩⟩, ⟨fun h => absurd h (Nat.not_lt_zero _), rfl, rfl, rfl, fun i hi => by obtain rfl : i = 0 := (by omega); exact ⟨.int_eq rfl, .int_eq rfl, .str_eq rfl, .int_eq rfl, trivial⟩⟩, trivial⟩⟩
            · have hns : ¬ k < digLen (s.drop pos) := fun hlt => by have hq := hc.1 hlt; first | exact h62 hq.1 | (have q2 : dig ((s.drop pos).getD k 0) = true := hq.2; rw [hb2, h67] at q2; cases q2)
              have hk2 : digLen (s.drop pos) = k := by omega
              rw [hk2] at hT
              obtain ⟨o, ho⟩ : ∃ o, parseI ((s.drop pos).take k) = o := ⟨_, rfl⟩
              have cp : ACall Tryd.prog 61 [.str ((s.take (pos + k)).drop pos)] [] (fun res h => res = piV o ∧ h = []) := by rw [← ho, ← cut_eq]; exact parseInt_ok _ (by simp only [List.length_drop, List.length_take]; omega)
              rw [ho] at hT
              refine ⟨⟨by omega, by omega, by omega⟩, ?_⟩
              cases o with
              | none =>
                refine ⟨_, cp.frame0 _ rfl (fun _ => rfl), ?_⟩
                rintro _ _ ⟨rfl, rfl⟩
                iterate 4 refine splitB.mk (fun _ => ?_) (fun h => absurd h (by decide))
                refine ⟨rfl, rfl, ?_⟩
                refine ⟨rfl, ?_⟩; exact ⟨[], stV (⟨0, 0, [], pos⟩, pos, 4), [], by simp, Nat.zero_le _, .tup_l ⟨.agg_l ⟨.int_eq rfl, .int_eq rfl, .str_eq rfl, .int_eq rfl, trivial⟩, .int_eq rfl, .int_eq rfl, trivial⟩, trivial, by rw [hT]; rfl, rfl⟩
              | some v =>
                refine ⟨_, cp.frame0 _ rfl (fun _ => rfl), ?_⟩
                rintro _ _ ⟨rfl, rfl⟩
                iterate 3 refine splitB.mk (fun h => absurd h (by decide)) (fun _ => ?_)
                refine splitB.mk (fun h83 => ?_) (fun h83 => ?_)
                · have hv : ¬ v ≤ 1000000000 := by have q : (v : Int) > 1000000000 := of_decide_eq_true h83; omega
                  refine ⟨rfl, rfl, ?_⟩
                  refine ⟨rfl, ?_⟩; exact ⟨[], stV (⟨0, 0, [], pos⟩, pos, 4), [], by simp, Nat.zero_le _, .tup_l ⟨.agg_l ⟨.int_eq rfl, .int_eq rfl, .str_eq rfl, .int_eq rfl, trivial⟩, .int_eq rfl, .int_eq rfl, trivial⟩, trivial, by rw [hT]; simp only [stN]; rw [if_neg hv], rfl⟩
                · have hv : v ≤ 1000000000 := by have q : ¬ (v : Int) > 1000000000 := of_decide_eq_false h83; omega
                  refine ⟨rfl, rfl, rfl, rfl, rfl, rfl, ?_⟩
                  refine ⟨rfl, ?_⟩; exact ⟨[], stV (⟨4, v, [], pos⟩, pos + k, 0), [], by simp, Nat.zero_le _, .tup_l ⟨.agg_l ⟨.int_eq rfl, .int_eq rfl, .str_eq rfl, .int_eq rfl, trivial⟩, .int_eq rfl, .int_eq rfl, trivial⟩, trivial, by rw [hT]; simp only [stN]; rw [if_pos hv], rfl⟩
          · have h62 : ¬ k < (s.drop pos).length := by have q := of_decide_eq_false h62; omega
            iterate 5 refine splitB.mk (fun h => absurd h (by decide)) (fun _ => ?_)
            have hns : ¬ k < digLen (s.drop pos) := fun hlt => by have hq := hc.1 hlt; first | exact h62 hq.1 | (have q2 : dig ((s.drop pos).getD k 0) = true := hq.2; rw [hb2, h67] at q2; cases q2)
            have hk2 : digLen (s.drop pos) = k := by omega
            rw [hk2] at hT
            obtain ⟨o, ho⟩ : ∃ o, parseI ((s.drop pos).take k) = o := ⟨_, rfl⟩
            have cp : ACall Tryd.prog 61 [.str ((s.take (pos + k)).drop pos)] [] (fun res h => res = piV o ∧ h = []) := by rw [← ho, ← cut_eq]; exact parseInt_ok _ (by simp only [List.length_drop, List.length_take]; omega)
            rw [ho] at hT
            refine ⟨⟨by omega, by omega, by omega⟩, ?_⟩
            cases o with
            | none =>
              refine ⟨_, cp.frame0 _ rfl (fun _ => rfl), ?_⟩
              rintro _ _ ⟨rfl, rfl⟩
              iterate 4 refine splitB.mk (fun _ => ?_) (fun h => absurd h (by decide))
              refine ⟨rfl, rfl, ?_⟩
              refine ⟨rfl, ?_⟩; exact ⟨[], stV (⟨0, 0, [], pos⟩, pos, 4), [], by simp, Nat.zero_le _, .tup_l ⟨.agg_l ⟨.int_eq rfl, .int_eq rfl, .str_eq rfl, .int_eq rfl, trivial⟩, .int_eq rfl, .int_eq rfl, trivial⟩, trivial, by rw [hT]; rfl, rfl⟩
            | some v =>
              refine ⟨_, cp.frame0 _ rfl (fun _ => rfl), ?_⟩
              rintro _ _ ⟨rfl, rfl⟩
              iterate 3 refine splitB.mk (fun h => absurd h (by decide)) (fun _ => ?_)
              refine splitB.mk (fun h83 => ?_) (fun h83 => ?_)
              · have hv : ¬ v ≤ 1000000000 := by have q : (v : Int) > 1000000000 := of_decide_eq_true h83; omega
                refine ⟨rfl, rfl, ?_⟩
                refine ⟨rfl, ?_⟩; exact ⟨[], stV (⟨0, 0, [], pos⟩, pos, 4), [], by simp, Nat.zero_le _, .tup_l ⟨.agg_l ⟨.int_eq rfl, .int_eq rfl, .str_eq rfl, .int_eq rfl, trivial⟩, .int_eq rfl, .int_eq rfl, trivial⟩, trivial, by rw [hT]; simp only [stN]; rw [if_neg hv], rfl⟩
              · have hv : v ≤ 1000000000 := by have q : ¬ (v : Int) > 1000000000 := of_decide_eq_false h83; omega
                refine ⟨rfl, rfl, rfl, rfl, rfl, rfl, ?_⟩
                refine ⟨rfl, ?_⟩; exact ⟨[], stV (⟨4, v, [], pos⟩, pos + k, 0), [], by simp, Nat.zero_le _, .tup_l ⟨.agg_l ⟨.int_eq rfl, .int_eq rfl, .str_eq rfl, .int_eq rfl, trivial⟩, .int_eq rfl, .int_eq rfl, trivial⟩, trivial, by rw [hT]; simp only [stN]; rw [if_pos hv], rfl⟩
      · have h53 : ¬ dig (s.getD pos 0) = true := by rw [show dig (s.getD pos 0) = false from h53]; decide
        refine ⟨⟨by omega, by omega⟩, ?_⟩
        refine splitB.mk (fun h91 => ?_) (fun h91 => ?_)
        · have h91 : (s.getD pos 0).toNat = 39 := eqT _ 39 h91
          have hT : stk s pos = stS pos (strGo ((s.drop pos).drop 1) [] 1) := by unfold stk; rw [if_neg h14, if_neg h37, if_neg h53, if_pos h91]
          have cs := l14String_ok s pos hp (by omega)
          obtain ⟨R, hR⟩ : ∃ R, strGo ((s.drop pos).drop 1) [] 1 = R := ⟨_, rfl⟩
          rw [hR] at cs hT
          refine ⟨rfl, rfl, ?_⟩
          cases R with
          | none =>
            refine ⟨_, cs.frame0 _ rfl (fun _ => rfl), ?_⟩
            rintro _ _ ⟨rfl, rfl⟩
            refine ⟨rfl, rfl, ?_⟩
            refine splitB.mk (fun _ => ?_) (fun h => absurd h (by decide))
            refine ⟨rfl, rfl, ?_⟩
            refine ⟨rfl, ?_⟩; exact ⟨[], stV (⟨5, 0, [], pos⟩, pos, 3), [], by simp, Nat.zero_le _, .tup_l ⟨.agg_l ⟨.int_eq rfl, .int_eq rfl, .str_eq rfl, .int_eq rfl, trivial⟩, .int_eq rfl, .int_eq rfl, trivial⟩, trivial, by rw [hT] <;> rfl, rfl⟩
          | some q =>
            obtain ⟨a, n⟩ := q
            refine ⟨_, cs.frame0 _ rfl (fun _ => rfl), ?_⟩
            rintro _ _ ⟨rfl, rfl⟩
            refine ⟨rfl, rfl, ?_⟩
            refine splitB.mk (fun h => by exfalso; have q : ((pos + n : Nat) : Int) < 0 := of_decide_eq_true h; omega) (fun _ => ?_)
            refine ⟨rfl, rfl, ?_⟩
            refine ⟨rfl, ?_⟩; exact ⟨[], stV (⟨5, 0, a, pos⟩, pos + n, 0), [], by simp, Nat.zero_le _, .tup_l ⟨.agg_l ⟨.int_eq rfl, .int_eq rfl, .str_eq rfl, .int_eq rfl, trivial⟩, .int_eq rfl, .int_eq rfl, trivial⟩, trivial, by rw [hT] <;> rfl, rfl⟩
        · have h91 : ¬ (s.getD pos 0).toNat = 39 := eqF _ 39 h91
          have hT : stk s pos = stM pos (marksI.find? fun m => Lib.hasPrefix (s.drop pos) m) := by unfold stk; rw [if_neg h14, if_neg h37, if_neg h53, if_neg h91]
          have cs := l14Mark_ok s pos hp (by omega)
          cases hR : (marksI.find? fun m => Lib.hasPrefix (s.drop pos) m) with
          | none =>
            rw [hR] at cs hT
            refine ⟨rfl, rfl, ?_⟩
            refine ⟨_, cs.frame0 _ rfl (fun _ => rfl), ?_⟩
            rintro _ _ ⟨rfl, rfl⟩
            refine ⟨rfl, rfl, ?_⟩
            refine ⟨rfl, rfl, ?_⟩
            refine splitB.mk (fun _ => ?_) (fun h => absurd h (by decide))
            refine ⟨rfl, rfl, ?_⟩
            refine ⟨rfl, ?_⟩; exact ⟨[], stV (⟨6, 0, [], pos⟩, pos, 2), [], by simp, Nat.zero_le _, .tup_l ⟨.agg_l ⟨.int_eq rfl, .int_eq rfl, .str_eq rfl, .int_eq rfl, trivial⟩, .int_eq rfl, .int_eq rfl, trivial⟩, trivial, by rw [hT] <;> rfl, rfl⟩
          | some m =>
            have hm := marks_len m (List.mem_of_find?_eq_some hR)
            rw [hR] at cs hT
            refine ⟨rfl, rfl, ?_⟩
            refine ⟨_, cs.frame0 _ rfl (fun _ => rfl), ?_⟩
            rintro _ _ ⟨rfl, rfl⟩
            refine ⟨rfl, rfl, ?_⟩
            refine ⟨rfl, rfl, ?_⟩
            refine splitB.mk (fun h => by exfalso; have q : m = [] := eq_of_beq h; rw [q] at hm; exact absurd hm.1 (by decide)) (fun _ => ?_)
            refine .float [(0, true), (1, true), (2, true), (3, true), (4, true), (5, true), (6, false), (7, true), (8, true)] (by kernel_rfl) ?_
            repeat refine ⟨rfl, ?_⟩
            exact ⟨[], stV (⟨6, 0, m, pos⟩, pos + m.length, 0), [], by simp, Nat.zero_le _, .tup_l ⟨.agg_l ⟨.int_eq rfl, .int_eq rfl, .str_eq rfl, .int_eq rfl, trivial⟩, .int_eq (show IntKind.i64.wrap ((pos : Int) + (m.length : Int)) = ((pos + m.length : Nat) : Int) by rw [w64] <;> omega), .int_eq rfl, trivial⟩, trivial, by rw [hT] <;> rfl, rfl⟩

end Go.Am
