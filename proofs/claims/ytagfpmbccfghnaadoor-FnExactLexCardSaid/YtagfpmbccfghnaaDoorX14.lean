/- The reference: FormatInt and ParseInt. (Printed by gen14.py.) -/
import Derived.Test.YtagfpmbccfghnaaDoorX13
set_option linter.unusedVariables false
set_option linter.unusedSimpArgs false
namespace Go.Am
open Go Go.RowKit Go.Proofs

theorem nDig_le : ∀ (k u : Nat), u < 10 ^ (k + 1) → Lib.nDigits u ≤ k + 1
  | 0, u, h => by rw [Lib.nDigits_small (by simpa using h)]; exact Nat.le_refl _
  | k + 1, u, h => by
    by_cases h1 : u < 10
    · rw [Lib.nDigits_small h1]; omega
    · rw [Lib.nDigits_big h1]
      have := nDig_le k (u / 10) (by rw [Nat.pow_succ] at h; omega)
      omega
theorem decDigits_step (u : Nat) : Lib.decDigits u = (if u / 10 = 0 then [] else Lib.decDigits (u / 10)) ++ [UInt8.ofNat (48 + u % 10)] := by
  by_cases h : u < 10
  · rw [if_pos (by omega), Lib.decDigits, dif_pos h, show u % 10 = u by omega]; rfl
  · rw [if_neg (by omega)]
    conv => lhs; rw [Lib.decDigits, dif_neg h]
/-- The reference's numeral is strconv's. -/
theorem formatInt_ok (n : Int) (hn0 : -9223372036854775808 ≤ n) (hn1 : n ≤ 9223372036854775807) : ACall Tryd.prog 94 [.int .i64 n] [] (fun res h => res = .str (Lib.itoa n) ∧ h = []) := by
  refine ACall.of_vc tabL_ok mixed Tryd.func94 rfl (by kernel_rfl) _ _ _ rfl (by kernel_rfl) ?_
  refine splitB.mk (fun h7 => ?_) (fun h7 => ?_)
  · have h7 : n = 0 := eq_of_beq h7
    subst h7
    exact ⟨[], .str [48], [], by simp, Nat.zero_le _, .str_eq rfl, trivial, by rw [show Lib.itoa 0 = [48] by decide +kernel], rfl⟩
  · have h7 : n ≠ 0 := ne_of_beq_false h7
    have hL : (Lib.decDigits n.natAbs).length ≤ 20 := by rw [Lib.decDigits_length]; exact nDig_le 19 _ (by simp only [Nat.reduceAdd, Nat.reducePow]; omega)
    refine LoopVC.mk (List UInt8 × Int) (fun x => [(0, .int .i64 n), (3, .str x.1), (4, .int .i64 x.2)]) (fun x => [])
      (fun x => (if x.2 = 0 then [] else Lib.decDigits x.2.natAbs) ++ x.1 = Lib.decDigits n.natAbs ∧ -9223372036854775808 ≤ x.2 ∧ x.2 ≤ 9223372036854775807) (fun x => x.2.natAbs) ([], n) ⟨by simp only; rw [if_neg h7, List.append_nil], hn0, hn1⟩ ?_ (fun x hx => ?_)
    · exact ⟨[], by simp, Nat.zero_le _, ⟨.int_eq rfl, .str_eq rfl, .int_eq rfl, trivial⟩, trivial⟩
    · obtain ⟨out, m⟩ := x
      obtain ⟨hd, hm0, hm1⟩ := hx
      simp only at hd hm0 hm1
      have hol : out.length ≤ 20 := by have q := congrArg List.length hd; simp only [List.length_append] at q; omega
      refine splitB.mk (fun h10 => ?_) (fun h10 => ?_)
      · have h10 : m ≠ 0 := by simpa using h10
        rw [if_neg h10] at hd
        have ab : (m.tmod 10).natAbs = m.natAbs % 10 := Int.natAbs_tmod m 10
        have ad : (m.tdiv 10).natAbs = m.natAbs / 10 := Int.natAbs_tdiv m 10
        have dv : IntKind.i64.wrap (m.tdiv 10) = m.tdiv 10 := by rw [w64] <;> omega
        have next : (if m.tdiv 10 = 0 then [] else Lib.decDigits (m.tdiv 10).natAbs) ++ (UInt8.ofNat (48 + m.natAbs % 10) :: out) = Lib.decDigits n.natAbs := by
          rw [← hd, decDigits_step m.natAbs, ad, List.append_assoc]
          by_cases h : m.tdiv 10 = 0
          · rw [if_pos h, if_pos (by omega)]; rfl
          · rw [if_neg h, if_neg (by omega)]; rfl
        refine ⟨by decide, ?_⟩
        have fin : ∀ d : Int, d = ((m.natAbs % 10 : Nat) : Int) → byteOf [.int .u8 (IntKind.u8.wrap (IntKind.i64.wrap (48 + d)))] = UInt8.ofNat (48 + m.natAbs % 10) := fun d hd => by
          subst hd
          rw [w64 (by omega) (by omega), IntKind.wrap_u8]
          show UInt8.ofNat _ = _
          congr 1
          omega
        refine splitB.mk (fun h16 => ?_) (fun h16 => ?_)
        · have h16 : m.tmod 10 < 0 := of_decide_eq_true h16
          have f := fin (IntKind.i64.wrap (0 - m.tmod 10)) (by rw [w64] <;> omega)
          refine ⟨rfl, fun i hi => by obtain rfl : i = 0 := (by omega); rfl, ?_⟩
          refine ⟨by show 1 + out.length ≤ 4611686018427387904; omega, ?_⟩
          refine ⟨by decide, ?_⟩
          exact ⟨(UInt8.ofNat (48 + m.natAbs % 10) :: out, m.tdiv 10), ⟨next, by simp only; omega, by simp only; omega⟩, by simp only; omega, [], by simp, Nat.zero_le _, ⟨.int_eq rfl, .str_eq (by rw [← f]; rfl), .int_eq dv, trivial⟩, trivial⟩
        · have h16 : ¬ m.tmod 10 < 0 := of_decide_eq_false h16
          have f := fin (m.tmod 10) (by omega)
          refine ⟨rfl, fun i hi => by obtain rfl : i = 0 := (by omega); rfl, ?_⟩
          refine ⟨by show 1 + out.length ≤ 4611686018427387904; omega, ?_⟩
          refine ⟨by decide, ?_⟩
          exact ⟨(UInt8.ofNat (48 + m.natAbs % 10) :: out, m.tdiv 10), ⟨next, by simp only; omega, by simp only; omega⟩, by simp only; omega, [], by simp, Nat.zero_le _, ⟨.int_eq rfl, .str_eq (by rw [← f]; rfl), .int_eq dv, trivial⟩, trivial⟩
      · have h10 : m = 0 := by simpa using h10
        rw [if_pos h10, List.nil_append] at hd
        refine splitB.mk (fun h27 => ?_) (fun h27 => ?_)
        · have h27 : n < 0 := of_decide_eq_true h27
          refine ⟨by simp only [List.length_cons, List.length_nil]; show 1 + out.length ≤ 4611686018427387904; omega, ?_⟩
          exact ⟨[], .str (45 :: out), [], by simp, Nat.zero_le _, .str_eq rfl, trivial, by unfold Lib.itoa; rw [if_pos h27, hd], rfl⟩
        · have h27 : ¬ n < 0 := of_decide_eq_false h27
          exact ⟨[], .str out, [], by simp, Nat.zero_le _, .str_eq rfl, trivial, by unfold Lib.itoa; rw [if_neg h27, hd, show n.natAbs = n.toNat by omega], rfl⟩

end Go.Am
