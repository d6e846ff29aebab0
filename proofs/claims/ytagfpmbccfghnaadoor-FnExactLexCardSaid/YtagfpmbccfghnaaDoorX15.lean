/- The reference: ParseInt. (Printed by gen15.py.) -/
import Derived.Test.YtagfpmbccfghnaaDoorX14
set_option linter.unusedVariables false
set_option linter.unusedSimpArgs false
namespace Go.Am
open Go Go.RowKit Go.Proofs

def piOf (s : List UInt8) : Option Nat → Option Nat
  | some v => if v ≤ 1000000000000 ∧ Lib.decDigits v = s then some v else none
  | none => none
def parseI (s : List UInt8) : Option Nat := if 1 ≤ s.length ∧ s.length ≤ 13 then piOf s (Lib.decFrom 0 s) else none
def piV : Option Nat → PV
  | some v => .tup [.int .i64 v, .bool true]
  | none => .tup [.int .i64 0, .bool false]
theorem decFrom_cons {v : Nat} {c : UInt8} {r : List UInt8} (h : 48 ≤ c.toNat ∧ c.toNat ≤ 57) : Lib.decFrom v (c :: r) = Lib.decFrom (v * 10 + (c.toNat - 48)) r := by
  show (match Lib.digitVal c with | some d => Lib.decFrom (v * 10 + d) r | none => none) = _
  rw [Lib.digitVal, if_pos h]
theorem decFrom_bad {v : Nat} {c : UInt8} {r : List UInt8} (h : ¬ (48 ≤ c.toNat ∧ c.toNat ≤ 57)) : Lib.decFrom v (c :: r) = none := by
  show (match Lib.digitVal c with | some d => Lib.decFrom (v * 10 + d) r | none => none) = _
  rw [Lib.digitVal, if_neg h]
theorem parseInt_ok (s : List UInt8) (hs : s.length ≤ 4611686018427387904) : ACall Tryd.prog 61 [.str s] [] (fun res h => res = piV (parseI s) ∧ h = []) := by
  refine ACall.of_vc tabL_ok mixed Tryd.func61 rfl (by kernel_rfl) _ _ _ rfl (by kernel_rfl) ?_
  refine ⟨_, (l1In_ok s.length 1 13).frame0 _ rfl (fun _ => rfl), ?_⟩
  rintro _ _ ⟨rfl, rfl⟩
  refine splitB.mk (fun h9 => ?_) (fun h9 => ?_)
  · have h9 : ¬ (1 ≤ s.length ∧ s.length ≤ 13) := by
      simp only [Bool.not_eq_true', Bool.and_eq_false_iff, decide_eq_false_iff_not] at h9
      omega
    have e : parseI s = none := by unfold parseI; rw [if_neg h9]
    exact ⟨[], .tup [.int .i64 0, .bool false], [], by simp, Nat.zero_le _, .tup_l ⟨.int_eq rfl, .bool_eq rfl, trivial⟩, trivial, by rw [e]; rfl, rfl⟩
  · have h9 : 1 ≤ s.length ∧ s.length ≤ 13 := by
      simp only [Bool.not_eq_false', Bool.and_eq_true, decide_eq_true_eq] at h9
      omega
    obtain ⟨R, hR⟩ : ∃ R, Lib.decFrom 0 s = R := ⟨_, rfl⟩
    have eP : parseI s = piOf s R := by unfold parseI; rw [if_pos h9, hR]
    rw [eP]
    refine LoopVC.mk (Nat × Nat) (fun x => [(0, .str s), (4, .int .i64 x.1), (5, .int .i64 x.2)]) (fun x => [])
      (fun x => Lib.decFrom x.1 (s.drop x.2) = R ∧ x.2 ≤ s.length ∧ x.1 < 10 ^ x.2) (fun x => s.length - x.2) (0, 0) ⟨hR, by simp, by simp⟩ ?_ (fun x hx => ?_)
    · exact ⟨[], by simp, Nat.zero_le _, ⟨.str_eq rfl, .int_eq rfl, .int_eq rfl, trivial⟩, trivial⟩
    · obtain ⟨v, i⟩ := x
      obtain ⟨hg, hi, hv⟩ := hx
      simp only at hg hi hv
      have hv13 : v < 10000000000000 := Nat.lt_of_lt_of_le hv (Nat.pow_le_pow_right (by decide) (show i ≤ 13 by omega))
      refine splitB.mk (fun h13 => ?_) (fun h13 => ?_)
      · have h13 : i < s.length := by have q := of_decide_eq_true h13; simp only at q; omega
        rw [drop_get h13] at hg
        have hc := (s.getD i 0).toNat_lt
        refine ⟨⟨by simp only; omega, by simp only; omega⟩, ?_⟩
        refine ⟨_, (l1In_ok (IntKind.i64.wrap ((s.getD i 0).toNat : Int)) 48 57).frame0 _ rfl (fun _ => rfl), ?_⟩
        rintro _ _ ⟨rfl, rfl⟩
        refine splitB.mk (fun h21 => ?_) (fun h21 => ?_)
        · have h21 : ¬ (48 ≤ (s.getD i 0).toNat ∧ (s.getD i 0).toNat ≤ 57) := by
            rw [w8] at h21
            simp only [Bool.not_eq_true', Bool.and_eq_false_iff, decide_eq_false_iff_not] at h21
            omega
          rw [decFrom_bad h21] at hg
          subst hg
          exact ⟨[], .tup [.int .i64 0, .bool false], [], by simp, Nat.zero_le _, .tup_l ⟨.int_eq rfl, .bool_eq rfl, trivial⟩, trivial, rfl, rfl⟩
        · have h21 : 48 ≤ (s.getD i 0).toNat ∧ (s.getD i 0).toNat ≤ 57 := by
            rw [w8] at h21
            simp only [Bool.not_eq_false', Bool.and_eq_true, decide_eq_true_eq] at h21
            omega
          rw [decFrom_cons h21] at hg
          refine ⟨⟨by simp only; omega, by simp only; omega⟩, ?_⟩
          have e1 : IntKind.u8.wrap (((s.getD i 0).toNat : Int) - 48) = (((s.getD i 0).toNat - 48 : Nat) : Int) := by rw [IntKind.wrap_u8]; omega
          have e2 : IntKind.i64.wrap (IntKind.i64.wrap (10 * (v : Int)) + IntKind.i64.wrap (IntKind.u8.wrap (((s.getD i 0).toNat : Int) - 48))) = ((v * 10 + ((s.getD i 0).toNat - 48) : Nat) : Int) := by
            rw [e1, w64 (x := 10 * (v : Int)) (by omega) (by omega), w64 (x := (((s.getD i 0).toNat - 48 : Nat) : Int)) (by omega) (by omega), w64 (by omega) (by omega)]
            omega
          exact ⟨(v * 10 + ((s.getD i 0).toNat - 48), i + 1), ⟨hg, by simp only; omega, by simp only; rw [Nat.pow_succ]; omega⟩, by simp only; omega, [], by simp, Nat.zero_le _, ⟨.str_eq rfl, .int_eq e2, .int_eq (by rw [w64] <;> omega), trivial⟩, trivial⟩
      · have h13 : i = s.length := by have q := of_decide_eq_false h13; simp only at q; omega
        rw [h13, List.drop_length] at hg
        have hg : some v = R := hg
        subst hg
        have cf := formatInt_ok v (by omega) (by omega)
        rw [Lib.itoa_nonneg] at cf
        refine splitB.mk (fun h32 => ?_) (fun h32 => ?_)
        · have h32 : ¬ v ≤ 1000000000000 := by have q := of_decide_eq_true h32; simp only at q; omega
          iterate 5 refine splitB.mk (fun _ => ?_) (fun h => absurd h (by decide))
          exact ⟨[], .tup [.int .i64 0, .bool false], [], by simp, Nat.zero_le _, .tup_l ⟨.int_eq rfl, .bool_eq rfl, trivial⟩, trivial, by simp only [piOf]; rw [if_neg (fun h => h32 h.1)]; rfl, rfl⟩
        · have h32 : v ≤ 1000000000000 := by have q := of_decide_eq_false h32; simp only at q; omega
          refine splitB.mk (fun h => absurd h (by decide)) (fun _ => ?_)
          refine ⟨_, cf.frame0 _ rfl (fun _ => rfl), ?_⟩
          rintro _ _ ⟨rfl, rfl⟩
          iterate 3 refine splitB.mk (fun h => absurd h (by decide)) (fun _ => ?_)
          refine splitB.mk (fun h37 => ?_) (fun h37 => ?_)
          · have h37 : ¬ Lib.decDigits v = s := by simpa using h37
            exact ⟨[], .tup [.int .i64 0, .bool false], [], by simp, Nat.zero_le _, .tup_l ⟨.int_eq rfl, .bool_eq rfl, trivial⟩, trivial, by simp only [piOf]; rw [if_neg (fun h => h37 h.2)]; rfl, rfl⟩
          · have h37 : Lib.decDigits v = s := by simpa using h37
            exact ⟨[], .tup [.int .i64 v, .bool true], [], by simp, Nat.zero_le _, .tup_l ⟨.int_eq rfl, .bool_eq rfl, trivial⟩, trivial, by simp only [piOf]; rw [if_pos ⟨h32, h37⟩]; rfl, rfl⟩

end Go.Am
