/- The reference: l14String. (Printed by gen13.py.) -/
import Derived.Test.YtagfpmbccfghnaaDoorX12
set_option linter.unusedVariables false
set_option linter.unusedSimpArgs false
namespace Go.Am
open Go Go.RowKit Go.Proofs

def strV (pos : Nat) : Option (List UInt8 × Nat) → PV
  | none => .tup [.str [], .int .i64 (-1)]
  | some (a, n) => .tup [.str a, .int .i64 ((pos + n : Nat) : Int)]
/-- The reference's: the text at a place. -/
theorem l14String_ok (s : List UInt8) (pos : Nat) (hp : pos < s.length) (hs : s.length ≤ 1000000) :
    ACall Tryd.prog 62 [.str s, .int .i64 pos] [] (fun res h => res = strV pos (strGo ((s.drop pos).drop 1) [] 1) ∧ h = []) := by
  obtain ⟨rest, hrest⟩ : ∃ r, s.drop pos = r := ⟨_, rfl⟩
  have eg : ∀ j, rest.getD j 0 = s.getD (pos + j) 0 := fun j => by rw [← hrest]; exact getD_drop s pos j
  have hlen : rest.length = s.length - pos := by rw [← hrest]; simp
  rw [hrest]
  obtain ⟨R, hR⟩ : ∃ R, strGo (rest.drop 1) [] 1 = R := ⟨_, rfl⟩
  rw [hR]
  refine ACall.of_vc tabL_ok mixed Tryd.func62 rfl (by kernel_rfl) _ _ _ rfl (by kernel_rfl) ?_
  have e0 : IntKind.i64.wrap ((pos : Int) + 1) = ((pos + 1 : Nat) : Int) := by rw [w64] <;> omega
  refine LoopVC.mk (List UInt8 × Nat) (fun x => [(0, .str s), (1, .int .i64 pos), (6, .own 0 0 0 x.1.length), (7, .int .i64 ((pos + x.2 : Nat) : Int))]) (fun x => [.row 0 1 x.1.length 5 (bcell x.1)])
    (fun x => strGo (rest.drop x.2) x.1 x.2 = R ∧ x.1.length ≤ x.2 ∧ x.2 ≤ rest.length + 1) (fun x => rest.length + 1 - x.2) ([], 1) ⟨hR, by simp, by simp⟩ ?_ (fun x hx => ?_)
  · exact ⟨[0], by simp, Nat.zero_le _, ⟨.str_eq rfl, .int_eq rfl, .own_eq rfl ⟨_, _, _, _, rfl⟩ ⟨_, _, _, _, rfl⟩ rfl rfl, .int_eq e0, trivial⟩, ⟨⟨fun h => absurd h (Nat.not_lt_zero _), rfl, rfl, rfl, fun i hi => absurd hi (Nat.not_lt_zero _)⟩, trivial⟩⟩
  · obtain ⟨acc, i⟩ := x
    obtain ⟨hg, ha, hi⟩ := hx
    simp only at hg ha hi
    have e1 : IntKind.i64.wrap (((pos + i : Nat) : Int) + 1) = ((pos + i + 1 : Nat) : Int) := by rw [w64] <;> omega
    refine splitB.mk (fun h10 => ?_) (fun h10 => ?_)
    · have h10 : i < rest.length := by have q := of_decide_eq_true h10; simp only at q; omega
      refine ⟨⟨by simp only; omega, by simp only; omega⟩, ?_⟩
      refine splitB.mk (fun h20 => ?_) (fun h20 => ?_)
      · have h16 : (rest.getD i 0).toNat = 39 := by rw [eg]; exact eqT _ 39 h20
        rw [strGo_quote h10 h16] at hg
        refine ⟨rfl, ?_⟩
        refine splitB.mk (fun h19 => ?_) (fun h19 => ?_)
        · have h19 : 400 < acc.length := by have q := of_decide_eq_true h19; simp only at q; omega
          rw [if_pos h19] at hg
          exact ⟨[], .tup [.str [], .int .i64 (-1)], [], by simp, Nat.zero_le _, .tup_l ⟨.str_eq rfl, .int_eq rfl, trivial⟩, trivial, by rw [← hg]; rfl, rfl⟩
        · have h19 : ¬ 400 < acc.length := by have q := of_decide_eq_false h19; simp only at q; omega
          rw [if_neg h19] at hg
          refine ⟨rfl, fun i hi => rfl, ?_⟩
          exact ⟨[], .tup [.str acc, .int .i64 ((pos + (i + 1) : Nat) : Int)], [], by simp, Nat.zero_le _, .tup_l ⟨.str_eq (bytes_row acc), .int_eq e1, trivial⟩, trivial, by rw [← hg]; rfl, rfl⟩
      · have h16 : ¬ (rest.getD i 0).toNat = 39 := by rw [eg]; exact eqF _ 39 h20
        refine ⟨⟨by first | omega | (simp only; omega), by first | omega | (simp only; omega)⟩, ?_⟩
        refine splitB.mk (fun h32 => ?_) (fun h32 => ?_)
        · have h30 : (rest.getD i 0).toNat = 92 := by rw [eg]; have q := eqT _ 92 h32; exact q
          iterate 5 refine splitB.mk (fun _ => ?_) (fun h => absurd h (by decide))
          refine splitB.mk (fun h39 => ?_) (fun h39 => ?_)
          · have hi1 : i + 1 < rest.length := by have q := of_decide_eq_true h39; rw [e1] at q; omega
            iterate 3 refine splitB.mk (fun _ => ?_) (fun h => absurd h (by decide))
            refine ⟨⟨by first | omega | (simp only; omega), by first | omega | (simp only; omega)⟩, ?_⟩
            iterate 2 refine splitB.mk (fun _ => ?_) (fun h => absurd h (by decide))
            refine splitB.mk (fun h45 => ?_) (fun h45 => ?_)
            · have h43 : (rest.getD (i + 1) 0).toNat = 39 := by rw [eg]; have q := eqT _ 39 h45; rw [e1] at q; exact q
              iterate 8 refine splitB.mk (fun _ => ?_) (fun h => absurd h (by decide))
              have hd : (rest.getD (i + 1) 0).toNat = 39 ∨ (rest.getD (i + 1) 0).toNat = 92 := by first | exact .inl h43 | exact .inr h50
              have hg2 := hg
              rw [strGo_esc hi1 h16 h30 hd] at hg2
              refine ⟨⟨by rw [e1]; omega, by rw [e1]; omega⟩, ?_⟩
              refine ⟨rfl, rfl, by simp only; omega, ?_⟩
              exact ⟨(acc ++ [rest.getD (i + 1) 0], i + 2), ⟨hg2, by simp; omega, by simp only; omega⟩, by simp only; omega, [0], by simp, Nat.zero_le _, ⟨.str_eq rfl, .int_eq rfl, .own_eq rfl ⟨_, _, _, _, rfl⟩ ⟨_, _, _, _, rfl⟩ rfl (by simp), .int_eq (by rw [e1, w64] <;> omega), trivial⟩, ⟨⟨fun h => absurd h (Nat.not_lt_zero _), rfl, by simp, rfl, rowStep acc _ _ (by show [PV.int .u8 (((s.getD (IntKind.i64.wrap (((pos + i : Nat) : Int) + 1)).toNat 0).toNat : Nat) : Int)] = _; rw [e1, eg]; rfl)⟩, trivial⟩⟩
            · have h43 : ¬ (rest.getD (i + 1) 0).toNat = 39 := by rw [eg]; have q := eqF _ 39 h45; rw [e1] at q; exact q
              iterate 3 refine splitB.mk (fun h => absurd h (by decide)) (fun _ => ?_)
              refine ⟨⟨by first | omega | (simp only; omega), by first | omega | (simp only; omega)⟩, ?_⟩
              refine splitB.mk (fun h => absurd h (by decide)) (fun _ => ?_)
              refine splitB.mk (fun _ => ?_) (fun h => absurd h (by decide))
              refine splitB.mk (fun h => absurd h (by decide)) (fun _ => ?_)
              refine splitB.mk (fun _ => ?_) (fun h => absurd h (by decide))
              refine splitB.mk (fun h52 => ?_) (fun h52 => ?_)
              · have h50 : (rest.getD (i + 1) 0).toNat = 92 := by rw [eg]; have q := eqT _ 92 h52; rw [e1] at q; exact q
                have hd : (rest.getD (i + 1) 0).toNat = 39 ∨ (rest.getD (i + 1) 0).toNat = 92 := by first | exact .inl h43 | exact .inr h50
                have hg2 := hg
                rw [strGo_esc hi1 h16 h30 hd] at hg2
                refine ⟨⟨by rw [e1]; omega, by rw [e1]; omega⟩, ?_⟩
                refine ⟨rfl, rfl, by simp only; omega, ?_⟩
                exact ⟨(acc ++ [rest.getD (i + 1) 0], i + 2), ⟨hg2, by simp; omega, by simp only; omega⟩, by simp only; omega, [0], by simp, Nat.zero_le _, ⟨.str_eq rfl, .int_eq rfl, .own_eq rfl ⟨_, _, _, _, rfl⟩ ⟨_, _, _, _, rfl⟩ rfl (by simp), .int_eq (by rw [e1, w64] <;> omega), trivial⟩, ⟨⟨fun h => absurd h (Nat.not_lt_zero _), rfl, by simp, rfl, rowStep acc _ _ (by show [PV.int .u8 (((s.getD (IntKind.i64.wrap (((pos + i : Nat) : Int) + 1)).toNat 0).toNat : Nat) : Int)] = _; rw [e1, eg]; rfl)⟩, trivial⟩⟩
              · have h50 : ¬ (rest.getD (i + 1) 0).toNat = 92 := by rw [eg]; have q := eqF _ 92 h52; rw [e1] at q; exact q
                have hb : ¬ ((rest.getD i 0).toNat = 92 ∧ i + 1 < rest.length ∧ ((rest.getD (i + 1) 0).toNat = 39 ∨ (rest.getD (i + 1) 0).toNat = 92)) := by first | exact fun hx => h30 hx.1 | exact fun hx => hi1 hx.2.1 | exact fun hx => hx.2.2.elim h43 h50
                have hg2 := hg
                rw [strGo_step h10 h16 hb] at hg2
                refine ⟨⟨by simp only; omega, by simp only; omega⟩, ?_⟩
                refine ⟨rfl, rfl, by simp only; omega, ?_⟩
                exact ⟨(acc ++ [rest.getD i 0], i + 1), ⟨hg2, by simp; omega, by simp only; omega⟩, by simp only; omega, [0], by simp, Nat.zero_le _, ⟨.str_eq rfl, .int_eq rfl, .own_eq rfl ⟨_, _, _, _, rfl⟩ ⟨_, _, _, _, rfl⟩ rfl (by simp), .int_eq (by rw [w64] <;> omega), trivial⟩, ⟨⟨fun h => absurd h (Nat.not_lt_zero _), rfl, by simp, rfl, rowStep acc _ _ (by show [PV.int .u8 (((s.getD (((pos + i : Nat) : Int)).toNat 0).toNat : Nat) : Int)] = _; rw [eg]; rfl)⟩, trivial⟩⟩
          · have hi1 : ¬ i + 1 < rest.length := by have q := of_decide_eq_false h39; rw [e1] at q; omega
            iterate 8 refine splitB.mk (fun h => absurd h (by decide)) (fun _ => ?_)
            have hb : ¬ ((rest.getD i 0).toNat = 92 ∧ i + 1 < rest.length ∧ ((rest.getD (i + 1) 0).toNat = 39 ∨ (rest.getD (i + 1) 0).toNat = 92)) := by first | exact fun hx => h30 hx.1 | exact fun hx => hi1 hx.2.1 | exact fun hx => hx.2.2.elim h43 h50
            have hg2 := hg
            rw [strGo_step h10 h16 hb] at hg2
            refine ⟨⟨by simp only; omega, by simp only; omega⟩, ?_⟩
            refine ⟨rfl, rfl, by simp only; omega, ?_⟩
            exact ⟨(acc ++ [rest.getD i 0], i + 1), ⟨hg2, by simp; omega, by simp only; omega⟩, by simp only; omega, [0], by simp, Nat.zero_le _, ⟨.str_eq rfl, .int_eq rfl, .own_eq rfl ⟨_, _, _, _, rfl⟩ ⟨_, _, _, _, rfl⟩ rfl (by simp), .int_eq (by rw [w64] <;> omega), trivial⟩, ⟨⟨fun h => absurd h (Nat.not_lt_zero _), rfl, by simp, rfl, rowStep acc _ _ (by show [PV.int .u8 (((s.getD (((pos + i : Nat) : Int)).toNat 0).toNat : Nat) : Int)] = _; rw [eg]; rfl)⟩, trivial⟩⟩
        · have h30 : ¬ (rest.getD i 0).toNat = 92 := by rw [eg]; have q := eqF _ 92 h32; exact q
          iterate 14 refine splitB.mk (fun h => absurd h (by decide)) (fun _ => ?_)
          have hb : ¬ ((rest.getD i 0).toNat = 92 ∧ i + 1 < rest.length ∧ ((rest.getD (i + 1) 0).toNat = 39 ∨ (rest.getD (i + 1) 0).toNat = 92)) := by first | exact fun hx => h30 hx.1 | exact fun hx => hi1 hx.2.1 | exact fun hx => hx.2.2.elim h43 h50
          have hg2 := hg
          rw [strGo_step h10 h16 hb] at hg2
          refine ⟨⟨by simp only; omega, by simp only; omega⟩, ?_⟩
          refine ⟨rfl, rfl, by simp only; omega, ?_⟩
          exact ⟨(acc ++ [rest.getD i 0], i + 1), ⟨hg2, by simp; omega, by simp only; omega⟩, by simp only; omega, [0], by simp, Nat.zero_le _, ⟨.str_eq rfl, .int_eq rfl, .own_eq rfl ⟨_, _, _, _, rfl⟩ ⟨_, _, _, _, rfl⟩ rfl (by simp), .int_eq (by rw [w64] <;> omega), trivial⟩, ⟨⟨fun h => absurd h (Nat.not_lt_zero _), rfl, by simp, rfl, rowStep acc _ _ (by show [PV.int .u8 (((s.getD (((pos + i : Nat) : Int)).toNat 0).toNat : Nat) : Int)] = _; rw [eg]; rfl)⟩, trivial⟩⟩
    · have h10 : ¬ i < rest.length := by have q := of_decide_eq_false h10; simp only at q; omega
      rw [strGo_end h10] at hg
      exact ⟨[], .tup [.str [], .int .i64 (-1)], [], by simp, Nat.zero_le _, .tup_l ⟨.str_eq rfl, .int_eq rfl, trivial⟩, trivial, by rw [← hg]; rfl, rfl⟩

end Go.Am
