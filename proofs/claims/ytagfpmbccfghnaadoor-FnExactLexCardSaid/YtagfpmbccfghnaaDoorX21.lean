/- The law's helpers: eqToken, eqTokenS, markText. -/
import Derived.Test.YtagfpmbccfghnaaDoorX20
set_option linter.unusedVariables false
set_option linter.unusedSimpArgs false
namespace Go.Am
open Go Go.RowKit Go.Proofs

theorem eqToken_ok (t : Tk) : ACall Tryd.prog 34 [.agg t.cells, .agg t.cells] [] (fun res h => res = .bool true ∧ h = []) := by
  refine ACall.of_vc tabL_ok mixed Tryd.func34 rfl (by kernel_rfl) _ _ _ rfl (by kernel_rfl) ?_
  refine ⟨rfl, rfl, rfl, rfl, splitB.mk (fun h => absurd h (by simp)) (fun _ => ?_)⟩
  refine ⟨rfl, rfl, rfl, rfl, splitB.mk (fun h => absurd h (by simp)) (fun _ => ?_)⟩
  refine ⟨rfl, rfl, rfl, rfl, splitB.mk (fun h => absurd h (by simp)) (fun _ => ?_)⟩
  refine ⟨rfl, rfl, rfl, rfl, splitB.mk (fun h => absurd h (by simp)) (fun _ => ?_)⟩
  exact ⟨[], .bool true, [], by simp, Nat.zero_le _, .bool _, trivial, rfl, rfl⟩

abbrev slF (n : Nat) (f : Nat → Tk) : PV := .slc 4 n (fun i => (f i).cells)
theorem eqTokenS_ok (n : Nat) (hn : n ≤ 1000000) (f : Nat → Tk) : ACall Tryd.prog 9 [slF n f, slF n f] [] (fun res h => res = .bool true ∧ h = []) := by
  refine ACall.of_vc tabL_ok mixed Tryd.func9 rfl (by kernel_rfl) _ _ _ rfl (by kernel_rfl) ?_
  refine splitB.mk (fun h => absurd h (by simp)) (fun h => ?_)
  refine LoopVC.mk Nat (fun k => [(0, slF n f), (1, slF n f), (5, .int .i64 k)]) (fun k => []) (fun k => k ≤ n) (fun k => n - k) 0 (Nat.zero_le _) ?_ (fun k hk => ?_)
  · exact ⟨[], by simp, Nat.zero_le _, ⟨.slc_eq rfl (fun _ _ => rfl), .slc_eq rfl (fun _ _ => rfl), .int_eq rfl, trivial⟩, trivial⟩
  · refine splitB.mk (fun h => ?_) (fun h => ?_)
    · have hkn : k < n := by have q := of_decide_eq_true h; omega
      refine DrawVC.quietC ⟨⟨by omega, by omega⟩, ⟨by omega, by omega⟩, [.agg (f k).cells, .agg (f k).cells], .bool true, ⟨.agg_l ⟨.int_eq rfl, .int_eq rfl, .str_eq rfl, .int_eq rfl, trivial⟩, .agg_l ⟨.int_eq rfl, .int_eq rfl, .str_eq rfl, .int_eq rfl, trivial⟩, trivial⟩, rfl, (eqToken_ok (f k)).mono (fun _ _ h => h.1), ?_⟩
      refine splitB.mk (fun h => absurd h (by decide)) (fun _ => ?_)
      exact ⟨k + 1, by omega, by simp only; omega, [], by simp, Nat.zero_le _, ⟨.slc_eq rfl (fun _ _ => rfl), .slc_eq rfl (fun _ _ => rfl), .int_eq (by rw [w64] <;> omega), trivial⟩, trivial⟩
    · exact ⟨[], .bool true, [], by simp, Nat.zero_le _, .bool _, trivial, rfl, rfl⟩

/-- The law's text of a number. -/
theorem markText_ok (n : Nat) (h0 : 0 < n) (h1 : n ≤ 9000000000000000000) : ACall Tryd.prog 35 [.int .i64 n] [] (fun res h => res = .str (109 :: Lib.decDigits n) ∧ h = []) := by
  refine ACall.of_vc tabL_ok mixed Tryd.func35 rfl (by kernel_rfl) _ _ _ rfl (by kernel_rfl) ?_
  refine splitB.mk (fun h => by exfalso; have q : (n : Int) ≤ 0 := of_decide_eq_true h; omega) (fun _ => ?_)
  have hL : (Lib.decDigits n).length ≤ 20 := by rw [Lib.decDigits_length]; exact nDig_le 19 _ (by simp only [Nat.reduceAdd, Nat.reducePow]; omega)
  refine LoopVC.mk (List UInt8 × Nat) (fun x => [(0, .int .i64 x.2), (3, .str x.1)]) (fun x => [])
    (fun x => (if x.2 = 0 then [] else Lib.decDigits x.2) ++ x.1 = Lib.decDigits n ∧ x.2 ≤ n) (fun x => x.2) ([], n) ⟨by simp only; rw [if_neg (by omega), List.append_nil], Nat.le_refl _⟩ ?_ (fun x hx => ?_)
  · exact ⟨[], by simp, Nat.zero_le _, ⟨.int_eq rfl, .str_eq rfl, trivial⟩, trivial⟩
  · obtain ⟨out, m⟩ := x
    obtain ⟨hd, hm⟩ := hx
    simp only at hd hm
    have hol : out.length ≤ 20 := by have q := congrArg List.length hd; simp only [List.length_append] at q; omega
    refine splitB.mk (fun h7 => ?_) (fun h7 => ?_)
    · have h7 : m ≠ 0 := by have q : (m : Int) > 0 := of_decide_eq_true h7; omega
      rw [if_neg h7] at hd
      have tm : (m : Int).tmod 10 = ((m % 10 : Nat) : Int) := by rw [Int.tmod_eq_emod_of_nonneg (by omega)]; omega
      have td : (m : Int).tdiv 10 = ((m / 10 : Nat) : Int) := by rw [Int.tdiv_eq_ediv_of_nonneg (by omega)]; omega
      have dv : IntKind.i64.wrap ((m : Int).tdiv 10) = ((m / 10 : Nat) : Int) := by rw [td, w64] <;> omega
      have next : (if m / 10 = 0 then [] else Lib.decDigits (m / 10)) ++ (UInt8.ofNat (48 + m % 10) :: out) = Lib.decDigits n := by
        rw [← hd, decDigits_step m, List.append_assoc]; rfl
      have f : byteOf [.int .u8 (IntKind.u8.wrap (IntKind.i64.wrap (48 + (m : Int).tmod 10)))] = UInt8.ofNat (48 + m % 10) := by
        rw [tm, w64 (by omega) (by omega), IntKind.wrap_u8]
        show UInt8.ofNat _ = _
        congr 1
        omega
      refine ⟨by decide, ?_⟩
      refine ⟨rfl, fun i hi => by obtain rfl : i = 0 := (by omega); rfl, ?_⟩
      refine ⟨by show 1 + out.length ≤ 4611686018427387904; omega, ?_⟩
      refine ⟨by decide, ?_⟩
      exact ⟨(UInt8.ofNat (48 + m % 10) :: out, m / 10), ⟨next, by simp only; omega⟩, by simp only; omega, [], by simp, Nat.zero_le _, ⟨.int_eq dv, .str_eq (by rw [← f]; rfl), trivial⟩, trivial⟩
    · have h7 : m = 0 := by have q : ¬ (m : Int) > 0 := of_decide_eq_false h7; omega
      rw [if_pos h7, List.nil_append] at hd
      refine ⟨by show 1 + out.length ≤ 4611686018427387904; omega, ?_⟩
      exact ⟨[], .str (109 :: out), [], by simp, Nat.zero_le _, .str_eq rfl, trivial, by rw [hd], rfl⟩

/-- The tokens that the law writes. -/
def mkT (i : Nat) : Tk := ⟨((1 + 4 * i : Nat) : Int), ((2 + 4 * i : Nat) : Int), 109 :: Lib.decDigits (3 + 4 * i), ((4 + 4 * i : Nat) : Int)⟩
theorem heldTokenS_ok (n : Nat) (hn : n ≤ 1000000) : ACall Tryd.prog 11 [slF n mkT, .int .i64 1] [] (fun res h => res = .int .i64 ((1 + 4 * n : Nat) : Int) ∧ h = []) := by
  refine ACall.of_vc tabL_ok mixed Tryd.func11 rfl (by kernel_rfl) _ _ _ rfl (by kernel_rfl) ?_
  refine LoopVC.mk Nat (fun k => [(0, slF n mkT), (1, .int .i64 ((1 + 4 * k : Nat) : Int)), (5, .int .i64 k)]) (fun k => []) (fun k => k ≤ n) (fun k => n - k) 0 (Nat.zero_le _) ?_ (fun k hk => ?_)
  · exact ⟨[], by simp, Nat.zero_le _, ⟨.slc_eq rfl (fun _ _ => rfl), .int_eq rfl, .int_eq rfl, trivial⟩, trivial⟩
  · have e2 : IntKind.i64.wrap (((1 + 4 * k : Nat) : Int) + 1) = ((2 + 4 * k : Nat) : Int) := by rw [w64] <;> omega
    have e3 : IntKind.i64.wrap (((2 + 4 * k : Nat) : Int) + 1) = ((3 + 4 * k : Nat) : Int) := by rw [w64] <;> omega
    have e4 : IntKind.i64.wrap (((3 + 4 * k : Nat) : Int) + 1) = ((4 + 4 * k : Nat) : Int) := by rw [w64] <;> omega
    have e5 : IntKind.i64.wrap (((4 + 4 * k : Nat) : Int) + 1) = ((1 + 4 * (k + 1) : Nat) : Int) := by rw [w64] <;> omega
    have ct := markText_ok (3 + 4 * k) (by omega) (by omega)
    rw [← e3, ← e2] at ct
    refine splitB.mk (fun h => ?_) (fun h => ?_)
    · have hkn : k < n := by have q := of_decide_eq_true h; omega
      refine ⟨⟨by omega, by omega⟩, splitB.mk (fun hb => by exfalso; have q : (((1 + 4 * k : Nat) : Int) != ((1 + 4 * k : Nat) : Int)) = true := hb; simp at q) (fun _ => ?_)⟩
      refine ⟨⟨by omega, by omega⟩, splitB.mk (fun hb => by exfalso; have q : (((2 + 4 * k : Nat) : Int) != IntKind.i64.wrap (((1 + 4 * k : Nat) : Int) + 1)) = true := hb; rw [e2] at q; simp at q) (fun _ => ?_)⟩
      refine DrawVC.quietC ⟨⟨by omega, by omega⟩, [_], .str (109 :: Lib.decDigits (3 + 4 * k)), ⟨.int_eq rfl, trivial⟩, rfl, ct.mono (fun _ _ h => h.1), ?_⟩
      refine splitB.mk (fun hb => by exfalso; have q : (!((109 :: Lib.decDigits (3 + 4 * k)) == (109 :: Lib.decDigits (3 + 4 * k)))) = true := hb; simp at q) (fun _ => ?_)
      refine ⟨⟨by omega, by omega⟩, splitB.mk (fun hb => by exfalso; have q : (((4 + 4 * k : Nat) : Int) != IntKind.i64.wrap (IntKind.i64.wrap (IntKind.i64.wrap (((1 + 4 * k : Nat) : Int) + 1) + 1) + 1)) = true := hb; rw [e2, e3, e4] at q; simp at q) (fun _ => ?_)⟩
      exact ⟨k + 1, by omega, by simp only; omega, [], by simp, Nat.zero_le _, ⟨.slc_eq rfl (fun _ _ => rfl), .int_eq (by rw [e2, e3, e4, e5]), .int_eq (by rw [w64] <;> omega), trivial⟩, trivial⟩
    · have hkn : k = n := by have q := of_decide_eq_false h; omega
      subst hkn
      exact ⟨[], .int .i64 ((1 + 4 * k : Nat) : Int), [], by simp, Nat.zero_le _, .int _ _, trivial, rfl, rfl⟩
theorem markToken0 : ACall Tryd.prog 10 [.nils, .int .i64 1] [] (fun res h => res = .int .i64 1 ∧ h = []) := by
  refine ACall.of_vc tabL_ok mixed Tryd.func10 rfl (by kernel_rfl) _ _ _ rfl (by kernel_rfl) ?_
  refine LoopVC.mk Unit (fun _ => [(0, .nils), (1, .int .i64 1), (5, .int .i64 0)]) (fun _ => []) (fun _ => True) (fun _ => 0) () trivial ?_ (fun k hk => ?_)
  · exact ⟨[], by simp, Nat.zero_le _, ⟨.nils, .int_eq rfl, .int_eq rfl, trivial⟩, trivial⟩
  · refine splitB.mk (fun h => absurd h (by simp)) (fun _ => ?_)
    exact ⟨[], .int .i64 1, [], by simp, Nat.zero_le _, .int _ _, trivial, rfl, rfl⟩

end Go.Am
