/- The reference: Lex, the walk. (Printed by gen18.py.) -/
import Derived.Test.YtagfpmbccfghnaaDoorX17
set_option linter.unusedVariables false
set_option linter.unusedSimpArgs false
namespace Go.Am
open Go Go.RowKit Go.Proofs

theorem semiEnd_is (s : List UInt8) (pos : Nat) : semiEnd s pos = if Lib.hasPrefix (s.drop (pos + 2)) [10] = true then pos + 3 else pos + 2 := by
  unfold semiEnd
  by_cases h : pos + 2 < s.length
  · rw [hp1 s (pos + 2) 10 h]
    by_cases h2 : (s.getD (pos + 2) 0).toNat = 10
    · rw [if_pos ⟨h, h2⟩, if_pos]
      rw [beq_iff_eq]; exact (UInt8.toNat_inj.1 h2).symm
    · rw [if_neg (fun q => h2 q.2), if_neg]
      rw [beq_iff_eq]; intro q; rw [← q] at h2; exact h2 rfl
  · rw [if_neg (fun q => h q.1), List.drop_eq_nil_of_le (by omega), if_neg (by decide)]
theorem specLex_ok (s : List UInt8) : ACall Tryd.prog 7 [.str s] [] (fun res h => res = (if 4000 < s.length then .tup [slT [], .int .i64 1, .int .i64 0] else lexSV (lexS s s.length (false, 0, []))) ∧ h = []) := by
  refine ACall.of_vc tabL_ok mixed Tryd.func7 rfl (by kernel_rfl) _ _ _ rfl (by kernel_rfl) ?_
  refine splitB.mk (fun h15 => ?_) (fun h15 => ?_)
  · have h8 : 4000 < s.length := by have q := of_decide_eq_true h15; omega
    exact ⟨[], .tup [slT [], .int .i64 1, .int .i64 0], [], by simp, Nat.zero_le _, .tup_l ⟨.frz_eq (by simp) rfl rfl rfl (fun i hi => absurd hi (Nat.not_lt_zero _)) (fun i hi => absurd hi (Nat.not_lt_zero _)), .int_eq rfl, .int_eq rfl, trivial⟩, trivial, by rw [if_pos h8], rfl⟩
  · have h8 : s.length ≤ 4000 := by have q := of_decide_eq_false h15; omega
    obtain ⟨R, hR0⟩ : ∃ R, lexS s s.length (false, 0, []) = R := ⟨_, rfl⟩
    rw [if_neg (by omega), hR0]
    refine LoopVC.mk (Bool × Nat × List Tk) (fun x => [(0, .str s), (5, .own 0 0 0 x.2.2.length), (6, .bool x.1), (7, .int .i64 x.2.1)]) (fun x => [rowT x.2.2])
      (fun x => x.2.2.length ≤ 2 * x.2.1 ∧ ∃ n, lexS s n x = R ∧ s.length ≤ x.2.1 + n) (fun x => s.length - x.2.1) (false, 0, []) ⟨by simp, _, hR0, by simp⟩ ?_ (fun x hx => ?_)
    · exact ⟨[0], by simp, Nat.zero_le _, ⟨.str_eq rfl, .own_eq rfl ⟨_, _, _, _, rfl⟩ ⟨_, _, _, _, rfl⟩ rfl rfl, .bool_eq rfl, .int_eq rfl, trivial⟩, ⟨⟨fun h => absurd h (Nat.not_lt_zero _), rfl, rfl, rfl, fun i hi => absurd hi (Nat.not_lt_zero _)⟩, trivial⟩⟩
    · obtain ⟨b, pos, T⟩ := x
      obtain ⟨hT, n, hR, hn⟩ := hx
      simp only at hT hn
      refine splitB.mk (fun h20 => ?_) (fun h20 => ?_)
      · have hp : pos < s.length := by have q := of_decide_eq_true h20; simp only at q; omega
        obtain ⟨n, rfl⟩ : ∃ n', n = n' + 1 := ⟨n - 1, by omega⟩
        have hdl : (s.drop pos).length = s.length - pos := by simp
        cases b with
        | false =>
          refine splitB.mk (fun _ => ?_) (fun h => absurd (show true = false from h) (by decide))
          have hil := ink_le (s.drop pos)
          refine LoopVC.mk Nat (fun k => [(0, .str s), (5, .own 0 0 0 T.length), (7, .int .i64 pos), (8, .int .i64 ((pos + k : Nat) : Int))]) (fun k => [rowT T]) (fun k => k ≤ ink (s.drop pos)) (fun k => ink (s.drop pos) - k) 0 (Nat.zero_le _) ?_ (fun k hk => ?_)
          · exact ⟨[0], by simp, Nat.zero_le _, ⟨.str_eq rfl, .own_eq rfl ⟨_, _, _, _, rfl⟩ ⟨_, _, _, _, rfl⟩ rfl rfl, .int_eq rfl, .int_eq rfl, trivial⟩, ⟨⟨fun h => absurd h (Nat.not_lt_zero _), rfl, rfl, rfl, fun i hi => fzTok rfl⟩, trivial⟩⟩
          · have hc := ink_lt (s.drop pos) k hk
            rw [List.drop_drop] at hc
            have ci := l14Is_ok s [60, 63] (pos + k) (by omega) (by omega) (by decide)
            obtain ⟨b2, hb2⟩ : ∃ b2, Lib.hasPrefix (s.drop (pos + k)) [60, 63] = b2 := ⟨_, rfl⟩
            rw [hb2] at ci
            refine splitB.mk (fun h46 => ?_) (fun h46 => ?_)
            · have h46 : pos + k < s.length := by have q := of_decide_eq_true h46; omega
              iterate 2 refine splitB.mk (fun _ => ?_) (fun h => absurd h (by decide))
              refine ⟨_, ci.frame0 _ rfl (fun _ => rfl), ?_⟩
              rintro _ _ ⟨rfl, rfl⟩
              iterate 2 refine splitB.mk (fun _ => ?_) (fun h => absurd h (by decide))
              refine splitB.mk (fun h51 => ?_) (fun h51 => ?_)
              · have hlt : k < ink (s.drop pos) := hc.2 ⟨by omega, by rw [hb2]; simpa using h51⟩
                exact ⟨k + 1, hlt, by simp only; omega, [0], by simp, Nat.zero_le _, ⟨.str_eq rfl, .own_eq rfl ⟨_, _, _, _, rfl⟩ ⟨_, _, _, _, rfl⟩ rfl rfl, .int_eq rfl, .int_eq (by rw [w64] <;> omega), trivial⟩, ⟨⟨fun h => absurd h (Nat.not_lt_zero _), rfl, rfl, rfl, fun i hi => fzTok rfl⟩, trivial⟩⟩
              · have hns : ¬ k < ink (s.drop pos) := fun hlt => by have hq := hc.1 hlt; first | exact h46 (by have := hq.1; omega) | (rw [hb2] at hq; rw [hq.2] at h51; exact absurd h51 (by decide))
                have hk2 : ink (s.drop pos) = k := by omega
                have hP : inlP s pos = pos + k := by unfold inlP; rw [hk2]
                have cj := l14Is_ok s [60, 63, 61] (pos + k) (by omega) (by omega) (by decide)
                refine splitB.mk (fun h56 => ?_) (fun h56 => ?_)
                · have hk0 : 0 < k := by have q : ((pos + k : Nat) : Int) > (pos : Int) := of_decide_eq_true h56; omega
                  have hIT : inlT s pos T = T ++ [Tk.mk 1 0 ((s.take (pos + k)).drop pos) pos] := by unfold inlT; rw [hk2, if_pos hk0, cut_eq]
                  refine ⟨⟨by omega, by omega, by omega⟩, ?_⟩
                  refine ⟨rfl, rfl, (show (_ + 1) * 40 ≤ 140737488355328 by first | omega | (simp only; omega)), ?_⟩
                  refine splitB.mk (fun h73 => ?_) (fun h73 => ?_)
                  · have h73 : pos + k < s.length := by have q := of_decide_eq_true h73; omega
                    iterate 2 refine splitB.mk (fun _ => ?_) (fun h => absurd h (by decide))
                    refine ⟨_, cj.frame0 _ rfl (fun _ => rfl), ?_⟩
                    rintro _ _ ⟨rfl, rfl⟩
                    refine splitB.mk (fun _ => ?_) (fun h => absurd h (by decide))
                    refine splitB.mk (fun h77 => ?_) (fun h77 => ?_)
                    · have hb3 : Lib.hasPrefix (s.drop (pos + k)) [60, 63, 61] = true := h77
                      have hs : stepS s false pos T = (decide (pos + k < s.length), pos + k + 3, 0, T ++ [Tk.mk 1 0 ((s.take (pos + k)).drop pos) pos] ++ [Tk.mk 3 0 echo ((pos + k : Nat) : Int)]) := by unfold stepS; rw [if_pos rfl, hP, if_pos hb3, hIT]
                      refine ⟨rfl, rfl, (show (_ + 1) * 40 ≤ 140737488355328 by first | omega | (simp only; omega)), ?_⟩
                      exact ⟨(decide (pos + k < s.length), pos + k + 3, T ++ [Tk.mk 1 0 ((s.take (pos + k)).drop pos) pos] ++ [Tk.mk 3 0 echo ((pos + k : Nat) : Int)]), ⟨by simp only [List.length_append, List.length_cons, List.length_nil]; omega, n, lexS_next hR hp hs, by simp only; omega⟩, by simp only; omega, [0], by simp, Nat.zero_le _, ⟨.str_eq rfl, .own_eq rfl ⟨_, _, _, _, rfl⟩ ⟨_, _, _, _, rfl⟩ rfl (by simp), .bool_eq (by simp only [decide_eq_decide]; omega), .int_eq (by show _ = ((pos + k + 3 : Nat) : Int); rw [w64] <;> omega), trivial⟩, ⟨⟨fun h => absurd h (Nat.not_lt_zero _), rfl, by simp, rfl, fun i hi => fzTok (tokStep (fun i => bif Nat.blt i T.length then (fun i => (tkAt T i).cells) (0 + i) else (fun jj => [(Tk.mk 1 0 ((s.take (pos + k)).drop pos) pos).cells].getD jj []) (0 + (i - T.length))) (T ++ [Tk.mk 1 0 ((s.take (pos + k)).drop pos) pos]) (Tk.mk 3 0 echo ((pos + k : Nat) : Int)) (fun jj => [(Tk.mk 3 0 echo ((pos + k : Nat) : Int)).cells].getD jj []) (T.length + 1) (by simp) (fun i hi => (tokStep (fun i => (tkAt T i).cells) T (Tk.mk 1 0 ((s.take (pos + k)).drop pos) pos) (fun jj => [(Tk.mk 1 0 ((s.take (pos + k)).drop pos) pos).cells].getD jj []) _ rfl (fun i _ => by rw [Nat.zero_add]) rfl (0 + i) (by omega)).trans (by rw [Nat.zero_add])) rfl i hi)⟩, trivial⟩⟩
                    · have hb3 : ¬ Lib.hasPrefix (s.drop (pos + k)) [60, 63, 61] = true := by first | (rw [show Lib.hasPrefix (s.drop (pos + k)) [60, 63, 61] = false from h77]; decide) | (rw [List.drop_eq_nil_of_le (by omega)]; decide)
                      have hs : stepS s false pos T = (decide (pos + k < s.length), pos + k + 2, 0, T ++ [Tk.mk 1 0 ((s.take (pos + k)).drop pos) pos]) := by unfold stepS; rw [if_pos rfl, hP, if_neg hb3, hIT]
                      exact ⟨(decide (pos + k < s.length), pos + k + 2, T ++ [Tk.mk 1 0 ((s.take (pos + k)).drop pos) pos]), ⟨by simp only [List.length_append, List.length_cons, List.length_nil]; omega, n, lexS_next hR hp hs, by simp only; omega⟩, by simp only; omega, [0], by simp, Nat.zero_le _, ⟨.str_eq rfl, .own_eq rfl ⟨_, _, _, _, rfl⟩ ⟨_, _, _, _, rfl⟩ rfl (by simp), .bool_eq (by simp only [decide_eq_decide]; omega), .int_eq (by show _ = ((pos + k + 2 : Nat) : Int); rw [w64] <;> omega), trivial⟩, ⟨⟨fun h => absurd h (Nat.not_lt_zero _), rfl, by simp, rfl, fun i hi => fzTok (tokStep (fun i => (tkAt T i).cells) T (Tk.mk 1 0 ((s.take (pos + k)).drop pos) pos) _ _ rfl (fun i _ => by rw [Nat.zero_add]) rfl i hi)⟩, trivial⟩⟩
                  · have h73 : ¬ pos + k < s.length := by have q := of_decide_eq_false h73; omega
                    iterate 4 refine splitB.mk (fun h => absurd h (by decide)) (fun _ => ?_)
                    have hb3 : ¬ Lib.hasPrefix (s.drop (pos + k)) [60, 63, 61] = true := by first | (rw [show Lib.hasPrefix (s.drop (pos + k)) [60, 63, 61] = false from h77]; decide) | (rw [List.drop_eq_nil_of_le (by omega)]; decide)
                    have hs : stepS s false pos T = (decide (pos + k < s.length), pos + k + 2, 0, T ++ [Tk.mk 1 0 ((s.take (pos + k)).drop pos) pos]) := by unfold stepS; rw [if_pos rfl, hP, if_neg hb3, hIT]
                    exact ⟨(decide (pos + k < s.length), pos + k + 2, T ++ [Tk.mk 1 0 ((s.take (pos + k)).drop pos) pos]), ⟨by simp only [List.length_append, List.length_cons, List.length_nil]; omega, n, lexS_next hR hp hs, by simp only; omega⟩, by simp only; omega, [0], by simp, Nat.zero_le _, ⟨.str_eq rfl, .own_eq rfl ⟨_, _, _, _, rfl⟩ ⟨_, _, _, _, rfl⟩ rfl (by simp), .bool_eq (by simp only [decide_eq_decide]; omega), .int_eq (by show _ = ((pos + k + 2 : Nat) : Int); rw [w64] <;> omega), trivial⟩, ⟨⟨fun h => absurd h (Nat.not_lt_zero _), rfl, by simp, rfl, fun i hi => fzTok (tokStep (fun i => (tkAt T i).cells) T (Tk.mk 1 0 ((s.take (pos + k)).drop pos) pos) _ _ rfl (fun i _ => by rw [Nat.zero_add]) rfl i hi)⟩, trivial⟩⟩
                · have hk0 : ¬ 0 < k := by have q : ¬ ((pos + k : Nat) : Int) > (pos : Int) := of_decide_eq_false h56; omega
                  have hIT : inlT s pos T = T := by unfold inlT; rw [hk2, if_neg hk0]
                  refine splitB.mk (fun h73 => ?_) (fun h73 => ?_)
                  · have h73 : pos + k < s.length := by have q := of_decide_eq_true h73; omega
                    iterate 2 refine splitB.mk (fun _ => ?_) (fun h => absurd h (by decide))
                    refine ⟨_, cj.frame0 _ rfl (fun _ => rfl), ?_⟩
                    rintro _ _ ⟨rfl, rfl⟩
                    refine splitB.mk (fun _ => ?_) (fun h => absurd h (by decide))
                    refine splitB.mk (fun h77 => ?_) (fun h77 => ?_)
                    · have hb3 : Lib.hasPrefix (s.drop (pos + k)) [60, 63, 61] = true := h77
                      have hs : stepS s false pos T = (decide (pos + k < s.length), pos + k + 3, 0, T ++ [Tk.mk 3 0 echo ((pos + k : Nat) : Int)]) := by unfold stepS; rw [if_pos rfl, hP, if_pos hb3, hIT]
                      refine ⟨rfl, rfl, (show (_ + 1) * 40 ≤ 140737488355328 by first | omega | (simp only; omega)), ?_⟩
                      exact ⟨(decide (pos + k < s.length), pos + k + 3, T ++ [Tk.mk 3 0 echo ((pos + k : Nat) : Int)]), ⟨by simp only [List.length_append, List.length_cons, List.length_nil]; omega, n, lexS_next hR hp hs, by simp only; omega⟩, by simp only; omega, [0], by simp, Nat.zero_le _, ⟨.str_eq rfl, .own_eq rfl ⟨_, _, _, _, rfl⟩ ⟨_, _, _, _, rfl⟩ rfl (by simp), .bool_eq (by simp only [decide_eq_decide]; omega), .int_eq (by show _ = ((pos + k + 3 : Nat) : Int); rw [w64] <;> omega), trivial⟩, ⟨⟨fun h => absurd h (Nat.not_lt_zero _), rfl, by simp, rfl, fun i hi => fzTok (tokStep (fun i => (tkAt T i).cells) T (Tk.mk 3 0 echo ((pos + k : Nat) : Int)) _ _ rfl (fun i _ => by rw [Nat.zero_add]) rfl i hi)⟩, trivial⟩⟩
                    · have hb3 : ¬ Lib.hasPrefix (s.drop (pos + k)) [60, 63, 61] = true := by first | (rw [show Lib.hasPrefix (s.drop (pos + k)) [60, 63, 61] = false from h77]; decide) | (rw [List.drop_eq_nil_of_le (by omega)]; decide)
                      have hs : stepS s false pos T = (decide (pos + k < s.length), pos + k + 2, 0, T) := by unfold stepS; rw [if_pos rfl, hP, if_neg hb3, hIT]
                      exact ⟨(decide (pos + k < s.length), pos + k + 2, T), ⟨by simp only; omega, n, lexS_next hR hp hs, by simp only; omega⟩, by simp only; omega, [0], by simp, Nat.zero_le _, ⟨.str_eq rfl, .own_eq rfl ⟨_, _, _, _, rfl⟩ ⟨_, _, _, _, rfl⟩ rfl rfl, .bool_eq (by simp only [decide_eq_decide]; omega), .int_eq (by show _ = ((pos + k + 2 : Nat) : Int); rw [w64] <;> omega), trivial⟩, ⟨⟨fun h => absurd h (Nat.not_lt_zero _), rfl, rfl, rfl, fun i hi => fzTok rfl⟩, trivial⟩⟩
                  · have h73 : ¬ pos + k < s.length := by have q := of_decide_eq_false h73; omega
                    iterate 4 refine splitB.mk (fun h => absurd h (by decide)) (fun _ => ?_)
                    have hb3 : ¬ Lib.hasPrefix (s.drop (pos + k)) [60, 63, 61] = true := by first | (rw [show Lib.hasPrefix (s.drop (pos + k)) [60, 63, 61] = false from h77]; decide) | (rw [List.drop_eq_nil_of_le (by omega)]; decide)
                    have hs : stepS s false pos T = (decide (pos + k < s.length), pos + k + 2, 0, T) := by unfold stepS; rw [if_pos rfl, hP, if_neg hb3, hIT]
                    exact ⟨(decide (pos + k < s.length), pos + k + 2, T), ⟨by simp only; omega, n, lexS_next hR hp hs, by simp only; omega⟩, by simp only; omega, [0], by simp, Nat.zero_le _, ⟨.str_eq rfl, .own_eq rfl ⟨_, _, _, _, rfl⟩ ⟨_, _, _, _, rfl⟩ rfl rfl, .bool_eq (by simp only [decide_eq_decide]; omega), .int_eq (by show _ = ((pos + k + 2 : Nat) : Int); rw [w64] <;> omega), trivial⟩, ⟨⟨fun h => absurd h (Nat.not_lt_zero _), rfl, rfl, rfl, fun i hi => fzTok rfl⟩, trivial⟩⟩
            · have h46 : ¬ pos + k < s.length := by have q := of_decide_eq_false h46; omega
              iterate 5 refine splitB.mk (fun h => absurd h (by decide)) (fun _ => ?_)
              have hns : ¬ k < ink (s.drop pos) := fun hlt => by have hq := hc.1 hlt; first | exact h46 (by have := hq.1; omega) | (rw [hb2] at hq; rw [hq.2] at h51; exact absurd h51 (by decide))
              have hk2 : ink (s.drop pos) = k := by omega
              have hP : inlP s pos = pos + k := by unfold inlP; rw [hk2]
              have cj := l14Is_ok s [60, 63, 61] (pos + k) (by omega) (by omega) (by decide)
              refine splitB.mk (fun h56 => ?_) (fun h56 => ?_)
              · have hk0 : 0 < k := by have q : ((pos + k : Nat) : Int) > (pos : Int) := of_decide_eq_true h56; omega
                have hIT : inlT s pos T = T ++ [Tk.mk 1 0 ((s.take (pos + k)).drop pos) pos] := by unfold inlT; rw [hk2, if_pos hk0, cut_eq]
                refine ⟨⟨by omega, by omega, by omega⟩, ?_⟩
                refine ⟨rfl, rfl, (show (_ + 1) * 40 ≤ 140737488355328 by first | omega | (simp only; omega)), ?_⟩
                refine splitB.mk (fun h73 => ?_) (fun h73 => ?_)
                · have h73 : pos + k < s.length := by have q := of_decide_eq_true h73; omega
                  iterate 2 refine splitB.mk (fun _ => ?_) (fun h => absurd h (by decide))
                  refine ⟨_, cj.frame0 _ rfl (fun _ => rfl), ?_⟩
                  rintro _ _ ⟨rfl, rfl⟩
                  refine splitB.mk (fun _ => ?_) (fun h => absurd h (by decide))
                  refine splitB.mk (fun h77 => ?_) (fun h77 => ?_)
                  · have hb3 : Lib.hasPrefix (s.drop (pos + k)) [60, 63, 61] = true := h77
                    have hs : stepS s false pos T = (decide (pos + k < s.length), pos + k + 3, 0, T ++ [Tk.mk 1 0 ((s.take (pos + k)).drop pos) pos] ++ [Tk.mk 3 0 echo ((pos + k : Nat) : Int)]) := by unfold stepS; rw [if_pos rfl, hP, if_pos hb3, hIT]
                    refine ⟨rfl, rfl, (show (_ + 1) * 40 ≤ 140737488355328 by first | omega | (simp only; omega)), ?_⟩
                    exact ⟨(decide (pos + k < s.length), pos + k + 3, T ++ [Tk.mk 1 0 ((s.take (pos + k)).drop pos) pos] ++ [Tk.mk 3 0 echo ((pos + k : Nat) : Int)]), ⟨by simp only [List.length_append, List.length_cons, List.length_nil]; omega, n, lexS_next hR hp hs, by simp only; omega⟩, by simp only; omega, [0], by simp, Nat.zero_le _, ⟨.str_eq rfl, .own_eq rfl ⟨_, _, _, _, rfl⟩ ⟨_, _, _, _, rfl⟩ rfl (by simp), .bool_eq (by simp only [decide_eq_decide]; omega), .int_eq (by show _ = ((pos + k + 3 : Nat) : Int); rw [w64] <;> omega), trivial⟩, ⟨⟨fun h => absurd h (Nat.not_lt_zero _), rfl, by simp, rfl, fun i hi => fzTok (tokStep (fun i => bif Nat.blt i T.length then (fun i => (tkAt T i).cells) (0 + i) else (fun jj => [(Tk.mk 1 0 ((s.take (pos + k)).drop pos) pos).cells].getD jj []) (0 + (i - T.length))) (T ++ [Tk.mk 1 0 ((s.take (pos + k)).drop pos) pos]) (Tk.mk 3 0 echo ((pos + k : Nat) : Int)) (fun jj => [(Tk.mk 3 0 echo ((pos + k : Nat) : Int)).cells].getD jj []) (T.length + 1) (by simp) (fun i hi => (tokStep (fun i => (tkAt T i).cells) T (Tk.mk 1 0 ((s.take (pos + k)).drop pos) pos) (fun jj => [(Tk.mk 1 0 ((s.take (pos + k)).drop pos) pos).cells].getD jj []) _ rfl (fun i _ => by rw [Nat.zero_add]) rfl (0 + i) (by omega)).trans (by rw [Nat.zero_add])) rfl i hi)⟩, trivial⟩⟩
                  · have hb3 : ¬ Lib.hasPrefix (s.drop (pos + k)) [60, 63, 61] = true := by first | (rw [show Lib.hasPrefix (s.drop (pos + k)) [60, 63, 61] = false from h77]; decide) | (rw [List.drop_eq_nil_of_le (by omega)]; decide)
                    have hs : stepS s false pos T = (decide (pos + k < s.length), pos + k + 2, 0, T ++ [Tk.mk 1 0 ((s.take (pos + k)).drop pos) pos]) := by unfold stepS; rw [if_pos rfl, hP, if_neg hb3, hIT]
                    exact ⟨(decide (pos + k < s.length), pos + k + 2, T ++ [Tk.mk 1 0 ((s.take (pos + k)).drop pos) pos]), ⟨by simp only [List.length_append, List.length_cons, List.length_nil]; omega, n, lexS_next hR hp hs, by simp only; omega⟩, by simp only; omega, [0], by simp, Nat.zero_le _, ⟨.str_eq rfl, .own_eq rfl ⟨_, _, _, _, rfl⟩ ⟨_, _, _, _, rfl⟩ rfl (by simp), .bool_eq (by simp only [decide_eq_decide]; omega), .int_eq (by show _ = ((pos + k + 2 : Nat) : Int); rw [w64] <;> omega), trivial⟩, ⟨⟨fun h => absurd h (Nat.not_lt_zero _), rfl, by simp, rfl, fun i hi => fzTok (tokStep (fun i => (tkAt T i).cells) T (Tk.mk 1 0 ((s.take (pos + k)).drop pos) pos) _ _ rfl (fun i _ => by rw [Nat.zero_add]) rfl i hi)⟩, trivial⟩⟩
                · have h73 : ¬ pos + k < s.length := by have q := of_decide_eq_false h73; omega
                  iterate 4 refine splitB.mk (fun h => absurd h (by decide)) (fun _ => ?_)
                  have hb3 : ¬ Lib.hasPrefix (s.drop (pos + k)) [60, 63, 61] = true := by first | (rw [show Lib.hasPrefix (s.drop (pos + k)) [60, 63, 61] = false from h77]; decide) | (rw [List.drop_eq_nil_of_le (by omega)]; decide)
                  have hs : stepS s false pos T = (decide (pos + k < s.length), pos + k + 2, 0, T ++ [Tk.mk 1 0 ((s.take (pos + k)).drop pos) pos]) := by unfold stepS; rw [if_pos rfl, hP, if_neg hb3, hIT]
                  exact ⟨(decide (pos + k < s.length), pos + k + 2, T ++ [Tk.mk 1 0 ((s.take (pos + k)).drop pos) pos]), ⟨by simp only [List.length_append, List.length_cons, List.length_nil]; omega, n, lexS_next hR hp hs, by simp only; omega⟩, by simp only; omega, [0], by simp, Nat.zero_le _, ⟨.str_eq rfl, .own_eq rfl ⟨_, _, _, _, rfl⟩ ⟨_, _, _, _, rfl⟩ rfl (by simp), .bool_eq (by simp only [decide_eq_decide]; omega), .int_eq (by show _ = ((pos + k + 2 : Nat) : Int); rw [w64] <;> omega), trivial⟩, ⟨⟨fun h => absurd h (Nat.not_lt_zero _), rfl, by simp, rfl, fun i hi => fzTok (tokStep (fun i => (tkAt T i).cells) T (Tk.mk 1 0 ((s.take (pos + k)).drop pos) pos) _ _ rfl (fun i _ => by rw [Nat.zero_add]) rfl i hi)⟩, trivial⟩⟩
              · have hk0 : ¬ 0 < k := by have q : ¬ ((pos + k : Nat) : Int) > (pos : Int) := of_decide_eq_false h56; omega
                have hIT : inlT s pos T = T := by unfold inlT; rw [hk2, if_neg hk0]
                refine splitB.mk (fun h73 => ?_) (fun h73 => ?_)
                · have h73 : pos + k < s.length := by have q := of_decide_eq_true h73; omega
                  iterate 2 refine splitB.mk (fun _ => ?_) (fun h => absurd h (by decide))
                  refine ⟨_, cj.frame0 _ rfl (fun _ => rfl), ?_⟩
                  rintro _ _ ⟨rfl, rfl⟩
                  refine splitB.mk (fun _ => ?_) (fun h => absurd h (by decide))
                  refine splitB.mk (fun h77 => ?_) (fun h77 => ?_)
                  · have hb3 : Lib.hasPrefix (s.drop (pos + k)) [60, 63, 61] = true := h77
                    have hs : stepS s false pos T = (decide (pos + k < s.length), pos + k + 3, 0, T ++ [Tk.mk 3 0 echo ((pos + k : Nat) : Int)]) := by unfold stepS; rw [if_pos rfl, hP, if_pos hb3, hIT]
                    refine ⟨rfl, rfl, (show (_ + 1) * 40 ≤ 140737488355328 by first | omega | (simp only; omega)), ?_⟩
                    exact ⟨(decide (pos + k < s.length), pos + k + 3, T ++ [Tk.mk 3 0 echo ((pos + k : Nat) : Int)]), ⟨by simp only [List.length_append, List.length_cons, List.length_nil]; omega, n, lexS_next hR hp hs, by simp only; omega⟩, by simp only; omega, [0], by simp, Nat.zero_le _, ⟨.str_eq rfl, .own_eq rfl ⟨_, _, _, _, rfl⟩ ⟨_, _, _, _, rfl⟩ rfl (by simp), .bool_eq (by simp only [decide_eq_decide]; omega), .int_eq (by show _ = ((pos + k + 3 : Nat) : Int); rw [w64] <;> omega), trivial⟩, ⟨⟨fun h => absurd h (Nat.not_lt_zero _), rfl, by simp, rfl, fun i hi => fzTok (tokStep (fun i => (tkAt T i).cells) T (Tk.mk 3 0 echo ((pos + k : Nat) : Int)) _ _ rfl (fun i _ => by rw [Nat.zero_add]) rfl i hi)⟩, trivial⟩⟩
                  · have hb3 : ¬ Lib.hasPrefix (s.drop (pos + k)) [60, 63, 61] = true := by first | (rw [show Lib.hasPrefix (s.drop (pos + k)) [60, 63, 61] = false from h77]; decide) | (rw [List.drop_eq_nil_of_le (by omega)]; decide)
                    have hs : stepS s false pos T = (decide (pos + k < s.length), pos + k + 2, 0, T) := by unfold stepS; rw [if_pos rfl, hP, if_neg hb3, hIT]
                    exact ⟨(decide (pos + k < s.length), pos + k + 2, T), ⟨by simp only; omega, n, lexS_next hR hp hs, by simp only; omega⟩, by simp only; omega, [0], by simp, Nat.zero_le _, ⟨.str_eq rfl, .own_eq rfl ⟨_, _, _, _, rfl⟩ ⟨_, _, _, _, rfl⟩ rfl rfl, .bool_eq (by simp only [decide_eq_decide]; omega), .int_eq (by show _ = ((pos + k + 2 : Nat) : Int); rw [w64] <;> omega), trivial⟩, ⟨⟨fun h => absurd h (Nat.not_lt_zero _), rfl, rfl, rfl, fun i hi => fzTok rfl⟩, trivial⟩⟩
                · have h73 : ¬ pos + k < s.length := by have q := of_decide_eq_false h73; omega
                  iterate 4 refine splitB.mk (fun h => absurd h (by decide)) (fun _ => ?_)
                  have hb3 : ¬ Lib.hasPrefix (s.drop (pos + k)) [60, 63, 61] = true := by first | (rw [show Lib.hasPrefix (s.drop (pos + k)) [60, 63, 61] = false from h77]; decide) | (rw [List.drop_eq_nil_of_le (by omega)]; decide)
                  have hs : stepS s false pos T = (decide (pos + k < s.length), pos + k + 2, 0, T) := by unfold stepS; rw [if_pos rfl, hP, if_neg hb3, hIT]
                  exact ⟨(decide (pos + k < s.length), pos + k + 2, T), ⟨by simp only; omega, n, lexS_next hR hp hs, by simp only; omega⟩, by simp only; omega, [0], by simp, Nat.zero_le _, ⟨.str_eq rfl, .own_eq rfl ⟨_, _, _, _, rfl⟩ ⟨_, _, _, _, rfl⟩ rfl rfl, .bool_eq (by simp only [decide_eq_decide]; omega), .int_eq (by show _ = ((pos + k + 2 : Nat) : Int); rw [w64] <;> omega), trivial⟩, ⟨⟨fun h => absurd h (Nat.not_lt_zero _), rfl, rfl, rfl, fun i hi => fzTok rfl⟩, trivial⟩⟩
        | true =>
          refine splitB.mk (fun h => absurd (show false = true from h) (by decide)) (fun _ => ?_)
          have ck := l14Is_ok s [63, 62] pos (by omega) (by omega) (by decide)
          refine ⟨_, ck.frame0 _ rfl (fun _ => rfl), ?_⟩
          rintro _ _ ⟨rfl, rfl⟩
          refine splitB.mk (fun h85 => ?_) (fun h85 => ?_)
          · have hb4 : Lib.hasPrefix (s.drop pos) [63, 62] = true := h85
            have hl2 : pos + 2 ≤ s.length := by have := pre_len hb4; simp at this; omega
            have e2 : IntKind.i64.wrap ((pos : Int) + 2) = ((pos + 2 : Nat) : Int) := by rw [w64] <;> omega
            have cn := l14Is_ok s [10] (pos + 2) (by omega) (by omega) (by decide)
            rw [← e2] at cn
            refine ⟨rfl, rfl, (show (_ + 1) * 40 ≤ 140737488355328 by first | omega | (simp only; omega)), ?_⟩
            refine ⟨_, cn.frame0 _ rfl (fun _ => rfl), ?_⟩
            rintro _ _ ⟨rfl, rfl⟩
            refine splitB.mk (fun h98 => ?_) (fun h98 => ?_)
            · have hE : semiEnd s pos = pos + 3 := by rw [semiEnd_is, if_pos h98]
              have hs : stepS s true pos T = (false, pos + 3, 0, T ++ [Tk.mk 6 0 [59] pos]) := by unfold stepS; rw [if_neg (by decide), if_pos hb4, hE]
              exact ⟨(false, pos + 3, T ++ [Tk.mk 6 0 [59] pos]), ⟨by simp only [List.length_append, List.length_cons, List.length_nil]; omega, n, lexS_next hR hp hs, by simp only; omega⟩, by simp only; omega, [0], by simp, Nat.zero_le _, ⟨.str_eq rfl, .own_eq rfl ⟨_, _, _, _, rfl⟩ ⟨_, _, _, _, rfl⟩ rfl (by simp), .bool_eq rfl, .int_eq (by show _ = ((pos + 3 : Nat) : Int); rw [e2, w64] <;> omega), trivial⟩, ⟨⟨fun h => absurd h (Nat.not_lt_zero _), rfl, by simp, rfl, fun i hi => fzTok (tokStep (fun i => (tkAt T i).cells) T (Tk.mk 6 0 [59] pos) _ _ rfl (fun i _ => by rw [Nat.zero_add]) rfl i hi)⟩, trivial⟩⟩
            · have hE : semiEnd s pos = pos + 2 := by rw [semiEnd_is, if_neg (by rw [h98]; decide)]
              have hs : stepS s true pos T = (false, pos + 2, 0, T ++ [Tk.mk 6 0 [59] pos]) := by unfold stepS; rw [if_neg (by decide), if_pos hb4, hE]
              exact ⟨(false, pos + 2, T ++ [Tk.mk 6 0 [59] pos]), ⟨by simp only [List.length_append, List.length_cons, List.length_nil]; omega, n, lexS_next hR hp hs, by simp only; omega⟩, by simp only; omega, [0], by simp, Nat.zero_le _, ⟨.str_eq rfl, .own_eq rfl ⟨_, _, _, _, rfl⟩ ⟨_, _, _, _, rfl⟩ rfl (by simp), .bool_eq rfl, .int_eq e2, trivial⟩, ⟨⟨fun h => absurd h (Nat.not_lt_zero _), rfl, by simp, rfl, fun i hi => fzTok (tokStep (fun i => (tkAt T i).cells) T (Tk.mk 6 0 [59] pos) _ _ rfl (fun i _ => by rw [Nat.zero_add]) rfl i hi)⟩, trivial⟩⟩
          · have hb4 : ¬ Lib.hasPrefix (s.drop pos) [63, 62] = true := by rw [show Lib.hasPrefix (s.drop pos) [63, 62] = false from h85]; decide
            have cl := l14Is_ok s [47, 47] pos (by omega) (by omega) (by decide)
            refine ⟨_, cl.frame0 _ rfl (fun _ => rfl), ?_⟩
            rintro _ _ ⟨rfl, rfl⟩
            refine splitB.mk (fun h101 => ?_) (fun h101 => ?_)
            · have hb6 : Lib.hasPrefix (s.drop pos) [47, 47] = true := h101
              have hil := cm_le (s.drop pos)
              refine LoopVC.mk Nat (fun k => [(0, .str s), (5, .own 0 0 0 T.length), (6, .bool true), (7, .int .i64 ((pos + k : Nat) : Int))]) (fun k => [rowT T]) (fun k => k ≤ cm (s.drop pos)) (fun k => cm (s.drop pos) - k) 0 (Nat.zero_le _) ?_ (fun k hk => ?_)
              · exact ⟨[0], by simp, Nat.zero_le _, ⟨.str_eq rfl, .own_eq rfl ⟨_, _, _, _, rfl⟩ ⟨_, _, _, _, rfl⟩ rfl rfl, .bool_eq rfl, .int_eq rfl, trivial⟩, ⟨⟨fun h => absurd h (Nat.not_lt_zero _), rfl, rfl, rfl, fun i hi => fzTok rfl⟩, trivial⟩⟩
              · have hc := cm_lt (s.drop pos) k hk
                have ci := l14Is_ok s [63, 62] (pos + k) (by omega) (by omega) (by decide)
                obtain ⟨b7, hb7⟩ : ∃ b7, Lib.hasPrefix (s.drop (pos + k)) [63, 62] = b7 := ⟨_, rfl⟩
                rw [hb7] at ci
                refine splitB.mk (fun h109 => ?_) (fun h109 => ?_)
                · have h109 : pos + k < s.length := by have q := of_decide_eq_true h109; omega
                  iterate 2 refine splitB.mk (fun _ => ?_) (fun h => absurd h (by decide))
                  refine ⟨⟨by first | omega | (simp only; omega), by first | omega | (simp only; omega)⟩, ?_⟩
                  iterate 2 refine splitB.mk (fun _ => ?_) (fun h => absurd h (by decide))
                  refine splitB.mk (fun h115 => ?_) (fun h115 => ?_)
                  · have h115 : ¬ (s.getD (pos + k) 0).toNat = 10 := bneT _ 10 h115
                    iterate 2 refine splitB.mk (fun _ => ?_) (fun h => absurd h (by decide))
                    refine ⟨_, ci.frame0 _ rfl (fun _ => rfl), ?_⟩
                    rintro _ _ ⟨rfl, rfl⟩
                    iterate 2 refine splitB.mk (fun _ => ?_) (fun h => absurd h (by decide))
                    refine splitB.mk (fun h120 => ?_) (fun h120 => ?_)
                    · have hlt : k < cm (s.drop pos) := hc.2 ⟨by omega, by rw [getD_drop]; exact h115, by rw [List.drop_drop, hb7]; simpa using h120⟩
                      exact ⟨k + 1, hlt, by simp only; omega, [0], by simp, Nat.zero_le _, ⟨.str_eq rfl, .own_eq rfl ⟨_, _, _, _, rfl⟩ ⟨_, _, _, _, rfl⟩ rfl rfl, .bool_eq rfl, .int_eq (by rw [w64] <;> omega), trivial⟩, ⟨⟨fun h => absurd h (Nat.not_lt_zero _), rfl, rfl, rfl, fun i hi => fzTok rfl⟩, trivial⟩⟩
                    · have hns : ¬ k < cm (s.drop pos) := fun hlt => by have hq := hc.1 hlt; rw [getD_drop, List.drop_drop, hb7] at hq; first | exact h109 (by have := hq.1; omega) | exact hq.2.1 h115 | (rw [hq.2.2] at h120; exact absurd h120 (by decide))
                      have hk2 : cm (s.drop pos) = k := by omega
                      have hk0 := cm_pos hb6
                      have hs : stepS s true pos T = (true, pos + k, 0, T) := by unfold stepS; rw [if_neg (by decide), if_neg hb4, if_pos hb6, hk2]
                      exact ⟨(true, pos + k, T), ⟨by simp only; omega, n, lexS_next hR hp hs, by simp only; omega⟩, by simp only; omega, [0], by simp, Nat.zero_le _, ⟨.str_eq rfl, .own_eq rfl ⟨_, _, _, _, rfl⟩ ⟨_, _, _, _, rfl⟩ rfl rfl, .bool_eq rfl, .int_eq rfl, trivial⟩, ⟨⟨fun h => absurd h (Nat.not_lt_zero _), rfl, rfl, rfl, fun i hi => fzTok rfl⟩, trivial⟩⟩
                  · have h115 : (s.getD (pos + k) 0).toNat = 10 := bneF _ 10 h115
                    iterate 5 refine splitB.mk (fun h => absurd h (by decide)) (fun _ => ?_)
                    have hns : ¬ k < cm (s.drop pos) := fun hlt => by have hq := hc.1 hlt; rw [getD_drop, List.drop_drop, hb7] at hq; first | exact h109 (by have := hq.1; omega) | exact hq.2.1 h115 | (rw [hq.2.2] at h120; exact absurd h120 (by decide))
                    have hk2 : cm (s.drop pos) = k := by omega
                    have hk0 := cm_pos hb6
                    have hs : stepS s true pos T = (true, pos + k, 0, T) := by unfold stepS; rw [if_neg (by decide), if_neg hb4, if_pos hb6, hk2]
                    exact ⟨(true, pos + k, T), ⟨by simp only; omega, n, lexS_next hR hp hs, by simp only; omega⟩, by simp only; omega, [0], by simp, Nat.zero_le _, ⟨.str_eq rfl, .own_eq rfl ⟨_, _, _, _, rfl⟩ ⟨_, _, _, _, rfl⟩ rfl rfl, .bool_eq rfl, .int_eq rfl, trivial⟩, ⟨⟨fun h => absurd h (Nat.not_lt_zero _), rfl, rfl, rfl, fun i hi => fzTok rfl⟩, trivial⟩⟩
                · have h109 : ¬ pos + k < s.length := by have q := of_decide_eq_false h109; omega
                  iterate 10 refine splitB.mk (fun h => absurd h (by decide)) (fun _ => ?_)
                  have hns : ¬ k < cm (s.drop pos) := fun hlt => by have hq := hc.1 hlt; rw [getD_drop, List.drop_drop, hb7] at hq; first | exact h109 (by have := hq.1; omega) | exact hq.2.1 h115 | (rw [hq.2.2] at h120; exact absurd h120 (by decide))
                  have hk2 : cm (s.drop pos) = k := by omega
                  have hk0 := cm_pos hb6
                  have hs : stepS s true pos T = (true, pos + k, 0, T) := by unfold stepS; rw [if_neg (by decide), if_neg hb4, if_pos hb6, hk2]
                  exact ⟨(true, pos + k, T), ⟨by simp only; omega, n, lexS_next hR hp hs, by simp only; omega⟩, by simp only; omega, [0], by simp, Nat.zero_le _, ⟨.str_eq rfl, .own_eq rfl ⟨_, _, _, _, rfl⟩ ⟨_, _, _, _, rfl⟩ rfl rfl, .bool_eq rfl, .int_eq rfl, trivial⟩, ⟨⟨fun h => absurd h (Nat.not_lt_zero _), rfl, rfl, rfl, fun i hi => fzTok rfl⟩, trivial⟩⟩
            · have hb6 : ¬ Lib.hasPrefix (s.drop pos) [47, 47] = true := by rw [show Lib.hasPrefix (s.drop pos) [47, 47] = false from h101]; decide
              refine ⟨⟨by first | omega | (simp only; omega), by first | omega | (simp only; omega)⟩, ?_⟩
              refine splitB.mk (fun h128 => ?_) (fun h128 => ?_)
              · have q128 : (s.getD pos 0).toNat = 32 := eqT _ 32 h128
                iterate 15 refine splitB.mk (fun _ => ?_) (fun h => absurd h (by decide))
                have hw : isWs (s.getD pos 0) := by unfold isWs; omega
                have hs : stepS s true pos T = (true, pos + 1, 0, T) := by unfold stepS; rw [if_neg (by decide), if_neg hb4, if_neg hb6, if_pos hw]
                exact ⟨(true, pos + 1, T), ⟨by simp only; omega, n, lexS_next hR hp hs, by simp only; omega⟩, by simp only; omega, [0], by simp, Nat.zero_le _, ⟨.str_eq rfl, .own_eq rfl ⟨_, _, _, _, rfl⟩ ⟨_, _, _, _, rfl⟩ rfl rfl, .bool_eq rfl, .int_eq (show IntKind.i64.wrap ((pos : Int) + 1) = ((pos + 1 : Nat) : Int) by rw [w64] <;> omega), trivial⟩, ⟨⟨fun h => absurd h (Nat.not_lt_zero _), rfl, rfl, rfl, fun i hi => fzTok rfl⟩, trivial⟩⟩
              · have n128 : ¬ (s.getD pos 0).toNat = 32 := eqF _ 32 h128
                iterate 2 refine splitB.mk (fun h => absurd h (by decide)) (fun _ => ?_)
                refine ⟨⟨by first | omega | (simp only; omega), by first | omega | (simp only; omega)⟩, ?_⟩
                iterate 2 refine splitB.mk (fun h => absurd h (by decide)) (fun _ => ?_)
                refine splitB.mk (fun h134 => ?_) (fun h134 => ?_)
                · have q134 : (s.getD pos 0).toNat = 9 := eqT _ 9 h134
                  iterate 10 refine splitB.mk (fun _ => ?_) (fun h => absurd h (by decide))
                  have hw : isWs (s.getD pos 0) := by unfold isWs; omega
                  have hs : stepS s true pos T = (true, pos + 1, 0, T) := by unfold stepS; rw [if_neg (by decide), if_neg hb4, if_neg hb6, if_pos hw]
                  exact ⟨(true, pos + 1, T), ⟨by simp only; omega, n, lexS_next hR hp hs, by simp only; omega⟩, by simp only; omega, [0], by simp, Nat.zero_le _, ⟨.str_eq rfl, .own_eq rfl ⟨_, _, _, _, rfl⟩ ⟨_, _, _, _, rfl⟩ rfl rfl, .bool_eq rfl, .int_eq (show IntKind.i64.wrap ((pos : Int) + 1) = ((pos + 1 : Nat) : Int) by rw [w64] <;> omega), trivial⟩, ⟨⟨fun h => absurd h (Nat.not_lt_zero _), rfl, rfl, rfl, fun i hi => fzTok rfl⟩, trivial⟩⟩
                · have n134 : ¬ (s.getD pos 0).toNat = 9 := eqF _ 9 h134
                  iterate 2 refine splitB.mk (fun h => absurd h (by decide)) (fun _ => ?_)
                  refine ⟨⟨by first | omega | (simp only; omega), by first | omega | (simp only; omega)⟩, ?_⟩
                  iterate 2 refine splitB.mk (fun h => absurd h (by decide)) (fun _ => ?_)
                  refine splitB.mk (fun h140 => ?_) (fun h140 => ?_)
                  · have q140 : (s.getD pos 0).toNat = 10 := eqT _ 10 h140
                    iterate 5 refine splitB.mk (fun _ => ?_) (fun h => absurd h (by decide))
                    have hw : isWs (s.getD pos 0) := by unfold isWs; omega
                    have hs : stepS s true pos T = (true, pos + 1, 0, T) := by unfold stepS; rw [if_neg (by decide), if_neg hb4, if_neg hb6, if_pos hw]
                    exact ⟨(true, pos + 1, T), ⟨by simp only; omega, n, lexS_next hR hp hs, by simp only; omega⟩, by simp only; omega, [0], by simp, Nat.zero_le _, ⟨.str_eq rfl, .own_eq rfl ⟨_, _, _, _, rfl⟩ ⟨_, _, _, _, rfl⟩ rfl rfl, .bool_eq rfl, .int_eq (show IntKind.i64.wrap ((pos : Int) + 1) = ((pos + 1 : Nat) : Int) by rw [w64] <;> omega), trivial⟩, ⟨⟨fun h => absurd h (Nat.not_lt_zero _), rfl, rfl, rfl, fun i hi => fzTok rfl⟩, trivial⟩⟩
                  · have n140 : ¬ (s.getD pos 0).toNat = 10 := eqF _ 10 h140
                    iterate 2 refine splitB.mk (fun h => absurd h (by decide)) (fun _ => ?_)
                    refine ⟨⟨by first | omega | (simp only; omega), by first | omega | (simp only; omega)⟩, ?_⟩
                    iterate 2 refine splitB.mk (fun h => absurd h (by decide)) (fun _ => ?_)
                    refine splitB.mk (fun h123 => ?_) (fun h123 => ?_)
                    · have q123 : (s.getD pos 0).toNat = 13 := eqT _ 13 h123
                      have hw : isWs (s.getD pos 0) := by unfold isWs; omega
                      have hs : stepS s true pos T = (true, pos + 1, 0, T) := by unfold stepS; rw [if_neg (by decide), if_neg hb4, if_neg hb6, if_pos hw]
                      exact ⟨(true, pos + 1, T), ⟨by simp only; omega, n, lexS_next hR hp hs, by simp only; omega⟩, by simp only; omega, [0], by simp, Nat.zero_le _, ⟨.str_eq rfl, .own_eq rfl ⟨_, _, _, _, rfl⟩ ⟨_, _, _, _, rfl⟩ rfl rfl, .bool_eq rfl, .int_eq (show IntKind.i64.wrap ((pos : Int) + 1) = ((pos + 1 : Nat) : Int) by rw [w64] <;> omega), trivial⟩, ⟨⟨fun h => absurd h (Nat.not_lt_zero _), rfl, rfl, rfl, fun i hi => fzTok rfl⟩, trivial⟩⟩
                    · have n123 : ¬ (s.getD pos 0).toNat = 13 := eqF _ 13 h123
                      have hw : ¬ isWs (s.getD pos 0) := by unfold isWs; omega
                      have ct := l14Token_ok s pos hp (by omega)
                      have hlt := fun h => stk_lt (s := s) (pos := pos) hp h
                      obtain ⟨⟨tok, e, c⟩, hx⟩ : ∃ x, stk s pos = x := ⟨_, rfl⟩
                      rw [hx] at ct hlt
                      refine ⟨_, ct.frame0 _ rfl (fun _ => rfl), ?_⟩
                      rintro _ _ ⟨rfl, rfl⟩
                      refine ⟨rfl, ?_⟩
                      refine splitB.mk (fun h29 => ?_) (fun h29 => ?_)
                      · have hc : c ≠ 0 := by simpa using h29
                        have hs : stepS s true pos T = (true, pos, c, T) := by unfold stepS; rw [if_neg (by decide), if_neg hb4, if_neg hb6, if_neg hw, hx, if_neg hc]
                        have hR2 := lexS_bad hR hp hc hs
                        exact ⟨[], .tup [slT [], .int .i64 c, .int .i64 pos], [], by simp, Nat.zero_le _, .tup_l ⟨.frz_eq (by simp) rfl rfl rfl (fun i hi => absurd hi (Nat.not_lt_zero _)) (fun i hi => absurd hi (Nat.not_lt_zero _)), .int_eq rfl, .int_eq rfl, trivial⟩, trivial, by rw [hR2]; unfold lexSV; rw [if_neg hc], rfl⟩
                      · have hc : c = 0 := by simpa using h29
                        have hlt : pos < e := hlt hc
                        have hs : stepS s true pos T = (true, e, 0, T ++ [tok]) := by unfold stepS; rw [if_neg (by decide), if_neg hb4, if_neg hb6, if_neg hw, hx, if_pos hc]
                        refine ⟨rfl, ?_⟩
                        refine ⟨rfl, rfl, (show (_ + 1) * 40 ≤ 140737488355328 by first | omega | (simp only; omega)), ?_⟩
                        exact ⟨(true, e, T ++ [tok]), ⟨by simp only [List.length_append, List.length_cons, List.length_nil]; omega, n, lexS_next hR hp hs, by simp only; omega⟩, by simp only; omega, [0], by simp, Nat.zero_le _, ⟨.str_eq rfl, .own_eq rfl ⟨_, _, _, _, rfl⟩ ⟨_, _, _, _, rfl⟩ rfl (by simp), .bool_eq rfl, .int_eq rfl, trivial⟩, ⟨⟨fun h => absurd h (Nat.not_lt_zero _), rfl, by simp, rfl, fun i hi => fzTok (tokStep (fun i => (tkAt T i).cells) T tok _ _ rfl (fun i _ => by rw [Nat.zero_add]) rfl i hi)⟩, trivial⟩⟩
      · have hp : ¬ pos < s.length := by have q := of_decide_eq_false h20; simp only at q; omega
        have hR2 := lexS_end hR hp
        exact ⟨[], .tup [slT T, .int .i64 0, .int .i64 0], [], by simp, Nat.zero_le _, .tup_l ⟨.frz_eq (by simp) rfl rfl rfl (fun i hi => rfl) (fun i hi => fzTok (by rw [Nat.zero_add])), .int_eq rfl, .int_eq rfl, trivial⟩, trivial, by rw [hR2]; rfl, rfl⟩


end Go.Am
