/- The program's UnpackImage. -/
import Derived.Test.YtkmmhfcmbjlbkaaP5
set_option linter.unusedVariables false
set_option linter.unusedSimpArgs false
namespace Go.Am
open Go Go.RowKit Go.Proofs

def UnpI (n : Nat) (x : Nat → Int) (res : PV) (h : List AObj) : Prop :=
  (goodImg n x ∧ res = .tup [.own 0 0 0 (x 0).toNat, .bool true] ∧ h = [.row 0 1 (6 * (n - 1)) 5 (ints .u8 (ubyte x))]) ∨
  (¬ goodImg n x ∧ res = .tup [.nils, .bool false] ∧ h = [])

theorem unpackI_ok (n : Nat) (hn : n ≤ 1048576) (x : Nat → Int) : ACall Try.prog 16 [.slc 1 n (ints .i64 x)] [] (UnpI n x) := by
  refine ACall.of_vc tab_ok mixed Try.func16 rfl (by kernel_rfl) _ _ _ rfl (by kernel_rfl) ?_
  refine splitB.mk (fun h => ?_) (fun h => ?_)
  · have h : (n : Int) = 0 := by simpa using h
    repeat first | refine splitB.mk (fun h => absurd h (by decide)) (fun _ => ?_) | refine splitB.mk (fun _ => ?_) (fun h => absurd h (by decide))
    refine ⟨[], .tup [.nils, .bool false], [], by simp, Nat.zero_le _, .tup_l ⟨.nils, .bool _, trivial⟩, trivial, .inr ⟨fun hg => ?_, rfl, rfl⟩⟩
    have := hg.1.1
    omega
  · have hn0 : ¬ (n : Int) = 0 := by simpa using h
    repeat first | refine splitB.mk (fun h => absurd h (by decide)) (fun _ => ?_) | refine splitB.mk (fun _ => ?_) (fun h => absurd h (by decide))
    refine ⟨⟨by omega, by omega⟩, ?_⟩
    repeat first | refine splitB.mk (fun h => absurd h (by decide)) (fun _ => ?_) | refine splitB.mk (fun _ => ?_) (fun h => absurd h (by decide))
    refine ⟨_, inRange_ok _ _ _, ?_⟩
    rintro _ _ ⟨rfl, rfl⟩
    repeat first | refine splitB.mk (fun h => absurd h (by decide)) (fun _ => ?_) | refine splitB.mk (fun _ => ?_) (fun h => absurd h (by decide))
    refine splitB.mk (fun hr => ?_) (fun hr => ?_)
    · repeat first | refine splitB.mk (fun h => absurd h (by decide)) (fun _ => ?_) | refine splitB.mk (fun _ => ?_) (fun h => absurd h (by decide))
      refine ⟨[], .tup [.nils, .bool false], [], by simp, Nat.zero_le _, .tup_l ⟨.nils, .bool _, trivial⟩, trivial, .inr ⟨fun hg => ?_, rfl, rfl⟩⟩
      obtain ⟨_, h1, h2, _⟩ := hg.1
      simp [h1, h2] at hr
    · have hr : 0 ≤ x 0 ∧ x 0 ≤ 24000 := by simpa using hr
      repeat first | refine splitB.mk (fun h => absurd h (by decide)) (fun _ => ?_) | refine splitB.mk (fun _ => ?_) (fun h => absurd h (by decide))
      refine ⟨⟨by omega, by omega⟩, ?_⟩
      repeat first | refine splitB.mk (fun h => absurd h (by decide)) (fun _ => ?_) | refine splitB.mk (fun _ => ?_) (fun h => absurd h (by decide))
      refine ⟨by decide, ?_⟩
      repeat first | refine splitB.mk (fun h => absurd h (by decide)) (fun _ => ?_) | refine splitB.mk (fun _ => ?_) (fun h => absurd h (by decide))
      have e1 : IntKind.i64.wrap (1 + IntKind.i64.wrap ((IntKind.i64.wrap (x 0 + 5)).tdiv 6)) = (x 0 + 5) / 6 + 1 := by
        rw [w64 (x := x 0 + 5) (by omega) (by omega), Int.tdiv_eq_ediv_of_nonneg (by omega), w64 (x := (x 0 + 5) / 6) (by omega) (by omega), w64 (by omega) (by omega)]
        omega
      refine splitB.mk (fun hl => ?_) (fun hl => ?_)
      · have hl : ¬ (n : Int) = (x 0 + 5) / 6 + 1 := by simpa [e1] using hl
        refine ⟨[], .tup [.nils, .bool false], [], by simp, Nat.zero_le _, .tup_l ⟨.nils, .bool _, trivial⟩, trivial, .inr ⟨fun hg => ?_, rfl, rfl⟩⟩
        exact hl hg.1.2.2.2
      · have hl : (n : Int) = (x 0 + 5) / 6 + 1 := by simpa [e1] using hl
        have hhead : headOk n x := ⟨by omega, hr.1, hr.2, hl⟩
        refine ⟨trivial, ⟨by omega, by omega⟩, ?_⟩
        refine LoopVC.mk Nat (fun k => [(0, .slc 1 n (ints .i64 x)), (4, .own 0 0 0 (6 * k)), (33, .slc 1 (n - 1) (ints .i64 fun i => x (1 + i))), (34, .int .i64 ((n - 1 : Nat) : Int)), (35, .int .i64 k)])
          (fun k => [.row 0 1 (6 * k) 5 (ints .u8 (ubyte x))]) (fun k => k + 1 ≤ n ∧ ∀ j, 1 ≤ j → j < k + 1 → wordOk (x j)) (fun k => n - k) 0 ⟨by omega, fun j _ _ => by omega⟩ ?_ (fun k hk => ?_)
        · refine ⟨[0], by simp, Nat.zero_le _, ⟨.slc_eq rfl (fun _ _ => rfl), .own_eq rfl ⟨_, _, _, _, rfl⟩ ⟨_, _, _, _, rfl⟩ rfl rfl, .slc_eq rfl (fun _ _ => rfl), .int_eq rfl, .int_eq rfl, trivial⟩, ⟨fun h => absurd h (Nat.not_lt_zero _), rfl, rfl, rfl, fun i hi => absurd hi (Nat.not_lt_zero _)⟩, trivial⟩
        · obtain ⟨hk1, hk2⟩ := hk
          refine splitB.mk (fun h => ?_) (fun h => ?_)
          · have h := of_decide_eq_true h
            refine ⟨⟨by omega, by omega⟩, ?_⟩
            have bad : ¬ wordOk (x (1 + k)) → ¬ goodImg n x := fun hw hg => hw (hg.2.1 (1 + k) (by omega) (by omega))
            refine splitB.mk (fun hr2 => ?_) (fun hr2 => ?_)
            · have hr2 : x (1 + k) < 0 := of_decide_eq_true hr2
              repeat first | refine splitB.mk (fun h => absurd h (by decide)) (fun _ => ?_) | refine splitB.mk (fun _ => ?_) (fun h => absurd h (by decide))
              refine ⟨[], .tup [.nils, .bool false], [], by simp, Nat.zero_le _, .tup_l ⟨.nils, .bool _, trivial⟩, trivial, .inr ⟨fun hg => ?_, rfl, rfl⟩⟩
              exact bad (fun hw => by have := hw.1; omega) hg
            · have hr2 : ¬ x (1 + k) < 0 := of_decide_eq_false hr2
              repeat first | refine splitB.mk (fun h => absurd h (by decide)) (fun _ => ?_) | refine splitB.mk (fun _ => ?_) (fun h => absurd h (by decide))
              refine splitB.mk (fun hr3 => ?_) (fun hr3 => ?_)
              · have hr3 : x (1 + k) ≥ 281474976710656 := of_decide_eq_true hr3
                refine ⟨[], .tup [.nils, .bool false], [], by simp, Nat.zero_le _, .tup_l ⟨.nils, .bool _, trivial⟩, trivial, .inr ⟨fun hg => ?_, rfl, rfl⟩⟩
                exact bad (fun hw => by have := hw.2; omega) hg
              · have hr3 : ¬ x (1 + k) ≥ 281474976710656 := of_decide_eq_false hr3
                have hw : wordOk (x (1 + k)) := ⟨by omega, by omega⟩
                refine LoopVC.mk Nat (fun t => [(0, .slc 1 n (ints .i64 x)), (4, .own 0 0 0 (6 * k + t)), (33, .slc 1 (n - 1) (ints .i64 fun i => x (1 + i))), (34, .int .i64 ((n - 1 : Nat) : Int)), (35, .int .i64 k), (6, .int .i64 (x (1 + k))), (7, .int .i64 (40 - 8 * (t : Int)))])
                  (fun t => [.row 0 1 (6 * k + t) 5 (ints .u8 (ubyte x))]) (fun t => t ≤ 6) (fun t => 6 - t) 0 (Nat.zero_le _) ?_ (fun t ht => ?_)
                · refine ⟨[0], by simp, Nat.zero_le _, ⟨.slc_eq rfl (fun _ _ => rfl), .own_eq rfl ⟨_, _, _, _, rfl⟩ ⟨_, _, _, _, rfl⟩ rfl rfl, .slc_eq rfl (fun _ _ => rfl), .int_eq rfl, .int_eq rfl, .int_eq rfl, .int_eq rfl, trivial⟩, ⟨fun h => absurd h (Nat.not_lt_zero _), rfl, rfl, rfl, fun i hi => ⟨.int_eq rfl, trivial⟩⟩, trivial⟩
                · refine splitB.mk (fun h1 => ?_) (fun h1 => ?_)
                  · have h1 := of_decide_eq_true h1
                    have ht5 : t ≤ 5 := by omega
                    refine ⟨by omega, ?_⟩
                    refine ⟨rfl, rfl, by omega, ?_⟩
                    refine ⟨t + 1, by omega, by omega, [0], by simp, Nat.zero_le _, ⟨.slc_eq rfl (fun _ _ => rfl), .own_eq rfl ⟨_, _, _, _, rfl⟩ ⟨_, _, _, _, rfl⟩ rfl rfl, .slc_eq rfl (fun _ _ => rfl), .int_eq rfl, .int_eq rfl, .int_eq rfl, .int_eq (by rw [w64] <;> omega), trivial⟩, ⟨fun h => absurd h (Nat.not_lt_zero _), rfl, rfl, rfl, ?_⟩, trivial⟩
                    intro i hi
                    dsimp only
                    rcases Nat.lt_or_ge i (6 * k + t) with hil | hil
                    · rw [bif_lt hil]
                      exact ⟨.int_eq (by simp), trivial⟩
                    · rw [bif_ge hil]
                      have : i = 6 * k + t := by omega
                      subst this
                      rw [Nat.sub_self]
                      refine ⟨.int_eq ?_, trivial⟩
                      show IntKind.u8.wrap ((x (1 + k)).fdiv (2 ^ min (40 - 8 * (t : Int)).toNat 64)) = ubyte x (6 * k + t)
                      rw [shr_byte' hw t ht5, IntKind.wrap_u8, ubyte, show (6 * k + t) / 6 = k by omega, show (6 * k + t) % 6 = t by omega, Nat.add_comm k 1]
                  · have h1 := of_decide_eq_false h1
                    have ht6 : t = 6 := by omega
                    subst ht6
                    refine ⟨k + 1, ⟨by omega, fun j hj1 hj2 => ?_⟩, by omega, [0], by simp, Nat.zero_le _, ⟨.slc_eq rfl (fun _ _ => rfl), .own_eq rfl ⟨_, _, _, _, rfl⟩ ⟨_, _, _, _, rfl⟩ rfl rfl, .slc_eq rfl (fun _ _ => rfl), .int_eq rfl, .int_eq (by rw [w64] <;> omega), trivial⟩, ⟨fun h => absurd h (Nat.not_lt_zero _), rfl, rfl, rfl, fun i hi => ⟨.int_eq rfl, trivial⟩⟩, trivial⟩
                    rcases Nat.lt_or_ge j (k + 1) with hjk | hjk
                    · exact hk2 j hj1 hjk
                    · have : j = 1 + k := by omega
                      subst this
                      exact hw
          · have h := of_decide_eq_false h
            have hkn : n = k + 1 := by omega
            subst hkn
            have e0 : x (Int.toNat 0) = x 0 := rfl
            refine ⟨⟨by omega, by omega⟩, rfl, trivial, ⟨by omega, by omega⟩, rfl, ?_⟩
            refine LoopVC.mk Nat (fun i => [(0, .slc 1 (k + 1) (ints .i64 x)), (4, .own 0 0 0 (6 * k)), (61, .own 0 0 (x 0).toNat (6 * k - (x 0).toNat)), (62, .int .i64 ((6 * k - (x 0).toNat : Nat) : Int)), (63, .int .i64 i)])
              (fun i => [.row 0 1 (6 * k) 5 (ints .u8 (ubyte x))]) (fun i => (x 0).toNat + i ≤ 6 * k ∧ ∀ q : Nat, (x 0).toNat ≤ q → q < (x 0).toNat + i → ubyte x q = 0) (fun i => 6 * k - i) 0 ⟨by omega, fun q h1 h2 => by omega⟩ ?_ (fun i hi => ?_)
            · refine ⟨[0], by simp, Nat.zero_le _, ⟨.slc_eq rfl (fun _ _ => rfl), .own_eq rfl ⟨_, _, _, _, rfl⟩ ⟨_, _, _, _, rfl⟩ rfl rfl, .own_eq rfl ⟨_, _, _, _, rfl⟩ ⟨_, _, _, _, rfl⟩ (by simp [e0]) rfl, .int_eq rfl, .int_eq rfl, trivial⟩, ⟨fun h => absurd h (Nat.not_lt_zero _), rfl, rfl, rfl, fun i hi => ⟨.int_eq rfl, trivial⟩⟩, trivial⟩
            · obtain ⟨hi2, hi3⟩ := hi
              refine splitB.mk (fun h4 => ?_) (fun h4 => ?_)
              · have h4 := of_decide_eq_true h4
                refine ⟨rfl, ⟨by omega, by omega⟩, rfl, splitB.mk (fun h5 => ?_) (fun h5 => ?_)⟩
                · refine ⟨[], .tup [.nils, .bool false], [], by simp, Nat.zero_le _, .tup_l ⟨.nils, .bool _, trivial⟩, trivial, .inr ⟨fun hg => ?_, rfl, rfl⟩⟩
                  have := hg.2.2 ((x 0).toNat + i) (by omega) (by omega)
                  simp [this] at h5
                · have h5 : ubyte x ((x 0).toNat + i) = 0 := by simpa using h5
                  refine ⟨i + 1, ⟨by omega, fun q hq1 hq2 => ?_⟩, by omega, [0], by simp, Nat.zero_le _, ⟨.slc_eq rfl (fun _ _ => rfl), .own_eq rfl ⟨_, _, _, _, rfl⟩ ⟨_, _, _, _, rfl⟩ rfl rfl, .own_eq rfl ⟨_, _, _, _, rfl⟩ ⟨_, _, _, _, rfl⟩ rfl rfl, .int_eq rfl, .int_eq (by rw [w64] <;> omega), trivial⟩, ⟨fun h => absurd h (Nat.not_lt_zero _), rfl, rfl, rfl, fun i hi => ⟨.int_eq rfl, trivial⟩⟩, trivial⟩
                  rcases Nat.lt_or_ge q ((x 0).toNat + i) with hqi | hqi
                  · exact hi3 q hq1 hqi
                  · have : q = (x 0).toNat + i := by omega
                    subst this
                    exact h5
              · have h4 := of_decide_eq_false h4
                refine ⟨⟨by omega, by omega⟩, ⟨by omega, by omega⟩, rfl, ⟨by omega, by omega⟩, ⟨by omega, by omega⟩, ?_⟩
                refine ⟨[0], .tup [.own 0 0 0 (x 0).toNat, .bool true], [.row 0 1 (6 * k) 5 (ints .u8 (ubyte x))], by simp, Nat.zero_le _, .tup_l ⟨.own_eq rfl ⟨_, _, _, _, rfl⟩ ⟨_, _, _, _, rfl⟩ rfl rfl, .bool _, trivial⟩, ⟨⟨fun h => absurd h (Nat.not_lt_zero _), rfl, rfl, rfl, fun i hi => ⟨.int_eq rfl, trivial⟩⟩, trivial⟩, .inl ⟨⟨hhead, hk2, fun q h1 h2 => hi3 q (by omega) (by omega)⟩, rfl, rfl⟩⟩

end Go.Am
