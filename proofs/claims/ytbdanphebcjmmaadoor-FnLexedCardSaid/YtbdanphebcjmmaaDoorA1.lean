/- Models of Go functions, and their walks. (Printed by tools/mg.py.) -/
import Derived.Test.YtbdanphebcjmmaaDoorTy
import Derived.Test.YtbdanphebcjmmaaDoorL1
set_option linter.unusedVariables false
set_option linter.unusedSimpArgs false
namespace Go.Am
open Go Go.RowKit Go.Proofs

def m_l_big (a0 : List UInt8) : Option (Bool) :=
  some (decide ((a0.length : Int) > 1048576))
theorem ok_l_big {a0 : List UInt8} {r : Bool} (h : m_l_big a0 = some r) : ACall Tryd.prog 4 [sl 1 cB a0] [] (fun res h => res = .bool r ∧ h = []) := by
  refine ACall.of_vc tabT_ok mixed Tryd.func4 rfl (by kernel_rfl) _ _ _ rfl (by kernel_rfl) ?_
  unfold m_l_big at h
  refine .direct ?_
  refine .direct ?_
  obtain rfl := Option.some.inj h
  exact ⟨[], .bool (decide ((a0.length : Int) > 1048576)), [], by decide, (show 0 ≤ 0 by decide), .bool_eq rfl, trivial, rfl, rfl⟩
theorem ok_l_bigx (a0 : List UInt8) : ACall Tryd.prog 4 [sl 1 cB a0] [] (fun res h => res = .bool (decide ((a0.length : Int) > 1048576)) ∧ h = []) := by
  refine ACall.of_vc tabT_ok mixed Tryd.func4 rfl (by kernel_rfl) _ _ _ rfl (by kernel_rfl) ?_
  refine .direct ?_
  refine .direct ?_
  exact ⟨[], .bool (decide ((a0.length : Int) > 1048576)), [], by decide, (show 0 ≤ 0 by decide), .bool_eq rfl, trivial, rfl, rfl⟩
def m36_L2 (a0 : List UInt8) (y5 : Int) (y6 : Int) : Option (Int) :=
  (if y6 < (a0.length : Int) then
    (if y6 < 4000 then
      idx a0 y6 >>= fun c11 =>
      m36_L2 a0 (bits .and .i64 (W64 ((W64 ((W64 (y5 * 137)) + (W64 ((c11.toNat : Int))))) + 11)) 1073741823) (W64 (y6 + 1))
    else
      some y5)
  else
    some y5)
partial_fixpoint
def m36 (a0 : List UInt8) : Option (TL1Cur) :=
  (
    m36_L2 a0 (W64 (193017 + (a0.length : Int))) 0
   : Option (Int)) >>= fun y1 =>
  some (TL1Cur.mk a0 0 y1)
theorem ok36 {a0 : List UInt8} {r : TL1Cur} (h : m36 a0 = some r) : ACall Tryd.prog 10 [sl 1 cB a0] [] (fun res h => res = .optr 0 0 0 0 ∧ h = [.row 0 3 1 43 (fun _ => [sl 1 cB r.fB, .int .i64 r.fI, .int .i64 r.fH])]) := by
  refine ACall.of_vc tabT_ok mixed Tryd.func10 rfl (by kernel_rfl) _ _ _ rfl (by kernel_rfl) ?_
  unfold m36 at h
  refine .direct ?_
  refine .direct ?_
  obtain ⟨o2, ho3, hk4⟩ := bind_some h
  replace h := ho3
  refine .cut (fun σ η => ∃ y1, y1 = o2 ∧ σ = [(0, sl 1 cB a0), (3, .int .i64 y1)] ∧ η = []) ?_ ?_
  · refine .direct ?_
    refine LoopAt.enter [(0, sl 1 cB a0), (3, .int .i64 (W64 (193017 + (a0.length : Int)))), (4, .int .i64 0)] [] ⟨[], by decide, (show 0 ≤ 0 by decide), ⟨.slc_eq rfl (fun _ _ => rfl), .int_eq rfl, .int_eq rfl, trivial⟩, trivial⟩ ?_
    refine m36_L2.partial_correctness a0 (motive := fun y5 y6 o13 => o2 = o13 → LoopAt _ _ [(0, sl 1 cB a0), (3, .int .i64 y5), (4, .int .i64 y6)] []) ?_ (W64 (193017 + (a0.length : Int))) 0 o2 h rfl
    intro F8 ih7 y5 y6 o13 h hr14
    subst hr14
    refine LoopAt.round ?_
    refine .direct ?_
    refine .direct ?_
    refine splitB.mk (fun hb9 => ?_) (fun hb9 => ?_)
    · replace h := T_dec hb9 h
      refine splitB_t ?_
      refine splitB_t ?_
      refine splitB.mk (fun hb10 => ?_) (fun hb10 => ?_)
      · replace h := T_dec hb10 h
        refine .direct ?_
        obtain ⟨c11, hx12, h⟩ := bind_some h
        refine ⟨idx_bd hx12, _, (idx_row hx12).trans rfl, ?_⟩
        exact ⟨[(0, sl 1 cB a0), (3, .int .i64 (bits .and .i64 (W64 ((W64 ((W64 (y5 * 137)) + (W64 ((c11.toNat : Int))))) + 11)) 1073741823)), (4, .int .i64 (W64 (y6 + 1)))], [], ⟨[], by decide, (show 0 ≤ 0 by decide), ⟨.slc_eq rfl (fun _ _ => rfl), .int_eq rfl, .int_eq rfl, trivial⟩, trivial⟩, ih7 _ _ _ h rfl⟩
      · replace h := F_dec hb10 h
        exact ⟨[(0, sl 1 cB a0), (3, .int .i64 y5)], [], ⟨[], by decide, (show 0 ≤ 0 by decide), ⟨.slc_eq rfl (fun _ _ => rfl), .int_eq rfl, trivial⟩, trivial⟩, y5, Option.some.inj h, rfl, rfl⟩
    · replace h := F_dec hb9 h
      refine splitB_f ?_
      refine splitB_f ?_
      refine splitB_f ?_
      exact ⟨[(0, sl 1 cB a0), (3, .int .i64 y5)], [], ⟨[], by decide, (show 0 ≤ 0 by decide), ⟨.slc_eq rfl (fun _ _ => rfl), .int_eq rfl, trivial⟩, trivial⟩, y5, Option.some.inj h, rfl, rfl⟩
  · rintro _ _ ⟨y1, rfl, rfl, rfl⟩
    replace h := hk4
    refine .direct ?_
    obtain rfl := Option.some.inj h
    exact ⟨[0], .optr 0 0 0 0, [.row 0 3 1 43 (fun _ => [sl 1 cB ((TL1Cur.mk a0 0 y1).fB), .int .i64 ((TL1Cur.mk a0 0 y1).fI), .int .i64 ((TL1Cur.mk a0 0 y1).fH)])], by decide, (show 0 ≤ 1 by decide), .optr_eq rfl ⟨_, _, _, _, rfl⟩ ⟨_, _, _, _, rfl⟩ rfl rfl, ⟨⟨fun h0 => absurd (show 0 < 0 from h0) (by decide), rfl, rfl, rfl, fun _ _ => ⟨.slc_eq rfl (fun _ _ => rfl), .int_eq rfl, .int_eq rfl, trivial⟩⟩, trivial⟩, rfl, rfl⟩
def m72 (a0 : TL1Cur) : Option (Int × TL1Cur) :=
  (if a0.fI < (a0.fB.length : Int) then
    idx a0.fB a0.fI >>= fun c2 =>
    some (bits .and .i64 (W64 ((bits .and .i64 (bits .xor .i64 ((W64 ((W64 (a0.fH * 6364136223846793005)) + 1442695040888963407)).fdiv (2 ^ min (33 : Int).toNat IntKind.i64.bits)) ((W64 ((W64 (a0.fH * 6364136223846793005)) + 1442695040888963407)).fdiv (2 ^ min (47 : Int).toNat IntKind.i64.bits))) 255) + (W64 ((c2.toNat : Int))))) 255, (TL1Cur.mk a0.fB (W64 (a0.fI + 1)) (W64 ((W64 (a0.fH * 6364136223846793005)) + 1442695040888963407))))
  else
    some (bits .and .i64 (bits .xor .i64 ((W64 ((W64 (a0.fH * 6364136223846793005)) + 1442695040888963407)).fdiv (2 ^ min (33 : Int).toNat IntKind.i64.bits)) ((W64 ((W64 (a0.fH * 6364136223846793005)) + 1442695040888963407)).fdiv (2 ^ min (47 : Int).toNat IntKind.i64.bits))) 255, (TL1Cur.mk a0.fB a0.fI (W64 ((W64 (a0.fH * 6364136223846793005)) + 1442695040888963407)))))
theorem ok72 {a0 : TL1Cur} {r : Int × TL1Cur} {g1000 : Nat} (h : m72 a0 = some r) : ACall Tryd.prog 19 [.optr 0 g1000 0 0] [.row g1000 3 1 43 (fun _ => [sl 1 cB a0.fB, .int .i64 a0.fI, .int .i64 a0.fH])] (fun res h => res = .int .i64 r.1 ∧ h = [.row g1000 3 1 43 (fun _ => [sl 1 cB r.2.fB, .int .i64 r.2.fI, .int .i64 r.2.fH])]) := by
  refine ACall.of_vc tabT_ok mixed Tryd.func19 rfl (by kernel_rfl) _ _ _ rfl (by kernel_rfl) ?_
  unfold m72 at h
  refine .direct ?_
  refine .direct ?_
  refine ⟨rfl, ?_⟩
  refine ⟨rfl, ?_⟩
  refine ⟨rfl, _, rfl, ?_⟩
  refine ⟨rfl, ?_⟩
  refine ⟨rfl, ?_⟩
  refine ⟨rfl, _, fun _ => [sl 1 cB a0.fB, .int .i64 a0.fI, .int .i64 (W64 ((W64 (a0.fH * 6364136223846793005)) + 1442695040888963407))], rfl, one_set rfl, ?_⟩
  refine .direct ?_
  refine ⟨rfl, ?_⟩
  refine ⟨rfl, ?_⟩
  refine ⟨rfl, _, rfl, ?_⟩
  refine ⟨by decide, ?_⟩
  refine ⟨rfl, ?_⟩
  refine ⟨rfl, ?_⟩
  refine ⟨rfl, _, rfl, ?_⟩
  refine ⟨by decide, ?_⟩
  refine .direct ?_
  refine .direct ?_
  refine ⟨rfl, ?_⟩
  refine ⟨rfl, ?_⟩
  refine ⟨rfl, _, rfl, ?_⟩
  refine ⟨rfl, ?_⟩
  refine ⟨rfl, ?_⟩
  refine ⟨rfl, _, rfl, ?_⟩
  refine splitB.mk (fun hb1 => ?_) (fun hb1 => ?_)
  · replace h := T_dec hb1 h
    refine .direct ?_
    refine ⟨rfl, ?_⟩
    refine ⟨rfl, ?_⟩
    refine ⟨rfl, _, rfl, ?_⟩
    refine ⟨rfl, ?_⟩
    refine ⟨rfl, ?_⟩
    refine ⟨rfl, _, rfl, ?_⟩
    obtain ⟨c2, hx3, h⟩ := bind_some h
    refine ⟨idx_bd hx3, _, (idx_row hx3).trans rfl, ?_⟩
    refine ⟨rfl, ?_⟩
    refine ⟨rfl, ?_⟩
    refine ⟨rfl, _, rfl, ?_⟩
    refine ⟨rfl, ?_⟩
    refine ⟨rfl, ?_⟩
    refine ⟨rfl, _, fun _ => [sl 1 cB a0.fB, .int .i64 (W64 (a0.fI + 1)), .int .i64 (W64 ((W64 (a0.fH * 6364136223846793005)) + 1442695040888963407))], rfl, one_set rfl, ?_⟩
    refine .direct ?_
    obtain rfl := Option.some.inj h
    exact ⟨[0], .int .i64 (bits .and .i64 (W64 ((bits .and .i64 (bits .xor .i64 ((W64 ((W64 (a0.fH * 6364136223846793005)) + 1442695040888963407)).fdiv (2 ^ min (33 : Int).toNat IntKind.i64.bits)) ((W64 ((W64 (a0.fH * 6364136223846793005)) + 1442695040888963407)).fdiv (2 ^ min (47 : Int).toNat IntKind.i64.bits))) 255) + (W64 ((c2.toNat : Int))))) 255), [.row g1000 3 1 43 (fun _ => [sl 1 cB ((TL1Cur.mk a0.fB (W64 (a0.fI + 1)) (W64 ((W64 (a0.fH * 6364136223846793005)) + 1442695040888963407))).fB), .int .i64 ((TL1Cur.mk a0.fB (W64 (a0.fI + 1)) (W64 ((W64 (a0.fH * 6364136223846793005)) + 1442695040888963407))).fI), .int .i64 ((TL1Cur.mk a0.fB (W64 (a0.fI + 1)) (W64 ((W64 (a0.fH * 6364136223846793005)) + 1442695040888963407))).fH)])], by decide, (show 1 ≤ 1 by decide), .int_eq rfl, ⟨⟨fun _ => ⟨rfl, rfl⟩, rfl, rfl, rfl, fun _ _ => ⟨.slc_eq rfl (fun _ _ => rfl), .int_eq rfl, .int_eq rfl, trivial⟩⟩, trivial⟩, rfl, rfl⟩
  · replace h := F_dec hb1 h
    refine .direct ?_
    obtain rfl := Option.some.inj h
    exact ⟨[0], .int .i64 (bits .and .i64 (bits .xor .i64 ((W64 ((W64 (a0.fH * 6364136223846793005)) + 1442695040888963407)).fdiv (2 ^ min (33 : Int).toNat IntKind.i64.bits)) ((W64 ((W64 (a0.fH * 6364136223846793005)) + 1442695040888963407)).fdiv (2 ^ min (47 : Int).toNat IntKind.i64.bits))) 255), [.row g1000 3 1 43 (fun _ => [sl 1 cB ((TL1Cur.mk a0.fB a0.fI (W64 ((W64 (a0.fH * 6364136223846793005)) + 1442695040888963407))).fB), .int .i64 ((TL1Cur.mk a0.fB a0.fI (W64 ((W64 (a0.fH * 6364136223846793005)) + 1442695040888963407))).fI), .int .i64 ((TL1Cur.mk a0.fB a0.fI (W64 ((W64 (a0.fH * 6364136223846793005)) + 1442695040888963407))).fH)])], by decide, (show 1 ≤ 1 by decide), .int_eq rfl, ⟨⟨fun _ => ⟨rfl, rfl⟩, rfl, rfl, rfl, fun _ _ => ⟨.slc_eq rfl (fun _ _ => rfl), .int_eq rfl, .int_eq rfl, trivial⟩⟩, trivial⟩, rfl, rfl⟩
def m40 (a0 : TL1Cur) (a1 : Int) : Option (Int × TL1Cur) :=
  (if a1 ≤ 0 then
    some (0, a0)
  else
    (if a1 ≤ 256 then
      m72 a0 >>= fun (v3, v4) =>
      must (a1 ≠ 0) >>= fun _ =>
      some (v3.tmod a1, v4)
    else
      m72 a0 >>= fun (v7, v8) =>
      m72 v8 >>= fun (v10, v11) =>
      m72 v11 >>= fun (v13, v14) =>
      must (a1 ≠ 0) >>= fun _ =>
      some ((W64 ((W64 ((W64 (v7 * 65536)) + (W64 (v10 * 256)))) + v13)).tmod a1, v14)))
theorem ok40 {a0 : TL1Cur} {a1 : Int} {r : Int × TL1Cur} {g1000 : Nat} (h : m40 a0 a1 = some r) : ACall Tryd.prog 14 [.optr 0 g1000 0 0, .int .i64 a1] [.row g1000 3 1 43 (fun _ => [sl 1 cB a0.fB, .int .i64 a0.fI, .int .i64 a0.fH])] (fun res h => res = .int .i64 r.1 ∧ h = [.row g1000 3 1 43 (fun _ => [sl 1 cB r.2.fB, .int .i64 r.2.fI, .int .i64 r.2.fH])]) := by
  refine ACall.of_vc tabT_ok mixed Tryd.func14 rfl (by kernel_rfl) _ _ _ rfl (by kernel_rfl) ?_
  unfold m40 at h
  refine .direct ?_
  refine .direct ?_
  refine .direct ?_
  refine splitB.mk (fun hb1 => ?_) (fun hb1 => ?_)
  · replace h := T_dec hb1 h
    refine .direct ?_
    obtain rfl := Option.some.inj h
    exact ⟨[0], .int .i64 0, [.row g1000 3 1 43 (fun _ => [sl 1 cB a0.fB, .int .i64 a0.fI, .int .i64 a0.fH])], by decide, (show 1 ≤ 1 by decide), .int_eq rfl, ⟨⟨fun _ => ⟨rfl, rfl⟩, rfl, rfl, rfl, fun _ _ => ⟨.slc_eq rfl (fun _ _ => rfl), .int_eq rfl, .int_eq rfl, trivial⟩⟩, trivial⟩, rfl, rfl⟩
  · replace h := F_dec hb1 h
    refine .direct ?_
    refine .direct ?_
    refine splitB.mk (fun hb2 => ?_) (fun hb2 => ?_)
    · replace h := T_dec hb2 h
      refine .direct ?_
      obtain ⟨⟨v3, v4⟩, hv5, h⟩ := bind_some h
      refine ⟨fun res h' => res = .int .i64 v3 ∧ h' = [.row g1000 3 1 43 (fun _ => [sl 1 cB v4.fB, .int .i64 v4.fI, .int .i64 v4.fH])], (ACall.over (ok72 (g1000 := g1000) hv5) [0] [.row g1000 3 1 43 (fun _ => [sl 1 cB a0.fB, .int .i64 a0.fI, .int .i64 a0.fH])] rfl (by decide) (by simp) (by intro j o hj; exact match j, hj with | 0, hj => by cases hj; rfl | j + 1, hj => by cases hj) rfl).mono (by rintro _ _ ⟨_, _, ⟨rfl, rfl⟩, rfl, rfl⟩; exact ⟨rfl, rfl⟩), ?_⟩
      rintro _ _ ⟨rfl, rfl⟩
      obtain ⟨_, hm6, h⟩ := bind_some h
      refine ⟨must_some hm6, ?_⟩
      obtain rfl := Option.some.inj h
      exact ⟨[0], .int .i64 (v3.tmod a1), [.row g1000 3 1 43 (fun _ => [sl 1 cB v4.fB, .int .i64 v4.fI, .int .i64 v4.fH])], by decide, (show 1 ≤ 1 by decide), .int_eq rfl, ⟨⟨fun _ => ⟨rfl, rfl⟩, rfl, rfl, rfl, fun _ _ => ⟨.slc_eq rfl (fun _ _ => rfl), .int_eq rfl, .int_eq rfl, trivial⟩⟩, trivial⟩, rfl, rfl⟩
    · replace h := F_dec hb2 h
      refine .direct ?_
      obtain ⟨⟨v7, v8⟩, hv9, h⟩ := bind_some h
      refine ⟨fun res h' => res = .int .i64 v7 ∧ h' = [.row g1000 3 1 43 (fun _ => [sl 1 cB v8.fB, .int .i64 v8.fI, .int .i64 v8.fH])], (ACall.over (ok72 (g1000 := g1000) hv9) [0] [.row g1000 3 1 43 (fun _ => [sl 1 cB a0.fB, .int .i64 a0.fI, .int .i64 a0.fH])] rfl (by decide) (by simp) (by intro j o hj; exact match j, hj with | 0, hj => by cases hj; rfl | j + 1, hj => by cases hj) rfl).mono (by rintro _ _ ⟨_, _, ⟨rfl, rfl⟩, rfl, rfl⟩; exact ⟨rfl, rfl⟩), ?_⟩
      rintro _ _ ⟨rfl, rfl⟩
      refine .direct ?_
      obtain ⟨⟨v10, v11⟩, hv12, h⟩ := bind_some h
      refine ⟨fun res h' => res = .int .i64 v10 ∧ h' = [.row g1000 3 1 43 (fun _ => [sl 1 cB v11.fB, .int .i64 v11.fI, .int .i64 v11.fH])], (ACall.over (ok72 (g1000 := g1000) hv12) [0] [.row g1000 3 1 43 (fun _ => [sl 1 cB v8.fB, .int .i64 v8.fI, .int .i64 v8.fH])] rfl (by decide) (by simp) (by intro j o hj; exact match j, hj with | 0, hj => by cases hj; rfl | j + 1, hj => by cases hj) rfl).mono (by rintro _ _ ⟨_, _, ⟨rfl, rfl⟩, rfl, rfl⟩; exact ⟨rfl, rfl⟩), ?_⟩
      rintro _ _ ⟨rfl, rfl⟩
      refine .direct ?_
      obtain ⟨⟨v13, v14⟩, hv15, h⟩ := bind_some h
      refine ⟨fun res h' => res = .int .i64 v13 ∧ h' = [.row g1000 3 1 43 (fun _ => [sl 1 cB v14.fB, .int .i64 v14.fI, .int .i64 v14.fH])], (ACall.over (ok72 (g1000 := g1000) hv15) [0] [.row g1000 3 1 43 (fun _ => [sl 1 cB v11.fB, .int .i64 v11.fI, .int .i64 v11.fH])] rfl (by decide) (by simp) (by intro j o hj; exact match j, hj with | 0, hj => by cases hj; rfl | j + 1, hj => by cases hj) rfl).mono (by rintro _ _ ⟨_, _, ⟨rfl, rfl⟩, rfl, rfl⟩; exact ⟨rfl, rfl⟩), ?_⟩
      rintro _ _ ⟨rfl, rfl⟩
      refine .direct ?_
      obtain ⟨_, hm16, h⟩ := bind_some h
      refine ⟨must_some hm16, ?_⟩
      obtain rfl := Option.some.inj h
      exact ⟨[0], .int .i64 ((W64 ((W64 ((W64 (v7 * 65536)) + (W64 (v10 * 256)))) + v13)).tmod a1), [.row g1000 3 1 43 (fun _ => [sl 1 cB v14.fB, .int .i64 v14.fI, .int .i64 v14.fH])], by decide, (show 1 ≤ 1 by decide), .int_eq rfl, ⟨⟨fun _ => ⟨rfl, rfl⟩, rfl, rfl, rfl, fun _ _ => ⟨.slc_eq rfl (fun _ _ => rfl), .int_eq rfl, .int_eq rfl, trivial⟩⟩, trivial⟩, rfl, rfl⟩
def m37 (a0 : TL1Cur) (a1 : Int) : Option (Bool × TL1Cur) :=
  m40 a0 a1 >>= fun (v1, v2) =>
  some ((v1 == 0), v2)
theorem ok37 {a0 : TL1Cur} {a1 : Int} {r : Bool × TL1Cur} {g1000 : Nat} (h : m37 a0 a1 = some r) : ACall Tryd.prog 11 [.optr 0 g1000 0 0, .int .i64 a1] [.row g1000 3 1 43 (fun _ => [sl 1 cB a0.fB, .int .i64 a0.fI, .int .i64 a0.fH])] (fun res h => res = .bool r.1 ∧ h = [.row g1000 3 1 43 (fun _ => [sl 1 cB r.2.fB, .int .i64 r.2.fI, .int .i64 r.2.fH])]) := by
  refine ACall.of_vc tabT_ok mixed Tryd.func11 rfl (by kernel_rfl) _ _ _ rfl (by kernel_rfl) ?_
  unfold m37 at h
  refine .direct ?_
  refine .direct ?_
  obtain ⟨⟨v1, v2⟩, hv3, h⟩ := bind_some h
  refine ⟨fun res h' => res = .int .i64 v1 ∧ h' = [.row g1000 3 1 43 (fun _ => [sl 1 cB v2.fB, .int .i64 v2.fI, .int .i64 v2.fH])], (ACall.over (ok40 (g1000 := g1000) hv3) [0] [.row g1000 3 1 43 (fun _ => [sl 1 cB a0.fB, .int .i64 a0.fI, .int .i64 a0.fH])] rfl (by decide) (by simp) (by intro j o hj; exact match j, hj with | 0, hj => by cases hj; rfl | j + 1, hj => by cases hj) rfl).mono (by rintro _ _ ⟨_, _, ⟨rfl, rfl⟩, rfl, rfl⟩; exact ⟨rfl, rfl⟩), ?_⟩
  rintro _ _ ⟨rfl, rfl⟩
  obtain rfl := Option.some.inj h
  exact ⟨[0], .bool (v1 == 0), [.row g1000 3 1 43 (fun _ => [sl 1 cB v2.fB, .int .i64 v2.fI, .int .i64 v2.fH])], by decide, (show 1 ≤ 1 by decide), .bool_eq rfl, ⟨⟨fun _ => ⟨rfl, rfl⟩, rfl, rfl, rfl, fun _ _ => ⟨.slc_eq rfl (fun _ _ => rfl), .int_eq rfl, .int_eq rfl, trivial⟩⟩, trivial⟩, rfl, rfl⟩
def m39 (a0 : TL1Cur) (a1 : List Str) : Option (Str × TL1Cur) :=
  m40 a0 (a1.length : Int) >>= fun (v1, v2) =>
  idx a1 v1 >>= fun x4 =>
  some (x4, v2)
theorem ok39 {a0 : TL1Cur} {a1 : List Str} {r : Str × TL1Cur} {g1000 : Nat} {g1001 : Nat} (h : m39 a0 a1 = some r) : ACall Tryd.prog 13 [.optr 0 g1000 0 0, .own 1 g1001 0 a1.length] [.row g1000 3 1 43 (fun _ => [sl 1 cB a0.fB, .int .i64 a0.fI, .int .i64 a0.fH]), .row g1001 1 a1.length 9 (row cS a1)] (fun res h => res = .str r.1 ∧ h = [.row g1000 3 1 43 (fun _ => [sl 1 cB r.2.fB, .int .i64 r.2.fI, .int .i64 r.2.fH]), .row g1001 1 a1.length 9 (row cS a1)]) := by
  refine ACall.of_vc tabT_ok mixed Tryd.func13 rfl (by kernel_rfl) _ _ _ rfl (by kernel_rfl) ?_
  unfold m39 at h
  refine .direct ?_
  refine .direct ?_
  refine ⟨rfl, ?_⟩
  obtain ⟨⟨v1, v2⟩, hv3, h⟩ := bind_some h
  refine ⟨fun res h' => res = .int .i64 v1 ∧ h' = [.row g1000 3 1 43 (fun _ => [sl 1 cB v2.fB, .int .i64 v2.fI, .int .i64 v2.fH]), .row g1001 1 a1.length 9 (row cS a1)], (ACall.over (ok40 (g1000 := g1000) hv3) [0] [.row g1000 3 1 43 (fun _ => [sl 1 cB a0.fB, .int .i64 a0.fI, .int .i64 a0.fH]), .row g1001 1 a1.length 9 (row cS a1)] rfl (by decide) (by simp) (by intro j o hj; exact match j, hj with | 0, hj => by cases hj; rfl | j + 1, hj => by cases hj) rfl).mono (by rintro _ _ ⟨_, _, ⟨rfl, rfl⟩, rfl, rfl⟩; exact ⟨rfl, rfl⟩), ?_⟩
  rintro _ _ ⟨rfl, rfl⟩
  obtain ⟨x4, hx5, h⟩ := bind_some h
  refine ⟨rfl, idx_bd hx5, _, Nat.zero_add _, ?_⟩
  refine ⟨rfl, _, ((idx_row hx5).trans rfl), ?_⟩
  obtain rfl := Option.some.inj h
  exact ⟨[0, 1], .str x4, [.row g1000 3 1 43 (fun _ => [sl 1 cB v2.fB, .int .i64 v2.fI, .int .i64 v2.fH]), .row g1001 1 a1.length 9 (row cS a1)], by decide, (show 2 ≤ 2 by decide), .str_eq rfl, ⟨⟨fun _ => ⟨rfl, rfl⟩, rfl, rfl, rfl, fun _ _ => ⟨.slc_eq rfl (fun _ _ => rfl), .int_eq rfl, .int_eq rfl, trivial⟩⟩, ⟨fun _ => ⟨rfl, rfl⟩, rfl, rfl, rfl, fz_row cS_pure⟩, trivial⟩, rfl, rfl⟩
def m_s_l14Code_L2 (l11 : List UInt8) (y12 : Int) (y13 : Int) (s14 : Str) (y15 : Int) : Option (Str × (List UInt8) × Int × Int) :=
  (if y15 > 0 then
    m39 (TL1Cur.mk l11 y12 y13) ([[36, 97], [32], [120, 49], [49, 50], [39, 97, 39], [39, 105, 116, 92, 39, 115, 39], [39, 92, 92, 39], [61, 61], [61, 61, 61], [61, 62], [60, 61, 62], [45, 62], [63], [63, 62], [63, 62, 10], [60, 63], [60, 63, 61], [47, 47, 99, 10], [47, 47, 32, 113], [10], [43], [33], [38, 38], [58, 58], [48], [48, 48, 55], [49, 48, 48, 48, 48, 48, 48, 48, 48, 49], [36], [39], [35], [91], [93], [60], [104, 105], [9]] : List Str) >>= fun (v19, v20) =>
    scat s14 v19 >>= fun s22 =>
    m_s_l14Code_L2 v20.fB v20.fI v20.fH s22 (W64 (y15 - 1))
  else
    some (s14, l11, y12, y13))
partial_fixpoint
def m_s_l14Code (a0 : TL1Cur) : Option (Str × TL1Cur) :=
  (
    m40 a0 9 >>= fun (v8, v9) =>
    m_s_l14Code_L2 v9.fB v9.fI v9.fH [] v8
   : Option (Str × (List UInt8) × Int × Int)) >>= fun (s1, l2, y3, y4) =>
  some (s1, (TL1Cur.mk l2 y3 y4))
theorem ok_s_l14Code {a0 : TL1Cur} {r : Str × TL1Cur} {g1000 : Nat} (h : m_s_l14Code a0 = some r) : ACall Tryd.prog 12 [.optr 0 g1000 0 0] [.row g1000 3 1 43 (fun _ => [sl 1 cB a0.fB, .int .i64 a0.fI, .int .i64 a0.fH])] (fun res h => res = .str r.1 ∧ h = [.row g1000 3 1 43 (fun _ => [sl 1 cB r.2.fB, .int .i64 r.2.fI, .int .i64 r.2.fH])]) := by
  refine ACall.of_vc tabT_ok mixed Tryd.func12 rfl (by kernel_rfl) _ _ _ rfl (by kernel_rfl) ?_
  unfold m_s_l14Code at h
  refine .direct ?_
  refine .direct ?_
  obtain ⟨o5, ho6, hk7⟩ := bind_some h
  replace h := ho6
  refine .cut (fun σ η => ∃ s1, ∃ l2, ∃ y3, ∃ y4, (s1, l2, y3, y4) = o5 ∧ σ = [(3, .str s1)] ∧ η = [.row g1000 3 1 43 (fun _ => [sl 1 cB l2, .int .i64 y3, .int .i64 y4])]) ?_ ?_
  · refine .direct ?_
    obtain ⟨⟨v8, v9⟩, hv10, h⟩ := bind_some h
    refine ⟨fun res h' => res = .int .i64 v8 ∧ h' = [.row g1000 3 1 43 (fun _ => [sl 1 cB v9.fB, .int .i64 v9.fI, .int .i64 v9.fH])], (ACall.over (ok40 (g1000 := g1000) hv10) [0] [.row g1000 3 1 43 (fun _ => [sl 1 cB a0.fB, .int .i64 a0.fI, .int .i64 a0.fH])] rfl (by decide) (by simp) (by intro j o hj; exact match j, hj with | 0, hj => by cases hj; rfl | j + 1, hj => by cases hj) rfl).mono (by rintro _ _ ⟨_, _, ⟨rfl, rfl⟩, rfl, rfl⟩; exact ⟨rfl, rfl⟩), ?_⟩
    rintro _ _ ⟨rfl, rfl⟩
    refine LoopAt.enter [(0, .optr 0 g1000 0 0), (3, .str []), (4, .int .i64 v8)] [.row g1000 3 1 43 (fun _ => [sl 1 cB v9.fB, .int .i64 v9.fI, .int .i64 v9.fH])] ⟨[0], by decide, (show 1 ≤ 1 by decide), ⟨.optr_eq rfl ⟨_, _, _, _, rfl⟩ ⟨_, _, _, _, rfl⟩ rfl rfl, .str_eq rfl, .int_eq rfl, trivial⟩, ⟨⟨fun _ => ⟨rfl, rfl⟩, rfl, rfl, rfl, fun _ _ => ⟨.slc_eq rfl (fun _ _ => rfl), .int_eq rfl, .int_eq rfl, trivial⟩⟩, trivial⟩⟩ ?_
    refine m_s_l14Code_L2.partial_correctness  (motive := fun l11 y12 y13 s14 y15 o24 => o5 = o24 → LoopAt _ _ [(0, .optr 0 g1000 0 0), (3, .str s14), (4, .int .i64 y15)] [.row g1000 3 1 43 (fun _ => [sl 1 cB l11, .int .i64 y12, .int .i64 y13])]) ?_ v9.fB v9.fI v9.fH [] v8 o5 h rfl
    intro F17 ih16 l11 y12 y13 s14 y15 o24 h hr25
    subst hr25
    refine LoopAt.round ?_
    refine .direct ?_
    refine .direct ?_
    refine splitB.mk (fun hb18 => ?_) (fun hb18 => ?_)
    · replace h := T_dec hb18 h
      refine .direct ?_
      refine ⟨row cS ([[36, 97], [32], [120, 49], [49, 50], [39, 97, 39], [39, 105, 116, 92, 39, 115, 39], [39, 92, 92, 39], [61, 61], [61, 61, 61], [61, 62], [60, 61, 62], [45, 62], [63], [63, 62], [63, 62, 10], [60, 63], [60, 63, 61], [47, 47, 99, 10], [47, 47, 32, 113], [10], [43], [33], [38, 38], [58, 58], [48], [48, 48, 55], [49, 48, 48, 48, 48, 48, 48, 48, 48, 49], [36], [39], [35], [91], [93], [60], [104, 105], [9]] : List Str), row_lit cS ([[36, 97], [32], [120, 49], [49, 50], [39, 97, 39], [39, 105, 116, 92, 39, 115, 39], [39, 92, 92, 39], [61, 61], [61, 61, 61], [61, 62], [60, 61, 62], [45, 62], [63], [63, 62], [63, 62, 10], [60, 63], [60, 63, 61], [47, 47, 99, 10], [47, 47, 32, 113], [10], [43], [33], [38, 38], [58, 58], [48], [48, 48, 55], [49, 48, 48, 48, 48, 48, 48, 48, 48, 49], [36], [39], [35], [91], [93], [60], [104, 105], [9]] : List Str) rfl (cll_refl rfl), ?_⟩
      obtain ⟨⟨v19, v20⟩, hv21, h⟩ := bind_some h
      refine ⟨fun res h' => res = .str v19 ∧ h' = [.row g1000 3 1 43 (fun _ => [sl 1 cB v20.fB, .int .i64 v20.fI, .int .i64 v20.fH]), .row 0 1 ([[36, 97], [32], [120, 49], [49, 50], [39, 97, 39], [39, 105, 116, 92, 39, 115, 39], [39, 92, 92, 39], [61, 61], [61, 61, 61], [61, 62], [60, 61, 62], [45, 62], [63], [63, 62], [63, 62, 10], [60, 63], [60, 63, 61], [47, 47, 99, 10], [47, 47, 32, 113], [10], [43], [33], [38, 38], [58, 58], [48], [48, 48, 55], [49, 48, 48, 48, 48, 48, 48, 48, 48, 49], [36], [39], [35], [91], [93], [60], [104, 105], [9]] : List Str).length 9 (row cS ([[36, 97], [32], [120, 49], [49, 50], [39, 97, 39], [39, 105, 116, 92, 39, 115, 39], [39, 92, 92, 39], [61, 61], [61, 61, 61], [61, 62], [60, 61, 62], [45, 62], [63], [63, 62], [63, 62, 10], [60, 63], [60, 63, 61], [47, 47, 99, 10], [47, 47, 32, 113], [10], [43], [33], [38, 38], [58, 58], [48], [48, 48, 55], [49, 48, 48, 48, 48, 48, 48, 48, 48, 49], [36], [39], [35], [91], [93], [60], [104, 105], [9]] : List Str))], (ACall.over (ok39 (g1000 := g1000) (g1001 := 0) hv21) [0, 1] [.row g1000 3 1 43 (fun _ => [sl 1 cB l11, .int .i64 y12, .int .i64 y13]), .row 0 1 ([[36, 97], [32], [120, 49], [49, 50], [39, 97, 39], [39, 105, 116, 92, 39, 115, 39], [39, 92, 92, 39], [61, 61], [61, 61, 61], [61, 62], [60, 61, 62], [45, 62], [63], [63, 62], [63, 62, 10], [60, 63], [60, 63, 61], [47, 47, 99, 10], [47, 47, 32, 113], [10], [43], [33], [38, 38], [58, 58], [48], [48, 48, 55], [49, 48, 48, 48, 48, 48, 48, 48, 48, 49], [36], [39], [35], [91], [93], [60], [104, 105], [9]] : List Str).length 9 (row cS ([[36, 97], [32], [120, 49], [49, 50], [39, 97, 39], [39, 105, 116, 92, 39, 115, 39], [39, 92, 92, 39], [61, 61], [61, 61, 61], [61, 62], [60, 61, 62], [45, 62], [63], [63, 62], [63, 62, 10], [60, 63], [60, 63, 61], [47, 47, 99, 10], [47, 47, 32, 113], [10], [43], [33], [38, 38], [58, 58], [48], [48, 48, 55], [49, 48, 48, 48, 48, 48, 48, 48, 48, 49], [36], [39], [35], [91], [93], [60], [104, 105], [9]] : List Str))] rfl (by decide) (by simp) (by intro j o hj; exact match j, hj with | 0, hj => by cases hj; rfl | 1, hj => by cases hj; exact (congrArg some (renO_row cS_pure _ _ _ _ _ _)).symm | j + 2, hj => by cases hj) rfl).mono (by rintro _ _ ⟨_, _, ⟨rfl, rfl⟩, rfl, rfl⟩; exact ⟨rfl, (by simp only [nxtL, putSel, List.map_cons, List.map_nil, List.drop, List.length_cons, List.length_nil, renO_row cS_pure]; rfl)⟩), ?_⟩
      rintro _ _ ⟨rfl, rfl⟩
      obtain ⟨s22, hx23, h⟩ := bind_some h
      refine ⟨scat_bd hx23, s22, scat_at hx23, ?_⟩
      exact ⟨[(0, .optr 0 g1000 0 0), (3, .str s22), (4, .int .i64 (W64 (y15 - 1)))], [.row g1000 3 1 43 (fun _ => [sl 1 cB v20.fB, .int .i64 v20.fI, .int .i64 v20.fH])], ⟨[0], by decide, (show 1 ≤ 1 by decide), ⟨.optr_eq rfl ⟨_, _, _, _, rfl⟩ ⟨_, _, _, _, rfl⟩ rfl rfl, .str_eq rfl, .int_eq rfl, trivial⟩, ⟨⟨fun _ => ⟨rfl, rfl⟩, rfl, rfl, rfl, fun _ _ => ⟨.slc_eq rfl (fun _ _ => rfl), .int_eq rfl, .int_eq rfl, trivial⟩⟩, trivial⟩⟩, ih16 _ _ _ _ _ _ h rfl⟩
    · replace h := F_dec hb18 h
      exact ⟨[(3, .str s14)], [.row g1000 3 1 43 (fun _ => [sl 1 cB l11, .int .i64 y12, .int .i64 y13])], ⟨[0], by decide, (show 1 ≤ 1 by decide), ⟨.str_eq rfl, trivial⟩, ⟨⟨fun _ => ⟨rfl, rfl⟩, rfl, rfl, rfl, fun _ _ => ⟨.slc_eq rfl (fun _ _ => rfl), .int_eq rfl, .int_eq rfl, trivial⟩⟩, trivial⟩⟩, s14, l11, y12, y13, Option.some.inj h, rfl, rfl⟩
  · rintro _ _ ⟨s1, l2, y3, y4, rfl, rfl, rfl⟩
    replace h := hk7
    refine .direct ?_
    obtain rfl := Option.some.inj h
    exact ⟨[0], .str s1, [.row g1000 3 1 43 (fun _ => [sl 1 cB ((TL1Cur.mk l2 y3 y4).fB), .int .i64 ((TL1Cur.mk l2 y3 y4).fI), .int .i64 ((TL1Cur.mk l2 y3 y4).fH)])], by decide, (show 1 ≤ 1 by decide), .str_eq rfl, ⟨⟨fun _ => ⟨rfl, rfl⟩, rfl, rfl, rfl, fun _ _ => ⟨.slc_eq rfl (fun _ _ => rfl), .int_eq rfl, .int_eq rfl, trivial⟩⟩, trivial⟩, rfl, rfl⟩
def m_s_l4Text_L2 (l11 : List UInt8) (y12 : Int) (y13 : Int) (s14 : Str) (y15 : Int) : Option (Str × (List UInt8) × Int × Int) :=
  (if y15 > 0 then
    m39 (TL1Cur.mk l11 y12 y13) ([[97], [60, 98, 62], [38], [34], [39], [92], [10], [32], [37], [43], [38, 97, 109, 112, 59], [38, 35, 51, 57, 59], [37, 52, 49], [37, 52], [92, 120, 51, 67], [92, 120], [126, 122], [255], [81, 57], [38, 108, 116]] : List Str) >>= fun (v19, v20) =>
    scat s14 v19 >>= fun s22 =>
    m_s_l4Text_L2 v20.fB v20.fI v20.fH s22 (W64 (y15 - 1))
  else
    some (s14, l11, y12, y13))
partial_fixpoint
def m_s_l4Text (a0 : TL1Cur) : Option (Str × TL1Cur) :=
  (
    m40 a0 5 >>= fun (v8, v9) =>
    m_s_l4Text_L2 v9.fB v9.fI v9.fH [] v8
   : Option (Str × (List UInt8) × Int × Int)) >>= fun (s1, l2, y3, y4) =>
  some (s1, (TL1Cur.mk l2 y3 y4))
theorem ok_s_l4Text {a0 : TL1Cur} {r : Str × TL1Cur} {g1000 : Nat} (h : m_s_l4Text a0 = some r) : ACall Tryd.prog 18 [.optr 0 g1000 0 0] [.row g1000 3 1 43 (fun _ => [sl 1 cB a0.fB, .int .i64 a0.fI, .int .i64 a0.fH])] (fun res h => res = .str r.1 ∧ h = [.row g1000 3 1 43 (fun _ => [sl 1 cB r.2.fB, .int .i64 r.2.fI, .int .i64 r.2.fH])]) := by
  refine ACall.of_vc tabT_ok mixed Tryd.func18 rfl (by kernel_rfl) _ _ _ rfl (by kernel_rfl) ?_
  unfold m_s_l4Text at h
  refine .direct ?_
  refine .direct ?_
  obtain ⟨o5, ho6, hk7⟩ := bind_some h
  replace h := ho6
  refine .cut (fun σ η => ∃ s1, ∃ l2, ∃ y3, ∃ y4, (s1, l2, y3, y4) = o5 ∧ σ = [(3, .str s1)] ∧ η = [.row g1000 3 1 43 (fun _ => [sl 1 cB l2, .int .i64 y3, .int .i64 y4])]) ?_ ?_
  · refine .direct ?_
    obtain ⟨⟨v8, v9⟩, hv10, h⟩ := bind_some h
    refine ⟨fun res h' => res = .int .i64 v8 ∧ h' = [.row g1000 3 1 43 (fun _ => [sl 1 cB v9.fB, .int .i64 v9.fI, .int .i64 v9.fH])], (ACall.over (ok40 (g1000 := g1000) hv10) [0] [.row g1000 3 1 43 (fun _ => [sl 1 cB a0.fB, .int .i64 a0.fI, .int .i64 a0.fH])] rfl (by decide) (by simp) (by intro j o hj; exact match j, hj with | 0, hj => by cases hj; rfl | j + 1, hj => by cases hj) rfl).mono (by rintro _ _ ⟨_, _, ⟨rfl, rfl⟩, rfl, rfl⟩; exact ⟨rfl, rfl⟩), ?_⟩
    rintro _ _ ⟨rfl, rfl⟩
    refine LoopAt.enter [(0, .optr 0 g1000 0 0), (3, .str []), (4, .int .i64 v8)] [.row g1000 3 1 43 (fun _ => [sl 1 cB v9.fB, .int .i64 v9.fI, .int .i64 v9.fH])] ⟨[0], by decide, (show 1 ≤ 1 by decide), ⟨.optr_eq rfl ⟨_, _, _, _, rfl⟩ ⟨_, _, _, _, rfl⟩ rfl rfl, .str_eq rfl, .int_eq rfl, trivial⟩, ⟨⟨fun _ => ⟨rfl, rfl⟩, rfl, rfl, rfl, fun _ _ => ⟨.slc_eq rfl (fun _ _ => rfl), .int_eq rfl, .int_eq rfl, trivial⟩⟩, trivial⟩⟩ ?_
    refine m_s_l4Text_L2.partial_correctness  (motive := fun l11 y12 y13 s14 y15 o24 => o5 = o24 → LoopAt _ _ [(0, .optr 0 g1000 0 0), (3, .str s14), (4, .int .i64 y15)] [.row g1000 3 1 43 (fun _ => [sl 1 cB l11, .int .i64 y12, .int .i64 y13])]) ?_ v9.fB v9.fI v9.fH [] v8 o5 h rfl
    intro F17 ih16 l11 y12 y13 s14 y15 o24 h hr25
    subst hr25
    refine LoopAt.round ?_
    refine .direct ?_
    refine .direct ?_
    refine splitB.mk (fun hb18 => ?_) (fun hb18 => ?_)
    · replace h := T_dec hb18 h
      refine .direct ?_
      refine ⟨row cS ([[97], [60, 98, 62], [38], [34], [39], [92], [10], [32], [37], [43], [38, 97, 109, 112, 59], [38, 35, 51, 57, 59], [37, 52, 49], [37, 52], [92, 120, 51, 67], [92, 120], [126, 122], [255], [81, 57], [38, 108, 116]] : List Str), row_lit cS ([[97], [60, 98, 62], [38], [34], [39], [92], [10], [32], [37], [43], [38, 97, 109, 112, 59], [38, 35, 51, 57, 59], [37, 52, 49], [37, 52], [92, 120, 51, 67], [92, 120], [126, 122], [255], [81, 57], [38, 108, 116]] : List Str) rfl (cll_refl rfl), ?_⟩
      obtain ⟨⟨v19, v20⟩, hv21, h⟩ := bind_some h
      refine ⟨fun res h' => res = .str v19 ∧ h' = [.row g1000 3 1 43 (fun _ => [sl 1 cB v20.fB, .int .i64 v20.fI, .int .i64 v20.fH]), .row 0 1 ([[97], [60, 98, 62], [38], [34], [39], [92], [10], [32], [37], [43], [38, 97, 109, 112, 59], [38, 35, 51, 57, 59], [37, 52, 49], [37, 52], [92, 120, 51, 67], [92, 120], [126, 122], [255], [81, 57], [38, 108, 116]] : List Str).length 9 (row cS ([[97], [60, 98, 62], [38], [34], [39], [92], [10], [32], [37], [43], [38, 97, 109, 112, 59], [38, 35, 51, 57, 59], [37, 52, 49], [37, 52], [92, 120, 51, 67], [92, 120], [126, 122], [255], [81, 57], [38, 108, 116]] : List Str))], (ACall.over (ok39 (g1000 := g1000) (g1001 := 0) hv21) [0, 1] [.row g1000 3 1 43 (fun _ => [sl 1 cB l11, .int .i64 y12, .int .i64 y13]), .row 0 1 ([[97], [60, 98, 62], [38], [34], [39], [92], [10], [32], [37], [43], [38, 97, 109, 112, 59], [38, 35, 51, 57, 59], [37, 52, 49], [37, 52], [92, 120, 51, 67], [92, 120], [126, 122], [255], [81, 57], [38, 108, 116]] : List Str).length 9 (row cS ([[97], [60, 98, 62], [38], [34], [39], [92], [10], [32], [37], [43], [38, 97, 109, 112, 59], [38, 35, 51, 57, 59], [37, 52, 49], [37, 52], [92, 120, 51, 67], [92, 120], [126, 122], [255], [81, 57], [38, 108, 116]] : List Str))] rfl (by decide) (by simp) (by intro j o hj; exact match j, hj with | 0, hj => by cases hj; rfl | 1, hj => by cases hj; exact (congrArg some (renO_row cS_pure _ _ _ _ _ _)).symm | j + 2, hj => by cases hj) rfl).mono (by rintro _ _ ⟨_, _, ⟨rfl, rfl⟩, rfl, rfl⟩; exact ⟨rfl, (by simp only [nxtL, putSel, List.map_cons, List.map_nil, List.drop, List.length_cons, List.length_nil, renO_row cS_pure]; rfl)⟩), ?_⟩
      rintro _ _ ⟨rfl, rfl⟩
      obtain ⟨s22, hx23, h⟩ := bind_some h
      refine ⟨scat_bd hx23, s22, scat_at hx23, ?_⟩
      exact ⟨[(0, .optr 0 g1000 0 0), (3, .str s22), (4, .int .i64 (W64 (y15 - 1)))], [.row g1000 3 1 43 (fun _ => [sl 1 cB v20.fB, .int .i64 v20.fI, .int .i64 v20.fH])], ⟨[0], by decide, (show 1 ≤ 1 by decide), ⟨.optr_eq rfl ⟨_, _, _, _, rfl⟩ ⟨_, _, _, _, rfl⟩ rfl rfl, .str_eq rfl, .int_eq rfl, trivial⟩, ⟨⟨fun _ => ⟨rfl, rfl⟩, rfl, rfl, rfl, fun _ _ => ⟨.slc_eq rfl (fun _ _ => rfl), .int_eq rfl, .int_eq rfl, trivial⟩⟩, trivial⟩⟩, ih16 _ _ _ _ _ _ h rfl⟩
    · replace h := F_dec hb18 h
      exact ⟨[(3, .str s14)], [.row g1000 3 1 43 (fun _ => [sl 1 cB l11, .int .i64 y12, .int .i64 y13])], ⟨[0], by decide, (show 1 ≤ 1 by decide), ⟨.str_eq rfl, trivial⟩, ⟨⟨fun _ => ⟨rfl, rfl⟩, rfl, rfl, rfl, fun _ _ => ⟨.slc_eq rfl (fun _ _ => rfl), .int_eq rfl, .int_eq rfl, trivial⟩⟩, trivial⟩⟩, s14, l11, y12, y13, Option.some.inj h, rfl, rfl⟩
  · rintro _ _ ⟨s1, l2, y3, y4, rfl, rfl, rfl⟩
    replace h := hk7
    refine .direct ?_
    obtain rfl := Option.some.inj h
    exact ⟨[0], .str s1, [.row g1000 3 1 43 (fun _ => [sl 1 cB ((TL1Cur.mk l2 y3 y4).fB), .int .i64 ((TL1Cur.mk l2 y3 y4).fI), .int .i64 ((TL1Cur.mk l2 y3 y4).fH)])], by decide, (show 1 ≤ 1 by decide), .str_eq rfl, ⟨⟨fun _ => ⟨rfl, rfl⟩, rfl, rfl, rfl, fun _ _ => ⟨.slc_eq rfl (fun _ _ => rfl), .int_eq rfl, .int_eq rfl, trivial⟩⟩, trivial⟩, rfl, rfl⟩
def m_s_DrawLex_L4 (s29 : Str) : Option (Str) :=
  (if (s29.length : Int) < 4001 then
    scat s29 [32, 36, 97, 98, 32, 59] >>= fun s33 =>
    m_s_DrawLex_L4 s33
  else
    some s29)
partial_fixpoint
def m_s_DrawLex (a0 : List UInt8) : Option (Str) :=
  m36 a0 >>= fun v1 =>
  m37 v1 5 >>= fun (v3, v4) =>
  (if v3 = true then
    m_s_l14Code v4 >>= fun (v7, v8) =>
    some v7
  else
    m39 v4 ([[60, 63], [60, 63, 32], [97, 60, 63], [60, 63, 61]] : List Str) >>= fun (v10, v11) =>
    m_s_l14Code v11 >>= fun (v13, v14) =>
    scat v10 v13 >>= fun s16 =>
    ((
      m37 v14 20 >>= fun (v21, v22) =>
      (if v21 = true then
        (
          m_s_DrawLex_L4 s16
         : Option (Str)) >>= fun s25 =>
        m40 v22 2 >>= fun (v37, v38) =>
        sto s25 (W64 (4000 + v37)) >>= fun s40 =>
        some (.inr s40)
      else
        some (.inl ()))
     : Option ((Unit) ⊕ Str)) >>= fun o18 => match o18 with
      | .inr r => some r
      | .inl _ =>
        some s16
    ))
theorem ok_s_DrawLex {a0 : List UInt8} {r : Str} (h : m_s_DrawLex a0 = some r) : ACall Tryd.prog 5 [sl 1 cB a0] [] (fun res h => res = .str r ∧ h = []) := by
  refine ACall.of_vc tabT_ok mixed Tryd.func5 rfl (by kernel_rfl) _ _ _ rfl (by kernel_rfl) ?_
  unfold m_s_DrawLex at h
  refine .direct ?_
  refine .direct ?_
  obtain ⟨v1, hv2, h⟩ := bind_some h
  refine ⟨fun res h' => res = .optr 0 0 0 0 ∧ h' = [.row 0 3 1 43 (fun _ => [sl 1 cB v1.fB, .int .i64 v1.fI, .int .i64 v1.fH])], (ACall.frame (ok36 hv2) [] rfl).mono (by rintro _ _ ⟨_, _, ⟨rfl, rfl⟩, rfl, rfl⟩; exact ⟨rfl, rfl⟩), ?_⟩
  rintro _ _ ⟨rfl, rfl⟩
  refine .direct ?_
  refine .direct ?_
  obtain ⟨⟨v3, v4⟩, hv5, h⟩ := bind_some h
  refine ⟨fun res h' => res = .bool v3 ∧ h' = [.row 0 3 1 43 (fun _ => [sl 1 cB v4.fB, .int .i64 v4.fI, .int .i64 v4.fH])], (ACall.over (ok37 (g1000 := 0) hv5) [0] [.row 0 3 1 43 (fun _ => [sl 1 cB v1.fB, .int .i64 v1.fI, .int .i64 v1.fH])] rfl (by decide) (by simp) (by intro j o hj; exact match j, hj with | 0, hj => by cases hj; rfl | j + 1, hj => by cases hj) rfl).mono (by rintro _ _ ⟨_, _, ⟨rfl, rfl⟩, rfl, rfl⟩; exact ⟨rfl, rfl⟩), ?_⟩
  rintro _ _ ⟨rfl, rfl⟩
  refine splitB.mk (fun hb6 => ?_) (fun hb6 => ?_)
  · replace h := T_var hb6 h
    refine .direct ?_
    obtain ⟨⟨v7, v8⟩, hv9, h⟩ := bind_some h
    refine ⟨fun res h' => res = .str v7 ∧ h' = [.row 0 3 1 43 (fun _ => [sl 1 cB v8.fB, .int .i64 v8.fI, .int .i64 v8.fH])], (ACall.over (ok_s_l14Code (g1000 := 0) hv9) [0] [.row 0 3 1 43 (fun _ => [sl 1 cB v4.fB, .int .i64 v4.fI, .int .i64 v4.fH])] rfl (by decide) (by simp) (by intro j o hj; exact match j, hj with | 0, hj => by cases hj; rfl | j + 1, hj => by cases hj) rfl).mono (by rintro _ _ ⟨_, _, ⟨rfl, rfl⟩, rfl, rfl⟩; exact ⟨rfl, rfl⟩), ?_⟩
    rintro _ _ ⟨rfl, rfl⟩
    obtain rfl := Option.some.inj h
    exact ⟨[], .str v7, [], by decide, (show 0 ≤ 0 by decide), .str_eq rfl, trivial, rfl, rfl⟩
  · replace h := F_var hb6 h
    refine .direct ?_
    refine ⟨row cS ([[60, 63], [60, 63, 32], [97, 60, 63], [60, 63, 61]] : List Str), row_lit cS ([[60, 63], [60, 63, 32], [97, 60, 63], [60, 63, 61]] : List Str) rfl (cll_refl rfl), ?_⟩
    obtain ⟨⟨v10, v11⟩, hv12, h⟩ := bind_some h
    refine ⟨fun res h' => res = .str v10 ∧ h' = [.row 0 3 1 43 (fun _ => [sl 1 cB v11.fB, .int .i64 v11.fI, .int .i64 v11.fH]), .row 0 1 ([[60, 63], [60, 63, 32], [97, 60, 63], [60, 63, 61]] : List Str).length 9 (row cS ([[60, 63], [60, 63, 32], [97, 60, 63], [60, 63, 61]] : List Str))], (ACall.over (ok39 (g1000 := 0) (g1001 := 0) hv12) [0, 1] [.row 0 3 1 43 (fun _ => [sl 1 cB v4.fB, .int .i64 v4.fI, .int .i64 v4.fH]), .row 0 1 ([[60, 63], [60, 63, 32], [97, 60, 63], [60, 63, 61]] : List Str).length 9 (row cS ([[60, 63], [60, 63, 32], [97, 60, 63], [60, 63, 61]] : List Str))] rfl (by decide) (by simp) (by intro j o hj; exact match j, hj with | 0, hj => by cases hj; rfl | 1, hj => by cases hj; exact (congrArg some (renO_row cS_pure _ _ _ _ _ _)).symm | j + 2, hj => by cases hj) rfl).mono (by rintro _ _ ⟨_, _, ⟨rfl, rfl⟩, rfl, rfl⟩; exact ⟨rfl, (by simp only [nxtL, putSel, List.map_cons, List.map_nil, List.drop, List.length_cons, List.length_nil, renO_row cS_pure]; rfl)⟩), ?_⟩
    rintro _ _ ⟨rfl, rfl⟩
    obtain ⟨⟨v13, v14⟩, hv15, h⟩ := bind_some h
    refine ⟨fun res h' => res = .str v13 ∧ h' = [.row 0 3 1 43 (fun _ => [sl 1 cB v14.fB, .int .i64 v14.fI, .int .i64 v14.fH]), .row 0 1 ([[60, 63], [60, 63, 32], [97, 60, 63], [60, 63, 61]] : List Str).length 9 (row cS ([[60, 63], [60, 63, 32], [97, 60, 63], [60, 63, 61]] : List Str))], (ACall.over (ok_s_l14Code (g1000 := 0) hv15) [0] [.row 0 3 1 43 (fun _ => [sl 1 cB v11.fB, .int .i64 v11.fI, .int .i64 v11.fH]), .row 0 1 ([[60, 63], [60, 63, 32], [97, 60, 63], [60, 63, 61]] : List Str).length 9 (row cS ([[60, 63], [60, 63, 32], [97, 60, 63], [60, 63, 61]] : List Str))] rfl (by decide) (by simp) (by intro j o hj; exact match j, hj with | 0, hj => by cases hj; rfl | j + 1, hj => by cases hj) rfl).mono (by rintro _ _ ⟨_, _, ⟨rfl, rfl⟩, rfl, rfl⟩; exact ⟨rfl, rfl⟩), ?_⟩
    rintro _ _ ⟨rfl, rfl⟩
    obtain ⟨s16, hx17, h⟩ := bind_some h
    refine ⟨scat_bd hx17, s16, scat_at hx17, ?_⟩
    obtain ⟨o18, ho19, hk20⟩ := bind_some h
    replace h := ho19
    refine .cut (fun σ η => .inl () = o18 ∧ σ = [(4, .str s16)] ∧ η = []) ?_ ?_
    · refine .direct ?_
      obtain ⟨⟨v21, v22⟩, hv23, h⟩ := bind_some h
      refine ⟨fun res h' => res = .bool v21 ∧ h' = [.row 0 3 1 43 (fun _ => [sl 1 cB v22.fB, .int .i64 v22.fI, .int .i64 v22.fH]), .row 0 1 ([[60, 63], [60, 63, 32], [97, 60, 63], [60, 63, 61]] : List Str).length 9 (row cS ([[60, 63], [60, 63, 32], [97, 60, 63], [60, 63, 61]] : List Str))], (ACall.over (ok37 (g1000 := 0) hv23) [0] [.row 0 3 1 43 (fun _ => [sl 1 cB v14.fB, .int .i64 v14.fI, .int .i64 v14.fH]), .row 0 1 ([[60, 63], [60, 63, 32], [97, 60, 63], [60, 63, 61]] : List Str).length 9 (row cS ([[60, 63], [60, 63, 32], [97, 60, 63], [60, 63, 61]] : List Str))] rfl (by decide) (by simp) (by intro j o hj; exact match j, hj with | 0, hj => by cases hj; rfl | j + 1, hj => by cases hj) rfl).mono (by rintro _ _ ⟨_, _, ⟨rfl, rfl⟩, rfl, rfl⟩; exact ⟨rfl, rfl⟩), ?_⟩
      rintro _ _ ⟨rfl, rfl⟩
      refine splitB.mk (fun hb24 => ?_) (fun hb24 => ?_)
      · replace h := T_var hb24 h
        obtain ⟨o26, ho27, hk28⟩ := bind_some h
        replace h := ho27
        refine .cut (fun σ η => ∃ s25, s25 = o26 ∧ σ = [(3, .optr 0 0 0 0), (4, .str s25)] ∧ η = [.row 0 3 1 43 (fun _ => [sl 1 cB v22.fB, .int .i64 v22.fI, .int .i64 v22.fH])]) ?_ ?_
        · refine LoopAt.enter [(3, .optr 0 0 0 0), (4, .str s16)] [.row 0 3 1 43 (fun _ => [sl 1 cB v22.fB, .int .i64 v22.fI, .int .i64 v22.fH])] ⟨[0], by decide, (show 0 ≤ 1 by decide), ⟨.optr_eq rfl ⟨_, _, _, _, rfl⟩ ⟨_, _, _, _, rfl⟩ rfl rfl, .str_eq rfl, trivial⟩, ⟨⟨fun h0 => absurd (show 0 < 0 from h0) (by decide), rfl, rfl, rfl, fun _ _ => ⟨.slc_eq rfl (fun _ _ => rfl), .int_eq rfl, .int_eq rfl, trivial⟩⟩, trivial⟩⟩ ?_
          refine m_s_DrawLex_L4.partial_correctness  (motive := fun s29 o35 => o26 = o35 → LoopAt _ _ [(3, .optr 0 0 0 0), (4, .str s29)] [.row 0 3 1 43 (fun _ => [sl 1 cB v22.fB, .int .i64 v22.fI, .int .i64 v22.fH])]) ?_ s16 o26 h rfl
          intro F31 ih30 s29 o35 h hr36
          subst hr36
          refine LoopAt.round ?_
          refine .direct ?_
          refine .direct ?_
          refine splitB.mk (fun hb32 => ?_) (fun hb32 => ?_)
          · replace h := T_dec hb32 h
            obtain ⟨s33, hx34, h⟩ := bind_some h
            refine ⟨scat_bd hx34, s33, scat_at hx34, ?_⟩
            exact ⟨[(3, .optr 0 0 0 0), (4, .str s33)], [.row 0 3 1 43 (fun _ => [sl 1 cB v22.fB, .int .i64 v22.fI, .int .i64 v22.fH])], ⟨[0], by decide, (show 0 ≤ 1 by decide), ⟨.optr_eq rfl ⟨_, _, _, _, rfl⟩ ⟨_, _, _, _, rfl⟩ rfl rfl, .str_eq rfl, trivial⟩, ⟨⟨fun h0 => absurd (show 0 < 0 from h0) (by decide), rfl, rfl, rfl, fun _ _ => ⟨.slc_eq rfl (fun _ _ => rfl), .int_eq rfl, .int_eq rfl, trivial⟩⟩, trivial⟩⟩, ih30 _ _ h rfl⟩
          · replace h := F_dec hb32 h
            exact ⟨[(3, .optr 0 0 0 0), (4, .str s29)], [.row 0 3 1 43 (fun _ => [sl 1 cB v22.fB, .int .i64 v22.fI, .int .i64 v22.fH])], ⟨[0], by decide, (show 0 ≤ 1 by decide), ⟨.optr_eq rfl ⟨_, _, _, _, rfl⟩ ⟨_, _, _, _, rfl⟩ rfl rfl, .str_eq rfl, trivial⟩, ⟨⟨fun h0 => absurd (show 0 < 0 from h0) (by decide), rfl, rfl, rfl, fun _ _ => ⟨.slc_eq rfl (fun _ _ => rfl), .int_eq rfl, .int_eq rfl, trivial⟩⟩, trivial⟩⟩, s29, Option.some.inj h, rfl, rfl⟩
        · rintro _ _ ⟨s25, rfl, rfl, rfl⟩
          replace h := hk28
          refine .direct ?_
          obtain ⟨⟨v37, v38⟩, hv39, h⟩ := bind_some h
          refine ⟨fun res h' => res = .int .i64 v37 ∧ h' = [.row 0 3 1 43 (fun _ => [sl 1 cB v38.fB, .int .i64 v38.fI, .int .i64 v38.fH])], (ACall.over (ok40 (g1000 := 0) hv39) [0] [.row 0 3 1 43 (fun _ => [sl 1 cB v22.fB, .int .i64 v22.fI, .int .i64 v22.fH])] rfl (by decide) (by simp) (by intro j o hj; exact match j, hj with | 0, hj => by cases hj; rfl | j + 1, hj => by cases hj) rfl).mono (by rintro _ _ ⟨_, _, ⟨rfl, rfl⟩, rfl, rfl⟩; exact ⟨rfl, rfl⟩), ?_⟩
          rintro _ _ ⟨rfl, rfl⟩
          obtain ⟨s40, hx41, h⟩ := bind_some h
          refine ⟨sto_bd hx41, s40, sto_at hx41, ?_⟩
          obtain rfl := Option.some.inj h
          replace h := hk20
          obtain rfl := Option.some.inj h
          exact ⟨[], .str s40, [], by decide, (show 0 ≤ 0 by decide), .str_eq rfl, trivial, rfl, rfl⟩
      · replace h := F_var hb24 h
        exact ⟨[(4, .str s16)], [], ⟨[], by decide, (show 0 ≤ 0 by decide), ⟨.str_eq rfl, trivial⟩, trivial⟩, Option.some.inj h, rfl, rfl⟩
    · rintro _ _ ⟨rfl, rfl, rfl⟩
      replace h := hk20
      refine .direct ?_
      obtain rfl := Option.some.inj h
      exact ⟨[], .str s16, [], by decide, (show 0 ≤ 0 by decide), .str_eq rfl, trivial, rfl, rfl⟩
def m_s_DrawQuoteText (a0 : List UInt8) : Option (Str) :=
  m36 a0 >>= fun v1 =>
  m_s_l4Text v1 >>= fun (v3, v4) =>
  some v3
theorem ok_s_DrawQuoteText {a0 : List UInt8} {r : Str} (h : m_s_DrawQuoteText a0 = some r) : ACall Tryd.prog 8 [sl 1 cB a0] [] (fun res h => res = .str r ∧ h = []) := by
  refine ACall.of_vc tabT_ok mixed Tryd.func8 rfl (by kernel_rfl) _ _ _ rfl (by kernel_rfl) ?_
  unfold m_s_DrawQuoteText at h
  refine .direct ?_
  refine .direct ?_
  obtain ⟨v1, hv2, h⟩ := bind_some h
  refine ⟨fun res h' => res = .optr 0 0 0 0 ∧ h' = [.row 0 3 1 43 (fun _ => [sl 1 cB v1.fB, .int .i64 v1.fI, .int .i64 v1.fH])], (ACall.frame (ok36 hv2) [] rfl).mono (by rintro _ _ ⟨_, _, ⟨rfl, rfl⟩, rfl, rfl⟩; exact ⟨rfl, rfl⟩), ?_⟩
  rintro _ _ ⟨rfl, rfl⟩
  refine .direct ?_
  obtain ⟨⟨v3, v4⟩, hv5, h⟩ := bind_some h
  refine ⟨fun res h' => res = .str v3 ∧ h' = [.row 0 3 1 43 (fun _ => [sl 1 cB v4.fB, .int .i64 v4.fI, .int .i64 v4.fH])], (ACall.over (ok_s_l4Text (g1000 := 0) hv5) [0] [.row 0 3 1 43 (fun _ => [sl 1 cB v1.fB, .int .i64 v1.fI, .int .i64 v1.fH])] rfl (by decide) (by simp) (by intro j o hj; exact match j, hj with | 0, hj => by cases hj; rfl | j + 1, hj => by cases hj) rfl).mono (by rintro _ _ ⟨_, _, ⟨rfl, rfl⟩, rfl, rfl⟩; exact ⟨rfl, rfl⟩), ?_⟩
  rintro _ _ ⟨rfl, rfl⟩
  obtain rfl := Option.some.inj h
  exact ⟨[], .str v3, [], by decide, (show 0 ≤ 0 by decide), .str_eq rfl, trivial, rfl, rfl⟩
def m_i_isLetter (a0 : Int) : Option (Bool) :=
  (if a0 ≥ 65 then
    (if a0 ≤ 90 then
      some true
    else
      (if a0 ≥ 97 then
        some (decide (a0 ≤ 122))
      else
        some false))
  else
    (if a0 ≥ 97 then
      some (decide (a0 ≤ 122))
    else
      some false))
theorem ok_i_isLetter {a0 : Int} {r : Bool} (h : m_i_isLetter a0 = some r) : ACall Tryd.prog 31 [.int .u8 a0] [] (fun res h => res = .bool r ∧ h = []) := by
  refine ACall.of_vc tabT_ok mixed Tryd.func31 rfl (by kernel_rfl) _ _ _ rfl (by kernel_rfl) ?_
  unfold m_i_isLetter at h
  refine .direct ?_
  refine .direct ?_
  refine splitB.mk (fun hb1 => ?_) (fun hb1 => ?_)
  · replace h := T_dec hb1 h
    refine splitB_t ?_
    refine splitB_t ?_
    refine splitB.mk (fun hb2 => ?_) (fun hb2 => ?_)
    · replace h := T_dec hb2 h
      refine splitB_t ?_
      refine splitB_t ?_
      refine splitB_t ?_
      refine splitB_t ?_
      obtain rfl := Option.some.inj h
      exact ⟨[], .bool true, [], by decide, (show 0 ≤ 0 by decide), .bool_eq rfl, trivial, rfl, rfl⟩
    · replace h := F_dec hb2 h
      refine splitB_f ?_
      refine splitB_f ?_
      refine splitB.mk (fun hb3 => ?_) (fun hb3 => ?_)
      · replace h := T_dec hb3 h
        refine splitB_t ?_
        refine splitB_f ?_
        refine splitB_t ?_
        refine splitB_f ?_
        obtain rfl := Option.some.inj h
        exact ⟨[], .bool (decide (a0 ≤ 122)), [], by decide, (show 0 ≤ 0 by decide), .bool_eq rfl, trivial, rfl, rfl⟩
      · replace h := F_dec hb3 h
        refine splitB_f ?_
        refine splitB_f ?_
        refine splitB_f ?_
        refine splitB_f ?_
        obtain rfl := Option.some.inj h
        exact ⟨[], .bool false, [], by decide, (show 0 ≤ 0 by decide), .bool_eq rfl, trivial, rfl, rfl⟩
  · replace h := F_dec hb1 h
    refine splitB_f ?_
    refine splitB_f ?_
    refine splitB_f ?_
    refine splitB_f ?_
    refine splitB_f ?_
    refine splitB.mk (fun hb4 => ?_) (fun hb4 => ?_)
    · replace h := T_dec hb4 h
      refine splitB_t ?_
      refine splitB_f ?_
      refine splitB_t ?_
      refine splitB_f ?_
      obtain rfl := Option.some.inj h
      exact ⟨[], .bool (decide (a0 ≤ 122)), [], by decide, (show 0 ≤ 0 by decide), .bool_eq rfl, trivial, rfl, rfl⟩
    · replace h := F_dec hb4 h
      refine splitB_f ?_
      refine splitB_f ?_
      refine splitB_f ?_
      refine splitB_f ?_
      obtain rfl := Option.some.inj h
      exact ⟨[], .bool false, [], by decide, (show 0 ≤ 0 by decide), .bool_eq rfl, trivial, rfl, rfl⟩
def m_i_isDigit (a0 : Int) : Option (Bool) :=
  (if a0 ≥ 48 then
    some (decide (a0 ≤ 57))
  else
    some false)
theorem ok_i_isDigit {a0 : Int} {r : Bool} (h : m_i_isDigit a0 = some r) : ACall Tryd.prog 24 [.int .u8 a0] [] (fun res h => res = .bool r ∧ h = []) := by
  refine ACall.of_vc tabT_ok mixed Tryd.func24 rfl (by kernel_rfl) _ _ _ rfl (by kernel_rfl) ?_
  unfold m_i_isDigit at h
  refine .direct ?_
  refine .direct ?_
  refine splitB.mk (fun hb1 => ?_) (fun hb1 => ?_)
  · replace h := T_dec hb1 h
    refine splitB_t ?_
    refine splitB_t ?_
    obtain rfl := Option.some.inj h
    exact ⟨[], .bool (decide (a0 ≤ 57)), [], by decide, (show 0 ≤ 0 by decide), .bool_eq rfl, trivial, rfl, rfl⟩
  · replace h := F_dec hb1 h
    refine splitB_f ?_
    refine splitB_f ?_
    obtain rfl := Option.some.inj h
    exact ⟨[], .bool false, [], by decide, (show 0 ≤ 0 by decide), .bool_eq rfl, trivial, rfl, rfl⟩
def m_i_nameLength_L2 (a0 : Str) (y5 : Int) : Option (Int) :=
  (if y5 < (a0.length : Int) then
    sidx a0 y5 >>= fun c9 =>
    m_i_isLetter (c9.toNat : Int) >>= fun v11 =>
    (if v11 = true then
      m_i_nameLength_L2 a0 (W64 (y5 + 1))
    else
      sidx a0 y5 >>= fun c14 =>
      (if (c14.toNat : Int) = 95 then
        m_i_nameLength_L2 a0 (W64 (y5 + 1))
      else
        (if y5 > 0 then
          sidx a0 y5 >>= fun c18 =>
          m_i_isDigit (c18.toNat : Int) >>= fun v20 =>
          (if v20 = true then
            m_i_nameLength_L2 a0 (W64 (y5 + 1))
          else
            some y5)
        else
          some y5)))
  else
    some y5)
partial_fixpoint
def m_i_nameLength (a0 : Str) : Option (Int) :=
  (
    m_i_nameLength_L2 a0 0
   : Option (Int)) >>= fun y1 =>
  some y1
theorem ok_i_nameLength {a0 : Str} {r : Int} (h : m_i_nameLength a0 = some r) : ACall Tryd.prog 23 [.str a0] [] (fun res h => res = .int .i64 r ∧ h = []) := by
  refine ACall.of_vc tabT_ok mixed Tryd.func23 rfl (by kernel_rfl) _ _ _ rfl (by kernel_rfl) ?_
  unfold m_i_nameLength at h
  refine .direct ?_
  refine .direct ?_
  obtain ⟨o2, ho3, hk4⟩ := bind_some h
  replace h := ho3
  refine .cut (fun σ η => ∃ y1, y1 = o2 ∧ σ = [(3, .int .i64 y1)] ∧ η = []) ?_ ?_
  · refine LoopAt.enter [(0, .str a0), (3, .int .i64 0)] [] ⟨[], by decide, (show 0 ≤ 0 by decide), ⟨.str_eq rfl, .int_eq rfl, trivial⟩, trivial⟩ ?_
    refine m_i_nameLength_L2.partial_correctness a0 (motive := fun y5 o23 => o2 = o23 → LoopAt _ _ [(0, .str a0), (3, .int .i64 y5)] []) ?_ 0 o2 h rfl
    intro F7 ih6 y5 o23 h hr24
    subst hr24
    refine LoopAt.round ?_
    refine .direct ?_
    refine .direct ?_
    refine splitB.mk (fun hb8 => ?_) (fun hb8 => ?_)
    · replace h := T_dec hb8 h
      refine splitB_t ?_
      refine splitB_t ?_
      obtain ⟨c9, hx10, h⟩ := bind_some h
      refine ⟨sidx_bd hx10, c9, sidx_at hx10, ?_⟩
      refine splitB_t ?_
      obtain ⟨v11, hv12, h⟩ := bind_some h
      refine ⟨_, ACall.pure0 (ok_i_isLetter hv12) _ rfl (fun _ => rfl), ?_⟩
      rintro _ _ ⟨rfl, rfl⟩
      refine splitB_t ?_
      refine splitB.mk (fun hb13 => ?_) (fun hb13 => ?_)
      · replace h := T_var hb13 h
        refine splitB_t ?_
        refine splitB_t ?_
        refine splitB_t ?_
        refine splitB_t ?_
        refine splitB_t ?_
        refine splitB_t ?_
        refine splitB_t ?_
        refine splitB_t ?_
        refine splitB_t ?_
        refine splitB_t ?_
        refine splitB_t ?_
        refine splitB_t ?_
        refine splitB_t ?_
        refine splitB_t ?_
        exact ⟨[(0, .str a0), (3, .int .i64 (W64 (y5 + 1)))], [], ⟨[], by decide, (show 0 ≤ 0 by decide), ⟨.str_eq rfl, .int_eq rfl, trivial⟩, trivial⟩, ih6 _ _ h rfl⟩
      · replace h := F_var hb13 h
        refine splitB_f ?_
        refine splitB_f ?_
        obtain ⟨c14, hx15, h⟩ := bind_some h
        refine ⟨sidx_bd hx15, c14, sidx_at hx15, ?_⟩
        refine splitB_f ?_
        refine splitB_t ?_
        refine splitB_f ?_
        refine splitB_t ?_
        refine splitB.mk (fun hb16 => ?_) (fun hb16 => ?_)
        · replace h := T_beq hb16 h
          refine splitB_t ?_
          refine splitB_t ?_
          refine splitB_t ?_
          refine splitB_t ?_
          refine splitB_t ?_
          refine splitB_t ?_
          refine splitB_t ?_
          exact ⟨[(0, .str a0), (3, .int .i64 (W64 (y5 + 1)))], [], ⟨[], by decide, (show 0 ≤ 0 by decide), ⟨.str_eq rfl, .int_eq rfl, trivial⟩, trivial⟩, ih6 _ _ h rfl⟩
        · replace h := F_beq hb16 h
          refine splitB_f ?_
          refine splitB_f ?_
          refine splitB.mk (fun hb17 => ?_) (fun hb17 => ?_)
          · replace h := T_dec hb17 h
            refine splitB_t ?_
            refine splitB_t ?_
            obtain ⟨c18, hx19, h⟩ := bind_some h
            refine ⟨sidx_bd hx19, c18, sidx_at hx19, ?_⟩
            refine splitB_t ?_
            obtain ⟨v20, hv21, h⟩ := bind_some h
            refine ⟨_, ACall.pure0 (ok_i_isDigit hv21) _ rfl (fun _ => rfl), ?_⟩
            rintro _ _ ⟨rfl, rfl⟩
            refine splitB_f ?_
            refine splitB_t ?_
            refine splitB_t ?_
            refine splitB_f ?_
            refine splitB_t ?_
            refine splitB.mk (fun hb22 => ?_) (fun hb22 => ?_)
            · replace h := T_var hb22 h
              exact ⟨[(0, .str a0), (3, .int .i64 (W64 (y5 + 1)))], [], ⟨[], by decide, (show 0 ≤ 0 by decide), ⟨.str_eq rfl, .int_eq rfl, trivial⟩, trivial⟩, ih6 _ _ h rfl⟩
            · replace h := F_var hb22 h
              exact ⟨[(3, .int .i64 y5)], [], ⟨[], by decide, (show 0 ≤ 0 by decide), ⟨.int_eq rfl, trivial⟩, trivial⟩, y5, Option.some.inj h, rfl, rfl⟩
          · replace h := F_dec hb17 h
            refine splitB_f ?_
            refine splitB_f ?_
            refine splitB_f ?_
            refine splitB_f ?_
            refine splitB_f ?_
            refine splitB_t ?_
            refine splitB_f ?_
            refine splitB_t ?_
            refine splitB_f ?_
            exact ⟨[(3, .int .i64 y5)], [], ⟨[], by decide, (show 0 ≤ 0 by decide), ⟨.int_eq rfl, trivial⟩, trivial⟩, y5, Option.some.inj h, rfl, rfl⟩
    · replace h := F_dec hb8 h
      refine splitB_f ?_
      refine splitB_f ?_
      refine splitB_f ?_
      refine splitB_f ?_
      refine splitB_f ?_
      refine splitB_f ?_
      refine splitB_f ?_
      refine splitB_f ?_
      refine splitB_f ?_
      exact ⟨[(3, .int .i64 y5)], [], ⟨[], by decide, (show 0 ≤ 0 by decide), ⟨.int_eq rfl, trivial⟩, trivial⟩, y5, Option.some.inj h, rfl, rfl⟩
  · rintro _ _ ⟨y1, rfl, rfl, rfl⟩
    replace h := hk4
    refine .direct ?_
    obtain rfl := Option.some.inj h
    exact ⟨[], .int .i64 y1, [], by decide, (show 0 ≤ 0 by decide), .int_eq rfl, trivial, rfl, rfl⟩
def m_i_QuoteText_L2 (a0 : Str) (l5 : List UInt8) (y6 : Int) : Option ((List UInt8)) :=
  (if y6 < (a0.length : Int) then
    sidx a0 y6 >>= fun c10 =>
    (if (c10.toNat : Int) = 39 then
      lapp 1 l5 ([(92 : UInt8)] : List UInt8) >>= fun l13 =>
      sidx a0 y6 >>= fun c15 =>
      lapp 1 l13 ([c15] : List UInt8) >>= fun l17 =>
      m_i_QuoteText_L2 a0 l17 (W64 (y6 + 1))
    else
      sidx a0 y6 >>= fun c19 =>
      (if (c19.toNat : Int) = 92 then
        lapp 1 l5 ([(92 : UInt8)] : List UInt8) >>= fun l22 =>
        sidx a0 y6 >>= fun c24 =>
        lapp 1 l22 ([c24] : List UInt8) >>= fun l26 =>
        m_i_QuoteText_L2 a0 l26 (W64 (y6 + 1))
      else
        sidx a0 y6 >>= fun c28 =>
        lapp 1 l5 ([c28] : List UInt8) >>= fun l30 =>
        m_i_QuoteText_L2 a0 l30 (W64 (y6 + 1))))
  else
    some l5)
partial_fixpoint
def m_i_QuoteText (a0 : Str) : Option (Str) :=
  (
    m_i_QuoteText_L2 a0 ([(39 : UInt8)] : List UInt8) 0
   : Option ((List UInt8))) >>= fun l1 =>
  lapp 1 l1 ([(39 : UInt8)] : List UInt8) >>= fun l34 =>
  some l34
theorem ok_i_QuoteText {a0 : Str} {r : Str} (h : m_i_QuoteText a0 = some r) : ACall Tryd.prog 9 [.str a0] [] (fun res h => res = .str r ∧ h = []) := by
  refine ACall.of_vc tabT_ok mixed Tryd.func9 rfl (by kernel_rfl) _ _ _ rfl (by kernel_rfl) ?_
  unfold m_i_QuoteText at h
  refine .direct ?_
  refine .direct ?_
  refine ⟨row cB ([(39 : UInt8)] : List UInt8), row_lit cB ([(39 : UInt8)] : List UInt8) rfl (cll_refl rfl), ?_⟩
  obtain ⟨o2, ho3, hk4⟩ := bind_some h
  replace h := ho3
  refine .cut (fun σ η => ∃ l1, l1 = o2 ∧ σ = [(3, .own 0 0 0 l1.length)] ∧ η = [.row 0 1 l1.length 5 (row cB l1)]) ?_ ?_
  · refine .direct ?_
    refine LoopAt.enter [(0, .str a0), (3, .own 0 0 0 ([(39 : UInt8)] : List UInt8).length), (4, .int .i64 0)] [.row 0 1 ([(39 : UInt8)] : List UInt8).length 5 (row cB ([(39 : UInt8)] : List UInt8))] ⟨[0], by decide, (show 0 ≤ 1 by decide), ⟨.str_eq rfl, .own_eq rfl ⟨_, _, _, _, rfl⟩ ⟨_, _, _, _, rfl⟩ rfl rfl, .int_eq rfl, trivial⟩, ⟨⟨fun h0 => absurd (show 0 < 0 from h0) (by decide), rfl, rfl, rfl, fz_row cB_pure⟩, trivial⟩⟩ ?_
    refine m_i_QuoteText_L2.partial_correctness a0 (motive := fun l5 y6 o32 => o2 = o32 → LoopAt _ _ [(0, .str a0), (3, .own 0 0 0 l5.length), (4, .int .i64 y6)] [.row 0 1 l5.length 5 (row cB l5)]) ?_ ([(39 : UInt8)] : List UInt8) 0 o2 h rfl
    intro F8 ih7 l5 y6 o32 h hr33
    subst hr33
    refine LoopAt.round ?_
    refine .direct ?_
    refine .direct ?_
    refine splitB.mk (fun hb9 => ?_) (fun hb9 => ?_)
    · replace h := T_dec hb9 h
      refine .direct ?_
      refine .direct ?_
      refine .direct ?_
      obtain ⟨c10, hx11, h⟩ := bind_some h
      refine ⟨sidx_bd hx11, c10, sidx_at hx11, ?_⟩
      refine splitB.mk (fun hb12 => ?_) (fun hb12 => ?_)
      · replace h := T_beq hb12 h
        refine splitB_t ?_
        refine splitB_t ?_
        refine splitB_t ?_
        refine splitB_t ?_
        refine splitB_t ?_
        refine ⟨row cB ([(92 : UInt8)] : List UInt8), row_lit cB ([(92 : UInt8)] : List UInt8) rfl (cll_refl rfl), ?_⟩
        obtain ⟨l13, hx14, h⟩ := bind_some h
        refine ⟨rfl, rfl, lapp_bd hx14, l13.length, row cB l13, lapp_len hx14, lapp_row hx14 shows_all (src_own shows_all), ?_⟩
        obtain ⟨c15, hx16, h⟩ := bind_some h
        refine ⟨sidx_bd hx16, c15, sidx_at hx16, ?_⟩
        refine ⟨row cB ([c15] : List UInt8), row_lit cB ([c15] : List UInt8) rfl (cll_refl rfl), ?_⟩
        obtain ⟨l17, hx18, h⟩ := bind_some h
        refine ⟨rfl, rfl, lapp_bd hx18, l17.length, row cB l17, lapp_len hx18, lapp_row hx18 shows_all (src_own shows_all), ?_⟩
        exact ⟨[(0, .str a0), (3, .own 0 0 0 l17.length), (4, .int .i64 (W64 (y6 + 1)))], [.row 0 1 l17.length 5 (row cB l17)], ⟨[0], by decide, (show 0 ≤ 1 by decide), ⟨.str_eq rfl, .own_eq rfl ⟨_, _, _, _, rfl⟩ ⟨_, _, _, _, rfl⟩ rfl rfl, .int_eq rfl, trivial⟩, ⟨⟨fun h0 => absurd (show 0 < 0 from h0) (by decide), rfl, rfl, rfl, fz_row cB_pure⟩, trivial⟩⟩, ih7 _ _ _ h rfl⟩
      · replace h := F_beq hb12 h
        refine splitB_f ?_
        refine splitB_f ?_
        obtain ⟨c19, hx20, h⟩ := bind_some h
        refine ⟨sidx_bd hx20, c19, sidx_at hx20, ?_⟩
        refine splitB_f ?_
        refine splitB_f ?_
        refine splitB.mk (fun hb21 => ?_) (fun hb21 => ?_)
        · replace h := T_beq hb21 h
          refine ⟨row cB ([(92 : UInt8)] : List UInt8), row_lit cB ([(92 : UInt8)] : List UInt8) rfl (cll_refl rfl), ?_⟩
          obtain ⟨l22, hx23, h⟩ := bind_some h
          refine ⟨rfl, rfl, lapp_bd hx23, l22.length, row cB l22, lapp_len hx23, lapp_row hx23 shows_all (src_own shows_all), ?_⟩
          obtain ⟨c24, hx25, h⟩ := bind_some h
          refine ⟨sidx_bd hx25, c24, sidx_at hx25, ?_⟩
          refine ⟨row cB ([c24] : List UInt8), row_lit cB ([c24] : List UInt8) rfl (cll_refl rfl), ?_⟩
          obtain ⟨l26, hx27, h⟩ := bind_some h
          refine ⟨rfl, rfl, lapp_bd hx27, l26.length, row cB l26, lapp_len hx27, lapp_row hx27 shows_all (src_own shows_all), ?_⟩
          exact ⟨[(0, .str a0), (3, .own 0 0 0 l26.length), (4, .int .i64 (W64 (y6 + 1)))], [.row 0 1 l26.length 5 (row cB l26)], ⟨[0], by decide, (show 0 ≤ 1 by decide), ⟨.str_eq rfl, .own_eq rfl ⟨_, _, _, _, rfl⟩ ⟨_, _, _, _, rfl⟩ rfl rfl, .int_eq rfl, trivial⟩, ⟨⟨fun h0 => absurd (show 0 < 0 from h0) (by decide), rfl, rfl, rfl, fz_row cB_pure⟩, trivial⟩⟩, ih7 _ _ _ h rfl⟩
        · replace h := F_beq hb21 h
          obtain ⟨c28, hx29, h⟩ := bind_some h
          refine ⟨sidx_bd hx29, c28, sidx_at hx29, ?_⟩
          refine ⟨row cB ([c28] : List UInt8), row_lit cB ([c28] : List UInt8) rfl (cll_refl rfl), ?_⟩
          obtain ⟨l30, hx31, h⟩ := bind_some h
          refine ⟨rfl, rfl, lapp_bd hx31, l30.length, row cB l30, lapp_len hx31, lapp_row hx31 shows_all (src_own shows_all), ?_⟩
          exact ⟨[(0, .str a0), (3, .own 0 0 0 l30.length), (4, .int .i64 (W64 (y6 + 1)))], [.row 0 1 l30.length 5 (row cB l30)], ⟨[0], by decide, (show 0 ≤ 1 by decide), ⟨.str_eq rfl, .own_eq rfl ⟨_, _, _, _, rfl⟩ ⟨_, _, _, _, rfl⟩ rfl rfl, .int_eq rfl, trivial⟩, ⟨⟨fun h0 => absurd (show 0 < 0 from h0) (by decide), rfl, rfl, rfl, fz_row cB_pure⟩, trivial⟩⟩, ih7 _ _ _ h rfl⟩
    · replace h := F_dec hb9 h
      exact ⟨[(3, .own 0 0 0 l5.length)], [.row 0 1 l5.length 5 (row cB l5)], ⟨[0], by decide, (show 0 ≤ 1 by decide), ⟨.own_eq rfl ⟨_, _, _, _, rfl⟩ ⟨_, _, _, _, rfl⟩ rfl rfl, trivial⟩, ⟨⟨fun h0 => absurd (show 0 < 0 from h0) (by decide), rfl, rfl, rfl, fz_row cB_pure⟩, trivial⟩⟩, l5, Option.some.inj h, rfl, rfl⟩
  · rintro _ _ ⟨l1, rfl, rfl, rfl⟩
    replace h := hk4
    refine .direct ?_
    refine ⟨row cB ([(39 : UInt8)] : List UInt8), row_lit cB ([(39 : UInt8)] : List UInt8) rfl (cll_refl rfl), ?_⟩
    obtain ⟨l34, hx35, h⟩ := bind_some h
    refine ⟨rfl, rfl, lapp_bd hx35, l34.length, row cB l34, lapp_len hx35, lapp_row hx35 shows_all (src_own shows_all), ?_⟩
    refine ⟨rfl, l34, rfl, bytes_shows shows_all rfl, ?_⟩
    obtain rfl := Option.some.inj h
    exact ⟨[], .str l34, [], by decide, (show 0 ≤ 0 by decide), .str_eq rfl, trivial, rfl, rfl⟩
def m_i_FormatInt (a0 : Int) : Option (Str) :=
  m73 a0 >>= fun v1 =>
  some v1
theorem ok_i_FormatInt {a0 : Int} {r : Str} (h : m_i_FormatInt a0 = some r) : ACall Tryd.prog 17 [.int .i64 a0] [] (fun res h => res = .str r ∧ h = []) := by
  refine ACall.of_vc tabT_ok mixed Tryd.func17 rfl (by kernel_rfl) _ _ _ rfl (by kernel_rfl) ?_
  unfold m_i_FormatInt at h
  refine .direct ?_
  refine .direct ?_
  obtain ⟨v1, hv2, h⟩ := bind_some h
  refine ⟨_, ACall.pure0 (ok73 hv2) _ rfl (fun _ => rfl), ?_⟩
  rintro _ _ ⟨rfl, rfl⟩
  obtain rfl := Option.some.inj h
  exact ⟨[], .str v1, [], by decide, (show 0 ≤ 0 by decide), .str_eq rfl, trivial, rfl, rfl⟩
def m_i_TokenText (a0 : TToken) : Option (Str) :=
  (if a0.fKind = 2 then
    scat [36] a0.fText >>= fun s2 =>
    some s2
  else
    (if a0.fKind = 4 then
      m_i_FormatInt a0.fNum >>= fun v5 =>
      some v5
    else
      (if a0.fKind = 5 then
        m_i_QuoteText a0.fText >>= fun v8 =>
        some v8
      else
        (if a0.fKind = 1 then
          some a0.fText
        else
          (if a0.fKind = 3 then
            some a0.fText
          else
            (if a0.fKind = 6 then
              some a0.fText
            else
              some []))))))
theorem ok_i_TokenText {a0 : TToken} {r : Str} (h : m_i_TokenText a0 = some r) : ACall Tryd.prog 7 [.agg [.int .i64 a0.fKind, .int .i64 a0.fNum, .str a0.fText, .int .i64 a0.fAt]] [] (fun res h => res = .str r ∧ h = []) := by
  refine ACall.of_vc tabT_ok mixed Tryd.func7 rfl (by kernel_rfl) _ _ _ rfl (by kernel_rfl) ?_
  unfold m_i_TokenText at h
  refine .direct ?_
  refine .direct ?_
  refine .direct ?_
  refine ⟨rfl, ?_⟩
  refine ⟨rfl, _, rfl, ?_⟩
  refine .direct ?_
  refine splitB.mk (fun hb1 => ?_) (fun hb1 => ?_)
  · replace h := T_beq hb1 h
    refine .direct ?_
    refine ⟨rfl, ?_⟩
    refine ⟨rfl, _, rfl, ?_⟩
    obtain ⟨s2, hx3, h⟩ := bind_some h
    refine ⟨scat_bd hx3, s2, scat_at hx3, ?_⟩
    obtain rfl := Option.some.inj h
    exact ⟨[], .str s2, [], by decide, (show 0 ≤ 0 by decide), .str_eq rfl, trivial, rfl, rfl⟩
  · replace h := F_beq hb1 h
    refine .direct ?_
    refine splitB.mk (fun hb4 => ?_) (fun hb4 => ?_)
    · replace h := T_beq hb4 h
      refine .direct ?_
      refine ⟨rfl, ?_⟩
      refine ⟨rfl, _, rfl, ?_⟩
      obtain ⟨v5, hv6, h⟩ := bind_some h
      refine ⟨_, ACall.pure0 (ok_i_FormatInt hv6) _ rfl (fun _ => rfl), ?_⟩
      rintro _ _ ⟨rfl, rfl⟩
      obtain rfl := Option.some.inj h
      exact ⟨[], .str v5, [], by decide, (show 0 ≤ 0 by decide), .str_eq rfl, trivial, rfl, rfl⟩
    · replace h := F_beq hb4 h
      refine .direct ?_
      refine splitB.mk (fun hb7 => ?_) (fun hb7 => ?_)
      · replace h := T_beq hb7 h
        refine .direct ?_
        refine ⟨rfl, ?_⟩
        refine ⟨rfl, _, rfl, ?_⟩
        obtain ⟨v8, hv9, h⟩ := bind_some h
        refine ⟨_, ACall.pure0 (ok_i_QuoteText hv9) _ rfl (fun _ => rfl), ?_⟩
        rintro _ _ ⟨rfl, rfl⟩
        obtain rfl := Option.some.inj h
        exact ⟨[], .str v8, [], by decide, (show 0 ≤ 0 by decide), .str_eq rfl, trivial, rfl, rfl⟩
      · replace h := F_beq hb7 h
        refine .direct ?_
        refine .direct ?_
        refine splitB.mk (fun hb10 => ?_) (fun hb10 => ?_)
        · replace h := T_beq hb10 h
          refine splitB_kt hb10 ?_
          refine .direct ?_
          refine ⟨rfl, ?_⟩
          refine ⟨rfl, _, rfl, ?_⟩
          obtain rfl := Option.some.inj h
          exact ⟨[], .str a0.fText, [], by decide, (show 0 ≤ 0 by decide), .str_eq rfl, trivial, rfl, rfl⟩
        · replace h := F_beq hb10 h
          refine .direct ?_
          refine splitB.mk (fun hb11 => ?_) (fun hb11 => ?_)
          · replace h := T_beq hb11 h
            refine splitB_kt hb11 ?_
            refine .direct ?_
            refine ⟨rfl, ?_⟩
            refine ⟨rfl, _, rfl, ?_⟩
            obtain rfl := Option.some.inj h
            exact ⟨[], .str a0.fText, [], by decide, (show 0 ≤ 0 by decide), .str_eq rfl, trivial, rfl, rfl⟩
          · replace h := F_beq hb11 h
            refine splitB.mk (fun hb12 => ?_) (fun hb12 => ?_)
            · replace h := T_beq hb12 h
              refine .direct ?_
              refine ⟨rfl, ?_⟩
              refine ⟨rfl, _, rfl, ?_⟩
              obtain rfl := Option.some.inj h
              exact ⟨[], .str a0.fText, [], by decide, (show 0 ≤ 0 by decide), .str_eq rfl, trivial, rfl, rfl⟩
            · replace h := F_beq hb12 h
              refine .direct ?_
              obtain rfl := Option.some.inj h
              exact ⟨[], .str [], [], by decide, (show 0 ≤ 0 by decide), .str_eq rfl, trivial, rfl, rfl⟩
def m69 (a0 : Str) : Option (Int × Bool) :=
  m98 a0 (-1000000000) 1000000000 >>= fun (v1, v2) =>
  some (v1, v2)
theorem ok69 {a0 : Str} {r : Int × Bool} (h : m69 a0 = some r) : ACall Tryd.prog 25 [.str a0] [] (fun res h => res = .tup [.int .i64 r.1, .bool r.2] ∧ h = []) := by
  refine ACall.of_vc tabT_ok mixed Tryd.func25 rfl (by kernel_rfl) _ _ _ rfl (by kernel_rfl) ?_
  unfold m69 at h
  refine .direct ?_
  refine .direct ?_
  obtain ⟨⟨v1, v2⟩, hv3, h⟩ := bind_some h
  refine ⟨_, ACall.pure0 (ok98 hv3) _ rfl (fun _ => rfl), ?_⟩
  rintro _ _ ⟨rfl, rfl⟩
  obtain rfl := Option.some.inj h
  exact ⟨[], .tup [.int .i64 v1, .bool v2], [], by decide, (show 0 ≤ 0 by decide), .tup_l ⟨.int_eq rfl, .bool_eq rfl, trivial⟩, trivial, rfl, rfl⟩
end Go.Am
