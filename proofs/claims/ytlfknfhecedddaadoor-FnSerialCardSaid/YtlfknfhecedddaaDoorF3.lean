/- Models of Go functions, and their walks. (Printed by tools/mg.py.) -/
import Derived.Test.YtlfknfhecedddaaDoorF2
import Derived.Test.YtlfknfhecedddaaDoorL1
set_option linter.unusedVariables false
set_option linter.unusedSimpArgs false
namespace Go.Am
open Go Go.RowKit Go.Proofs

def m69 (a0 : Str) : Option (Int × Bool) :=
  m98 a0 (-1000000000) 1000000000 >>= fun (v1, v2) =>
  some (v1, v2)
theorem ok69 {a0 : Str} {r : Int × Bool} (h : m69 a0 = some r) : ACall Tryd.prog 91 [.str a0] [] (fun res h => res = .tup [.int .i64 r.1, .bool r.2] ∧ h = []) := by
  refine ACall.of_vc tabT_ok mixed Tryd.func91 rfl (by kernel_rfl) _ _ _ rfl (by kernel_rfl) ?_
  unfold m69 at h
  refine .direct ?_
  refine .direct ?_
  obtain ⟨⟨v1, v2⟩, hv3, h⟩ := bind_some h
  refine ⟨_, ACall.pure0 (ok98 hv3) _ rfl (fun _ => rfl), ?_⟩
  rintro _ _ ⟨rfl, rfl⟩
  obtain rfl := Option.some.inj h
  exact ⟨[], .tup [.int .i64 v1, .bool v2], [], by decide, (show 0 ≤ 0 by decide), .tup_l ⟨.int_eq rfl, .bool_eq rfl, trivial⟩, trivial, rfl, rfl⟩
def m55 (a0 : TKey) : Option (Bool) :=
  (if a0.fText = true then
    m69 a0.fStr >>= fun (v5, v6) =>
    (if a0.fNum = 0 then
      (if (a0.fStr.length : Int) ≤ 400 then
        some (!v6)
      else
        some false)
    else
      some false)
  else
    (if a0.fStr = ([] : Str) then
      m92 a0.fNum (-1000000000) 1000000000 >>= fun v3 =>
      some v3
    else
      some false))
theorem ok55 {a0 : TKey} {r : Bool} (h : m55 a0 = some r) : ACall Tryd.prog 77 [.agg [.bool a0.fText, .int .i64 a0.fNum, .str a0.fStr]] [] (fun res h => res = .bool r ∧ h = []) := by
  refine ACall.of_vc tabT_ok mixed Tryd.func77 rfl (by kernel_rfl) _ _ _ rfl (by kernel_rfl) ?_
  unfold m55 at h
  refine .direct ?_
  refine .direct ?_
  refine .direct ?_
  refine ⟨rfl, ?_⟩
  refine ⟨rfl, _, rfl, ?_⟩
  refine splitB.mk (fun hb1 => ?_) (fun hb1 => ?_)
  · have hb10 := not_F hb1
    replace h := F_var hb10 h
    refine .direct ?_
    refine ⟨rfl, ?_⟩
    refine ⟨rfl, _, rfl, ?_⟩
    refine splitB.mk (fun hb2 => ?_) (fun hb2 => ?_)
    · replace h := T_beq hb2 h
      refine ⟨rfl, ?_⟩
      refine splitB_t ?_
      refine ⟨rfl, _, rfl, ?_⟩
      refine splitB_t ?_
      obtain ⟨v3, hv4, h⟩ := bind_some h
      refine ⟨_, ACall.pure0 (ok92 hv4) _ rfl (fun _ => rfl), ?_⟩
      rintro _ _ ⟨rfl, rfl⟩
      refine splitB_t ?_
      obtain rfl := Option.some.inj h
      exact ⟨[], .bool v3, [], by decide, (show 0 ≤ 0 by decide), .bool_eq rfl, trivial, rfl, rfl⟩
    · replace h := F_beq hb2 h
      refine splitB_f ?_
      refine splitB_f ?_
      refine splitB_f ?_
      obtain rfl := Option.some.inj h
      exact ⟨[], .bool false, [], by decide, (show 0 ≤ 0 by decide), .bool_eq rfl, trivial, rfl, rfl⟩
  · have hb10 := not_T hb1
    replace h := T_var hb10 h
    refine .direct ?_
    refine ⟨rfl, ?_⟩
    refine ⟨rfl, _, rfl, ?_⟩
    obtain ⟨⟨v5, v6⟩, hv7, h⟩ := bind_some h
    refine ⟨_, ACall.pure0 (ok69 hv7) _ rfl (fun _ => rfl), ?_⟩
    rintro _ _ ⟨rfl, rfl⟩
    refine .direct ?_
    refine ⟨rfl, ?_⟩
    refine ⟨rfl, _, rfl, ?_⟩
    refine splitB.mk (fun hb8 => ?_) (fun hb8 => ?_)
    · replace h := T_beq hb8 h
      refine ⟨rfl, ?_⟩
      refine splitB_t ?_
      refine ⟨rfl, _, rfl, ?_⟩
      refine splitB_t ?_
      refine splitB_t ?_
      refine splitB_t ?_
      refine splitB.mk (fun hb9 => ?_) (fun hb9 => ?_)
      · replace h := T_dec hb9 h
        refine splitB_t ?_
        refine splitB_t ?_
        obtain rfl := Option.some.inj h
        exact ⟨[], .bool (!v6), [], by decide, (show 0 ≤ 0 by decide), .bool_eq rfl, trivial, rfl, rfl⟩
      · replace h := F_dec hb9 h
        refine splitB_f ?_
        refine splitB_f ?_
        obtain rfl := Option.some.inj h
        exact ⟨[], .bool false, [], by decide, (show 0 ≤ 0 by decide), .bool_eq rfl, trivial, rfl, rfl⟩
    · replace h := F_beq hb8 h
      refine splitB_f ?_
      refine splitB_f ?_
      refine splitB_f ?_
      refine splitB_f ?_
      refine splitB_f ?_
      refine splitB_f ?_
      refine splitB_f ?_
      obtain rfl := Option.some.inj h
      exact ⟨[], .bool false, [], by decide, (show 0 ≤ 0 by decide), .bool_eq rfl, trivial, rfl, rfl⟩
def m89 (a0 : TL1Cur) : Option (TValue × TL1Cur) :=
  m40 a0 8 >>= fun (v1, v2) =>
  (if v1 = 0 then
    some ((TValue.mk 0 0 [] 0 []), v2)
  else
    (if v1 = 1 then
      m37 v2 2 >>= fun (v6, v7) =>
      m105 v6 >>= fun v9 =>
      some (v9, v7)
    else
      (
        (if v1 = 2 then
          some (v1 == 2)
        else
          some (v1 == 3))
       : Option (Bool)) >>= fun b11 =>
      (if b11 = true then
        m107 v2 >>= fun (v17, v18) =>
        some ((TValue.mk 3 0 v17 0 []), v18)
      else
        (if v1 = 4 then
          m85 v2 ([0, 1, (-1), 5, 10, 999999999, 1000000000, (-1000000000)] : List Int) >>= fun (v21, v22) =>
          some ((TValue.mk 2 v21 [] 0 []), v22)
        else
          m40 v2 20 >>= fun (v24, v25) =>
          some ((TValue.mk 2 (W64 (v24 - 5)) [] 0 []), v25)))))
theorem ok89 {a0 : TL1Cur} {r : TValue × TL1Cur} {g1000 : Nat} (h : m89 a0 = some r) : ACall Tryd.prog 87 [.optr 0 g1000 0 0] [.row g1000 3 1 96 (fun _ => [sl 1 cB a0.fB, .int .i64 a0.fI, .int .i64 a0.fH])] (fun res h => res = .agg [.int .i64 r.1.fKind, .int .i64 r.1.fNum, .str r.1.fStr, .int .i64 r.1.fNext, sl 8 TEntry.cells r.1.fItems] ∧ h = [.row g1000 3 1 96 (fun _ => [sl 1 cB r.2.fB, .int .i64 r.2.fI, .int .i64 r.2.fH])]) := by
  refine ACall.of_vc tabT_ok mixed Tryd.func87 rfl (by kernel_rfl) _ _ _ rfl (by kernel_rfl) ?_
  unfold m89 at h
  refine .direct ?_
  refine .direct ?_
  refine .direct ?_
  obtain ⟨⟨v1, v2⟩, hv3, h⟩ := bind_some h
  refine ⟨fun res h' => res = .int .i64 v1 ∧ h' = [.row g1000 3 1 96 (fun _ => [sl 1 cB v2.fB, .int .i64 v2.fI, .int .i64 v2.fH]), .row 0 5 1 26 (fun _ => [.int .i64 0, .int .i64 0, .str [], .int .i64 0, .nils])], (ACall.over (ok40 (g1000 := g1000) hv3) [0] [.row g1000 3 1 96 (fun _ => [sl 1 cB a0.fB, .int .i64 a0.fI, .int .i64 a0.fH]), .row 0 5 1 26 (fun _ => [.int .i64 0, .int .i64 0, .str [], .int .i64 0, .nils])] rfl (by decide) (by simp) (by intro j o hj; exact match j, hj with | 0, hj => by cases hj; rfl | j + 1, hj => by cases hj) rfl).mono (by rintro _ _ ⟨_, _, ⟨rfl, rfl⟩, rfl, rfl⟩; exact ⟨rfl, rfl⟩), ?_⟩
  rintro _ _ ⟨rfl, rfl⟩
  refine .direct ?_
  refine splitB.mk (fun hb4 => ?_) (fun hb4 => ?_)
  · replace h := T_beq hb4 h
    refine .direct ?_
    refine ⟨rfl, _, fun _ => [.int .i64 0, .int .i64 0, .str [], .int .i64 0, .nils], rfl, one_set rfl, ?_⟩
    obtain rfl := Option.some.inj h
    refine ⟨rfl, _, rfl, ?_⟩
    exact ⟨[0], .agg [.int .i64 ((TValue.mk 0 0 [] 0 []).fKind), .int .i64 ((TValue.mk 0 0 [] 0 []).fNum), .str ((TValue.mk 0 0 [] 0 []).fStr), .int .i64 ((TValue.mk 0 0 [] 0 []).fNext), sl 8 TEntry.cells ((TValue.mk 0 0 [] 0 []).fItems)], [.row g1000 3 1 96 (fun _ => [sl 1 cB v2.fB, .int .i64 v2.fI, .int .i64 v2.fH])], by decide, (show 1 ≤ 1 by decide), .agg_l ⟨.int_eq rfl, .int_eq rfl, .str_eq rfl, .int_eq rfl, fz_nils, trivial⟩, ⟨⟨fun _ => ⟨rfl, rfl⟩, rfl, rfl, rfl, fun _ _ => ⟨.slc_eq rfl (fun _ _ => rfl), .int_eq rfl, .int_eq rfl, trivial⟩⟩, trivial⟩, rfl, rfl⟩
  · replace h := F_beq hb4 h
    refine .direct ?_
    refine splitB.mk (fun hb5 => ?_) (fun hb5 => ?_)
    · replace h := T_beq hb5 h
      refine .direct ?_
      obtain ⟨⟨v6, v7⟩, hv8, h⟩ := bind_some h
      refine ⟨fun res h' => res = .bool v6 ∧ h' = [.row g1000 3 1 96 (fun _ => [sl 1 cB v7.fB, .int .i64 v7.fI, .int .i64 v7.fH]), .row 0 5 1 26 (fun _ => [.int .i64 0, .int .i64 0, .str [], .int .i64 0, .nils])], (ACall.over (ok37 (g1000 := g1000) hv8) [0] [.row g1000 3 1 96 (fun _ => [sl 1 cB v2.fB, .int .i64 v2.fI, .int .i64 v2.fH]), .row 0 5 1 26 (fun _ => [.int .i64 0, .int .i64 0, .str [], .int .i64 0, .nils])] rfl (by decide) (by simp) (by intro j o hj; exact match j, hj with | 0, hj => by cases hj; rfl | j + 1, hj => by cases hj) rfl).mono (by rintro _ _ ⟨_, _, ⟨rfl, rfl⟩, rfl, rfl⟩; exact ⟨rfl, rfl⟩), ?_⟩
      rintro _ _ ⟨rfl, rfl⟩
      obtain ⟨v9, hv10, h⟩ := bind_some h
      refine ⟨_, ACall.pure0 (ok105 hv10) _ rfl (fun _ => rfl), ?_⟩
      rintro _ _ ⟨rfl, rfl⟩
      refine ⟨rfl, _, fun _ => [.int .i64 v9.fKind, .int .i64 v9.fNum, .str v9.fStr, .int .i64 v9.fNext, sl 8 TEntry.cells v9.fItems], rfl, one_set rfl, ?_⟩
      obtain rfl := Option.some.inj h
      refine ⟨rfl, _, rfl, ?_⟩
      exact ⟨[0], .agg [.int .i64 v9.fKind, .int .i64 v9.fNum, .str v9.fStr, .int .i64 v9.fNext, sl 8 TEntry.cells v9.fItems], [.row g1000 3 1 96 (fun _ => [sl 1 cB v7.fB, .int .i64 v7.fI, .int .i64 v7.fH])], by decide, (show 1 ≤ 1 by decide), .agg_l ⟨.int_eq rfl, .int_eq rfl, .str_eq rfl, .int_eq rfl, .slc_eq rfl (fun _ _ => rfl), trivial⟩, ⟨⟨fun _ => ⟨rfl, rfl⟩, rfl, rfl, rfl, fun _ _ => ⟨.slc_eq rfl (fun _ _ => rfl), .int_eq rfl, .int_eq rfl, trivial⟩⟩, trivial⟩, rfl, rfl⟩
    · replace h := F_beq hb5 h
      obtain ⟨o12, ho13, hk14⟩ := bind_some h
      replace h := ho13
      refine .cut (fun σ η => ∃ b11, b11 = o12 ∧ σ = [(0, .optr 0 g1000 0 0), (2, .optr 1 0 0 0), (4, .int .i64 v1), (13, .bool b11)] ∧ η = [.row g1000 3 1 96 (fun _ => [sl 1 cB v2.fB, .int .i64 v2.fI, .int .i64 v2.fH]), .row 0 5 1 26 (fun _ => [.int .i64 0, .int .i64 0, .str [], .int .i64 0, .nils])]) ?_ ?_
      · refine .direct ?_
        refine splitB.mk (fun hb15 => ?_) (fun hb15 => ?_)
        · replace h := T_beq hb15 h
          exact ⟨[(0, .optr 0 g1000 0 0), (2, .optr 1 0 0 0), (4, .int .i64 v1), (13, .bool (v1 == 2))], [.row g1000 3 1 96 (fun _ => [sl 1 cB v2.fB, .int .i64 v2.fI, .int .i64 v2.fH]), .row 0 5 1 26 (fun _ => [.int .i64 0, .int .i64 0, .str [], .int .i64 0, .nils])], ⟨[0, 1], by decide, (show 1 ≤ 2 by decide), ⟨.optr_eq rfl ⟨_, _, _, _, rfl⟩ ⟨_, _, _, _, rfl⟩ rfl rfl, .optr_eq rfl ⟨_, _, _, _, rfl⟩ ⟨_, _, _, _, rfl⟩ rfl rfl, .int_eq rfl, .bool_eq rfl, trivial⟩, ⟨⟨fun _ => ⟨rfl, rfl⟩, rfl, rfl, rfl, fun _ _ => ⟨.slc_eq rfl (fun _ _ => rfl), .int_eq rfl, .int_eq rfl, trivial⟩⟩, ⟨fun h0 => absurd (show 1 < 1 from h0) (by decide), rfl, rfl, rfl, fun _ _ => ⟨.int_eq rfl, .int_eq rfl, .str_eq rfl, .int_eq rfl, .nils, trivial⟩⟩, trivial⟩⟩, (v1 == 2), Option.some.inj h, rfl, rfl⟩
        · replace h := F_beq hb15 h
          exact ⟨[(0, .optr 0 g1000 0 0), (2, .optr 1 0 0 0), (4, .int .i64 v1), (13, .bool (v1 == 3))], [.row g1000 3 1 96 (fun _ => [sl 1 cB v2.fB, .int .i64 v2.fI, .int .i64 v2.fH]), .row 0 5 1 26 (fun _ => [.int .i64 0, .int .i64 0, .str [], .int .i64 0, .nils])], ⟨[0, 1], by decide, (show 1 ≤ 2 by decide), ⟨.optr_eq rfl ⟨_, _, _, _, rfl⟩ ⟨_, _, _, _, rfl⟩ rfl rfl, .optr_eq rfl ⟨_, _, _, _, rfl⟩ ⟨_, _, _, _, rfl⟩ rfl rfl, .int_eq rfl, .bool_eq rfl, trivial⟩, ⟨⟨fun _ => ⟨rfl, rfl⟩, rfl, rfl, rfl, fun _ _ => ⟨.slc_eq rfl (fun _ _ => rfl), .int_eq rfl, .int_eq rfl, trivial⟩⟩, ⟨fun h0 => absurd (show 1 < 1 from h0) (by decide), rfl, rfl, rfl, fun _ _ => ⟨.int_eq rfl, .int_eq rfl, .str_eq rfl, .int_eq rfl, .nils, trivial⟩⟩, trivial⟩⟩, (v1 == 3), Option.some.inj h, rfl, rfl⟩
      · rintro _ _ ⟨b11, rfl, rfl, rfl⟩
        replace h := hk14
        refine splitB.mk (fun hb16 => ?_) (fun hb16 => ?_)
        · replace h := T_var hb16 h
          refine .direct ?_
          obtain ⟨⟨v17, v18⟩, hv19, h⟩ := bind_some h
          refine ⟨fun res h' => res = .str v17 ∧ h' = [.row g1000 3 1 96 (fun _ => [sl 1 cB v18.fB, .int .i64 v18.fI, .int .i64 v18.fH]), .row 0 5 1 26 (fun _ => [.int .i64 0, .int .i64 0, .str [], .int .i64 0, .nils])], (ACall.over (ok107 (g1000 := g1000) hv19) [0] [.row g1000 3 1 96 (fun _ => [sl 1 cB v2.fB, .int .i64 v2.fI, .int .i64 v2.fH]), .row 0 5 1 26 (fun _ => [.int .i64 0, .int .i64 0, .str [], .int .i64 0, .nils])] rfl (by decide) (by simp) (by intro j o hj; exact match j, hj with | 0, hj => by cases hj; rfl | j + 1, hj => by cases hj) rfl).mono (by rintro _ _ ⟨_, _, ⟨rfl, rfl⟩, rfl, rfl⟩; exact ⟨rfl, rfl⟩), ?_⟩
          rintro _ _ ⟨rfl, rfl⟩
          refine ⟨_, ACall.pure0 (ok_s_TextValuex v17) _ rfl (fun _ => rfl), ?_⟩
          rintro _ _ ⟨rfl, rfl⟩
          refine ⟨rfl, _, fun _ => [.int .i64 3, .int .i64 0, .str v17, .int .i64 0, .nils], rfl, one_set rfl, ?_⟩
          obtain rfl := Option.some.inj h
          refine ⟨rfl, _, rfl, ?_⟩
          exact ⟨[0], .agg [.int .i64 ((TValue.mk 3 0 v17 0 []).fKind), .int .i64 ((TValue.mk 3 0 v17 0 []).fNum), .str ((TValue.mk 3 0 v17 0 []).fStr), .int .i64 ((TValue.mk 3 0 v17 0 []).fNext), sl 8 TEntry.cells ((TValue.mk 3 0 v17 0 []).fItems)], [.row g1000 3 1 96 (fun _ => [sl 1 cB v18.fB, .int .i64 v18.fI, .int .i64 v18.fH])], by decide, (show 1 ≤ 1 by decide), .agg_l ⟨.int_eq rfl, .int_eq rfl, .str_eq rfl, .int_eq rfl, fz_nils, trivial⟩, ⟨⟨fun _ => ⟨rfl, rfl⟩, rfl, rfl, rfl, fun _ _ => ⟨.slc_eq rfl (fun _ _ => rfl), .int_eq rfl, .int_eq rfl, trivial⟩⟩, trivial⟩, rfl, rfl⟩
        · replace h := F_var hb16 h
          refine .direct ?_
          refine splitB.mk (fun hb20 => ?_) (fun hb20 => ?_)
          · replace h := T_beq hb20 h
            refine .direct ?_
            refine ⟨row cI ([0, 1, (-1), 5, 10, 999999999, 1000000000, (-1000000000)] : List Int), row_lit cI ([0, 1, (-1), 5, 10, 999999999, 1000000000, (-1000000000)] : List Int) rfl (cll_refl rfl), ?_⟩
            obtain ⟨⟨v21, v22⟩, hv23, h⟩ := bind_some h
            refine ⟨fun res h' => res = .int .i64 v21 ∧ h' = [.row g1000 3 1 96 (fun _ => [sl 1 cB v22.fB, .int .i64 v22.fI, .int .i64 v22.fH]), .row 0 5 1 26 (fun _ => [.int .i64 0, .int .i64 0, .str [], .int .i64 0, .nils]), .row 0 1 ([0, 1, (-1), 5, 10, 999999999, 1000000000, (-1000000000)] : List Int).length 3 (row cI ([0, 1, (-1), 5, 10, 999999999, 1000000000, (-1000000000)] : List Int))], (ACall.over (ok85 (g1000 := g1000) (g1001 := 0) hv23) [0, 2] [.row g1000 3 1 96 (fun _ => [sl 1 cB v2.fB, .int .i64 v2.fI, .int .i64 v2.fH]), .row 0 5 1 26 (fun _ => [.int .i64 0, .int .i64 0, .str [], .int .i64 0, .nils]), .row 0 1 ([0, 1, (-1), 5, 10, 999999999, 1000000000, (-1000000000)] : List Int).length 3 (row cI ([0, 1, (-1), 5, 10, 999999999, 1000000000, (-1000000000)] : List Int))] rfl (by decide) (by simp) (by intro j o hj; exact match j, hj with | 0, hj => by cases hj; rfl | 1, hj => by cases hj; exact (congrArg some (renO_row cI_pure _ _ _ _ _ _)).symm | j + 2, hj => by cases hj) rfl).mono (by rintro _ _ ⟨_, _, ⟨rfl, rfl⟩, rfl, rfl⟩; exact ⟨rfl, (by simp only [nxtL, putSel, List.map_cons, List.map_nil, List.drop, List.length_cons, List.length_nil, renO_row cI_pure]; rfl)⟩), ?_⟩
            rintro _ _ ⟨rfl, rfl⟩
            refine ⟨_, ACall.pure0 (ok_s_IntValuex v21) _ rfl (fun _ => rfl), ?_⟩
            rintro _ _ ⟨rfl, rfl⟩
            refine ⟨rfl, _, fun _ => [.int .i64 2, .int .i64 v21, .str [], .int .i64 0, .nils], rfl, one_set rfl, ?_⟩
            obtain rfl := Option.some.inj h
            refine ⟨rfl, _, rfl, ?_⟩
            exact ⟨[0], .agg [.int .i64 ((TValue.mk 2 v21 [] 0 []).fKind), .int .i64 ((TValue.mk 2 v21 [] 0 []).fNum), .str ((TValue.mk 2 v21 [] 0 []).fStr), .int .i64 ((TValue.mk 2 v21 [] 0 []).fNext), sl 8 TEntry.cells ((TValue.mk 2 v21 [] 0 []).fItems)], [.row g1000 3 1 96 (fun _ => [sl 1 cB v22.fB, .int .i64 v22.fI, .int .i64 v22.fH])], by decide, (show 1 ≤ 1 by decide), .agg_l ⟨.int_eq rfl, .int_eq rfl, .str_eq rfl, .int_eq rfl, fz_nils, trivial⟩, ⟨⟨fun _ => ⟨rfl, rfl⟩, rfl, rfl, rfl, fun _ _ => ⟨.slc_eq rfl (fun _ _ => rfl), .int_eq rfl, .int_eq rfl, trivial⟩⟩, trivial⟩, rfl, rfl⟩
          · replace h := F_beq hb20 h
            refine .direct ?_
            obtain ⟨⟨v24, v25⟩, hv26, h⟩ := bind_some h
            refine ⟨fun res h' => res = .int .i64 v24 ∧ h' = [.row g1000 3 1 96 (fun _ => [sl 1 cB v25.fB, .int .i64 v25.fI, .int .i64 v25.fH]), .row 0 5 1 26 (fun _ => [.int .i64 0, .int .i64 0, .str [], .int .i64 0, .nils])], (ACall.over (ok40 (g1000 := g1000) hv26) [0] [.row g1000 3 1 96 (fun _ => [sl 1 cB v2.fB, .int .i64 v2.fI, .int .i64 v2.fH]), .row 0 5 1 26 (fun _ => [.int .i64 0, .int .i64 0, .str [], .int .i64 0, .nils])] rfl (by decide) (by simp) (by intro j o hj; exact match j, hj with | 0, hj => by cases hj; rfl | j + 1, hj => by cases hj) rfl).mono (by rintro _ _ ⟨_, _, ⟨rfl, rfl⟩, rfl, rfl⟩; exact ⟨rfl, rfl⟩), ?_⟩
            rintro _ _ ⟨rfl, rfl⟩
            refine ⟨_, ACall.pure0 (ok_s_IntValuex (W64 (v24 - 5))) _ rfl (fun _ => rfl), ?_⟩
            rintro _ _ ⟨rfl, rfl⟩
            refine ⟨rfl, _, fun _ => [.int .i64 2, .int .i64 (W64 (v24 - 5)), .str [], .int .i64 0, .nils], rfl, one_set rfl, ?_⟩
            obtain rfl := Option.some.inj h
            refine ⟨rfl, _, rfl, ?_⟩
            exact ⟨[0], .agg [.int .i64 ((TValue.mk 2 (W64 (v24 - 5)) [] 0 []).fKind), .int .i64 ((TValue.mk 2 (W64 (v24 - 5)) [] 0 []).fNum), .str ((TValue.mk 2 (W64 (v24 - 5)) [] 0 []).fStr), .int .i64 ((TValue.mk 2 (W64 (v24 - 5)) [] 0 []).fNext), sl 8 TEntry.cells ((TValue.mk 2 (W64 (v24 - 5)) [] 0 []).fItems)], [.row g1000 3 1 96 (fun _ => [sl 1 cB v25.fB, .int .i64 v25.fI, .int .i64 v25.fH])], by decide, (show 1 ≤ 1 by decide), .agg_l ⟨.int_eq rfl, .int_eq rfl, .str_eq rfl, .int_eq rfl, fz_nils, trivial⟩, ⟨⟨fun _ => ⟨rfl, rfl⟩, rfl, rfl, rfl, fun _ _ => ⟨.slc_eq rfl (fun _ _ => rfl), .int_eq rfl, .int_eq rfl, trivial⟩⟩, trivial⟩, rfl, rfl⟩
theorem ow105 {a0 : Bool} {r : TValue} (h : m105 a0 = some r) : ACall Tryd.prog 109 [.bool a0] [] (fun res h => res = .agg [.int .i64 r.fKind, .int .i64 r.fNum, .str r.fStr, .int .i64 r.fNext, .own 0 0 0 r.fItems.length] ∧ h = [.row 0 8 r.fItems.length 34 (row TEntry.cells r.fItems)]) := by
  refine ACall.of_vc tabT_ok mixed Tryd.func109 rfl (by kernel_rfl) _ _ _ rfl (by kernel_rfl) ?_
  unfold m105 at h
  refine .direct ?_
  refine .direct ?_
  refine .direct ?_
  refine splitB.mk (fun hb1 => ?_) (fun hb1 => ?_)
  · replace h := T_var hb1 h
    refine .direct ?_
    refine ⟨rfl, _, fun _ => [.int .i64 1, .int .i64 1, .str [], .int .i64 0, .nils], rfl, one_set rfl, ?_⟩
    obtain rfl := Option.some.inj h
    refine ⟨rfl, _, rfl, ?_⟩
    exact ⟨[1], .agg [.int .i64 ((TValue.mk 1 1 [] 0 []).fKind), .int .i64 ((TValue.mk 1 1 [] 0 []).fNum), .str ((TValue.mk 1 1 [] 0 []).fStr), .int .i64 ((TValue.mk 1 1 [] 0 []).fNext), .own 0 0 0 ((TValue.mk 1 1 [] 0 []).fItems).length], [.row 0 8 ((TValue.mk 1 1 [] 0 []).fItems).length 34 (row TEntry.cells ((TValue.mk 1 1 [] 0 []).fItems))], by decide, (show 0 ≤ 1 by decide), .agg_l ⟨.int_eq rfl, .int_eq rfl, .str_eq rfl, .int_eq rfl, (.nilo _ _ _ _ _ _ rfl rfl rfl), trivial⟩, ⟨⟨(show 0 ≤ 0 by decide), rfl⟩, trivial⟩, rfl, rfl⟩
  · replace h := F_var hb1 h
    refine .direct ?_
    refine ⟨rfl, _, fun _ => [.int .i64 1, .int .i64 0, .str [], .int .i64 0, .nils], rfl, one_set rfl, ?_⟩
    obtain rfl := Option.some.inj h
    refine ⟨rfl, _, rfl, ?_⟩
    exact ⟨[1], .agg [.int .i64 ((TValue.mk 1 0 [] 0 []).fKind), .int .i64 ((TValue.mk 1 0 [] 0 []).fNum), .str ((TValue.mk 1 0 [] 0 []).fStr), .int .i64 ((TValue.mk 1 0 [] 0 []).fNext), .own 0 0 0 ((TValue.mk 1 0 [] 0 []).fItems).length], [.row 0 8 ((TValue.mk 1 0 [] 0 []).fItems).length 34 (row TEntry.cells ((TValue.mk 1 0 [] 0 []).fItems))], by decide, (show 0 ≤ 1 by decide), .agg_l ⟨.int_eq rfl, .int_eq rfl, .str_eq rfl, .int_eq rfl, (.nilo _ _ _ _ _ _ rfl rfl rfl), trivial⟩, ⟨⟨(show 0 ≤ 0 by decide), rfl⟩, trivial⟩, rfl, rfl⟩
theorem ow89 {a0 : TL1Cur} {r : TValue × TL1Cur} {g1000 : Nat} (h : m89 a0 = some r) : ACall Tryd.prog 87 [.optr 0 g1000 0 0] [.row g1000 3 1 96 (fun _ => [sl 1 cB a0.fB, .int .i64 a0.fI, .int .i64 a0.fH])] (fun res h => res = .agg [.int .i64 r.1.fKind, .int .i64 r.1.fNum, .str r.1.fStr, .int .i64 r.1.fNext, .own 1 0 0 r.1.fItems.length] ∧ h = [.row g1000 3 1 96 (fun _ => [sl 1 cB r.2.fB, .int .i64 r.2.fI, .int .i64 r.2.fH]), .row 0 8 r.1.fItems.length 34 (row TEntry.cells r.1.fItems)]) := by
  refine ACall.of_vc tabT_ok mixed Tryd.func87 rfl (by kernel_rfl) _ _ _ rfl (by kernel_rfl) ?_
  unfold m89 at h
  refine .direct ?_
  refine .direct ?_
  refine .direct ?_
  obtain ⟨⟨v1, v2⟩, hv3, h⟩ := bind_some h
  refine ⟨fun res h' => res = .int .i64 v1 ∧ h' = [.row g1000 3 1 96 (fun _ => [sl 1 cB v2.fB, .int .i64 v2.fI, .int .i64 v2.fH]), .row 0 5 1 26 (fun _ => [.int .i64 0, .int .i64 0, .str [], .int .i64 0, .nils])], (ACall.over (ok40 (g1000 := g1000) hv3) [0] [.row g1000 3 1 96 (fun _ => [sl 1 cB a0.fB, .int .i64 a0.fI, .int .i64 a0.fH]), .row 0 5 1 26 (fun _ => [.int .i64 0, .int .i64 0, .str [], .int .i64 0, .nils])] rfl (by decide) (by simp) (by intro j o hj; exact match j, hj with | 0, hj => by cases hj; rfl | j + 1, hj => by cases hj) rfl).mono (by rintro _ _ ⟨_, _, ⟨rfl, rfl⟩, rfl, rfl⟩; exact ⟨rfl, rfl⟩), ?_⟩
  rintro _ _ ⟨rfl, rfl⟩
  refine .direct ?_
  refine splitB.mk (fun hb4 => ?_) (fun hb4 => ?_)
  · replace h := T_beq hb4 h
    refine .direct ?_
    refine ⟨rfl, _, fun _ => [.int .i64 0, .int .i64 0, .str [], .int .i64 0, .nils], rfl, one_set rfl, ?_⟩
    obtain rfl := Option.some.inj h
    refine ⟨rfl, _, rfl, ?_⟩
    exact ⟨[0, 3], .agg [.int .i64 ((TValue.mk 0 0 [] 0 []).fKind), .int .i64 ((TValue.mk 0 0 [] 0 []).fNum), .str ((TValue.mk 0 0 [] 0 []).fStr), .int .i64 ((TValue.mk 0 0 [] 0 []).fNext), .own 1 0 0 ((TValue.mk 0 0 [] 0 []).fItems).length], [.row g1000 3 1 96 (fun _ => [sl 1 cB v2.fB, .int .i64 v2.fI, .int .i64 v2.fH]), .row 0 8 ((TValue.mk 0 0 [] 0 []).fItems).length 34 (row TEntry.cells ((TValue.mk 0 0 [] 0 []).fItems))], by decide, (show 1 ≤ 2 by decide), .agg_l ⟨.int_eq rfl, .int_eq rfl, .str_eq rfl, .int_eq rfl, (.nilo _ _ _ _ _ _ rfl rfl rfl), trivial⟩, ⟨⟨fun _ => ⟨rfl, rfl⟩, rfl, rfl, rfl, fun _ _ => ⟨.slc_eq rfl (fun _ _ => rfl), .int_eq rfl, .int_eq rfl, trivial⟩⟩, ⟨(show 1 ≤ 1 by decide), rfl⟩, trivial⟩, rfl, rfl⟩
  · replace h := F_beq hb4 h
    refine .direct ?_
    refine splitB.mk (fun hb5 => ?_) (fun hb5 => ?_)
    · replace h := T_beq hb5 h
      refine .direct ?_
      obtain ⟨⟨v6, v7⟩, hv8, h⟩ := bind_some h
      refine ⟨fun res h' => res = .bool v6 ∧ h' = [.row g1000 3 1 96 (fun _ => [sl 1 cB v7.fB, .int .i64 v7.fI, .int .i64 v7.fH]), .row 0 5 1 26 (fun _ => [.int .i64 0, .int .i64 0, .str [], .int .i64 0, .nils])], (ACall.over (ok37 (g1000 := g1000) hv8) [0] [.row g1000 3 1 96 (fun _ => [sl 1 cB v2.fB, .int .i64 v2.fI, .int .i64 v2.fH]), .row 0 5 1 26 (fun _ => [.int .i64 0, .int .i64 0, .str [], .int .i64 0, .nils])] rfl (by decide) (by simp) (by intro j o hj; exact match j, hj with | 0, hj => by cases hj; rfl | j + 1, hj => by cases hj) rfl).mono (by rintro _ _ ⟨_, _, ⟨rfl, rfl⟩, rfl, rfl⟩; exact ⟨rfl, rfl⟩), ?_⟩
      rintro _ _ ⟨rfl, rfl⟩
      obtain ⟨v9, hv10, h⟩ := bind_some h
      refine ⟨fun res h' => res = .agg [.int .i64 v9.fKind, .int .i64 v9.fNum, .str v9.fStr, .int .i64 v9.fNext, .own 2 0 0 v9.fItems.length] ∧ h' = [.row g1000 3 1 96 (fun _ => [sl 1 cB v7.fB, .int .i64 v7.fI, .int .i64 v7.fH]), .row 0 5 1 26 (fun _ => [.int .i64 0, .int .i64 0, .str [], .int .i64 0, .nils]), .row 0 8 v9.fItems.length 34 (row TEntry.cells v9.fItems)], (ACall.frame (ow105 hv10) [.row g1000 3 1 96 (fun _ => [sl 1 cB v7.fB, .int .i64 v7.fI, .int .i64 v7.fH]), .row 0 5 1 26 (fun _ => [.int .i64 0, .int .i64 0, .str [], .int .i64 0, .nils])] rfl).mono (by rintro _ _ ⟨_, _, ⟨rfl, rfl⟩, rfl, rfl⟩; exact ⟨rfl, by simp only [List.map_cons, List.map_nil, shiftO_row TEntry.cells_pure]; rfl⟩), ?_⟩
      rintro _ _ ⟨rfl, rfl⟩
      refine ⟨rfl, _, fun _ => [.int .i64 v9.fKind, .int .i64 v9.fNum, .str v9.fStr, .int .i64 v9.fNext, .own 2 0 0 v9.fItems.length], rfl, one_set rfl, ?_⟩
      obtain rfl := Option.some.inj h
      refine ⟨rfl, _, rfl, ?_⟩
      exact ⟨[0, 2], .agg [.int .i64 v9.fKind, .int .i64 v9.fNum, .str v9.fStr, .int .i64 v9.fNext, .own 1 0 0 v9.fItems.length], [.row g1000 3 1 96 (fun _ => [sl 1 cB v7.fB, .int .i64 v7.fI, .int .i64 v7.fH]), .row 0 8 v9.fItems.length 34 (row TEntry.cells v9.fItems)], by decide, (show 1 ≤ 2 by decide), .agg_l ⟨.int_eq rfl, .int_eq rfl, .str_eq rfl, .int_eq rfl, .own_eq rfl ⟨_, _, _, _, rfl⟩ ⟨_, _, _, _, rfl⟩ rfl rfl, trivial⟩, ⟨⟨fun _ => ⟨rfl, rfl⟩, rfl, rfl, rfl, fun _ _ => ⟨.slc_eq rfl (fun _ _ => rfl), .int_eq rfl, .int_eq rfl, trivial⟩⟩, ⟨fun h0 => absurd (show 1 < 1 from h0) (by decide), rfl, rfl, rfl, fz_row TEntry.cells_pure⟩, trivial⟩, rfl, rfl⟩
    · replace h := F_beq hb5 h
      obtain ⟨o12, ho13, hk14⟩ := bind_some h
      replace h := ho13
      refine .cut (fun σ η => ∃ b11, b11 = o12 ∧ σ = [(0, .optr 0 g1000 0 0), (2, .optr 1 0 0 0), (4, .int .i64 v1), (13, .bool b11)] ∧ η = [.row g1000 3 1 96 (fun _ => [sl 1 cB v2.fB, .int .i64 v2.fI, .int .i64 v2.fH]), .row 0 5 1 26 (fun _ => [.int .i64 0, .int .i64 0, .str [], .int .i64 0, .nils])]) ?_ ?_
      · refine .direct ?_
        refine splitB.mk (fun hb15 => ?_) (fun hb15 => ?_)
        · replace h := T_beq hb15 h
          exact ⟨[(0, .optr 0 g1000 0 0), (2, .optr 1 0 0 0), (4, .int .i64 v1), (13, .bool (v1 == 2))], [.row g1000 3 1 96 (fun _ => [sl 1 cB v2.fB, .int .i64 v2.fI, .int .i64 v2.fH]), .row 0 5 1 26 (fun _ => [.int .i64 0, .int .i64 0, .str [], .int .i64 0, .nils])], ⟨[0, 1], by decide, (show 1 ≤ 2 by decide), ⟨.optr_eq rfl ⟨_, _, _, _, rfl⟩ ⟨_, _, _, _, rfl⟩ rfl rfl, .optr_eq rfl ⟨_, _, _, _, rfl⟩ ⟨_, _, _, _, rfl⟩ rfl rfl, .int_eq rfl, .bool_eq rfl, trivial⟩, ⟨⟨fun _ => ⟨rfl, rfl⟩, rfl, rfl, rfl, fun _ _ => ⟨.slc_eq rfl (fun _ _ => rfl), .int_eq rfl, .int_eq rfl, trivial⟩⟩, ⟨fun h0 => absurd (show 1 < 1 from h0) (by decide), rfl, rfl, rfl, fun _ _ => ⟨.int_eq rfl, .int_eq rfl, .str_eq rfl, .int_eq rfl, .nils, trivial⟩⟩, trivial⟩⟩, (v1 == 2), Option.some.inj h, rfl, rfl⟩
        · replace h := F_beq hb15 h
          exact ⟨[(0, .optr 0 g1000 0 0), (2, .optr 1 0 0 0), (4, .int .i64 v1), (13, .bool (v1 == 3))], [.row g1000 3 1 96 (fun _ => [sl 1 cB v2.fB, .int .i64 v2.fI, .int .i64 v2.fH]), .row 0 5 1 26 (fun _ => [.int .i64 0, .int .i64 0, .str [], .int .i64 0, .nils])], ⟨[0, 1], by decide, (show 1 ≤ 2 by decide), ⟨.optr_eq rfl ⟨_, _, _, _, rfl⟩ ⟨_, _, _, _, rfl⟩ rfl rfl, .optr_eq rfl ⟨_, _, _, _, rfl⟩ ⟨_, _, _, _, rfl⟩ rfl rfl, .int_eq rfl, .bool_eq rfl, trivial⟩, ⟨⟨fun _ => ⟨rfl, rfl⟩, rfl, rfl, rfl, fun _ _ => ⟨.slc_eq rfl (fun _ _ => rfl), .int_eq rfl, .int_eq rfl, trivial⟩⟩, ⟨fun h0 => absurd (show 1 < 1 from h0) (by decide), rfl, rfl, rfl, fun _ _ => ⟨.int_eq rfl, .int_eq rfl, .str_eq rfl, .int_eq rfl, .nils, trivial⟩⟩, trivial⟩⟩, (v1 == 3), Option.some.inj h, rfl, rfl⟩
      · rintro _ _ ⟨b11, rfl, rfl, rfl⟩
        replace h := hk14
        refine splitB.mk (fun hb16 => ?_) (fun hb16 => ?_)
        · replace h := T_var hb16 h
          refine .direct ?_
          obtain ⟨⟨v17, v18⟩, hv19, h⟩ := bind_some h
          refine ⟨fun res h' => res = .str v17 ∧ h' = [.row g1000 3 1 96 (fun _ => [sl 1 cB v18.fB, .int .i64 v18.fI, .int .i64 v18.fH]), .row 0 5 1 26 (fun _ => [.int .i64 0, .int .i64 0, .str [], .int .i64 0, .nils])], (ACall.over (ok107 (g1000 := g1000) hv19) [0] [.row g1000 3 1 96 (fun _ => [sl 1 cB v2.fB, .int .i64 v2.fI, .int .i64 v2.fH]), .row 0 5 1 26 (fun _ => [.int .i64 0, .int .i64 0, .str [], .int .i64 0, .nils])] rfl (by decide) (by simp) (by intro j o hj; exact match j, hj with | 0, hj => by cases hj; rfl | j + 1, hj => by cases hj) rfl).mono (by rintro _ _ ⟨_, _, ⟨rfl, rfl⟩, rfl, rfl⟩; exact ⟨rfl, rfl⟩), ?_⟩
          rintro _ _ ⟨rfl, rfl⟩
          refine ⟨_, ACall.pure0 (ok_s_TextValuex v17) _ rfl (fun _ => rfl), ?_⟩
          rintro _ _ ⟨rfl, rfl⟩
          refine ⟨rfl, _, fun _ => [.int .i64 3, .int .i64 0, .str v17, .int .i64 0, .nils], rfl, one_set rfl, ?_⟩
          obtain rfl := Option.some.inj h
          refine ⟨rfl, _, rfl, ?_⟩
          exact ⟨[0, 3], .agg [.int .i64 ((TValue.mk 3 0 v17 0 []).fKind), .int .i64 ((TValue.mk 3 0 v17 0 []).fNum), .str ((TValue.mk 3 0 v17 0 []).fStr), .int .i64 ((TValue.mk 3 0 v17 0 []).fNext), .own 1 0 0 ((TValue.mk 3 0 v17 0 []).fItems).length], [.row g1000 3 1 96 (fun _ => [sl 1 cB v18.fB, .int .i64 v18.fI, .int .i64 v18.fH]), .row 0 8 ((TValue.mk 3 0 v17 0 []).fItems).length 34 (row TEntry.cells ((TValue.mk 3 0 v17 0 []).fItems))], by decide, (show 1 ≤ 2 by decide), .agg_l ⟨.int_eq rfl, .int_eq rfl, .str_eq rfl, .int_eq rfl, (.nilo _ _ _ _ _ _ rfl rfl rfl), trivial⟩, ⟨⟨fun _ => ⟨rfl, rfl⟩, rfl, rfl, rfl, fun _ _ => ⟨.slc_eq rfl (fun _ _ => rfl), .int_eq rfl, .int_eq rfl, trivial⟩⟩, ⟨(show 1 ≤ 1 by decide), rfl⟩, trivial⟩, rfl, rfl⟩
        · replace h := F_var hb16 h
          refine .direct ?_
          refine splitB.mk (fun hb20 => ?_) (fun hb20 => ?_)
          · replace h := T_beq hb20 h
            refine .direct ?_
            refine ⟨row cI ([0, 1, (-1), 5, 10, 999999999, 1000000000, (-1000000000)] : List Int), row_lit cI ([0, 1, (-1), 5, 10, 999999999, 1000000000, (-1000000000)] : List Int) rfl (cll_refl rfl), ?_⟩
            obtain ⟨⟨v21, v22⟩, hv23, h⟩ := bind_some h
            refine ⟨fun res h' => res = .int .i64 v21 ∧ h' = [.row g1000 3 1 96 (fun _ => [sl 1 cB v22.fB, .int .i64 v22.fI, .int .i64 v22.fH]), .row 0 5 1 26 (fun _ => [.int .i64 0, .int .i64 0, .str [], .int .i64 0, .nils]), .row 0 1 ([0, 1, (-1), 5, 10, 999999999, 1000000000, (-1000000000)] : List Int).length 3 (row cI ([0, 1, (-1), 5, 10, 999999999, 1000000000, (-1000000000)] : List Int))], (ACall.over (ok85 (g1000 := g1000) (g1001 := 0) hv23) [0, 2] [.row g1000 3 1 96 (fun _ => [sl 1 cB v2.fB, .int .i64 v2.fI, .int .i64 v2.fH]), .row 0 5 1 26 (fun _ => [.int .i64 0, .int .i64 0, .str [], .int .i64 0, .nils]), .row 0 1 ([0, 1, (-1), 5, 10, 999999999, 1000000000, (-1000000000)] : List Int).length 3 (row cI ([0, 1, (-1), 5, 10, 999999999, 1000000000, (-1000000000)] : List Int))] rfl (by decide) (by simp) (by intro j o hj; exact match j, hj with | 0, hj => by cases hj; rfl | 1, hj => by cases hj; exact (congrArg some (renO_row cI_pure _ _ _ _ _ _)).symm | j + 2, hj => by cases hj) rfl).mono (by rintro _ _ ⟨_, _, ⟨rfl, rfl⟩, rfl, rfl⟩; exact ⟨rfl, (by simp only [nxtL, putSel, List.map_cons, List.map_nil, List.drop, List.length_cons, List.length_nil, renO_row cI_pure]; rfl)⟩), ?_⟩
            rintro _ _ ⟨rfl, rfl⟩
            refine ⟨_, ACall.pure0 (ok_s_IntValuex v21) _ rfl (fun _ => rfl), ?_⟩
            rintro _ _ ⟨rfl, rfl⟩
            refine ⟨rfl, _, fun _ => [.int .i64 2, .int .i64 v21, .str [], .int .i64 0, .nils], rfl, one_set rfl, ?_⟩
            obtain rfl := Option.some.inj h
            refine ⟨rfl, _, rfl, ?_⟩
            exact ⟨[0, 4], .agg [.int .i64 ((TValue.mk 2 v21 [] 0 []).fKind), .int .i64 ((TValue.mk 2 v21 [] 0 []).fNum), .str ((TValue.mk 2 v21 [] 0 []).fStr), .int .i64 ((TValue.mk 2 v21 [] 0 []).fNext), .own 1 0 0 ((TValue.mk 2 v21 [] 0 []).fItems).length], [.row g1000 3 1 96 (fun _ => [sl 1 cB v22.fB, .int .i64 v22.fI, .int .i64 v22.fH]), .row 0 8 ((TValue.mk 2 v21 [] 0 []).fItems).length 34 (row TEntry.cells ((TValue.mk 2 v21 [] 0 []).fItems))], by decide, (show 1 ≤ 2 by decide), .agg_l ⟨.int_eq rfl, .int_eq rfl, .str_eq rfl, .int_eq rfl, (.nilo _ _ _ _ _ _ rfl rfl rfl), trivial⟩, ⟨⟨fun _ => ⟨rfl, rfl⟩, rfl, rfl, rfl, fun _ _ => ⟨.slc_eq rfl (fun _ _ => rfl), .int_eq rfl, .int_eq rfl, trivial⟩⟩, ⟨(show 1 ≤ 1 by decide), rfl⟩, trivial⟩, rfl, rfl⟩
          · replace h := F_beq hb20 h
            refine .direct ?_
            obtain ⟨⟨v24, v25⟩, hv26, h⟩ := bind_some h
            refine ⟨fun res h' => res = .int .i64 v24 ∧ h' = [.row g1000 3 1 96 (fun _ => [sl 1 cB v25.fB, .int .i64 v25.fI, .int .i64 v25.fH]), .row 0 5 1 26 (fun _ => [.int .i64 0, .int .i64 0, .str [], .int .i64 0, .nils])], (ACall.over (ok40 (g1000 := g1000) hv26) [0] [.row g1000 3 1 96 (fun _ => [sl 1 cB v2.fB, .int .i64 v2.fI, .int .i64 v2.fH]), .row 0 5 1 26 (fun _ => [.int .i64 0, .int .i64 0, .str [], .int .i64 0, .nils])] rfl (by decide) (by simp) (by intro j o hj; exact match j, hj with | 0, hj => by cases hj; rfl | j + 1, hj => by cases hj) rfl).mono (by rintro _ _ ⟨_, _, ⟨rfl, rfl⟩, rfl, rfl⟩; exact ⟨rfl, rfl⟩), ?_⟩
            rintro _ _ ⟨rfl, rfl⟩
            refine ⟨_, ACall.pure0 (ok_s_IntValuex (W64 (v24 - 5))) _ rfl (fun _ => rfl), ?_⟩
            rintro _ _ ⟨rfl, rfl⟩
            refine ⟨rfl, _, fun _ => [.int .i64 2, .int .i64 (W64 (v24 - 5)), .str [], .int .i64 0, .nils], rfl, one_set rfl, ?_⟩
            obtain rfl := Option.some.inj h
            refine ⟨rfl, _, rfl, ?_⟩
            exact ⟨[0, 3], .agg [.int .i64 ((TValue.mk 2 (W64 (v24 - 5)) [] 0 []).fKind), .int .i64 ((TValue.mk 2 (W64 (v24 - 5)) [] 0 []).fNum), .str ((TValue.mk 2 (W64 (v24 - 5)) [] 0 []).fStr), .int .i64 ((TValue.mk 2 (W64 (v24 - 5)) [] 0 []).fNext), .own 1 0 0 ((TValue.mk 2 (W64 (v24 - 5)) [] 0 []).fItems).length], [.row g1000 3 1 96 (fun _ => [sl 1 cB v25.fB, .int .i64 v25.fI, .int .i64 v25.fH]), .row 0 8 ((TValue.mk 2 (W64 (v24 - 5)) [] 0 []).fItems).length 34 (row TEntry.cells ((TValue.mk 2 (W64 (v24 - 5)) [] 0 []).fItems))], by decide, (show 1 ≤ 2 by decide), .agg_l ⟨.int_eq rfl, .int_eq rfl, .str_eq rfl, .int_eq rfl, (.nilo _ _ _ _ _ _ rfl rfl rfl), trivial⟩, ⟨⟨fun _ => ⟨rfl, rfl⟩, rfl, rfl, rfl, fun _ _ => ⟨.slc_eq rfl (fun _ _ => rfl), .int_eq rfl, .int_eq rfl, trivial⟩⟩, ⟨(show 1 ≤ 1 by decide), rfl⟩, trivial⟩, rfl, rfl⟩
def m87 (a0 : TValue) (a1 : TKey) (a2 : TValue) : Option (TValue) :=
  (
    lapp 96 ([] : List TEntry) a0.fItems >>= fun l5 =>
    some l5
   : Option ((List TEntry))) >>= fun l1 =>
  m90 a0 a1 >>= fun v7 =>
  ((
    (if v7 ≥ 0 then
      idx l1 v7 >>= fun x13 =>
      some (.inr (TValue.mk a0.fKind a0.fNum a0.fStr a0.fNext (l1.set v7.toNat (TEntry.mk x13.fKey a2))))
    else
      some (.inl ()))
   : Option ((Unit) ⊕ TValue)) >>= fun o9 => match o9 with
    | .inr r => some r
    | .inl _ =>
      lapp 96 l1 ([(TEntry.mk a1 a2)] : List TEntry) >>= fun l15 =>
      (
        some ()
       : Option (Unit)) >>= fun _ =>
      (if a1.fText = true then
        some (TValue.mk a0.fKind a0.fNum a0.fStr a0.fNext l15)
      else
        m91 a0.fNext (W64 (a1.fNum + 1)) >>= fun v21 =>
        some (TValue.mk a0.fKind a0.fNum a0.fStr v21 l15))
  )
theorem ok87 {a0 : TValue} {a1 : TKey} {a2 : TValue} {r : TValue} (h : m87 a0 a1 a2 = some r) : ACall Tryd.prog 48 [.agg [.int .i64 a0.fKind, .int .i64 a0.fNum, .str a0.fStr, .int .i64 a0.fNext, sl 8 TEntry.cells a0.fItems], .agg [.bool a1.fText, .int .i64 a1.fNum, .str a1.fStr], .agg [.int .i64 a2.fKind, .int .i64 a2.fNum, .str a2.fStr, .int .i64 a2.fNext, sl 8 TEntry.cells a2.fItems]] [] (fun res h => res = .agg [.int .i64 r.fKind, .int .i64 r.fNum, .str r.fStr, .int .i64 r.fNext, sl 8 TEntry.cells r.fItems] ∧ h = []) := by
  refine ACall.of_vc tabT_ok mixed Tryd.func48 rfl (by kernel_rfl) _ _ _ rfl (by kernel_rfl) ?_
  unfold m87 at h
  refine .direct ?_
  refine .direct ?_
  refine ⟨rfl, _, rfl, ?_⟩
  refine ⟨rfl, _, fun _ => [.int .i64 a0.fKind, .int .i64 a0.fNum, .str a0.fStr, .int .i64 a0.fNext, sl 8 TEntry.cells a0.fItems], rfl, one_set rfl, ?_⟩
  obtain ⟨o2, ho3, hk4⟩ := bind_some h
  replace h := ho3
  refine .cut (fun σ η => ∃ l1, l1 = o2 ∧ σ = [(3, .optr 0 0 0 0), (4, .optr 1 0 0 0), (5, .optr 2 0 0 0), (6, .optr 3 0 0 0), (7, .optr 4 0 0 0)] ∧ η = [.row 0 5 1 26 (fun _ => [.int .i64 a0.fKind, .int .i64 a0.fNum, .str a0.fStr, .int .i64 a0.fNext, sl 8 TEntry.cells a0.fItems]), .row 0 3 1 32 (fun _ => [.bool a1.fText, .int .i64 a1.fNum, .str a1.fStr]), .row 0 5 1 26 (fun _ => [.int .i64 a2.fKind, .int .i64 a2.fNum, .str a2.fStr, .int .i64 a2.fNext, sl 8 TEntry.cells a2.fItems]), .row 0 5 1 26 (fun _ => [.int .i64 0, .int .i64 0, .str [], .int .i64 0, .nils]), .row 0 5 1 26 (fun _ => [.int .i64 a0.fKind, .int .i64 a0.fNum, .str a0.fStr, .int .i64 a0.fNext, .own 5 0 0 l1.length]), .row 0 8 l1.length 34 (row TEntry.cells l1)]) ?_ ?_
  · refine ⟨row TEntry.cells ([] : List TEntry), row_lit TEntry.cells ([] : List TEntry) rfl (cll_refl rfl), ?_⟩
    refine ⟨rfl, ?_⟩
    refine ⟨rfl, _, rfl, ?_⟩
    obtain ⟨l5, hx6, h⟩ := bind_some h
    refine ⟨rfl, lapp_bd hx6, l5.length, row TEntry.cells l5, lapp_len hx6, lapp_row hx6 shows_all src_slc, ?_⟩
    refine ⟨rfl, ?_⟩
    refine ⟨rfl, _, fun _ => [.int .i64 a0.fKind, .int .i64 a0.fNum, .str a0.fStr, .int .i64 a0.fNext, .own 5 (0 + 1) 0 l5.length], rfl, one_set rfl, ?_⟩
    exact ⟨[(3, .optr 0 0 0 0), (4, .optr 1 0 0 0), (5, .optr 2 0 0 0), (6, .optr 3 0 0 0), (7, .optr 4 0 0 0)], [.row 0 5 1 26 (fun _ => [.int .i64 a0.fKind, .int .i64 a0.fNum, .str a0.fStr, .int .i64 a0.fNext, sl 8 TEntry.cells a0.fItems]), .row 0 3 1 32 (fun _ => [.bool a1.fText, .int .i64 a1.fNum, .str a1.fStr]), .row 0 5 1 26 (fun _ => [.int .i64 a2.fKind, .int .i64 a2.fNum, .str a2.fStr, .int .i64 a2.fNext, sl 8 TEntry.cells a2.fItems]), .row 0 5 1 26 (fun _ => [.int .i64 0, .int .i64 0, .str [], .int .i64 0, .nils]), .row 0 5 1 26 (fun _ => [.int .i64 a0.fKind, .int .i64 a0.fNum, .str a0.fStr, .int .i64 a0.fNext, .own 5 0 0 l5.length]), .row 0 8 l5.length 34 (row TEntry.cells l5)], ⟨[0, 1, 2, 3, 4, 5], by decide, (show 0 ≤ 6 by decide), ⟨.optr_eq rfl ⟨_, _, _, _, rfl⟩ ⟨_, _, _, _, rfl⟩ rfl rfl, .optr_eq rfl ⟨_, _, _, _, rfl⟩ ⟨_, _, _, _, rfl⟩ rfl rfl, .optr_eq rfl ⟨_, _, _, _, rfl⟩ ⟨_, _, _, _, rfl⟩ rfl rfl, .optr_eq rfl ⟨_, _, _, _, rfl⟩ ⟨_, _, _, _, rfl⟩ rfl rfl, .optr_eq rfl ⟨_, _, _, _, rfl⟩ ⟨_, _, _, _, rfl⟩ rfl rfl, trivial⟩, ⟨⟨fun h0 => absurd (show 0 < 0 from h0) (by decide), rfl, rfl, rfl, fun _ _ => ⟨.int_eq rfl, .int_eq rfl, .str_eq rfl, .int_eq rfl, .slc_eq rfl (fun _ _ => rfl), trivial⟩⟩, ⟨fun h0 => absurd (show 1 < 0 from h0) (by decide), rfl, rfl, rfl, fun _ _ => ⟨.bool_eq rfl, .int_eq rfl, .str_eq rfl, trivial⟩⟩, ⟨fun h0 => absurd (show 2 < 0 from h0) (by decide), rfl, rfl, rfl, fun _ _ => ⟨.int_eq rfl, .int_eq rfl, .str_eq rfl, .int_eq rfl, .slc_eq rfl (fun _ _ => rfl), trivial⟩⟩, ⟨fun h0 => absurd (show 3 < 0 from h0) (by decide), rfl, rfl, rfl, fun _ _ => ⟨.int_eq rfl, .int_eq rfl, .str_eq rfl, .int_eq rfl, .nils, trivial⟩⟩, ⟨fun h0 => absurd (show 4 < 0 from h0) (by decide), rfl, rfl, rfl, fun _ _ => ⟨.int_eq rfl, .int_eq rfl, .str_eq rfl, .int_eq rfl, .own_eq rfl ⟨_, _, _, _, rfl⟩ ⟨_, _, _, _, rfl⟩ rfl rfl, trivial⟩⟩, ⟨fun h0 => absurd (show 5 < 0 from h0) (by decide), rfl, rfl, rfl, fz_row TEntry.cells_pure⟩, trivial⟩⟩, l5, Option.some.inj h, rfl, rfl⟩
  · rintro _ _ ⟨l1, rfl, rfl, rfl⟩
    replace h := hk4
    refine .direct ?_
    refine ⟨rfl, _, rfl, ?_⟩
    refine ⟨rfl, _, rfl, ?_⟩
    obtain ⟨v7, hv8, h⟩ := bind_some h
    refine ⟨_, ACall.pure0 (ok90 hv8) _ rfl (fun _ => rfl), ?_⟩
    rintro _ _ ⟨rfl, rfl⟩
    obtain ⟨o9, ho10, hk11⟩ := bind_some h
    replace h := ho10
    refine .cut (fun σ η => .inl () = o9 ∧ σ = [(4, .optr 0 0 0 0), (5, .optr 1 0 0 0), (6, .optr 2 0 0 0), (7, .optr 3 0 0 0)] ∧ η = [.row 0 3 1 32 (fun _ => [.bool a1.fText, .int .i64 a1.fNum, .str a1.fStr]), .row 0 5 1 26 (fun _ => [.int .i64 a2.fKind, .int .i64 a2.fNum, .str a2.fStr, .int .i64 a2.fNext, sl 8 TEntry.cells a2.fItems]), .row 0 5 1 26 (fun _ => [.int .i64 0, .int .i64 0, .str [], .int .i64 0, .nils]), .row 0 5 1 26 (fun _ => [.int .i64 a0.fKind, .int .i64 a0.fNum, .str a0.fStr, .int .i64 a0.fNext, .own 4 0 0 l1.length]), .row 0 8 l1.length 34 (row TEntry.cells l1)]) ?_ ?_
    · refine .direct ?_
      refine splitB.mk (fun hb12 => ?_) (fun hb12 => ?_)
      · replace h := T_dec hb12 h
        refine .direct ?_
        refine ⟨rfl, ?_⟩
        refine ⟨rfl, _, rfl, ?_⟩
        refine ⟨rfl, _, rfl, ?_⟩
        obtain ⟨x13, hx14, h⟩ := bind_some h
        refine ⟨rfl, idx_bd hx14, _, Nat.zero_add _, ?_⟩
        refine ⟨rfl, ?_⟩
        refine ⟨rfl, _, row TEntry.cells (l1.set v7.toNat (TEntry.mk x13.fKey a2)), ((idx_row hx14).trans (TEntry.cells_eq x13)), row_set (idx_lt hx14) (TEntry.cells_eq (TEntry.mk x13.fKey a2)) ⟨.same _, .same _, .same _, .same _, .same _, .same _, .same _, .same _, trivial⟩, ?_⟩
        refine .direct ?_
        refine ⟨rfl, _, rfl, ?_⟩
        refine ⟨rfl, _, fun _ => [.int .i64 a0.fKind, .int .i64 a0.fNum, .str a0.fStr, .int .i64 a0.fNext, .own 5 0 0 l1.length], rfl, one_set rfl, ?_⟩
        obtain rfl := Option.some.inj h
        replace h := hk11
        obtain rfl := Option.some.inj h
        refine ⟨rfl, _, rfl, ?_⟩
        exact ⟨[], .agg [.int .i64 ((TValue.mk a0.fKind a0.fNum a0.fStr a0.fNext (l1.set v7.toNat (TEntry.mk x13.fKey a2))).fKind), .int .i64 ((TValue.mk a0.fKind a0.fNum a0.fStr a0.fNext (l1.set v7.toNat (TEntry.mk x13.fKey a2))).fNum), .str ((TValue.mk a0.fKind a0.fNum a0.fStr a0.fNext (l1.set v7.toNat (TEntry.mk x13.fKey a2))).fStr), .int .i64 ((TValue.mk a0.fKind a0.fNum a0.fStr a0.fNext (l1.set v7.toNat (TEntry.mk x13.fKey a2))).fNext), sl 8 TEntry.cells ((TValue.mk a0.fKind a0.fNum a0.fStr a0.fNext (l1.set v7.toNat (TEntry.mk x13.fKey a2))).fItems)], [], by decide, (show 0 ≤ 0 by decide), .agg_l ⟨.int_eq rfl, .int_eq rfl, .str_eq rfl, .int_eq rfl, (fz_frz2 TEntry.cells_pure (by first | decide | simp) rfl shows_all (by simp)), trivial⟩, trivial, rfl, rfl⟩
      · replace h := F_dec hb12 h
        exact ⟨[(4, .optr 0 0 0 0), (5, .optr 1 0 0 0), (6, .optr 2 0 0 0), (7, .optr 3 0 0 0)], [.row 0 3 1 32 (fun _ => [.bool a1.fText, .int .i64 a1.fNum, .str a1.fStr]), .row 0 5 1 26 (fun _ => [.int .i64 a2.fKind, .int .i64 a2.fNum, .str a2.fStr, .int .i64 a2.fNext, sl 8 TEntry.cells a2.fItems]), .row 0 5 1 26 (fun _ => [.int .i64 0, .int .i64 0, .str [], .int .i64 0, .nils]), .row 0 5 1 26 (fun _ => [.int .i64 a0.fKind, .int .i64 a0.fNum, .str a0.fStr, .int .i64 a0.fNext, .own 4 0 0 l1.length]), .row 0 8 l1.length 34 (row TEntry.cells l1)], ⟨[1, 2, 3, 4, 5], by decide, (show 0 ≤ 5 by decide), ⟨.optr_eq rfl ⟨_, _, _, _, rfl⟩ ⟨_, _, _, _, rfl⟩ rfl rfl, .optr_eq rfl ⟨_, _, _, _, rfl⟩ ⟨_, _, _, _, rfl⟩ rfl rfl, .optr_eq rfl ⟨_, _, _, _, rfl⟩ ⟨_, _, _, _, rfl⟩ rfl rfl, .optr_eq rfl ⟨_, _, _, _, rfl⟩ ⟨_, _, _, _, rfl⟩ rfl rfl, trivial⟩, ⟨⟨fun h0 => absurd (show 0 < 0 from h0) (by decide), rfl, rfl, rfl, fun _ _ => ⟨.bool_eq rfl, .int_eq rfl, .str_eq rfl, trivial⟩⟩, ⟨fun h0 => absurd (show 1 < 0 from h0) (by decide), rfl, rfl, rfl, fun _ _ => ⟨.int_eq rfl, .int_eq rfl, .str_eq rfl, .int_eq rfl, .slc_eq rfl (fun _ _ => rfl), trivial⟩⟩, ⟨fun h0 => absurd (show 2 < 0 from h0) (by decide), rfl, rfl, rfl, fun _ _ => ⟨.int_eq rfl, .int_eq rfl, .str_eq rfl, .int_eq rfl, .nils, trivial⟩⟩, ⟨fun h0 => absurd (show 3 < 0 from h0) (by decide), rfl, rfl, rfl, fun _ _ => ⟨.int_eq rfl, .int_eq rfl, .str_eq rfl, .int_eq rfl, .own_eq rfl ⟨_, _, _, _, rfl⟩ ⟨_, _, _, _, rfl⟩ rfl rfl, trivial⟩⟩, ⟨fun h0 => absurd (show 4 < 0 from h0) (by decide), rfl, rfl, rfl, fz_row TEntry.cells_pure⟩, trivial⟩⟩, Option.some.inj h, rfl, rfl⟩
    · rintro _ _ ⟨rfl, rfl, rfl⟩
      replace h := hk11
      refine .direct ?_
      refine ⟨rfl, ?_⟩
      refine ⟨rfl, _, rfl, ?_⟩
      refine ⟨rfl, _, rfl, ?_⟩
      refine ⟨rfl, _, rfl, ?_⟩
      refine ⟨row TEntry.cells ([(TEntry.mk a1 a2)] : List TEntry), row_lit TEntry.cells ([(TEntry.mk a1 a2)] : List TEntry) rfl (cll_cons (TEntry.cells_eq _) ⟨.same _, .same _, .same _, .same _, .same _, .same _, .same _, .same _, trivial⟩ trivial), ?_⟩
      obtain ⟨l15, hx16, h⟩ := bind_some h
      refine ⟨rfl, rfl, lapp_bd hx16, l15.length, row TEntry.cells l15, lapp_len hx16, lapp_row hx16 shows_all (src_own shows_all), ?_⟩
      refine ⟨rfl, ?_⟩
      refine ⟨rfl, _, fun _ => [.int .i64 a0.fKind, .int .i64 a0.fNum, .str a0.fStr, .int .i64 a0.fNext, .own 4 (0 + 1) 0 l15.length], rfl, one_set rfl, ?_⟩
      refine .direct ?_
      obtain ⟨o17, ho18, hk19⟩ := bind_some h
      replace h := ho18
      refine .cut (fun σ η => () = o17 ∧ σ = [(4, .optr 0 0 0 0), (6, .optr 1 0 0 0), (7, .optr 2 0 0 0), (37, .bool (!a1.fText))] ∧ η = [.row 0 3 1 32 (fun _ => [.bool a1.fText, .int .i64 a1.fNum, .str a1.fStr]), .row 0 5 1 26 (fun _ => [.int .i64 0, .int .i64 0, .str [], .int .i64 0, .nils]), .row 0 5 1 26 (fun _ => [.int .i64 a0.fKind, .int .i64 a0.fNum, .str a0.fStr, .int .i64 a0.fNext, .own 3 0 0 l15.length]), .row 0 8 l15.length 34 (row TEntry.cells l15)]) ?_ ?_
      · refine ⟨rfl, ?_⟩
        refine ⟨rfl, _, rfl, ?_⟩
        exact ⟨[(4, .optr 0 0 0 0), (6, .optr 1 0 0 0), (7, .optr 2 0 0 0), (37, .bool (!a1.fText))], [.row 0 3 1 32 (fun _ => [.bool a1.fText, .int .i64 a1.fNum, .str a1.fStr]), .row 0 5 1 26 (fun _ => [.int .i64 0, .int .i64 0, .str [], .int .i64 0, .nils]), .row 0 5 1 26 (fun _ => [.int .i64 a0.fKind, .int .i64 a0.fNum, .str a0.fStr, .int .i64 a0.fNext, .own 3 0 0 l15.length]), .row 0 8 l15.length 34 (row TEntry.cells l15)], ⟨[0, 2, 3, 4], by decide, (show 0 ≤ 4 by decide), ⟨.optr_eq rfl ⟨_, _, _, _, rfl⟩ ⟨_, _, _, _, rfl⟩ rfl rfl, .optr_eq rfl ⟨_, _, _, _, rfl⟩ ⟨_, _, _, _, rfl⟩ rfl rfl, .optr_eq rfl ⟨_, _, _, _, rfl⟩ ⟨_, _, _, _, rfl⟩ rfl rfl, .bool_eq rfl, trivial⟩, ⟨⟨fun h0 => absurd (show 0 < 0 from h0) (by decide), rfl, rfl, rfl, fun _ _ => ⟨.bool_eq rfl, .int_eq rfl, .str_eq rfl, trivial⟩⟩, ⟨fun h0 => absurd (show 1 < 0 from h0) (by decide), rfl, rfl, rfl, fun _ _ => ⟨.int_eq rfl, .int_eq rfl, .str_eq rfl, .int_eq rfl, .nils, trivial⟩⟩, ⟨fun h0 => absurd (show 2 < 0 from h0) (by decide), rfl, rfl, rfl, fun _ _ => ⟨.int_eq rfl, .int_eq rfl, .str_eq rfl, .int_eq rfl, .own_eq rfl ⟨_, _, _, _, rfl⟩ ⟨_, _, _, _, rfl⟩ rfl rfl, trivial⟩⟩, ⟨fun h0 => absurd (show 3 < 0 from h0) (by decide), rfl, rfl, rfl, fz_row TEntry.cells_pure⟩, trivial⟩⟩, Option.some.inj h, rfl, rfl⟩
      · rintro _ _ ⟨rfl, rfl, rfl⟩
        replace h := hk19
        refine splitB.mk (fun hb20 => ?_) (fun hb20 => ?_)
        · have hb23 := not_F hb20
          replace h := F_var hb23 h
          refine ⟨rfl, ?_⟩
          refine ⟨rfl, _, rfl, ?_⟩
          refine ⟨rfl, ?_⟩
          refine ⟨rfl, _, rfl, ?_⟩
          obtain ⟨v21, hv22, h⟩ := bind_some h
          refine ⟨_, ACall.pure0 (ok91 hv22) _ rfl (fun _ => rfl), ?_⟩
          rintro _ _ ⟨rfl, rfl⟩
          refine ⟨rfl, ?_⟩
          refine ⟨rfl, _, fun _ => [.int .i64 a0.fKind, .int .i64 a0.fNum, .str a0.fStr, .int .i64 v21, .own 3 0 0 l15.length], rfl, one_set rfl, ?_⟩
          refine .direct ?_
          refine ⟨rfl, _, rfl, ?_⟩
          refine ⟨rfl, _, fun _ => [.int .i64 a0.fKind, .int .i64 a0.fNum, .str a0.fStr, .int .i64 v21, .own 3 0 0 l15.length], rfl, one_set rfl, ?_⟩
          obtain rfl := Option.some.inj h
          refine ⟨rfl, _, rfl, ?_⟩
          exact ⟨[], .agg [.int .i64 ((TValue.mk a0.fKind a0.fNum a0.fStr v21 l15).fKind), .int .i64 ((TValue.mk a0.fKind a0.fNum a0.fStr v21 l15).fNum), .str ((TValue.mk a0.fKind a0.fNum a0.fStr v21 l15).fStr), .int .i64 ((TValue.mk a0.fKind a0.fNum a0.fStr v21 l15).fNext), sl 8 TEntry.cells ((TValue.mk a0.fKind a0.fNum a0.fStr v21 l15).fItems)], [], by decide, (show 0 ≤ 0 by decide), .agg_l ⟨.int_eq rfl, .int_eq rfl, .str_eq rfl, .int_eq rfl, (fz_frz TEntry.cells_pure (by first | decide | simp) rfl shows_all), trivial⟩, trivial, rfl, rfl⟩
        · have hb23 := not_T hb20
          replace h := T_var hb23 h
          refine .direct ?_
          refine ⟨rfl, _, rfl, ?_⟩
          refine ⟨rfl, _, fun _ => [.int .i64 a0.fKind, .int .i64 a0.fNum, .str a0.fStr, .int .i64 a0.fNext, .own 3 0 0 l15.length], rfl, one_set rfl, ?_⟩
          obtain rfl := Option.some.inj h
          refine ⟨rfl, _, rfl, ?_⟩
          exact ⟨[], .agg [.int .i64 ((TValue.mk a0.fKind a0.fNum a0.fStr a0.fNext l15).fKind), .int .i64 ((TValue.mk a0.fKind a0.fNum a0.fStr a0.fNext l15).fNum), .str ((TValue.mk a0.fKind a0.fNum a0.fStr a0.fNext l15).fStr), .int .i64 ((TValue.mk a0.fKind a0.fNum a0.fStr a0.fNext l15).fNext), sl 8 TEntry.cells ((TValue.mk a0.fKind a0.fNum a0.fStr a0.fNext l15).fItems)], [], by decide, (show 0 ≤ 0 by decide), .agg_l ⟨.int_eq rfl, .int_eq rfl, .str_eq rfl, .int_eq rfl, (fz_frz TEntry.cells_pure (by first | decide | simp) rfl shows_all), trivial⟩, trivial, rfl, rfl⟩
end Go.Am
