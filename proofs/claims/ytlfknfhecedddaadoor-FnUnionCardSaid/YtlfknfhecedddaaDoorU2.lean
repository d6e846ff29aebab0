/- Models of Go functions, and their walks. (Printed by tools/mg.py.) -/
import Derived.Test.YtlfknfhecedddaaDoorF4
import Derived.Test.YtlfknfhecedddaaDoorU1
set_option linter.unusedVariables false
set_option linter.unusedSimpArgs false
set_option maxRecDepth 100000
namespace Go.Am
open Go Go.RowKit Go.Proofs

def m_s_DrawUnion (a0 : List UInt8) : Option (TValue × TValue) :=
  m36 a0 >>= fun v1 =>
  m49 v1 >>= fun (v3, v4) =>
  m49 v4 >>= fun (v6, v7) =>
  some (v3, v6)
theorem ok_s_DrawUnion {a0 : List UInt8} {r : TValue × TValue} (h : m_s_DrawUnion a0 = some r) : ACall Tryd.prog 9 [sl 1 cB a0] [] (fun res h => res = .tup [.agg [.int .i64 r.1.fKind, .int .i64 r.1.fNum, .str r.1.fStr, .int .i64 r.1.fNext, sl 8 TEntry.cells r.1.fItems], .agg [.int .i64 r.2.fKind, .int .i64 r.2.fNum, .str r.2.fStr, .int .i64 r.2.fNext, sl 8 TEntry.cells r.2.fItems]] ∧ h = []) := by
  refine ACall.of_vc tabT_ok mixed Tryd.func9 rfl (by kernel_rfl) _ _ _ rfl (by kernel_rfl) ?_
  unfold m_s_DrawUnion at h
  refine .direct ?_
  refine .direct ?_
  obtain ⟨v1, hv2, h⟩ := bind_some h
  refine ⟨fun res h' => res = .optr 2 0 0 0 ∧ h' = [.row 0 5 1 26 (fun _ => [.int .i64 0, .int .i64 0, .str [], .int .i64 0, .nils]), .row 0 5 1 26 (fun _ => [.int .i64 0, .int .i64 0, .str [], .int .i64 0, .nils]), .row 0 3 1 96 (fun _ => [sl 1 cB v1.fB, .int .i64 v1.fI, .int .i64 v1.fH])], (ACall.frame (ok36 hv2) [.row 0 5 1 26 (fun _ => [.int .i64 0, .int .i64 0, .str [], .int .i64 0, .nils]), .row 0 5 1 26 (fun _ => [.int .i64 0, .int .i64 0, .str [], .int .i64 0, .nils])] rfl).mono (by rintro _ _ ⟨_, _, ⟨rfl, rfl⟩, rfl, rfl⟩; exact ⟨rfl, rfl⟩), ?_⟩
  rintro _ _ ⟨rfl, rfl⟩
  refine .direct ?_
  obtain ⟨⟨v3, v4⟩, hv5, h⟩ := bind_some h
  refine ⟨fun res h' => res = .agg [.int .i64 v3.fKind, .int .i64 v3.fNum, .str v3.fStr, .int .i64 v3.fNext, sl 8 TEntry.cells v3.fItems] ∧ h' = [.row 0 5 1 26 (fun _ => [.int .i64 0, .int .i64 0, .str [], .int .i64 0, .nils]), .row 0 5 1 26 (fun _ => [.int .i64 0, .int .i64 0, .str [], .int .i64 0, .nils]), .row 0 3 1 96 (fun _ => [sl 1 cB v4.fB, .int .i64 v4.fI, .int .i64 v4.fH])], (ACall.over (ok49 (g1000 := 0) hv5) [2] [.row 0 5 1 26 (fun _ => [.int .i64 0, .int .i64 0, .str [], .int .i64 0, .nils]), .row 0 5 1 26 (fun _ => [.int .i64 0, .int .i64 0, .str [], .int .i64 0, .nils]), .row 0 3 1 96 (fun _ => [sl 1 cB v1.fB, .int .i64 v1.fI, .int .i64 v1.fH])] rfl (by decide) (by simp) (by intro j o hj; exact match j, hj with | 0, hj => by cases hj; rfl | j + 1, hj => by cases hj) rfl).mono (by rintro _ _ ⟨_, _, ⟨rfl, rfl⟩, rfl, rfl⟩; exact ⟨rfl, rfl⟩), ?_⟩
  rintro _ _ ⟨rfl, rfl⟩
  obtain ⟨⟨v6, v7⟩, hv8, h⟩ := bind_some h
  refine ⟨fun res h' => res = .agg [.int .i64 v6.fKind, .int .i64 v6.fNum, .str v6.fStr, .int .i64 v6.fNext, sl 8 TEntry.cells v6.fItems] ∧ h' = [.row 0 5 1 26 (fun _ => [.int .i64 0, .int .i64 0, .str [], .int .i64 0, .nils]), .row 0 5 1 26 (fun _ => [.int .i64 0, .int .i64 0, .str [], .int .i64 0, .nils]), .row 0 3 1 96 (fun _ => [sl 1 cB v7.fB, .int .i64 v7.fI, .int .i64 v7.fH])], (ACall.over (ok49 (g1000 := 0) hv8) [2] [.row 0 5 1 26 (fun _ => [.int .i64 0, .int .i64 0, .str [], .int .i64 0, .nils]), .row 0 5 1 26 (fun _ => [.int .i64 0, .int .i64 0, .str [], .int .i64 0, .nils]), .row 0 3 1 96 (fun _ => [sl 1 cB v4.fB, .int .i64 v4.fI, .int .i64 v4.fH])] rfl (by decide) (by simp) (by intro j o hj; exact match j, hj with | 0, hj => by cases hj; rfl | j + 1, hj => by cases hj) rfl).mono (by rintro _ _ ⟨_, _, ⟨rfl, rfl⟩, rfl, rfl⟩; exact ⟨rfl, rfl⟩), ?_⟩
  rintro _ _ ⟨rfl, rfl⟩
  refine ⟨rfl, _, fun _ => [.int .i64 v3.fKind, .int .i64 v3.fNum, .str v3.fStr, .int .i64 v3.fNext, sl 8 TEntry.cells v3.fItems], rfl, one_set rfl, ?_⟩
  refine ⟨rfl, _, fun _ => [.int .i64 v6.fKind, .int .i64 v6.fNum, .str v6.fStr, .int .i64 v6.fNext, sl 8 TEntry.cells v6.fItems], rfl, one_set rfl, ?_⟩
  obtain rfl := Option.some.inj h
  refine ⟨rfl, _, rfl, ?_⟩
  refine ⟨rfl, _, rfl, ?_⟩
  exact ⟨[], .tup [.agg [.int .i64 v3.fKind, .int .i64 v3.fNum, .str v3.fStr, .int .i64 v3.fNext, sl 8 TEntry.cells v3.fItems], .agg [.int .i64 v6.fKind, .int .i64 v6.fNum, .str v6.fStr, .int .i64 v6.fNext, sl 8 TEntry.cells v6.fItems]], [], by decide, (show 0 ≤ 0 by decide), .tup_l ⟨.agg_l ⟨.int_eq rfl, .int_eq rfl, .str_eq rfl, .int_eq rfl, .slc_eq rfl (fun _ _ => rfl), trivial⟩, .agg_l ⟨.int_eq rfl, .int_eq rfl, .str_eq rfl, .int_eq rfl, .slc_eq rfl (fun _ _ => rfl), trivial⟩, trivial⟩, trivial, rfl, rfl⟩
def m_l_FnUnion_L2 (l9 : List TEntry) (v2 : TValue) (y21 : Int) : Option ((Unit) ⊕ Bool) :=
  (if y21 < (v2.fItems.length : Int) then
    (if y21 ≥ (l9.length : Int) then
      some (.inr false)
    else
      idx l9 y21 >>= fun x26 =>
      idx v2.fItems y21 >>= fun x28 =>
      (if x26.fKey = x28.fKey then
        idx l9 y21 >>= fun x31 =>
        idx v2.fItems y21 >>= fun x33 =>
        m19 x31.fVal x33.fVal >>= fun v35 =>
        (if v35 = true then
          m_l_FnUnion_L2 l9 v2 (W64 (y21 + 1))
        else
          some (.inr false))
      else
        some (.inr false)))
  else
    some (.inl ()))
partial_fixpoint
def m_l_FnUnion_L4 (l9 : List TEntry) (s7 : Str) (v2 : TValue) (v3 : TValue) (y5 : Int) (y6 : Int) (y8 : Int) (y45 : Int) : Option ((Unit) ⊕ Bool) :=
  (if y45 < (v3.fItems.length : Int) then
    (
      idx v3.fItems y45 >>= fun x58 =>
      m25 (TValue.mk y5 y6 s7 y8 l9) x58.fKey >>= fun (v60, v61) =>
      some (v60.fKind, v60.fNum, v60.fStr, v60.fNext, v60.fItems, v61)
     : Option (Int × Int × Str × Int × (List TEntry) × Bool)) >>= fun (y49, y50, s51, y52, l53, b54) =>
    (
      idx v3.fItems y45 >>= fun x67 =>
      m_s_GetKey v2 x67.fKey >>= fun (v69, v70) =>
      some v70
     : Option (Bool)) >>= fun b63 =>
    (if b54 = true then
      (if b63 = true then
        m_l_FnUnion_L4 l9 s7 v2 v3 y5 y6 y8 (W64 (y45 + 1))
      else
        idx v3.fItems y45 >>= fun x74 =>
        m19 (TValue.mk y49 y50 s51 y52 l53) x74.fVal >>= fun v76 =>
        (if v76 = true then
          m_l_FnUnion_L4 l9 s7 v2 v3 y5 y6 y8 (W64 (y45 + 1))
        else
          some (.inr false)))
    else
      some (.inr false))
  else
    some (.inl ()))
partial_fixpoint
def m_l_FnUnion (a0 : List UInt8) : Option (Bool) :=
  (if (a0.length : Int) > 1048576 then
    some true
  else
    m_s_DrawUnion a0 >>= fun (v2, v3) =>
    (
      m_i_Union v2 v3 >>= fun (v14, v15) =>
      some (v14.fKind, v14.fNum, v14.fStr, v14.fNext, v14.fItems, v15)
     : Option (Int × Int × Str × Int × (List TEntry) × Int)) >>= fun (y5, y6, s7, y8, l9, y10) =>
    (if y10 = 0 then
      ((
        m_l_FnUnion_L2 l9 v2 0
       : Option ((Unit) ⊕ Bool)) >>= fun o18 => match o18 with
        | .inr r => some r
        | .inl _ =>
          ((
            m_l_FnUnion_L4 l9 s7 v2 v3 y5 y6 y8 0
           : Option ((Unit) ⊕ Bool)) >>= fun o42 => match o42 with
            | .inr r => some r
            | .inl _ =>
              m22 (TValue.mk y5 y6 s7 y8 l9) >>= fun v84 =>
              some v84
          )
      )
    else
      some (y5 == 0)))
theorem ok_l_FnUnion {a0 : List UInt8} {r : Bool} (h : m_l_FnUnion a0 = some r) : ACall Tryd.prog 3 [sl 1 cB a0] [] (fun res h => res = .bool r ∧ h = []) := by
  refine ACall.of_vc tabT_ok mixed Tryd.func3 rfl (by kernel_rfl) _ _ _ rfl (by kernel_rfl) ?_
  unfold m_l_FnUnion at h
  refine .direct ?_
  refine .direct ?_
  refine .direct ?_
  refine ⟨_, ACall.pure0 (ok_l_bigx a0) _ rfl (fun _ => rfl), ?_⟩
  rintro _ _ ⟨rfl, rfl⟩
  refine splitB.mk (fun hb1 => ?_) (fun hb1 => ?_)
  · replace h := T_dec hb1 h
    refine .direct ?_
    obtain rfl := Option.some.inj h
    exact ⟨[], .bool true, [], by decide, (show 0 ≤ 0 by decide), .bool_eq rfl, trivial, rfl, rfl⟩
  · replace h := F_dec hb1 h
    refine .direct ?_
    obtain ⟨⟨v2, v3⟩, hv4, h⟩ := bind_some h
    refine ⟨_, ACall.pure0 (ok_s_DrawUnion hv4) _ rfl (fun _ => rfl), ?_⟩
    rintro _ _ ⟨rfl, rfl⟩
    refine ⟨rfl, _, fun _ => [.int .i64 v2.fKind, .int .i64 v2.fNum, .str v2.fStr, .int .i64 v2.fNext, sl 8 TEntry.cells v2.fItems], rfl, one_set rfl, ?_⟩
    refine ⟨rfl, _, fun _ => [.int .i64 v3.fKind, .int .i64 v3.fNum, .str v3.fStr, .int .i64 v3.fNext, sl 8 TEntry.cells v3.fItems], rfl, one_set rfl, ?_⟩
    obtain ⟨o11, ho12, hk13⟩ := bind_some h
    replace h := ho12
    refine .cut (fun σ η => ∃ y5, ∃ y6, ∃ s7, ∃ y8, ∃ l9, ∃ y10, (y5, y6, s7, y8, l9, y10) = o11 ∧ σ = [(3, .optr 0 0 0 0), (4, .optr 1 0 0 0), (5, .optr 2 0 0 0), (6, .int .i64 y10)] ∧ η = [.row 0 5 1 26 (fun _ => [.int .i64 v2.fKind, .int .i64 v2.fNum, .str v2.fStr, .int .i64 v2.fNext, sl 8 TEntry.cells v2.fItems]), .row 0 5 1 26 (fun _ => [.int .i64 v3.fKind, .int .i64 v3.fNum, .str v3.fStr, .int .i64 v3.fNext, sl 8 TEntry.cells v3.fItems]), .row 0 5 1 26 (fun _ => [.int .i64 y5, .int .i64 y6, .str s7, .int .i64 y8, sl 8 TEntry.cells l9])]) ?_ ?_
    · refine ⟨rfl, _, rfl, ?_⟩
      refine ⟨rfl, _, rfl, ?_⟩
      obtain ⟨⟨v14, v15⟩, hv16, h⟩ := bind_some h
      refine ⟨_, ACall.pure0 (ok_i_Union hv16) _ rfl (fun _ => rfl), ?_⟩
      rintro _ _ ⟨rfl, rfl⟩
      refine ⟨rfl, _, fun _ => [.int .i64 v14.fKind, .int .i64 v14.fNum, .str v14.fStr, .int .i64 v14.fNext, sl 8 TEntry.cells v14.fItems], rfl, one_set rfl, ?_⟩
      exact ⟨[(3, .optr 0 0 0 0), (4, .optr 1 0 0 0), (5, .optr 2 0 0 0), (6, .int .i64 v15)], [.row 0 5 1 26 (fun _ => [.int .i64 v2.fKind, .int .i64 v2.fNum, .str v2.fStr, .int .i64 v2.fNext, sl 8 TEntry.cells v2.fItems]), .row 0 5 1 26 (fun _ => [.int .i64 v3.fKind, .int .i64 v3.fNum, .str v3.fStr, .int .i64 v3.fNext, sl 8 TEntry.cells v3.fItems]), .row 0 5 1 26 (fun _ => [.int .i64 v14.fKind, .int .i64 v14.fNum, .str v14.fStr, .int .i64 v14.fNext, sl 8 TEntry.cells v14.fItems])], ⟨[0, 1, 2], by decide, (show 0 ≤ 3 by decide), ⟨.optr_eq rfl ⟨_, _, _, _, rfl⟩ ⟨_, _, _, _, rfl⟩ rfl rfl, .optr_eq rfl ⟨_, _, _, _, rfl⟩ ⟨_, _, _, _, rfl⟩ rfl rfl, .optr_eq rfl ⟨_, _, _, _, rfl⟩ ⟨_, _, _, _, rfl⟩ rfl rfl, .int_eq rfl, trivial⟩, ⟨⟨fun h0 => absurd (show 0 < 0 from h0) (by decide), rfl, rfl, rfl, fun _ _ => ⟨.int_eq rfl, .int_eq rfl, .str_eq rfl, .int_eq rfl, .slc_eq rfl (fun _ _ => rfl), trivial⟩⟩, ⟨fun h0 => absurd (show 1 < 0 from h0) (by decide), rfl, rfl, rfl, fun _ _ => ⟨.int_eq rfl, .int_eq rfl, .str_eq rfl, .int_eq rfl, .slc_eq rfl (fun _ _ => rfl), trivial⟩⟩, ⟨fun h0 => absurd (show 2 < 0 from h0) (by decide), rfl, rfl, rfl, fun _ _ => ⟨.int_eq rfl, .int_eq rfl, .str_eq rfl, .int_eq rfl, .slc_eq rfl (fun _ _ => rfl), trivial⟩⟩, trivial⟩⟩, v14.fKind, v14.fNum, v14.fStr, v14.fNext, v14.fItems, v15, Option.some.inj h, rfl, rfl⟩
    · rintro _ _ ⟨y5, y6, s7, y8, l9, y10, rfl, rfl, rfl⟩
      replace h := hk13
      refine .direct ?_
      refine .direct ?_
      refine splitB.mk (fun hb17 => ?_) (fun hb17 => ?_)
      · replace h := T_bne hb17 h
        refine .direct ?_
        refine ⟨rfl, ?_⟩
        refine ⟨rfl, _, rfl, ?_⟩
        obtain rfl := Option.some.inj h
        exact ⟨[], .bool (y5 == 0), [], by decide, (show 0 ≤ 0 by decide), .bool_eq rfl, trivial, rfl, rfl⟩
      · replace h := F_bne hb17 h
        obtain ⟨o18, ho19, hk20⟩ := bind_some h
        replace h := ho19
        refine .cut (fun σ η => .inl () = o18 ∧ σ = [(3, .optr 0 0 0 0), (4, .optr 1 0 0 0), (5, .optr 2 0 0 0)] ∧ η = [.row 0 5 1 26 (fun _ => [.int .i64 v2.fKind, .int .i64 v2.fNum, .str v2.fStr, .int .i64 v2.fNext, sl 8 TEntry.cells v2.fItems]), .row 0 5 1 26 (fun _ => [.int .i64 v3.fKind, .int .i64 v3.fNum, .str v3.fStr, .int .i64 v3.fNext, sl 8 TEntry.cells v3.fItems]), .row 0 5 1 26 (fun _ => [.int .i64 y5, .int .i64 y6, .str s7, .int .i64 y8, sl 8 TEntry.cells l9])]) ?_ ?_
        · refine .direct ?_
          refine LoopAt.enter [(3, .optr 0 0 0 0), (4, .optr 1 0 0 0), (5, .optr 2 0 0 0), (7, .int .i64 0)] [.row 0 5 1 26 (fun _ => [.int .i64 v2.fKind, .int .i64 v2.fNum, .str v2.fStr, .int .i64 v2.fNext, sl 8 TEntry.cells v2.fItems]), .row 0 5 1 26 (fun _ => [.int .i64 v3.fKind, .int .i64 v3.fNum, .str v3.fStr, .int .i64 v3.fNext, sl 8 TEntry.cells v3.fItems]), .row 0 5 1 26 (fun _ => [.int .i64 y5, .int .i64 y6, .str s7, .int .i64 y8, sl 8 TEntry.cells l9])] ⟨[0, 1, 2], by decide, (show 0 ≤ 3 by decide), ⟨.optr_eq rfl ⟨_, _, _, _, rfl⟩ ⟨_, _, _, _, rfl⟩ rfl rfl, .optr_eq rfl ⟨_, _, _, _, rfl⟩ ⟨_, _, _, _, rfl⟩ rfl rfl, .optr_eq rfl ⟨_, _, _, _, rfl⟩ ⟨_, _, _, _, rfl⟩ rfl rfl, .int_eq rfl, trivial⟩, ⟨⟨fun h0 => absurd (show 0 < 0 from h0) (by decide), rfl, rfl, rfl, fun _ _ => ⟨.int_eq rfl, .int_eq rfl, .str_eq rfl, .int_eq rfl, .slc_eq rfl (fun _ _ => rfl), trivial⟩⟩, ⟨fun h0 => absurd (show 1 < 0 from h0) (by decide), rfl, rfl, rfl, fun _ _ => ⟨.int_eq rfl, .int_eq rfl, .str_eq rfl, .int_eq rfl, .slc_eq rfl (fun _ _ => rfl), trivial⟩⟩, ⟨fun h0 => absurd (show 2 < 0 from h0) (by decide), rfl, rfl, rfl, fun _ _ => ⟨.int_eq rfl, .int_eq rfl, .str_eq rfl, .int_eq rfl, .slc_eq rfl (fun _ _ => rfl), trivial⟩⟩, trivial⟩⟩ ?_
          refine m_l_FnUnion_L2.partial_correctness l9 v2 (motive := fun y21 o40 => o18 = o40 → LoopAt _ _ [(3, .optr 0 0 0 0), (4, .optr 1 0 0 0), (5, .optr 2 0 0 0), (7, .int .i64 y21)] [.row 0 5 1 26 (fun _ => [.int .i64 v2.fKind, .int .i64 v2.fNum, .str v2.fStr, .int .i64 v2.fNext, sl 8 TEntry.cells v2.fItems]), .row 0 5 1 26 (fun _ => [.int .i64 v3.fKind, .int .i64 v3.fNum, .str v3.fStr, .int .i64 v3.fNext, sl 8 TEntry.cells v3.fItems]), .row 0 5 1 26 (fun _ => [.int .i64 y5, .int .i64 y6, .str s7, .int .i64 y8, sl 8 TEntry.cells l9])]) ?_ 0 o18 h rfl
          intro F23 ih22 y21 o40 h hr41
          subst hr41
          refine LoopAt.round ?_
          refine .direct ?_
          refine .direct ?_
          refine ⟨rfl, ?_⟩
          refine ⟨rfl, _, rfl, ?_⟩
          refine splitB.mk (fun hb24 => ?_) (fun hb24 => ?_)
          · replace h := T_dec hb24 h
            refine .direct ?_
            refine .direct ?_
            refine .float [(0, true), (1, true), (2, true), (3, true), (4, true), (5, true), (6, true), (7, true), (8, true), (9, true), (10, true), (11, true), (12, true), (13, true), (14, true), (15, true), (16, true), (17, true), (18, true), (19, true), (20, true), (21, true), (22, true), (23, true), (24, true), (25, true), (26, true), (27, true), (28, true), (29, true), (30, true), (31, true), (32, true), (33, false), (34, true), (35, true)] (by kernel_rfl) ?_
            refine ⟨rfl, ?_⟩
            refine ⟨rfl, _, rfl, ?_⟩
            refine splitB.mk (fun hb25 => ?_) (fun hb25 => ?_)
            · replace h := T_dec hb25 h
              refine splitB_t ?_
              refine splitB_t ?_
              refine splitB_t ?_
              refine splitB_t ?_
              refine splitB_t ?_
              refine splitB_t ?_
              refine splitB_t ?_
              refine splitB_t ?_
              refine splitB_t ?_
              refine splitB_t ?_
              refine splitB_t ?_
              refine splitB_t ?_
              refine splitB_t ?_
              refine splitB_t ?_
              refine splitB_t ?_
              refine splitB_t ?_
              refine splitB_t ?_
              refine splitB_t ?_
              refine splitB_t ?_
              refine splitB_t ?_
              refine splitB_t ?_
              refine splitB_t ?_
              refine splitB_t ?_
              refine splitB_t ?_
              refine splitB_t ?_
              refine splitB_t ?_
              refine splitB_t ?_
              refine splitB_t ?_
              refine splitB_t ?_
              refine .direct ?_
              obtain rfl := Option.some.inj h
              replace h := hk20
              obtain rfl := Option.some.inj h
              exact ⟨[], .bool false, [], by decide, (show 0 ≤ 0 by decide), .bool_eq rfl, trivial, rfl, rfl⟩
            · replace h := F_dec hb25 h
              refine ⟨rfl, ?_⟩
              refine splitB_f ?_
              refine ⟨rfl, _, rfl, ?_⟩
              refine splitB_f ?_
              refine splitB_f ?_
              obtain ⟨x26, hx27, h⟩ := bind_some h
              refine ⟨idx_bd hx27, _, (idx_row hx27).trans (TEntry.cells_eq x26), ?_⟩
              refine splitB_f ?_
              refine splitB_f ?_
              refine splitB_f ?_
              refine ⟨rfl, ?_⟩
              refine splitB_f ?_
              refine ⟨rfl, _, rfl, ?_⟩
              refine splitB_f ?_
              refine splitB_f ?_
              obtain ⟨x28, hx29, h⟩ := bind_some h
              refine ⟨idx_bd hx29, _, (idx_row hx29).trans (TEntry.cells_eq x28), ?_⟩
              refine splitB_f ?_
              refine splitB_f ?_
              refine splitB_f ?_
              refine ⟨_, TKey.eq_cells x26.fKey x28.fKey, ?_⟩
              refine splitB_f ?_
              refine splitB.mk (fun hb30 => ?_) (fun hb30 => ?_)
              · have hb39 := not_F hb30
                replace h := F_dec hb39 h
                refine splitB_t ?_
                refine splitB_t ?_
                refine splitB_t ?_
                refine splitB_t ?_
                refine splitB_t ?_
                refine splitB_t ?_
                refine splitB_t ?_
                refine splitB_t ?_
                refine splitB_t ?_
                refine splitB_t ?_
                refine splitB_t ?_
                refine splitB_t ?_
                refine splitB_t ?_
                refine splitB_t ?_
                refine splitB_t ?_
                refine .direct ?_
                obtain rfl := Option.some.inj h
                replace h := hk20
                obtain rfl := Option.some.inj h
                exact ⟨[], .bool false, [], by decide, (show 0 ≤ 0 by decide), .bool_eq rfl, trivial, rfl, rfl⟩
              · have hb39 := not_T hb30
                replace h := T_dec hb39 h
                refine ⟨rfl, ?_⟩
                refine splitB_f ?_
                refine ⟨rfl, _, rfl, ?_⟩
                refine splitB_f ?_
                refine splitB_f ?_
                obtain ⟨x31, hx32, h⟩ := bind_some h
                refine ⟨idx_bd hx32, _, (idx_row hx32).trans (TEntry.cells_eq x31), ?_⟩
                refine splitB_f ?_
                refine splitB_f ?_
                refine splitB_f ?_
                refine ⟨rfl, ?_⟩
                refine splitB_f ?_
                refine ⟨rfl, _, rfl, ?_⟩
                refine splitB_f ?_
                refine splitB_f ?_
                obtain ⟨x33, hx34, h⟩ := bind_some h
                refine ⟨idx_bd hx34, _, (idx_row hx34).trans (TEntry.cells_eq x33), ?_⟩
                refine splitB_f ?_
                refine splitB_f ?_
                refine splitB_f ?_
                obtain ⟨v35, hv36, h⟩ := bind_some h
                refine ⟨_, ACall.pure0 (ok19 hv36) _ rfl (fun _ => rfl), ?_⟩
                rintro _ _ ⟨rfl, rfl⟩
                refine splitB_f ?_
                refine splitB_f ?_
                refine splitB.mk (fun hb37 => ?_) (fun hb37 => ?_)
                · have hb38 := not_F hb37
                  replace h := F_var hb38 h
                  refine .direct ?_
                  obtain rfl := Option.some.inj h
                  replace h := hk20
                  obtain rfl := Option.some.inj h
                  exact ⟨[], .bool false, [], by decide, (show 0 ≤ 0 by decide), .bool_eq rfl, trivial, rfl, rfl⟩
                · have hb38 := not_T hb37
                  replace h := T_var hb38 h
                  exact ⟨[(3, .optr 0 0 0 0), (4, .optr 1 0 0 0), (5, .optr 2 0 0 0), (7, .int .i64 (W64 (y21 + 1)))], [.row 0 5 1 26 (fun _ => [.int .i64 v2.fKind, .int .i64 v2.fNum, .str v2.fStr, .int .i64 v2.fNext, sl 8 TEntry.cells v2.fItems]), .row 0 5 1 26 (fun _ => [.int .i64 v3.fKind, .int .i64 v3.fNum, .str v3.fStr, .int .i64 v3.fNext, sl 8 TEntry.cells v3.fItems]), .row 0 5 1 26 (fun _ => [.int .i64 y5, .int .i64 y6, .str s7, .int .i64 y8, sl 8 TEntry.cells l9])], ⟨[0, 1, 2], by decide, (show 0 ≤ 3 by decide), ⟨.optr_eq rfl ⟨_, _, _, _, rfl⟩ ⟨_, _, _, _, rfl⟩ rfl rfl, .optr_eq rfl ⟨_, _, _, _, rfl⟩ ⟨_, _, _, _, rfl⟩ rfl rfl, .optr_eq rfl ⟨_, _, _, _, rfl⟩ ⟨_, _, _, _, rfl⟩ rfl rfl, .int_eq rfl, trivial⟩, ⟨⟨fun h0 => absurd (show 0 < 0 from h0) (by decide), rfl, rfl, rfl, fun _ _ => ⟨.int_eq rfl, .int_eq rfl, .str_eq rfl, .int_eq rfl, .slc_eq rfl (fun _ _ => rfl), trivial⟩⟩, ⟨fun h0 => absurd (show 1 < 0 from h0) (by decide), rfl, rfl, rfl, fun _ _ => ⟨.int_eq rfl, .int_eq rfl, .str_eq rfl, .int_eq rfl, .slc_eq rfl (fun _ _ => rfl), trivial⟩⟩, ⟨fun h0 => absurd (show 2 < 0 from h0) (by decide), rfl, rfl, rfl, fun _ _ => ⟨.int_eq rfl, .int_eq rfl, .str_eq rfl, .int_eq rfl, .slc_eq rfl (fun _ _ => rfl), trivial⟩⟩, trivial⟩⟩, ih22 _ _ h rfl⟩
          · replace h := F_dec hb24 h
            exact ⟨[(3, .optr 0 0 0 0), (4, .optr 1 0 0 0), (5, .optr 2 0 0 0)], [.row 0 5 1 26 (fun _ => [.int .i64 v2.fKind, .int .i64 v2.fNum, .str v2.fStr, .int .i64 v2.fNext, sl 8 TEntry.cells v2.fItems]), .row 0 5 1 26 (fun _ => [.int .i64 v3.fKind, .int .i64 v3.fNum, .str v3.fStr, .int .i64 v3.fNext, sl 8 TEntry.cells v3.fItems]), .row 0 5 1 26 (fun _ => [.int .i64 y5, .int .i64 y6, .str s7, .int .i64 y8, sl 8 TEntry.cells l9])], ⟨[0, 1, 2], by decide, (show 0 ≤ 3 by decide), ⟨.optr_eq rfl ⟨_, _, _, _, rfl⟩ ⟨_, _, _, _, rfl⟩ rfl rfl, .optr_eq rfl ⟨_, _, _, _, rfl⟩ ⟨_, _, _, _, rfl⟩ rfl rfl, .optr_eq rfl ⟨_, _, _, _, rfl⟩ ⟨_, _, _, _, rfl⟩ rfl rfl, trivial⟩, ⟨⟨fun h0 => absurd (show 0 < 0 from h0) (by decide), rfl, rfl, rfl, fun _ _ => ⟨.int_eq rfl, .int_eq rfl, .str_eq rfl, .int_eq rfl, .slc_eq rfl (fun _ _ => rfl), trivial⟩⟩, ⟨fun h0 => absurd (show 1 < 0 from h0) (by decide), rfl, rfl, rfl, fun _ _ => ⟨.int_eq rfl, .int_eq rfl, .str_eq rfl, .int_eq rfl, .slc_eq rfl (fun _ _ => rfl), trivial⟩⟩, ⟨fun h0 => absurd (show 2 < 0 from h0) (by decide), rfl, rfl, rfl, fun _ _ => ⟨.int_eq rfl, .int_eq rfl, .str_eq rfl, .int_eq rfl, .slc_eq rfl (fun _ _ => rfl), trivial⟩⟩, trivial⟩⟩, Option.some.inj h, rfl, rfl⟩
        · rintro _ _ ⟨rfl, rfl, rfl⟩
          replace h := hk20
          obtain ⟨o42, ho43, hk44⟩ := bind_some h
          replace h := ho43
          refine .cut (fun σ η => .inl () = o42 ∧ σ = [(5, .optr 0 0 0 0)] ∧ η = [.row 0 5 1 26 (fun _ => [.int .i64 y5, .int .i64 y6, .str s7, .int .i64 y8, sl 8 TEntry.cells l9])]) ?_ ?_
          · refine .direct ?_
            refine LoopAt.enter [(3, .optr 0 0 0 0), (4, .optr 1 0 0 0), (5, .optr 2 0 0 0), (8, .int .i64 0)] [.row 0 5 1 26 (fun _ => [.int .i64 v2.fKind, .int .i64 v2.fNum, .str v2.fStr, .int .i64 v2.fNext, sl 8 TEntry.cells v2.fItems]), .row 0 5 1 26 (fun _ => [.int .i64 v3.fKind, .int .i64 v3.fNum, .str v3.fStr, .int .i64 v3.fNext, sl 8 TEntry.cells v3.fItems]), .row 0 5 1 26 (fun _ => [.int .i64 y5, .int .i64 y6, .str s7, .int .i64 y8, sl 8 TEntry.cells l9])] ⟨[0, 1, 2], by decide, (show 0 ≤ 3 by decide), ⟨.optr_eq rfl ⟨_, _, _, _, rfl⟩ ⟨_, _, _, _, rfl⟩ rfl rfl, .optr_eq rfl ⟨_, _, _, _, rfl⟩ ⟨_, _, _, _, rfl⟩ rfl rfl, .optr_eq rfl ⟨_, _, _, _, rfl⟩ ⟨_, _, _, _, rfl⟩ rfl rfl, .int_eq rfl, trivial⟩, ⟨⟨fun h0 => absurd (show 0 < 0 from h0) (by decide), rfl, rfl, rfl, fun _ _ => ⟨.int_eq rfl, .int_eq rfl, .str_eq rfl, .int_eq rfl, .slc_eq rfl (fun _ _ => rfl), trivial⟩⟩, ⟨fun h0 => absurd (show 1 < 0 from h0) (by decide), rfl, rfl, rfl, fun _ _ => ⟨.int_eq rfl, .int_eq rfl, .str_eq rfl, .int_eq rfl, .slc_eq rfl (fun _ _ => rfl), trivial⟩⟩, ⟨fun h0 => absurd (show 2 < 0 from h0) (by decide), rfl, rfl, rfl, fun _ _ => ⟨.int_eq rfl, .int_eq rfl, .str_eq rfl, .int_eq rfl, .slc_eq rfl (fun _ _ => rfl), trivial⟩⟩, trivial⟩⟩ ?_
            refine m_l_FnUnion_L4.partial_correctness l9 s7 v2 v3 y5 y6 y8 (motive := fun y45 o82 => o42 = o82 → LoopAt _ _ [(3, .optr 0 0 0 0), (4, .optr 1 0 0 0), (5, .optr 2 0 0 0), (8, .int .i64 y45)] [.row 0 5 1 26 (fun _ => [.int .i64 v2.fKind, .int .i64 v2.fNum, .str v2.fStr, .int .i64 v2.fNext, sl 8 TEntry.cells v2.fItems]), .row 0 5 1 26 (fun _ => [.int .i64 v3.fKind, .int .i64 v3.fNum, .str v3.fStr, .int .i64 v3.fNext, sl 8 TEntry.cells v3.fItems]), .row 0 5 1 26 (fun _ => [.int .i64 y5, .int .i64 y6, .str s7, .int .i64 y8, sl 8 TEntry.cells l9])]) ?_ 0 o42 h rfl
            intro F47 ih46 y45 o82 h hr83
            subst hr83
            refine LoopAt.round ?_
            refine .direct ?_
            refine .direct ?_
            refine ⟨rfl, ?_⟩
            refine ⟨rfl, _, rfl, ?_⟩
            refine splitB.mk (fun hb48 => ?_) (fun hb48 => ?_)
            · replace h := T_dec hb48 h
              refine .direct ?_
              obtain ⟨o55, ho56, hk57⟩ := bind_some h
              replace h := ho56
              refine .cut (fun σ η => ∃ y49, ∃ y50, ∃ s51, ∃ y52, ∃ l53, ∃ b54, (y49, y50, s51, y52, l53, b54) = o55 ∧ σ = [(3, .optr 0 0 0 0), (4, .optr 1 0 0 0), (5, .optr 2 0 0 0), (8, .int .i64 y45), (9, .optr 3 0 0 0), (10, .bool b54)] ∧ η = [.row 0 5 1 26 (fun _ => [.int .i64 v2.fKind, .int .i64 v2.fNum, .str v2.fStr, .int .i64 v2.fNext, sl 8 TEntry.cells v2.fItems]), .row 0 5 1 26 (fun _ => [.int .i64 v3.fKind, .int .i64 v3.fNum, .str v3.fStr, .int .i64 v3.fNext, sl 8 TEntry.cells v3.fItems]), .row 0 5 1 26 (fun _ => [.int .i64 y5, .int .i64 y6, .str s7, .int .i64 y8, sl 8 TEntry.cells l9]), .row 0 5 1 26 (fun _ => [.int .i64 y49, .int .i64 y50, .str s51, .int .i64 y52, sl 8 TEntry.cells l53])]) ?_ ?_
              · refine .float2 [(0, true), (1, true), (2, true), (3, true), (4, true), (5, true), (6, true)] 7 [(8, true), (9, true), (10, true), (11, false), (12, false), (13, true)] 11 [(7, false), (8, true), (9, true), (10, true), (12, false), (13, true)] (by kernel_rfl) ?_
                refine ⟨rfl, _, rfl, ?_⟩
                refine ⟨rfl, ?_⟩
                refine ⟨rfl, _, rfl, ?_⟩
                obtain ⟨x58, hx59, h⟩ := bind_some h
                refine ⟨idx_bd hx59, _, (idx_row hx59).trans (TEntry.cells_eq x58), ?_⟩
                refine ⟨?_, ?_⟩
                · obtain ⟨⟨v60, v61⟩, hv62, h⟩ := bind_some h
                  refine ⟨_, ACall.pure0 (ok25 hv62) _ rfl (fun _ => rfl), ?_⟩
                  rintro _ _ ⟨rfl, rfl⟩
                  refine ⟨rfl, ?_⟩
                  refine ⟨rfl, ?_⟩
                  refine ⟨rfl, ?_⟩
                  refine ⟨rfl, _, fun _ => [.int .i64 v60.fKind, .int .i64 v60.fNum, .str v60.fStr, .int .i64 v60.fNext, sl 8 TEntry.cells v60.fItems], rfl, one_set rfl, ?_⟩
                  exact ⟨[(3, .optr 0 0 0 0), (4, .optr 1 0 0 0), (5, .optr 2 0 0 0), (8, .int .i64 y45), (9, .optr 3 0 0 0), (10, .bool v61)], [.row 0 5 1 26 (fun _ => [.int .i64 v2.fKind, .int .i64 v2.fNum, .str v2.fStr, .int .i64 v2.fNext, sl 8 TEntry.cells v2.fItems]), .row 0 5 1 26 (fun _ => [.int .i64 v3.fKind, .int .i64 v3.fNum, .str v3.fStr, .int .i64 v3.fNext, sl 8 TEntry.cells v3.fItems]), .row 0 5 1 26 (fun _ => [.int .i64 y5, .int .i64 y6, .str s7, .int .i64 y8, sl 8 TEntry.cells l9]), .row 0 5 1 26 (fun _ => [.int .i64 v60.fKind, .int .i64 v60.fNum, .str v60.fStr, .int .i64 v60.fNext, sl 8 TEntry.cells v60.fItems])], ⟨[0, 1, 2, 3], by decide, (show 0 ≤ 4 by decide), ⟨.optr_eq rfl ⟨_, _, _, _, rfl⟩ ⟨_, _, _, _, rfl⟩ rfl rfl, .optr_eq rfl ⟨_, _, _, _, rfl⟩ ⟨_, _, _, _, rfl⟩ rfl rfl, .optr_eq rfl ⟨_, _, _, _, rfl⟩ ⟨_, _, _, _, rfl⟩ rfl rfl, .int_eq rfl, .optr_eq rfl ⟨_, _, _, _, rfl⟩ ⟨_, _, _, _, rfl⟩ rfl rfl, .bool_eq rfl, trivial⟩, ⟨⟨fun h0 => absurd (show 0 < 0 from h0) (by decide), rfl, rfl, rfl, fun _ _ => ⟨.int_eq rfl, .int_eq rfl, .str_eq rfl, .int_eq rfl, .slc_eq rfl (fun _ _ => rfl), trivial⟩⟩, ⟨fun h0 => absurd (show 1 < 0 from h0) (by decide), rfl, rfl, rfl, fun _ _ => ⟨.int_eq rfl, .int_eq rfl, .str_eq rfl, .int_eq rfl, .slc_eq rfl (fun _ _ => rfl), trivial⟩⟩, ⟨fun h0 => absurd (show 2 < 0 from h0) (by decide), rfl, rfl, rfl, fun _ _ => ⟨.int_eq rfl, .int_eq rfl, .str_eq rfl, .int_eq rfl, .slc_eq rfl (fun _ _ => rfl), trivial⟩⟩, ⟨fun h0 => absurd (show 3 < 0 from h0) (by decide), rfl, rfl, rfl, fun _ _ => ⟨.int_eq rfl, .int_eq rfl, .str_eq rfl, .int_eq rfl, .slc_eq rfl (fun _ _ => rfl), trivial⟩⟩, trivial⟩⟩, v60.fKind, v60.fNum, v60.fStr, v60.fNext, v60.fItems, v61, Option.some.inj h, rfl, rfl⟩
                · refine ⟨rfl, ?_⟩
                  refine ⟨rfl, ?_⟩
                  refine ⟨rfl, ?_⟩
                  obtain ⟨⟨v60, v61⟩, hv62, h⟩ := bind_some h
                  refine ⟨_, ACall.pure0 (ok25 hv62) _ rfl (fun _ => rfl), ?_⟩
                  rintro _ _ ⟨rfl, rfl⟩
                  refine ⟨rfl, _, fun _ => [.int .i64 v60.fKind, .int .i64 v60.fNum, .str v60.fStr, .int .i64 v60.fNext, sl 8 TEntry.cells v60.fItems], rfl, one_set rfl, ?_⟩
                  exact ⟨[(3, .optr 0 0 0 0), (4, .optr 1 0 0 0), (5, .optr 2 0 0 0), (8, .int .i64 y45), (9, .optr 3 0 0 0), (10, .bool v61)], [.row 0 5 1 26 (fun _ => [.int .i64 v2.fKind, .int .i64 v2.fNum, .str v2.fStr, .int .i64 v2.fNext, sl 8 TEntry.cells v2.fItems]), .row 0 5 1 26 (fun _ => [.int .i64 v3.fKind, .int .i64 v3.fNum, .str v3.fStr, .int .i64 v3.fNext, sl 8 TEntry.cells v3.fItems]), .row 0 5 1 26 (fun _ => [.int .i64 y5, .int .i64 y6, .str s7, .int .i64 y8, sl 8 TEntry.cells l9]), .row 0 5 1 26 (fun _ => [.int .i64 v60.fKind, .int .i64 v60.fNum, .str v60.fStr, .int .i64 v60.fNext, sl 8 TEntry.cells v60.fItems])], ⟨[0, 1, 2, 3], by decide, (show 0 ≤ 4 by decide), ⟨.optr_eq rfl ⟨_, _, _, _, rfl⟩ ⟨_, _, _, _, rfl⟩ rfl rfl, .optr_eq rfl ⟨_, _, _, _, rfl⟩ ⟨_, _, _, _, rfl⟩ rfl rfl, .optr_eq rfl ⟨_, _, _, _, rfl⟩ ⟨_, _, _, _, rfl⟩ rfl rfl, .int_eq rfl, .optr_eq rfl ⟨_, _, _, _, rfl⟩ ⟨_, _, _, _, rfl⟩ rfl rfl, .bool_eq rfl, trivial⟩, ⟨⟨fun h0 => absurd (show 0 < 0 from h0) (by decide), rfl, rfl, rfl, fun _ _ => ⟨.int_eq rfl, .int_eq rfl, .str_eq rfl, .int_eq rfl, .slc_eq rfl (fun _ _ => rfl), trivial⟩⟩, ⟨fun h0 => absurd (show 1 < 0 from h0) (by decide), rfl, rfl, rfl, fun _ _ => ⟨.int_eq rfl, .int_eq rfl, .str_eq rfl, .int_eq rfl, .slc_eq rfl (fun _ _ => rfl), trivial⟩⟩, ⟨fun h0 => absurd (show 2 < 0 from h0) (by decide), rfl, rfl, rfl, fun _ _ => ⟨.int_eq rfl, .int_eq rfl, .str_eq rfl, .int_eq rfl, .slc_eq rfl (fun _ _ => rfl), trivial⟩⟩, ⟨fun h0 => absurd (show 3 < 0 from h0) (by decide), rfl, rfl, rfl, fun _ _ => ⟨.int_eq rfl, .int_eq rfl, .str_eq rfl, .int_eq rfl, .slc_eq rfl (fun _ _ => rfl), trivial⟩⟩, trivial⟩⟩, v60.fKind, v60.fNum, v60.fStr, v60.fNext, v60.fItems, v61, Option.some.inj h, rfl, rfl⟩
              · rintro _ _ ⟨y49, y50, s51, y52, l53, b54, rfl, rfl, rfl⟩
                replace h := hk57
                obtain ⟨o64, ho65, hk66⟩ := bind_some h
                replace h := ho65
                refine .cut (fun σ η => ∃ b63, b63 = o64 ∧ σ = [(3, .optr 0 0 0 0), (4, .optr 1 0 0 0), (5, .optr 2 0 0 0), (8, .int .i64 y45), (9, .optr 3 0 0 0), (10, .bool b54), (12, .bool b63)] ∧ η = [.row 0 5 1 26 (fun _ => [.int .i64 v2.fKind, .int .i64 v2.fNum, .str v2.fStr, .int .i64 v2.fNext, sl 8 TEntry.cells v2.fItems]), .row 0 5 1 26 (fun _ => [.int .i64 v3.fKind, .int .i64 v3.fNum, .str v3.fStr, .int .i64 v3.fNext, sl 8 TEntry.cells v3.fItems]), .row 0 5 1 26 (fun _ => [.int .i64 y5, .int .i64 y6, .str s7, .int .i64 y8, sl 8 TEntry.cells l9]), .row 0 5 1 26 (fun _ => [.int .i64 y49, .int .i64 y50, .str s51, .int .i64 y52, sl 8 TEntry.cells l53])]) ?_ ?_
                · refine .float2 [(0, true), (1, true), (2, true), (3, true), (4, true), (5, true), (6, true)] 7 [(8, true), (9, true), (10, true), (11, false), (12, false), (13, true)] 11 [(7, false), (8, true), (9, true), (10, true), (12, false), (13, true)] (by kernel_rfl) ?_
                  refine ⟨rfl, _, rfl, ?_⟩
                  refine ⟨rfl, ?_⟩
                  refine ⟨rfl, _, rfl, ?_⟩
                  obtain ⟨x67, hx68, h⟩ := bind_some h
                  refine ⟨idx_bd hx68, _, (idx_row hx68).trans (TEntry.cells_eq x67), ?_⟩
                  refine ⟨?_, ?_⟩
                  · obtain ⟨⟨v69, v70⟩, hv71, h⟩ := bind_some h
                    refine ⟨_, ACall.pure0 (ok_s_GetKey hv71) _ rfl (fun _ => rfl), ?_⟩
                    rintro _ _ ⟨rfl, rfl⟩
                    refine ⟨rfl, ?_⟩
                    refine ⟨rfl, ?_⟩
                    refine ⟨rfl, ?_⟩
                    refine ⟨rfl, _, fun _ => [.int .i64 v69.fKind, .int .i64 v69.fNum, .str v69.fStr, .int .i64 v69.fNext, sl 8 TEntry.cells v69.fItems], rfl, one_set rfl, ?_⟩
                    exact ⟨[(3, .optr 0 0 0 0), (4, .optr 1 0 0 0), (5, .optr 2 0 0 0), (8, .int .i64 y45), (9, .optr 3 0 0 0), (10, .bool b54), (12, .bool v70)], [.row 0 5 1 26 (fun _ => [.int .i64 v2.fKind, .int .i64 v2.fNum, .str v2.fStr, .int .i64 v2.fNext, sl 8 TEntry.cells v2.fItems]), .row 0 5 1 26 (fun _ => [.int .i64 v3.fKind, .int .i64 v3.fNum, .str v3.fStr, .int .i64 v3.fNext, sl 8 TEntry.cells v3.fItems]), .row 0 5 1 26 (fun _ => [.int .i64 y5, .int .i64 y6, .str s7, .int .i64 y8, sl 8 TEntry.cells l9]), .row 0 5 1 26 (fun _ => [.int .i64 y49, .int .i64 y50, .str s51, .int .i64 y52, sl 8 TEntry.cells l53])], ⟨[0, 1, 2, 3], by decide, (show 0 ≤ 4 by decide), ⟨.optr_eq rfl ⟨_, _, _, _, rfl⟩ ⟨_, _, _, _, rfl⟩ rfl rfl, .optr_eq rfl ⟨_, _, _, _, rfl⟩ ⟨_, _, _, _, rfl⟩ rfl rfl, .optr_eq rfl ⟨_, _, _, _, rfl⟩ ⟨_, _, _, _, rfl⟩ rfl rfl, .int_eq rfl, .optr_eq rfl ⟨_, _, _, _, rfl⟩ ⟨_, _, _, _, rfl⟩ rfl rfl, .bool_eq rfl, .bool_eq rfl, trivial⟩, ⟨⟨fun h0 => absurd (show 0 < 0 from h0) (by decide), rfl, rfl, rfl, fun _ _ => ⟨.int_eq rfl, .int_eq rfl, .str_eq rfl, .int_eq rfl, .slc_eq rfl (fun _ _ => rfl), trivial⟩⟩, ⟨fun h0 => absurd (show 1 < 0 from h0) (by decide), rfl, rfl, rfl, fun _ _ => ⟨.int_eq rfl, .int_eq rfl, .str_eq rfl, .int_eq rfl, .slc_eq rfl (fun _ _ => rfl), trivial⟩⟩, ⟨fun h0 => absurd (show 2 < 0 from h0) (by decide), rfl, rfl, rfl, fun _ _ => ⟨.int_eq rfl, .int_eq rfl, .str_eq rfl, .int_eq rfl, .slc_eq rfl (fun _ _ => rfl), trivial⟩⟩, ⟨fun h0 => absurd (show 3 < 0 from h0) (by decide), rfl, rfl, rfl, fun _ _ => ⟨.int_eq rfl, .int_eq rfl, .str_eq rfl, .int_eq rfl, .slc_eq rfl (fun _ _ => rfl), trivial⟩⟩, trivial⟩⟩, v70, Option.some.inj h, rfl, rfl⟩
                  · refine ⟨rfl, ?_⟩
                    refine ⟨rfl, ?_⟩
                    refine ⟨rfl, ?_⟩
                    obtain ⟨⟨v69, v70⟩, hv71, h⟩ := bind_some h
                    refine ⟨_, ACall.pure0 (ok_s_GetKey hv71) _ rfl (fun _ => rfl), ?_⟩
                    rintro _ _ ⟨rfl, rfl⟩
                    refine ⟨rfl, _, fun _ => [.int .i64 v69.fKind, .int .i64 v69.fNum, .str v69.fStr, .int .i64 v69.fNext, sl 8 TEntry.cells v69.fItems], rfl, one_set rfl, ?_⟩
                    exact ⟨[(3, .optr 0 0 0 0), (4, .optr 1 0 0 0), (5, .optr 2 0 0 0), (8, .int .i64 y45), (9, .optr 3 0 0 0), (10, .bool b54), (12, .bool v70)], [.row 0 5 1 26 (fun _ => [.int .i64 v2.fKind, .int .i64 v2.fNum, .str v2.fStr, .int .i64 v2.fNext, sl 8 TEntry.cells v2.fItems]), .row 0 5 1 26 (fun _ => [.int .i64 v3.fKind, .int .i64 v3.fNum, .str v3.fStr, .int .i64 v3.fNext, sl 8 TEntry.cells v3.fItems]), .row 0 5 1 26 (fun _ => [.int .i64 y5, .int .i64 y6, .str s7, .int .i64 y8, sl 8 TEntry.cells l9]), .row 0 5 1 26 (fun _ => [.int .i64 y49, .int .i64 y50, .str s51, .int .i64 y52, sl 8 TEntry.cells l53])], ⟨[0, 1, 2, 3], by decide, (show 0 ≤ 4 by decide), ⟨.optr_eq rfl ⟨_, _, _, _, rfl⟩ ⟨_, _, _, _, rfl⟩ rfl rfl, .optr_eq rfl ⟨_, _, _, _, rfl⟩ ⟨_, _, _, _, rfl⟩ rfl rfl, .optr_eq rfl ⟨_, _, _, _, rfl⟩ ⟨_, _, _, _, rfl⟩ rfl rfl, .int_eq rfl, .optr_eq rfl ⟨_, _, _, _, rfl⟩ ⟨_, _, _, _, rfl⟩ rfl rfl, .bool_eq rfl, .bool_eq rfl, trivial⟩, ⟨⟨fun h0 => absurd (show 0 < 0 from h0) (by decide), rfl, rfl, rfl, fun _ _ => ⟨.int_eq rfl, .int_eq rfl, .str_eq rfl, .int_eq rfl, .slc_eq rfl (fun _ _ => rfl), trivial⟩⟩, ⟨fun h0 => absurd (show 1 < 0 from h0) (by decide), rfl, rfl, rfl, fun _ _ => ⟨.int_eq rfl, .int_eq rfl, .str_eq rfl, .int_eq rfl, .slc_eq rfl (fun _ _ => rfl), trivial⟩⟩, ⟨fun h0 => absurd (show 2 < 0 from h0) (by decide), rfl, rfl, rfl, fun _ _ => ⟨.int_eq rfl, .int_eq rfl, .str_eq rfl, .int_eq rfl, .slc_eq rfl (fun _ _ => rfl), trivial⟩⟩, ⟨fun h0 => absurd (show 3 < 0 from h0) (by decide), rfl, rfl, rfl, fun _ _ => ⟨.int_eq rfl, .int_eq rfl, .str_eq rfl, .int_eq rfl, .slc_eq rfl (fun _ _ => rfl), trivial⟩⟩, trivial⟩⟩, v70, Option.some.inj h, rfl, rfl⟩
                · rintro _ _ ⟨b63, rfl, rfl, rfl⟩
                  replace h := hk66
                  refine .direct ?_
                  refine .float [(0, true), (1, true), (2, true), (3, true), (4, true), (5, true), (6, true), (7, true), (8, true), (9, true), (10, true), (11, true), (12, true), (13, false), (14, true), (15, true), (16, true)] (by kernel_rfl) ?_
                  refine splitB.mk (fun hb72 => ?_) (fun hb72 => ?_)
                  · have hb81 := not_F hb72
                    replace h := F_var hb81 h
                    refine splitB_t ?_
                    refine splitB_t ?_
                    refine splitB_t ?_
                    refine splitB_t ?_
                    refine splitB_t ?_
                    refine .direct ?_
                    obtain rfl := Option.some.inj h
                    replace h := hk44
                    obtain rfl := Option.some.inj h
                    exact ⟨[], .bool false, [], by decide, (show 0 ≤ 0 by decide), .bool_eq rfl, trivial, rfl, rfl⟩
                  · have hb81 := not_T hb72
                    replace h := T_var hb81 h
                    refine splitB_f ?_
                    refine splitB_f ?_
                    refine splitB.mk (fun hb73 => ?_) (fun hb73 => ?_)
                    · have hb80 := not_F hb73
                      replace h := F_var hb80 h
                      refine ⟨rfl, _, rfl, ?_⟩
                      refine splitB_t ?_
                      refine ⟨rfl, ?_⟩
                      refine splitB_t ?_
                      refine ⟨rfl, _, rfl, ?_⟩
                      refine splitB_t ?_
                      refine splitB_t ?_
                      obtain ⟨x74, hx75, h⟩ := bind_some h
                      refine ⟨idx_bd hx75, _, (idx_row hx75).trans (TEntry.cells_eq x74), ?_⟩
                      refine splitB_t ?_
                      refine splitB_t ?_
                      refine splitB_t ?_
                      obtain ⟨v76, hv77, h⟩ := bind_some h
                      refine ⟨_, ACall.pure0 (ok19 hv77) _ rfl (fun _ => rfl), ?_⟩
                      rintro _ _ ⟨rfl, rfl⟩
                      refine splitB_t ?_
                      refine splitB_f ?_
                      refine splitB_t ?_
                      refine splitB_f ?_
                      refine splitB.mk (fun hb78 => ?_) (fun hb78 => ?_)
                      · have hb79 := not_F hb78
                        replace h := F_var hb79 h
                        refine .direct ?_
                        obtain rfl := Option.some.inj h
                        replace h := hk44
                        obtain rfl := Option.some.inj h
                        exact ⟨[], .bool false, [], by decide, (show 0 ≤ 0 by decide), .bool_eq rfl, trivial, rfl, rfl⟩
                      · have hb79 := not_T hb78
                        replace h := T_var hb79 h
                        exact ⟨[(3, .optr 0 0 0 0), (4, .optr 1 0 0 0), (5, .optr 2 0 0 0), (8, .int .i64 (W64 (y45 + 1)))], [.row 0 5 1 26 (fun _ => [.int .i64 v2.fKind, .int .i64 v2.fNum, .str v2.fStr, .int .i64 v2.fNext, sl 8 TEntry.cells v2.fItems]), .row 0 5 1 26 (fun _ => [.int .i64 v3.fKind, .int .i64 v3.fNum, .str v3.fStr, .int .i64 v3.fNext, sl 8 TEntry.cells v3.fItems]), .row 0 5 1 26 (fun _ => [.int .i64 y5, .int .i64 y6, .str s7, .int .i64 y8, sl 8 TEntry.cells l9])], ⟨[0, 1, 2], by decide, (show 0 ≤ 3 by decide), ⟨.optr_eq rfl ⟨_, _, _, _, rfl⟩ ⟨_, _, _, _, rfl⟩ rfl rfl, .optr_eq rfl ⟨_, _, _, _, rfl⟩ ⟨_, _, _, _, rfl⟩ rfl rfl, .optr_eq rfl ⟨_, _, _, _, rfl⟩ ⟨_, _, _, _, rfl⟩ rfl rfl, .int_eq rfl, trivial⟩, ⟨⟨fun h0 => absurd (show 0 < 0 from h0) (by decide), rfl, rfl, rfl, fun _ _ => ⟨.int_eq rfl, .int_eq rfl, .str_eq rfl, .int_eq rfl, .slc_eq rfl (fun _ _ => rfl), trivial⟩⟩, ⟨fun h0 => absurd (show 1 < 0 from h0) (by decide), rfl, rfl, rfl, fun _ _ => ⟨.int_eq rfl, .int_eq rfl, .str_eq rfl, .int_eq rfl, .slc_eq rfl (fun _ _ => rfl), trivial⟩⟩, ⟨fun h0 => absurd (show 2 < 0 from h0) (by decide), rfl, rfl, rfl, fun _ _ => ⟨.int_eq rfl, .int_eq rfl, .str_eq rfl, .int_eq rfl, .slc_eq rfl (fun _ _ => rfl), trivial⟩⟩, trivial⟩⟩, ih46 _ _ h rfl⟩
                    · have hb80 := not_T hb73
                      replace h := T_var hb80 h
                      refine splitB_f ?_
                      refine splitB_f ?_
                      refine splitB_f ?_
                      refine splitB_f ?_
                      refine splitB_f ?_
                      refine splitB_f ?_
                      refine splitB_f ?_
                      refine splitB_f ?_
                      refine splitB_f ?_
                      refine splitB_f ?_
                      refine splitB_f ?_
                      refine splitB_f ?_
                      exact ⟨[(3, .optr 0 0 0 0), (4, .optr 1 0 0 0), (5, .optr 2 0 0 0), (8, .int .i64 (W64 (y45 + 1)))], [.row 0 5 1 26 (fun _ => [.int .i64 v2.fKind, .int .i64 v2.fNum, .str v2.fStr, .int .i64 v2.fNext, sl 8 TEntry.cells v2.fItems]), .row 0 5 1 26 (fun _ => [.int .i64 v3.fKind, .int .i64 v3.fNum, .str v3.fStr, .int .i64 v3.fNext, sl 8 TEntry.cells v3.fItems]), .row 0 5 1 26 (fun _ => [.int .i64 y5, .int .i64 y6, .str s7, .int .i64 y8, sl 8 TEntry.cells l9])], ⟨[0, 1, 2], by decide, (show 0 ≤ 3 by decide), ⟨.optr_eq rfl ⟨_, _, _, _, rfl⟩ ⟨_, _, _, _, rfl⟩ rfl rfl, .optr_eq rfl ⟨_, _, _, _, rfl⟩ ⟨_, _, _, _, rfl⟩ rfl rfl, .optr_eq rfl ⟨_, _, _, _, rfl⟩ ⟨_, _, _, _, rfl⟩ rfl rfl, .int_eq rfl, trivial⟩, ⟨⟨fun h0 => absurd (show 0 < 0 from h0) (by decide), rfl, rfl, rfl, fun _ _ => ⟨.int_eq rfl, .int_eq rfl, .str_eq rfl, .int_eq rfl, .slc_eq rfl (fun _ _ => rfl), trivial⟩⟩, ⟨fun h0 => absurd (show 1 < 0 from h0) (by decide), rfl, rfl, rfl, fun _ _ => ⟨.int_eq rfl, .int_eq rfl, .str_eq rfl, .int_eq rfl, .slc_eq rfl (fun _ _ => rfl), trivial⟩⟩, ⟨fun h0 => absurd (show 2 < 0 from h0) (by decide), rfl, rfl, rfl, fun _ _ => ⟨.int_eq rfl, .int_eq rfl, .str_eq rfl, .int_eq rfl, .slc_eq rfl (fun _ _ => rfl), trivial⟩⟩, trivial⟩⟩, ih46 _ _ h rfl⟩
            · replace h := F_dec hb48 h
              exact ⟨[(5, .optr 0 0 0 0)], [.row 0 5 1 26 (fun _ => [.int .i64 y5, .int .i64 y6, .str s7, .int .i64 y8, sl 8 TEntry.cells l9])], ⟨[2], by decide, (show 0 ≤ 1 by decide), ⟨.optr_eq rfl ⟨_, _, _, _, rfl⟩ ⟨_, _, _, _, rfl⟩ rfl rfl, trivial⟩, ⟨⟨fun h0 => absurd (show 0 < 0 from h0) (by decide), rfl, rfl, rfl, fun _ _ => ⟨.int_eq rfl, .int_eq rfl, .str_eq rfl, .int_eq rfl, .slc_eq rfl (fun _ _ => rfl), trivial⟩⟩, trivial⟩⟩, Option.some.inj h, rfl, rfl⟩
          · rintro _ _ ⟨rfl, rfl, rfl⟩
            replace h := hk44
            refine .direct ?_
            refine ⟨rfl, _, rfl, ?_⟩
            obtain ⟨v84, hv85, h⟩ := bind_some h
            refine ⟨_, ACall.pure0 (ok22 hv85) _ rfl (fun _ => rfl), ?_⟩
            rintro _ _ ⟨rfl, rfl⟩
            obtain rfl := Option.some.inj h
            exact ⟨[], .bool v84, [], by decide, (show 0 ≤ 0 by decide), .bool_eq rfl, trivial, rfl, rfl⟩
end Go.Am
