/- Models of Go functions, and their walks. (Printed by tools/mg.py.) -/
import Derived.Test.YtagfpmbccfghnaaDoorF4
set_option linter.unusedVariables false
set_option linter.unusedSimpArgs false
set_option maxRecDepth 100000
namespace Go.Am
open Go Go.RowKit Go.Proofs

def m12 (a0 : List UInt8) : Option (Bool) :=
  some (decide ((a0.length : Int) > 1048576))
theorem ok12 {a0 : List UInt8} {r : Bool} (h : m12 a0 = some r) : ACall Tryd.prog 12 [sl 1 cB a0] [] (fun res h => res = .bool r ∧ h = []) := by
  refine ACall.of_vc tabT_ok mixed Tryd.func12 rfl (by kernel_rfl) _ _ _ rfl (by kernel_rfl) ?_
  unfold m12 at h
  refine .direct ?_
  refine .direct ?_
  obtain rfl := Option.some.inj h
  exact ⟨[], .bool (decide ((a0.length : Int) > 1048576)), [], by decide, (show 0 ≤ 0 by decide), .bool_eq rfl, trivial, rfl, rfl⟩
theorem ok12x (a0 : List UInt8) : ACall Tryd.prog 12 [sl 1 cB a0] [] (fun res h => res = .bool (decide ((a0.length : Int) > 1048576)) ∧ h = []) := by
  refine ACall.of_vc tabT_ok mixed Tryd.func12 rfl (by kernel_rfl) _ _ _ rfl (by kernel_rfl) ?_
  refine .direct ?_
  refine .direct ?_
  exact ⟨[], .bool (decide ((a0.length : Int) > 1048576)), [], by decide, (show 0 ≤ 0 by decide), .bool_eq rfl, trivial, rfl, rfl⟩
def m6_L18 (b7 : Bool) (l6 : List TEntry) (s9 : Str) (y8 : Int) (y114 : Int) : Option (Int) :=
  (if y114 < (l6.length : Int) then
    idx l6 y114 >>= fun x118 =>
    (if x118.fKey = (TKey.mk b7 y8 s9) then
      m6_L18 b7 l6 s9 y8 (W64 (y114 + 1))
    else
      some y114)
  else
    some y114)
partial_fixpoint
def m6_L14 (b7 : Bool) (l6 : List TEntry) (s9 : Str) (v51 : TValue) (y8 : Int) (y95 : Int) (y96 : Int) : Option ((Unit) ⊕ Bool) :=
  (if y96 < (v51.fItems.length : Int) then
    ((
      ((
        idx v51.fItems y96 >>= fun x107 =>
        (if x107.fKey = (TKey.mk b7 y8 s9) then
          some (.inr (.inl y95))
        else
          some (.inl ()))
       : Option ((Unit) ⊕ ((Int) ⊕ ((Unit) ⊕ Bool)))) >>= fun o104 => match o104 with
        | .inr r => some r
        | .inl _ =>
          (
            m6_L18 b7 l6 s9 y8 y95
           : Option (Int)) >>= fun y110 =>
          (if y110 ≥ (l6.length : Int) then
            some (.inr (.inr false))
          else
            idx l6 y110 >>= fun x124 =>
            idx v51.fItems y96 >>= fun x126 =>
            (if x124.fKey = x126.fKey then
              idx l6 y110 >>= fun x129 =>
              idx v51.fItems y96 >>= fun x131 =>
              m19 x129.fVal x131.fVal >>= fun v133 =>
              (if v133 = true then
                some (.inl (W64 (y110 + 1)))
              else
                some (.inr (.inr false)))
            else
              some (.inr (.inr false))))
      )
     : Option ((Int) ⊕ ((Unit) ⊕ Bool))) >>= fun o101 => match o101 with
      | .inr r => some r
      | .inl y100 =>
        m6_L14 b7 l6 s9 v51 y8 y100 (W64 (y96 + 1))
    )
  else
    some (.inl ()))
partial_fixpoint
def m6 (a0 : List UInt8) : Option (Bool) :=
  (if (a0.length : Int) > 1048576 then
    some true
  else
    (
      m21 a0 >>= fun (v18, v19, v20) =>
      some (v18.fKind, v18.fNum, v18.fStr, v18.fNext, v18.fItems, v19.fText, v19.fNum, v19.fStr, v20.fKind, v20.fNum, v20.fStr, v20.fNext, v20.fItems)
     : Option (Int × Int × Str × Int × (List TEntry) × Bool × Int × Str × Int × Int × Str × Int × (List TEntry))) >>= fun (y2, y3, s4, y5, l6, b7, y8, s9, y10, y11, s12, y13, l14) =>
    ((
      (
        m22 (TValue.mk y2 y3 s4 y5 l6) >>= fun v29 =>
        (if v29 = true then
          (if y2 = 4 then
            m23 (TKey.mk b7 y8 s9) >>= fun v33 =>
            some (!v33)
          else
            some true)
        else
          some true)
       : Option (Bool)) >>= fun b25 =>
      (if b25 = true then
        m24 (TValue.mk y2 y3 s4 y5 l6) (TKey.mk b7 y8 s9) (TValue.mk y10 y11 s12 y13 l14) >>= fun (v37, v38) =>
        (if y2 = 4 then
          m23 (TKey.mk b7 y8 s9) >>= fun v41 =>
          (if v38 = v41 then
            (if v38 = true then
              some (.inr true)
            else
              m19 v37 (TValue.mk y2 y3 s4 y5 l6) >>= fun v45 =>
              some (.inr v45))
          else
            some (.inr false))
        else
          (if v38 = false then
            (if v38 = true then
              some (.inr true)
            else
              m19 v37 (TValue.mk y2 y3 s4 y5 l6) >>= fun v49 =>
              some (.inr v49))
          else
            some (.inr false)))
      else
        some (.inl ()))
     : Option ((Unit) ⊕ Bool)) >>= fun o22 => match o22 with
      | .inr r => some r
      | .inl _ =>
        m24 (TValue.mk y2 y3 s4 y5 l6) (TKey.mk b7 y8 s9) (TValue.mk y10 y11 s12 y13 l14) >>= fun (v51, v52) =>
        (
          m25 v51 (TKey.mk b7 y8 s9) >>= fun (v63, v64) =>
          some (v63.fKind, v63.fNum, v63.fStr, v63.fNext, v63.fItems, v64)
         : Option (Int × Int × Str × Int × (List TEntry) × Bool)) >>= fun (y54, y55, s56, y57, l58, b59) =>
        m26 v51 (TKey.mk b7 y8 s9) >>= fun v66 =>
        (
          m25 v66 (TKey.mk b7 y8 s9) >>= fun (v72, v73) =>
          some v73
         : Option (Bool)) >>= fun b68 =>
        ((
          (if v52 = true then
            (if b59 = true then
              m19 (TValue.mk y10 y11 s12 y13 l14) (TValue.mk y54 y55 s56 y57 l58) >>= fun v80 =>
              (if v80 = true then
                (if b68 = true then
                  some (.inr false)
                else
                  m27 v51 (TKey.mk false v51.fNext []) >>= fun v84 =>
                  (if v84 ≥ 0 then
                    some (.inr false)
                  else
                    (if v66.fNext = v51.fNext then
                      (if v51.fNext < y5 then
                        some (.inr false)
                      else
                        some (.inl ()))
                    else
                      some (.inr false))))
              else
                some (.inr false))
            else
              some (.inr false))
          else
            some (.inr false))
         : Option ((Unit) ⊕ Bool)) >>= fun o75 => match o75 with
          | .inr r => some r
          | .inl _ =>
            ((
              m6_L14 b7 l6 s9 v51 y8 0 0
             : Option ((Unit) ⊕ Bool)) >>= fun o92 => match o92 with
              | .inr r => some r
              | .inl _ =>
                m28 v51 >>= fun v140 =>
                (if (v140.length : Int) = (v51.fItems.length : Int) then
                  m29 v66 >>= fun v143 =>
                  some ((v143.length : Int) == (W64 ((v51.fItems.length : Int) - 1)))
                else
                  some false)
            )
        )
    ))
theorem ok6 {a0 : List UInt8} {r : Bool} (h : m6 a0 = some r) : ACall Tryd.prog 6 [sl 1 cB a0] [] (fun res h => res = .bool r ∧ h = []) := by
  refine ACall.of_vc tabT_ok mixed Tryd.func6 rfl (by kernel_rfl) _ _ _ rfl (by kernel_rfl) ?_
  unfold m6 at h
  refine .direct ?_
  refine .direct ?_
  refine .direct ?_
  refine ⟨_, ACall.pure0 (ok12x a0) _ rfl (fun _ => rfl), ?_⟩
  rintro _ _ ⟨rfl, rfl⟩
  refine splitB.mk (fun hb1 => ?_) (fun hb1 => ?_)
  · replace h := T_dec hb1 h
    refine .direct ?_
    obtain rfl := Option.some.inj h
    exact ⟨[], .bool true, [], by decide, (show 0 ≤ 0 by decide), .bool_eq rfl, trivial, rfl, rfl⟩
  · replace h := F_dec hb1 h
    obtain ⟨o15, ho16, hk17⟩ := bind_some h
    replace h := ho16
    refine .cut (fun σ η => ∃ y2, ∃ y3, ∃ s4, ∃ y5, ∃ l6, ∃ b7, ∃ y8, ∃ s9, ∃ y10, ∃ y11, ∃ s12, ∃ y13, ∃ l14, (y2, y3, s4, y5, l6, b7, y8, s9, y10, y11, s12, y13, l14) = o15 ∧ σ = [(3, .optr 0 0 0 0), (4, .optr 1 0 0 0), (5, .optr 2 0 0 0)] ∧ η = [.row 0 5 1 40 (fun _ => [.int .i64 y2, .int .i64 y3, .str s4, .int .i64 y5, sl 8 TEntry.cells l6]), .row 0 3 1 44 (fun _ => [.bool b7, .int .i64 y8, .str s9]), .row 0 5 1 40 (fun _ => [.int .i64 y10, .int .i64 y11, .str s12, .int .i64 y13, sl 8 TEntry.cells l14])]) ?_ ?_
    · obtain ⟨⟨v18, v19, v20⟩, hv21, h⟩ := bind_some h
      refine ⟨_, ACall.pure0 (ok21 hv21) _ rfl (fun _ => rfl), ?_⟩
      rintro _ _ ⟨rfl, rfl⟩
      refine ⟨rfl, _, fun _ => [.int .i64 v18.fKind, .int .i64 v18.fNum, .str v18.fStr, .int .i64 v18.fNext, sl 8 TEntry.cells v18.fItems], rfl, one_set rfl, ?_⟩
      refine ⟨rfl, _, fun _ => [.bool v19.fText, .int .i64 v19.fNum, .str v19.fStr], rfl, one_set rfl, ?_⟩
      refine ⟨rfl, _, fun _ => [.int .i64 v20.fKind, .int .i64 v20.fNum, .str v20.fStr, .int .i64 v20.fNext, sl 8 TEntry.cells v20.fItems], rfl, one_set rfl, ?_⟩
      exact ⟨[(3, .optr 0 0 0 0), (4, .optr 1 0 0 0), (5, .optr 2 0 0 0)], [.row 0 5 1 40 (fun _ => [.int .i64 v18.fKind, .int .i64 v18.fNum, .str v18.fStr, .int .i64 v18.fNext, sl 8 TEntry.cells v18.fItems]), .row 0 3 1 44 (fun _ => [.bool v19.fText, .int .i64 v19.fNum, .str v19.fStr]), .row 0 5 1 40 (fun _ => [.int .i64 v20.fKind, .int .i64 v20.fNum, .str v20.fStr, .int .i64 v20.fNext, sl 8 TEntry.cells v20.fItems])], ⟨[0, 1, 2], by decide, (show 0 ≤ 3 by decide), ⟨.optr_eq rfl ⟨_, _, _, _, rfl⟩ ⟨_, _, _, _, rfl⟩ rfl rfl, .optr_eq rfl ⟨_, _, _, _, rfl⟩ ⟨_, _, _, _, rfl⟩ rfl rfl, .optr_eq rfl ⟨_, _, _, _, rfl⟩ ⟨_, _, _, _, rfl⟩ rfl rfl, trivial⟩, ⟨⟨fun h0 => absurd (show 0 < 0 from h0) (by decide), rfl, rfl, rfl, fun _ _ => ⟨.int_eq rfl, .int_eq rfl, .str_eq rfl, .int_eq rfl, .slc_eq rfl (fun _ _ => rfl), trivial⟩⟩, ⟨fun h0 => absurd (show 1 < 0 from h0) (by decide), rfl, rfl, rfl, fun _ _ => ⟨.bool_eq rfl, .int_eq rfl, .str_eq rfl, trivial⟩⟩, ⟨fun h0 => absurd (show 2 < 0 from h0) (by decide), rfl, rfl, rfl, fun _ _ => ⟨.int_eq rfl, .int_eq rfl, .str_eq rfl, .int_eq rfl, .slc_eq rfl (fun _ _ => rfl), trivial⟩⟩, trivial⟩⟩, v18.fKind, v18.fNum, v18.fStr, v18.fNext, v18.fItems, v19.fText, v19.fNum, v19.fStr, v20.fKind, v20.fNum, v20.fStr, v20.fNext, v20.fItems, Option.some.inj h, rfl, rfl⟩
    · rintro _ _ ⟨y2, y3, s4, y5, l6, b7, y8, s9, y10, y11, s12, y13, l14, rfl, rfl, rfl⟩
      replace h := hk17
      obtain ⟨o22, ho23, hk24⟩ := bind_some h
      replace h := ho23
      refine .cut (fun σ η => .inl () = o22 ∧ σ = [(3, .optr 0 0 0 0), (4, .optr 1 0 0 0), (5, .optr 2 0 0 0)] ∧ η = [.row 0 5 1 40 (fun _ => [.int .i64 y2, .int .i64 y3, .str s4, .int .i64 y5, sl 8 TEntry.cells l6]), .row 0 3 1 44 (fun _ => [.bool b7, .int .i64 y8, .str s9]), .row 0 5 1 40 (fun _ => [.int .i64 y10, .int .i64 y11, .str s12, .int .i64 y13, sl 8 TEntry.cells l14])]) ?_ ?_
      · obtain ⟨o26, ho27, hk28⟩ := bind_some h
        replace h := ho27
        refine .cut (fun σ η => ∃ b25, b25 = o26 ∧ σ = [(3, .optr 0 0 0 0), (4, .optr 1 0 0 0), (5, .optr 2 0 0 0), (37, .bool b25)] ∧ η = [.row 0 5 1 40 (fun _ => [.int .i64 y2, .int .i64 y3, .str s4, .int .i64 y5, sl 8 TEntry.cells l6]), .row 0 3 1 44 (fun _ => [.bool b7, .int .i64 y8, .str s9]), .row 0 5 1 40 (fun _ => [.int .i64 y10, .int .i64 y11, .str s12, .int .i64 y13, sl 8 TEntry.cells l14])]) ?_ ?_
        · refine ⟨rfl, _, rfl, ?_⟩
          obtain ⟨v29, hv30, h⟩ := bind_some h
          refine ⟨_, ACall.pure0 (ok22 hv30) _ rfl (fun _ => rfl), ?_⟩
          rintro _ _ ⟨rfl, rfl⟩
          refine splitB.mk (fun hb31 => ?_) (fun hb31 => ?_)
          · have hb35 := not_F hb31
            replace h := F_var hb35 h
            refine splitB_t ?_
            refine splitB_t ?_
            refine splitB_t ?_
            refine splitB_t ?_
            refine splitB_t ?_
            refine splitB_t ?_
            refine splitB_t ?_
            exact ⟨[(3, .optr 0 0 0 0), (4, .optr 1 0 0 0), (5, .optr 2 0 0 0), (37, .bool true)], [.row 0 5 1 40 (fun _ => [.int .i64 y2, .int .i64 y3, .str s4, .int .i64 y5, sl 8 TEntry.cells l6]), .row 0 3 1 44 (fun _ => [.bool b7, .int .i64 y8, .str s9]), .row 0 5 1 40 (fun _ => [.int .i64 y10, .int .i64 y11, .str s12, .int .i64 y13, sl 8 TEntry.cells l14])], ⟨[0, 1, 2], by decide, (show 0 ≤ 3 by decide), ⟨.optr_eq rfl ⟨_, _, _, _, rfl⟩ ⟨_, _, _, _, rfl⟩ rfl rfl, .optr_eq rfl ⟨_, _, _, _, rfl⟩ ⟨_, _, _, _, rfl⟩ rfl rfl, .optr_eq rfl ⟨_, _, _, _, rfl⟩ ⟨_, _, _, _, rfl⟩ rfl rfl, .bool_eq rfl, trivial⟩, ⟨⟨fun h0 => absurd (show 0 < 0 from h0) (by decide), rfl, rfl, rfl, fun _ _ => ⟨.int_eq rfl, .int_eq rfl, .str_eq rfl, .int_eq rfl, .slc_eq rfl (fun _ _ => rfl), trivial⟩⟩, ⟨fun h0 => absurd (show 1 < 0 from h0) (by decide), rfl, rfl, rfl, fun _ _ => ⟨.bool_eq rfl, .int_eq rfl, .str_eq rfl, trivial⟩⟩, ⟨fun h0 => absurd (show 2 < 0 from h0) (by decide), rfl, rfl, rfl, fun _ _ => ⟨.int_eq rfl, .int_eq rfl, .str_eq rfl, .int_eq rfl, .slc_eq rfl (fun _ _ => rfl), trivial⟩⟩, trivial⟩⟩, true, Option.some.inj h, rfl, rfl⟩
          · have hb35 := not_T hb31
            replace h := T_var hb35 h
            refine ⟨rfl, ?_⟩
            refine splitB_f ?_
            refine ⟨rfl, _, rfl, ?_⟩
            refine splitB_f ?_
            refine splitB_f ?_
            refine splitB.mk (fun hb32 => ?_) (fun hb32 => ?_)
            · replace h := T_bne hb32 h
              refine splitB_t ?_
              refine splitB_t ?_
              refine splitB_t ?_
              exact ⟨[(3, .optr 0 0 0 0), (4, .optr 1 0 0 0), (5, .optr 2 0 0 0), (37, .bool true)], [.row 0 5 1 40 (fun _ => [.int .i64 y2, .int .i64 y3, .str s4, .int .i64 y5, sl 8 TEntry.cells l6]), .row 0 3 1 44 (fun _ => [.bool b7, .int .i64 y8, .str s9]), .row 0 5 1 40 (fun _ => [.int .i64 y10, .int .i64 y11, .str s12, .int .i64 y13, sl 8 TEntry.cells l14])], ⟨[0, 1, 2], by decide, (show 0 ≤ 3 by decide), ⟨.optr_eq rfl ⟨_, _, _, _, rfl⟩ ⟨_, _, _, _, rfl⟩ rfl rfl, .optr_eq rfl ⟨_, _, _, _, rfl⟩ ⟨_, _, _, _, rfl⟩ rfl rfl, .optr_eq rfl ⟨_, _, _, _, rfl⟩ ⟨_, _, _, _, rfl⟩ rfl rfl, .bool_eq rfl, trivial⟩, ⟨⟨fun h0 => absurd (show 0 < 0 from h0) (by decide), rfl, rfl, rfl, fun _ _ => ⟨.int_eq rfl, .int_eq rfl, .str_eq rfl, .int_eq rfl, .slc_eq rfl (fun _ _ => rfl), trivial⟩⟩, ⟨fun h0 => absurd (show 1 < 0 from h0) (by decide), rfl, rfl, rfl, fun _ _ => ⟨.bool_eq rfl, .int_eq rfl, .str_eq rfl, trivial⟩⟩, ⟨fun h0 => absurd (show 2 < 0 from h0) (by decide), rfl, rfl, rfl, fun _ _ => ⟨.int_eq rfl, .int_eq rfl, .str_eq rfl, .int_eq rfl, .slc_eq rfl (fun _ _ => rfl), trivial⟩⟩, trivial⟩⟩, true, Option.some.inj h, rfl, rfl⟩
            · replace h := F_bne hb32 h
              refine ⟨rfl, _, rfl, ?_⟩
              refine splitB_f ?_
              obtain ⟨v33, hv34, h⟩ := bind_some h
              refine ⟨_, ACall.pure0 (ok23 hv34) _ rfl (fun _ => rfl), ?_⟩
              rintro _ _ ⟨rfl, rfl⟩
              refine splitB_f ?_
              refine splitB_f ?_
              exact ⟨[(3, .optr 0 0 0 0), (4, .optr 1 0 0 0), (5, .optr 2 0 0 0), (37, .bool (!v33))], [.row 0 5 1 40 (fun _ => [.int .i64 y2, .int .i64 y3, .str s4, .int .i64 y5, sl 8 TEntry.cells l6]), .row 0 3 1 44 (fun _ => [.bool b7, .int .i64 y8, .str s9]), .row 0 5 1 40 (fun _ => [.int .i64 y10, .int .i64 y11, .str s12, .int .i64 y13, sl 8 TEntry.cells l14])], ⟨[0, 1, 2], by decide, (show 0 ≤ 3 by decide), ⟨.optr_eq rfl ⟨_, _, _, _, rfl⟩ ⟨_, _, _, _, rfl⟩ rfl rfl, .optr_eq rfl ⟨_, _, _, _, rfl⟩ ⟨_, _, _, _, rfl⟩ rfl rfl, .optr_eq rfl ⟨_, _, _, _, rfl⟩ ⟨_, _, _, _, rfl⟩ rfl rfl, .bool_eq rfl, trivial⟩, ⟨⟨fun h0 => absurd (show 0 < 0 from h0) (by decide), rfl, rfl, rfl, fun _ _ => ⟨.int_eq rfl, .int_eq rfl, .str_eq rfl, .int_eq rfl, .slc_eq rfl (fun _ _ => rfl), trivial⟩⟩, ⟨fun h0 => absurd (show 1 < 0 from h0) (by decide), rfl, rfl, rfl, fun _ _ => ⟨.bool_eq rfl, .int_eq rfl, .str_eq rfl, trivial⟩⟩, ⟨fun h0 => absurd (show 2 < 0 from h0) (by decide), rfl, rfl, rfl, fun _ _ => ⟨.int_eq rfl, .int_eq rfl, .str_eq rfl, .int_eq rfl, .slc_eq rfl (fun _ _ => rfl), trivial⟩⟩, trivial⟩⟩, (!v33), Option.some.inj h, rfl, rfl⟩
        · rintro _ _ ⟨b25, rfl, rfl, rfl⟩
          replace h := hk28
          refine splitB.mk (fun hb36 => ?_) (fun hb36 => ?_)
          · replace h := T_var hb36 h
            refine .direct ?_
            refine ⟨rfl, _, rfl, ?_⟩
            refine ⟨rfl, _, rfl, ?_⟩
            refine ⟨rfl, _, rfl, ?_⟩
            obtain ⟨⟨v37, v38⟩, hv39, h⟩ := bind_some h
            refine ⟨_, ACall.pure0 (ok24 hv39) _ rfl (fun _ => rfl), ?_⟩
            rintro _ _ ⟨rfl, rfl⟩
            refine ⟨rfl, _, fun _ => [.int .i64 v37.fKind, .int .i64 v37.fNum, .str v37.fStr, .int .i64 v37.fNext, sl 8 TEntry.cells v37.fItems], rfl, one_set rfl, ?_⟩
            refine .direct ?_
            refine ⟨rfl, ?_⟩
            refine ⟨rfl, _, rfl, ?_⟩
            refine splitB.mk (fun hb40 => ?_) (fun hb40 => ?_)
            · replace h := T_beq hb40 h
              refine ⟨rfl, _, rfl, ?_⟩
              refine splitB_t ?_
              obtain ⟨v41, hv42, h⟩ := bind_some h
              refine ⟨_, ACall.pure0 (ok23 hv42) _ rfl (fun _ => rfl), ?_⟩
              rintro _ _ ⟨rfl, rfl⟩
              refine splitB_t ?_
              refine splitB.mk (fun hb43 => ?_) (fun hb43 => ?_)
              · replace h := T_beq hb43 h
                refine splitB_t ?_
                refine splitB.mk (fun hb44 => ?_) (fun hb44 => ?_)
                · replace h := T_var hb44 h
                  refine splitB_t ?_
                  refine splitB_t ?_
                  refine splitB_t ?_
                  refine splitB_t ?_
                  refine splitB_t ?_
                  obtain rfl := Option.some.inj h
                  replace h := hk24
                  obtain rfl := Option.some.inj h
                  exact ⟨[], .bool true, [], by decide, (show 0 ≤ 0 by decide), .bool_eq rfl, trivial, rfl, rfl⟩
                · replace h := F_var hb44 h
                  refine ⟨rfl, _, rfl, ?_⟩
                  refine splitB_f ?_
                  refine ⟨rfl, _, rfl, ?_⟩
                  refine splitB_f ?_
                  obtain ⟨v45, hv46, h⟩ := bind_some h
                  refine ⟨_, ACall.pure0 (ok19 hv46) _ rfl (fun _ => rfl), ?_⟩
                  rintro _ _ ⟨rfl, rfl⟩
                  refine splitB_t ?_
                  refine splitB_f ?_
                  refine splitB_t ?_
                  obtain rfl := Option.some.inj h
                  replace h := hk24
                  obtain rfl := Option.some.inj h
                  exact ⟨[], .bool v45, [], by decide, (show 0 ≤ 0 by decide), .bool_eq rfl, trivial, rfl, rfl⟩
              · replace h := F_beq hb43 h
                refine splitB_f ?_
                refine splitB_f ?_
                refine splitB_f ?_
                obtain rfl := Option.some.inj h
                replace h := hk24
                obtain rfl := Option.some.inj h
                exact ⟨[], .bool false, [], by decide, (show 0 ≤ 0 by decide), .bool_eq rfl, trivial, rfl, rfl⟩
            · replace h := F_beq hb40 h
              refine splitB_f ?_
              refine splitB_f ?_
              refine splitB.mk (fun hb47 => ?_) (fun hb47 => ?_)
              · replace h := T_beq hb47 h
                refine splitB_t ?_
                refine splitB.mk (fun hb48 => ?_) (fun hb48 => ?_)
                · replace h := T_var hb48 h
                  refine splitB_t ?_
                  refine splitB_t ?_
                  refine splitB_t ?_
                  refine splitB_t ?_
                  refine splitB_t ?_
                  obtain rfl := Option.some.inj h
                  replace h := hk24
                  obtain rfl := Option.some.inj h
                  exact ⟨[], .bool true, [], by decide, (show 0 ≤ 0 by decide), .bool_eq rfl, trivial, rfl, rfl⟩
                · replace h := F_var hb48 h
                  refine ⟨rfl, _, rfl, ?_⟩
                  refine splitB_f ?_
                  refine ⟨rfl, _, rfl, ?_⟩
                  refine splitB_f ?_
                  obtain ⟨v49, hv50, h⟩ := bind_some h
                  refine ⟨_, ACall.pure0 (ok19 hv50) _ rfl (fun _ => rfl), ?_⟩
                  rintro _ _ ⟨rfl, rfl⟩
                  refine splitB_t ?_
                  refine splitB_f ?_
                  refine splitB_t ?_
                  obtain rfl := Option.some.inj h
                  replace h := hk24
                  obtain rfl := Option.some.inj h
                  exact ⟨[], .bool v49, [], by decide, (show 0 ≤ 0 by decide), .bool_eq rfl, trivial, rfl, rfl⟩
              · replace h := F_beq hb47 h
                refine splitB_f ?_
                refine splitB_f ?_
                refine splitB_f ?_
                obtain rfl := Option.some.inj h
                replace h := hk24
                obtain rfl := Option.some.inj h
                exact ⟨[], .bool false, [], by decide, (show 0 ≤ 0 by decide), .bool_eq rfl, trivial, rfl, rfl⟩
          · replace h := F_var hb36 h
            exact ⟨[(3, .optr 0 0 0 0), (4, .optr 1 0 0 0), (5, .optr 2 0 0 0)], [.row 0 5 1 40 (fun _ => [.int .i64 y2, .int .i64 y3, .str s4, .int .i64 y5, sl 8 TEntry.cells l6]), .row 0 3 1 44 (fun _ => [.bool b7, .int .i64 y8, .str s9]), .row 0 5 1 40 (fun _ => [.int .i64 y10, .int .i64 y11, .str s12, .int .i64 y13, sl 8 TEntry.cells l14])], ⟨[0, 1, 2], by decide, (show 0 ≤ 3 by decide), ⟨.optr_eq rfl ⟨_, _, _, _, rfl⟩ ⟨_, _, _, _, rfl⟩ rfl rfl, .optr_eq rfl ⟨_, _, _, _, rfl⟩ ⟨_, _, _, _, rfl⟩ rfl rfl, .optr_eq rfl ⟨_, _, _, _, rfl⟩ ⟨_, _, _, _, rfl⟩ rfl rfl, trivial⟩, ⟨⟨fun h0 => absurd (show 0 < 0 from h0) (by decide), rfl, rfl, rfl, fun _ _ => ⟨.int_eq rfl, .int_eq rfl, .str_eq rfl, .int_eq rfl, .slc_eq rfl (fun _ _ => rfl), trivial⟩⟩, ⟨fun h0 => absurd (show 1 < 0 from h0) (by decide), rfl, rfl, rfl, fun _ _ => ⟨.bool_eq rfl, .int_eq rfl, .str_eq rfl, trivial⟩⟩, ⟨fun h0 => absurd (show 2 < 0 from h0) (by decide), rfl, rfl, rfl, fun _ _ => ⟨.int_eq rfl, .int_eq rfl, .str_eq rfl, .int_eq rfl, .slc_eq rfl (fun _ _ => rfl), trivial⟩⟩, trivial⟩⟩, Option.some.inj h, rfl, rfl⟩
      · rintro _ _ ⟨rfl, rfl, rfl⟩
        replace h := hk24
        refine .direct ?_
        refine ⟨rfl, _, rfl, ?_⟩
        refine ⟨rfl, _, rfl, ?_⟩
        refine ⟨rfl, _, rfl, ?_⟩
        obtain ⟨⟨v51, v52⟩, hv53, h⟩ := bind_some h
        refine ⟨_, ACall.pure0 (ok24 hv53) _ rfl (fun _ => rfl), ?_⟩
        rintro _ _ ⟨rfl, rfl⟩
        refine ⟨rfl, _, fun _ => [.int .i64 v51.fKind, .int .i64 v51.fNum, .str v51.fStr, .int .i64 v51.fNext, sl 8 TEntry.cells v51.fItems], rfl, one_set rfl, ?_⟩
        obtain ⟨o60, ho61, hk62⟩ := bind_some h
        replace h := ho61
        refine .cut (fun σ η => ∃ y54, ∃ y55, ∃ s56, ∃ y57, ∃ l58, ∃ b59, (y54, y55, s56, y57, l58, b59) = o60 ∧ σ = [(3, .optr 0 0 0 0), (4, .optr 1 0 0 0), (5, .optr 2 0 0 0), (8, .optr 3 0 0 0), (9, .bool v52), (10, .optr 4 0 0 0), (11, .bool b59)] ∧ η = [.row 0 5 1 40 (fun _ => [.int .i64 y2, .int .i64 y3, .str s4, .int .i64 y5, sl 8 TEntry.cells l6]), .row 0 3 1 44 (fun _ => [.bool b7, .int .i64 y8, .str s9]), .row 0 5 1 40 (fun _ => [.int .i64 y10, .int .i64 y11, .str s12, .int .i64 y13, sl 8 TEntry.cells l14]), .row 0 5 1 40 (fun _ => [.int .i64 v51.fKind, .int .i64 v51.fNum, .str v51.fStr, .int .i64 v51.fNext, sl 8 TEntry.cells v51.fItems]), .row 0 5 1 40 (fun _ => [.int .i64 y54, .int .i64 y55, .str s56, .int .i64 y57, sl 8 TEntry.cells l58])]) ?_ ?_
        · refine ⟨rfl, _, rfl, ?_⟩
          refine ⟨rfl, _, rfl, ?_⟩
          obtain ⟨⟨v63, v64⟩, hv65, h⟩ := bind_some h
          refine ⟨_, ACall.pure0 (ok25 hv65) _ rfl (fun _ => rfl), ?_⟩
          rintro _ _ ⟨rfl, rfl⟩
          refine ⟨rfl, _, fun _ => [.int .i64 v63.fKind, .int .i64 v63.fNum, .str v63.fStr, .int .i64 v63.fNext, sl 8 TEntry.cells v63.fItems], rfl, one_set rfl, ?_⟩
          exact ⟨[(3, .optr 0 0 0 0), (4, .optr 1 0 0 0), (5, .optr 2 0 0 0), (8, .optr 3 0 0 0), (9, .bool v52), (10, .optr 4 0 0 0), (11, .bool v64)], [.row 0 5 1 40 (fun _ => [.int .i64 y2, .int .i64 y3, .str s4, .int .i64 y5, sl 8 TEntry.cells l6]), .row 0 3 1 44 (fun _ => [.bool b7, .int .i64 y8, .str s9]), .row 0 5 1 40 (fun _ => [.int .i64 y10, .int .i64 y11, .str s12, .int .i64 y13, sl 8 TEntry.cells l14]), .row 0 5 1 40 (fun _ => [.int .i64 v51.fKind, .int .i64 v51.fNum, .str v51.fStr, .int .i64 v51.fNext, sl 8 TEntry.cells v51.fItems]), .row 0 5 1 40 (fun _ => [.int .i64 v63.fKind, .int .i64 v63.fNum, .str v63.fStr, .int .i64 v63.fNext, sl 8 TEntry.cells v63.fItems])], ⟨[0, 1, 2, 3, 4], by decide, (show 0 ≤ 5 by decide), ⟨.optr_eq rfl ⟨_, _, _, _, rfl⟩ ⟨_, _, _, _, rfl⟩ rfl rfl, .optr_eq rfl ⟨_, _, _, _, rfl⟩ ⟨_, _, _, _, rfl⟩ rfl rfl, .optr_eq rfl ⟨_, _, _, _, rfl⟩ ⟨_, _, _, _, rfl⟩ rfl rfl, .optr_eq rfl ⟨_, _, _, _, rfl⟩ ⟨_, _, _, _, rfl⟩ rfl rfl, .bool_eq rfl, .optr_eq rfl ⟨_, _, _, _, rfl⟩ ⟨_, _, _, _, rfl⟩ rfl rfl, .bool_eq rfl, trivial⟩, ⟨⟨fun h0 => absurd (show 0 < 0 from h0) (by decide), rfl, rfl, rfl, fun _ _ => ⟨.int_eq rfl, .int_eq rfl, .str_eq rfl, .int_eq rfl, .slc_eq rfl (fun _ _ => rfl), trivial⟩⟩, ⟨fun h0 => absurd (show 1 < 0 from h0) (by decide), rfl, rfl, rfl, fun _ _ => ⟨.bool_eq rfl, .int_eq rfl, .str_eq rfl, trivial⟩⟩, ⟨fun h0 => absurd (show 2 < 0 from h0) (by decide), rfl, rfl, rfl, fun _ _ => ⟨.int_eq rfl, .int_eq rfl, .str_eq rfl, .int_eq rfl, .slc_eq rfl (fun _ _ => rfl), trivial⟩⟩, ⟨fun h0 => absurd (show 3 < 0 from h0) (by decide), rfl, rfl, rfl, fun _ _ => ⟨.int_eq rfl, .int_eq rfl, .str_eq rfl, .int_eq rfl, .slc_eq rfl (fun _ _ => rfl), trivial⟩⟩, ⟨fun h0 => absurd (show 4 < 0 from h0) (by decide), rfl, rfl, rfl, fun _ _ => ⟨.int_eq rfl, .int_eq rfl, .str_eq rfl, .int_eq rfl, .slc_eq rfl (fun _ _ => rfl), trivial⟩⟩, trivial⟩⟩, v63.fKind, v63.fNum, v63.fStr, v63.fNext, v63.fItems, v64, Option.some.inj h, rfl, rfl⟩
        · rintro _ _ ⟨y54, y55, s56, y57, l58, b59, rfl, rfl, rfl⟩
          replace h := hk62
          refine .direct ?_
          refine ⟨rfl, _, rfl, ?_⟩
          refine ⟨rfl, _, rfl, ?_⟩
          obtain ⟨v66, hv67, h⟩ := bind_some h
          refine ⟨_, ACall.pure0 (ok26 hv67) _ rfl (fun _ => rfl), ?_⟩
          rintro _ _ ⟨rfl, rfl⟩
          refine ⟨rfl, _, fun _ => [.int .i64 v66.fKind, .int .i64 v66.fNum, .str v66.fStr, .int .i64 v66.fNext, sl 8 TEntry.cells v66.fItems], rfl, one_set rfl, ?_⟩
          obtain ⟨o69, ho70, hk71⟩ := bind_some h
          replace h := ho70
          refine .cut (fun σ η => ∃ b68, b68 = o69 ∧ σ = [(3, .optr 0 0 0 0), (4, .optr 1 0 0 0), (5, .optr 2 0 0 0), (8, .optr 3 0 0 0), (9, .bool v52), (10, .optr 4 0 0 0), (11, .bool b59), (12, .optr 5 0 0 0), (14, .bool b68)] ∧ η = [.row 0 5 1 40 (fun _ => [.int .i64 y2, .int .i64 y3, .str s4, .int .i64 y5, sl 8 TEntry.cells l6]), .row 0 3 1 44 (fun _ => [.bool b7, .int .i64 y8, .str s9]), .row 0 5 1 40 (fun _ => [.int .i64 y10, .int .i64 y11, .str s12, .int .i64 y13, sl 8 TEntry.cells l14]), .row 0 5 1 40 (fun _ => [.int .i64 v51.fKind, .int .i64 v51.fNum, .str v51.fStr, .int .i64 v51.fNext, sl 8 TEntry.cells v51.fItems]), .row 0 5 1 40 (fun _ => [.int .i64 y54, .int .i64 y55, .str s56, .int .i64 y57, sl 8 TEntry.cells l58]), .row 0 5 1 40 (fun _ => [.int .i64 v66.fKind, .int .i64 v66.fNum, .str v66.fStr, .int .i64 v66.fNext, sl 8 TEntry.cells v66.fItems])]) ?_ ?_
          · refine ⟨rfl, _, rfl, ?_⟩
            refine ⟨rfl, _, rfl, ?_⟩
            obtain ⟨⟨v72, v73⟩, hv74, h⟩ := bind_some h
            refine ⟨_, ACall.pure0 (ok25 hv74) _ rfl (fun _ => rfl), ?_⟩
            rintro _ _ ⟨rfl, rfl⟩
            refine ⟨rfl, _, fun _ => [.int .i64 v72.fKind, .int .i64 v72.fNum, .str v72.fStr, .int .i64 v72.fNext, sl 8 TEntry.cells v72.fItems], rfl, one_set rfl, ?_⟩
            exact ⟨[(3, .optr 0 0 0 0), (4, .optr 1 0 0 0), (5, .optr 2 0 0 0), (8, .optr 3 0 0 0), (9, .bool v52), (10, .optr 4 0 0 0), (11, .bool b59), (12, .optr 5 0 0 0), (14, .bool v73)], [.row 0 5 1 40 (fun _ => [.int .i64 y2, .int .i64 y3, .str s4, .int .i64 y5, sl 8 TEntry.cells l6]), .row 0 3 1 44 (fun _ => [.bool b7, .int .i64 y8, .str s9]), .row 0 5 1 40 (fun _ => [.int .i64 y10, .int .i64 y11, .str s12, .int .i64 y13, sl 8 TEntry.cells l14]), .row 0 5 1 40 (fun _ => [.int .i64 v51.fKind, .int .i64 v51.fNum, .str v51.fStr, .int .i64 v51.fNext, sl 8 TEntry.cells v51.fItems]), .row 0 5 1 40 (fun _ => [.int .i64 y54, .int .i64 y55, .str s56, .int .i64 y57, sl 8 TEntry.cells l58]), .row 0 5 1 40 (fun _ => [.int .i64 v66.fKind, .int .i64 v66.fNum, .str v66.fStr, .int .i64 v66.fNext, sl 8 TEntry.cells v66.fItems])], ⟨[0, 1, 2, 3, 4, 5], by decide, (show 0 ≤ 6 by decide), ⟨.optr_eq rfl ⟨_, _, _, _, rfl⟩ ⟨_, _, _, _, rfl⟩ rfl rfl, .optr_eq rfl ⟨_, _, _, _, rfl⟩ ⟨_, _, _, _, rfl⟩ rfl rfl, .optr_eq rfl ⟨_, _, _, _, rfl⟩ ⟨_, _, _, _, rfl⟩ rfl rfl, .optr_eq rfl ⟨_, _, _, _, rfl⟩ ⟨_, _, _, _, rfl⟩ rfl rfl, .bool_eq rfl, .optr_eq rfl ⟨_, _, _, _, rfl⟩ ⟨_, _, _, _, rfl⟩ rfl rfl, .bool_eq rfl, .optr_eq rfl ⟨_, _, _, _, rfl⟩ ⟨_, _, _, _, rfl⟩ rfl rfl, .bool_eq rfl, trivial⟩, ⟨⟨fun h0 => absurd (show 0 < 0 from h0) (by decide), rfl, rfl, rfl, fun _ _ => ⟨.int_eq rfl, .int_eq rfl, .str_eq rfl, .int_eq rfl, .slc_eq rfl (fun _ _ => rfl), trivial⟩⟩, ⟨fun h0 => absurd (show 1 < 0 from h0) (by decide), rfl, rfl, rfl, fun _ _ => ⟨.bool_eq rfl, .int_eq rfl, .str_eq rfl, trivial⟩⟩, ⟨fun h0 => absurd (show 2 < 0 from h0) (by decide), rfl, rfl, rfl, fun _ _ => ⟨.int_eq rfl, .int_eq rfl, .str_eq rfl, .int_eq rfl, .slc_eq rfl (fun _ _ => rfl), trivial⟩⟩, ⟨fun h0 => absurd (show 3 < 0 from h0) (by decide), rfl, rfl, rfl, fun _ _ => ⟨.int_eq rfl, .int_eq rfl, .str_eq rfl, .int_eq rfl, .slc_eq rfl (fun _ _ => rfl), trivial⟩⟩, ⟨fun h0 => absurd (show 4 < 0 from h0) (by decide), rfl, rfl, rfl, fun _ _ => ⟨.int_eq rfl, .int_eq rfl, .str_eq rfl, .int_eq rfl, .slc_eq rfl (fun _ _ => rfl), trivial⟩⟩, ⟨fun h0 => absurd (show 5 < 0 from h0) (by decide), rfl, rfl, rfl, fun _ _ => ⟨.int_eq rfl, .int_eq rfl, .str_eq rfl, .int_eq rfl, .slc_eq rfl (fun _ _ => rfl), trivial⟩⟩, trivial⟩⟩, v73, Option.some.inj h, rfl, rfl⟩
          · rintro _ _ ⟨b68, rfl, rfl, rfl⟩
            replace h := hk71
            obtain ⟨o75, ho76, hk77⟩ := bind_some h
            replace h := ho76
            refine .cut (fun σ η => .inl () = o75 ∧ σ = [(3, .optr 0 0 0 0), (4, .optr 1 0 0 0), (8, .optr 2 0 0 0), (12, .optr 3 0 0 0)] ∧ η = [.row 0 5 1 40 (fun _ => [.int .i64 y2, .int .i64 y3, .str s4, .int .i64 y5, sl 8 TEntry.cells l6]), .row 0 3 1 44 (fun _ => [.bool b7, .int .i64 y8, .str s9]), .row 0 5 1 40 (fun _ => [.int .i64 v51.fKind, .int .i64 v51.fNum, .str v51.fStr, .int .i64 v51.fNext, sl 8 TEntry.cells v51.fItems]), .row 0 5 1 40 (fun _ => [.int .i64 v66.fKind, .int .i64 v66.fNum, .str v66.fStr, .int .i64 v66.fNext, sl 8 TEntry.cells v66.fItems])]) ?_ ?_
            · refine .direct ?_
              refine splitB.mk (fun hb78 => ?_) (fun hb78 => ?_)
              · have hb91 := not_F hb78
                replace h := F_var hb91 h
                refine splitB_t ?_
                refine splitB_t ?_
                refine splitB_t ?_
                refine splitB_t ?_
                refine splitB_t ?_
                refine splitB_t ?_
                refine splitB_t ?_
                refine splitB_t ?_
                refine splitB_t ?_
                refine splitB_t ?_
                refine splitB_t ?_
                refine splitB_t ?_
                refine splitB_t ?_
                refine splitB_t ?_
                refine splitB_t ?_
                refine splitB_t ?_
                refine splitB_t ?_
                refine splitB_t ?_
                refine splitB_t ?_
                refine splitB_t ?_
                refine splitB_t ?_
                refine splitB_t ?_
                refine splitB_t ?_
                refine splitB_t ?_
                refine splitB_t ?_
                refine splitB_t ?_
                refine splitB_t ?_
                refine splitB_t ?_
                refine splitB_t ?_
                refine .direct ?_
                obtain rfl := Option.some.inj h
                replace h := hk77
                obtain rfl := Option.some.inj h
                exact ⟨[], .bool false, [], by decide, (show 0 ≤ 0 by decide), .bool_eq rfl, trivial, rfl, rfl⟩
              · have hb91 := not_T hb78
                replace h := T_var hb91 h
                refine splitB_f ?_
                refine splitB_f ?_
                refine splitB.mk (fun hb79 => ?_) (fun hb79 => ?_)
                · have hb90 := not_F hb79
                  replace h := F_var hb90 h
                  refine splitB_t ?_
                  refine splitB_t ?_
                  refine splitB_t ?_
                  refine splitB_t ?_
                  refine splitB_t ?_
                  refine splitB_t ?_
                  refine splitB_t ?_
                  refine splitB_t ?_
                  refine splitB_t ?_
                  refine splitB_t ?_
                  refine splitB_t ?_
                  refine splitB_t ?_
                  refine splitB_t ?_
                  refine splitB_t ?_
                  refine splitB_t ?_
                  refine splitB_t ?_
                  refine splitB_t ?_
                  refine splitB_t ?_
                  refine splitB_t ?_
                  refine splitB_t ?_
                  refine splitB_t ?_
                  refine splitB_t ?_
                  refine splitB_t ?_
                  refine splitB_t ?_
                  refine splitB_t ?_
                  refine splitB_t ?_
                  refine .direct ?_
                  obtain rfl := Option.some.inj h
                  replace h := hk77
                  obtain rfl := Option.some.inj h
                  exact ⟨[], .bool false, [], by decide, (show 0 ≤ 0 by decide), .bool_eq rfl, trivial, rfl, rfl⟩
                · have hb90 := not_T hb79
                  replace h := T_var hb90 h
                  refine ⟨rfl, _, rfl, ?_⟩
                  refine splitB_f ?_
                  refine ⟨rfl, _, rfl, ?_⟩
                  refine splitB_f ?_
                  obtain ⟨v80, hv81, h⟩ := bind_some h
                  refine ⟨_, ACall.pure0 (ok19 hv81) _ rfl (fun _ => rfl), ?_⟩
                  rintro _ _ ⟨rfl, rfl⟩
                  refine splitB_f ?_
                  refine splitB_f ?_
                  refine splitB.mk (fun hb82 => ?_) (fun hb82 => ?_)
                  · have hb89 := not_F hb82
                    replace h := F_var hb89 h
                    refine splitB_t ?_
                    refine splitB_t ?_
                    refine splitB_t ?_
                    refine splitB_t ?_
                    refine splitB_t ?_
                    refine splitB_t ?_
                    refine splitB_t ?_
                    refine splitB_t ?_
                    refine splitB_t ?_
                    refine splitB_t ?_
                    refine splitB_t ?_
                    refine splitB_t ?_
                    refine splitB_t ?_
                    refine splitB_t ?_
                    refine splitB_t ?_
                    refine splitB_t ?_
                    refine splitB_t ?_
                    refine splitB_t ?_
                    refine splitB_t ?_
                    refine splitB_t ?_
                    refine splitB_t ?_
                    refine .direct ?_
                    obtain rfl := Option.some.inj h
                    replace h := hk77
                    obtain rfl := Option.some.inj h
                    exact ⟨[], .bool false, [], by decide, (show 0 ≤ 0 by decide), .bool_eq rfl, trivial, rfl, rfl⟩
                  · have hb89 := not_T hb82
                    replace h := T_var hb89 h
                    refine splitB_f ?_
                    refine splitB.mk (fun hb83 => ?_) (fun hb83 => ?_)
                    · replace h := T_var hb83 h
                      refine splitB_t ?_
                      refine splitB_t ?_
                      refine splitB_t ?_
                      refine splitB_t ?_
                      refine splitB_t ?_
                      refine splitB_t ?_
                      refine splitB_t ?_
                      refine splitB_t ?_
                      refine splitB_t ?_
                      refine splitB_t ?_
                      refine splitB_t ?_
                      refine splitB_t ?_
                      refine splitB_t ?_
                      refine splitB_t ?_
                      refine splitB_t ?_
                      refine splitB_t ?_
                      refine splitB_t ?_
                      refine splitB_t ?_
                      refine splitB_t ?_
                      refine .direct ?_
                      obtain rfl := Option.some.inj h
                      replace h := hk77
                      obtain rfl := Option.some.inj h
                      exact ⟨[], .bool false, [], by decide, (show 0 ≤ 0 by decide), .bool_eq rfl, trivial, rfl, rfl⟩
                    · replace h := F_var hb83 h
                      refine ⟨rfl, _, rfl, ?_⟩
                      refine splitB_f ?_
                      refine ⟨rfl, ?_⟩
                      refine splitB_f ?_
                      refine ⟨rfl, _, rfl, ?_⟩
                      refine splitB_f ?_
                      refine splitB_f ?_
                      obtain ⟨v84, hv85, h⟩ := bind_some h
                      refine ⟨_, ACall.pure0 (ok27 hv85) _ rfl (fun _ => rfl), ?_⟩
                      rintro _ _ ⟨rfl, rfl⟩
                      refine splitB_f ?_
                      refine splitB_f ?_
                      refine splitB.mk (fun hb86 => ?_) (fun hb86 => ?_)
                      · replace h := T_dec hb86 h
                        refine splitB_t ?_
                        refine splitB_t ?_
                        refine splitB_t ?_
                        refine splitB_t ?_
                        refine splitB_t ?_
                        refine splitB_t ?_
                        refine splitB_t ?_
                        refine splitB_t ?_
                        refine splitB_t ?_
                        refine splitB_t ?_
                        refine splitB_t ?_
                        refine splitB_t ?_
                        refine .direct ?_
                        obtain rfl := Option.some.inj h
                        replace h := hk77
                        obtain rfl := Option.some.inj h
                        exact ⟨[], .bool false, [], by decide, (show 0 ≤ 0 by decide), .bool_eq rfl, trivial, rfl, rfl⟩
                      · replace h := F_dec hb86 h
                        refine ⟨rfl, ?_⟩
                        refine splitB_f ?_
                        refine ⟨rfl, _, rfl, ?_⟩
                        refine splitB_f ?_
                        refine ⟨rfl, ?_⟩
                        refine splitB_f ?_
                        refine ⟨rfl, _, rfl, ?_⟩
                        refine splitB_f ?_
                        refine splitB_f ?_
                        refine splitB.mk (fun hb87 => ?_) (fun hb87 => ?_)
                        · replace h := T_bne hb87 h
                          refine splitB_t ?_
                          refine splitB_t ?_
                          refine splitB_t ?_
                          refine splitB_t ?_
                          refine splitB_t ?_
                          refine splitB_t ?_
                          refine .direct ?_
                          obtain rfl := Option.some.inj h
                          replace h := hk77
                          obtain rfl := Option.some.inj h
                          exact ⟨[], .bool false, [], by decide, (show 0 ≤ 0 by decide), .bool_eq rfl, trivial, rfl, rfl⟩
                        · replace h := F_bne hb87 h
                          refine ⟨rfl, ?_⟩
                          refine splitB_f ?_
                          refine ⟨rfl, _, rfl, ?_⟩
                          refine splitB_f ?_
                          refine ⟨rfl, ?_⟩
                          refine splitB_f ?_
                          refine ⟨rfl, _, rfl, ?_⟩
                          refine splitB_f ?_
                          refine splitB_f ?_
                          refine splitB.mk (fun hb88 => ?_) (fun hb88 => ?_)
                          · replace h := T_dec hb88 h
                            refine .direct ?_
                            obtain rfl := Option.some.inj h
                            replace h := hk77
                            obtain rfl := Option.some.inj h
                            exact ⟨[], .bool false, [], by decide, (show 0 ≤ 0 by decide), .bool_eq rfl, trivial, rfl, rfl⟩
                          · replace h := F_dec hb88 h
                            exact ⟨[(3, .optr 0 0 0 0), (4, .optr 1 0 0 0), (8, .optr 2 0 0 0), (12, .optr 3 0 0 0)], [.row 0 5 1 40 (fun _ => [.int .i64 y2, .int .i64 y3, .str s4, .int .i64 y5, sl 8 TEntry.cells l6]), .row 0 3 1 44 (fun _ => [.bool b7, .int .i64 y8, .str s9]), .row 0 5 1 40 (fun _ => [.int .i64 v51.fKind, .int .i64 v51.fNum, .str v51.fStr, .int .i64 v51.fNext, sl 8 TEntry.cells v51.fItems]), .row 0 5 1 40 (fun _ => [.int .i64 v66.fKind, .int .i64 v66.fNum, .str v66.fStr, .int .i64 v66.fNext, sl 8 TEntry.cells v66.fItems])], ⟨[0, 1, 3, 5], by decide, (show 0 ≤ 4 by decide), ⟨.optr_eq rfl ⟨_, _, _, _, rfl⟩ ⟨_, _, _, _, rfl⟩ rfl rfl, .optr_eq rfl ⟨_, _, _, _, rfl⟩ ⟨_, _, _, _, rfl⟩ rfl rfl, .optr_eq rfl ⟨_, _, _, _, rfl⟩ ⟨_, _, _, _, rfl⟩ rfl rfl, .optr_eq rfl ⟨_, _, _, _, rfl⟩ ⟨_, _, _, _, rfl⟩ rfl rfl, trivial⟩, ⟨⟨fun h0 => absurd (show 0 < 0 from h0) (by decide), rfl, rfl, rfl, fun _ _ => ⟨.int_eq rfl, .int_eq rfl, .str_eq rfl, .int_eq rfl, .slc_eq rfl (fun _ _ => rfl), trivial⟩⟩, ⟨fun h0 => absurd (show 1 < 0 from h0) (by decide), rfl, rfl, rfl, fun _ _ => ⟨.bool_eq rfl, .int_eq rfl, .str_eq rfl, trivial⟩⟩, ⟨fun h0 => absurd (show 2 < 0 from h0) (by decide), rfl, rfl, rfl, fun _ _ => ⟨.int_eq rfl, .int_eq rfl, .str_eq rfl, .int_eq rfl, .slc_eq rfl (fun _ _ => rfl), trivial⟩⟩, ⟨fun h0 => absurd (show 3 < 0 from h0) (by decide), rfl, rfl, rfl, fun _ _ => ⟨.int_eq rfl, .int_eq rfl, .str_eq rfl, .int_eq rfl, .slc_eq rfl (fun _ _ => rfl), trivial⟩⟩, trivial⟩⟩, Option.some.inj h, rfl, rfl⟩
            · rintro _ _ ⟨rfl, rfl, rfl⟩
              replace h := hk77
              refine .direct ?_
              obtain ⟨o92, ho93, hk94⟩ := bind_some h
              replace h := ho93
              refine .cut (fun σ η => .inl () = o92 ∧ σ = [(8, .optr 0 0 0 0), (12, .optr 1 0 0 0)] ∧ η = [.row 0 5 1 40 (fun _ => [.int .i64 v51.fKind, .int .i64 v51.fNum, .str v51.fStr, .int .i64 v51.fNext, sl 8 TEntry.cells v51.fItems]), .row 0 5 1 40 (fun _ => [.int .i64 v66.fKind, .int .i64 v66.fNum, .str v66.fStr, .int .i64 v66.fNext, sl 8 TEntry.cells v66.fItems])]) ?_ ?_
              · refine .direct ?_
                refine LoopAt.enter [(3, .optr 0 0 0 0), (4, .optr 1 0 0 0), (8, .optr 2 0 0 0), (12, .optr 3 0 0 0), (15, .int .i64 0), (16, .int .i64 0)] [.row 0 5 1 40 (fun _ => [.int .i64 y2, .int .i64 y3, .str s4, .int .i64 y5, sl 8 TEntry.cells l6]), .row 0 3 1 44 (fun _ => [.bool b7, .int .i64 y8, .str s9]), .row 0 5 1 40 (fun _ => [.int .i64 v51.fKind, .int .i64 v51.fNum, .str v51.fStr, .int .i64 v51.fNext, sl 8 TEntry.cells v51.fItems]), .row 0 5 1 40 (fun _ => [.int .i64 v66.fKind, .int .i64 v66.fNum, .str v66.fStr, .int .i64 v66.fNext, sl 8 TEntry.cells v66.fItems])] ⟨[0, 1, 2, 3], by decide, (show 0 ≤ 4 by decide), ⟨.optr_eq rfl ⟨_, _, _, _, rfl⟩ ⟨_, _, _, _, rfl⟩ rfl rfl, .optr_eq rfl ⟨_, _, _, _, rfl⟩ ⟨_, _, _, _, rfl⟩ rfl rfl, .optr_eq rfl ⟨_, _, _, _, rfl⟩ ⟨_, _, _, _, rfl⟩ rfl rfl, .optr_eq rfl ⟨_, _, _, _, rfl⟩ ⟨_, _, _, _, rfl⟩ rfl rfl, .int_eq rfl, .int_eq rfl, trivial⟩, ⟨⟨fun h0 => absurd (show 0 < 0 from h0) (by decide), rfl, rfl, rfl, fun _ _ => ⟨.int_eq rfl, .int_eq rfl, .str_eq rfl, .int_eq rfl, .slc_eq rfl (fun _ _ => rfl), trivial⟩⟩, ⟨fun h0 => absurd (show 1 < 0 from h0) (by decide), rfl, rfl, rfl, fun _ _ => ⟨.bool_eq rfl, .int_eq rfl, .str_eq rfl, trivial⟩⟩, ⟨fun h0 => absurd (show 2 < 0 from h0) (by decide), rfl, rfl, rfl, fun _ _ => ⟨.int_eq rfl, .int_eq rfl, .str_eq rfl, .int_eq rfl, .slc_eq rfl (fun _ _ => rfl), trivial⟩⟩, ⟨fun h0 => absurd (show 3 < 0 from h0) (by decide), rfl, rfl, rfl, fun _ _ => ⟨.int_eq rfl, .int_eq rfl, .str_eq rfl, .int_eq rfl, .slc_eq rfl (fun _ _ => rfl), trivial⟩⟩, trivial⟩⟩ ?_
                refine m6_L14.partial_correctness b7 l6 s9 v51 y8 (motive := fun y95 y96 o138 => o92 = o138 → LoopAt _ _ [(3, .optr 0 0 0 0), (4, .optr 1 0 0 0), (8, .optr 2 0 0 0), (12, .optr 3 0 0 0), (15, .int .i64 y95), (16, .int .i64 y96)] [.row 0 5 1 40 (fun _ => [.int .i64 y2, .int .i64 y3, .str s4, .int .i64 y5, sl 8 TEntry.cells l6]), .row 0 3 1 44 (fun _ => [.bool b7, .int .i64 y8, .str s9]), .row 0 5 1 40 (fun _ => [.int .i64 v51.fKind, .int .i64 v51.fNum, .str v51.fStr, .int .i64 v51.fNext, sl 8 TEntry.cells v51.fItems]), .row 0 5 1 40 (fun _ => [.int .i64 v66.fKind, .int .i64 v66.fNum, .str v66.fStr, .int .i64 v66.fNext, sl 8 TEntry.cells v66.fItems])]) ?_ 0 0 o92 h rfl
                intro F98 ih97 y95 y96 o138 h hr139
                subst hr139
                refine LoopAt.round ?_
                refine .direct ?_
                refine .direct ?_
                refine ⟨rfl, ?_⟩
                refine ⟨rfl, _, rfl, ?_⟩
                refine splitB.mk (fun hb99 => ?_) (fun hb99 => ?_)
                · replace h := T_dec hb99 h
                  obtain ⟨o101, ho102, hk103⟩ := bind_some h
                  replace h := ho102
                  refine .cut (fun σ η => ∃ y100, .inl y100 = o101 ∧ σ = [(3, .optr 0 0 0 0), (4, .optr 1 0 0 0), (8, .optr 2 0 0 0), (12, .optr 3 0 0 0), (15, .int .i64 y100), (16, .int .i64 y96)] ∧ η = [.row 0 5 1 40 (fun _ => [.int .i64 y2, .int .i64 y3, .str s4, .int .i64 y5, sl 8 TEntry.cells l6]), .row 0 3 1 44 (fun _ => [.bool b7, .int .i64 y8, .str s9]), .row 0 5 1 40 (fun _ => [.int .i64 v51.fKind, .int .i64 v51.fNum, .str v51.fStr, .int .i64 v51.fNext, sl 8 TEntry.cells v51.fItems]), .row 0 5 1 40 (fun _ => [.int .i64 v66.fKind, .int .i64 v66.fNum, .str v66.fStr, .int .i64 v66.fNext, sl 8 TEntry.cells v66.fItems])]) ?_ ?_
                  · obtain ⟨o104, ho105, hk106⟩ := bind_some h
                    replace h := ho105
                    refine .cut (fun σ η => .inl () = o104 ∧ σ = [(3, .optr 0 0 0 0), (4, .optr 1 0 0 0), (8, .optr 2 0 0 0), (12, .optr 3 0 0 0), (15, .int .i64 y95), (16, .int .i64 y96)] ∧ η = [.row 0 5 1 40 (fun _ => [.int .i64 y2, .int .i64 y3, .str s4, .int .i64 y5, sl 8 TEntry.cells l6]), .row 0 3 1 44 (fun _ => [.bool b7, .int .i64 y8, .str s9]), .row 0 5 1 40 (fun _ => [.int .i64 v51.fKind, .int .i64 v51.fNum, .str v51.fStr, .int .i64 v51.fNext, sl 8 TEntry.cells v51.fItems]), .row 0 5 1 40 (fun _ => [.int .i64 v66.fKind, .int .i64 v66.fNum, .str v66.fStr, .int .i64 v66.fNext, sl 8 TEntry.cells v66.fItems])]) ?_ ?_
                    · refine .direct ?_
                      refine ⟨rfl, ?_⟩
                      refine ⟨rfl, _, rfl, ?_⟩
                      obtain ⟨x107, hx108, h⟩ := bind_some h
                      refine ⟨idx_bd hx108, _, (idx_row hx108).trans (TEntry.cells_eq x107), ?_⟩
                      refine ⟨rfl, _, rfl, ?_⟩
                      refine ⟨_, TKey.eq_cells x107.fKey (TKey.mk b7 y8 s9), ?_⟩
                      refine splitB.mk (fun hb109 => ?_) (fun hb109 => ?_)
                      · replace h := T_dec hb109 h
                        obtain rfl := Option.some.inj h
                        replace h := hk106
                        exact ⟨[(3, .optr 0 0 0 0), (4, .optr 1 0 0 0), (8, .optr 2 0 0 0), (12, .optr 3 0 0 0), (15, .int .i64 y95), (16, .int .i64 y96)], [.row 0 5 1 40 (fun _ => [.int .i64 y2, .int .i64 y3, .str s4, .int .i64 y5, sl 8 TEntry.cells l6]), .row 0 3 1 44 (fun _ => [.bool b7, .int .i64 y8, .str s9]), .row 0 5 1 40 (fun _ => [.int .i64 v51.fKind, .int .i64 v51.fNum, .str v51.fStr, .int .i64 v51.fNext, sl 8 TEntry.cells v51.fItems]), .row 0 5 1 40 (fun _ => [.int .i64 v66.fKind, .int .i64 v66.fNum, .str v66.fStr, .int .i64 v66.fNext, sl 8 TEntry.cells v66.fItems])], ⟨[0, 1, 2, 3], by decide, (show 0 ≤ 4 by decide), ⟨.optr_eq rfl ⟨_, _, _, _, rfl⟩ ⟨_, _, _, _, rfl⟩ rfl rfl, .optr_eq rfl ⟨_, _, _, _, rfl⟩ ⟨_, _, _, _, rfl⟩ rfl rfl, .optr_eq rfl ⟨_, _, _, _, rfl⟩ ⟨_, _, _, _, rfl⟩ rfl rfl, .optr_eq rfl ⟨_, _, _, _, rfl⟩ ⟨_, _, _, _, rfl⟩ rfl rfl, .int_eq rfl, .int_eq rfl, trivial⟩, ⟨⟨fun h0 => absurd (show 0 < 0 from h0) (by decide), rfl, rfl, rfl, fun _ _ => ⟨.int_eq rfl, .int_eq rfl, .str_eq rfl, .int_eq rfl, .slc_eq rfl (fun _ _ => rfl), trivial⟩⟩, ⟨fun h0 => absurd (show 1 < 0 from h0) (by decide), rfl, rfl, rfl, fun _ _ => ⟨.bool_eq rfl, .int_eq rfl, .str_eq rfl, trivial⟩⟩, ⟨fun h0 => absurd (show 2 < 0 from h0) (by decide), rfl, rfl, rfl, fun _ _ => ⟨.int_eq rfl, .int_eq rfl, .str_eq rfl, .int_eq rfl, .slc_eq rfl (fun _ _ => rfl), trivial⟩⟩, ⟨fun h0 => absurd (show 3 < 0 from h0) (by decide), rfl, rfl, rfl, fun _ _ => ⟨.int_eq rfl, .int_eq rfl, .str_eq rfl, .int_eq rfl, .slc_eq rfl (fun _ _ => rfl), trivial⟩⟩, trivial⟩⟩, y95, Option.some.inj h, rfl, rfl⟩
                      · replace h := F_dec hb109 h
                        exact ⟨[(3, .optr 0 0 0 0), (4, .optr 1 0 0 0), (8, .optr 2 0 0 0), (12, .optr 3 0 0 0), (15, .int .i64 y95), (16, .int .i64 y96)], [.row 0 5 1 40 (fun _ => [.int .i64 y2, .int .i64 y3, .str s4, .int .i64 y5, sl 8 TEntry.cells l6]), .row 0 3 1 44 (fun _ => [.bool b7, .int .i64 y8, .str s9]), .row 0 5 1 40 (fun _ => [.int .i64 v51.fKind, .int .i64 v51.fNum, .str v51.fStr, .int .i64 v51.fNext, sl 8 TEntry.cells v51.fItems]), .row 0 5 1 40 (fun _ => [.int .i64 v66.fKind, .int .i64 v66.fNum, .str v66.fStr, .int .i64 v66.fNext, sl 8 TEntry.cells v66.fItems])], ⟨[0, 1, 2, 3], by decide, (show 0 ≤ 4 by decide), ⟨.optr_eq rfl ⟨_, _, _, _, rfl⟩ ⟨_, _, _, _, rfl⟩ rfl rfl, .optr_eq rfl ⟨_, _, _, _, rfl⟩ ⟨_, _, _, _, rfl⟩ rfl rfl, .optr_eq rfl ⟨_, _, _, _, rfl⟩ ⟨_, _, _, _, rfl⟩ rfl rfl, .optr_eq rfl ⟨_, _, _, _, rfl⟩ ⟨_, _, _, _, rfl⟩ rfl rfl, .int_eq rfl, .int_eq rfl, trivial⟩, ⟨⟨fun h0 => absurd (show 0 < 0 from h0) (by decide), rfl, rfl, rfl, fun _ _ => ⟨.int_eq rfl, .int_eq rfl, .str_eq rfl, .int_eq rfl, .slc_eq rfl (fun _ _ => rfl), trivial⟩⟩, ⟨fun h0 => absurd (show 1 < 0 from h0) (by decide), rfl, rfl, rfl, fun _ _ => ⟨.bool_eq rfl, .int_eq rfl, .str_eq rfl, trivial⟩⟩, ⟨fun h0 => absurd (show 2 < 0 from h0) (by decide), rfl, rfl, rfl, fun _ _ => ⟨.int_eq rfl, .int_eq rfl, .str_eq rfl, .int_eq rfl, .slc_eq rfl (fun _ _ => rfl), trivial⟩⟩, ⟨fun h0 => absurd (show 3 < 0 from h0) (by decide), rfl, rfl, rfl, fun _ _ => ⟨.int_eq rfl, .int_eq rfl, .str_eq rfl, .int_eq rfl, .slc_eq rfl (fun _ _ => rfl), trivial⟩⟩, trivial⟩⟩, Option.some.inj h, rfl, rfl⟩
                    · rintro _ _ ⟨rfl, rfl, rfl⟩
                      replace h := hk106
                      obtain ⟨o111, ho112, hk113⟩ := bind_some h
                      replace h := ho112
                      refine .cut (fun σ η => ∃ y110, y110 = o111 ∧ σ = [(3, .optr 0 0 0 0), (4, .optr 1 0 0 0), (8, .optr 2 0 0 0), (12, .optr 3 0 0 0), (15, .int .i64 y110), (16, .int .i64 y96)] ∧ η = [.row 0 5 1 40 (fun _ => [.int .i64 y2, .int .i64 y3, .str s4, .int .i64 y5, sl 8 TEntry.cells l6]), .row 0 3 1 44 (fun _ => [.bool b7, .int .i64 y8, .str s9]), .row 0 5 1 40 (fun _ => [.int .i64 v51.fKind, .int .i64 v51.fNum, .str v51.fStr, .int .i64 v51.fNext, sl 8 TEntry.cells v51.fItems]), .row 0 5 1 40 (fun _ => [.int .i64 v66.fKind, .int .i64 v66.fNum, .str v66.fStr, .int .i64 v66.fNext, sl 8 TEntry.cells v66.fItems])]) ?_ ?_
                      · refine LoopAt.enter [(3, .optr 0 0 0 0), (4, .optr 1 0 0 0), (8, .optr 2 0 0 0), (12, .optr 3 0 0 0), (15, .int .i64 y95), (16, .int .i64 y96)] [.row 0 5 1 40 (fun _ => [.int .i64 y2, .int .i64 y3, .str s4, .int .i64 y5, sl 8 TEntry.cells l6]), .row 0 3 1 44 (fun _ => [.bool b7, .int .i64 y8, .str s9]), .row 0 5 1 40 (fun _ => [.int .i64 v51.fKind, .int .i64 v51.fNum, .str v51.fStr, .int .i64 v51.fNext, sl 8 TEntry.cells v51.fItems]), .row 0 5 1 40 (fun _ => [.int .i64 v66.fKind, .int .i64 v66.fNum, .str v66.fStr, .int .i64 v66.fNext, sl 8 TEntry.cells v66.fItems])] ⟨[0, 1, 2, 3], by decide, (show 0 ≤ 4 by decide), ⟨.optr_eq rfl ⟨_, _, _, _, rfl⟩ ⟨_, _, _, _, rfl⟩ rfl rfl, .optr_eq rfl ⟨_, _, _, _, rfl⟩ ⟨_, _, _, _, rfl⟩ rfl rfl, .optr_eq rfl ⟨_, _, _, _, rfl⟩ ⟨_, _, _, _, rfl⟩ rfl rfl, .optr_eq rfl ⟨_, _, _, _, rfl⟩ ⟨_, _, _, _, rfl⟩ rfl rfl, .int_eq rfl, .int_eq rfl, trivial⟩, ⟨⟨fun h0 => absurd (show 0 < 0 from h0) (by decide), rfl, rfl, rfl, fun _ _ => ⟨.int_eq rfl, .int_eq rfl, .str_eq rfl, .int_eq rfl, .slc_eq rfl (fun _ _ => rfl), trivial⟩⟩, ⟨fun h0 => absurd (show 1 < 0 from h0) (by decide), rfl, rfl, rfl, fun _ _ => ⟨.bool_eq rfl, .int_eq rfl, .str_eq rfl, trivial⟩⟩, ⟨fun h0 => absurd (show 2 < 0 from h0) (by decide), rfl, rfl, rfl, fun _ _ => ⟨.int_eq rfl, .int_eq rfl, .str_eq rfl, .int_eq rfl, .slc_eq rfl (fun _ _ => rfl), trivial⟩⟩, ⟨fun h0 => absurd (show 3 < 0 from h0) (by decide), rfl, rfl, rfl, fun _ _ => ⟨.int_eq rfl, .int_eq rfl, .str_eq rfl, .int_eq rfl, .slc_eq rfl (fun _ _ => rfl), trivial⟩⟩, trivial⟩⟩ ?_
                        refine m6_L18.partial_correctness b7 l6 s9 y8 (motive := fun y114 o121 => o111 = o121 → LoopAt _ _ [(3, .optr 0 0 0 0), (4, .optr 1 0 0 0), (8, .optr 2 0 0 0), (12, .optr 3 0 0 0), (15, .int .i64 y114), (16, .int .i64 y96)] [.row 0 5 1 40 (fun _ => [.int .i64 y2, .int .i64 y3, .str s4, .int .i64 y5, sl 8 TEntry.cells l6]), .row 0 3 1 44 (fun _ => [.bool b7, .int .i64 y8, .str s9]), .row 0 5 1 40 (fun _ => [.int .i64 v51.fKind, .int .i64 v51.fNum, .str v51.fStr, .int .i64 v51.fNext, sl 8 TEntry.cells v51.fItems]), .row 0 5 1 40 (fun _ => [.int .i64 v66.fKind, .int .i64 v66.fNum, .str v66.fStr, .int .i64 v66.fNext, sl 8 TEntry.cells v66.fItems])]) ?_ y95 o111 h rfl
                        intro F116 ih115 y114 o121 h hr122
                        subst hr122
                        refine LoopAt.round ?_
                        refine .direct ?_
                        refine .direct ?_
                        refine ⟨rfl, ?_⟩
                        refine ⟨rfl, _, rfl, ?_⟩
                        refine splitB.mk (fun hb117 => ?_) (fun hb117 => ?_)
                        · replace h := T_dec hb117 h
                          refine ⟨rfl, ?_⟩
                          refine splitB_t ?_
                          refine ⟨rfl, _, rfl, ?_⟩
                          refine splitB_t ?_
                          refine splitB_t ?_
                          obtain ⟨x118, hx119, h⟩ := bind_some h
                          refine ⟨idx_bd hx119, _, (idx_row hx119).trans (TEntry.cells_eq x118), ?_⟩
                          refine splitB_t ?_
                          refine splitB_t ?_
                          refine splitB_t ?_
                          refine ⟨rfl, _, rfl, ?_⟩
                          refine splitB_t ?_
                          refine ⟨_, TKey.eq_cells x118.fKey (TKey.mk b7 y8 s9), ?_⟩
                          refine splitB_t ?_
                          refine splitB.mk (fun hb120 => ?_) (fun hb120 => ?_)
                          · replace h := T_dec hb120 h
                            exact ⟨[(3, .optr 0 0 0 0), (4, .optr 1 0 0 0), (8, .optr 2 0 0 0), (12, .optr 3 0 0 0), (15, .int .i64 (W64 (y114 + 1))), (16, .int .i64 y96)], [.row 0 5 1 40 (fun _ => [.int .i64 y2, .int .i64 y3, .str s4, .int .i64 y5, sl 8 TEntry.cells l6]), .row 0 3 1 44 (fun _ => [.bool b7, .int .i64 y8, .str s9]), .row 0 5 1 40 (fun _ => [.int .i64 v51.fKind, .int .i64 v51.fNum, .str v51.fStr, .int .i64 v51.fNext, sl 8 TEntry.cells v51.fItems]), .row 0 5 1 40 (fun _ => [.int .i64 v66.fKind, .int .i64 v66.fNum, .str v66.fStr, .int .i64 v66.fNext, sl 8 TEntry.cells v66.fItems])], ⟨[0, 1, 2, 3], by decide, (show 0 ≤ 4 by decide), ⟨.optr_eq rfl ⟨_, _, _, _, rfl⟩ ⟨_, _, _, _, rfl⟩ rfl rfl, .optr_eq rfl ⟨_, _, _, _, rfl⟩ ⟨_, _, _, _, rfl⟩ rfl rfl, .optr_eq rfl ⟨_, _, _, _, rfl⟩ ⟨_, _, _, _, rfl⟩ rfl rfl, .optr_eq rfl ⟨_, _, _, _, rfl⟩ ⟨_, _, _, _, rfl⟩ rfl rfl, .int_eq rfl, .int_eq rfl, trivial⟩, ⟨⟨fun h0 => absurd (show 0 < 0 from h0) (by decide), rfl, rfl, rfl, fun _ _ => ⟨.int_eq rfl, .int_eq rfl, .str_eq rfl, .int_eq rfl, .slc_eq rfl (fun _ _ => rfl), trivial⟩⟩, ⟨fun h0 => absurd (show 1 < 0 from h0) (by decide), rfl, rfl, rfl, fun _ _ => ⟨.bool_eq rfl, .int_eq rfl, .str_eq rfl, trivial⟩⟩, ⟨fun h0 => absurd (show 2 < 0 from h0) (by decide), rfl, rfl, rfl, fun _ _ => ⟨.int_eq rfl, .int_eq rfl, .str_eq rfl, .int_eq rfl, .slc_eq rfl (fun _ _ => rfl), trivial⟩⟩, ⟨fun h0 => absurd (show 3 < 0 from h0) (by decide), rfl, rfl, rfl, fun _ _ => ⟨.int_eq rfl, .int_eq rfl, .str_eq rfl, .int_eq rfl, .slc_eq rfl (fun _ _ => rfl), trivial⟩⟩, trivial⟩⟩, ih115 _ _ h rfl⟩
                          · replace h := F_dec hb120 h
                            exact ⟨[(3, .optr 0 0 0 0), (4, .optr 1 0 0 0), (8, .optr 2 0 0 0), (12, .optr 3 0 0 0), (15, .int .i64 y114), (16, .int .i64 y96)], [.row 0 5 1 40 (fun _ => [.int .i64 y2, .int .i64 y3, .str s4, .int .i64 y5, sl 8 TEntry.cells l6]), .row 0 3 1 44 (fun _ => [.bool b7, .int .i64 y8, .str s9]), .row 0 5 1 40 (fun _ => [.int .i64 v51.fKind, .int .i64 v51.fNum, .str v51.fStr, .int .i64 v51.fNext, sl 8 TEntry.cells v51.fItems]), .row 0 5 1 40 (fun _ => [.int .i64 v66.fKind, .int .i64 v66.fNum, .str v66.fStr, .int .i64 v66.fNext, sl 8 TEntry.cells v66.fItems])], ⟨[0, 1, 2, 3], by decide, (show 0 ≤ 4 by decide), ⟨.optr_eq rfl ⟨_, _, _, _, rfl⟩ ⟨_, _, _, _, rfl⟩ rfl rfl, .optr_eq rfl ⟨_, _, _, _, rfl⟩ ⟨_, _, _, _, rfl⟩ rfl rfl, .optr_eq rfl ⟨_, _, _, _, rfl⟩ ⟨_, _, _, _, rfl⟩ rfl rfl, .optr_eq rfl ⟨_, _, _, _, rfl⟩ ⟨_, _, _, _, rfl⟩ rfl rfl, .int_eq rfl, .int_eq rfl, trivial⟩, ⟨⟨fun h0 => absurd (show 0 < 0 from h0) (by decide), rfl, rfl, rfl, fun _ _ => ⟨.int_eq rfl, .int_eq rfl, .str_eq rfl, .int_eq rfl, .slc_eq rfl (fun _ _ => rfl), trivial⟩⟩, ⟨fun h0 => absurd (show 1 < 0 from h0) (by decide), rfl, rfl, rfl, fun _ _ => ⟨.bool_eq rfl, .int_eq rfl, .str_eq rfl, trivial⟩⟩, ⟨fun h0 => absurd (show 2 < 0 from h0) (by decide), rfl, rfl, rfl, fun _ _ => ⟨.int_eq rfl, .int_eq rfl, .str_eq rfl, .int_eq rfl, .slc_eq rfl (fun _ _ => rfl), trivial⟩⟩, ⟨fun h0 => absurd (show 3 < 0 from h0) (by decide), rfl, rfl, rfl, fun _ _ => ⟨.int_eq rfl, .int_eq rfl, .str_eq rfl, .int_eq rfl, .slc_eq rfl (fun _ _ => rfl), trivial⟩⟩, trivial⟩⟩, y114, Option.some.inj h, rfl, rfl⟩
                        · replace h := F_dec hb117 h
                          refine splitB_f ?_
                          refine splitB_f ?_
                          refine splitB_f ?_
                          refine splitB_f ?_
                          refine splitB_f ?_
                          refine splitB_f ?_
                          refine splitB_f ?_
                          refine splitB_f ?_
                          refine splitB_f ?_
                          exact ⟨[(3, .optr 0 0 0 0), (4, .optr 1 0 0 0), (8, .optr 2 0 0 0), (12, .optr 3 0 0 0), (15, .int .i64 y114), (16, .int .i64 y96)], [.row 0 5 1 40 (fun _ => [.int .i64 y2, .int .i64 y3, .str s4, .int .i64 y5, sl 8 TEntry.cells l6]), .row 0 3 1 44 (fun _ => [.bool b7, .int .i64 y8, .str s9]), .row 0 5 1 40 (fun _ => [.int .i64 v51.fKind, .int .i64 v51.fNum, .str v51.fStr, .int .i64 v51.fNext, sl 8 TEntry.cells v51.fItems]), .row 0 5 1 40 (fun _ => [.int .i64 v66.fKind, .int .i64 v66.fNum, .str v66.fStr, .int .i64 v66.fNext, sl 8 TEntry.cells v66.fItems])], ⟨[0, 1, 2, 3], by decide, (show 0 ≤ 4 by decide), ⟨.optr_eq rfl ⟨_, _, _, _, rfl⟩ ⟨_, _, _, _, rfl⟩ rfl rfl, .optr_eq rfl ⟨_, _, _, _, rfl⟩ ⟨_, _, _, _, rfl⟩ rfl rfl, .optr_eq rfl ⟨_, _, _, _, rfl⟩ ⟨_, _, _, _, rfl⟩ rfl rfl, .optr_eq rfl ⟨_, _, _, _, rfl⟩ ⟨_, _, _, _, rfl⟩ rfl rfl, .int_eq rfl, .int_eq rfl, trivial⟩, ⟨⟨fun h0 => absurd (show 0 < 0 from h0) (by decide), rfl, rfl, rfl, fun _ _ => ⟨.int_eq rfl, .int_eq rfl, .str_eq rfl, .int_eq rfl, .slc_eq rfl (fun _ _ => rfl), trivial⟩⟩, ⟨fun h0 => absurd (show 1 < 0 from h0) (by decide), rfl, rfl, rfl, fun _ _ => ⟨.bool_eq rfl, .int_eq rfl, .str_eq rfl, trivial⟩⟩, ⟨fun h0 => absurd (show 2 < 0 from h0) (by decide), rfl, rfl, rfl, fun _ _ => ⟨.int_eq rfl, .int_eq rfl, .str_eq rfl, .int_eq rfl, .slc_eq rfl (fun _ _ => rfl), trivial⟩⟩, ⟨fun h0 => absurd (show 3 < 0 from h0) (by decide), rfl, rfl, rfl, fun _ _ => ⟨.int_eq rfl, .int_eq rfl, .str_eq rfl, .int_eq rfl, .slc_eq rfl (fun _ _ => rfl), trivial⟩⟩, trivial⟩⟩, y114, Option.some.inj h, rfl, rfl⟩
                      · rintro _ _ ⟨y110, rfl, rfl, rfl⟩
                        replace h := hk113
                        refine .direct ?_
                        refine .direct ?_
                        refine .float [(0, true), (1, true), (2, true), (3, true), (4, true), (5, true), (6, true), (7, true), (8, true), (9, true), (10, true), (11, true), (12, true), (13, true), (14, true), (15, true), (16, true), (17, true), (18, true), (19, true), (20, true), (21, true), (22, true), (23, true), (24, true), (25, true), (26, true), (27, true), (28, true), (29, true), (30, true), (31, true), (32, true), (33, false), (34, true), (35, true)] (by kernel_rfl) ?_
                        refine ⟨rfl, ?_⟩
                        refine ⟨rfl, _, rfl, ?_⟩
                        refine splitB.mk (fun hb123 => ?_) (fun hb123 => ?_)
                        · replace h := T_dec hb123 h
                          refine splitB_t ?_
                          refine splitB_t ?_
                          refine splitB_t ?_
                          refine splitB_t ?_
                          refine splitB_t ?_
                          refine splitB_t ?_
                          refine splitB_t ?_
                          refine splitB_t ?_
                          refine splitB_t ?_
                          refine splitB_t ?_
                          refine splitB_t ?_
                          refine splitB_t ?_
                          refine splitB_t ?_
                          refine splitB_t ?_
                          refine splitB_t ?_
                          refine splitB_t ?_
                          refine splitB_t ?_
                          refine splitB_t ?_
                          refine splitB_t ?_
                          refine splitB_t ?_
                          refine splitB_t ?_
                          refine splitB_t ?_
                          refine splitB_t ?_
                          refine splitB_t ?_
                          refine splitB_t ?_
                          refine splitB_t ?_
                          refine splitB_t ?_
                          refine splitB_t ?_
                          refine splitB_t ?_
                          refine .direct ?_
                          obtain rfl := Option.some.inj h
                          replace h := hk103
                          obtain rfl := Option.some.inj h
                          replace h := hk94
                          obtain rfl := Option.some.inj h
                          exact ⟨[], .bool false, [], by decide, (show 0 ≤ 0 by decide), .bool_eq rfl, trivial, rfl, rfl⟩
                        · replace h := F_dec hb123 h
                          refine ⟨rfl, ?_⟩
                          refine splitB_f ?_
                          refine ⟨rfl, _, rfl, ?_⟩
                          refine splitB_f ?_
                          refine splitB_f ?_
                          obtain ⟨x124, hx125, h⟩ := bind_some h
                          refine ⟨idx_bd hx125, _, (idx_row hx125).trans (TEntry.cells_eq x124), ?_⟩
                          refine splitB_f ?_
                          refine splitB_f ?_
                          refine splitB_f ?_
                          refine ⟨rfl, ?_⟩
                          refine splitB_f ?_
                          refine ⟨rfl, _, rfl, ?_⟩
                          refine splitB_f ?_
                          refine splitB_f ?_
                          obtain ⟨x126, hx127, h⟩ := bind_some h
                          refine ⟨idx_bd hx127, _, (idx_row hx127).trans (TEntry.cells_eq x126), ?_⟩
                          refine splitB_f ?_
                          refine splitB_f ?_
                          refine splitB_f ?_
                          refine ⟨_, TKey.eq_cells x124.fKey x126.fKey, ?_⟩
                          refine splitB_f ?_
                          refine splitB.mk (fun hb128 => ?_) (fun hb128 => ?_)
                          · have hb137 := not_F hb128
                            replace h := F_dec hb137 h
                            refine splitB_t ?_
                            refine splitB_t ?_
                            refine splitB_t ?_
                            refine splitB_t ?_
                            refine splitB_t ?_
                            refine splitB_t ?_
                            refine splitB_t ?_
                            refine splitB_t ?_
                            refine splitB_t ?_
                            refine splitB_t ?_
                            refine splitB_t ?_
                            refine splitB_t ?_
                            refine splitB_t ?_
                            refine splitB_t ?_
                            refine splitB_t ?_
                            refine .direct ?_
                            obtain rfl := Option.some.inj h
                            replace h := hk103
                            obtain rfl := Option.some.inj h
                            replace h := hk94
                            obtain rfl := Option.some.inj h
                            exact ⟨[], .bool false, [], by decide, (show 0 ≤ 0 by decide), .bool_eq rfl, trivial, rfl, rfl⟩
                          · have hb137 := not_T hb128
                            replace h := T_dec hb137 h
                            refine ⟨rfl, ?_⟩
                            refine splitB_f ?_
                            refine ⟨rfl, _, rfl, ?_⟩
                            refine splitB_f ?_
                            refine splitB_f ?_
                            obtain ⟨x129, hx130, h⟩ := bind_some h
                            refine ⟨idx_bd hx130, _, (idx_row hx130).trans (TEntry.cells_eq x129), ?_⟩
                            refine splitB_f ?_
                            refine splitB_f ?_
                            refine splitB_f ?_
                            refine ⟨rfl, ?_⟩
                            refine splitB_f ?_
                            refine ⟨rfl, _, rfl, ?_⟩
                            refine splitB_f ?_
                            refine splitB_f ?_
                            obtain ⟨x131, hx132, h⟩ := bind_some h
                            refine ⟨idx_bd hx132, _, (idx_row hx132).trans (TEntry.cells_eq x131), ?_⟩
                            refine splitB_f ?_
                            refine splitB_f ?_
                            refine splitB_f ?_
                            obtain ⟨v133, hv134, h⟩ := bind_some h
                            refine ⟨_, ACall.pure0 (ok19 hv134) _ rfl (fun _ => rfl), ?_⟩
                            rintro _ _ ⟨rfl, rfl⟩
                            refine splitB_f ?_
                            refine splitB_f ?_
                            refine splitB.mk (fun hb135 => ?_) (fun hb135 => ?_)
                            · have hb136 := not_F hb135
                              replace h := F_var hb136 h
                              refine .direct ?_
                              obtain rfl := Option.some.inj h
                              replace h := hk103
                              obtain rfl := Option.some.inj h
                              replace h := hk94
                              obtain rfl := Option.some.inj h
                              exact ⟨[], .bool false, [], by decide, (show 0 ≤ 0 by decide), .bool_eq rfl, trivial, rfl, rfl⟩
                            · have hb136 := not_T hb135
                              replace h := T_var hb136 h
                              exact ⟨[(3, .optr 0 0 0 0), (4, .optr 1 0 0 0), (8, .optr 2 0 0 0), (12, .optr 3 0 0 0), (15, .int .i64 (W64 (y110 + 1))), (16, .int .i64 y96)], [.row 0 5 1 40 (fun _ => [.int .i64 y2, .int .i64 y3, .str s4, .int .i64 y5, sl 8 TEntry.cells l6]), .row 0 3 1 44 (fun _ => [.bool b7, .int .i64 y8, .str s9]), .row 0 5 1 40 (fun _ => [.int .i64 v51.fKind, .int .i64 v51.fNum, .str v51.fStr, .int .i64 v51.fNext, sl 8 TEntry.cells v51.fItems]), .row 0 5 1 40 (fun _ => [.int .i64 v66.fKind, .int .i64 v66.fNum, .str v66.fStr, .int .i64 v66.fNext, sl 8 TEntry.cells v66.fItems])], ⟨[0, 1, 2, 3], by decide, (show 0 ≤ 4 by decide), ⟨.optr_eq rfl ⟨_, _, _, _, rfl⟩ ⟨_, _, _, _, rfl⟩ rfl rfl, .optr_eq rfl ⟨_, _, _, _, rfl⟩ ⟨_, _, _, _, rfl⟩ rfl rfl, .optr_eq rfl ⟨_, _, _, _, rfl⟩ ⟨_, _, _, _, rfl⟩ rfl rfl, .optr_eq rfl ⟨_, _, _, _, rfl⟩ ⟨_, _, _, _, rfl⟩ rfl rfl, .int_eq rfl, .int_eq rfl, trivial⟩, ⟨⟨fun h0 => absurd (show 0 < 0 from h0) (by decide), rfl, rfl, rfl, fun _ _ => ⟨.int_eq rfl, .int_eq rfl, .str_eq rfl, .int_eq rfl, .slc_eq rfl (fun _ _ => rfl), trivial⟩⟩, ⟨fun h0 => absurd (show 1 < 0 from h0) (by decide), rfl, rfl, rfl, fun _ _ => ⟨.bool_eq rfl, .int_eq rfl, .str_eq rfl, trivial⟩⟩, ⟨fun h0 => absurd (show 2 < 0 from h0) (by decide), rfl, rfl, rfl, fun _ _ => ⟨.int_eq rfl, .int_eq rfl, .str_eq rfl, .int_eq rfl, .slc_eq rfl (fun _ _ => rfl), trivial⟩⟩, ⟨fun h0 => absurd (show 3 < 0 from h0) (by decide), rfl, rfl, rfl, fun _ _ => ⟨.int_eq rfl, .int_eq rfl, .str_eq rfl, .int_eq rfl, .slc_eq rfl (fun _ _ => rfl), trivial⟩⟩, trivial⟩⟩, W64 (y110 + 1), Option.some.inj h, rfl, rfl⟩
                  · rintro _ _ ⟨y100, rfl, rfl, rfl⟩
                    replace h := hk103
                    exact ⟨[(3, .optr 0 0 0 0), (4, .optr 1 0 0 0), (8, .optr 2 0 0 0), (12, .optr 3 0 0 0), (15, .int .i64 y100), (16, .int .i64 (W64 (y96 + 1)))], [.row 0 5 1 40 (fun _ => [.int .i64 y2, .int .i64 y3, .str s4, .int .i64 y5, sl 8 TEntry.cells l6]), .row 0 3 1 44 (fun _ => [.bool b7, .int .i64 y8, .str s9]), .row 0 5 1 40 (fun _ => [.int .i64 v51.fKind, .int .i64 v51.fNum, .str v51.fStr, .int .i64 v51.fNext, sl 8 TEntry.cells v51.fItems]), .row 0 5 1 40 (fun _ => [.int .i64 v66.fKind, .int .i64 v66.fNum, .str v66.fStr, .int .i64 v66.fNext, sl 8 TEntry.cells v66.fItems])], ⟨[0, 1, 2, 3], by decide, (show 0 ≤ 4 by decide), ⟨.optr_eq rfl ⟨_, _, _, _, rfl⟩ ⟨_, _, _, _, rfl⟩ rfl rfl, .optr_eq rfl ⟨_, _, _, _, rfl⟩ ⟨_, _, _, _, rfl⟩ rfl rfl, .optr_eq rfl ⟨_, _, _, _, rfl⟩ ⟨_, _, _, _, rfl⟩ rfl rfl, .optr_eq rfl ⟨_, _, _, _, rfl⟩ ⟨_, _, _, _, rfl⟩ rfl rfl, .int_eq rfl, .int_eq rfl, trivial⟩, ⟨⟨fun h0 => absurd (show 0 < 0 from h0) (by decide), rfl, rfl, rfl, fun _ _ => ⟨.int_eq rfl, .int_eq rfl, .str_eq rfl, .int_eq rfl, .slc_eq rfl (fun _ _ => rfl), trivial⟩⟩, ⟨fun h0 => absurd (show 1 < 0 from h0) (by decide), rfl, rfl, rfl, fun _ _ => ⟨.bool_eq rfl, .int_eq rfl, .str_eq rfl, trivial⟩⟩, ⟨fun h0 => absurd (show 2 < 0 from h0) (by decide), rfl, rfl, rfl, fun _ _ => ⟨.int_eq rfl, .int_eq rfl, .str_eq rfl, .int_eq rfl, .slc_eq rfl (fun _ _ => rfl), trivial⟩⟩, ⟨fun h0 => absurd (show 3 < 0 from h0) (by decide), rfl, rfl, rfl, fun _ _ => ⟨.int_eq rfl, .int_eq rfl, .str_eq rfl, .int_eq rfl, .slc_eq rfl (fun _ _ => rfl), trivial⟩⟩, trivial⟩⟩, ih97 _ _ _ h rfl⟩
                · replace h := F_dec hb99 h
                  exact ⟨[(8, .optr 0 0 0 0), (12, .optr 1 0 0 0)], [.row 0 5 1 40 (fun _ => [.int .i64 v51.fKind, .int .i64 v51.fNum, .str v51.fStr, .int .i64 v51.fNext, sl 8 TEntry.cells v51.fItems]), .row 0 5 1 40 (fun _ => [.int .i64 v66.fKind, .int .i64 v66.fNum, .str v66.fStr, .int .i64 v66.fNext, sl 8 TEntry.cells v66.fItems])], ⟨[2, 3], by decide, (show 0 ≤ 2 by decide), ⟨.optr_eq rfl ⟨_, _, _, _, rfl⟩ ⟨_, _, _, _, rfl⟩ rfl rfl, .optr_eq rfl ⟨_, _, _, _, rfl⟩ ⟨_, _, _, _, rfl⟩ rfl rfl, trivial⟩, ⟨⟨fun h0 => absurd (show 0 < 0 from h0) (by decide), rfl, rfl, rfl, fun _ _ => ⟨.int_eq rfl, .int_eq rfl, .str_eq rfl, .int_eq rfl, .slc_eq rfl (fun _ _ => rfl), trivial⟩⟩, ⟨fun h0 => absurd (show 1 < 0 from h0) (by decide), rfl, rfl, rfl, fun _ _ => ⟨.int_eq rfl, .int_eq rfl, .str_eq rfl, .int_eq rfl, .slc_eq rfl (fun _ _ => rfl), trivial⟩⟩, trivial⟩⟩, Option.some.inj h, rfl, rfl⟩
              · rintro _ _ ⟨rfl, rfl, rfl⟩
                replace h := hk94
                refine .direct ?_
                refine .float [(0, true), (3, true), (4, true), (5, true), (1, false), (2, true), (6, true), (7, true), (8, true), (11, true), (12, true), (13, true), (14, true), (9, false), (10, true), (15, true), (16, true), (17, true)] (by kernel_rfl) ?_
                refine ⟨rfl, _, rfl, ?_⟩
                refine ⟨rfl, ?_⟩
                refine ⟨rfl, _, rfl, ?_⟩
                obtain ⟨v140, hv141, h⟩ := bind_some h
                refine ⟨_, ACall.pure0 (ok28 hv141) _ rfl (fun _ => rfl), ?_⟩
                rintro _ _ ⟨rfl, rfl⟩
                refine ⟨rfl, ?_⟩
                refine ⟨rfl, ?_⟩
                refine splitB.mk (fun hb142 => ?_) (fun hb142 => ?_)
                · replace h := T_beq hb142 h
                  refine ⟨rfl, _, rfl, ?_⟩
                  refine splitB_t ?_
                  refine ⟨rfl, ?_⟩
                  refine splitB_t ?_
                  refine ⟨rfl, _, rfl, ?_⟩
                  refine splitB_t ?_
                  refine splitB_t ?_
                  refine splitB_t ?_
                  obtain ⟨v143, hv144, h⟩ := bind_some h
                  refine ⟨_, ACall.pure0 (ok29 hv144) _ rfl (fun _ => rfl), ?_⟩
                  rintro _ _ ⟨rfl, rfl⟩
                  refine ⟨rfl, ?_⟩
                  refine ⟨rfl, ?_⟩
                  refine splitB_t ?_
                  refine splitB_t ?_
                  refine splitB_t ?_
                  obtain rfl := Option.some.inj h
                  exact ⟨[], .bool ((v143.length : Int) == (W64 ((v51.fItems.length : Int) - 1))), [], by decide, (show 0 ≤ 0 by decide), .bool_eq rfl, trivial, rfl, rfl⟩
                · replace h := F_beq hb142 h
                  refine splitB_f ?_
                  refine splitB_f ?_
                  refine splitB_f ?_
                  refine splitB_f ?_
                  refine splitB_f ?_
                  refine ⟨rfl, ?_⟩
                  refine splitB_f ?_
                  refine splitB_f ?_
                  refine splitB_f ?_
                  obtain rfl := Option.some.inj h
                  exact ⟨[], .bool false, [], by decide, (show 0 ≤ 0 by decide), .bool_eq rfl, trivial, rfl, rfl⟩
end Go.Am
