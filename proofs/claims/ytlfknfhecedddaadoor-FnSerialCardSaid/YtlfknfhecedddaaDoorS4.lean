/- Models of Go functions, and their walks. (Printed by tools/mg.py.) -/
import Derived.Test.YtlfknfhecedddaaDoorS2
import Derived.Test.YtlfknfhecedddaaDoorS3
set_option linter.unusedVariables false
set_option linter.unusedSimpArgs false
namespace Go.Am
open Go Go.RowKit Go.Proofs

def m_l_FnSerial (a0 : List UInt8) : Option (Bool) :=
  (if (a0.length : Int) > 1048576 then
    some true
  else
    m_s_DrawSerialize a0 >>= fun v2 =>
    (
      m_i_Serialize v2 >>= fun (v9, v10) =>
      some (v9, v10)
     : Option (Str × Bool)) >>= fun (s4, b5) =>
    m_i_Unserialize s4 >>= fun (v12, v13) =>
    ((
      m22 v2 >>= fun v18 =>
      (if v18 = true then
        m_s_IsPlain v2 >>= fun v21 =>
        (if b5 = v21 then
          (if b5 = true then
            (if v13 = true then
              m19 v12 v2 >>= fun v26 =>
              (if v26 = true then
                some (.inl ())
              else
                some (.inr false))
            else
              some (.inr false))
          else
            some (.inl ()))
        else
          some (.inr false))
      else
        (if b5 = false then
          (if b5 = true then
            (if v13 = true then
              m19 v12 v2 >>= fun v35 =>
              (if v35 = true then
                some (.inl ())
              else
                some (.inr false))
            else
              some (.inr false))
          else
            some (.inl ()))
        else
          some (.inr false)))
     : Option ((Unit) ⊕ Bool)) >>= fun o15 => match o15 with
      | .inr r => some r
      | .inl _ =>
        m_s_DrawUnserialize a0 >>= fun v41 =>
        m_i_Unserialize v41 >>= fun (v43, v44) =>
        (
          m_i_Serialize v43 >>= fun (v51, v52) =>
          some (v51, v52)
         : Option (Str × Bool)) >>= fun (s46, b47) =>
        (if v44 = true then
          (if b47 = true then
            (if s46 = v41 then
              m_i_IsValue v43 >>= fun v57 =>
              (if v57 = true then
                m_i_IsPlain v43 >>= fun v60 =>
                some v60
              else
                some false)
            else
              some false)
          else
            some false)
        else
          some true)
    ))
theorem ok_l_FnSerial {a0 : List UInt8} {r : Bool} (h : m_l_FnSerial a0 = some r) : ACall Tryd.prog 6 [sl 1 cB a0] [] (fun res h => res = .bool r ∧ h = []) := by
  refine ACall.of_vc tabT_ok mixed Tryd.func6 rfl (by kernel_rfl) _ _ _ rfl (by kernel_rfl) ?_
  unfold m_l_FnSerial at h
  refine .direct ?_
  refine .direct ?_
  refine .direct ?_
  refine ⟨_, ACall.pure0 (ok_l_bigx a0) _ rfl (fun _ => rfl), ?_⟩
  rintro _ _ ⟨rfl, rfl⟩
  refine splitB.mk (fun hb1 => ?_) (fun hb1 => ?_)
  · replace h := T_dec hb1 h
    refine .direct ?_
    obtain rfl := Option.some.inj h
    exact ⟨[], .bool true, [], by decide, (show 0 ≤ 0 by decide), .bool_eq rfl, trivial, rfl, rfl⟩
  · replace h := F_dec hb1 h
    refine .direct ?_
    obtain ⟨v2, hv3, h⟩ := bind_some h
    refine ⟨_, ACall.pure0 (ok_s_DrawSerialize hv3) _ rfl (fun _ => rfl), ?_⟩
    rintro _ _ ⟨rfl, rfl⟩
    refine ⟨rfl, _, fun _ => [.int .i64 v2.fKind, .int .i64 v2.fNum, .str v2.fStr, .int .i64 v2.fNext, sl 8 TEntry.cells v2.fItems], rfl, one_set rfl, ?_⟩
    obtain ⟨o6, ho7, hk8⟩ := bind_some h
    replace h := ho7
    refine .cut (fun σ η => ∃ s4, ∃ b5, (s4, b5) = o6 ∧ σ = [(0, sl 1 cB a0), (3, .optr 0 0 0 0), (4, .str s4), (5, .bool b5)] ∧ η = [.row 0 5 1 26 (fun _ => [.int .i64 v2.fKind, .int .i64 v2.fNum, .str v2.fStr, .int .i64 v2.fNext, sl 8 TEntry.cells v2.fItems])]) ?_ ?_
    · refine ⟨rfl, _, rfl, ?_⟩
      obtain ⟨⟨v9, v10⟩, hv11, h⟩ := bind_some h
      refine ⟨_, ACall.pure0 (ok_i_Serialize hv11) _ rfl (fun _ => rfl), ?_⟩
      rintro _ _ ⟨rfl, rfl⟩
      exact ⟨[(0, sl 1 cB a0), (3, .optr 0 0 0 0), (4, .str v9), (5, .bool v10)], [.row 0 5 1 26 (fun _ => [.int .i64 v2.fKind, .int .i64 v2.fNum, .str v2.fStr, .int .i64 v2.fNext, sl 8 TEntry.cells v2.fItems])], ⟨[0], by decide, (show 0 ≤ 1 by decide), ⟨.slc_eq rfl (fun _ _ => rfl), .optr_eq rfl ⟨_, _, _, _, rfl⟩ ⟨_, _, _, _, rfl⟩ rfl rfl, .str_eq rfl, .bool_eq rfl, trivial⟩, ⟨⟨fun h0 => absurd (show 0 < 0 from h0) (by decide), rfl, rfl, rfl, fun _ _ => ⟨.int_eq rfl, .int_eq rfl, .str_eq rfl, .int_eq rfl, .slc_eq rfl (fun _ _ => rfl), trivial⟩⟩, trivial⟩⟩, v9, v10, Option.some.inj h, rfl, rfl⟩
    · rintro _ _ ⟨s4, b5, rfl, rfl, rfl⟩
      replace h := hk8
      refine .direct ?_
      obtain ⟨⟨v12, v13⟩, hv14, h⟩ := bind_some h
      refine ⟨_, ACall.pure0 (ok_i_Unserialize hv14) _ rfl (fun _ => rfl), ?_⟩
      rintro _ _ ⟨rfl, rfl⟩
      refine ⟨rfl, _, fun _ => [.int .i64 v12.fKind, .int .i64 v12.fNum, .str v12.fStr, .int .i64 v12.fNext, sl 8 TEntry.cells v12.fItems], rfl, one_set rfl, ?_⟩
      obtain ⟨o15, ho16, hk17⟩ := bind_some h
      replace h := ho16
      refine .cut (fun σ η => .inl () = o15 ∧ σ = [(0, sl 1 cB a0)] ∧ η = []) ?_ ?_
      · refine .direct ?_
        refine ⟨rfl, _, rfl, ?_⟩
        obtain ⟨v18, hv19, h⟩ := bind_some h
        refine ⟨_, ACall.pure0 (ok22 hv19) _ rfl (fun _ => rfl), ?_⟩
        rintro _ _ ⟨rfl, rfl⟩
        refine splitB.mk (fun hb20 => ?_) (fun hb20 => ?_)
        · replace h := T_var hb20 h
          refine ⟨rfl, _, rfl, ?_⟩
          refine splitB_t ?_
          obtain ⟨v21, hv22, h⟩ := bind_some h
          refine ⟨_, ACall.pure0 (ok_s_IsPlain hv22) _ rfl (fun _ => rfl), ?_⟩
          rintro _ _ ⟨rfl, rfl⟩
          refine splitB_t ?_
          refine splitB.mk (fun hb23 => ?_) (fun hb23 => ?_)
          · have hb31 := not_F hb23
            replace h := F_beq hb31 h
            refine splitB_t ?_
            refine splitB_t ?_
            refine splitB_t ?_
            refine splitB_t ?_
            refine .direct ?_
            obtain rfl := Option.some.inj h
            replace h := hk17
            obtain rfl := Option.some.inj h
            exact ⟨[], .bool false, [], by decide, (show 0 ≤ 0 by decide), .bool_eq rfl, trivial, rfl, rfl⟩
          · have hb31 := not_T hb23
            replace h := T_beq hb31 h
            refine splitB_f ?_
            refine splitB.mk (fun hb24 => ?_) (fun hb24 => ?_)
            · replace h := T_var hb24 h
              refine splitB_t ?_
              refine splitB_t ?_
              refine splitB.mk (fun hb25 => ?_) (fun hb25 => ?_)
              · have hb30 := not_F hb25
                replace h := F_var hb30 h
                refine splitB_t ?_
                refine splitB_t ?_
                refine splitB_t ?_
                refine splitB_t ?_
                refine splitB_t ?_
                refine splitB_f ?_
                refine splitB_t ?_
                refine splitB_f ?_
                refine splitB_t ?_
                refine .direct ?_
                obtain rfl := Option.some.inj h
                replace h := hk17
                obtain rfl := Option.some.inj h
                exact ⟨[], .bool false, [], by decide, (show 0 ≤ 0 by decide), .bool_eq rfl, trivial, rfl, rfl⟩
              · have hb30 := not_T hb25
                replace h := T_var hb30 h
                refine ⟨rfl, _, rfl, ?_⟩
                refine splitB_f ?_
                refine ⟨rfl, _, rfl, ?_⟩
                refine splitB_f ?_
                obtain ⟨v26, hv27, h⟩ := bind_some h
                refine ⟨_, ACall.pure0 (ok19 hv27) _ rfl (fun _ => rfl), ?_⟩
                rintro _ _ ⟨rfl, rfl⟩
                refine splitB_f ?_
                refine splitB_t ?_
                refine splitB_f ?_
                refine splitB_f ?_
                refine splitB_t ?_
                refine splitB_f ?_
                refine splitB.mk (fun hb28 => ?_) (fun hb28 => ?_)
                · have hb29 := not_F hb28
                  replace h := F_var hb29 h
                  refine .direct ?_
                  obtain rfl := Option.some.inj h
                  replace h := hk17
                  obtain rfl := Option.some.inj h
                  exact ⟨[], .bool false, [], by decide, (show 0 ≤ 0 by decide), .bool_eq rfl, trivial, rfl, rfl⟩
                · have hb29 := not_T hb28
                  replace h := T_var hb29 h
                  exact ⟨[(0, sl 1 cB a0)], [], ⟨[], by decide, (show 0 ≤ 0 by decide), ⟨.slc_eq rfl (fun _ _ => rfl), trivial⟩, trivial⟩, Option.some.inj h, rfl, rfl⟩
            · replace h := F_var hb24 h
              refine splitB_f ?_
              refine splitB_f ?_
              refine splitB_f ?_
              refine splitB_f ?_
              refine splitB_f ?_
              refine splitB_f ?_
              refine splitB_f ?_
              exact ⟨[(0, sl 1 cB a0)], [], ⟨[], by decide, (show 0 ≤ 0 by decide), ⟨.slc_eq rfl (fun _ _ => rfl), trivial⟩, trivial⟩, Option.some.inj h, rfl, rfl⟩
        · replace h := F_var hb20 h
          refine splitB_f ?_
          refine splitB_f ?_
          refine splitB.mk (fun hb32 => ?_) (fun hb32 => ?_)
          · have hb40 := not_F hb32
            replace h := F_beq hb40 h
            refine splitB_t ?_
            refine splitB_t ?_
            refine splitB_t ?_
            refine splitB_t ?_
            refine .direct ?_
            obtain rfl := Option.some.inj h
            replace h := hk17
            obtain rfl := Option.some.inj h
            exact ⟨[], .bool false, [], by decide, (show 0 ≤ 0 by decide), .bool_eq rfl, trivial, rfl, rfl⟩
          · have hb40 := not_T hb32
            replace h := T_beq hb40 h
            refine splitB_f ?_
            refine splitB.mk (fun hb33 => ?_) (fun hb33 => ?_)
            · replace h := T_var hb33 h
              refine splitB_t ?_
              refine splitB_t ?_
              refine splitB.mk (fun hb34 => ?_) (fun hb34 => ?_)
              · have hb39 := not_F hb34
                replace h := F_var hb39 h
                refine splitB_t ?_
                refine splitB_t ?_
                refine splitB_t ?_
                refine splitB_t ?_
                refine splitB_t ?_
                refine splitB_f ?_
                refine splitB_t ?_
                refine splitB_f ?_
                refine splitB_t ?_
                refine .direct ?_
                obtain rfl := Option.some.inj h
                replace h := hk17
                obtain rfl := Option.some.inj h
                exact ⟨[], .bool false, [], by decide, (show 0 ≤ 0 by decide), .bool_eq rfl, trivial, rfl, rfl⟩
              · have hb39 := not_T hb34
                replace h := T_var hb39 h
                refine ⟨rfl, _, rfl, ?_⟩
                refine splitB_f ?_
                refine ⟨rfl, _, rfl, ?_⟩
                refine splitB_f ?_
                obtain ⟨v35, hv36, h⟩ := bind_some h
                refine ⟨_, ACall.pure0 (ok19 hv36) _ rfl (fun _ => rfl), ?_⟩
                rintro _ _ ⟨rfl, rfl⟩
                refine splitB_f ?_
                refine splitB_t ?_
                refine splitB_f ?_
                refine splitB_f ?_
                refine splitB_t ?_
                refine splitB_f ?_
                refine splitB.mk (fun hb37 => ?_) (fun hb37 => ?_)
                · have hb38 := not_F hb37
                  replace h := F_var hb38 h
                  refine .direct ?_
                  obtain rfl := Option.some.inj h
                  replace h := hk17
                  obtain rfl := Option.some.inj h
                  exact ⟨[], .bool false, [], by decide, (show 0 ≤ 0 by decide), .bool_eq rfl, trivial, rfl, rfl⟩
                · have hb38 := not_T hb37
                  replace h := T_var hb38 h
                  exact ⟨[(0, sl 1 cB a0)], [], ⟨[], by decide, (show 0 ≤ 0 by decide), ⟨.slc_eq rfl (fun _ _ => rfl), trivial⟩, trivial⟩, Option.some.inj h, rfl, rfl⟩
            · replace h := F_var hb33 h
              refine splitB_f ?_
              refine splitB_f ?_
              refine splitB_f ?_
              refine splitB_f ?_
              refine splitB_f ?_
              refine splitB_f ?_
              refine splitB_f ?_
              exact ⟨[(0, sl 1 cB a0)], [], ⟨[], by decide, (show 0 ≤ 0 by decide), ⟨.slc_eq rfl (fun _ _ => rfl), trivial⟩, trivial⟩, Option.some.inj h, rfl, rfl⟩
      · rintro _ _ ⟨rfl, rfl, rfl⟩
        replace h := hk17
        refine .direct ?_
        obtain ⟨v41, hv42, h⟩ := bind_some h
        refine ⟨_, ACall.pure0 (ok_s_DrawUnserialize hv42) _ rfl (fun _ => rfl), ?_⟩
        rintro _ _ ⟨rfl, rfl⟩
        refine .direct ?_
        obtain ⟨⟨v43, v44⟩, hv45, h⟩ := bind_some h
        refine ⟨_, ACall.pure0 (ok_i_Unserialize hv45) _ rfl (fun _ => rfl), ?_⟩
        rintro _ _ ⟨rfl, rfl⟩
        refine ⟨rfl, _, fun _ => [.int .i64 v43.fKind, .int .i64 v43.fNum, .str v43.fStr, .int .i64 v43.fNext, sl 8 TEntry.cells v43.fItems], rfl, one_set rfl, ?_⟩
        obtain ⟨o48, ho49, hk50⟩ := bind_some h
        replace h := ho49
        refine .cut (fun σ η => ∃ s46, ∃ b47, (s46, b47) = o48 ∧ σ = [(8, .str v41), (9, .optr 0 0 0 0), (10, .bool v44), (11, .str s46), (12, .bool b47)] ∧ η = [.row 0 5 1 26 (fun _ => [.int .i64 v43.fKind, .int .i64 v43.fNum, .str v43.fStr, .int .i64 v43.fNext, sl 8 TEntry.cells v43.fItems])]) ?_ ?_
        · refine ⟨rfl, _, rfl, ?_⟩
          obtain ⟨⟨v51, v52⟩, hv53, h⟩ := bind_some h
          refine ⟨_, ACall.pure0 (ok_i_Serialize hv53) _ rfl (fun _ => rfl), ?_⟩
          rintro _ _ ⟨rfl, rfl⟩
          exact ⟨[(8, .str v41), (9, .optr 0 0 0 0), (10, .bool v44), (11, .str v51), (12, .bool v52)], [.row 0 5 1 26 (fun _ => [.int .i64 v43.fKind, .int .i64 v43.fNum, .str v43.fStr, .int .i64 v43.fNext, sl 8 TEntry.cells v43.fItems])], ⟨[0], by decide, (show 0 ≤ 1 by decide), ⟨.str_eq rfl, .optr_eq rfl ⟨_, _, _, _, rfl⟩ ⟨_, _, _, _, rfl⟩ rfl rfl, .bool_eq rfl, .str_eq rfl, .bool_eq rfl, trivial⟩, ⟨⟨fun h0 => absurd (show 0 < 0 from h0) (by decide), rfl, rfl, rfl, fun _ _ => ⟨.int_eq rfl, .int_eq rfl, .str_eq rfl, .int_eq rfl, .slc_eq rfl (fun _ _ => rfl), trivial⟩⟩, trivial⟩⟩, v51, v52, Option.some.inj h, rfl, rfl⟩
        · rintro _ _ ⟨s46, b47, rfl, rfl, rfl⟩
          replace h := hk50
          refine .direct ?_
          refine splitB.mk (fun hb54 => ?_) (fun hb54 => ?_)
          · have hb62 := not_F hb54
            replace h := F_var hb62 h
            refine splitB_t ?_
            refine splitB_t ?_
            refine splitB_t ?_
            refine splitB_t ?_
            refine splitB_t ?_
            refine splitB_t ?_
            refine splitB_t ?_
            obtain rfl := Option.some.inj h
            exact ⟨[], .bool true, [], by decide, (show 0 ≤ 0 by decide), .bool_eq rfl, trivial, rfl, rfl⟩
          · have hb62 := not_T hb54
            replace h := T_var hb62 h
            refine splitB_f ?_
            refine splitB.mk (fun hb55 => ?_) (fun hb55 => ?_)
            · replace h := T_var hb55 h
              refine splitB_t ?_
              refine splitB_t ?_
              refine splitB_f ?_
              refine splitB_t ?_
              refine splitB_f ?_
              refine splitB.mk (fun hb56 => ?_) (fun hb56 => ?_)
              · replace h := T_beq hb56 h
                refine ⟨rfl, _, rfl, ?_⟩
                refine splitB_t ?_
                obtain ⟨v57, hv58, h⟩ := bind_some h
                refine ⟨_, ACall.pure0 (ok_i_IsValue hv58) _ rfl (fun _ => rfl), ?_⟩
                rintro _ _ ⟨rfl, rfl⟩
                refine splitB_f ?_
                refine splitB_t ?_
                refine splitB_f ?_
                refine splitB.mk (fun hb59 => ?_) (fun hb59 => ?_)
                · replace h := T_var hb59 h
                  refine ⟨rfl, _, rfl, ?_⟩
                  refine splitB_t ?_
                  obtain ⟨v60, hv61, h⟩ := bind_some h
                  refine ⟨_, ACall.pure0 (ok_i_IsPlain hv61) _ rfl (fun _ => rfl), ?_⟩
                  rintro _ _ ⟨rfl, rfl⟩
                  refine splitB_f ?_
                  refine splitB_t ?_
                  refine splitB_f ?_
                  obtain rfl := Option.some.inj h
                  exact ⟨[], .bool v60, [], by decide, (show 0 ≤ 0 by decide), .bool_eq rfl, trivial, rfl, rfl⟩
                · replace h := F_var hb59 h
                  refine splitB_f ?_
                  refine splitB_f ?_
                  refine splitB_f ?_
                  refine splitB_f ?_
                  obtain rfl := Option.some.inj h
                  exact ⟨[], .bool false, [], by decide, (show 0 ≤ 0 by decide), .bool_eq rfl, trivial, rfl, rfl⟩
              · replace h := F_beq hb56 h
                refine splitB_f ?_
                refine splitB_f ?_
                refine splitB_f ?_
                refine splitB_f ?_
                refine splitB_f ?_
                refine splitB_f ?_
                refine splitB_f ?_
                refine splitB_f ?_
                refine splitB_f ?_
                obtain rfl := Option.some.inj h
                exact ⟨[], .bool false, [], by decide, (show 0 ≤ 0 by decide), .bool_eq rfl, trivial, rfl, rfl⟩
            · replace h := F_var hb55 h
              refine splitB_f ?_
              refine splitB_f ?_
              refine splitB_f ?_
              refine splitB_f ?_
              refine splitB_f ?_
              refine splitB_f ?_
              refine splitB_f ?_
              refine splitB_f ?_
              refine splitB_f ?_
              refine splitB_f ?_
              refine splitB_f ?_
              refine splitB_f ?_
              refine splitB_f ?_
              refine splitB_f ?_
              refine splitB_f ?_
              obtain rfl := Option.some.inj h
              exact ⟨[], .bool false, [], by decide, (show 0 ≤ 0 by decide), .bool_eq rfl, trivial, rfl, rfl⟩
end Go.Am
