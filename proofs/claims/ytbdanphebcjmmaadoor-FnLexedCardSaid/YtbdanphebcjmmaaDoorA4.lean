/- Models of Go functions, and their walks. (Printed by tools/mg.py.) -/
import Derived.Test.YtbdanphebcjmmaaDoorA3
set_option linter.unusedVariables false
set_option linter.unusedSimpArgs false
set_option maxRecDepth 100000
namespace Go.Am
open Go Go.RowKit Go.Proofs

def m_i_Lex_L2 (a0 : Str) (s21 : Str) (y22 : Int) (y23 : Int) (l24 : List TToken) : Option (Str × Int × Int × (List TToken)) :=
  ((
    (if y23 = 0 then
      (if y22 < (a0.length : Int) then
        some (.inl ())
      else
        some (.inr (s21, y22, y23, l24)))
    else
      some (.inr (s21, y22, y23, l24)))
   : Option ((Unit) ⊕ (Str × Int × Int × (List TToken)))) >>= fun o27 => match o27 with
    | .inr r => some r
    | .inl _ =>
      m_i_lexertoken (TLexer.mk s21 y22 l24 y23) >>= fun v32 =>
      m_i_Lex_L2 a0 v32.fS v32.fAt v32.fCode v32.fOut
  )
partial_fixpoint
def m_i_Lex (a0 : Str) : Option ((List TToken) × Int × Int) :=
  (
    some ()
   : Option (Unit)) >>= fun _ =>
  ((
    (if (a0.length : Int) > 4000 then
      some (.inr ([], 1, 0))
    else
      some (.inl ()))
   : Option ((Unit) ⊕ ((List TToken) × Int × Int))) >>= fun o4 => match o4 with
    | .inr r => some r
    | .inl _ =>
      (
        some ()
       : Option (Unit)) >>= fun _ =>
      m_i_lexerinline (TLexer.mk a0 0 ([] : List TToken) 0) >>= fun v11 =>
      (
        m_i_Lex_L2 a0 v11.fS v11.fAt v11.fCode v11.fOut
       : Option (Str × Int × Int × (List TToken))) >>= fun (s14, y15, y16, l17) =>
      (if y16 = 0 then
        some (l17, 0, 0)
      else
        some ([], y16, y15))
  )
theorem ok_i_Lex {a0 : Str} {r : (List TToken) × Int × Int} (h : m_i_Lex a0 = some r) : ACall Tryd.prog 6 [.str a0] [] (fun res h => res = .tup [sl 4 TToken.cells r.1, .int .i64 r.2.1, .int .i64 r.2.2] ∧ h = []) := by
  refine ACall.of_vc tabT_ok mixed Tryd.func6 rfl (by kernel_rfl) _ _ _ rfl (by kernel_rfl) ?_
  unfold m_i_Lex at h
  obtain ⟨o1, ho2, hk3⟩ := bind_some h
  replace h := ho2
  refine .cut (fun σ η => () = o1 ∧ σ = [(0, .str a0)] ∧ η = []) ?_ ?_
  · exact ⟨[(0, .str a0)], [], ⟨[], by decide, (show 0 ≤ 0 by decide), ⟨.str_eq rfl, trivial⟩, trivial⟩, Option.some.inj h, rfl, rfl⟩
  · rintro _ _ ⟨rfl, rfl, rfl⟩
    replace h := hk3
    obtain ⟨o4, ho5, hk6⟩ := bind_some h
    replace h := ho5
    refine .cut (fun σ η => .inl () = o4 ∧ σ = [(0, .str a0)] ∧ η = []) ?_ ?_
    · refine .direct ?_
      refine splitB.mk (fun hb7 => ?_) (fun hb7 => ?_)
      · replace h := T_dec hb7 h
        refine .direct ?_
        obtain rfl := Option.some.inj h
        replace h := hk6
        obtain rfl := Option.some.inj h
        exact ⟨[], .tup [sl 4 TToken.cells [], .int .i64 1, .int .i64 0], [], by decide, (show 0 ≤ 0 by decide), .tup_l ⟨fz_nils, .int_eq rfl, .int_eq rfl, trivial⟩, trivial, rfl, rfl⟩
      · replace h := F_dec hb7 h
        exact ⟨[(0, .str a0)], [], ⟨[], by decide, (show 0 ≤ 0 by decide), ⟨.str_eq rfl, trivial⟩, trivial⟩, Option.some.inj h, rfl, rfl⟩
    · rintro _ _ ⟨rfl, rfl, rfl⟩
      replace h := hk6
      obtain ⟨o8, ho9, hk10⟩ := bind_some h
      replace h := ho9
      refine .cut (fun σ η => () = o8 ∧ σ = [(0, .str a0), (5, .optr 0 0 0 0)] ∧ η = [.row 0 4 1 40 (fun _ => [.str a0, .int .i64 0, .own 1 0 0 ([] : List TToken).length, .int .i64 0]), .row 0 4 ([] : List TToken).length 30 (row TToken.cells ([] : List TToken))]) ?_ ?_
      · refine ⟨rfl, _, fun _ => [.str a0, .int .i64 0, .nils, .int .i64 0], rfl, one_set rfl, ?_⟩
        exact ⟨[(0, .str a0), (5, .optr 0 0 0 0)], [.row 0 4 1 40 (fun _ => [.str a0, .int .i64 0, .own 1 0 0 ([] : List TToken).length, .int .i64 0]), .row 0 4 ([] : List TToken).length 30 (row TToken.cells ([] : List TToken))], ⟨[0, 2], by decide, (show 0 ≤ 2 by decide), ⟨.str_eq rfl, .optr_eq rfl ⟨_, _, _, _, rfl⟩ ⟨_, _, _, _, rfl⟩ rfl rfl, trivial⟩, ⟨⟨fun h0 => absurd (show 0 < 0 from h0) (by decide), rfl, rfl, rfl, fun _ _ => ⟨.str_eq rfl, .int_eq rfl, (.nilo _ _ _ _ _ _ rfl rfl rfl), .int_eq rfl, trivial⟩⟩, ⟨(show 0 ≤ 1 by decide), rfl⟩, trivial⟩⟩, Option.some.inj h, rfl, rfl⟩
      · rintro _ _ ⟨rfl, rfl, rfl⟩
        replace h := hk10
        refine .direct ?_
        obtain ⟨v11, hv12, h⟩ := bind_some h
        refine ⟨fun res h' => ∃ g13 : Nat, res = .tup [] ∧ h' = [.row 0 4 1 40 (fun _ => [.str v11.fS, .int .i64 v11.fAt, .own 1 g13 0 v11.fOut.length, .int .i64 v11.fCode]), .row g13 4 v11.fOut.length 30 (row TToken.cells v11.fOut)], (ACall.over (ok_i_lexerinline (g1000 := 0) (g1001 := 0) hv12) [0, 1] [.row 0 4 1 40 (fun _ => [.str a0, .int .i64 0, .own 1 0 0 ([] : List TToken).length, .int .i64 0]), .row 0 4 ([] : List TToken).length 30 (row TToken.cells ([] : List TToken))] rfl (by decide) (by simp) (by intro j o hj; exact match j, hj with | 0, hj => by cases hj; rfl | 1, hj => by cases hj; exact (congrArg some (renO_row TToken.cells_pure _ _ _ _ _ _)).symm | j + 2, hj => by cases hj) rfl).mono (by rintro _ _ ⟨_, _, ⟨g13, rfl, rfl⟩, rfl, rfl⟩; exact ⟨g13, rfl, (by simp only [nxtL, putSel, List.map_cons, List.map_nil, List.drop, List.length_cons, List.length_nil, renO_row TToken.cells_pure]; rfl)⟩), ?_⟩
        rintro _ _ ⟨g13, rfl, rfl⟩
        obtain ⟨o18, ho19, hk20⟩ := bind_some h
        replace h := ho19
        refine .cut (fun σ η => ∃ s14, ∃ y15, ∃ y16, ∃ l17, (s14, y15, y16, l17) = o18 ∧ σ = [(5, .optr 0 0 0 0)] ∧ η = [.row 0 4 1 40 (fun _ => [.str s14, .int .i64 y15, .own 1 0 0 l17.length, .int .i64 y16]), .row 0 4 l17.length 30 (row TToken.cells l17)]) ?_ ?_
        · refine LoopAt.enter [(0, .str a0), (5, .optr 0 0 0 0)] [.row 0 4 1 40 (fun _ => [.str v11.fS, .int .i64 v11.fAt, .own 1 0 0 v11.fOut.length, .int .i64 v11.fCode]), .row 0 4 v11.fOut.length 30 (row TToken.cells v11.fOut)] ⟨[0, 1], by decide, (show 0 ≤ 2 by decide), ⟨.str_eq rfl, .optr_eq rfl ⟨_, _, _, _, rfl⟩ ⟨_, _, _, _, rfl⟩ rfl rfl, trivial⟩, ⟨⟨fun h0 => absurd (show 0 < 0 from h0) (by decide), rfl, rfl, rfl, fun _ _ => ⟨.str_eq rfl, .int_eq rfl, .own_eq rfl ⟨_, _, _, _, rfl⟩ ⟨_, _, _, _, rfl⟩ rfl rfl, .int_eq rfl, trivial⟩⟩, ⟨fun h0 => absurd (show 1 < 0 from h0) (by decide), rfl, rfl, rfl, fz_row TToken.cells_pure⟩, trivial⟩⟩ ?_
          refine m_i_Lex_L2.partial_correctness a0 (motive := fun s21 y22 y23 l24 o35 => o18 = o35 → LoopAt _ _ [(0, .str a0), (5, .optr 0 0 0 0)] [.row 0 4 1 40 (fun _ => [.str s21, .int .i64 y22, .own 1 0 0 l24.length, .int .i64 y23]), .row 0 4 l24.length 30 (row TToken.cells l24)]) ?_ v11.fS v11.fAt v11.fCode v11.fOut o18 h rfl
          intro F26 ih25 s21 y22 y23 l24 o35 h hr36
          subst hr36
          refine LoopAt.round ?_
          obtain ⟨o27, ho28, hk29⟩ := bind_some h
          replace h := ho28
          refine .cut (fun σ η => .inl () = o27 ∧ σ = [(0, .str a0), (5, .optr 0 0 0 0), (16, .optr 0 0 0 1), (17, .int .i64 y22), (18, .str a0), (19, .int .i64 (a0.length : Int)), (20, .bool (decide (y22 < (a0.length : Int))))] ∧ η = [.row 0 4 1 40 (fun _ => [.str s21, .int .i64 y22, .own 1 0 0 l24.length, .int .i64 y23]), .row 0 4 l24.length 30 (row TToken.cells l24)]) ?_ ?_
          · refine .direct ?_
            refine ⟨rfl, ?_⟩
            refine ⟨rfl, _, rfl, ?_⟩
            refine splitB.mk (fun hb30 => ?_) (fun hb30 => ?_)
            · replace h := T_beq hb30 h
              refine ⟨rfl, ?_⟩
              refine splitB_t ?_
              refine ⟨rfl, _, rfl, ?_⟩
              refine splitB_t ?_
              refine splitB_t ?_
              refine splitB_t ?_
              refine splitB_t ?_
              refine splitB.mk (fun hb31 => ?_) (fun hb31 => ?_)
              · replace h := T_dec hb31 h
                exact ⟨[(0, .str a0), (5, .optr 0 0 0 0), (16, .optr 0 0 0 1), (17, .int .i64 y22), (18, .str a0), (19, .int .i64 (a0.length : Int)), (20, .bool (decide (y22 < (a0.length : Int))))], [.row 0 4 1 40 (fun _ => [.str s21, .int .i64 y22, .own 1 0 0 l24.length, .int .i64 y23]), .row 0 4 l24.length 30 (row TToken.cells l24)], ⟨[0, 1], by decide, (show 0 ≤ 2 by decide), ⟨.str_eq rfl, .optr_eq rfl ⟨_, _, _, _, rfl⟩ ⟨_, _, _, _, rfl⟩ rfl rfl, .optr_eq rfl ⟨_, _, _, _, rfl⟩ ⟨_, _, _, _, rfl⟩ rfl rfl, .int_eq rfl, .str_eq rfl, .int_eq rfl, .bool_eq rfl, trivial⟩, ⟨⟨fun h0 => absurd (show 0 < 0 from h0) (by decide), rfl, rfl, rfl, fun _ _ => ⟨.str_eq rfl, .int_eq rfl, .own_eq rfl ⟨_, _, _, _, rfl⟩ ⟨_, _, _, _, rfl⟩ rfl rfl, .int_eq rfl, trivial⟩⟩, ⟨fun h0 => absurd (show 1 < 0 from h0) (by decide), rfl, rfl, rfl, fz_row TToken.cells_pure⟩, trivial⟩⟩, Option.some.inj h, rfl, rfl⟩
              · replace h := F_dec hb31 h
                obtain rfl := Option.some.inj h
                replace h := hk29
                exact ⟨[(5, .optr 0 0 0 0)], [.row 0 4 1 40 (fun _ => [.str s21, .int .i64 y22, .own 1 0 0 l24.length, .int .i64 y23]), .row 0 4 l24.length 30 (row TToken.cells l24)], ⟨[0, 1], by decide, (show 0 ≤ 2 by decide), ⟨.optr_eq rfl ⟨_, _, _, _, rfl⟩ ⟨_, _, _, _, rfl⟩ rfl rfl, trivial⟩, ⟨⟨fun h0 => absurd (show 0 < 0 from h0) (by decide), rfl, rfl, rfl, fun _ _ => ⟨.str_eq rfl, .int_eq rfl, .own_eq rfl ⟨_, _, _, _, rfl⟩ ⟨_, _, _, _, rfl⟩ rfl rfl, .int_eq rfl, trivial⟩⟩, ⟨fun h0 => absurd (show 1 < 0 from h0) (by decide), rfl, rfl, rfl, fz_row TToken.cells_pure⟩, trivial⟩⟩, s21, y22, y23, l24, Option.some.inj h, rfl, rfl⟩
            · replace h := F_beq hb30 h
              refine splitB_f ?_
              refine splitB_f ?_
              refine splitB_f ?_
              refine splitB_f ?_
              refine splitB_f ?_
              refine splitB_f ?_
              obtain rfl := Option.some.inj h
              replace h := hk29
              exact ⟨[(5, .optr 0 0 0 0)], [.row 0 4 1 40 (fun _ => [.str s21, .int .i64 y22, .own 1 0 0 l24.length, .int .i64 y23]), .row 0 4 l24.length 30 (row TToken.cells l24)], ⟨[0, 1], by decide, (show 0 ≤ 2 by decide), ⟨.optr_eq rfl ⟨_, _, _, _, rfl⟩ ⟨_, _, _, _, rfl⟩ rfl rfl, trivial⟩, ⟨⟨fun h0 => absurd (show 0 < 0 from h0) (by decide), rfl, rfl, rfl, fun _ _ => ⟨.str_eq rfl, .int_eq rfl, .own_eq rfl ⟨_, _, _, _, rfl⟩ ⟨_, _, _, _, rfl⟩ rfl rfl, .int_eq rfl, trivial⟩⟩, ⟨fun h0 => absurd (show 1 < 0 from h0) (by decide), rfl, rfl, rfl, fz_row TToken.cells_pure⟩, trivial⟩⟩, s21, y22, y23, l24, Option.some.inj h, rfl, rfl⟩
          · rintro _ _ ⟨rfl, rfl, rfl⟩
            replace h := hk29
            obtain ⟨v32, hv33, h⟩ := bind_some h
            refine ⟨fun res h' => ∃ g34 : Nat, res = .tup [] ∧ h' = [.row 0 4 1 40 (fun _ => [.str v32.fS, .int .i64 v32.fAt, .own 1 g34 0 v32.fOut.length, .int .i64 v32.fCode]), .row g34 4 v32.fOut.length 30 (row TToken.cells v32.fOut)], (ACall.over (ok_i_lexertoken (g1000 := 0) (g1001 := 0) hv33) [0, 1] [.row 0 4 1 40 (fun _ => [.str s21, .int .i64 y22, .own 1 0 0 l24.length, .int .i64 y23]), .row 0 4 l24.length 30 (row TToken.cells l24)] rfl (by decide) (by simp) (by intro j o hj; exact match j, hj with | 0, hj => by cases hj; rfl | 1, hj => by cases hj; exact (congrArg some (renO_row TToken.cells_pure _ _ _ _ _ _)).symm | j + 2, hj => by cases hj) rfl).mono (by rintro _ _ ⟨_, _, ⟨g34, rfl, rfl⟩, rfl, rfl⟩; exact ⟨g34, rfl, (by simp only [nxtL, putSel, List.map_cons, List.map_nil, List.drop, List.length_cons, List.length_nil, renO_row TToken.cells_pure]; rfl)⟩), ?_⟩
            rintro _ _ ⟨g34, rfl, rfl⟩
            exact ⟨[(0, .str a0), (5, .optr 0 0 0 0)], [.row 0 4 1 40 (fun _ => [.str v32.fS, .int .i64 v32.fAt, .own 1 0 0 v32.fOut.length, .int .i64 v32.fCode]), .row 0 4 v32.fOut.length 30 (row TToken.cells v32.fOut)], ⟨[0, 1], by decide, (show 0 ≤ 2 by decide), ⟨.str_eq rfl, .optr_eq rfl ⟨_, _, _, _, rfl⟩ ⟨_, _, _, _, rfl⟩ rfl rfl, trivial⟩, ⟨⟨fun h0 => absurd (show 0 < 0 from h0) (by decide), rfl, rfl, rfl, fun _ _ => ⟨.str_eq rfl, .int_eq rfl, .own_eq rfl ⟨_, _, _, _, rfl⟩ ⟨_, _, _, _, rfl⟩ rfl rfl, .int_eq rfl, trivial⟩⟩, ⟨fun h0 => absurd (show 1 < 0 from h0) (by decide), rfl, rfl, rfl, fz_row TToken.cells_pure⟩, trivial⟩⟩, ih25 _ _ _ _ _ h rfl⟩
        · rintro _ _ ⟨s14, y15, y16, l17, rfl, rfl, rfl⟩
          replace h := hk20
          refine .direct ?_
          refine .direct ?_
          refine ⟨rfl, ?_⟩
          refine ⟨rfl, _, rfl, ?_⟩
          refine splitB.mk (fun hb37 => ?_) (fun hb37 => ?_)
          · replace h := T_bne hb37 h
            refine .direct ?_
            refine ⟨rfl, ?_⟩
            refine ⟨rfl, _, rfl, ?_⟩
            refine ⟨rfl, ?_⟩
            refine ⟨rfl, _, rfl, ?_⟩
            obtain rfl := Option.some.inj h
            exact ⟨[], .tup [sl 4 TToken.cells [], .int .i64 y16, .int .i64 y15], [], by decide, (show 0 ≤ 0 by decide), .tup_l ⟨fz_nils, .int_eq rfl, .int_eq rfl, trivial⟩, trivial, rfl, rfl⟩
          · replace h := F_bne hb37 h
            refine .direct ?_
            refine ⟨rfl, ?_⟩
            refine ⟨rfl, _, rfl, ?_⟩
            obtain rfl := Option.some.inj h
            exact ⟨[], .tup [sl 4 TToken.cells l17, .int .i64 0, .int .i64 0], [], by decide, (show 0 ≤ 0 by decide), .tup_l ⟨(fz_frz TToken.cells_pure (by first | decide | simp) rfl shows_all), .int_eq rfl, .int_eq rfl, trivial⟩, trivial, rfl, rfl⟩
def m_l_FnLexed_L2 (l4 : List TToken) (v2 : Str) (y16 : Int) : Option ((Unit) ⊕ Bool) :=
  (if y16 < (l4.length : Int) then
    idx l4 y16 >>= fun x20 =>
    m_i_TokenText x20 >>= fun v22 =>
    (
      idx l4 y16 >>= fun x28 =>
      some x28.fAt
     : Option (Int)) >>= fun y24 =>
    ((
      (if y24 < 0 then
        some (.inr (.inr false))
      else
        (if y24 ≥ (v2.length : Int) then
          some (.inr (.inr false))
        else
          (if y16 > 0 then
            idx l4 (W64 (y16 - 1)) >>= fun x38 =>
            (if x38.fAt ≥ y24 then
              some (.inr (.inr false))
            else
              some (.inl (true, (decide (x38.fAt ≥ y24)))))
          else
            some (.inl (false, false)))))
     : Option ((Bool × Bool) ⊕ ((Unit) ⊕ Bool))) >>= fun o32 => match o32 with
      | .inr r => some r
      | .inl (b30, b31) =>
        (
          sidx v2 y24 >>= fun c45 =>
          (if (c45.toNat : Int) = 63 then
            (if v22 = ([59] : Str) then
              some true
            else
              sidx v2 y24 >>= fun c49 =>
              (if (c49.toNat : Int) = 60 then
                some (v22 == ([101, 99, 104, 111] : Str))
              else
                some false))
          else
            sidx v2 y24 >>= fun c52 =>
            (if (c52.toNat : Int) = 60 then
              some (v22 == ([101, 99, 104, 111] : Str))
            else
              some false))
         : Option (Bool)) >>= fun b41 =>
        idx l4 y16 >>= fun x55 =>
        (if x55.fKind = 5 then
          m_l_FnLexed_L2 l4 v2 (W64 (y16 + 1))
        else
          (if b41 = true then
            m_l_FnLexed_L2 l4 v2 (W64 (y16 + 1))
          else
            (if (v22.length : Int) > (W64 ((v2.length : Int) - y24)) then
              some (.inr false)
            else
              ssub v2 y24 (W64 (y24 + (v22.length : Int))) >>= fun s60 =>
              (if s60 = v22 then
                m_l_FnLexed_L2 l4 v2 (W64 (y16 + 1))
              else
                some (.inr false)))))
    )
  else
    some (.inl ()))
partial_fixpoint
def m_l_FnLexed (a0 : List UInt8) : Option (Bool) :=
  (if (a0.length : Int) > 1048576 then
    some true
  else
    m_s_DrawLex a0 >>= fun v2 =>
    (
      m_i_Lex v2 >>= fun (v9, v10, v11) =>
      some (v9, v10)
     : Option ((List TToken) × Int)) >>= fun (l4, y5) =>
    ((
      m_l_FnLexed_L2 l4 v2 0
     : Option ((Unit) ⊕ Bool)) >>= fun o13 => match o13 with
      | .inr r => some r
      | .inl _ =>
        m_s_DrawQuoteText a0 >>= fun v67 =>
        (
          m_i_QuoteText v67 >>= fun v74 =>
          scat [60, 63, 32] v74 >>= fun s76 =>
          m_i_Lex s76 >>= fun (v78, v79, v80) =>
          some (v78, v79)
         : Option ((List TToken) × Int)) >>= fun (l69, y70) =>
        (if y5 = 0 then
          (if y70 = 0 then
            (if (l69.length : Int) = 1 then
              idx l69 0 >>= fun x85 =>
              (if x85.fKind = 5 then
                idx l69 0 >>= fun x88 =>
                some (x88.fText == v67)
              else
                some false)
            else
              some false)
          else
            some false)
        else
          (if (l4.length : Int) = 0 then
            (if y70 = 0 then
              (if (l69.length : Int) = 1 then
                idx l69 0 >>= fun x93 =>
                (if x93.fKind = 5 then
                  idx l69 0 >>= fun x96 =>
                  some (x96.fText == v67)
                else
                  some false)
              else
                some false)
            else
              some false)
          else
            some false))
    ))
theorem ok_l_FnLexed {a0 : List UInt8} {r : Bool} (h : m_l_FnLexed a0 = some r) : ACall Tryd.prog 3 [sl 1 cB a0] [] (fun res h => res = .bool r ∧ h = []) := by
  refine ACall.of_vc tabT_ok mixed Tryd.func3 rfl (by kernel_rfl) _ _ _ rfl (by kernel_rfl) ?_
  unfold m_l_FnLexed at h
  refine .direct ?_
  refine .direct ?_
  refine .direct ?_
  refine ⟨_, ACall.pure0 (ok_l_bigx a0) _ rfl (fun _ => rfl), ?_⟩
  rintro _ _ ⟨rfl, rfl⟩
  refine splitB.mk (fun hb1 => ?_) (fun hb1 => ?_)
  · replace h := T_dec hb1 h
    refine .direct ?_
    obtain rfl := Option.some.inj h
    exact ⟨[], .bool true, [], by decide, (show 0 ≤ 0 by decide), .bool_eq rfl, trivial, rfl, rfl⟩
  · replace h := F_dec hb1 h
    refine .direct ?_
    obtain ⟨v2, hv3, h⟩ := bind_some h
    refine ⟨_, ACall.pure0 (ok_s_DrawLex hv3) _ rfl (fun _ => rfl), ?_⟩
    rintro _ _ ⟨rfl, rfl⟩
    obtain ⟨o6, ho7, hk8⟩ := bind_some h
    replace h := ho7
    refine .cut (fun σ η => ∃ l4, ∃ y5, (l4, y5) = o6 ∧ σ = [(0, sl 1 cB a0), (3, .str v2), (4, sl 4 TToken.cells l4), (5, .int .i64 y5)] ∧ η = []) ?_ ?_
    · obtain ⟨⟨v9, v10, v11⟩, hv12, h⟩ := bind_some h
      refine ⟨_, ACall.pure0 (ok_i_Lex hv12) _ rfl (fun _ => rfl), ?_⟩
      rintro _ _ ⟨rfl, rfl⟩
      exact ⟨[(0, sl 1 cB a0), (3, .str v2), (4, sl 4 TToken.cells v9), (5, .int .i64 v10)], [], ⟨[], by decide, (show 0 ≤ 0 by decide), ⟨.slc_eq rfl (fun _ _ => rfl), .str_eq rfl, .slc_eq rfl (fun _ _ => rfl), .int_eq rfl, trivial⟩, trivial⟩, v9, v10, Option.some.inj h, rfl, rfl⟩
    · rintro _ _ ⟨l4, y5, rfl, rfl, rfl⟩
      replace h := hk8
      obtain ⟨o13, ho14, hk15⟩ := bind_some h
      replace h := ho14
      refine .cut (fun σ η => .inl () = o13 ∧ σ = [(0, sl 1 cB a0), (4, sl 4 TToken.cells l4), (5, .int .i64 y5)] ∧ η = []) ?_ ?_
      · refine .direct ?_
        refine LoopAt.enter [(0, sl 1 cB a0), (3, .str v2), (4, sl 4 TToken.cells l4), (5, .int .i64 y5), (7, .int .i64 0)] [] ⟨[], by decide, (show 0 ≤ 0 by decide), ⟨.slc_eq rfl (fun _ _ => rfl), .str_eq rfl, .slc_eq rfl (fun _ _ => rfl), .int_eq rfl, .int_eq rfl, trivial⟩, trivial⟩ ?_
        refine m_l_FnLexed_L2.partial_correctness l4 v2 (motive := fun y16 o65 => o13 = o65 → LoopAt _ _ [(0, sl 1 cB a0), (3, .str v2), (4, sl 4 TToken.cells l4), (5, .int .i64 y5), (7, .int .i64 y16)] []) ?_ 0 o13 h rfl
        intro F18 ih17 y16 o65 h hr66
        subst hr66
        refine LoopAt.round ?_
        refine .direct ?_
        refine .direct ?_
        refine splitB.mk (fun hb19 => ?_) (fun hb19 => ?_)
        · replace h := T_dec hb19 h
          refine .direct ?_
          refine .direct ?_
          obtain ⟨x20, hx21, h⟩ := bind_some h
          refine ⟨idx_bd hx21, _, (idx_row hx21).trans (TToken.cells_eq x20), ?_⟩
          obtain ⟨v22, hv23, h⟩ := bind_some h
          refine ⟨_, ACall.pure0 (ok_i_TokenText hv23) _ rfl (fun _ => rfl), ?_⟩
          rintro _ _ ⟨rfl, rfl⟩
          obtain ⟨o25, ho26, hk27⟩ := bind_some h
          replace h := ho26
          refine .cut (fun σ η => ∃ y24, y24 = o25 ∧ σ = [(0, sl 1 cB a0), (3, .str v2), (4, sl 4 TToken.cells l4), (5, .int .i64 y5), (7, .int .i64 y16), (8, .str v22), (9, .int .i64 y24)] ∧ η = []) ?_ ?_
          · obtain ⟨x28, hx29, h⟩ := bind_some h
            refine ⟨idx_bd hx29, _, (idx_row hx29).trans (TToken.cells_eq x28), ?_⟩
            exact ⟨[(0, sl 1 cB a0), (3, .str v2), (4, sl 4 TToken.cells l4), (5, .int .i64 y5), (7, .int .i64 y16), (8, .str v22), (9, .int .i64 x28.fAt)], [], ⟨[], by decide, (show 0 ≤ 0 by decide), ⟨.slc_eq rfl (fun _ _ => rfl), .str_eq rfl, .slc_eq rfl (fun _ _ => rfl), .int_eq rfl, .int_eq rfl, .str_eq rfl, .int_eq rfl, trivial⟩, trivial⟩, x28.fAt, Option.some.inj h, rfl, rfl⟩
          · rintro _ _ ⟨y24, rfl, rfl, rfl⟩
            replace h := hk27
            obtain ⟨o32, ho33, hk34⟩ := bind_some h
            replace h := ho33
            refine .cut (fun σ η => ∃ b30, ∃ b31, .inl (b30, b31) = o32 ∧ σ = [(0, sl 1 cB a0), (3, .str v2), (4, sl 4 TToken.cells l4), (5, .int .i64 y5), (7, .int .i64 y16), (8, .str v22), (9, .int .i64 y24), (44, .int .i64 y24), (45, .str v2), (46, .int .i64 (v2.length : Int)), (47, .bool (decide (y24 ≥ (v2.length : Int)))), (50, .int .i64 y16), (51, .bool (decide (y16 > 0))), (52, .bool b30), (61, .bool b31)] ∧ η = []) ?_ ?_
            · refine .direct ?_
              refine splitB.mk (fun hb35 => ?_) (fun hb35 => ?_)
              · replace h := T_dec hb35 h
                refine splitB_t ?_
                refine splitB_t ?_
                refine splitB_t ?_
                refine splitB_t ?_
                refine splitB_t ?_
                refine splitB_t ?_
                refine splitB_t ?_
                refine splitB_t ?_
                refine splitB_t ?_
                refine splitB_t ?_
                refine .direct ?_
                obtain rfl := Option.some.inj h
                replace h := hk34
                obtain rfl := Option.some.inj h
                replace h := hk15
                obtain rfl := Option.some.inj h
                exact ⟨[], .bool false, [], by decide, (show 0 ≤ 0 by decide), .bool_eq rfl, trivial, rfl, rfl⟩
              · replace h := F_dec hb35 h
                refine splitB_f ?_
                refine splitB_f ?_
                refine splitB_f ?_
                refine splitB_f ?_
                refine splitB.mk (fun hb36 => ?_) (fun hb36 => ?_)
                · replace h := T_dec hb36 h
                  refine splitB_t ?_
                  refine splitB_t ?_
                  refine splitB_t ?_
                  refine splitB_t ?_
                  refine splitB_t ?_
                  refine .direct ?_
                  obtain rfl := Option.some.inj h
                  replace h := hk34
                  obtain rfl := Option.some.inj h
                  replace h := hk15
                  obtain rfl := Option.some.inj h
                  exact ⟨[], .bool false, [], by decide, (show 0 ≤ 0 by decide), .bool_eq rfl, trivial, rfl, rfl⟩
                · replace h := F_dec hb36 h
                  refine splitB_f ?_
                  refine splitB_f ?_
                  refine splitB.mk (fun hb37 => ?_) (fun hb37 => ?_)
                  · replace h := T_dec hb37 h
                    refine splitB_t ?_
                    refine splitB_t ?_
                    refine splitB_t ?_
                    obtain ⟨x38, hx39, h⟩ := bind_some h
                    refine ⟨idx_bd hx39, _, (idx_row hx39).trans (TToken.cells_eq x38), ?_⟩
                    refine splitB_t ?_
                    refine splitB_t ?_
                    refine splitB_t ?_
                    refine splitB_t ?_
                    refine splitB_f ?_
                    refine splitB_t ?_
                    refine splitB_f ?_
                    refine splitB.mk (fun hb40 => ?_) (fun hb40 => ?_)
                    · replace h := T_dec hb40 h
                      refine .direct ?_
                      obtain rfl := Option.some.inj h
                      replace h := hk34
                      obtain rfl := Option.some.inj h
                      replace h := hk15
                      obtain rfl := Option.some.inj h
                      exact ⟨[], .bool false, [], by decide, (show 0 ≤ 0 by decide), .bool_eq rfl, trivial, rfl, rfl⟩
                    · replace h := F_dec hb40 h
                      exact ⟨[(0, sl 1 cB a0), (3, .str v2), (4, sl 4 TToken.cells l4), (5, .int .i64 y5), (7, .int .i64 y16), (8, .str v22), (9, .int .i64 y24), (44, .int .i64 y24), (45, .str v2), (46, .int .i64 (v2.length : Int)), (47, .bool (decide (y24 ≥ (v2.length : Int)))), (50, .int .i64 y16), (51, .bool (decide (y16 > 0))), (52, .bool true), (61, .bool (decide (x38.fAt ≥ y24)))], [], ⟨[], by decide, (show 0 ≤ 0 by decide), ⟨.slc_eq rfl (fun _ _ => rfl), .str_eq rfl, .slc_eq rfl (fun _ _ => rfl), .int_eq rfl, .int_eq rfl, .str_eq rfl, .int_eq rfl, .int_eq rfl, .str_eq rfl, .int_eq rfl, .bool_eq rfl, .int_eq rfl, .bool_eq rfl, .bool_eq rfl, .bool_eq rfl, trivial⟩, trivial⟩, true, (decide (x38.fAt ≥ y24)), Option.some.inj h, rfl, rfl⟩
                  · replace h := F_dec hb37 h
                    refine splitB_f ?_
                    refine splitB_f ?_
                    refine splitB_f ?_
                    refine splitB_f ?_
                    refine splitB_f ?_
                    refine splitB_f ?_
                    refine splitB_f ?_
                    refine splitB_f ?_
                    refine splitB_f ?_
                    refine splitB_f ?_
                    refine splitB_f ?_
                    exact ⟨[(0, sl 1 cB a0), (3, .str v2), (4, sl 4 TToken.cells l4), (5, .int .i64 y5), (7, .int .i64 y16), (8, .str v22), (9, .int .i64 y24), (44, .int .i64 y24), (45, .str v2), (46, .int .i64 (v2.length : Int)), (47, .bool (decide (y24 ≥ (v2.length : Int)))), (50, .int .i64 y16), (51, .bool (decide (y16 > 0))), (52, .bool false), (61, .bool false)], [], ⟨[], by decide, (show 0 ≤ 0 by decide), ⟨.slc_eq rfl (fun _ _ => rfl), .str_eq rfl, .slc_eq rfl (fun _ _ => rfl), .int_eq rfl, .int_eq rfl, .str_eq rfl, .int_eq rfl, .int_eq rfl, .str_eq rfl, .int_eq rfl, .bool_eq rfl, .int_eq rfl, .bool_eq rfl, .bool_eq rfl, .bool_eq rfl, trivial⟩, trivial⟩, false, false, Option.some.inj h, rfl, rfl⟩
            · rintro _ _ ⟨b30, b31, rfl, rfl, rfl⟩
              replace h := hk34
              obtain ⟨o42, ho43, hk44⟩ := bind_some h
              replace h := ho43
              refine .cut (fun σ η => ∃ b41, b41 = o42 ∧ σ = [(0, sl 1 cB a0), (3, .str v2), (4, sl 4 TToken.cells l4), (5, .int .i64 y5), (7, .int .i64 y16), (8, .str v22), (9, .int .i64 y24), (10, .bool b41), (44, .int .i64 y24), (45, .str v2), (46, .int .i64 (v2.length : Int)), (47, .bool (decide (y24 ≥ (v2.length : Int)))), (50, .int .i64 y16), (51, .bool (decide (y16 > 0))), (52, .bool b30), (61, .bool b31)] ∧ η = []) ?_ ?_
              · obtain ⟨c45, hx46, h⟩ := bind_some h
                refine ⟨sidx_bd hx46, c45, sidx_at hx46, ?_⟩
                refine splitB.mk (fun hb47 => ?_) (fun hb47 => ?_)
                · replace h := T_beq hb47 h
                  refine splitB_t ?_
                  refine splitB_t ?_
                  refine splitB.mk (fun hb48 => ?_) (fun hb48 => ?_)
                  · replace h := T_beq hb48 h
                    refine splitB_t ?_
                    refine splitB_t ?_
                    refine splitB_t ?_
                    refine splitB_t ?_
                    refine splitB_t ?_
                    refine splitB_t ?_
                    exact ⟨[(0, sl 1 cB a0), (3, .str v2), (4, sl 4 TToken.cells l4), (5, .int .i64 y5), (7, .int .i64 y16), (8, .str v22), (9, .int .i64 y24), (10, .bool true), (44, .int .i64 y24), (45, .str v2), (46, .int .i64 (v2.length : Int)), (47, .bool (decide (y24 ≥ (v2.length : Int)))), (50, .int .i64 y16), (51, .bool (decide (y16 > 0))), (52, .bool b30), (61, .bool b31)], [], ⟨[], by decide, (show 0 ≤ 0 by decide), ⟨.slc_eq rfl (fun _ _ => rfl), .str_eq rfl, .slc_eq rfl (fun _ _ => rfl), .int_eq rfl, .int_eq rfl, .str_eq rfl, .int_eq rfl, .bool_eq rfl, .int_eq rfl, .str_eq rfl, .int_eq rfl, .bool_eq rfl, .int_eq rfl, .bool_eq rfl, .bool_eq rfl, .bool_eq rfl, trivial⟩, trivial⟩, true, Option.some.inj h, rfl, rfl⟩
                  · replace h := F_beq hb48 h
                    refine splitB_f ?_
                    refine splitB_f ?_
                    obtain ⟨c49, hx50, h⟩ := bind_some h
                    refine ⟨sidx_bd hx50, c49, sidx_at hx50, ?_⟩
                    refine splitB_f ?_
                    refine splitB_f ?_
                    refine splitB.mk (fun hb51 => ?_) (fun hb51 => ?_)
                    · replace h := T_beq hb51 h
                      refine splitB_t ?_
                      refine splitB_f ?_
                      refine splitB_t ?_
                      refine splitB_f ?_
                      exact ⟨[(0, sl 1 cB a0), (3, .str v2), (4, sl 4 TToken.cells l4), (5, .int .i64 y5), (7, .int .i64 y16), (8, .str v22), (9, .int .i64 y24), (10, .bool (v22 == ([101, 99, 104, 111] : Str))), (44, .int .i64 y24), (45, .str v2), (46, .int .i64 (v2.length : Int)), (47, .bool (decide (y24 ≥ (v2.length : Int)))), (50, .int .i64 y16), (51, .bool (decide (y16 > 0))), (52, .bool b30), (61, .bool b31)], [], ⟨[], by decide, (show 0 ≤ 0 by decide), ⟨.slc_eq rfl (fun _ _ => rfl), .str_eq rfl, .slc_eq rfl (fun _ _ => rfl), .int_eq rfl, .int_eq rfl, .str_eq rfl, .int_eq rfl, .bool_eq rfl, .int_eq rfl, .str_eq rfl, .int_eq rfl, .bool_eq rfl, .int_eq rfl, .bool_eq rfl, .bool_eq rfl, .bool_eq rfl, trivial⟩, trivial⟩, (v22 == ([101, 99, 104, 111] : Str)), Option.some.inj h, rfl, rfl⟩
                    · replace h := F_beq hb51 h
                      refine splitB_f ?_
                      refine splitB_f ?_
                      refine splitB_f ?_
                      refine splitB_f ?_
                      exact ⟨[(0, sl 1 cB a0), (3, .str v2), (4, sl 4 TToken.cells l4), (5, .int .i64 y5), (7, .int .i64 y16), (8, .str v22), (9, .int .i64 y24), (10, .bool false), (44, .int .i64 y24), (45, .str v2), (46, .int .i64 (v2.length : Int)), (47, .bool (decide (y24 ≥ (v2.length : Int)))), (50, .int .i64 y16), (51, .bool (decide (y16 > 0))), (52, .bool b30), (61, .bool b31)], [], ⟨[], by decide, (show 0 ≤ 0 by decide), ⟨.slc_eq rfl (fun _ _ => rfl), .str_eq rfl, .slc_eq rfl (fun _ _ => rfl), .int_eq rfl, .int_eq rfl, .str_eq rfl, .int_eq rfl, .bool_eq rfl, .int_eq rfl, .str_eq rfl, .int_eq rfl, .bool_eq rfl, .int_eq rfl, .bool_eq rfl, .bool_eq rfl, .bool_eq rfl, trivial⟩, trivial⟩, false, Option.some.inj h, rfl, rfl⟩
                · replace h := F_beq hb47 h
                  refine splitB_f ?_
                  refine splitB_f ?_
                  refine splitB_f ?_
                  refine splitB_f ?_
                  refine splitB_f ?_
                  obtain ⟨c52, hx53, h⟩ := bind_some h
                  refine ⟨sidx_bd hx53, c52, sidx_at hx53, ?_⟩
                  refine splitB_f ?_
                  refine splitB_f ?_
                  refine splitB.mk (fun hb54 => ?_) (fun hb54 => ?_)
                  · replace h := T_beq hb54 h
                    refine splitB_t ?_
                    refine splitB_f ?_
                    refine splitB_t ?_
                    refine splitB_f ?_
                    exact ⟨[(0, sl 1 cB a0), (3, .str v2), (4, sl 4 TToken.cells l4), (5, .int .i64 y5), (7, .int .i64 y16), (8, .str v22), (9, .int .i64 y24), (10, .bool (v22 == ([101, 99, 104, 111] : Str))), (44, .int .i64 y24), (45, .str v2), (46, .int .i64 (v2.length : Int)), (47, .bool (decide (y24 ≥ (v2.length : Int)))), (50, .int .i64 y16), (51, .bool (decide (y16 > 0))), (52, .bool b30), (61, .bool b31)], [], ⟨[], by decide, (show 0 ≤ 0 by decide), ⟨.slc_eq rfl (fun _ _ => rfl), .str_eq rfl, .slc_eq rfl (fun _ _ => rfl), .int_eq rfl, .int_eq rfl, .str_eq rfl, .int_eq rfl, .bool_eq rfl, .int_eq rfl, .str_eq rfl, .int_eq rfl, .bool_eq rfl, .int_eq rfl, .bool_eq rfl, .bool_eq rfl, .bool_eq rfl, trivial⟩, trivial⟩, (v22 == ([101, 99, 104, 111] : Str)), Option.some.inj h, rfl, rfl⟩
                  · replace h := F_beq hb54 h
                    refine splitB_f ?_
                    refine splitB_f ?_
                    refine splitB_f ?_
                    refine splitB_f ?_
                    exact ⟨[(0, sl 1 cB a0), (3, .str v2), (4, sl 4 TToken.cells l4), (5, .int .i64 y5), (7, .int .i64 y16), (8, .str v22), (9, .int .i64 y24), (10, .bool false), (44, .int .i64 y24), (45, .str v2), (46, .int .i64 (v2.length : Int)), (47, .bool (decide (y24 ≥ (v2.length : Int)))), (50, .int .i64 y16), (51, .bool (decide (y16 > 0))), (52, .bool b30), (61, .bool b31)], [], ⟨[], by decide, (show 0 ≤ 0 by decide), ⟨.slc_eq rfl (fun _ _ => rfl), .str_eq rfl, .slc_eq rfl (fun _ _ => rfl), .int_eq rfl, .int_eq rfl, .str_eq rfl, .int_eq rfl, .bool_eq rfl, .int_eq rfl, .str_eq rfl, .int_eq rfl, .bool_eq rfl, .int_eq rfl, .bool_eq rfl, .bool_eq rfl, .bool_eq rfl, trivial⟩, trivial⟩, false, Option.some.inj h, rfl, rfl⟩
              · rintro _ _ ⟨b41, rfl, rfl, rfl⟩
                replace h := hk44
                refine .direct ?_
                obtain ⟨x55, hx56, h⟩ := bind_some h
                refine ⟨idx_bd hx56, _, (idx_row hx56).trans (TToken.cells_eq x55), ?_⟩
                refine splitB.mk (fun hb57 => ?_) (fun hb57 => ?_)
                · replace h := T_bne hb57 h
                  refine splitB_t ?_
                  refine splitB_t ?_
                  refine splitB.mk (fun hb58 => ?_) (fun hb58 => ?_)
                  · have hb64 := not_F hb58
                    replace h := F_var hb64 h
                    refine splitB_t ?_
                    refine splitB_t ?_
                    refine splitB_t ?_
                    refine splitB_t ?_
                    refine splitB_t ?_
                    refine splitB_t ?_
                    refine splitB_t ?_
                    refine splitB.mk (fun hb59 => ?_) (fun hb59 => ?_)
                    · replace h := T_dec hb59 h
                      refine splitB_t ?_
                      refine splitB_t ?_
                      refine splitB_t ?_
                      refine splitB_t ?_
                      refine splitB_t ?_
                      refine splitB_t ?_
                      refine splitB_t ?_
                      refine splitB_t ?_
                      refine splitB_t ?_
                      refine splitB_t ?_
                      refine splitB_t ?_
                      refine splitB_t ?_
                      refine .direct ?_
                      obtain rfl := Option.some.inj h
                      replace h := hk15
                      obtain rfl := Option.some.inj h
                      exact ⟨[], .bool false, [], by decide, (show 0 ≤ 0 by decide), .bool_eq rfl, trivial, rfl, rfl⟩
                    · replace h := F_dec hb59 h
                      refine splitB_f ?_
                      refine splitB_f ?_
                      refine splitB_f ?_
                      refine splitB_f ?_
                      refine splitB_f ?_
                      refine splitB_f ?_
                      obtain ⟨s60, hx61, h⟩ := bind_some h
                      refine ⟨ssub_bd hx61, s60, ssub_at hx61, ?_⟩
                      refine splitB_f ?_
                      refine splitB_f ?_
                      refine splitB_t ?_
                      refine splitB_f ?_
                      refine splitB_t ?_
                      refine splitB.mk (fun hb62 => ?_) (fun hb62 => ?_)
                      · have hb63 := not_F hb62
                        replace h := F_beq hb63 h
                        refine .direct ?_
                        obtain rfl := Option.some.inj h
                        replace h := hk15
                        obtain rfl := Option.some.inj h
                        exact ⟨[], .bool false, [], by decide, (show 0 ≤ 0 by decide), .bool_eq rfl, trivial, rfl, rfl⟩
                      · have hb63 := not_T hb62
                        replace h := T_beq hb63 h
                        exact ⟨[(0, sl 1 cB a0), (3, .str v2), (4, sl 4 TToken.cells l4), (5, .int .i64 y5), (7, .int .i64 (W64 (y16 + 1)))], [], ⟨[], by decide, (show 0 ≤ 0 by decide), ⟨.slc_eq rfl (fun _ _ => rfl), .str_eq rfl, .slc_eq rfl (fun _ _ => rfl), .int_eq rfl, .int_eq rfl, trivial⟩, trivial⟩, ih17 _ _ h rfl⟩
                  · have hb64 := not_T hb58
                    replace h := T_var hb64 h
                    refine splitB_f ?_
                    refine splitB_f ?_
                    refine splitB_f ?_
                    refine splitB_f ?_
                    refine splitB_f ?_
                    refine splitB_f ?_
                    refine splitB_f ?_
                    refine splitB_f ?_
                    refine splitB_f ?_
                    refine splitB_f ?_
                    exact ⟨[(0, sl 1 cB a0), (3, .str v2), (4, sl 4 TToken.cells l4), (5, .int .i64 y5), (7, .int .i64 (W64 (y16 + 1)))], [], ⟨[], by decide, (show 0 ≤ 0 by decide), ⟨.slc_eq rfl (fun _ _ => rfl), .str_eq rfl, .slc_eq rfl (fun _ _ => rfl), .int_eq rfl, .int_eq rfl, trivial⟩, trivial⟩, ih17 _ _ h rfl⟩
                · replace h := F_bne hb57 h
                  refine splitB_f ?_
                  refine splitB_f ?_
                  refine splitB_f ?_
                  refine splitB_f ?_
                  refine splitB_f ?_
                  refine splitB_f ?_
                  refine splitB_f ?_
                  refine splitB_f ?_
                  refine splitB_f ?_
                  refine splitB_f ?_
                  refine splitB_f ?_
                  refine splitB_f ?_
                  refine splitB_f ?_
                  exact ⟨[(0, sl 1 cB a0), (3, .str v2), (4, sl 4 TToken.cells l4), (5, .int .i64 y5), (7, .int .i64 (W64 (y16 + 1)))], [], ⟨[], by decide, (show 0 ≤ 0 by decide), ⟨.slc_eq rfl (fun _ _ => rfl), .str_eq rfl, .slc_eq rfl (fun _ _ => rfl), .int_eq rfl, .int_eq rfl, trivial⟩, trivial⟩, ih17 _ _ h rfl⟩
        · replace h := F_dec hb19 h
          exact ⟨[(0, sl 1 cB a0), (4, sl 4 TToken.cells l4), (5, .int .i64 y5)], [], ⟨[], by decide, (show 0 ≤ 0 by decide), ⟨.slc_eq rfl (fun _ _ => rfl), .slc_eq rfl (fun _ _ => rfl), .int_eq rfl, trivial⟩, trivial⟩, Option.some.inj h, rfl, rfl⟩
      · rintro _ _ ⟨rfl, rfl, rfl⟩
        replace h := hk15
        refine .direct ?_
        obtain ⟨v67, hv68, h⟩ := bind_some h
        refine ⟨_, ACall.pure0 (ok_s_DrawQuoteText hv68) _ rfl (fun _ => rfl), ?_⟩
        rintro _ _ ⟨rfl, rfl⟩
        obtain ⟨o71, ho72, hk73⟩ := bind_some h
        replace h := ho72
        refine .cut (fun σ η => ∃ l69, ∃ y70, (l69, y70) = o71 ∧ σ = [(4, sl 4 TToken.cells l4), (5, .int .i64 y5), (11, .str v67), (12, sl 4 TToken.cells l69), (13, .int .i64 y70)] ∧ η = []) ?_ ?_
        · obtain ⟨v74, hv75, h⟩ := bind_some h
          refine ⟨_, ACall.pure0 (ok_i_QuoteText hv75) _ rfl (fun _ => rfl), ?_⟩
          rintro _ _ ⟨rfl, rfl⟩
          obtain ⟨s76, hx77, h⟩ := bind_some h
          refine ⟨scat_bd hx77, s76, scat_at hx77, ?_⟩
          obtain ⟨⟨v78, v79, v80⟩, hv81, h⟩ := bind_some h
          refine ⟨_, ACall.pure0 (ok_i_Lex hv81) _ rfl (fun _ => rfl), ?_⟩
          rintro _ _ ⟨rfl, rfl⟩
          exact ⟨[(4, sl 4 TToken.cells l4), (5, .int .i64 y5), (11, .str v67), (12, sl 4 TToken.cells v78), (13, .int .i64 v79)], [], ⟨[], by decide, (show 0 ≤ 0 by decide), ⟨.slc_eq rfl (fun _ _ => rfl), .int_eq rfl, .str_eq rfl, .slc_eq rfl (fun _ _ => rfl), .int_eq rfl, trivial⟩, trivial⟩, v78, v79, Option.some.inj h, rfl, rfl⟩
        · rintro _ _ ⟨l69, y70, rfl, rfl, rfl⟩
          replace h := hk73
          refine .direct ?_
          refine splitB.mk (fun hb82 => ?_) (fun hb82 => ?_)
          · replace h := T_beq hb82 h
            refine splitB_t ?_
            refine splitB_t ?_
            refine splitB_t ?_
            refine splitB_t ?_
            refine splitB_t ?_
            refine splitB_t ?_
            refine splitB.mk (fun hb83 => ?_) (fun hb83 => ?_)
            · replace h := T_beq hb83 h
              refine splitB_t ?_
              refine splitB_t ?_
              refine splitB_t ?_
              refine splitB.mk (fun hb84 => ?_) (fun hb84 => ?_)
              · replace h := T_beq hb84 h
                refine splitB_t ?_
                obtain ⟨x85, hx86, h⟩ := bind_some h
                refine ⟨idx_bd hx86, _, (idx_row hx86).trans (TToken.cells_eq x85), ?_⟩
                refine splitB_t ?_
                refine splitB_t ?_
                refine splitB_t ?_
                refine splitB_t ?_
                refine splitB.mk (fun hb87 => ?_) (fun hb87 => ?_)
                · replace h := T_beq hb87 h
                  refine splitB_t ?_
                  obtain ⟨x88, hx89, h⟩ := bind_some h
                  refine ⟨idx_bd hx89, _, (idx_row hx89).trans (TToken.cells_eq x88), ?_⟩
                  refine splitB_t ?_
                  refine splitB_t ?_
                  refine splitB_t ?_
                  refine splitB_t ?_
                  refine splitB_t ?_
                  obtain rfl := Option.some.inj h
                  exact ⟨[], .bool (x88.fText == v67), [], by decide, (show 0 ≤ 0 by decide), .bool_eq rfl, trivial, rfl, rfl⟩
                · replace h := F_beq hb87 h
                  refine splitB_f ?_
                  refine splitB_f ?_
                  refine splitB_f ?_
                  refine splitB_f ?_
                  refine splitB_f ?_
                  refine splitB_f ?_
                  obtain rfl := Option.some.inj h
                  exact ⟨[], .bool false, [], by decide, (show 0 ≤ 0 by decide), .bool_eq rfl, trivial, rfl, rfl⟩
              · replace h := F_beq hb84 h
                refine splitB_f ?_
                refine splitB_f ?_
                refine splitB_f ?_
                refine splitB_f ?_
                refine splitB_f ?_
                refine splitB_f ?_
                refine splitB_f ?_
                refine splitB_f ?_
                refine splitB_f ?_
                refine splitB_f ?_
                refine splitB_f ?_
                refine splitB_f ?_
                obtain rfl := Option.some.inj h
                exact ⟨[], .bool false, [], by decide, (show 0 ≤ 0 by decide), .bool_eq rfl, trivial, rfl, rfl⟩
            · replace h := F_beq hb83 h
              refine splitB_f ?_
              refine splitB_f ?_
              refine splitB_f ?_
              refine splitB_f ?_
              refine splitB_f ?_
              refine splitB_f ?_
              refine splitB_f ?_
              refine splitB_f ?_
              refine splitB_f ?_
              refine splitB_f ?_
              refine splitB_f ?_
              refine splitB_f ?_
              refine splitB_f ?_
              refine splitB_f ?_
              refine splitB_f ?_
              refine splitB_f ?_
              obtain rfl := Option.some.inj h
              exact ⟨[], .bool false, [], by decide, (show 0 ≤ 0 by decide), .bool_eq rfl, trivial, rfl, rfl⟩
          · replace h := F_beq hb82 h
            refine splitB_f ?_
            refine splitB_f ?_
            refine splitB_f ?_
            refine splitB.mk (fun hb90 => ?_) (fun hb90 => ?_)
            · replace h := T_beq hb90 h
              refine splitB_t ?_
              refine splitB_t ?_
              refine splitB.mk (fun hb91 => ?_) (fun hb91 => ?_)
              · replace h := T_beq hb91 h
                refine splitB_t ?_
                refine splitB_t ?_
                refine splitB_t ?_
                refine splitB.mk (fun hb92 => ?_) (fun hb92 => ?_)
                · replace h := T_beq hb92 h
                  refine splitB_t ?_
                  obtain ⟨x93, hx94, h⟩ := bind_some h
                  refine ⟨idx_bd hx94, _, (idx_row hx94).trans (TToken.cells_eq x93), ?_⟩
                  refine splitB_t ?_
                  refine splitB_t ?_
                  refine splitB_t ?_
                  refine splitB_t ?_
                  refine splitB.mk (fun hb95 => ?_) (fun hb95 => ?_)
                  · replace h := T_beq hb95 h
                    refine splitB_t ?_
                    obtain ⟨x96, hx97, h⟩ := bind_some h
                    refine ⟨idx_bd hx97, _, (idx_row hx97).trans (TToken.cells_eq x96), ?_⟩
                    refine splitB_t ?_
                    refine splitB_t ?_
                    refine splitB_t ?_
                    refine splitB_t ?_
                    refine splitB_t ?_
                    obtain rfl := Option.some.inj h
                    exact ⟨[], .bool (x96.fText == v67), [], by decide, (show 0 ≤ 0 by decide), .bool_eq rfl, trivial, rfl, rfl⟩
                  · replace h := F_beq hb95 h
                    refine splitB_f ?_
                    refine splitB_f ?_
                    refine splitB_f ?_
                    refine splitB_f ?_
                    refine splitB_f ?_
                    refine splitB_f ?_
                    obtain rfl := Option.some.inj h
                    exact ⟨[], .bool false, [], by decide, (show 0 ≤ 0 by decide), .bool_eq rfl, trivial, rfl, rfl⟩
                · replace h := F_beq hb92 h
                  refine splitB_f ?_
                  refine splitB_f ?_
                  refine splitB_f ?_
                  refine splitB_f ?_
                  refine splitB_f ?_
                  refine splitB_f ?_
                  refine splitB_f ?_
                  refine splitB_f ?_
                  refine splitB_f ?_
                  refine splitB_f ?_
                  refine splitB_f ?_
                  refine splitB_f ?_
                  obtain rfl := Option.some.inj h
                  exact ⟨[], .bool false, [], by decide, (show 0 ≤ 0 by decide), .bool_eq rfl, trivial, rfl, rfl⟩
              · replace h := F_beq hb91 h
                refine splitB_f ?_
                refine splitB_f ?_
                refine splitB_f ?_
                refine splitB_f ?_
                refine splitB_f ?_
                refine splitB_f ?_
                refine splitB_f ?_
                refine splitB_f ?_
                refine splitB_f ?_
                refine splitB_f ?_
                refine splitB_f ?_
                refine splitB_f ?_
                refine splitB_f ?_
                refine splitB_f ?_
                refine splitB_f ?_
                refine splitB_f ?_
                obtain rfl := Option.some.inj h
                exact ⟨[], .bool false, [], by decide, (show 0 ≤ 0 by decide), .bool_eq rfl, trivial, rfl, rfl⟩
            · replace h := F_beq hb90 h
              refine splitB_f ?_
              refine splitB_f ?_
              refine splitB_f ?_
              refine splitB_f ?_
              refine splitB_f ?_
              refine splitB_f ?_
              refine splitB_f ?_
              refine splitB_f ?_
              refine splitB_f ?_
              refine splitB_f ?_
              refine splitB_f ?_
              refine splitB_f ?_
              refine splitB_f ?_
              refine splitB_f ?_
              refine splitB_f ?_
              refine splitB_f ?_
              refine splitB_f ?_
              refine splitB_f ?_
              refine splitB_f ?_
              obtain rfl := Option.some.inj h
              exact ⟨[], .bool false, [], by decide, (show 0 ≤ 0 by decide), .bool_eq rfl, trivial, rfl, rfl⟩
end Go.Am
