/- Models of Go functions, and their walks. (Printed by tools/mg.py.) -/
import Derived.Test.YtbdanphebcjmmaaDoorA1
set_option linter.unusedVariables false
set_option linter.unusedSimpArgs false
namespace Go.Am
open Go Go.RowKit Go.Proofs

def m_i_lexeradd (a0 : TLexer) (a1 : Int) (a2 : Int) (a3 : Str) (a4 : Int) : Option (TLexer) :=
  lapp 40 a0.fOut ([(TToken.mk a1 a2 a3 a0.fAt)] : List TToken) >>= fun l1 =>
  some (TLexer.mk a0.fS (W64 (a0.fAt + a4)) l1 a0.fCode)
theorem ok_i_lexeradd {a0 : TLexer} {a1 : Int} {a2 : Int} {a3 : Str} {a4 : Int} {r : TLexer} {g1000 : Nat} {g1001 : Nat} (h : m_i_lexeradd a0 a1 a2 a3 a4 = some r) : ACall Tryd.prog 21 [.optr 0 g1000 0 0, .int .i64 a1, .int .i64 a2, .str a3, .int .i64 a4] [.row g1000 4 1 40 (fun _ => [.str a0.fS, .int .i64 a0.fAt, .own 1 g1001 0 a0.fOut.length, .int .i64 a0.fCode]), .row g1001 4 a0.fOut.length 30 (row TToken.cells a0.fOut)] (fun res h => ∃ G1 : Nat, res = .tup [] ∧ h = [.row g1000 4 1 40 (fun _ => [.str r.fS, .int .i64 r.fAt, .own 1 G1 0 r.fOut.length, .int .i64 r.fCode]), .row G1 4 r.fOut.length 30 (row TToken.cells r.fOut)]) := by
  refine ACall.of_vc tabT_ok mixed Tryd.func21 rfl (by kernel_rfl) _ _ _ rfl (by kernel_rfl) ?_
  unfold m_i_lexeradd at h
  refine .direct ?_
  refine .float [(0, true), (1, true), (2, true), (3, true), (4, true), (5, true), (6, true), (7, true), (8, true), (9, true), (10, true), (11, true), (12, true), (13, false), (14, false), (15, true), (16, true), (17, false)] (by kernel_rfl) ?_
  refine ⟨rfl, ?_⟩
  refine ⟨rfl, ?_⟩
  refine ⟨rfl, _, rfl, ?_⟩
  refine ⟨rfl, ?_⟩
  refine ⟨rfl, ?_⟩
  refine ⟨rfl, _, rfl, ?_⟩
  refine ⟨row TToken.cells ([(TToken.mk a1 a2 a3 a0.fAt)] : List TToken), row_lit TToken.cells ([(TToken.mk a1 a2 a3 a0.fAt)] : List TToken) rfl (cll_refl rfl), ?_⟩
  refine ⟨rfl, ?_⟩
  refine ⟨rfl, ?_⟩
  refine ⟨rfl, ?_⟩
  obtain ⟨l1, hx2, h⟩ := bind_some h
  refine ⟨rfl, rfl, lapp_bd hx2, l1.length, row TToken.cells l1, lapp_len hx2, lapp_row hx2 shows_all (src_own shows_all), ?_⟩
  refine ⟨rfl, ?_⟩
  refine ⟨rfl, ?_⟩
  refine ⟨rfl, _, fun _ => [.str a0.fS, .int .i64 a0.fAt, .own 1 (g1001 + 1) 0 l1.length, .int .i64 a0.fCode], rfl, one_set rfl, ?_⟩
  refine ⟨rfl, ?_⟩
  refine ⟨rfl, ?_⟩
  refine ⟨rfl, _, rfl, ?_⟩
  refine ⟨rfl, ?_⟩
  refine ⟨rfl, ?_⟩
  refine ⟨rfl, _, fun _ => [.str a0.fS, .int .i64 (W64 (a0.fAt + a4)), .own 1 (g1001 + 1) 0 l1.length, .int .i64 a0.fCode], rfl, one_set rfl, ?_⟩
  obtain rfl := Option.some.inj h
  exact ⟨[0, 1], .tup [], [.row g1000 4 1 40 (fun _ => [.str ((TLexer.mk a0.fS (W64 (a0.fAt + a4)) l1 a0.fCode).fS), .int .i64 ((TLexer.mk a0.fS (W64 (a0.fAt + a4)) l1 a0.fCode).fAt), .own 1 (g1001 + 1) 0 ((TLexer.mk a0.fS (W64 (a0.fAt + a4)) l1 a0.fCode).fOut).length, .int .i64 ((TLexer.mk a0.fS (W64 (a0.fAt + a4)) l1 a0.fCode).fCode)]), .row (g1001 + 1) 4 ((TLexer.mk a0.fS (W64 (a0.fAt + a4)) l1 a0.fCode).fOut).length 30 (row TToken.cells ((TLexer.mk a0.fS (W64 (a0.fAt + a4)) l1 a0.fCode).fOut))], by decide, (show 2 ≤ 2 by decide), (.tup_l trivial), ⟨⟨fun _ => ⟨rfl, rfl⟩, rfl, rfl, rfl, fun _ _ => ⟨.str_eq rfl, .int_eq rfl, .own_eq rfl ⟨_, _, _, _, rfl⟩ ⟨_, _, _, _, rfl⟩ rfl rfl, .int_eq rfl, trivial⟩⟩, ⟨fun _ => ⟨rfl, rfl⟩, rfl, rfl, rfl, fz_row TToken.cells_pure⟩, trivial⟩, (g1001 + 1), rfl, rfl⟩
def m_i_lexerinline (a0 : TLexer) : Option (TLexer) :=
  sfrom a0.fS a0.fAt >>= fun s1 =>
  m64 s1 [60, 63] >>= fun v3 =>
  (
    (if v3 < 0 then
      some (s1.length : Int)
    else
      some v3)
   : Option (Int)) >>= fun y5 =>
  (
    (if y5 > 0 then
      sto s1 y5 >>= fun s19 =>
      m_i_lexeradd a0 1 0 s19 y5 >>= fun v21 =>
      some (v21.fS, v21.fAt, v21.fCode, v21.fOut)
    else
      some (a0.fS, a0.fAt, a0.fCode, a0.fOut))
   : Option (Str × Int × Int × (List TToken))) >>= fun (s10, y11, y12, l14) =>
  (if y11 = (s10.length : Int) then
    some (TLexer.mk s10 y11 l14 y12)
  else
    sfrom s10 y11 >>= fun s25 =>
    m66 s25 [60, 63, 61] >>= fun v27 =>
    (if v27 = true then
      m_i_lexeradd (TLexer.mk s10 y11 l14 y12) 3 0 [101, 99, 104, 111] 3 >>= fun v30 =>
      some v30
    else
      some (TLexer.mk s10 (W64 (y11 + 2)) l14 y12)))
theorem ok_i_lexerinline {a0 : TLexer} {r : TLexer} {g1000 : Nat} {g1001 : Nat} (h : m_i_lexerinline a0 = some r) : ACall Tryd.prog 15 [.optr 0 g1000 0 0] [.row g1000 4 1 40 (fun _ => [.str a0.fS, .int .i64 a0.fAt, .own 1 g1001 0 a0.fOut.length, .int .i64 a0.fCode]), .row g1001 4 a0.fOut.length 30 (row TToken.cells a0.fOut)] (fun res h => ∃ G1 : Nat, res = .tup [] ∧ h = [.row g1000 4 1 40 (fun _ => [.str r.fS, .int .i64 r.fAt, .own 1 G1 0 r.fOut.length, .int .i64 r.fCode]), .row G1 4 r.fOut.length 30 (row TToken.cells r.fOut)]) := by
  refine ACall.of_vc tabT_ok mixed Tryd.func15 rfl (by kernel_rfl) _ _ _ rfl (by kernel_rfl) ?_
  unfold m_i_lexerinline at h
  refine .direct ?_
  refine ⟨rfl, ?_⟩
  refine ⟨rfl, ?_⟩
  refine ⟨rfl, _, rfl, ?_⟩
  refine ⟨rfl, ?_⟩
  refine ⟨rfl, ?_⟩
  refine ⟨rfl, _, rfl, ?_⟩
  obtain ⟨s1, hx2, h⟩ := bind_some h
  refine ⟨sfrom_bd hx2, s1, sfrom_at hx2, ?_⟩
  refine .direct ?_
  obtain ⟨v3, hv4, h⟩ := bind_some h
  refine ⟨_, ACall.pure0 (ok64 hv4) _ rfl (fun _ => rfl), ?_⟩
  rintro _ _ ⟨rfl, rfl⟩
  obtain ⟨o6, ho7, hk8⟩ := bind_some h
  replace h := ho7
  refine .cut (fun σ η => ∃ y5, y5 = o6 ∧ σ = [(0, .optr 0 g1000 0 0), (2, .str s1), (3, .int .i64 y5)] ∧ η = [.row g1000 4 1 40 (fun _ => [.str a0.fS, .int .i64 a0.fAt, .own 1 g1001 0 a0.fOut.length, .int .i64 a0.fCode]), .row g1001 4 a0.fOut.length 30 (row TToken.cells a0.fOut)]) ?_ ?_
  · refine .direct ?_
    refine splitB.mk (fun hb9 => ?_) (fun hb9 => ?_)
    · replace h := T_dec hb9 h
      exact ⟨[(0, .optr 0 g1000 0 0), (2, .str s1), (3, .int .i64 (s1.length : Int))], [.row g1000 4 1 40 (fun _ => [.str a0.fS, .int .i64 a0.fAt, .own 1 g1001 0 a0.fOut.length, .int .i64 a0.fCode]), .row g1001 4 a0.fOut.length 30 (row TToken.cells a0.fOut)], ⟨[0, 1], by decide, (show 2 ≤ 2 by decide), ⟨.optr_eq rfl ⟨_, _, _, _, rfl⟩ ⟨_, _, _, _, rfl⟩ rfl rfl, .str_eq rfl, .int_eq rfl, trivial⟩, ⟨⟨fun _ => ⟨rfl, rfl⟩, rfl, rfl, rfl, fun _ _ => ⟨.str_eq rfl, .int_eq rfl, .own_eq rfl ⟨_, _, _, _, rfl⟩ ⟨_, _, _, _, rfl⟩ rfl rfl, .int_eq rfl, trivial⟩⟩, ⟨fun _ => ⟨rfl, rfl⟩, rfl, rfl, rfl, fz_row TToken.cells_pure⟩, trivial⟩⟩, (s1.length : Int), Option.some.inj h, rfl, rfl⟩
    · replace h := F_dec hb9 h
      exact ⟨[(0, .optr 0 g1000 0 0), (2, .str s1), (3, .int .i64 v3)], [.row g1000 4 1 40 (fun _ => [.str a0.fS, .int .i64 a0.fAt, .own 1 g1001 0 a0.fOut.length, .int .i64 a0.fCode]), .row g1001 4 a0.fOut.length 30 (row TToken.cells a0.fOut)], ⟨[0, 1], by decide, (show 2 ≤ 2 by decide), ⟨.optr_eq rfl ⟨_, _, _, _, rfl⟩ ⟨_, _, _, _, rfl⟩ rfl rfl, .str_eq rfl, .int_eq rfl, trivial⟩, ⟨⟨fun _ => ⟨rfl, rfl⟩, rfl, rfl, rfl, fun _ _ => ⟨.str_eq rfl, .int_eq rfl, .own_eq rfl ⟨_, _, _, _, rfl⟩ ⟨_, _, _, _, rfl⟩ rfl rfl, .int_eq rfl, trivial⟩⟩, ⟨fun _ => ⟨rfl, rfl⟩, rfl, rfl, rfl, fz_row TToken.cells_pure⟩, trivial⟩⟩, v3, Option.some.inj h, rfl, rfl⟩
  · rintro _ _ ⟨y5, rfl, rfl, rfl⟩
    replace h := hk8
    obtain ⟨o15, ho16, hk17⟩ := bind_some h
    replace h := ho16
    refine .cut (fun σ η => ∃ s10, ∃ y11, ∃ y12, ∃ l14, ∃ g13 : Nat, (s10, y11, y12, l14) = o15 ∧ σ = [(0, .optr 0 g1000 0 0)] ∧ η = [.row g1000 4 1 40 (fun _ => [.str s10, .int .i64 y11, .own 1 g13 0 l14.length, .int .i64 y12]), .row g13 4 l14.length 30 (row TToken.cells l14)]) ?_ ?_
    · refine .direct ?_
      refine splitB.mk (fun hb18 => ?_) (fun hb18 => ?_)
      · replace h := T_dec hb18 h
        obtain ⟨s19, hx20, h⟩ := bind_some h
        refine ⟨sto_bd hx20, s19, sto_at hx20, ?_⟩
        obtain ⟨v21, hv22, h⟩ := bind_some h
        refine ⟨fun res h' => ∃ g23 : Nat, res = .tup [] ∧ h' = [.row g1000 4 1 40 (fun _ => [.str v21.fS, .int .i64 v21.fAt, .own 1 g23 0 v21.fOut.length, .int .i64 v21.fCode]), .row g23 4 v21.fOut.length 30 (row TToken.cells v21.fOut)], (ACall.over (ok_i_lexeradd (g1000 := g1000) (g1001 := g1001) hv22) [0, 1] [.row g1000 4 1 40 (fun _ => [.str a0.fS, .int .i64 a0.fAt, .own 1 g1001 0 a0.fOut.length, .int .i64 a0.fCode]), .row g1001 4 a0.fOut.length 30 (row TToken.cells a0.fOut)] rfl (by decide) (by simp) (by intro j o hj; exact match j, hj with | 0, hj => by cases hj; rfl | 1, hj => by cases hj; exact (congrArg some (renO_row TToken.cells_pure _ _ _ _ _ _)).symm | j + 2, hj => by cases hj) rfl).mono (by rintro _ _ ⟨_, _, ⟨g23, rfl, rfl⟩, rfl, rfl⟩; exact ⟨g23, rfl, (by simp only [nxtL, putSel, List.map_cons, List.map_nil, List.drop, List.length_cons, List.length_nil, renO_row TToken.cells_pure]; rfl)⟩), ?_⟩
        rintro _ _ ⟨g23, rfl, rfl⟩
        exact ⟨[(0, .optr 0 g1000 0 0)], [.row g1000 4 1 40 (fun _ => [.str v21.fS, .int .i64 v21.fAt, .own 1 g23 0 v21.fOut.length, .int .i64 v21.fCode]), .row g23 4 v21.fOut.length 30 (row TToken.cells v21.fOut)], ⟨[0, 1], by decide, (show 2 ≤ 2 by decide), ⟨.optr_eq rfl ⟨_, _, _, _, rfl⟩ ⟨_, _, _, _, rfl⟩ rfl rfl, trivial⟩, ⟨⟨fun _ => ⟨rfl, rfl⟩, rfl, rfl, rfl, fun _ _ => ⟨.str_eq rfl, .int_eq rfl, .own_eq rfl ⟨_, _, _, _, rfl⟩ ⟨_, _, _, _, rfl⟩ rfl rfl, .int_eq rfl, trivial⟩⟩, ⟨fun _ => ⟨rfl, rfl⟩, rfl, rfl, rfl, fz_row TToken.cells_pure⟩, trivial⟩⟩, v21.fS, v21.fAt, v21.fCode, v21.fOut, g23, Option.some.inj h, rfl, rfl⟩
      · replace h := F_dec hb18 h
        exact ⟨[(0, .optr 0 g1000 0 0)], [.row g1000 4 1 40 (fun _ => [.str a0.fS, .int .i64 a0.fAt, .own 1 g1001 0 a0.fOut.length, .int .i64 a0.fCode]), .row g1001 4 a0.fOut.length 30 (row TToken.cells a0.fOut)], ⟨[0, 1], by decide, (show 2 ≤ 2 by decide), ⟨.optr_eq rfl ⟨_, _, _, _, rfl⟩ ⟨_, _, _, _, rfl⟩ rfl rfl, trivial⟩, ⟨⟨fun _ => ⟨rfl, rfl⟩, rfl, rfl, rfl, fun _ _ => ⟨.str_eq rfl, .int_eq rfl, .own_eq rfl ⟨_, _, _, _, rfl⟩ ⟨_, _, _, _, rfl⟩ rfl rfl, .int_eq rfl, trivial⟩⟩, ⟨fun _ => ⟨rfl, rfl⟩, rfl, rfl, rfl, fz_row TToken.cells_pure⟩, trivial⟩⟩, a0.fS, a0.fAt, a0.fCode, a0.fOut, g1001, Option.some.inj h, rfl, rfl⟩
    · rintro _ _ ⟨s10, y11, y12, l14, g13, rfl, rfl, rfl⟩
      replace h := hk17
      refine .direct ?_
      refine .direct ?_
      refine ⟨rfl, ?_⟩
      refine ⟨rfl, ?_⟩
      refine ⟨rfl, _, rfl, ?_⟩
      refine ⟨rfl, ?_⟩
      refine ⟨rfl, ?_⟩
      refine ⟨rfl, _, rfl, ?_⟩
      refine splitB.mk (fun hb24 => ?_) (fun hb24 => ?_)
      · replace h := T_beq hb24 h
        obtain rfl := Option.some.inj h
        exact ⟨[0, 1], .tup [], [.row g1000 4 1 40 (fun _ => [.str ((TLexer.mk s10 y11 l14 y12).fS), .int .i64 ((TLexer.mk s10 y11 l14 y12).fAt), .own 1 g13 0 ((TLexer.mk s10 y11 l14 y12).fOut).length, .int .i64 ((TLexer.mk s10 y11 l14 y12).fCode)]), .row g13 4 ((TLexer.mk s10 y11 l14 y12).fOut).length 30 (row TToken.cells ((TLexer.mk s10 y11 l14 y12).fOut))], by decide, (show 2 ≤ 2 by decide), (.tup_l trivial), ⟨⟨fun _ => ⟨rfl, rfl⟩, rfl, rfl, rfl, fun _ _ => ⟨.str_eq rfl, .int_eq rfl, .own_eq rfl ⟨_, _, _, _, rfl⟩ ⟨_, _, _, _, rfl⟩ rfl rfl, .int_eq rfl, trivial⟩⟩, ⟨fun _ => ⟨rfl, rfl⟩, rfl, rfl, rfl, fz_row TToken.cells_pure⟩, trivial⟩, g13, rfl, rfl⟩
      · replace h := F_beq hb24 h
        refine .direct ?_
        refine .float [(0, true), (1, true), (2, true), (3, true), (4, true), (5, true), (6, true), (7, true), (8, true), (9, false)] (by kernel_rfl) ?_
        refine ⟨rfl, ?_⟩
        refine ⟨rfl, ?_⟩
        refine ⟨rfl, _, rfl, ?_⟩
        refine ⟨rfl, ?_⟩
        refine ⟨rfl, ?_⟩
        refine ⟨rfl, _, rfl, ?_⟩
        obtain ⟨s25, hx26, h⟩ := bind_some h
        refine ⟨sfrom_bd hx26, s25, sfrom_at hx26, ?_⟩
        obtain ⟨v27, hv28, h⟩ := bind_some h
        refine ⟨_, ACall.pure0 (ok66 hv28) _ rfl (fun _ => rfl), ?_⟩
        rintro _ _ ⟨rfl, rfl⟩
        refine splitB.mk (fun hb29 => ?_) (fun hb29 => ?_)
        · replace h := T_var hb29 h
          obtain ⟨v30, hv31, h⟩ := bind_some h
          refine ⟨fun res h' => ∃ g32 : Nat, res = .tup [] ∧ h' = [.row g1000 4 1 40 (fun _ => [.str v30.fS, .int .i64 v30.fAt, .own 1 g32 0 v30.fOut.length, .int .i64 v30.fCode]), .row g32 4 v30.fOut.length 30 (row TToken.cells v30.fOut)], (ACall.over (ok_i_lexeradd (g1000 := g1000) (g1001 := g13) hv31) [0, 1] [.row g1000 4 1 40 (fun _ => [.str s10, .int .i64 y11, .own 1 g13 0 l14.length, .int .i64 y12]), .row g13 4 l14.length 30 (row TToken.cells l14)] rfl (by decide) (by simp) (by intro j o hj; exact match j, hj with | 0, hj => by cases hj; rfl | 1, hj => by cases hj; exact (congrArg some (renO_row TToken.cells_pure _ _ _ _ _ _)).symm | j + 2, hj => by cases hj) rfl).mono (by rintro _ _ ⟨_, _, ⟨g32, rfl, rfl⟩, rfl, rfl⟩; exact ⟨g32, rfl, (by simp only [nxtL, putSel, List.map_cons, List.map_nil, List.drop, List.length_cons, List.length_nil, renO_row TToken.cells_pure]; rfl)⟩), ?_⟩
          rintro _ _ ⟨g32, rfl, rfl⟩
          obtain rfl := Option.some.inj h
          exact ⟨[0, 1], .tup [], [.row g1000 4 1 40 (fun _ => [.str v30.fS, .int .i64 v30.fAt, .own 1 g32 0 v30.fOut.length, .int .i64 v30.fCode]), .row g32 4 v30.fOut.length 30 (row TToken.cells v30.fOut)], by decide, (show 2 ≤ 2 by decide), (.tup_l trivial), ⟨⟨fun _ => ⟨rfl, rfl⟩, rfl, rfl, rfl, fun _ _ => ⟨.str_eq rfl, .int_eq rfl, .own_eq rfl ⟨_, _, _, _, rfl⟩ ⟨_, _, _, _, rfl⟩ rfl rfl, .int_eq rfl, trivial⟩⟩, ⟨fun _ => ⟨rfl, rfl⟩, rfl, rfl, rfl, fz_row TToken.cells_pure⟩, trivial⟩, g32, rfl, rfl⟩
        · replace h := F_var hb29 h
          refine ⟨rfl, ?_⟩
          refine ⟨rfl, ?_⟩
          refine ⟨rfl, _, rfl, ?_⟩
          refine ⟨rfl, ?_⟩
          refine ⟨rfl, ?_⟩
          refine ⟨rfl, _, fun _ => [.str s10, .int .i64 (W64 (y11 + 2)), .own 1 g13 0 l14.length, .int .i64 y12], rfl, one_set rfl, ?_⟩
          obtain rfl := Option.some.inj h
          exact ⟨[0, 1], .tup [], [.row g1000 4 1 40 (fun _ => [.str ((TLexer.mk s10 (W64 (y11 + 2)) l14 y12).fS), .int .i64 ((TLexer.mk s10 (W64 (y11 + 2)) l14 y12).fAt), .own 1 g13 0 ((TLexer.mk s10 (W64 (y11 + 2)) l14 y12).fOut).length, .int .i64 ((TLexer.mk s10 (W64 (y11 + 2)) l14 y12).fCode)]), .row g13 4 ((TLexer.mk s10 (W64 (y11 + 2)) l14 y12).fOut).length 30 (row TToken.cells ((TLexer.mk s10 (W64 (y11 + 2)) l14 y12).fOut))], by decide, (show 2 ≤ 2 by decide), (.tup_l trivial), ⟨⟨fun _ => ⟨rfl, rfl⟩, rfl, rfl, rfl, fun _ _ => ⟨.str_eq rfl, .int_eq rfl, .own_eq rfl ⟨_, _, _, _, rfl⟩ ⟨_, _, _, _, rfl⟩ rfl rfl, .int_eq rfl, trivial⟩⟩, ⟨fun _ => ⟨rfl, rfl⟩, rfl, rfl, rfl, fz_row TToken.cells_pure⟩, trivial⟩, g13, rfl, rfl⟩
def m_i_lexertext_L2 (a0 : TLexer) (a1 : Str) (l4 : List UInt8) (y5 : Int) : Option ((Unit) ⊕ TLexer) :=
  (if y5 < (a1.length : Int) then
    sidx a1 y5 >>= fun c9 =>
    (if (c9.toNat : Int) = 39 then
      (if (l4.length : Int) > 400 then
        some (.inl ())
      else
        m_i_lexeradd a0 5 0 l4 (W64 (y5 + 1)) >>= fun v13 =>
        some (.inr v13))
    else
      sidx a1 y5 >>= fun c16 =>
      (if (c16.toNat : Int) = 92 then
        (if (W64 (y5 + 1)) < (a1.length : Int) then
          sidx a1 (W64 (y5 + 1)) >>= fun c20 =>
          (if (c20.toNat : Int) = 39 then
            sidx a1 (W64 (y5 + 1)) >>= fun c23 =>
            lapp 1 l4 ([c23] : List UInt8) >>= fun l25 =>
            m_i_lexertext_L2 a0 a1 l25 (W64 ((W64 (y5 + 1)) + 1))
          else
            sidx a1 (W64 (y5 + 1)) >>= fun c27 =>
            (if (c27.toNat : Int) = 92 then
              sidx a1 (W64 (y5 + 1)) >>= fun c30 =>
              lapp 1 l4 ([c30] : List UInt8) >>= fun l32 =>
              m_i_lexertext_L2 a0 a1 l32 (W64 ((W64 (y5 + 1)) + 1))
            else
              sidx a1 y5 >>= fun c34 =>
              lapp 1 l4 ([c34] : List UInt8) >>= fun l36 =>
              m_i_lexertext_L2 a0 a1 l36 (W64 (y5 + 1))))
        else
          sidx a1 y5 >>= fun c38 =>
          lapp 1 l4 ([c38] : List UInt8) >>= fun l40 =>
          m_i_lexertext_L2 a0 a1 l40 (W64 (y5 + 1)))
      else
        sidx a1 y5 >>= fun c42 =>
        lapp 1 l4 ([c42] : List UInt8) >>= fun l44 =>
        m_i_lexertext_L2 a0 a1 l44 (W64 (y5 + 1))))
  else
    some (.inl ()))
partial_fixpoint
def m_i_lexertext (a0 : TLexer) (a1 : Str) : Option (TLexer) :=
  ((
    m_i_lexertext_L2 a0 a1 ([] : List UInt8) 1
   : Option ((Unit) ⊕ TLexer)) >>= fun o1 => match o1 with
    | .inr r => some r
    | .inl _ =>
      some (TLexer.mk a0.fS a0.fAt a0.fOut 3)
  )
theorem ok_i_lexertext {a0 : TLexer} {a1 : Str} {r : TLexer} {g1000 : Nat} {g1001 : Nat} (h : m_i_lexertext a0 a1 = some r) : ACall Tryd.prog 26 [.optr 0 g1000 0 0, .str a1] [.row g1000 4 1 40 (fun _ => [.str a0.fS, .int .i64 a0.fAt, .own 1 g1001 0 a0.fOut.length, .int .i64 a0.fCode]), .row g1001 4 a0.fOut.length 30 (row TToken.cells a0.fOut)] (fun res h => ∃ G1 : Nat, res = .tup [] ∧ h = [.row g1000 4 1 40 (fun _ => [.str r.fS, .int .i64 r.fAt, .own 1 G1 0 r.fOut.length, .int .i64 r.fCode]), .row G1 4 r.fOut.length 30 (row TToken.cells r.fOut)]) := by
  refine ACall.of_vc tabT_ok mixed Tryd.func26 rfl (by kernel_rfl) _ _ _ rfl (by kernel_rfl) ?_
  unfold m_i_lexertext at h
  refine .direct ?_
  refine ⟨row cB ([] : List UInt8), row_lit cB ([] : List UInt8) rfl (cll_refl rfl), ?_⟩
  obtain ⟨o1, ho2, hk3⟩ := bind_some h
  replace h := ho2
  refine .cut (fun σ η => .inl () = o1 ∧ σ = [(0, .optr 0 g1000 0 0)] ∧ η = [.row g1000 4 1 40 (fun _ => [.str a0.fS, .int .i64 a0.fAt, .own 1 g1001 0 a0.fOut.length, .int .i64 a0.fCode]), .row g1001 4 a0.fOut.length 30 (row TToken.cells a0.fOut)]) ?_ ?_
  · refine .direct ?_
    refine LoopAt.enter [(0, .optr 0 g1000 0 0), (1, .str a1), (4, .own 2 0 0 ([] : List UInt8).length), (5, .int .i64 1)] [.row g1000 4 1 40 (fun _ => [.str a0.fS, .int .i64 a0.fAt, .own 1 g1001 0 a0.fOut.length, .int .i64 a0.fCode]), .row g1001 4 a0.fOut.length 30 (row TToken.cells a0.fOut), .row 0 1 ([] : List UInt8).length 5 (row cB ([] : List UInt8))] ⟨[0, 1, 2], by decide, (show 2 ≤ 3 by decide), ⟨.optr_eq rfl ⟨_, _, _, _, rfl⟩ ⟨_, _, _, _, rfl⟩ rfl rfl, .str_eq rfl, .own_eq rfl ⟨_, _, _, _, rfl⟩ ⟨_, _, _, _, rfl⟩ rfl rfl, .int_eq rfl, trivial⟩, ⟨⟨fun _ => ⟨rfl, rfl⟩, rfl, rfl, rfl, fun _ _ => ⟨.str_eq rfl, .int_eq rfl, .own_eq rfl ⟨_, _, _, _, rfl⟩ ⟨_, _, _, _, rfl⟩ rfl rfl, .int_eq rfl, trivial⟩⟩, ⟨fun _ => ⟨rfl, rfl⟩, rfl, rfl, rfl, fz_row TToken.cells_pure⟩, ⟨fun h0 => absurd (show 2 < 2 from h0) (by decide), rfl, rfl, rfl, fz_row cB_pure⟩, trivial⟩⟩ ?_
    refine m_i_lexertext_L2.partial_correctness a0 a1 (motive := fun l4 y5 o46 => o1 = o46 → LoopAt _ _ [(0, .optr 0 g1000 0 0), (1, .str a1), (4, .own 2 0 0 l4.length), (5, .int .i64 y5)] [.row g1000 4 1 40 (fun _ => [.str a0.fS, .int .i64 a0.fAt, .own 1 g1001 0 a0.fOut.length, .int .i64 a0.fCode]), .row g1001 4 a0.fOut.length 30 (row TToken.cells a0.fOut), .row 0 1 l4.length 5 (row cB l4)]) ?_ ([] : List UInt8) 1 o1 h rfl
    intro F7 ih6 l4 y5 o46 h hr47
    subst hr47
    refine LoopAt.round ?_
    refine .direct ?_
    refine .direct ?_
    refine splitB.mk (fun hb8 => ?_) (fun hb8 => ?_)
    · replace h := T_dec hb8 h
      refine .direct ?_
      refine .direct ?_
      refine .direct ?_
      obtain ⟨c9, hx10, h⟩ := bind_some h
      refine ⟨sidx_bd hx10, c9, sidx_at hx10, ?_⟩
      refine splitB.mk (fun hb11 => ?_) (fun hb11 => ?_)
      · replace h := T_beq hb11 h
        refine .direct ?_
        refine .direct ?_
        refine ⟨rfl, ?_⟩
        refine splitB.mk (fun hb12 => ?_) (fun hb12 => ?_)
        · replace h := T_dec hb12 h
          exact ⟨[(0, .optr 0 g1000 0 0)], [.row g1000 4 1 40 (fun _ => [.str a0.fS, .int .i64 a0.fAt, .own 1 g1001 0 a0.fOut.length, .int .i64 a0.fCode]), .row g1001 4 a0.fOut.length 30 (row TToken.cells a0.fOut)], ⟨[0, 1], by decide, (show 2 ≤ 2 by decide), ⟨.optr_eq rfl ⟨_, _, _, _, rfl⟩ ⟨_, _, _, _, rfl⟩ rfl rfl, trivial⟩, ⟨⟨fun _ => ⟨rfl, rfl⟩, rfl, rfl, rfl, fun _ _ => ⟨.str_eq rfl, .int_eq rfl, .own_eq rfl ⟨_, _, _, _, rfl⟩ ⟨_, _, _, _, rfl⟩ rfl rfl, .int_eq rfl, trivial⟩⟩, ⟨fun _ => ⟨rfl, rfl⟩, rfl, rfl, rfl, fz_row TToken.cells_pure⟩, trivial⟩⟩, Option.some.inj h, rfl, rfl⟩
        · replace h := F_dec hb12 h
          refine .direct ?_
          refine ⟨rfl, l4, rfl, bytes_shows shows_all rfl, ?_⟩
          obtain ⟨v13, hv14, h⟩ := bind_some h
          refine ⟨fun res h' => ∃ g15 : Nat, res = .tup [] ∧ h' = [.row g1000 4 1 40 (fun _ => [.str v13.fS, .int .i64 v13.fAt, .own 1 g15 0 v13.fOut.length, .int .i64 v13.fCode]), .row g15 4 v13.fOut.length 30 (row TToken.cells v13.fOut), .row 0 1 l4.length 5 (row cB l4)], (ACall.over (ok_i_lexeradd (g1000 := g1000) (g1001 := g1001) hv14) [0, 1] [.row g1000 4 1 40 (fun _ => [.str a0.fS, .int .i64 a0.fAt, .own 1 g1001 0 a0.fOut.length, .int .i64 a0.fCode]), .row g1001 4 a0.fOut.length 30 (row TToken.cells a0.fOut), .row 0 1 l4.length 5 (row cB l4)] rfl (by decide) (by simp) (by intro j o hj; exact match j, hj with | 0, hj => by cases hj; rfl | 1, hj => by cases hj; exact (congrArg some (renO_row TToken.cells_pure _ _ _ _ _ _)).symm | j + 2, hj => by cases hj) rfl).mono (by rintro _ _ ⟨_, _, ⟨g15, rfl, rfl⟩, rfl, rfl⟩; exact ⟨g15, rfl, (by simp only [nxtL, putSel, List.map_cons, List.map_nil, List.drop, List.length_cons, List.length_nil, renO_row TToken.cells_pure]; rfl)⟩), ?_⟩
          rintro _ _ ⟨g15, rfl, rfl⟩
          obtain rfl := Option.some.inj h
          replace h := hk3
          obtain rfl := Option.some.inj h
          exact ⟨[0, 1], .tup [], [.row g1000 4 1 40 (fun _ => [.str v13.fS, .int .i64 v13.fAt, .own 1 g15 0 v13.fOut.length, .int .i64 v13.fCode]), .row g15 4 v13.fOut.length 30 (row TToken.cells v13.fOut)], by decide, (show 2 ≤ 2 by decide), (.tup_l trivial), ⟨⟨fun _ => ⟨rfl, rfl⟩, rfl, rfl, rfl, fun _ _ => ⟨.str_eq rfl, .int_eq rfl, .own_eq rfl ⟨_, _, _, _, rfl⟩ ⟨_, _, _, _, rfl⟩ rfl rfl, .int_eq rfl, trivial⟩⟩, ⟨fun _ => ⟨rfl, rfl⟩, rfl, rfl, rfl, fz_row TToken.cells_pure⟩, trivial⟩, g15, rfl, rfl⟩
      · replace h := F_beq hb11 h
        refine .direct ?_
        refine .direct ?_
        obtain ⟨c16, hx17, h⟩ := bind_some h
        refine ⟨sidx_bd hx17, c16, sidx_at hx17, ?_⟩
        refine splitB.mk (fun hb18 => ?_) (fun hb18 => ?_)
        · replace h := T_beq hb18 h
          refine splitB_t ?_
          refine splitB_t ?_
          refine splitB_t ?_
          refine splitB_t ?_
          refine splitB_t ?_
          refine splitB.mk (fun hb19 => ?_) (fun hb19 => ?_)
          · replace h := T_dec hb19 h
            refine splitB_t ?_
            refine splitB_t ?_
            refine splitB_t ?_
            obtain ⟨c20, hx21, h⟩ := bind_some h
            refine ⟨sidx_bd hx21, c20, sidx_at hx21, ?_⟩
            refine splitB_t ?_
            refine splitB_t ?_
            refine splitB.mk (fun hb22 => ?_) (fun hb22 => ?_)
            · replace h := T_beq hb22 h
              refine splitB_t ?_
              refine splitB_t ?_
              refine splitB_t ?_
              refine splitB_t ?_
              refine splitB_t ?_
              refine splitB_t ?_
              refine splitB_t ?_
              refine splitB_t ?_
              obtain ⟨c23, hx24, h⟩ := bind_some h
              refine ⟨sidx_bd hx24, c23, sidx_at hx24, ?_⟩
              refine ⟨row cB ([c23] : List UInt8), row_lit cB ([c23] : List UInt8) rfl (cll_refl rfl), ?_⟩
              obtain ⟨l25, hx26, h⟩ := bind_some h
              refine ⟨rfl, rfl, lapp_bd hx26, l25.length, row cB l25, lapp_len hx26, lapp_row hx26 shows_all (src_own shows_all), ?_⟩
              exact ⟨[(0, .optr 0 g1000 0 0), (1, .str a1), (4, .own 2 0 0 l25.length), (5, .int .i64 (W64 ((W64 (y5 + 1)) + 1)))], [.row g1000 4 1 40 (fun _ => [.str a0.fS, .int .i64 a0.fAt, .own 1 g1001 0 a0.fOut.length, .int .i64 a0.fCode]), .row g1001 4 a0.fOut.length 30 (row TToken.cells a0.fOut), .row 0 1 l25.length 5 (row cB l25)], ⟨[0, 1, 2], by decide, (show 2 ≤ 3 by decide), ⟨.optr_eq rfl ⟨_, _, _, _, rfl⟩ ⟨_, _, _, _, rfl⟩ rfl rfl, .str_eq rfl, .own_eq rfl ⟨_, _, _, _, rfl⟩ ⟨_, _, _, _, rfl⟩ rfl rfl, .int_eq rfl, trivial⟩, ⟨⟨fun _ => ⟨rfl, rfl⟩, rfl, rfl, rfl, fun _ _ => ⟨.str_eq rfl, .int_eq rfl, .own_eq rfl ⟨_, _, _, _, rfl⟩ ⟨_, _, _, _, rfl⟩ rfl rfl, .int_eq rfl, trivial⟩⟩, ⟨fun _ => ⟨rfl, rfl⟩, rfl, rfl, rfl, fz_row TToken.cells_pure⟩, ⟨fun h0 => absurd (show 2 < 2 from h0) (by decide), rfl, rfl, rfl, fz_row cB_pure⟩, trivial⟩⟩, ih6 _ _ _ h rfl⟩
            · replace h := F_beq hb22 h
              refine splitB_f ?_
              refine splitB_f ?_
              refine splitB_f ?_
              obtain ⟨c27, hx28, h⟩ := bind_some h
              refine ⟨sidx_bd hx28, c27, sidx_at hx28, ?_⟩
              refine splitB_f ?_
              refine splitB_t ?_
              refine splitB_f ?_
              refine splitB_t ?_
              refine splitB.mk (fun hb29 => ?_) (fun hb29 => ?_)
              · replace h := T_beq hb29 h
                obtain ⟨c30, hx31, h⟩ := bind_some h
                refine ⟨sidx_bd hx31, c30, sidx_at hx31, ?_⟩
                refine ⟨row cB ([c30] : List UInt8), row_lit cB ([c30] : List UInt8) rfl (cll_refl rfl), ?_⟩
                obtain ⟨l32, hx33, h⟩ := bind_some h
                refine ⟨rfl, rfl, lapp_bd hx33, l32.length, row cB l32, lapp_len hx33, lapp_row hx33 shows_all (src_own shows_all), ?_⟩
                exact ⟨[(0, .optr 0 g1000 0 0), (1, .str a1), (4, .own 2 0 0 l32.length), (5, .int .i64 (W64 ((W64 (y5 + 1)) + 1)))], [.row g1000 4 1 40 (fun _ => [.str a0.fS, .int .i64 a0.fAt, .own 1 g1001 0 a0.fOut.length, .int .i64 a0.fCode]), .row g1001 4 a0.fOut.length 30 (row TToken.cells a0.fOut), .row 0 1 l32.length 5 (row cB l32)], ⟨[0, 1, 2], by decide, (show 2 ≤ 3 by decide), ⟨.optr_eq rfl ⟨_, _, _, _, rfl⟩ ⟨_, _, _, _, rfl⟩ rfl rfl, .str_eq rfl, .own_eq rfl ⟨_, _, _, _, rfl⟩ ⟨_, _, _, _, rfl⟩ rfl rfl, .int_eq rfl, trivial⟩, ⟨⟨fun _ => ⟨rfl, rfl⟩, rfl, rfl, rfl, fun _ _ => ⟨.str_eq rfl, .int_eq rfl, .own_eq rfl ⟨_, _, _, _, rfl⟩ ⟨_, _, _, _, rfl⟩ rfl rfl, .int_eq rfl, trivial⟩⟩, ⟨fun _ => ⟨rfl, rfl⟩, rfl, rfl, rfl, fz_row TToken.cells_pure⟩, ⟨fun h0 => absurd (show 2 < 2 from h0) (by decide), rfl, rfl, rfl, fz_row cB_pure⟩, trivial⟩⟩, ih6 _ _ _ h rfl⟩
              · replace h := F_beq hb29 h
                obtain ⟨c34, hx35, h⟩ := bind_some h
                refine ⟨sidx_bd hx35, c34, sidx_at hx35, ?_⟩
                refine ⟨row cB ([c34] : List UInt8), row_lit cB ([c34] : List UInt8) rfl (cll_refl rfl), ?_⟩
                obtain ⟨l36, hx37, h⟩ := bind_some h
                refine ⟨rfl, rfl, lapp_bd hx37, l36.length, row cB l36, lapp_len hx37, lapp_row hx37 shows_all (src_own shows_all), ?_⟩
                exact ⟨[(0, .optr 0 g1000 0 0), (1, .str a1), (4, .own 2 0 0 l36.length), (5, .int .i64 (W64 (y5 + 1)))], [.row g1000 4 1 40 (fun _ => [.str a0.fS, .int .i64 a0.fAt, .own 1 g1001 0 a0.fOut.length, .int .i64 a0.fCode]), .row g1001 4 a0.fOut.length 30 (row TToken.cells a0.fOut), .row 0 1 l36.length 5 (row cB l36)], ⟨[0, 1, 2], by decide, (show 2 ≤ 3 by decide), ⟨.optr_eq rfl ⟨_, _, _, _, rfl⟩ ⟨_, _, _, _, rfl⟩ rfl rfl, .str_eq rfl, .own_eq rfl ⟨_, _, _, _, rfl⟩ ⟨_, _, _, _, rfl⟩ rfl rfl, .int_eq rfl, trivial⟩, ⟨⟨fun _ => ⟨rfl, rfl⟩, rfl, rfl, rfl, fun _ _ => ⟨.str_eq rfl, .int_eq rfl, .own_eq rfl ⟨_, _, _, _, rfl⟩ ⟨_, _, _, _, rfl⟩ rfl rfl, .int_eq rfl, trivial⟩⟩, ⟨fun _ => ⟨rfl, rfl⟩, rfl, rfl, rfl, fz_row TToken.cells_pure⟩, ⟨fun h0 => absurd (show 2 < 2 from h0) (by decide), rfl, rfl, rfl, fz_row cB_pure⟩, trivial⟩⟩, ih6 _ _ _ h rfl⟩
          · replace h := F_dec hb19 h
            refine splitB_f ?_
            refine splitB_f ?_
            refine splitB_f ?_
            refine splitB_f ?_
            refine splitB_f ?_
            refine splitB_f ?_
            refine splitB_f ?_
            refine splitB_f ?_
            obtain ⟨c38, hx39, h⟩ := bind_some h
            refine ⟨sidx_bd hx39, c38, sidx_at hx39, ?_⟩
            refine ⟨row cB ([c38] : List UInt8), row_lit cB ([c38] : List UInt8) rfl (cll_refl rfl), ?_⟩
            obtain ⟨l40, hx41, h⟩ := bind_some h
            refine ⟨rfl, rfl, lapp_bd hx41, l40.length, row cB l40, lapp_len hx41, lapp_row hx41 shows_all (src_own shows_all), ?_⟩
            exact ⟨[(0, .optr 0 g1000 0 0), (1, .str a1), (4, .own 2 0 0 l40.length), (5, .int .i64 (W64 (y5 + 1)))], [.row g1000 4 1 40 (fun _ => [.str a0.fS, .int .i64 a0.fAt, .own 1 g1001 0 a0.fOut.length, .int .i64 a0.fCode]), .row g1001 4 a0.fOut.length 30 (row TToken.cells a0.fOut), .row 0 1 l40.length 5 (row cB l40)], ⟨[0, 1, 2], by decide, (show 2 ≤ 3 by decide), ⟨.optr_eq rfl ⟨_, _, _, _, rfl⟩ ⟨_, _, _, _, rfl⟩ rfl rfl, .str_eq rfl, .own_eq rfl ⟨_, _, _, _, rfl⟩ ⟨_, _, _, _, rfl⟩ rfl rfl, .int_eq rfl, trivial⟩, ⟨⟨fun _ => ⟨rfl, rfl⟩, rfl, rfl, rfl, fun _ _ => ⟨.str_eq rfl, .int_eq rfl, .own_eq rfl ⟨_, _, _, _, rfl⟩ ⟨_, _, _, _, rfl⟩ rfl rfl, .int_eq rfl, trivial⟩⟩, ⟨fun _ => ⟨rfl, rfl⟩, rfl, rfl, rfl, fz_row TToken.cells_pure⟩, ⟨fun h0 => absurd (show 2 < 2 from h0) (by decide), rfl, rfl, rfl, fz_row cB_pure⟩, trivial⟩⟩, ih6 _ _ _ h rfl⟩
        · replace h := F_beq hb18 h
          refine splitB_f ?_
          refine splitB_f ?_
          refine splitB_f ?_
          refine splitB_f ?_
          refine splitB_f ?_
          refine splitB_f ?_
          refine splitB_f ?_
          refine splitB_f ?_
          refine splitB_f ?_
          refine splitB_f ?_
          refine splitB_f ?_
          refine splitB_f ?_
          refine splitB_f ?_
          refine splitB_f ?_
          obtain ⟨c42, hx43, h⟩ := bind_some h
          refine ⟨sidx_bd hx43, c42, sidx_at hx43, ?_⟩
          refine ⟨row cB ([c42] : List UInt8), row_lit cB ([c42] : List UInt8) rfl (cll_refl rfl), ?_⟩
          obtain ⟨l44, hx45, h⟩ := bind_some h
          refine ⟨rfl, rfl, lapp_bd hx45, l44.length, row cB l44, lapp_len hx45, lapp_row hx45 shows_all (src_own shows_all), ?_⟩
          exact ⟨[(0, .optr 0 g1000 0 0), (1, .str a1), (4, .own 2 0 0 l44.length), (5, .int .i64 (W64 (y5 + 1)))], [.row g1000 4 1 40 (fun _ => [.str a0.fS, .int .i64 a0.fAt, .own 1 g1001 0 a0.fOut.length, .int .i64 a0.fCode]), .row g1001 4 a0.fOut.length 30 (row TToken.cells a0.fOut), .row 0 1 l44.length 5 (row cB l44)], ⟨[0, 1, 2], by decide, (show 2 ≤ 3 by decide), ⟨.optr_eq rfl ⟨_, _, _, _, rfl⟩ ⟨_, _, _, _, rfl⟩ rfl rfl, .str_eq rfl, .own_eq rfl ⟨_, _, _, _, rfl⟩ ⟨_, _, _, _, rfl⟩ rfl rfl, .int_eq rfl, trivial⟩, ⟨⟨fun _ => ⟨rfl, rfl⟩, rfl, rfl, rfl, fun _ _ => ⟨.str_eq rfl, .int_eq rfl, .own_eq rfl ⟨_, _, _, _, rfl⟩ ⟨_, _, _, _, rfl⟩ rfl rfl, .int_eq rfl, trivial⟩⟩, ⟨fun _ => ⟨rfl, rfl⟩, rfl, rfl, rfl, fz_row TToken.cells_pure⟩, ⟨fun h0 => absurd (show 2 < 2 from h0) (by decide), rfl, rfl, rfl, fz_row cB_pure⟩, trivial⟩⟩, ih6 _ _ _ h rfl⟩
    · replace h := F_dec hb8 h
      exact ⟨[(0, .optr 0 g1000 0 0)], [.row g1000 4 1 40 (fun _ => [.str a0.fS, .int .i64 a0.fAt, .own 1 g1001 0 a0.fOut.length, .int .i64 a0.fCode]), .row g1001 4 a0.fOut.length 30 (row TToken.cells a0.fOut)], ⟨[0, 1], by decide, (show 2 ≤ 2 by decide), ⟨.optr_eq rfl ⟨_, _, _, _, rfl⟩ ⟨_, _, _, _, rfl⟩ rfl rfl, trivial⟩, ⟨⟨fun _ => ⟨rfl, rfl⟩, rfl, rfl, rfl, fun _ _ => ⟨.str_eq rfl, .int_eq rfl, .own_eq rfl ⟨_, _, _, _, rfl⟩ ⟨_, _, _, _, rfl⟩ rfl rfl, .int_eq rfl, trivial⟩⟩, ⟨fun _ => ⟨rfl, rfl⟩, rfl, rfl, rfl, fz_row TToken.cells_pure⟩, trivial⟩⟩, Option.some.inj h, rfl, rfl⟩
  · rintro _ _ ⟨rfl, rfl, rfl⟩
    replace h := hk3
    refine ⟨rfl, ?_⟩
    refine ⟨rfl, ?_⟩
    refine ⟨rfl, _, fun _ => [.str a0.fS, .int .i64 a0.fAt, .own 1 g1001 0 a0.fOut.length, .int .i64 3], rfl, one_set rfl, ?_⟩
    obtain rfl := Option.some.inj h
    exact ⟨[0, 1], .tup [], [.row g1000 4 1 40 (fun _ => [.str ((TLexer.mk a0.fS a0.fAt a0.fOut 3).fS), .int .i64 ((TLexer.mk a0.fS a0.fAt a0.fOut 3).fAt), .own 1 g1001 0 ((TLexer.mk a0.fS a0.fAt a0.fOut 3).fOut).length, .int .i64 ((TLexer.mk a0.fS a0.fAt a0.fOut 3).fCode)]), .row g1001 4 ((TLexer.mk a0.fS a0.fAt a0.fOut 3).fOut).length 30 (row TToken.cells ((TLexer.mk a0.fS a0.fAt a0.fOut 3).fOut))], by decide, (show 2 ≤ 2 by decide), (.tup_l trivial), ⟨⟨fun _ => ⟨rfl, rfl⟩, rfl, rfl, rfl, fun _ _ => ⟨.str_eq rfl, .int_eq rfl, .own_eq rfl ⟨_, _, _, _, rfl⟩ ⟨_, _, _, _, rfl⟩ rfl rfl, .int_eq rfl, trivial⟩⟩, ⟨fun _ => ⟨rfl, rfl⟩, rfl, rfl, rfl, fz_row TToken.cells_pure⟩, trivial⟩, g1001, rfl, rfl⟩
def m_i_lexermark_L2 (a0 : TLexer) (a1 : Str) (y4 : Int) : Option ((Unit) ⊕ TLexer) :=
  (if y4 < (([[61, 61, 61], [33, 61, 61], [60, 61, 62], [61, 61], [33, 61], [60, 61], [62, 61], [61, 62], [45, 62], [58, 58], [38, 38], [124, 124], [63, 63], [43], [45], [42], [47], [37], [46], [61], [33], [60], [62], [40], [41], [91], [93], [123], [125], [44], [59], [63], [58], [38]] : List Str).length : Int) then
    idx ([[61, 61, 61], [33, 61, 61], [60, 61, 62], [61, 61], [33, 61], [60, 61], [62, 61], [61, 62], [45, 62], [58, 58], [38, 38], [124, 124], [63, 63], [43], [45], [42], [47], [37], [46], [61], [33], [60], [62], [40], [41], [91], [93], [123], [125], [44], [59], [63], [58], [38]] : List Str) y4 >>= fun x8 =>
    m66 a1 x8 >>= fun v10 =>
    (if v10 = true then
      m_i_lexeradd a0 6 0 x8 (x8.length : Int) >>= fun v13 =>
      some (.inr v13)
    else
      m_i_lexermark_L2 a0 a1 (W64 (y4 + 1)))
  else
    some (.inl ()))
partial_fixpoint
def m_i_lexermark (a0 : TLexer) (a1 : Str) : Option (TLexer) :=
  ((
    m_i_lexermark_L2 a0 a1 0
   : Option ((Unit) ⊕ TLexer)) >>= fun o1 => match o1 with
    | .inr r => some r
    | .inl _ =>
      some (TLexer.mk a0.fS a0.fAt a0.fOut 2)
  )
theorem ok_i_lexermark {a0 : TLexer} {a1 : Str} {r : TLexer} {g1000 : Nat} {g1001 : Nat} (h : m_i_lexermark a0 a1 = some r) : ACall Tryd.prog 27 [.optr 0 g1000 0 0, .str a1] [.row g1000 4 1 40 (fun _ => [.str a0.fS, .int .i64 a0.fAt, .own 1 g1001 0 a0.fOut.length, .int .i64 a0.fCode]), .row g1001 4 a0.fOut.length 30 (row TToken.cells a0.fOut)] (fun res h => ∃ G1 : Nat, res = .tup [] ∧ h = [.row g1000 4 1 40 (fun _ => [.str r.fS, .int .i64 r.fAt, .own 1 G1 0 r.fOut.length, .int .i64 r.fCode]), .row G1 4 r.fOut.length 30 (row TToken.cells r.fOut)]) := by
  refine ACall.of_vc tabT_ok mixed Tryd.func27 rfl (by kernel_rfl) _ _ _ rfl (by kernel_rfl) ?_
  unfold m_i_lexermark at h
  refine .direct ?_
  refine ⟨row cS ([[61, 61, 61], [33, 61, 61], [60, 61, 62], [61, 61], [33, 61], [60, 61], [62, 61], [61, 62], [45, 62], [58, 58], [38, 38], [124, 124], [63, 63], [43], [45], [42], [47], [37], [46], [61], [33], [60], [62], [40], [41], [91], [93], [123], [125], [44], [59], [63], [58], [38]] : List Str), row_lit cS ([[61, 61, 61], [33, 61, 61], [60, 61, 62], [61, 61], [33, 61], [60, 61], [62, 61], [61, 62], [45, 62], [58, 58], [38, 38], [124, 124], [63, 63], [43], [45], [42], [47], [37], [46], [61], [33], [60], [62], [40], [41], [91], [93], [123], [125], [44], [59], [63], [58], [38]] : List Str) rfl (cll_refl rfl), ?_⟩
  obtain ⟨o1, ho2, hk3⟩ := bind_some h
  replace h := ho2
  refine .cut (fun σ η => .inl () = o1 ∧ σ = [(0, .optr 0 g1000 0 0)] ∧ η = [.row g1000 4 1 40 (fun _ => [.str a0.fS, .int .i64 a0.fAt, .own 1 g1001 0 a0.fOut.length, .int .i64 a0.fCode]), .row g1001 4 a0.fOut.length 30 (row TToken.cells a0.fOut)]) ?_ ?_
  · refine .direct ?_
    refine ⟨rfl, ?_⟩
    refine LoopAt.enter [(0, .optr 0 g1000 0 0), (1, .str a1), (8, .own 2 0 0 ([[61, 61, 61], [33, 61, 61], [60, 61, 62], [61, 61], [33, 61], [60, 61], [62, 61], [61, 62], [45, 62], [58, 58], [38, 38], [124, 124], [63, 63], [43], [45], [42], [47], [37], [46], [61], [33], [60], [62], [40], [41], [91], [93], [123], [125], [44], [59], [63], [58], [38]] : List Str).length), (9, .int .i64 (([[61, 61, 61], [33, 61, 61], [60, 61, 62], [61, 61], [33, 61], [60, 61], [62, 61], [61, 62], [45, 62], [58, 58], [38, 38], [124, 124], [63, 63], [43], [45], [42], [47], [37], [46], [61], [33], [60], [62], [40], [41], [91], [93], [123], [125], [44], [59], [63], [58], [38]] : List Str).length : Int)), (10, .int .i64 0)] [.row g1000 4 1 40 (fun _ => [.str a0.fS, .int .i64 a0.fAt, .own 1 g1001 0 a0.fOut.length, .int .i64 a0.fCode]), .row g1001 4 a0.fOut.length 30 (row TToken.cells a0.fOut), .row 0 1 ([[61, 61, 61], [33, 61, 61], [60, 61, 62], [61, 61], [33, 61], [60, 61], [62, 61], [61, 62], [45, 62], [58, 58], [38, 38], [124, 124], [63, 63], [43], [45], [42], [47], [37], [46], [61], [33], [60], [62], [40], [41], [91], [93], [123], [125], [44], [59], [63], [58], [38]] : List Str).length 9 (row cS ([[61, 61, 61], [33, 61, 61], [60, 61, 62], [61, 61], [33, 61], [60, 61], [62, 61], [61, 62], [45, 62], [58, 58], [38, 38], [124, 124], [63, 63], [43], [45], [42], [47], [37], [46], [61], [33], [60], [62], [40], [41], [91], [93], [123], [125], [44], [59], [63], [58], [38]] : List Str))] ⟨[0, 1, 2], by decide, (show 2 ≤ 3 by decide), ⟨.optr_eq rfl ⟨_, _, _, _, rfl⟩ ⟨_, _, _, _, rfl⟩ rfl rfl, .str_eq rfl, .own_eq rfl ⟨_, _, _, _, rfl⟩ ⟨_, _, _, _, rfl⟩ rfl rfl, .int_eq rfl, .int_eq rfl, trivial⟩, ⟨⟨fun _ => ⟨rfl, rfl⟩, rfl, rfl, rfl, fun _ _ => ⟨.str_eq rfl, .int_eq rfl, .own_eq rfl ⟨_, _, _, _, rfl⟩ ⟨_, _, _, _, rfl⟩ rfl rfl, .int_eq rfl, trivial⟩⟩, ⟨fun _ => ⟨rfl, rfl⟩, rfl, rfl, rfl, fz_row TToken.cells_pure⟩, ⟨fun h0 => absurd (show 2 < 2 from h0) (by decide), rfl, rfl, rfl, fz_row cS_pure⟩, trivial⟩⟩ ?_
    refine m_i_lexermark_L2.partial_correctness a0 a1 (motive := fun y4 o16 => o1 = o16 → LoopAt _ _ [(0, .optr 0 g1000 0 0), (1, .str a1), (8, .own 2 0 0 ([[61, 61, 61], [33, 61, 61], [60, 61, 62], [61, 61], [33, 61], [60, 61], [62, 61], [61, 62], [45, 62], [58, 58], [38, 38], [124, 124], [63, 63], [43], [45], [42], [47], [37], [46], [61], [33], [60], [62], [40], [41], [91], [93], [123], [125], [44], [59], [63], [58], [38]] : List Str).length), (9, .int .i64 (([[61, 61, 61], [33, 61, 61], [60, 61, 62], [61, 61], [33, 61], [60, 61], [62, 61], [61, 62], [45, 62], [58, 58], [38, 38], [124, 124], [63, 63], [43], [45], [42], [47], [37], [46], [61], [33], [60], [62], [40], [41], [91], [93], [123], [125], [44], [59], [63], [58], [38]] : List Str).length : Int)), (10, .int .i64 y4)] [.row g1000 4 1 40 (fun _ => [.str a0.fS, .int .i64 a0.fAt, .own 1 g1001 0 a0.fOut.length, .int .i64 a0.fCode]), .row g1001 4 a0.fOut.length 30 (row TToken.cells a0.fOut), .row 0 1 ([[61, 61, 61], [33, 61, 61], [60, 61, 62], [61, 61], [33, 61], [60, 61], [62, 61], [61, 62], [45, 62], [58, 58], [38, 38], [124, 124], [63, 63], [43], [45], [42], [47], [37], [46], [61], [33], [60], [62], [40], [41], [91], [93], [123], [125], [44], [59], [63], [58], [38]] : List Str).length 9 (row cS ([[61, 61, 61], [33, 61, 61], [60, 61, 62], [61, 61], [33, 61], [60, 61], [62, 61], [61, 62], [45, 62], [58, 58], [38, 38], [124, 124], [63, 63], [43], [45], [42], [47], [37], [46], [61], [33], [60], [62], [40], [41], [91], [93], [123], [125], [44], [59], [63], [58], [38]] : List Str))]) ?_ 0 o1 h rfl
    intro F6 ih5 y4 o16 h hr17
    subst hr17
    refine LoopAt.round ?_
    refine .direct ?_
    refine .direct ?_
    refine splitB.mk (fun hb7 => ?_) (fun hb7 => ?_)
    · replace h := T_dec hb7 h
      refine .direct ?_
      refine .direct ?_
      obtain ⟨x8, hx9, h⟩ := bind_some h
      refine ⟨rfl, idx_bd hx9, _, Nat.zero_add _, ?_⟩
      refine ⟨rfl, _, ((idx_row hx9).trans rfl), ?_⟩
      refine .direct ?_
      obtain ⟨v10, hv11, h⟩ := bind_some h
      refine ⟨_, ACall.pure0 (ok66 hv11) _ rfl (fun _ => rfl), ?_⟩
      rintro _ _ ⟨rfl, rfl⟩
      refine splitB.mk (fun hb12 => ?_) (fun hb12 => ?_)
      · replace h := T_var hb12 h
        refine .direct ?_
        obtain ⟨v13, hv14, h⟩ := bind_some h
        refine ⟨fun res h' => ∃ g15 : Nat, res = .tup [] ∧ h' = [.row g1000 4 1 40 (fun _ => [.str v13.fS, .int .i64 v13.fAt, .own 1 g15 0 v13.fOut.length, .int .i64 v13.fCode]), .row g15 4 v13.fOut.length 30 (row TToken.cells v13.fOut), .row 0 1 ([[61, 61, 61], [33, 61, 61], [60, 61, 62], [61, 61], [33, 61], [60, 61], [62, 61], [61, 62], [45, 62], [58, 58], [38, 38], [124, 124], [63, 63], [43], [45], [42], [47], [37], [46], [61], [33], [60], [62], [40], [41], [91], [93], [123], [125], [44], [59], [63], [58], [38]] : List Str).length 9 (row cS ([[61, 61, 61], [33, 61, 61], [60, 61, 62], [61, 61], [33, 61], [60, 61], [62, 61], [61, 62], [45, 62], [58, 58], [38, 38], [124, 124], [63, 63], [43], [45], [42], [47], [37], [46], [61], [33], [60], [62], [40], [41], [91], [93], [123], [125], [44], [59], [63], [58], [38]] : List Str))], (ACall.over (ok_i_lexeradd (g1000 := g1000) (g1001 := g1001) hv14) [0, 1] [.row g1000 4 1 40 (fun _ => [.str a0.fS, .int .i64 a0.fAt, .own 1 g1001 0 a0.fOut.length, .int .i64 a0.fCode]), .row g1001 4 a0.fOut.length 30 (row TToken.cells a0.fOut), .row 0 1 ([[61, 61, 61], [33, 61, 61], [60, 61, 62], [61, 61], [33, 61], [60, 61], [62, 61], [61, 62], [45, 62], [58, 58], [38, 38], [124, 124], [63, 63], [43], [45], [42], [47], [37], [46], [61], [33], [60], [62], [40], [41], [91], [93], [123], [125], [44], [59], [63], [58], [38]] : List Str).length 9 (row cS ([[61, 61, 61], [33, 61, 61], [60, 61, 62], [61, 61], [33, 61], [60, 61], [62, 61], [61, 62], [45, 62], [58, 58], [38, 38], [124, 124], [63, 63], [43], [45], [42], [47], [37], [46], [61], [33], [60], [62], [40], [41], [91], [93], [123], [125], [44], [59], [63], [58], [38]] : List Str))] rfl (by decide) (by simp) (by intro j o hj; exact match j, hj with | 0, hj => by cases hj; rfl | 1, hj => by cases hj; exact (congrArg some (renO_row TToken.cells_pure _ _ _ _ _ _)).symm | j + 2, hj => by cases hj) rfl).mono (by rintro _ _ ⟨_, _, ⟨g15, rfl, rfl⟩, rfl, rfl⟩; exact ⟨g15, rfl, (by simp only [nxtL, putSel, List.map_cons, List.map_nil, List.drop, List.length_cons, List.length_nil, renO_row TToken.cells_pure]; rfl)⟩), ?_⟩
        rintro _ _ ⟨g15, rfl, rfl⟩
        obtain rfl := Option.some.inj h
        replace h := hk3
        obtain rfl := Option.some.inj h
        exact ⟨[0, 1], .tup [], [.row g1000 4 1 40 (fun _ => [.str v13.fS, .int .i64 v13.fAt, .own 1 g15 0 v13.fOut.length, .int .i64 v13.fCode]), .row g15 4 v13.fOut.length 30 (row TToken.cells v13.fOut)], by decide, (show 2 ≤ 2 by decide), (.tup_l trivial), ⟨⟨fun _ => ⟨rfl, rfl⟩, rfl, rfl, rfl, fun _ _ => ⟨.str_eq rfl, .int_eq rfl, .own_eq rfl ⟨_, _, _, _, rfl⟩ ⟨_, _, _, _, rfl⟩ rfl rfl, .int_eq rfl, trivial⟩⟩, ⟨fun _ => ⟨rfl, rfl⟩, rfl, rfl, rfl, fz_row TToken.cells_pure⟩, trivial⟩, g15, rfl, rfl⟩
      · replace h := F_var hb12 h
        exact ⟨[(0, .optr 0 g1000 0 0), (1, .str a1), (8, .own 2 0 0 ([[61, 61, 61], [33, 61, 61], [60, 61, 62], [61, 61], [33, 61], [60, 61], [62, 61], [61, 62], [45, 62], [58, 58], [38, 38], [124, 124], [63, 63], [43], [45], [42], [47], [37], [46], [61], [33], [60], [62], [40], [41], [91], [93], [123], [125], [44], [59], [63], [58], [38]] : List Str).length), (9, .int .i64 (([[61, 61, 61], [33, 61, 61], [60, 61, 62], [61, 61], [33, 61], [60, 61], [62, 61], [61, 62], [45, 62], [58, 58], [38, 38], [124, 124], [63, 63], [43], [45], [42], [47], [37], [46], [61], [33], [60], [62], [40], [41], [91], [93], [123], [125], [44], [59], [63], [58], [38]] : List Str).length : Int)), (10, .int .i64 (W64 (y4 + 1)))], [.row g1000 4 1 40 (fun _ => [.str a0.fS, .int .i64 a0.fAt, .own 1 g1001 0 a0.fOut.length, .int .i64 a0.fCode]), .row g1001 4 a0.fOut.length 30 (row TToken.cells a0.fOut), .row 0 1 ([[61, 61, 61], [33, 61, 61], [60, 61, 62], [61, 61], [33, 61], [60, 61], [62, 61], [61, 62], [45, 62], [58, 58], [38, 38], [124, 124], [63, 63], [43], [45], [42], [47], [37], [46], [61], [33], [60], [62], [40], [41], [91], [93], [123], [125], [44], [59], [63], [58], [38]] : List Str).length 9 (row cS ([[61, 61, 61], [33, 61, 61], [60, 61, 62], [61, 61], [33, 61], [60, 61], [62, 61], [61, 62], [45, 62], [58, 58], [38, 38], [124, 124], [63, 63], [43], [45], [42], [47], [37], [46], [61], [33], [60], [62], [40], [41], [91], [93], [123], [125], [44], [59], [63], [58], [38]] : List Str))], ⟨[0, 1, 2], by decide, (show 2 ≤ 3 by decide), ⟨.optr_eq rfl ⟨_, _, _, _, rfl⟩ ⟨_, _, _, _, rfl⟩ rfl rfl, .str_eq rfl, .own_eq rfl ⟨_, _, _, _, rfl⟩ ⟨_, _, _, _, rfl⟩ rfl rfl, .int_eq rfl, .int_eq rfl, trivial⟩, ⟨⟨fun _ => ⟨rfl, rfl⟩, rfl, rfl, rfl, fun _ _ => ⟨.str_eq rfl, .int_eq rfl, .own_eq rfl ⟨_, _, _, _, rfl⟩ ⟨_, _, _, _, rfl⟩ rfl rfl, .int_eq rfl, trivial⟩⟩, ⟨fun _ => ⟨rfl, rfl⟩, rfl, rfl, rfl, fz_row TToken.cells_pure⟩, ⟨fun h0 => absurd (show 2 < 2 from h0) (by decide), rfl, rfl, rfl, fz_row cS_pure⟩, trivial⟩⟩, ih5 _ _ h rfl⟩
    · replace h := F_dec hb7 h
      exact ⟨[(0, .optr 0 g1000 0 0)], [.row g1000 4 1 40 (fun _ => [.str a0.fS, .int .i64 a0.fAt, .own 1 g1001 0 a0.fOut.length, .int .i64 a0.fCode]), .row g1001 4 a0.fOut.length 30 (row TToken.cells a0.fOut)], ⟨[0, 1], by decide, (show 2 ≤ 2 by decide), ⟨.optr_eq rfl ⟨_, _, _, _, rfl⟩ ⟨_, _, _, _, rfl⟩ rfl rfl, trivial⟩, ⟨⟨fun _ => ⟨rfl, rfl⟩, rfl, rfl, rfl, fun _ _ => ⟨.str_eq rfl, .int_eq rfl, .own_eq rfl ⟨_, _, _, _, rfl⟩ ⟨_, _, _, _, rfl⟩ rfl rfl, .int_eq rfl, trivial⟩⟩, ⟨fun _ => ⟨rfl, rfl⟩, rfl, rfl, rfl, fz_row TToken.cells_pure⟩, trivial⟩⟩, Option.some.inj h, rfl, rfl⟩
  · rintro _ _ ⟨rfl, rfl, rfl⟩
    replace h := hk3
    refine ⟨rfl, ?_⟩
    refine ⟨rfl, ?_⟩
    refine ⟨rfl, _, fun _ => [.str a0.fS, .int .i64 a0.fAt, .own 1 g1001 0 a0.fOut.length, .int .i64 2], rfl, one_set rfl, ?_⟩
    obtain rfl := Option.some.inj h
    exact ⟨[0, 1], .tup [], [.row g1000 4 1 40 (fun _ => [.str ((TLexer.mk a0.fS a0.fAt a0.fOut 2).fS), .int .i64 ((TLexer.mk a0.fS a0.fAt a0.fOut 2).fAt), .own 1 g1001 0 ((TLexer.mk a0.fS a0.fAt a0.fOut 2).fOut).length, .int .i64 ((TLexer.mk a0.fS a0.fAt a0.fOut 2).fCode)]), .row g1001 4 ((TLexer.mk a0.fS a0.fAt a0.fOut 2).fOut).length 30 (row TToken.cells ((TLexer.mk a0.fS a0.fAt a0.fOut 2).fOut))], by decide, (show 2 ≤ 2 by decide), (.tup_l trivial), ⟨⟨fun _ => ⟨rfl, rfl⟩, rfl, rfl, rfl, fun _ _ => ⟨.str_eq rfl, .int_eq rfl, .own_eq rfl ⟨_, _, _, _, rfl⟩ ⟨_, _, _, _, rfl⟩ rfl rfl, .int_eq rfl, trivial⟩⟩, ⟨fun _ => ⟨rfl, rfl⟩, rfl, rfl, rfl, fz_row TToken.cells_pure⟩, trivial⟩, g1001, rfl, rfl⟩
end Go.Am
