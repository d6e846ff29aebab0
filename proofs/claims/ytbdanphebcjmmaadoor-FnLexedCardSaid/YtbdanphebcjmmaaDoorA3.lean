/- Models of Go functions, and their walks. (Printed by tools/mg.py.) -/
import Derived.Test.YtbdanphebcjmmaaDoorA2
set_option linter.unusedVariables false
set_option linter.unusedSimpArgs false
namespace Go.Am
open Go Go.RowKit Go.Proofs

def m_i_lexertoken_L1 (a0 : TLexer) (y36 : Int) : Option (TLexer) :=
  ((
    (if y36 < (a0.fS.length : Int) then
      sidx a0.fS y36 >>= fun c48 =>
      (if (c48.toNat : Int) = 10 then
        some (.inr (TLexer.mk a0.fS y36 a0.fOut a0.fCode))
      else
        sfrom a0.fS y36 >>= fun s51 =>
        m66 s51 [63, 62] >>= fun v53 =>
        (if v53 = true then
          some (.inr (TLexer.mk a0.fS y36 a0.fOut a0.fCode))
        else
          some (.inl (c48, ((c48.toNat : Int) != 10), s51, v53, (!v53)))))
    else
      some (.inr (TLexer.mk a0.fS y36 a0.fOut a0.fCode)))
   : Option ((UInt8 × Bool × Str × Bool × Bool) ⊕ TLexer)) >>= fun o44 => match o44 with
    | .inr r => some r
    | .inl (c39, b40, s41, b42, b43) =>
      m_i_lexertoken_L1 a0 (W64 (y36 + 1))
  )
partial_fixpoint
def m_i_lexertoken_L3 (s1 : Str) (y101 : Int) : Option (Int) :=
  (if y101 < (s1.length : Int) then
    sidx s1 y101 >>= fun c105 =>
    m_i_isDigit (c105.toNat : Int) >>= fun v107 =>
    (if v107 = true then
      m_i_lexertoken_L3 s1 (W64 (y101 + 1))
    else
      some y101)
  else
    some y101)
partial_fixpoint
def m_i_lexertoken (a0 : TLexer) : Option (TLexer) :=
  sfrom a0.fS a0.fAt >>= fun s1 =>
  sidx s1 0 >>= fun c3 =>
  (
    (if (c3.toNat : Int) = 32 then
      some true
    else
      (if (c3.toNat : Int) = 9 then
        some true
      else
        (if (c3.toNat : Int) = 10 then
          some true
        else
          some ((c3.toNat : Int) == 13))))
   : Option (Bool)) >>= fun b5 =>
  (if b5 = true then
    some (TLexer.mk a0.fS (W64 (a0.fAt + 1)) a0.fOut a0.fCode)
  else
    m66 s1 [63, 62] >>= fun v13 =>
    (if v13 = true then
      m_i_lexeradd a0 6 0 [59] 2 >>= fun v16 =>
      (
        (if v16.fAt < (v16.fS.length : Int) then
          sidx v16.fS v16.fAt >>= fun c24 =>
          some ((c24.toNat : Int) == 10)
        else
          some false)
       : Option (Bool)) >>= fun b19 =>
      (if b19 = true then
        m_i_lexerinline (TLexer.mk v16.fS (W64 (v16.fAt + 1)) v16.fOut v16.fCode) >>= fun v27 =>
        some v27
      else
        m_i_lexerinline v16 >>= fun v30 =>
        some v30)
    else
      m66 s1 [47, 47] >>= fun v33 =>
      (if v33 = true then
        m_i_lexertoken_L1 a0 a0.fAt
      else
        (if (c3.toNat : Int) = 36 then
          sfrom s1 1 >>= fun s60 =>
          m_i_nameLength s60 >>= fun v62 =>
          ((
            (
              some ()
             : Option (Unit)) >>= fun _ =>
            (if v62 = 0 then
              some (.inr (TLexer.mk a0.fS a0.fAt a0.fOut 2))
            else
              some (.inl ()))
           : Option ((Unit) ⊕ TLexer)) >>= fun o64 => match o64 with
            | .inr r => some r
            | .inl _ =>
              ssub s1 1 (W64 (1 + v62)) >>= fun s71 =>
              m_i_lexeradd a0 2 0 s71 (W64 (1 + v62)) >>= fun v73 =>
              some v73
          )
        else
          m_i_nameLength s1 >>= fun v76 =>
          (if v76 > 0 then
            (
              m_i_nameLength s1 >>= fun v83 =>
              some v83
             : Option (Int)) >>= fun y79 =>
            sto s1 y79 >>= fun s85 =>
            m_i_lexeradd a0 3 0 s85 y79 >>= fun v87 =>
            some v87
          else
            (
              m_i_isDigit (c3.toNat : Int) >>= fun v94 =>
              some v94
             : Option (Bool)) >>= fun b90 =>
            (if b90 = true then
              (
                m_i_lexertoken_L3 s1 0
               : Option (Int)) >>= fun y97 =>
              sto s1 y97 >>= fun s112 =>
              m69 s112 >>= fun (v114, v115) =>
              ((
                (if v115 = true then
                  some (.inl ())
                else
                  some (.inr (TLexer.mk a0.fS a0.fAt a0.fOut 4)))
               : Option ((Unit) ⊕ TLexer)) >>= fun o117 => match o117 with
                | .inr r => some r
                | .inl _ =>
                  m_i_lexeradd a0 4 v114 [] y97 >>= fun v122 =>
                  some v122
              )
            else
              (if (c3.toNat : Int) = 39 then
                m_i_lexertext a0 s1 >>= fun v126 =>
                some v126
              else
                m_i_lexermark a0 s1 >>= fun v129 =>
                some v129)))))))
theorem ok_i_lexertoken {a0 : TLexer} {r : TLexer} {g1000 : Nat} {g1001 : Nat} (h : m_i_lexertoken a0 = some r) : ACall Tryd.prog 16 [.optr 0 g1000 0 0] [.row g1000 4 1 40 (fun _ => [.str a0.fS, .int .i64 a0.fAt, .own 1 g1001 0 a0.fOut.length, .int .i64 a0.fCode]), .row g1001 4 a0.fOut.length 30 (row TToken.cells a0.fOut)] (fun res h => ∃ G1 : Nat, res = .tup [] ∧ h = [.row g1000 4 1 40 (fun _ => [.str r.fS, .int .i64 r.fAt, .own 1 G1 0 r.fOut.length, .int .i64 r.fCode]), .row G1 4 r.fOut.length 30 (row TToken.cells r.fOut)]) := by
  refine ACall.of_vc tabT_ok mixed Tryd.func16 rfl (by kernel_rfl) _ _ _ rfl (by kernel_rfl) ?_
  unfold m_i_lexertoken at h
  refine .direct ?_
  refine ⟨rfl, ?_⟩
  refine ⟨rfl, ?_⟩
  refine ⟨rfl, _, rfl, ?_⟩
  refine ⟨rfl, ?_⟩
  refine ⟨rfl, ?_⟩
  refine ⟨rfl, _, rfl, ?_⟩
  obtain ⟨s1, hx2, h⟩ := bind_some h
  refine ⟨sfrom_bd hx2, s1, sfrom_at hx2, ?_⟩
  refine .direct ?_
  obtain ⟨c3, hx4, h⟩ := bind_some h
  refine ⟨sidx_bd hx4, c3, sidx_at hx4, ?_⟩
  obtain ⟨o6, ho7, hk8⟩ := bind_some h
  replace h := ho7
  refine .cut (fun σ η => ∃ b5, b5 = o6 ∧ σ = [(0, .optr 0 g1000 0 0), (2, .str s1), (3, .int .u8 (c3.toNat : Int)), (23, .bool b5)] ∧ η = [.row g1000 4 1 40 (fun _ => [.str a0.fS, .int .i64 a0.fAt, .own 1 g1001 0 a0.fOut.length, .int .i64 a0.fCode]), .row g1001 4 a0.fOut.length 30 (row TToken.cells a0.fOut)]) ?_ ?_
  · refine splitB.mk (fun hb9 => ?_) (fun hb9 => ?_)
    · replace h := T_beq hb9 h
      refine splitB_t ?_
      refine splitB_t ?_
      refine splitB_t ?_
      refine splitB_t ?_
      refine splitB_t ?_
      refine splitB_t ?_
      refine splitB_t ?_
      refine splitB_t ?_
      exact ⟨[(0, .optr 0 g1000 0 0), (2, .str s1), (3, .int .u8 (c3.toNat : Int)), (23, .bool true)], [.row g1000 4 1 40 (fun _ => [.str a0.fS, .int .i64 a0.fAt, .own 1 g1001 0 a0.fOut.length, .int .i64 a0.fCode]), .row g1001 4 a0.fOut.length 30 (row TToken.cells a0.fOut)], ⟨[0, 1], by decide, (show 2 ≤ 2 by decide), ⟨.optr_eq rfl ⟨_, _, _, _, rfl⟩ ⟨_, _, _, _, rfl⟩ rfl rfl, .str_eq rfl, .int_eq rfl, .bool_eq rfl, trivial⟩, ⟨⟨fun _ => ⟨rfl, rfl⟩, rfl, rfl, rfl, fun _ _ => ⟨.str_eq rfl, .int_eq rfl, .own_eq rfl ⟨_, _, _, _, rfl⟩ ⟨_, _, _, _, rfl⟩ rfl rfl, .int_eq rfl, trivial⟩⟩, ⟨fun _ => ⟨rfl, rfl⟩, rfl, rfl, rfl, fz_row TToken.cells_pure⟩, trivial⟩⟩, true, Option.some.inj h, rfl, rfl⟩
    · replace h := F_beq hb9 h
      refine splitB_f ?_
      refine splitB_f ?_
      refine splitB.mk (fun hb10 => ?_) (fun hb10 => ?_)
      · replace h := T_beq hb10 h
        refine splitB_t ?_
        refine splitB_t ?_
        refine splitB_t ?_
        refine splitB_t ?_
        refine splitB_t ?_
        exact ⟨[(0, .optr 0 g1000 0 0), (2, .str s1), (3, .int .u8 (c3.toNat : Int)), (23, .bool true)], [.row g1000 4 1 40 (fun _ => [.str a0.fS, .int .i64 a0.fAt, .own 1 g1001 0 a0.fOut.length, .int .i64 a0.fCode]), .row g1001 4 a0.fOut.length 30 (row TToken.cells a0.fOut)], ⟨[0, 1], by decide, (show 2 ≤ 2 by decide), ⟨.optr_eq rfl ⟨_, _, _, _, rfl⟩ ⟨_, _, _, _, rfl⟩ rfl rfl, .str_eq rfl, .int_eq rfl, .bool_eq rfl, trivial⟩, ⟨⟨fun _ => ⟨rfl, rfl⟩, rfl, rfl, rfl, fun _ _ => ⟨.str_eq rfl, .int_eq rfl, .own_eq rfl ⟨_, _, _, _, rfl⟩ ⟨_, _, _, _, rfl⟩ rfl rfl, .int_eq rfl, trivial⟩⟩, ⟨fun _ => ⟨rfl, rfl⟩, rfl, rfl, rfl, fz_row TToken.cells_pure⟩, trivial⟩⟩, true, Option.some.inj h, rfl, rfl⟩
      · replace h := F_beq hb10 h
        refine splitB_f ?_
        refine splitB_f ?_
        refine splitB.mk (fun hb11 => ?_) (fun hb11 => ?_)
        · replace h := T_beq hb11 h
          refine splitB_t ?_
          refine splitB_t ?_
          exact ⟨[(0, .optr 0 g1000 0 0), (2, .str s1), (3, .int .u8 (c3.toNat : Int)), (23, .bool true)], [.row g1000 4 1 40 (fun _ => [.str a0.fS, .int .i64 a0.fAt, .own 1 g1001 0 a0.fOut.length, .int .i64 a0.fCode]), .row g1001 4 a0.fOut.length 30 (row TToken.cells a0.fOut)], ⟨[0, 1], by decide, (show 2 ≤ 2 by decide), ⟨.optr_eq rfl ⟨_, _, _, _, rfl⟩ ⟨_, _, _, _, rfl⟩ rfl rfl, .str_eq rfl, .int_eq rfl, .bool_eq rfl, trivial⟩, ⟨⟨fun _ => ⟨rfl, rfl⟩, rfl, rfl, rfl, fun _ _ => ⟨.str_eq rfl, .int_eq rfl, .own_eq rfl ⟨_, _, _, _, rfl⟩ ⟨_, _, _, _, rfl⟩ rfl rfl, .int_eq rfl, trivial⟩⟩, ⟨fun _ => ⟨rfl, rfl⟩, rfl, rfl, rfl, fz_row TToken.cells_pure⟩, trivial⟩⟩, true, Option.some.inj h, rfl, rfl⟩
        · replace h := F_beq hb11 h
          refine splitB_f ?_
          refine splitB_f ?_
          exact ⟨[(0, .optr 0 g1000 0 0), (2, .str s1), (3, .int .u8 (c3.toNat : Int)), (23, .bool ((c3.toNat : Int) == 13))], [.row g1000 4 1 40 (fun _ => [.str a0.fS, .int .i64 a0.fAt, .own 1 g1001 0 a0.fOut.length, .int .i64 a0.fCode]), .row g1001 4 a0.fOut.length 30 (row TToken.cells a0.fOut)], ⟨[0, 1], by decide, (show 2 ≤ 2 by decide), ⟨.optr_eq rfl ⟨_, _, _, _, rfl⟩ ⟨_, _, _, _, rfl⟩ rfl rfl, .str_eq rfl, .int_eq rfl, .bool_eq rfl, trivial⟩, ⟨⟨fun _ => ⟨rfl, rfl⟩, rfl, rfl, rfl, fun _ _ => ⟨.str_eq rfl, .int_eq rfl, .own_eq rfl ⟨_, _, _, _, rfl⟩ ⟨_, _, _, _, rfl⟩ rfl rfl, .int_eq rfl, trivial⟩⟩, ⟨fun _ => ⟨rfl, rfl⟩, rfl, rfl, rfl, fz_row TToken.cells_pure⟩, trivial⟩⟩, ((c3.toNat : Int) == 13), Option.some.inj h, rfl, rfl⟩
  · rintro _ _ ⟨b5, rfl, rfl, rfl⟩
    replace h := hk8
    refine splitB.mk (fun hb12 => ?_) (fun hb12 => ?_)
    · replace h := T_var hb12 h
      refine ⟨rfl, ?_⟩
      refine ⟨rfl, ?_⟩
      refine ⟨rfl, _, rfl, ?_⟩
      refine ⟨rfl, ?_⟩
      refine ⟨rfl, ?_⟩
      refine ⟨rfl, _, fun _ => [.str a0.fS, .int .i64 (W64 (a0.fAt + 1)), .own 1 g1001 0 a0.fOut.length, .int .i64 a0.fCode], rfl, one_set rfl, ?_⟩
      obtain rfl := Option.some.inj h
      exact ⟨[0, 1], .tup [], [.row g1000 4 1 40 (fun _ => [.str ((TLexer.mk a0.fS (W64 (a0.fAt + 1)) a0.fOut a0.fCode).fS), .int .i64 ((TLexer.mk a0.fS (W64 (a0.fAt + 1)) a0.fOut a0.fCode).fAt), .own 1 g1001 0 ((TLexer.mk a0.fS (W64 (a0.fAt + 1)) a0.fOut a0.fCode).fOut).length, .int .i64 ((TLexer.mk a0.fS (W64 (a0.fAt + 1)) a0.fOut a0.fCode).fCode)]), .row g1001 4 ((TLexer.mk a0.fS (W64 (a0.fAt + 1)) a0.fOut a0.fCode).fOut).length 30 (row TToken.cells ((TLexer.mk a0.fS (W64 (a0.fAt + 1)) a0.fOut a0.fCode).fOut))], by decide, (show 2 ≤ 2 by decide), (.tup_l trivial), ⟨⟨fun _ => ⟨rfl, rfl⟩, rfl, rfl, rfl, fun _ _ => ⟨.str_eq rfl, .int_eq rfl, .own_eq rfl ⟨_, _, _, _, rfl⟩ ⟨_, _, _, _, rfl⟩ rfl rfl, .int_eq rfl, trivial⟩⟩, ⟨fun _ => ⟨rfl, rfl⟩, rfl, rfl, rfl, fz_row TToken.cells_pure⟩, trivial⟩, g1001, rfl, rfl⟩
    · replace h := F_var hb12 h
      refine .direct ?_
      obtain ⟨v13, hv14, h⟩ := bind_some h
      refine ⟨_, ACall.pure0 (ok66 hv14) _ rfl (fun _ => rfl), ?_⟩
      rintro _ _ ⟨rfl, rfl⟩
      refine splitB.mk (fun hb15 => ?_) (fun hb15 => ?_)
      · replace h := T_var hb15 h
        refine .direct ?_
        obtain ⟨v16, hv17, h⟩ := bind_some h
        refine ⟨fun res h' => ∃ g18 : Nat, res = .tup [] ∧ h' = [.row g1000 4 1 40 (fun _ => [.str v16.fS, .int .i64 v16.fAt, .own 1 g18 0 v16.fOut.length, .int .i64 v16.fCode]), .row g18 4 v16.fOut.length 30 (row TToken.cells v16.fOut)], (ACall.over (ok_i_lexeradd (g1000 := g1000) (g1001 := g1001) hv17) [0, 1] [.row g1000 4 1 40 (fun _ => [.str a0.fS, .int .i64 a0.fAt, .own 1 g1001 0 a0.fOut.length, .int .i64 a0.fCode]), .row g1001 4 a0.fOut.length 30 (row TToken.cells a0.fOut)] rfl (by decide) (by simp) (by intro j o hj; exact match j, hj with | 0, hj => by cases hj; rfl | 1, hj => by cases hj; exact (congrArg some (renO_row TToken.cells_pure _ _ _ _ _ _)).symm | j + 2, hj => by cases hj) rfl).mono (by rintro _ _ ⟨_, _, ⟨g18, rfl, rfl⟩, rfl, rfl⟩; exact ⟨g18, rfl, (by simp only [nxtL, putSel, List.map_cons, List.map_nil, List.drop, List.length_cons, List.length_nil, renO_row TToken.cells_pure]; rfl)⟩), ?_⟩
        rintro _ _ ⟨g18, rfl, rfl⟩
        refine .direct ?_
        obtain ⟨o20, ho21, hk22⟩ := bind_some h
        replace h := ho21
        refine .cut (fun σ η => ∃ b19, b19 = o20 ∧ σ = [(0, .optr 0 g1000 0 0), (71, .bool b19)] ∧ η = [.row g1000 4 1 40 (fun _ => [.str v16.fS, .int .i64 v16.fAt, .own 1 g18 0 v16.fOut.length, .int .i64 v16.fCode]), .row g18 4 v16.fOut.length 30 (row TToken.cells v16.fOut)]) ?_ ?_
        · refine ⟨rfl, ?_⟩
          refine ⟨rfl, ?_⟩
          refine ⟨rfl, _, rfl, ?_⟩
          refine ⟨rfl, ?_⟩
          refine ⟨rfl, ?_⟩
          refine ⟨rfl, _, rfl, ?_⟩
          refine splitB.mk (fun hb23 => ?_) (fun hb23 => ?_)
          · replace h := T_dec hb23 h
            refine splitB_t ?_
            refine ⟨rfl, ?_⟩
            refine splitB_t ?_
            refine ⟨rfl, ?_⟩
            refine splitB_t ?_
            refine ⟨rfl, _, rfl, ?_⟩
            refine splitB_t ?_
            refine splitB_t ?_
            refine ⟨rfl, ?_⟩
            refine splitB_t ?_
            refine ⟨rfl, ?_⟩
            refine splitB_t ?_
            refine ⟨rfl, _, rfl, ?_⟩
            refine splitB_t ?_
            obtain ⟨c24, hx25, h⟩ := bind_some h
            refine ⟨sidx_bd hx25, c24, sidx_at hx25, ?_⟩
            refine splitB_t ?_
            refine splitB_t ?_
            exact ⟨[(0, .optr 0 g1000 0 0), (71, .bool ((c24.toNat : Int) == 10))], [.row g1000 4 1 40 (fun _ => [.str v16.fS, .int .i64 v16.fAt, .own 1 g18 0 v16.fOut.length, .int .i64 v16.fCode]), .row g18 4 v16.fOut.length 30 (row TToken.cells v16.fOut)], ⟨[0, 1], by decide, (show 2 ≤ 2 by decide), ⟨.optr_eq rfl ⟨_, _, _, _, rfl⟩ ⟨_, _, _, _, rfl⟩ rfl rfl, .bool_eq rfl, trivial⟩, ⟨⟨fun _ => ⟨rfl, rfl⟩, rfl, rfl, rfl, fun _ _ => ⟨.str_eq rfl, .int_eq rfl, .own_eq rfl ⟨_, _, _, _, rfl⟩ ⟨_, _, _, _, rfl⟩ rfl rfl, .int_eq rfl, trivial⟩⟩, ⟨fun _ => ⟨rfl, rfl⟩, rfl, rfl, rfl, fz_row TToken.cells_pure⟩, trivial⟩⟩, ((c24.toNat : Int) == 10), Option.some.inj h, rfl, rfl⟩
          · replace h := F_dec hb23 h
            refine splitB_f ?_
            refine splitB_f ?_
            refine splitB_f ?_
            refine splitB_f ?_
            refine splitB_f ?_
            refine splitB_f ?_
            refine splitB_f ?_
            refine splitB_f ?_
            refine splitB_f ?_
            refine splitB_f ?_
            exact ⟨[(0, .optr 0 g1000 0 0), (71, .bool false)], [.row g1000 4 1 40 (fun _ => [.str v16.fS, .int .i64 v16.fAt, .own 1 g18 0 v16.fOut.length, .int .i64 v16.fCode]), .row g18 4 v16.fOut.length 30 (row TToken.cells v16.fOut)], ⟨[0, 1], by decide, (show 2 ≤ 2 by decide), ⟨.optr_eq rfl ⟨_, _, _, _, rfl⟩ ⟨_, _, _, _, rfl⟩ rfl rfl, .bool_eq rfl, trivial⟩, ⟨⟨fun _ => ⟨rfl, rfl⟩, rfl, rfl, rfl, fun _ _ => ⟨.str_eq rfl, .int_eq rfl, .own_eq rfl ⟨_, _, _, _, rfl⟩ ⟨_, _, _, _, rfl⟩ rfl rfl, .int_eq rfl, trivial⟩⟩, ⟨fun _ => ⟨rfl, rfl⟩, rfl, rfl, rfl, fz_row TToken.cells_pure⟩, trivial⟩⟩, false, Option.some.inj h, rfl, rfl⟩
        · rintro _ _ ⟨b19, rfl, rfl, rfl⟩
          replace h := hk22
          refine splitB.mk (fun hb26 => ?_) (fun hb26 => ?_)
          · replace h := T_var hb26 h
            refine ⟨rfl, ?_⟩
            refine ⟨rfl, ?_⟩
            refine ⟨rfl, _, rfl, ?_⟩
            refine ⟨rfl, ?_⟩
            refine ⟨rfl, ?_⟩
            refine ⟨rfl, _, fun _ => [.str v16.fS, .int .i64 (W64 (v16.fAt + 1)), .own 1 g18 0 v16.fOut.length, .int .i64 v16.fCode], rfl, one_set rfl, ?_⟩
            obtain ⟨v27, hv28, h⟩ := bind_some h
            refine ⟨fun res h' => ∃ g29 : Nat, res = .tup [] ∧ h' = [.row g1000 4 1 40 (fun _ => [.str v27.fS, .int .i64 v27.fAt, .own 1 g29 0 v27.fOut.length, .int .i64 v27.fCode]), .row g29 4 v27.fOut.length 30 (row TToken.cells v27.fOut)], (ACall.over (ok_i_lexerinline (g1000 := g1000) (g1001 := g18) hv28) [0, 1] [.row g1000 4 1 40 (fun _ => [.str v16.fS, .int .i64 (W64 (v16.fAt + 1)), .own 1 g18 0 v16.fOut.length, .int .i64 v16.fCode]), .row g18 4 v16.fOut.length 30 (row TToken.cells v16.fOut)] rfl (by decide) (by simp) (by intro j o hj; exact match j, hj with | 0, hj => by cases hj; rfl | 1, hj => by cases hj; exact (congrArg some (renO_row TToken.cells_pure _ _ _ _ _ _)).symm | j + 2, hj => by cases hj) rfl).mono (by rintro _ _ ⟨_, _, ⟨g29, rfl, rfl⟩, rfl, rfl⟩; exact ⟨g29, rfl, (by simp only [nxtL, putSel, List.map_cons, List.map_nil, List.drop, List.length_cons, List.length_nil, renO_row TToken.cells_pure]; rfl)⟩), ?_⟩
            rintro _ _ ⟨g29, rfl, rfl⟩
            obtain rfl := Option.some.inj h
            exact ⟨[0, 1], .tup [], [.row g1000 4 1 40 (fun _ => [.str v27.fS, .int .i64 v27.fAt, .own 1 g29 0 v27.fOut.length, .int .i64 v27.fCode]), .row g29 4 v27.fOut.length 30 (row TToken.cells v27.fOut)], by decide, (show 2 ≤ 2 by decide), (.tup_l trivial), ⟨⟨fun _ => ⟨rfl, rfl⟩, rfl, rfl, rfl, fun _ _ => ⟨.str_eq rfl, .int_eq rfl, .own_eq rfl ⟨_, _, _, _, rfl⟩ ⟨_, _, _, _, rfl⟩ rfl rfl, .int_eq rfl, trivial⟩⟩, ⟨fun _ => ⟨rfl, rfl⟩, rfl, rfl, rfl, fz_row TToken.cells_pure⟩, trivial⟩, g29, rfl, rfl⟩
          · replace h := F_var hb26 h
            obtain ⟨v30, hv31, h⟩ := bind_some h
            refine ⟨fun res h' => ∃ g32 : Nat, res = .tup [] ∧ h' = [.row g1000 4 1 40 (fun _ => [.str v30.fS, .int .i64 v30.fAt, .own 1 g32 0 v30.fOut.length, .int .i64 v30.fCode]), .row g32 4 v30.fOut.length 30 (row TToken.cells v30.fOut)], (ACall.over (ok_i_lexerinline (g1000 := g1000) (g1001 := g18) hv31) [0, 1] [.row g1000 4 1 40 (fun _ => [.str v16.fS, .int .i64 v16.fAt, .own 1 g18 0 v16.fOut.length, .int .i64 v16.fCode]), .row g18 4 v16.fOut.length 30 (row TToken.cells v16.fOut)] rfl (by decide) (by simp) (by intro j o hj; exact match j, hj with | 0, hj => by cases hj; rfl | 1, hj => by cases hj; exact (congrArg some (renO_row TToken.cells_pure _ _ _ _ _ _)).symm | j + 2, hj => by cases hj) rfl).mono (by rintro _ _ ⟨_, _, ⟨g32, rfl, rfl⟩, rfl, rfl⟩; exact ⟨g32, rfl, (by simp only [nxtL, putSel, List.map_cons, List.map_nil, List.drop, List.length_cons, List.length_nil, renO_row TToken.cells_pure]; rfl)⟩), ?_⟩
            rintro _ _ ⟨g32, rfl, rfl⟩
            obtain rfl := Option.some.inj h
            exact ⟨[0, 1], .tup [], [.row g1000 4 1 40 (fun _ => [.str v30.fS, .int .i64 v30.fAt, .own 1 g32 0 v30.fOut.length, .int .i64 v30.fCode]), .row g32 4 v30.fOut.length 30 (row TToken.cells v30.fOut)], by decide, (show 2 ≤ 2 by decide), (.tup_l trivial), ⟨⟨fun _ => ⟨rfl, rfl⟩, rfl, rfl, rfl, fun _ _ => ⟨.str_eq rfl, .int_eq rfl, .own_eq rfl ⟨_, _, _, _, rfl⟩ ⟨_, _, _, _, rfl⟩ rfl rfl, .int_eq rfl, trivial⟩⟩, ⟨fun _ => ⟨rfl, rfl⟩, rfl, rfl, rfl, fz_row TToken.cells_pure⟩, trivial⟩, g32, rfl, rfl⟩
      · replace h := F_var hb15 h
        refine .direct ?_
        obtain ⟨v33, hv34, h⟩ := bind_some h
        refine ⟨_, ACall.pure0 (ok66 hv34) _ rfl (fun _ => rfl), ?_⟩
        rintro _ _ ⟨rfl, rfl⟩
        refine splitB.mk (fun hb35 => ?_) (fun hb35 => ?_)
        · replace h := T_var hb35 h
          refine LoopAt.enter [(0, .optr 0 g1000 0 0)] [.row g1000 4 1 40 (fun _ => [.str a0.fS, .int .i64 a0.fAt, .own 1 g1001 0 a0.fOut.length, .int .i64 a0.fCode]), .row g1001 4 a0.fOut.length 30 (row TToken.cells a0.fOut)] ⟨[0, 1], by decide, (show 2 ≤ 2 by decide), ⟨.optr_eq rfl ⟨_, _, _, _, rfl⟩ ⟨_, _, _, _, rfl⟩ rfl rfl, trivial⟩, ⟨⟨fun _ => ⟨rfl, rfl⟩, rfl, rfl, rfl, fun _ _ => ⟨.str_eq rfl, .int_eq rfl, .own_eq rfl ⟨_, _, _, _, rfl⟩ ⟨_, _, _, _, rfl⟩ rfl rfl, .int_eq rfl, trivial⟩⟩, ⟨fun _ => ⟨rfl, rfl⟩, rfl, rfl, rfl, fz_row TToken.cells_pure⟩, trivial⟩⟩ ?_
          refine m_i_lexertoken_L1.partial_correctness a0 (motive := fun y36 o57 => r = o57 → LoopAt _ _ [(0, .optr 0 g1000 0 0)] [.row g1000 4 1 40 (fun _ => [.str a0.fS, .int .i64 y36, .own 1 g1001 0 a0.fOut.length, .int .i64 a0.fCode]), .row g1001 4 a0.fOut.length 30 (row TToken.cells a0.fOut)]) ?_ a0.fAt r h rfl
          intro F38 ih37 y36 o57 h hr58
          subst hr58
          refine LoopAt.round ?_
          obtain ⟨o44, ho45, hk46⟩ := bind_some h
          replace h := ho45
          refine .cut (fun σ η => ∃ c39, ∃ b40, ∃ s41, ∃ b42, ∃ b43, .inl (c39, b40, s41, b42, b43) = o44 ∧ σ = [(0, .optr 0 g1000 0 0), (95, .optr 0 g1000 0 0), (96, .optr 0 g1000 0 0), (97, .optr 0 g1000 0 0), (98, .str a0.fS), (99, .optr 0 g1000 0 0), (100, .optr 0 g1000 0 0), (101, .optr 0 g1000 0 1), (102, .int .i64 y36), (103, .int .u8 (c39.toNat : Int)), (104, .bool b40), (107, .optr 0 g1000 0 0), (108, .optr 0 g1000 0 0), (109, .optr 0 g1000 0 0), (110, .str a0.fS), (111, .optr 0 g1000 0 0), (112, .optr 0 g1000 0 0), (113, .optr 0 g1000 0 1), (114, .int .i64 y36), (115, .str s41), (116, .bool b42), (117, .bool b43)] ∧ η = [.row g1000 4 1 40 (fun _ => [.str a0.fS, .int .i64 y36, .own 1 g1001 0 a0.fOut.length, .int .i64 a0.fCode]), .row g1001 4 a0.fOut.length 30 (row TToken.cells a0.fOut)]) ?_ ?_
          · refine .direct ?_
            refine .float [(0, true), (1, true), (2, true), (3, true), (4, true), (5, true), (6, true), (7, true), (8, true), (9, true), (10, true), (11, true), (12, true), (13, true), (14, true), (15, true), (16, true), (17, true), (18, true), (19, true), (20, true), (21, true), (22, true), (23, true), (24, true), (25, true), (26, true), (27, true), (28, true), (29, true), (30, true), (31, true), (32, false), (33, true), (34, true)] (by kernel_rfl) ?_
            refine ⟨rfl, ?_⟩
            refine ⟨rfl, ?_⟩
            refine ⟨rfl, _, rfl, ?_⟩
            refine ⟨rfl, ?_⟩
            refine ⟨rfl, ?_⟩
            refine ⟨rfl, _, rfl, ?_⟩
            refine splitB.mk (fun hb47 => ?_) (fun hb47 => ?_)
            · replace h := T_dec hb47 h
              refine splitB_t ?_
              refine ⟨rfl, ?_⟩
              refine splitB_t ?_
              refine ⟨rfl, ?_⟩
              refine splitB_t ?_
              refine ⟨rfl, _, rfl, ?_⟩
              refine splitB_t ?_
              refine splitB_t ?_
              refine ⟨rfl, ?_⟩
              refine splitB_t ?_
              refine ⟨rfl, ?_⟩
              refine splitB_t ?_
              refine ⟨rfl, _, rfl, ?_⟩
              refine splitB_t ?_
              obtain ⟨c48, hx49, h⟩ := bind_some h
              refine ⟨sidx_bd hx49, c48, sidx_at hx49, ?_⟩
              refine splitB_t ?_
              refine splitB_t ?_
              refine splitB.mk (fun hb50 => ?_) (fun hb50 => ?_)
              · replace h := T_bne hb50 h
                refine splitB_t ?_
                refine ⟨rfl, ?_⟩
                refine splitB_t ?_
                refine ⟨rfl, ?_⟩
                refine splitB_t ?_
                refine ⟨rfl, _, rfl, ?_⟩
                refine splitB_t ?_
                refine splitB_t ?_
                refine ⟨rfl, ?_⟩
                refine splitB_t ?_
                refine ⟨rfl, ?_⟩
                refine splitB_t ?_
                refine ⟨rfl, _, rfl, ?_⟩
                refine splitB_t ?_
                obtain ⟨s51, hx52, h⟩ := bind_some h
                refine ⟨sfrom_bd hx52, s51, sfrom_at hx52, ?_⟩
                refine splitB_t ?_
                obtain ⟨v53, hv54, h⟩ := bind_some h
                refine ⟨_, ACall.pure0 (ok66 hv54) _ rfl (fun _ => rfl), ?_⟩
                rintro _ _ ⟨rfl, rfl⟩
                refine splitB_t ?_
                refine splitB_t ?_
                refine splitB.mk (fun hb55 => ?_) (fun hb55 => ?_)
                · have hb56 := not_F hb55
                  replace h := F_var hb56 h
                  exact ⟨[(0, .optr 0 g1000 0 0), (95, .optr 0 g1000 0 0), (96, .optr 0 g1000 0 0), (97, .optr 0 g1000 0 0), (98, .str a0.fS), (99, .optr 0 g1000 0 0), (100, .optr 0 g1000 0 0), (101, .optr 0 g1000 0 1), (102, .int .i64 y36), (103, .int .u8 (c48.toNat : Int)), (104, .bool ((c48.toNat : Int) != 10)), (107, .optr 0 g1000 0 0), (108, .optr 0 g1000 0 0), (109, .optr 0 g1000 0 0), (110, .str a0.fS), (111, .optr 0 g1000 0 0), (112, .optr 0 g1000 0 0), (113, .optr 0 g1000 0 1), (114, .int .i64 y36), (115, .str s51), (116, .bool v53), (117, .bool (!v53))], [.row g1000 4 1 40 (fun _ => [.str a0.fS, .int .i64 y36, .own 1 g1001 0 a0.fOut.length, .int .i64 a0.fCode]), .row g1001 4 a0.fOut.length 30 (row TToken.cells a0.fOut)], ⟨[0, 1], by decide, (show 2 ≤ 2 by decide), ⟨.optr_eq rfl ⟨_, _, _, _, rfl⟩ ⟨_, _, _, _, rfl⟩ rfl rfl, .optr_eq rfl ⟨_, _, _, _, rfl⟩ ⟨_, _, _, _, rfl⟩ rfl rfl, .optr_eq rfl ⟨_, _, _, _, rfl⟩ ⟨_, _, _, _, rfl⟩ rfl rfl, .optr_eq rfl ⟨_, _, _, _, rfl⟩ ⟨_, _, _, _, rfl⟩ rfl rfl, .str_eq rfl, .optr_eq rfl ⟨_, _, _, _, rfl⟩ ⟨_, _, _, _, rfl⟩ rfl rfl, .optr_eq rfl ⟨_, _, _, _, rfl⟩ ⟨_, _, _, _, rfl⟩ rfl rfl, .optr_eq rfl ⟨_, _, _, _, rfl⟩ ⟨_, _, _, _, rfl⟩ rfl rfl, .int_eq rfl, .int_eq rfl, .bool_eq rfl, .optr_eq rfl ⟨_, _, _, _, rfl⟩ ⟨_, _, _, _, rfl⟩ rfl rfl, .optr_eq rfl ⟨_, _, _, _, rfl⟩ ⟨_, _, _, _, rfl⟩ rfl rfl, .optr_eq rfl ⟨_, _, _, _, rfl⟩ ⟨_, _, _, _, rfl⟩ rfl rfl, .str_eq rfl, .optr_eq rfl ⟨_, _, _, _, rfl⟩ ⟨_, _, _, _, rfl⟩ rfl rfl, .optr_eq rfl ⟨_, _, _, _, rfl⟩ ⟨_, _, _, _, rfl⟩ rfl rfl, .optr_eq rfl ⟨_, _, _, _, rfl⟩ ⟨_, _, _, _, rfl⟩ rfl rfl, .int_eq rfl, .str_eq rfl, .bool_eq rfl, .bool_eq rfl, trivial⟩, ⟨⟨fun _ => ⟨rfl, rfl⟩, rfl, rfl, rfl, fun _ _ => ⟨.str_eq rfl, .int_eq rfl, .own_eq rfl ⟨_, _, _, _, rfl⟩ ⟨_, _, _, _, rfl⟩ rfl rfl, .int_eq rfl, trivial⟩⟩, ⟨fun _ => ⟨rfl, rfl⟩, rfl, rfl, rfl, fz_row TToken.cells_pure⟩, trivial⟩⟩, c48, ((c48.toNat : Int) != 10), s51, v53, (!v53), Option.some.inj h, rfl, rfl⟩
                · have hb56 := not_T hb55
                  replace h := T_var hb56 h
                  obtain rfl := Option.some.inj h
                  replace h := hk46
                  obtain rfl := Option.some.inj h
                  exact ⟨[0, 1], .tup [], [.row g1000 4 1 40 (fun _ => [.str ((TLexer.mk a0.fS y36 a0.fOut a0.fCode).fS), .int .i64 ((TLexer.mk a0.fS y36 a0.fOut a0.fCode).fAt), .own 1 g1001 0 ((TLexer.mk a0.fS y36 a0.fOut a0.fCode).fOut).length, .int .i64 ((TLexer.mk a0.fS y36 a0.fOut a0.fCode).fCode)]), .row g1001 4 ((TLexer.mk a0.fS y36 a0.fOut a0.fCode).fOut).length 30 (row TToken.cells ((TLexer.mk a0.fS y36 a0.fOut a0.fCode).fOut))], by decide, (show 2 ≤ 2 by decide), (.tup_l trivial), ⟨⟨fun _ => ⟨rfl, rfl⟩, rfl, rfl, rfl, fun _ _ => ⟨.str_eq rfl, .int_eq rfl, .own_eq rfl ⟨_, _, _, _, rfl⟩ ⟨_, _, _, _, rfl⟩ rfl rfl, .int_eq rfl, trivial⟩⟩, ⟨fun _ => ⟨rfl, rfl⟩, rfl, rfl, rfl, fz_row TToken.cells_pure⟩, trivial⟩, g1001, rfl, rfl⟩
              · replace h := F_bne hb50 h
                refine splitB_f ?_
                refine splitB_f ?_
                refine splitB_f ?_
                refine splitB_f ?_
                refine splitB_f ?_
                refine splitB_f ?_
                refine splitB_f ?_
                refine splitB_f ?_
                refine splitB_f ?_
                refine splitB_f ?_
                refine splitB_f ?_
                refine splitB_f ?_
                obtain rfl := Option.some.inj h
                replace h := hk46
                obtain rfl := Option.some.inj h
                exact ⟨[0, 1], .tup [], [.row g1000 4 1 40 (fun _ => [.str ((TLexer.mk a0.fS y36 a0.fOut a0.fCode).fS), .int .i64 ((TLexer.mk a0.fS y36 a0.fOut a0.fCode).fAt), .own 1 g1001 0 ((TLexer.mk a0.fS y36 a0.fOut a0.fCode).fOut).length, .int .i64 ((TLexer.mk a0.fS y36 a0.fOut a0.fCode).fCode)]), .row g1001 4 ((TLexer.mk a0.fS y36 a0.fOut a0.fCode).fOut).length 30 (row TToken.cells ((TLexer.mk a0.fS y36 a0.fOut a0.fCode).fOut))], by decide, (show 2 ≤ 2 by decide), (.tup_l trivial), ⟨⟨fun _ => ⟨rfl, rfl⟩, rfl, rfl, rfl, fun _ _ => ⟨.str_eq rfl, .int_eq rfl, .own_eq rfl ⟨_, _, _, _, rfl⟩ ⟨_, _, _, _, rfl⟩ rfl rfl, .int_eq rfl, trivial⟩⟩, ⟨fun _ => ⟨rfl, rfl⟩, rfl, rfl, rfl, fz_row TToken.cells_pure⟩, trivial⟩, g1001, rfl, rfl⟩
            · replace h := F_dec hb47 h
              refine splitB_f ?_
              refine splitB_f ?_
              refine splitB_f ?_
              refine splitB_f ?_
              refine splitB_f ?_
              refine splitB_f ?_
              refine splitB_f ?_
              refine splitB_f ?_
              refine splitB_f ?_
              refine splitB_f ?_
              refine splitB_f ?_
              refine splitB_f ?_
              refine splitB_f ?_
              refine splitB_f ?_
              refine splitB_f ?_
              refine splitB_f ?_
              refine splitB_f ?_
              refine splitB_f ?_
              refine splitB_f ?_
              refine splitB_f ?_
              refine splitB_f ?_
              refine splitB_f ?_
              refine splitB_f ?_
              obtain rfl := Option.some.inj h
              replace h := hk46
              obtain rfl := Option.some.inj h
              exact ⟨[0, 1], .tup [], [.row g1000 4 1 40 (fun _ => [.str ((TLexer.mk a0.fS y36 a0.fOut a0.fCode).fS), .int .i64 ((TLexer.mk a0.fS y36 a0.fOut a0.fCode).fAt), .own 1 g1001 0 ((TLexer.mk a0.fS y36 a0.fOut a0.fCode).fOut).length, .int .i64 ((TLexer.mk a0.fS y36 a0.fOut a0.fCode).fCode)]), .row g1001 4 ((TLexer.mk a0.fS y36 a0.fOut a0.fCode).fOut).length 30 (row TToken.cells ((TLexer.mk a0.fS y36 a0.fOut a0.fCode).fOut))], by decide, (show 2 ≤ 2 by decide), (.tup_l trivial), ⟨⟨fun _ => ⟨rfl, rfl⟩, rfl, rfl, rfl, fun _ _ => ⟨.str_eq rfl, .int_eq rfl, .own_eq rfl ⟨_, _, _, _, rfl⟩ ⟨_, _, _, _, rfl⟩ rfl rfl, .int_eq rfl, trivial⟩⟩, ⟨fun _ => ⟨rfl, rfl⟩, rfl, rfl, rfl, fz_row TToken.cells_pure⟩, trivial⟩, g1001, rfl, rfl⟩
          · rintro _ _ ⟨c39, b40, s41, b42, b43, rfl, rfl, rfl⟩
            replace h := hk46
            refine ⟨rfl, ?_⟩
            refine ⟨rfl, ?_⟩
            refine ⟨rfl, _, rfl, ?_⟩
            refine ⟨rfl, ?_⟩
            refine ⟨rfl, ?_⟩
            refine ⟨rfl, _, fun _ => [.str a0.fS, .int .i64 (W64 (y36 + 1)), .own 1 g1001 0 a0.fOut.length, .int .i64 a0.fCode], rfl, one_set rfl, ?_⟩
            exact ⟨[(0, .optr 0 g1000 0 0)], [.row g1000 4 1 40 (fun _ => [.str a0.fS, .int .i64 (W64 (y36 + 1)), .own 1 g1001 0 a0.fOut.length, .int .i64 a0.fCode]), .row g1001 4 a0.fOut.length 30 (row TToken.cells a0.fOut)], ⟨[0, 1], by decide, (show 2 ≤ 2 by decide), ⟨.optr_eq rfl ⟨_, _, _, _, rfl⟩ ⟨_, _, _, _, rfl⟩ rfl rfl, trivial⟩, ⟨⟨fun _ => ⟨rfl, rfl⟩, rfl, rfl, rfl, fun _ _ => ⟨.str_eq rfl, .int_eq rfl, .own_eq rfl ⟨_, _, _, _, rfl⟩ ⟨_, _, _, _, rfl⟩ rfl rfl, .int_eq rfl, trivial⟩⟩, ⟨fun _ => ⟨rfl, rfl⟩, rfl, rfl, rfl, fz_row TToken.cells_pure⟩, trivial⟩⟩, ih37 _ _ h rfl⟩
        · replace h := F_var hb35 h
          refine .direct ?_
          refine splitB.mk (fun hb59 => ?_) (fun hb59 => ?_)
          · replace h := T_beq hb59 h
            refine .direct ?_
            obtain ⟨s60, hx61, h⟩ := bind_some h
            refine ⟨sfrom_bd hx61, s60, sfrom_at hx61, ?_⟩
            obtain ⟨v62, hv63, h⟩ := bind_some h
            refine ⟨_, ACall.pure0 (ok_i_nameLength hv63) _ rfl (fun _ => rfl), ?_⟩
            rintro _ _ ⟨rfl, rfl⟩
            obtain ⟨o64, ho65, hk66⟩ := bind_some h
            replace h := ho65
            refine .cut (fun σ η => .inl () = o64 ∧ σ = [(0, .optr 0 g1000 0 0), (2, .str s1), (4, .int .i64 v62)] ∧ η = [.row g1000 4 1 40 (fun _ => [.str a0.fS, .int .i64 a0.fAt, .own 1 g1001 0 a0.fOut.length, .int .i64 a0.fCode]), .row g1001 4 a0.fOut.length 30 (row TToken.cells a0.fOut)]) ?_ ?_
            · obtain ⟨o67, ho68, hk69⟩ := bind_some h
              replace h := ho68
              refine .cut (fun σ η => () = o67 ∧ σ = [(0, .optr 0 g1000 0 0), (2, .str s1), (4, .int .i64 v62), (133, .bool (v62 == 0))] ∧ η = [.row g1000 4 1 40 (fun _ => [.str a0.fS, .int .i64 a0.fAt, .own 1 g1001 0 a0.fOut.length, .int .i64 a0.fCode]), .row g1001 4 a0.fOut.length 30 (row TToken.cells a0.fOut)]) ?_ ?_
              · exact ⟨[(0, .optr 0 g1000 0 0), (2, .str s1), (4, .int .i64 v62), (133, .bool (v62 == 0))], [.row g1000 4 1 40 (fun _ => [.str a0.fS, .int .i64 a0.fAt, .own 1 g1001 0 a0.fOut.length, .int .i64 a0.fCode]), .row g1001 4 a0.fOut.length 30 (row TToken.cells a0.fOut)], ⟨[0, 1], by decide, (show 2 ≤ 2 by decide), ⟨.optr_eq rfl ⟨_, _, _, _, rfl⟩ ⟨_, _, _, _, rfl⟩ rfl rfl, .str_eq rfl, .int_eq rfl, .bool_eq rfl, trivial⟩, ⟨⟨fun _ => ⟨rfl, rfl⟩, rfl, rfl, rfl, fun _ _ => ⟨.str_eq rfl, .int_eq rfl, .own_eq rfl ⟨_, _, _, _, rfl⟩ ⟨_, _, _, _, rfl⟩ rfl rfl, .int_eq rfl, trivial⟩⟩, ⟨fun _ => ⟨rfl, rfl⟩, rfl, rfl, rfl, fz_row TToken.cells_pure⟩, trivial⟩⟩, Option.some.inj h, rfl, rfl⟩
              · rintro _ _ ⟨rfl, rfl, rfl⟩
                replace h := hk69
                refine splitB.mk (fun hb70 => ?_) (fun hb70 => ?_)
                · replace h := T_beq hb70 h
                  refine .direct ?_
                  refine ⟨rfl, ?_⟩
                  refine ⟨rfl, ?_⟩
                  refine ⟨rfl, _, fun _ => [.str a0.fS, .int .i64 a0.fAt, .own 1 g1001 0 a0.fOut.length, .int .i64 2], rfl, one_set rfl, ?_⟩
                  obtain rfl := Option.some.inj h
                  replace h := hk66
                  obtain rfl := Option.some.inj h
                  exact ⟨[0, 1], .tup [], [.row g1000 4 1 40 (fun _ => [.str ((TLexer.mk a0.fS a0.fAt a0.fOut 2).fS), .int .i64 ((TLexer.mk a0.fS a0.fAt a0.fOut 2).fAt), .own 1 g1001 0 ((TLexer.mk a0.fS a0.fAt a0.fOut 2).fOut).length, .int .i64 ((TLexer.mk a0.fS a0.fAt a0.fOut 2).fCode)]), .row g1001 4 ((TLexer.mk a0.fS a0.fAt a0.fOut 2).fOut).length 30 (row TToken.cells ((TLexer.mk a0.fS a0.fAt a0.fOut 2).fOut))], by decide, (show 2 ≤ 2 by decide), (.tup_l trivial), ⟨⟨fun _ => ⟨rfl, rfl⟩, rfl, rfl, rfl, fun _ _ => ⟨.str_eq rfl, .int_eq rfl, .own_eq rfl ⟨_, _, _, _, rfl⟩ ⟨_, _, _, _, rfl⟩ rfl rfl, .int_eq rfl, trivial⟩⟩, ⟨fun _ => ⟨rfl, rfl⟩, rfl, rfl, rfl, fz_row TToken.cells_pure⟩, trivial⟩, g1001, rfl, rfl⟩
                · replace h := F_beq hb70 h
                  exact ⟨[(0, .optr 0 g1000 0 0), (2, .str s1), (4, .int .i64 v62)], [.row g1000 4 1 40 (fun _ => [.str a0.fS, .int .i64 a0.fAt, .own 1 g1001 0 a0.fOut.length, .int .i64 a0.fCode]), .row g1001 4 a0.fOut.length 30 (row TToken.cells a0.fOut)], ⟨[0, 1], by decide, (show 2 ≤ 2 by decide), ⟨.optr_eq rfl ⟨_, _, _, _, rfl⟩ ⟨_, _, _, _, rfl⟩ rfl rfl, .str_eq rfl, .int_eq rfl, trivial⟩, ⟨⟨fun _ => ⟨rfl, rfl⟩, rfl, rfl, rfl, fun _ _ => ⟨.str_eq rfl, .int_eq rfl, .own_eq rfl ⟨_, _, _, _, rfl⟩ ⟨_, _, _, _, rfl⟩ rfl rfl, .int_eq rfl, trivial⟩⟩, ⟨fun _ => ⟨rfl, rfl⟩, rfl, rfl, rfl, fz_row TToken.cells_pure⟩, trivial⟩⟩, Option.some.inj h, rfl, rfl⟩
            · rintro _ _ ⟨rfl, rfl, rfl⟩
              replace h := hk66
              obtain ⟨s71, hx72, h⟩ := bind_some h
              refine ⟨ssub_bd hx72, s71, ssub_at hx72, ?_⟩
              obtain ⟨v73, hv74, h⟩ := bind_some h
              refine ⟨fun res h' => ∃ g75 : Nat, res = .tup [] ∧ h' = [.row g1000 4 1 40 (fun _ => [.str v73.fS, .int .i64 v73.fAt, .own 1 g75 0 v73.fOut.length, .int .i64 v73.fCode]), .row g75 4 v73.fOut.length 30 (row TToken.cells v73.fOut)], (ACall.over (ok_i_lexeradd (g1000 := g1000) (g1001 := g1001) hv74) [0, 1] [.row g1000 4 1 40 (fun _ => [.str a0.fS, .int .i64 a0.fAt, .own 1 g1001 0 a0.fOut.length, .int .i64 a0.fCode]), .row g1001 4 a0.fOut.length 30 (row TToken.cells a0.fOut)] rfl (by decide) (by simp) (by intro j o hj; exact match j, hj with | 0, hj => by cases hj; rfl | 1, hj => by cases hj; exact (congrArg some (renO_row TToken.cells_pure _ _ _ _ _ _)).symm | j + 2, hj => by cases hj) rfl).mono (by rintro _ _ ⟨_, _, ⟨g75, rfl, rfl⟩, rfl, rfl⟩; exact ⟨g75, rfl, (by simp only [nxtL, putSel, List.map_cons, List.map_nil, List.drop, List.length_cons, List.length_nil, renO_row TToken.cells_pure]; rfl)⟩), ?_⟩
              rintro _ _ ⟨g75, rfl, rfl⟩
              obtain rfl := Option.some.inj h
              exact ⟨[0, 1], .tup [], [.row g1000 4 1 40 (fun _ => [.str v73.fS, .int .i64 v73.fAt, .own 1 g75 0 v73.fOut.length, .int .i64 v73.fCode]), .row g75 4 v73.fOut.length 30 (row TToken.cells v73.fOut)], by decide, (show 2 ≤ 2 by decide), (.tup_l trivial), ⟨⟨fun _ => ⟨rfl, rfl⟩, rfl, rfl, rfl, fun _ _ => ⟨.str_eq rfl, .int_eq rfl, .own_eq rfl ⟨_, _, _, _, rfl⟩ ⟨_, _, _, _, rfl⟩ rfl rfl, .int_eq rfl, trivial⟩⟩, ⟨fun _ => ⟨rfl, rfl⟩, rfl, rfl, rfl, fz_row TToken.cells_pure⟩, trivial⟩, g75, rfl, rfl⟩
          · replace h := F_beq hb59 h
            refine .direct ?_
            obtain ⟨v76, hv77, h⟩ := bind_some h
            refine ⟨_, ACall.pure0 (ok_i_nameLength hv77) _ rfl (fun _ => rfl), ?_⟩
            rintro _ _ ⟨rfl, rfl⟩
            refine splitB.mk (fun hb78 => ?_) (fun hb78 => ?_)
            · replace h := T_dec hb78 h
              obtain ⟨o80, ho81, hk82⟩ := bind_some h
              replace h := ho81
              refine .cut (fun σ η => ∃ y79, y79 = o80 ∧ σ = [(0, .optr 0 g1000 0 0), (2, .str s1), (5, .int .i64 y79)] ∧ η = [.row g1000 4 1 40 (fun _ => [.str a0.fS, .int .i64 a0.fAt, .own 1 g1001 0 a0.fOut.length, .int .i64 a0.fCode]), .row g1001 4 a0.fOut.length 30 (row TToken.cells a0.fOut)]) ?_ ?_
              · obtain ⟨v83, hv84, h⟩ := bind_some h
                refine ⟨_, ACall.pure0 (ok_i_nameLength hv84) _ rfl (fun _ => rfl), ?_⟩
                rintro _ _ ⟨rfl, rfl⟩
                exact ⟨[(0, .optr 0 g1000 0 0), (2, .str s1), (5, .int .i64 v83)], [.row g1000 4 1 40 (fun _ => [.str a0.fS, .int .i64 a0.fAt, .own 1 g1001 0 a0.fOut.length, .int .i64 a0.fCode]), .row g1001 4 a0.fOut.length 30 (row TToken.cells a0.fOut)], ⟨[0, 1], by decide, (show 2 ≤ 2 by decide), ⟨.optr_eq rfl ⟨_, _, _, _, rfl⟩ ⟨_, _, _, _, rfl⟩ rfl rfl, .str_eq rfl, .int_eq rfl, trivial⟩, ⟨⟨fun _ => ⟨rfl, rfl⟩, rfl, rfl, rfl, fun _ _ => ⟨.str_eq rfl, .int_eq rfl, .own_eq rfl ⟨_, _, _, _, rfl⟩ ⟨_, _, _, _, rfl⟩ rfl rfl, .int_eq rfl, trivial⟩⟩, ⟨fun _ => ⟨rfl, rfl⟩, rfl, rfl, rfl, fz_row TToken.cells_pure⟩, trivial⟩⟩, v83, Option.some.inj h, rfl, rfl⟩
              · rintro _ _ ⟨y79, rfl, rfl, rfl⟩
                replace h := hk82
                obtain ⟨s85, hx86, h⟩ := bind_some h
                refine ⟨sto_bd hx86, s85, sto_at hx86, ?_⟩
                obtain ⟨v87, hv88, h⟩ := bind_some h
                refine ⟨fun res h' => ∃ g89 : Nat, res = .tup [] ∧ h' = [.row g1000 4 1 40 (fun _ => [.str v87.fS, .int .i64 v87.fAt, .own 1 g89 0 v87.fOut.length, .int .i64 v87.fCode]), .row g89 4 v87.fOut.length 30 (row TToken.cells v87.fOut)], (ACall.over (ok_i_lexeradd (g1000 := g1000) (g1001 := g1001) hv88) [0, 1] [.row g1000 4 1 40 (fun _ => [.str a0.fS, .int .i64 a0.fAt, .own 1 g1001 0 a0.fOut.length, .int .i64 a0.fCode]), .row g1001 4 a0.fOut.length 30 (row TToken.cells a0.fOut)] rfl (by decide) (by simp) (by intro j o hj; exact match j, hj with | 0, hj => by cases hj; rfl | 1, hj => by cases hj; exact (congrArg some (renO_row TToken.cells_pure _ _ _ _ _ _)).symm | j + 2, hj => by cases hj) rfl).mono (by rintro _ _ ⟨_, _, ⟨g89, rfl, rfl⟩, rfl, rfl⟩; exact ⟨g89, rfl, (by simp only [nxtL, putSel, List.map_cons, List.map_nil, List.drop, List.length_cons, List.length_nil, renO_row TToken.cells_pure]; rfl)⟩), ?_⟩
                rintro _ _ ⟨g89, rfl, rfl⟩
                obtain rfl := Option.some.inj h
                exact ⟨[0, 1], .tup [], [.row g1000 4 1 40 (fun _ => [.str v87.fS, .int .i64 v87.fAt, .own 1 g89 0 v87.fOut.length, .int .i64 v87.fCode]), .row g89 4 v87.fOut.length 30 (row TToken.cells v87.fOut)], by decide, (show 2 ≤ 2 by decide), (.tup_l trivial), ⟨⟨fun _ => ⟨rfl, rfl⟩, rfl, rfl, rfl, fun _ _ => ⟨.str_eq rfl, .int_eq rfl, .own_eq rfl ⟨_, _, _, _, rfl⟩ ⟨_, _, _, _, rfl⟩ rfl rfl, .int_eq rfl, trivial⟩⟩, ⟨fun _ => ⟨rfl, rfl⟩, rfl, rfl, rfl, fz_row TToken.cells_pure⟩, trivial⟩, g89, rfl, rfl⟩
            · replace h := F_dec hb78 h
              obtain ⟨o91, ho92, hk93⟩ := bind_some h
              replace h := ho92
              refine .cut (fun σ η => ∃ b90, b90 = o91 ∧ σ = [(0, .optr 0 g1000 0 0), (2, .str s1), (3, .int .u8 (c3.toNat : Int)), (157, .bool b90)] ∧ η = [.row g1000 4 1 40 (fun _ => [.str a0.fS, .int .i64 a0.fAt, .own 1 g1001 0 a0.fOut.length, .int .i64 a0.fCode]), .row g1001 4 a0.fOut.length 30 (row TToken.cells a0.fOut)]) ?_ ?_
              · obtain ⟨v94, hv95, h⟩ := bind_some h
                refine ⟨_, ACall.pure0 (ok_i_isDigit hv95) _ rfl (fun _ => rfl), ?_⟩
                rintro _ _ ⟨rfl, rfl⟩
                exact ⟨[(0, .optr 0 g1000 0 0), (2, .str s1), (3, .int .u8 (c3.toNat : Int)), (157, .bool v94)], [.row g1000 4 1 40 (fun _ => [.str a0.fS, .int .i64 a0.fAt, .own 1 g1001 0 a0.fOut.length, .int .i64 a0.fCode]), .row g1001 4 a0.fOut.length 30 (row TToken.cells a0.fOut)], ⟨[0, 1], by decide, (show 2 ≤ 2 by decide), ⟨.optr_eq rfl ⟨_, _, _, _, rfl⟩ ⟨_, _, _, _, rfl⟩ rfl rfl, .str_eq rfl, .int_eq rfl, .bool_eq rfl, trivial⟩, ⟨⟨fun _ => ⟨rfl, rfl⟩, rfl, rfl, rfl, fun _ _ => ⟨.str_eq rfl, .int_eq rfl, .own_eq rfl ⟨_, _, _, _, rfl⟩ ⟨_, _, _, _, rfl⟩ rfl rfl, .int_eq rfl, trivial⟩⟩, ⟨fun _ => ⟨rfl, rfl⟩, rfl, rfl, rfl, fz_row TToken.cells_pure⟩, trivial⟩⟩, v94, Option.some.inj h, rfl, rfl⟩
              · rintro _ _ ⟨b90, rfl, rfl, rfl⟩
                replace h := hk93
                refine splitB.mk (fun hb96 => ?_) (fun hb96 => ?_)
                · replace h := T_var hb96 h
                  refine .direct ?_
                  obtain ⟨o98, ho99, hk100⟩ := bind_some h
                  replace h := ho99
                  refine .cut (fun σ η => ∃ y97, y97 = o98 ∧ σ = [(0, .optr 0 g1000 0 0), (2, .str s1), (6, .int .i64 y97)] ∧ η = [.row g1000 4 1 40 (fun _ => [.str a0.fS, .int .i64 a0.fAt, .own 1 g1001 0 a0.fOut.length, .int .i64 a0.fCode]), .row g1001 4 a0.fOut.length 30 (row TToken.cells a0.fOut)]) ?_ ?_
                  · refine LoopAt.enter [(0, .optr 0 g1000 0 0), (2, .str s1), (6, .int .i64 0)] [.row g1000 4 1 40 (fun _ => [.str a0.fS, .int .i64 a0.fAt, .own 1 g1001 0 a0.fOut.length, .int .i64 a0.fCode]), .row g1001 4 a0.fOut.length 30 (row TToken.cells a0.fOut)] ⟨[0, 1], by decide, (show 2 ≤ 2 by decide), ⟨.optr_eq rfl ⟨_, _, _, _, rfl⟩ ⟨_, _, _, _, rfl⟩ rfl rfl, .str_eq rfl, .int_eq rfl, trivial⟩, ⟨⟨fun _ => ⟨rfl, rfl⟩, rfl, rfl, rfl, fun _ _ => ⟨.str_eq rfl, .int_eq rfl, .own_eq rfl ⟨_, _, _, _, rfl⟩ ⟨_, _, _, _, rfl⟩ rfl rfl, .int_eq rfl, trivial⟩⟩, ⟨fun _ => ⟨rfl, rfl⟩, rfl, rfl, rfl, fz_row TToken.cells_pure⟩, trivial⟩⟩ ?_
                    refine m_i_lexertoken_L3.partial_correctness s1 (motive := fun y101 o110 => o98 = o110 → LoopAt _ _ [(0, .optr 0 g1000 0 0), (2, .str s1), (6, .int .i64 y101)] [.row g1000 4 1 40 (fun _ => [.str a0.fS, .int .i64 a0.fAt, .own 1 g1001 0 a0.fOut.length, .int .i64 a0.fCode]), .row g1001 4 a0.fOut.length 30 (row TToken.cells a0.fOut)]) ?_ 0 o98 h rfl
                    intro F103 ih102 y101 o110 h hr111
                    subst hr111
                    refine LoopAt.round ?_
                    refine .direct ?_
                    refine .direct ?_
                    refine splitB.mk (fun hb104 => ?_) (fun hb104 => ?_)
                    · replace h := T_dec hb104 h
                      refine splitB_t ?_
                      refine splitB_t ?_
                      obtain ⟨c105, hx106, h⟩ := bind_some h
                      refine ⟨sidx_bd hx106, c105, sidx_at hx106, ?_⟩
                      refine splitB_t ?_
                      obtain ⟨v107, hv108, h⟩ := bind_some h
                      refine ⟨_, ACall.pure0 (ok_i_isDigit hv108) _ rfl (fun _ => rfl), ?_⟩
                      rintro _ _ ⟨rfl, rfl⟩
                      refine splitB_t ?_
                      refine splitB.mk (fun hb109 => ?_) (fun hb109 => ?_)
                      · replace h := T_var hb109 h
                        exact ⟨[(0, .optr 0 g1000 0 0), (2, .str s1), (6, .int .i64 (W64 (y101 + 1)))], [.row g1000 4 1 40 (fun _ => [.str a0.fS, .int .i64 a0.fAt, .own 1 g1001 0 a0.fOut.length, .int .i64 a0.fCode]), .row g1001 4 a0.fOut.length 30 (row TToken.cells a0.fOut)], ⟨[0, 1], by decide, (show 2 ≤ 2 by decide), ⟨.optr_eq rfl ⟨_, _, _, _, rfl⟩ ⟨_, _, _, _, rfl⟩ rfl rfl, .str_eq rfl, .int_eq rfl, trivial⟩, ⟨⟨fun _ => ⟨rfl, rfl⟩, rfl, rfl, rfl, fun _ _ => ⟨.str_eq rfl, .int_eq rfl, .own_eq rfl ⟨_, _, _, _, rfl⟩ ⟨_, _, _, _, rfl⟩ rfl rfl, .int_eq rfl, trivial⟩⟩, ⟨fun _ => ⟨rfl, rfl⟩, rfl, rfl, rfl, fz_row TToken.cells_pure⟩, trivial⟩⟩, ih102 _ _ h rfl⟩
                      · replace h := F_var hb109 h
                        exact ⟨[(0, .optr 0 g1000 0 0), (2, .str s1), (6, .int .i64 y101)], [.row g1000 4 1 40 (fun _ => [.str a0.fS, .int .i64 a0.fAt, .own 1 g1001 0 a0.fOut.length, .int .i64 a0.fCode]), .row g1001 4 a0.fOut.length 30 (row TToken.cells a0.fOut)], ⟨[0, 1], by decide, (show 2 ≤ 2 by decide), ⟨.optr_eq rfl ⟨_, _, _, _, rfl⟩ ⟨_, _, _, _, rfl⟩ rfl rfl, .str_eq rfl, .int_eq rfl, trivial⟩, ⟨⟨fun _ => ⟨rfl, rfl⟩, rfl, rfl, rfl, fun _ _ => ⟨.str_eq rfl, .int_eq rfl, .own_eq rfl ⟨_, _, _, _, rfl⟩ ⟨_, _, _, _, rfl⟩ rfl rfl, .int_eq rfl, trivial⟩⟩, ⟨fun _ => ⟨rfl, rfl⟩, rfl, rfl, rfl, fz_row TToken.cells_pure⟩, trivial⟩⟩, y101, Option.some.inj h, rfl, rfl⟩
                    · replace h := F_dec hb104 h
                      refine splitB_f ?_
                      refine splitB_f ?_
                      refine splitB_f ?_
                      refine splitB_f ?_
                      refine splitB_f ?_
                      exact ⟨[(0, .optr 0 g1000 0 0), (2, .str s1), (6, .int .i64 y101)], [.row g1000 4 1 40 (fun _ => [.str a0.fS, .int .i64 a0.fAt, .own 1 g1001 0 a0.fOut.length, .int .i64 a0.fCode]), .row g1001 4 a0.fOut.length 30 (row TToken.cells a0.fOut)], ⟨[0, 1], by decide, (show 2 ≤ 2 by decide), ⟨.optr_eq rfl ⟨_, _, _, _, rfl⟩ ⟨_, _, _, _, rfl⟩ rfl rfl, .str_eq rfl, .int_eq rfl, trivial⟩, ⟨⟨fun _ => ⟨rfl, rfl⟩, rfl, rfl, rfl, fun _ _ => ⟨.str_eq rfl, .int_eq rfl, .own_eq rfl ⟨_, _, _, _, rfl⟩ ⟨_, _, _, _, rfl⟩ rfl rfl, .int_eq rfl, trivial⟩⟩, ⟨fun _ => ⟨rfl, rfl⟩, rfl, rfl, rfl, fz_row TToken.cells_pure⟩, trivial⟩⟩, y101, Option.some.inj h, rfl, rfl⟩
                  · rintro _ _ ⟨y97, rfl, rfl, rfl⟩
                    replace h := hk100
                    refine .direct ?_
                    obtain ⟨s112, hx113, h⟩ := bind_some h
                    refine ⟨sto_bd hx113, s112, sto_at hx113, ?_⟩
                    obtain ⟨⟨v114, v115⟩, hv116, h⟩ := bind_some h
                    refine ⟨_, ACall.pure0 (ok69 hv116) _ rfl (fun _ => rfl), ?_⟩
                    rintro _ _ ⟨rfl, rfl⟩
                    obtain ⟨o117, ho118, hk119⟩ := bind_some h
                    replace h := ho118
                    refine .cut (fun σ η => .inl () = o117 ∧ σ = [(0, .optr 0 g1000 0 0), (6, .int .i64 y97), (7, .int .i64 v114)] ∧ η = [.row g1000 4 1 40 (fun _ => [.str a0.fS, .int .i64 a0.fAt, .own 1 g1001 0 a0.fOut.length, .int .i64 a0.fCode]), .row g1001 4 a0.fOut.length 30 (row TToken.cells a0.fOut)]) ?_ ?_
                    · refine .direct ?_
                      refine splitB.mk (fun hb120 => ?_) (fun hb120 => ?_)
                      · have hb121 := not_F hb120
                        replace h := F_var hb121 h
                        refine .direct ?_
                        refine ⟨rfl, ?_⟩
                        refine ⟨rfl, ?_⟩
                        refine ⟨rfl, _, fun _ => [.str a0.fS, .int .i64 a0.fAt, .own 1 g1001 0 a0.fOut.length, .int .i64 4], rfl, one_set rfl, ?_⟩
                        obtain rfl := Option.some.inj h
                        replace h := hk119
                        obtain rfl := Option.some.inj h
                        exact ⟨[0, 1], .tup [], [.row g1000 4 1 40 (fun _ => [.str ((TLexer.mk a0.fS a0.fAt a0.fOut 4).fS), .int .i64 ((TLexer.mk a0.fS a0.fAt a0.fOut 4).fAt), .own 1 g1001 0 ((TLexer.mk a0.fS a0.fAt a0.fOut 4).fOut).length, .int .i64 ((TLexer.mk a0.fS a0.fAt a0.fOut 4).fCode)]), .row g1001 4 ((TLexer.mk a0.fS a0.fAt a0.fOut 4).fOut).length 30 (row TToken.cells ((TLexer.mk a0.fS a0.fAt a0.fOut 4).fOut))], by decide, (show 2 ≤ 2 by decide), (.tup_l trivial), ⟨⟨fun _ => ⟨rfl, rfl⟩, rfl, rfl, rfl, fun _ _ => ⟨.str_eq rfl, .int_eq rfl, .own_eq rfl ⟨_, _, _, _, rfl⟩ ⟨_, _, _, _, rfl⟩ rfl rfl, .int_eq rfl, trivial⟩⟩, ⟨fun _ => ⟨rfl, rfl⟩, rfl, rfl, rfl, fz_row TToken.cells_pure⟩, trivial⟩, g1001, rfl, rfl⟩
                      · have hb121 := not_T hb120
                        replace h := T_var hb121 h
                        exact ⟨[(0, .optr 0 g1000 0 0), (6, .int .i64 y97), (7, .int .i64 v114)], [.row g1000 4 1 40 (fun _ => [.str a0.fS, .int .i64 a0.fAt, .own 1 g1001 0 a0.fOut.length, .int .i64 a0.fCode]), .row g1001 4 a0.fOut.length 30 (row TToken.cells a0.fOut)], ⟨[0, 1], by decide, (show 2 ≤ 2 by decide), ⟨.optr_eq rfl ⟨_, _, _, _, rfl⟩ ⟨_, _, _, _, rfl⟩ rfl rfl, .int_eq rfl, .int_eq rfl, trivial⟩, ⟨⟨fun _ => ⟨rfl, rfl⟩, rfl, rfl, rfl, fun _ _ => ⟨.str_eq rfl, .int_eq rfl, .own_eq rfl ⟨_, _, _, _, rfl⟩ ⟨_, _, _, _, rfl⟩ rfl rfl, .int_eq rfl, trivial⟩⟩, ⟨fun _ => ⟨rfl, rfl⟩, rfl, rfl, rfl, fz_row TToken.cells_pure⟩, trivial⟩⟩, Option.some.inj h, rfl, rfl⟩
                    · rintro _ _ ⟨rfl, rfl, rfl⟩
                      replace h := hk119
                      obtain ⟨v122, hv123, h⟩ := bind_some h
                      refine ⟨fun res h' => ∃ g124 : Nat, res = .tup [] ∧ h' = [.row g1000 4 1 40 (fun _ => [.str v122.fS, .int .i64 v122.fAt, .own 1 g124 0 v122.fOut.length, .int .i64 v122.fCode]), .row g124 4 v122.fOut.length 30 (row TToken.cells v122.fOut)], (ACall.over (ok_i_lexeradd (g1000 := g1000) (g1001 := g1001) hv123) [0, 1] [.row g1000 4 1 40 (fun _ => [.str a0.fS, .int .i64 a0.fAt, .own 1 g1001 0 a0.fOut.length, .int .i64 a0.fCode]), .row g1001 4 a0.fOut.length 30 (row TToken.cells a0.fOut)] rfl (by decide) (by simp) (by intro j o hj; exact match j, hj with | 0, hj => by cases hj; rfl | 1, hj => by cases hj; exact (congrArg some (renO_row TToken.cells_pure _ _ _ _ _ _)).symm | j + 2, hj => by cases hj) rfl).mono (by rintro _ _ ⟨_, _, ⟨g124, rfl, rfl⟩, rfl, rfl⟩; exact ⟨g124, rfl, (by simp only [nxtL, putSel, List.map_cons, List.map_nil, List.drop, List.length_cons, List.length_nil, renO_row TToken.cells_pure]; rfl)⟩), ?_⟩
                      rintro _ _ ⟨g124, rfl, rfl⟩
                      obtain rfl := Option.some.inj h
                      exact ⟨[0, 1], .tup [], [.row g1000 4 1 40 (fun _ => [.str v122.fS, .int .i64 v122.fAt, .own 1 g124 0 v122.fOut.length, .int .i64 v122.fCode]), .row g124 4 v122.fOut.length 30 (row TToken.cells v122.fOut)], by decide, (show 2 ≤ 2 by decide), (.tup_l trivial), ⟨⟨fun _ => ⟨rfl, rfl⟩, rfl, rfl, rfl, fun _ _ => ⟨.str_eq rfl, .int_eq rfl, .own_eq rfl ⟨_, _, _, _, rfl⟩ ⟨_, _, _, _, rfl⟩ rfl rfl, .int_eq rfl, trivial⟩⟩, ⟨fun _ => ⟨rfl, rfl⟩, rfl, rfl, rfl, fz_row TToken.cells_pure⟩, trivial⟩, g124, rfl, rfl⟩
                · replace h := F_var hb96 h
                  refine .direct ?_
                  refine splitB.mk (fun hb125 => ?_) (fun hb125 => ?_)
                  · replace h := T_beq hb125 h
                    obtain ⟨v126, hv127, h⟩ := bind_some h
                    refine ⟨fun res h' => ∃ g128 : Nat, res = .tup [] ∧ h' = [.row g1000 4 1 40 (fun _ => [.str v126.fS, .int .i64 v126.fAt, .own 1 g128 0 v126.fOut.length, .int .i64 v126.fCode]), .row g128 4 v126.fOut.length 30 (row TToken.cells v126.fOut)], (ACall.over (ok_i_lexertext (g1000 := g1000) (g1001 := g1001) hv127) [0, 1] [.row g1000 4 1 40 (fun _ => [.str a0.fS, .int .i64 a0.fAt, .own 1 g1001 0 a0.fOut.length, .int .i64 a0.fCode]), .row g1001 4 a0.fOut.length 30 (row TToken.cells a0.fOut)] rfl (by decide) (by simp) (by intro j o hj; exact match j, hj with | 0, hj => by cases hj; rfl | 1, hj => by cases hj; exact (congrArg some (renO_row TToken.cells_pure _ _ _ _ _ _)).symm | j + 2, hj => by cases hj) rfl).mono (by rintro _ _ ⟨_, _, ⟨g128, rfl, rfl⟩, rfl, rfl⟩; exact ⟨g128, rfl, (by simp only [nxtL, putSel, List.map_cons, List.map_nil, List.drop, List.length_cons, List.length_nil, renO_row TToken.cells_pure]; rfl)⟩), ?_⟩
                    rintro _ _ ⟨g128, rfl, rfl⟩
                    obtain rfl := Option.some.inj h
                    exact ⟨[0, 1], .tup [], [.row g1000 4 1 40 (fun _ => [.str v126.fS, .int .i64 v126.fAt, .own 1 g128 0 v126.fOut.length, .int .i64 v126.fCode]), .row g128 4 v126.fOut.length 30 (row TToken.cells v126.fOut)], by decide, (show 2 ≤ 2 by decide), (.tup_l trivial), ⟨⟨fun _ => ⟨rfl, rfl⟩, rfl, rfl, rfl, fun _ _ => ⟨.str_eq rfl, .int_eq rfl, .own_eq rfl ⟨_, _, _, _, rfl⟩ ⟨_, _, _, _, rfl⟩ rfl rfl, .int_eq rfl, trivial⟩⟩, ⟨fun _ => ⟨rfl, rfl⟩, rfl, rfl, rfl, fz_row TToken.cells_pure⟩, trivial⟩, g128, rfl, rfl⟩
                  · replace h := F_beq hb125 h
                    obtain ⟨v129, hv130, h⟩ := bind_some h
                    refine ⟨fun res h' => ∃ g131 : Nat, res = .tup [] ∧ h' = [.row g1000 4 1 40 (fun _ => [.str v129.fS, .int .i64 v129.fAt, .own 1 g131 0 v129.fOut.length, .int .i64 v129.fCode]), .row g131 4 v129.fOut.length 30 (row TToken.cells v129.fOut)], (ACall.over (ok_i_lexermark (g1000 := g1000) (g1001 := g1001) hv130) [0, 1] [.row g1000 4 1 40 (fun _ => [.str a0.fS, .int .i64 a0.fAt, .own 1 g1001 0 a0.fOut.length, .int .i64 a0.fCode]), .row g1001 4 a0.fOut.length 30 (row TToken.cells a0.fOut)] rfl (by decide) (by simp) (by intro j o hj; exact match j, hj with | 0, hj => by cases hj; rfl | 1, hj => by cases hj; exact (congrArg some (renO_row TToken.cells_pure _ _ _ _ _ _)).symm | j + 2, hj => by cases hj) rfl).mono (by rintro _ _ ⟨_, _, ⟨g131, rfl, rfl⟩, rfl, rfl⟩; exact ⟨g131, rfl, (by simp only [nxtL, putSel, List.map_cons, List.map_nil, List.drop, List.length_cons, List.length_nil, renO_row TToken.cells_pure]; rfl)⟩), ?_⟩
                    rintro _ _ ⟨g131, rfl, rfl⟩
                    obtain rfl := Option.some.inj h
                    exact ⟨[0, 1], .tup [], [.row g1000 4 1 40 (fun _ => [.str v129.fS, .int .i64 v129.fAt, .own 1 g131 0 v129.fOut.length, .int .i64 v129.fCode]), .row g131 4 v129.fOut.length 30 (row TToken.cells v129.fOut)], by decide, (show 2 ≤ 2 by decide), (.tup_l trivial), ⟨⟨fun _ => ⟨rfl, rfl⟩, rfl, rfl, rfl, fun _ _ => ⟨.str_eq rfl, .int_eq rfl, .own_eq rfl ⟨_, _, _, _, rfl⟩ ⟨_, _, _, _, rfl⟩ rfl rfl, .int_eq rfl, trivial⟩⟩, ⟨fun _ => ⟨rfl, rfl⟩, rfl, rfl, rfl, fz_row TToken.cells_pure⟩, trivial⟩, g131, rfl, rfl⟩
end Go.Am
