/- Models of Go functions, and their walks. (Printed by tools/mg.py.) -/
import Derived.Test.YtlfknfhecedddaaDoorS1
set_option linter.unusedVariables false
set_option linter.unusedSimpArgs false
set_option synthInstance.maxHeartbeats 400000
set_option synthInstance.maxSize 4000
namespace Go.Am
open Go Go.RowKit Go.Proofs

def m_i_ParseInt (a0 : Str) : Option (Int × Bool) :=
  m98 a0 0 1000000000000 >>= fun (v1, v2) =>
  some (v1, v2)
theorem ok_i_ParseInt {a0 : Str} {r : Int × Bool} (h : m_i_ParseInt a0 = some r) : ACall Tryd.prog 114 [.str a0] [] (fun res h => res = .tup [.int .i64 r.1, .bool r.2] ∧ h = []) := by
  refine ACall.of_vc tabT_ok mixed Tryd.func114 rfl (by kernel_rfl) _ _ _ rfl (by kernel_rfl) ?_
  unfold m_i_ParseInt at h
  refine .direct ?_
  refine .direct ?_
  obtain ⟨⟨v1, v2⟩, hv3, h⟩ := bind_some h
  refine ⟨_, ACall.pure0 (ok98 hv3) _ rfl (fun _ => rfl), ?_⟩
  rintro _ _ ⟨rfl, rfl⟩
  obtain rfl := Option.some.inj h
  exact ⟨[], .tup [.int .i64 v1, .bool v2], [], by decide, (show 0 ≤ 0 by decide), .tup_l ⟨.int_eq rfl, .bool_eq rfl, trivial⟩, trivial, rfl, rfl⟩
def m_i_TextKey (a0 : Str) : Option (TKey) :=
  m69 a0 >>= fun (v1, v2) =>
  (if v2 = true then
    some (TKey.mk false v1 [])
  else
    some (TKey.mk true 0 a0))
theorem ok_i_TextKey {a0 : Str} {r : TKey} (h : m_i_TextKey a0 = some r) : ACall Tryd.prog 121 [.str a0] [] (fun res h => res = .agg [.bool r.fText, .int .i64 r.fNum, .str r.fStr] ∧ h = []) := by
  refine ACall.of_vc tabT_ok mixed Tryd.func121 rfl (by kernel_rfl) _ _ _ rfl (by kernel_rfl) ?_
  unfold m_i_TextKey at h
  refine .direct ?_
  refine .direct ?_
  obtain ⟨⟨v1, v2⟩, hv3, h⟩ := bind_some h
  refine ⟨_, ACall.pure0 (ok69 hv3) _ rfl (fun _ => rfl), ?_⟩
  rintro _ _ ⟨rfl, rfl⟩
  refine .direct ?_
  refine .direct ?_
  refine splitB.mk (fun hb4 => ?_) (fun hb4 => ?_)
  · replace h := T_var hb4 h
    refine .direct ?_
    refine ⟨_, ACall.pure0 (ok_i_intKeyx v1) _ rfl (fun _ => rfl), ?_⟩
    rintro _ _ ⟨rfl, rfl⟩
    refine ⟨rfl, _, fun _ => [.bool false, .int .i64 v1, .str []], rfl, one_set rfl, ?_⟩
    obtain rfl := Option.some.inj h
    refine ⟨rfl, _, rfl, ?_⟩
    exact ⟨[], .agg [.bool ((TKey.mk false v1 []).fText), .int .i64 ((TKey.mk false v1 []).fNum), .str ((TKey.mk false v1 []).fStr)], [], by decide, (show 0 ≤ 0 by decide), .agg_l ⟨.bool_eq rfl, .int_eq rfl, .str_eq rfl, trivial⟩, trivial, rfl, rfl⟩
  · replace h := F_var hb4 h
    refine .direct ?_
    refine ⟨rfl, _, fun _ => [.bool true, .int .i64 0, .str a0], rfl, one_set rfl, ?_⟩
    obtain rfl := Option.some.inj h
    refine ⟨rfl, _, rfl, ?_⟩
    exact ⟨[], .agg [.bool ((TKey.mk true 0 a0).fText), .int .i64 ((TKey.mk true 0 a0).fNum), .str ((TKey.mk true 0 a0).fStr)], [], by decide, (show 0 ≤ 0 by decide), .agg_l ⟨.bool_eq rfl, .int_eq rfl, .str_eq rfl, trivial⟩, trivial, rfl, rfl⟩
def m_i_KeyOf (a0 : TValue) : Option (TKey × Bool) :=
  (if a0.fKind = 0 then
    some ((TKey.mk true 0 []), true)
  else
    (
      (if a0.fKind = 1 then
        some (a0.fKind == 1)
      else
        some (a0.fKind == 2))
     : Option (Bool)) >>= fun b2 =>
    (if b2 = true then
      some ((TKey.mk false a0.fNum []), true)
    else
      (if a0.fKind = 3 then
        m_i_TextKey a0.fStr >>= fun v9 =>
        some (v9, true)
      else
        some ((TKey.mk false 0 []), false))))
theorem ok_i_KeyOf {a0 : TValue} {r : TKey × Bool} (h : m_i_KeyOf a0 = some r) : ACall Tryd.prog 115 [.agg [.int .i64 a0.fKind, .int .i64 a0.fNum, .str a0.fStr, .int .i64 a0.fNext, sl 8 TEntry.cells a0.fItems]] [] (fun res h => res = .tup [.agg [.bool r.1.fText, .int .i64 r.1.fNum, .str r.1.fStr], .bool r.2] ∧ h = []) := by
  refine ACall.of_vc tabT_ok mixed Tryd.func115 rfl (by kernel_rfl) _ _ _ rfl (by kernel_rfl) ?_
  unfold m_i_KeyOf at h
  refine .direct ?_
  refine .direct ?_
  refine .direct ?_
  refine ⟨rfl, ?_⟩
  refine ⟨rfl, _, rfl, ?_⟩
  refine .direct ?_
  refine splitB.mk (fun hb1 => ?_) (fun hb1 => ?_)
  · replace h := T_beq hb1 h
    refine .direct ?_
    refine ⟨rfl, _, fun _ => [.bool true, .int .i64 0, .str []], rfl, one_set rfl, ?_⟩
    obtain rfl := Option.some.inj h
    refine ⟨rfl, _, rfl, ?_⟩
    exact ⟨[], .tup [.agg [.bool ((TKey.mk true 0 []).fText), .int .i64 ((TKey.mk true 0 []).fNum), .str ((TKey.mk true 0 []).fStr)], .bool true], [], by decide, (show 0 ≤ 0 by decide), .tup_l ⟨.agg_l ⟨.bool_eq rfl, .int_eq rfl, .str_eq rfl, trivial⟩, .bool_eq rfl, trivial⟩, trivial, rfl, rfl⟩
  · replace h := F_beq hb1 h
    obtain ⟨o3, ho4, hk5⟩ := bind_some h
    replace h := ho4
    refine .cut (fun σ η => ∃ b2, b2 = o3 ∧ σ = [(1, .optr 0 0 0 0), (2, .optr 1 0 0 0), (5, .int .i64 a0.fKind), (9, .bool b2)] ∧ η = [.row 0 5 1 26 (fun _ => [.int .i64 a0.fKind, .int .i64 a0.fNum, .str a0.fStr, .int .i64 a0.fNext, sl 8 TEntry.cells a0.fItems]), .row 0 3 1 32 (fun _ => [.bool false, .int .i64 0, .str []])]) ?_ ?_
    · refine .direct ?_
      refine splitB.mk (fun hb6 => ?_) (fun hb6 => ?_)
      · replace h := T_beq hb6 h
        exact ⟨[(1, .optr 0 0 0 0), (2, .optr 1 0 0 0), (5, .int .i64 a0.fKind), (9, .bool (a0.fKind == 1))], [.row 0 5 1 26 (fun _ => [.int .i64 a0.fKind, .int .i64 a0.fNum, .str a0.fStr, .int .i64 a0.fNext, sl 8 TEntry.cells a0.fItems]), .row 0 3 1 32 (fun _ => [.bool false, .int .i64 0, .str []])], ⟨[0, 1], by decide, (show 0 ≤ 2 by decide), ⟨.optr_eq rfl ⟨_, _, _, _, rfl⟩ ⟨_, _, _, _, rfl⟩ rfl rfl, .optr_eq rfl ⟨_, _, _, _, rfl⟩ ⟨_, _, _, _, rfl⟩ rfl rfl, .int_eq rfl, .bool_eq rfl, trivial⟩, ⟨⟨fun h0 => absurd (show 0 < 0 from h0) (by decide), rfl, rfl, rfl, fun _ _ => ⟨.int_eq rfl, .int_eq rfl, .str_eq rfl, .int_eq rfl, .slc_eq rfl (fun _ _ => rfl), trivial⟩⟩, ⟨fun h0 => absurd (show 1 < 0 from h0) (by decide), rfl, rfl, rfl, fun _ _ => ⟨.bool_eq rfl, .int_eq rfl, .str_eq rfl, trivial⟩⟩, trivial⟩⟩, (a0.fKind == 1), Option.some.inj h, rfl, rfl⟩
      · replace h := F_beq hb6 h
        exact ⟨[(1, .optr 0 0 0 0), (2, .optr 1 0 0 0), (5, .int .i64 a0.fKind), (9, .bool (a0.fKind == 2))], [.row 0 5 1 26 (fun _ => [.int .i64 a0.fKind, .int .i64 a0.fNum, .str a0.fStr, .int .i64 a0.fNext, sl 8 TEntry.cells a0.fItems]), .row 0 3 1 32 (fun _ => [.bool false, .int .i64 0, .str []])], ⟨[0, 1], by decide, (show 0 ≤ 2 by decide), ⟨.optr_eq rfl ⟨_, _, _, _, rfl⟩ ⟨_, _, _, _, rfl⟩ rfl rfl, .optr_eq rfl ⟨_, _, _, _, rfl⟩ ⟨_, _, _, _, rfl⟩ rfl rfl, .int_eq rfl, .bool_eq rfl, trivial⟩, ⟨⟨fun h0 => absurd (show 0 < 0 from h0) (by decide), rfl, rfl, rfl, fun _ _ => ⟨.int_eq rfl, .int_eq rfl, .str_eq rfl, .int_eq rfl, .slc_eq rfl (fun _ _ => rfl), trivial⟩⟩, ⟨fun h0 => absurd (show 1 < 0 from h0) (by decide), rfl, rfl, rfl, fun _ _ => ⟨.bool_eq rfl, .int_eq rfl, .str_eq rfl, trivial⟩⟩, trivial⟩⟩, (a0.fKind == 2), Option.some.inj h, rfl, rfl⟩
    · rintro _ _ ⟨b2, rfl, rfl, rfl⟩
      replace h := hk5
      refine splitB.mk (fun hb7 => ?_) (fun hb7 => ?_)
      · replace h := T_var hb7 h
        refine .direct ?_
        refine ⟨rfl, ?_⟩
        refine ⟨rfl, _, rfl, ?_⟩
        refine ⟨_, ACall.pure0 (ok_i_intKeyx a0.fNum) _ rfl (fun _ => rfl), ?_⟩
        rintro _ _ ⟨rfl, rfl⟩
        refine ⟨rfl, _, fun _ => [.bool false, .int .i64 a0.fNum, .str []], rfl, one_set rfl, ?_⟩
        obtain rfl := Option.some.inj h
        refine ⟨rfl, _, rfl, ?_⟩
        exact ⟨[], .tup [.agg [.bool ((TKey.mk false a0.fNum []).fText), .int .i64 ((TKey.mk false a0.fNum []).fNum), .str ((TKey.mk false a0.fNum []).fStr)], .bool true], [], by decide, (show 0 ≤ 0 by decide), .tup_l ⟨.agg_l ⟨.bool_eq rfl, .int_eq rfl, .str_eq rfl, trivial⟩, .bool_eq rfl, trivial⟩, trivial, rfl, rfl⟩
      · replace h := F_var hb7 h
        refine .direct ?_
        refine splitB.mk (fun hb8 => ?_) (fun hb8 => ?_)
        · replace h := T_beq hb8 h
          refine .direct ?_
          refine ⟨rfl, ?_⟩
          refine ⟨rfl, _, rfl, ?_⟩
          obtain ⟨v9, hv10, h⟩ := bind_some h
          refine ⟨_, ACall.pure0 (ok_i_TextKey hv10) _ rfl (fun _ => rfl), ?_⟩
          rintro _ _ ⟨rfl, rfl⟩
          refine ⟨rfl, _, fun _ => [.bool v9.fText, .int .i64 v9.fNum, .str v9.fStr], rfl, one_set rfl, ?_⟩
          obtain rfl := Option.some.inj h
          refine ⟨rfl, _, rfl, ?_⟩
          exact ⟨[], .tup [.agg [.bool v9.fText, .int .i64 v9.fNum, .str v9.fStr], .bool true], [], by decide, (show 0 ≤ 0 by decide), .tup_l ⟨.agg_l ⟨.bool_eq rfl, .int_eq rfl, .str_eq rfl, trivial⟩, .bool_eq rfl, trivial⟩, trivial, rfl, rfl⟩
        · replace h := F_beq hb8 h
          refine .direct ?_
          refine ⟨rfl, _, fun _ => [.bool false, .int .i64 0, .str []], rfl, one_set rfl, ?_⟩
          obtain rfl := Option.some.inj h
          refine ⟨rfl, _, rfl, ?_⟩
          exact ⟨[], .tup [.agg [.bool ((TKey.mk false 0 []).fText), .int .i64 ((TKey.mk false 0 []).fNum), .str ((TKey.mk false 0 []).fStr)], .bool false], [], by decide, (show 0 ≤ 0 by decide), .tup_l ⟨.agg_l ⟨.bool_eq rfl, .int_eq rfl, .str_eq rfl, trivial⟩, .bool_eq rfl, trivial⟩, trivial, rfl, rfl⟩
def m_i_serialReaderuntil_L2 (a0 : TSerialReader) (a1 : Int) (y4 : Int) : Option ((Unit) ⊕ (Str × TSerialReader)) :=
  (if y4 < (a0.fS.length : Int) then
    (if y4 < (W64 (a0.fAt + 20)) then
      sidx a0.fS y4 >>= fun c9 =>
      (if (c9.toNat : Int) = a1 then
        ssub a0.fS a0.fAt y4 >>= fun s12 =>
        some (.inr (s12, (TSerialReader.mk a0.fS (W64 (y4 + 1)) a0.fBad)))
      else
        m_i_serialReaderuntil_L2 a0 a1 (W64 (y4 + 1)))
    else
      some (.inl ()))
  else
    some (.inl ()))
partial_fixpoint
def m_i_serialReaderuntil (a0 : TSerialReader) (a1 : Int) : Option (Str × TSerialReader) :=
  ((
    m_i_serialReaderuntil_L2 a0 a1 a0.fAt
   : Option ((Unit) ⊕ (Str × TSerialReader))) >>= fun o1 => match o1 with
    | .inr r => some r
    | .inl _ =>
      some ([], (TSerialReader.mk a0.fS a0.fAt true))
  )
theorem ok_i_serialReaderuntil {a0 : TSerialReader} {a1 : Int} {r : Str × TSerialReader} {g1000 : Nat} (h : m_i_serialReaderuntil a0 a1 = some r) : ACall Tryd.prog 92 [.optr 0 g1000 0 0, .int .u8 a1] [.row g1000 3 1 85 (fun _ => [.str a0.fS, .int .i64 a0.fAt, .bool a0.fBad])] (fun res h => res = .str r.1 ∧ h = [.row g1000 3 1 85 (fun _ => [.str r.2.fS, .int .i64 r.2.fAt, .bool r.2.fBad])]) := by
  refine ACall.of_vc tabT_ok mixed Tryd.func92 rfl (by kernel_rfl) _ _ _ rfl (by kernel_rfl) ?_
  unfold m_i_serialReaderuntil at h
  refine .direct ?_
  refine .direct ?_
  refine ⟨rfl, ?_⟩
  refine ⟨rfl, ?_⟩
  refine ⟨rfl, _, rfl, ?_⟩
  obtain ⟨o1, ho2, hk3⟩ := bind_some h
  replace h := ho2
  refine .cut (fun σ η => .inl () = o1 ∧ σ = [(0, .optr 0 g1000 0 0)] ∧ η = [.row g1000 3 1 85 (fun _ => [.str a0.fS, .int .i64 a0.fAt, .bool a0.fBad])]) ?_ ?_
  · refine .direct ?_
    refine LoopAt.enter [(0, .optr 0 g1000 0 0), (1, .int .u8 a1), (5, .int .i64 a0.fAt), (6, .int .i64 a0.fAt)] [.row g1000 3 1 85 (fun _ => [.str a0.fS, .int .i64 a0.fAt, .bool a0.fBad])] ⟨[0], by decide, (show 1 ≤ 1 by decide), ⟨.optr_eq rfl ⟨_, _, _, _, rfl⟩ ⟨_, _, _, _, rfl⟩ rfl rfl, .int_eq rfl, .int_eq rfl, .int_eq rfl, trivial⟩, ⟨⟨fun _ => ⟨rfl, rfl⟩, rfl, rfl, rfl, fun _ _ => ⟨.str_eq rfl, .int_eq rfl, .bool_eq rfl, trivial⟩⟩, trivial⟩⟩ ?_
    refine m_i_serialReaderuntil_L2.partial_correctness a0 a1 (motive := fun y4 o14 => o1 = o14 → LoopAt _ _ [(0, .optr 0 g1000 0 0), (1, .int .u8 a1), (5, .int .i64 a0.fAt), (6, .int .i64 y4)] [.row g1000 3 1 85 (fun _ => [.str a0.fS, .int .i64 a0.fAt, .bool a0.fBad])]) ?_ a0.fAt o1 h rfl
    intro F6 ih5 y4 o14 h hr15
    subst hr15
    refine LoopAt.round ?_
    refine .direct ?_
    refine .direct ?_
    refine ⟨rfl, ?_⟩
    refine ⟨rfl, ?_⟩
    refine ⟨rfl, _, rfl, ?_⟩
    refine splitB.mk (fun hb7 => ?_) (fun hb7 => ?_)
    · replace h := T_dec hb7 h
      refine splitB_t ?_
      refine splitB_t ?_
      refine splitB_t ?_
      refine splitB_t ?_
      refine splitB.mk (fun hb8 => ?_) (fun hb8 => ?_)
      · replace h := T_dec hb8 h
        refine .direct ?_
        refine .direct ?_
        refine ⟨rfl, ?_⟩
        refine ⟨rfl, ?_⟩
        refine ⟨rfl, _, rfl, ?_⟩
        obtain ⟨c9, hx10, h⟩ := bind_some h
        refine ⟨sidx_bd hx10, c9, sidx_at hx10, ?_⟩
        refine splitB.mk (fun hb11 => ?_) (fun hb11 => ?_)
        · replace h := T_beq hb11 h
          refine .direct ?_
          refine ⟨rfl, ?_⟩
          refine ⟨rfl, ?_⟩
          refine ⟨rfl, _, fun _ => [.str a0.fS, .int .i64 (W64 (y4 + 1)), .bool a0.fBad], rfl, one_set rfl, ?_⟩
          refine .direct ?_
          refine ⟨rfl, ?_⟩
          refine ⟨rfl, ?_⟩
          refine ⟨rfl, _, rfl, ?_⟩
          obtain ⟨s12, hx13, h⟩ := bind_some h
          refine ⟨ssub_bd hx13, s12, ssub_at hx13, ?_⟩
          obtain rfl := Option.some.inj h
          replace h := hk3
          obtain rfl := Option.some.inj h
          exact ⟨[0], .str s12, [.row g1000 3 1 85 (fun _ => [.str ((TSerialReader.mk a0.fS (W64 (y4 + 1)) a0.fBad).fS), .int .i64 ((TSerialReader.mk a0.fS (W64 (y4 + 1)) a0.fBad).fAt), .bool ((TSerialReader.mk a0.fS (W64 (y4 + 1)) a0.fBad).fBad)])], by decide, (show 1 ≤ 1 by decide), .str_eq rfl, ⟨⟨fun _ => ⟨rfl, rfl⟩, rfl, rfl, rfl, fun _ _ => ⟨.str_eq rfl, .int_eq rfl, .bool_eq rfl, trivial⟩⟩, trivial⟩, rfl, rfl⟩
        · replace h := F_beq hb11 h
          exact ⟨[(0, .optr 0 g1000 0 0), (1, .int .u8 a1), (5, .int .i64 a0.fAt), (6, .int .i64 (W64 (y4 + 1)))], [.row g1000 3 1 85 (fun _ => [.str a0.fS, .int .i64 a0.fAt, .bool a0.fBad])], ⟨[0], by decide, (show 1 ≤ 1 by decide), ⟨.optr_eq rfl ⟨_, _, _, _, rfl⟩ ⟨_, _, _, _, rfl⟩ rfl rfl, .int_eq rfl, .int_eq rfl, .int_eq rfl, trivial⟩, ⟨⟨fun _ => ⟨rfl, rfl⟩, rfl, rfl, rfl, fun _ _ => ⟨.str_eq rfl, .int_eq rfl, .bool_eq rfl, trivial⟩⟩, trivial⟩⟩, ih5 _ _ h rfl⟩
      · replace h := F_dec hb8 h
        exact ⟨[(0, .optr 0 g1000 0 0)], [.row g1000 3 1 85 (fun _ => [.str a0.fS, .int .i64 a0.fAt, .bool a0.fBad])], ⟨[0], by decide, (show 1 ≤ 1 by decide), ⟨.optr_eq rfl ⟨_, _, _, _, rfl⟩ ⟨_, _, _, _, rfl⟩ rfl rfl, trivial⟩, ⟨⟨fun _ => ⟨rfl, rfl⟩, rfl, rfl, rfl, fun _ _ => ⟨.str_eq rfl, .int_eq rfl, .bool_eq rfl, trivial⟩⟩, trivial⟩⟩, Option.some.inj h, rfl, rfl⟩
    · replace h := F_dec hb7 h
      refine splitB_f ?_
      refine splitB_f ?_
      refine splitB_f ?_
      refine splitB_f ?_
      refine splitB_f ?_
      exact ⟨[(0, .optr 0 g1000 0 0)], [.row g1000 3 1 85 (fun _ => [.str a0.fS, .int .i64 a0.fAt, .bool a0.fBad])], ⟨[0], by decide, (show 1 ≤ 1 by decide), ⟨.optr_eq rfl ⟨_, _, _, _, rfl⟩ ⟨_, _, _, _, rfl⟩ rfl rfl, trivial⟩, ⟨⟨fun _ => ⟨rfl, rfl⟩, rfl, rfl, rfl, fun _ _ => ⟨.str_eq rfl, .int_eq rfl, .bool_eq rfl, trivial⟩⟩, trivial⟩⟩, Option.some.inj h, rfl, rfl⟩
  · rintro _ _ ⟨rfl, rfl, rfl⟩
    replace h := hk3
    refine .direct ?_
    refine ⟨rfl, ?_⟩
    refine ⟨rfl, ?_⟩
    refine ⟨rfl, _, fun _ => [.str a0.fS, .int .i64 a0.fAt, .bool true], rfl, one_set rfl, ?_⟩
    refine .direct ?_
    obtain rfl := Option.some.inj h
    exact ⟨[0], .str [], [.row g1000 3 1 85 (fun _ => [.str ((TSerialReader.mk a0.fS a0.fAt true).fS), .int .i64 ((TSerialReader.mk a0.fS a0.fAt true).fAt), .bool ((TSerialReader.mk a0.fS a0.fAt true).fBad)])], by decide, (show 1 ≤ 1 by decide), .str_eq rfl, ⟨⟨fun _ => ⟨rfl, rfl⟩, rfl, rfl, rfl, fun _ _ => ⟨.str_eq rfl, .int_eq rfl, .bool_eq rfl, trivial⟩⟩, trivial⟩, rfl, rfl⟩
def m_i_serialReadercount (a0 : TSerialReader) : Option (Int × TSerialReader) :=
  m_i_serialReaderuntil a0 58 >>= fun (v1, v2) =>
  m_i_ParseInt v1 >>= fun (v4, v5) =>
  (if v2.fBad = true then
    some (v4, (TSerialReader.mk v2.fS v2.fAt true))
  else
    some (v4, (TSerialReader.mk v2.fS v2.fAt (!v5))))
theorem ok_i_serialReadercount {a0 : TSerialReader} {r : Int × TSerialReader} {g1000 : Nat} (h : m_i_serialReadercount a0 = some r) : ACall Tryd.prog 94 [.optr 0 g1000 0 0] [.row g1000 3 1 85 (fun _ => [.str a0.fS, .int .i64 a0.fAt, .bool a0.fBad])] (fun res h => res = .int .i64 r.1 ∧ h = [.row g1000 3 1 85 (fun _ => [.str r.2.fS, .int .i64 r.2.fAt, .bool r.2.fBad])]) := by
  refine ACall.of_vc tabT_ok mixed Tryd.func94 rfl (by kernel_rfl) _ _ _ rfl (by kernel_rfl) ?_
  unfold m_i_serialReadercount at h
  refine .direct ?_
  refine .direct ?_
  obtain ⟨⟨v1, v2⟩, hv3, h⟩ := bind_some h
  refine ⟨fun res h' => res = .str v1 ∧ h' = [.row g1000 3 1 85 (fun _ => [.str v2.fS, .int .i64 v2.fAt, .bool v2.fBad])], (ACall.over (ok_i_serialReaderuntil (g1000 := g1000) hv3) [0] [.row g1000 3 1 85 (fun _ => [.str a0.fS, .int .i64 a0.fAt, .bool a0.fBad])] rfl (by decide) (by simp) (by intro j o hj; exact match j, hj with | 0, hj => by cases hj; rfl | j + 1, hj => by cases hj) rfl).mono (by rintro _ _ ⟨_, _, ⟨rfl, rfl⟩, rfl, rfl⟩; exact ⟨rfl, rfl⟩), ?_⟩
  rintro _ _ ⟨rfl, rfl⟩
  obtain ⟨⟨v4, v5⟩, hv6, h⟩ := bind_some h
  refine ⟨_, ACall.pure0 (ok_i_ParseInt hv6) _ rfl (fun _ => rfl), ?_⟩
  rintro _ _ ⟨rfl, rfl⟩
  refine .direct ?_
  refine ⟨rfl, ?_⟩
  refine ⟨rfl, ?_⟩
  refine ⟨rfl, _, rfl, ?_⟩
  refine splitB.mk (fun hb7 => ?_) (fun hb7 => ?_)
  · replace h := T_var hb7 h
    refine splitB_t ?_
    refine splitB_t ?_
    refine ⟨rfl, ?_⟩
    refine ⟨rfl, ?_⟩
    refine ⟨rfl, _, fun _ => [.str v2.fS, .int .i64 v2.fAt, .bool true], rfl, one_set rfl, ?_⟩
    refine .direct ?_
    obtain rfl := Option.some.inj h
    exact ⟨[0], .int .i64 v4, [.row g1000 3 1 85 (fun _ => [.str ((TSerialReader.mk v2.fS v2.fAt true).fS), .int .i64 ((TSerialReader.mk v2.fS v2.fAt true).fAt), .bool ((TSerialReader.mk v2.fS v2.fAt true).fBad)])], by decide, (show 1 ≤ 1 by decide), .int_eq rfl, ⟨⟨fun _ => ⟨rfl, rfl⟩, rfl, rfl, rfl, fun _ _ => ⟨.str_eq rfl, .int_eq rfl, .bool_eq rfl, trivial⟩⟩, trivial⟩, rfl, rfl⟩
  · replace h := F_var hb7 h
    refine splitB_f ?_
    refine splitB_f ?_
    refine ⟨rfl, ?_⟩
    refine ⟨rfl, ?_⟩
    refine ⟨rfl, _, fun _ => [.str v2.fS, .int .i64 v2.fAt, .bool (!v5)], rfl, one_set rfl, ?_⟩
    refine .direct ?_
    obtain rfl := Option.some.inj h
    exact ⟨[0], .int .i64 v4, [.row g1000 3 1 85 (fun _ => [.str ((TSerialReader.mk v2.fS v2.fAt (!v5)).fS), .int .i64 ((TSerialReader.mk v2.fS v2.fAt (!v5)).fAt), .bool ((TSerialReader.mk v2.fS v2.fAt (!v5)).fBad)])], by decide, (show 1 ≤ 1 by decide), .int_eq rfl, ⟨⟨fun _ => ⟨rfl, rfl⟩, rfl, rfl, rfl, fun _ _ => ⟨.str_eq rfl, .int_eq rfl, .bool_eq rfl, trivial⟩⟩, trivial⟩, rfl, rfl⟩
def m_i_serialReadereat (a0 : TSerialReader) (a1 : Str) : Option (TSerialReader) :=
  sfrom a0.fS a0.fAt >>= fun s1 =>
  m66 s1 a1 >>= fun v3 =>
  (if v3 = true then
    some (TSerialReader.mk a0.fS (W64 (a0.fAt + (a1.length : Int))) a0.fBad)
  else
    some (TSerialReader.mk a0.fS a0.fAt true))
theorem ok_i_serialReadereat {a0 : TSerialReader} {a1 : Str} {r : TSerialReader} {g1000 : Nat} (h : m_i_serialReadereat a0 a1 = some r) : ACall Tryd.prog 90 [.optr 0 g1000 0 0, .str a1] [.row g1000 3 1 85 (fun _ => [.str a0.fS, .int .i64 a0.fAt, .bool a0.fBad])] (fun res h => res = .tup [] ∧ h = [.row g1000 3 1 85 (fun _ => [.str r.fS, .int .i64 r.fAt, .bool r.fBad])]) := by
  refine ACall.of_vc tabT_ok mixed Tryd.func90 rfl (by kernel_rfl) _ _ _ rfl (by kernel_rfl) ?_
  unfold m_i_serialReadereat at h
  refine .direct ?_
  refine .direct ?_
  refine .float [(0, true), (1, true), (2, true), (3, true), (4, true), (5, true), (6, true), (7, true), (8, true), (9, true), (10, false), (11, true)] (by kernel_rfl) ?_
  refine ⟨rfl, ?_⟩
  refine ⟨rfl, ?_⟩
  refine ⟨rfl, _, rfl, ?_⟩
  refine ⟨rfl, ?_⟩
  refine ⟨rfl, ?_⟩
  refine ⟨rfl, _, rfl, ?_⟩
  obtain ⟨s1, hx2, h⟩ := bind_some h
  refine ⟨sfrom_bd hx2, s1, sfrom_at hx2, ?_⟩
  obtain ⟨v3, hv4, h⟩ := bind_some h
  refine ⟨_, ACall.pure0 (ok66 hv4) _ rfl (fun _ => rfl), ?_⟩
  rintro _ _ ⟨rfl, rfl⟩
  refine splitB.mk (fun hb5 => ?_) (fun hb5 => ?_)
  · have hb6 := not_F hb5
    replace h := F_var hb6 h
    refine .direct ?_
    refine ⟨rfl, ?_⟩
    refine ⟨rfl, ?_⟩
    refine ⟨rfl, _, fun _ => [.str a0.fS, .int .i64 a0.fAt, .bool true], rfl, one_set rfl, ?_⟩
    obtain rfl := Option.some.inj h
    exact ⟨[0], .tup [], [.row g1000 3 1 85 (fun _ => [.str ((TSerialReader.mk a0.fS a0.fAt true).fS), .int .i64 ((TSerialReader.mk a0.fS a0.fAt true).fAt), .bool ((TSerialReader.mk a0.fS a0.fAt true).fBad)])], by decide, (show 1 ≤ 1 by decide), (.tup_l trivial), ⟨⟨fun _ => ⟨rfl, rfl⟩, rfl, rfl, rfl, fun _ _ => ⟨.str_eq rfl, .int_eq rfl, .bool_eq rfl, trivial⟩⟩, trivial⟩, rfl, rfl⟩
  · have hb6 := not_T hb5
    replace h := T_var hb6 h
    refine ⟨rfl, ?_⟩
    refine ⟨rfl, ?_⟩
    refine ⟨rfl, _, rfl, ?_⟩
    refine ⟨rfl, ?_⟩
    refine ⟨rfl, ?_⟩
    refine ⟨rfl, _, fun _ => [.str a0.fS, .int .i64 (W64 (a0.fAt + (a1.length : Int))), .bool a0.fBad], rfl, one_set rfl, ?_⟩
    obtain rfl := Option.some.inj h
    exact ⟨[0], .tup [], [.row g1000 3 1 85 (fun _ => [.str ((TSerialReader.mk a0.fS (W64 (a0.fAt + (a1.length : Int))) a0.fBad).fS), .int .i64 ((TSerialReader.mk a0.fS (W64 (a0.fAt + (a1.length : Int))) a0.fBad).fAt), .bool ((TSerialReader.mk a0.fS (W64 (a0.fAt + (a1.length : Int))) a0.fBad).fBad)])], by decide, (show 1 ≤ 1 by decide), (.tup_l trivial), ⟨⟨fun _ => ⟨rfl, rfl⟩, rfl, rfl, rfl, fun _ _ => ⟨.str_eq rfl, .int_eq rfl, .bool_eq rfl, trivial⟩⟩, trivial⟩, rfl, rfl⟩
mutual
def m_i_serialReadervalue (a0 : TSerialReader) (a1 : Int) : Option (TValue × TSerialReader) :=
  (if a0.fAt ≥ (a0.fS.length : Int) then
    some ((TValue.mk 0 0 [] 0 []), (TSerialReader.mk a0.fS a0.fAt true))
  else
    (if a1 > 200 then
      some ((TValue.mk 0 0 [] 0 []), (TSerialReader.mk a0.fS a0.fAt true))
    else
      sidx a0.fS a0.fAt >>= fun c3 =>
      (if (c3.toNat : Int) = 78 then
        m_i_serialReadereat a0 [78, 59] >>= fun v6 =>
        some ((TValue.mk 0 0 [] 0 []), v6)
      else
        m_i_serialReadereat a0 ([c3, (58 : UInt8)] : List UInt8) >>= fun v8 =>
        (if v8.fBad = true then
          some ((TValue.mk 0 0 [] 0 []), v8)
        else
          (
            (if (c3.toNat : Int) = 98 then
              some ((c3.toNat : Int) == 98)
            else
              some ((c3.toNat : Int) == 105))
           : Option (Bool)) >>= fun b11 =>
          (if b11 = true then
            m_i_serialReaderuntil v8 59 >>= fun (v17, v18) =>
            m69 v17 >>= fun (v20, v21) =>
            (if v18.fBad = true then
              (if (c3.toNat : Int) = 98 then
                some ((TValue.mk 1 v20 [] 0 []), (TSerialReader.mk v18.fS v18.fAt true))
              else
                some ((TValue.mk 2 v20 [] 0 []), (TSerialReader.mk v18.fS v18.fAt true)))
            else
              (if (c3.toNat : Int) = 98 then
                some ((TValue.mk 1 v20 [] 0 []), (TSerialReader.mk v18.fS v18.fAt (!v21)))
              else
                some ((TValue.mk 2 v20 [] 0 []), (TSerialReader.mk v18.fS v18.fAt (!v21)))))
          else
            (if (c3.toNat : Int) = 115 then
              m_i_serialReadercount v8 >>= fun (v27, v28) =>
              (if v28.fBad = true then
                some ((TValue.mk 0 0 [] 0 []), (TSerialReader.mk v28.fS v28.fAt true))
              else
                (if v27 > (W64 ((v28.fS.length : Int) - v28.fAt)) then
                  some ((TValue.mk 0 0 [] 0 []), (TSerialReader.mk v28.fS v28.fAt true))
                else
                  (
                    ssub v28.fS v28.fAt (W64 (v28.fAt + v27)) >>= fun s36 =>
                    some s36
                   : Option (Str)) >>= fun s32 =>
                  m_i_serialReadereat (TSerialReader.mk v28.fS (W64 (v28.fAt + v27)) v28.fBad) [59] >>= fun v38 =>
                  some ((TValue.mk 3 0 s32 0 []), v38)))
            else
              (if (c3.toNat : Int) = 97 then
                m_i_serialReaderarray v8 a1 >>= fun (v41, v42) =>
                some (v41, v42)
              else
                some ((TValue.mk 0 0 [] 0 []), (TSerialReader.mk v8.fS v8.fAt true)))))))))
partial_fixpoint
def m_i_serialReaderarray (a0 : TSerialReader) (a1 : Int) : Option (TValue × TSerialReader) :=
  m_i_serialReadercount a0 >>= fun (v44, v45) =>
  m_i_serialReaderuntil v45 123 >>= fun (v47, v48) =>
  m_i_ParseInt v47 >>= fun (v50, v51) =>
  (
    (if v51 = true then
      (if v44 > 200 then
        some true
      else
        some v48.fBad)
    else
      some true)
   : Option (Bool)) >>= fun b53 =>
  ((
    m_i_serialReaderarray_L2 a1 v44 v50 v48.fS v48.fAt b53 ([] : List TEntry) 0
   : Option ((Str × Int × Bool × (List TEntry)) ⊕ (TValue × TSerialReader))) >>= fun o64 => match o64 with
    | .inr r => some r
    | .inl (s60, y61, b62, l63) =>
      (if b62 = true then
        some ((TValue.mk 4 0 [] v50 l63), (TSerialReader.mk s60 y61 b62))
      else
        m_i_serialReadereat (TSerialReader.mk s60 y61 b62) [125] >>= fun v100 =>
        some ((TValue.mk 4 0 [] v50 l63), v100))
  )
partial_fixpoint
def m_i_serialReaderarray_L2 (a1 : Int) (v44 : Int) (v50 : Int) (s67 : Str) (y68 : Int) (b69 : Bool) (l70 : List TEntry) (y71 : Int) : Option ((Str × Int × Bool × (List TEntry)) ⊕ (TValue × TSerialReader)) :=
  (if y71 < v44 then
    (if b69 = true then
      some (.inl (s67, y68, b69, l70))
    else
      m_i_serialReadervalue (TSerialReader.mk s67 y68 b69) (W64 (a1 + 1)) >>= fun (v78, v79) =>
      m_i_KeyOf v78 >>= fun (v81, v82) =>
      (if v82 = true then
        m_i_serialReadervalue v79 (W64 (a1 + 1)) >>= fun (v85, v86) =>
        lapp 96 l70 ([(TEntry.mk v81 v85)] : List TEntry) >>= fun l88 =>
        m_i_serialReaderarray_L2 a1 v44 v50 v86.fS v86.fAt v86.fBad l88 (W64 (y71 + 1))
      else
        some (.inr ((TValue.mk 4 0 [] v50 l70), (TSerialReader.mk v79.fS v79.fAt true)))))
  else
    some (.inl (s67, y68, b69, l70)))
partial_fixpoint
end
def okS61 (a0 : TSerialReader) (a1 : Int) (r : TValue × TSerialReader) : Prop := ∀ g1000 : Nat, ACall Tryd.prog 61 [.optr 0 g1000 0 0, .int .i64 a1] [.row g1000 3 1 85 (fun _ => [.str a0.fS, .int .i64 a0.fAt, .bool a0.fBad])] (fun res h => res = .agg [.int .i64 r.1.fKind, .int .i64 r.1.fNum, .str r.1.fStr, .int .i64 r.1.fNext, sl 8 TEntry.cells r.1.fItems] ∧ h = [.row g1000 3 1 85 (fun _ => [.str r.2.fS, .int .i64 r.2.fAt, .bool r.2.fBad])])
def okS96 (a0 : TSerialReader) (a1 : Int) (r : TValue × TSerialReader) : Prop := ∀ g1000 : Nat, ACall Tryd.prog 96 [.optr 0 g1000 0 0, .int .i64 a1] [.row g1000 3 1 85 (fun _ => [.str a0.fS, .int .i64 a0.fAt, .bool a0.fBad])] (fun res h => res = .agg [.int .i64 r.1.fKind, .int .i64 r.1.fNum, .str r.1.fStr, .int .i64 r.1.fNext, sl 8 TEntry.cells r.1.fItems] ∧ h = [.row g1000 3 1 85 (fun _ => [.str r.2.fS, .int .i64 r.2.fAt, .bool r.2.fBad])])
inductive m_i_serialReaderarray_L2_I : Int → Int → Int → Str → Int → Bool → (List TEntry) → Int → ((Str × Int × Bool × (List TEntry)) ⊕ (TValue × TSerialReader)) → Prop
  | mk (G61 : TSerialReader → Int → Option (TValue × TSerialReader)) (hG61 : ∀ a0 a1 r, G61 a0 a1 = some r → okS61 a0 a1 r) (F_m_i_serialReaderarray_L2 : Int → Int → Int → Str → Int → Bool → (List TEntry) → Int → Option ((Str × Int × Bool × (List TEntry)) ⊕ (TValue × TSerialReader))) (hF_m_i_serialReaderarray_L2 : ∀ a1 v44 v50 s67 y68 b69 l70 y71 o, F_m_i_serialReaderarray_L2 a1 v44 v50 s67 y68 b69 l70 y71 = some o → m_i_serialReaderarray_L2_I a1 v44 v50 s67 y68 b69 l70 y71 o) (a1 : Int) (v44 : Int) (v50 : Int) (s67 : Str) (y68 : Int) (b69 : Bool) (l70 : List TEntry) (y71 : Int) (o : (Str × Int × Bool × (List TEntry)) ⊕ (TValue × TSerialReader)) (h : (
      (if y71 < v44 then
        (if b69 = true then
          some (.inl (s67, y68, b69, l70))
        else
          G61 (TSerialReader.mk s67 y68 b69) (W64 (a1 + 1)) >>= fun (v78, v79) =>
          m_i_KeyOf v78 >>= fun (v81, v82) =>
          (if v82 = true then
            G61 v79 (W64 (a1 + 1)) >>= fun (v85, v86) =>
            lapp 96 l70 ([(TEntry.mk v81 v85)] : List TEntry) >>= fun l88 =>
            F_m_i_serialReaderarray_L2 a1 v44 v50 v86.fS v86.fAt v86.fBad l88 (W64 (y71 + 1))
          else
            some (.inr ((TValue.mk 4 0 [] v50 l70), (TSerialReader.mk v79.fS v79.fAt true)))))
      else
        some (.inl (s67, y68, b69, l70)))
    ) = some o) : m_i_serialReaderarray_L2_I a1 v44 v50 s67 y68 b69 l70 y71 o
theorem m_i_serialReaderarray_L2_ind {motive : Int → Int → Int → Str → Int → Bool → (List TEntry) → Int → ((Str × Int × Bool × (List TEntry)) ⊕ (TValue × TSerialReader)) → Prop} (step : ∀ (G61 : TSerialReader → Int → Option (TValue × TSerialReader)) (hG61 : ∀ a0 a1 r, G61 a0 a1 = some r → okS61 a0 a1 r) (F_m_i_serialReaderarray_L2 : Int → Int → Int → Str → Int → Bool → (List TEntry) → Int → Option ((Str × Int × Bool × (List TEntry)) ⊕ (TValue × TSerialReader))) (hF_m_i_serialReaderarray_L2 : ∀ a1 v44 v50 s67 y68 b69 l70 y71 o, F_m_i_serialReaderarray_L2 a1 v44 v50 s67 y68 b69 l70 y71 = some o → m_i_serialReaderarray_L2_I a1 v44 v50 s67 y68 b69 l70 y71 o) (a1 : Int) (v44 : Int) (v50 : Int) (s67 : Str) (y68 : Int) (b69 : Bool) (l70 : List TEntry) (y71 : Int) (o : (Str × Int × Bool × (List TEntry)) ⊕ (TValue × TSerialReader)) (h : (
      (if y71 < v44 then
        (if b69 = true then
          some (.inl (s67, y68, b69, l70))
        else
          G61 (TSerialReader.mk s67 y68 b69) (W64 (a1 + 1)) >>= fun (v78, v79) =>
          m_i_KeyOf v78 >>= fun (v81, v82) =>
          (if v82 = true then
            G61 v79 (W64 (a1 + 1)) >>= fun (v85, v86) =>
            lapp 96 l70 ([(TEntry.mk v81 v85)] : List TEntry) >>= fun l88 =>
            F_m_i_serialReaderarray_L2 a1 v44 v50 v86.fS v86.fAt v86.fBad l88 (W64 (y71 + 1))
          else
            some (.inr ((TValue.mk 4 0 [] v50 l70), (TSerialReader.mk v79.fS v79.fAt true)))))
      else
        some (.inl (s67, y68, b69, l70)))
    ) = some o) (ih : ∀ a1 v44 v50 s67 y68 b69 l70 y71 o, F_m_i_serialReaderarray_L2 a1 v44 v50 s67 y68 b69 l70 y71 = some o → motive a1 v44 v50 s67 y68 b69 l70 y71 o), motive a1 v44 v50 s67 y68 b69 l70 y71 o) : ∀ a1 v44 v50 s67 y68 b69 l70 y71 o, m_i_serialReaderarray_L2_I a1 v44 v50 s67 y68 b69 l70 y71 o → motive a1 v44 v50 s67 y68 b69 l70 y71 o :=
  fun a1 v44 v50 s67 y68 b69 l70 y71 o h => m_i_serialReaderarray_L2_I.rec (motive := fun a1 v44 v50 s67 y68 b69 l70 y71 o _ => motive a1 v44 v50 s67 y68 b69 l70 y71 o) step h
theorem grp__i_serialReadervalue : (∀ a0 a1 r, m_i_serialReadervalue a0 a1 = some r → okS61 a0 a1 r) ∧ (∀ a0 a1 r, m_i_serialReaderarray a0 a1 = some r → okS96 a0 a1 r) ∧ (∀ a1 v44 v50 s67 y68 b69 l70 y71 o, m_i_serialReaderarray_L2 a1 v44 v50 s67 y68 b69 l70 y71 = some o → m_i_serialReaderarray_L2_I a1 v44 v50 s67 y68 b69 l70 y71 o) := by
  refine m_i_serialReadervalue.mutual_partial_correctness okS61 okS96 m_i_serialReaderarray_L2_I ?_ ?_ ?_
  · intro _ ihf96 a0 a1 r h g1000
    refine ACall.of_vc tabT_ok mixed Tryd.func61 rfl (by kernel_rfl) _ _ _ rfl (by kernel_rfl) ?_
    refine .direct ?_
    refine .direct ?_
    refine .direct ?_
    refine ⟨rfl, ?_⟩
    refine ⟨rfl, ?_⟩
    refine ⟨rfl, _, rfl, ?_⟩
    refine ⟨rfl, ?_⟩
    refine ⟨rfl, ?_⟩
    refine ⟨rfl, _, rfl, ?_⟩
    refine splitB.mk (fun hb1 => ?_) (fun hb1 => ?_)
    · replace h := T_dec hb1 h
      refine splitB_t ?_
      refine splitB_t ?_
      refine splitB_t ?_
      refine .direct ?_
      refine ⟨rfl, ?_⟩
      refine ⟨rfl, ?_⟩
      refine ⟨rfl, _, fun _ => [.str a0.fS, .int .i64 a0.fAt, .bool true], rfl, one_set rfl, ?_⟩
      refine .direct ?_
      refine ⟨rfl, _, fun _ => [.int .i64 0, .int .i64 0, .str [], .int .i64 0, .nils], rfl, one_set rfl, ?_⟩
      obtain rfl := Option.some.inj h
      refine ⟨rfl, _, rfl, ?_⟩
      exact ⟨[0], .agg [.int .i64 ((TValue.mk 0 0 [] 0 []).fKind), .int .i64 ((TValue.mk 0 0 [] 0 []).fNum), .str ((TValue.mk 0 0 [] 0 []).fStr), .int .i64 ((TValue.mk 0 0 [] 0 []).fNext), sl 8 TEntry.cells ((TValue.mk 0 0 [] 0 []).fItems)], [.row g1000 3 1 85 (fun _ => [.str ((TSerialReader.mk a0.fS a0.fAt true).fS), .int .i64 ((TSerialReader.mk a0.fS a0.fAt true).fAt), .bool ((TSerialReader.mk a0.fS a0.fAt true).fBad)])], by decide, (show 1 ≤ 1 by decide), .agg_l ⟨.int_eq rfl, .int_eq rfl, .str_eq rfl, .int_eq rfl, fz_nils, trivial⟩, ⟨⟨fun _ => ⟨rfl, rfl⟩, rfl, rfl, rfl, fun _ _ => ⟨.str_eq rfl, .int_eq rfl, .bool_eq rfl, trivial⟩⟩, trivial⟩, rfl, rfl⟩
    · replace h := F_dec hb1 h
      refine splitB_f ?_
      refine splitB_f ?_
      refine splitB.mk (fun hb2 => ?_) (fun hb2 => ?_)
      · replace h := T_dec hb2 h
        refine .direct ?_
        refine ⟨rfl, ?_⟩
        refine ⟨rfl, ?_⟩
        refine ⟨rfl, _, fun _ => [.str a0.fS, .int .i64 a0.fAt, .bool true], rfl, one_set rfl, ?_⟩
        refine .direct ?_
        refine ⟨rfl, _, fun _ => [.int .i64 0, .int .i64 0, .str [], .int .i64 0, .nils], rfl, one_set rfl, ?_⟩
        obtain rfl := Option.some.inj h
        refine ⟨rfl, _, rfl, ?_⟩
        exact ⟨[0], .agg [.int .i64 ((TValue.mk 0 0 [] 0 []).fKind), .int .i64 ((TValue.mk 0 0 [] 0 []).fNum), .str ((TValue.mk 0 0 [] 0 []).fStr), .int .i64 ((TValue.mk 0 0 [] 0 []).fNext), sl 8 TEntry.cells ((TValue.mk 0 0 [] 0 []).fItems)], [.row g1000 3 1 85 (fun _ => [.str ((TSerialReader.mk a0.fS a0.fAt true).fS), .int .i64 ((TSerialReader.mk a0.fS a0.fAt true).fAt), .bool ((TSerialReader.mk a0.fS a0.fAt true).fBad)])], by decide, (show 1 ≤ 1 by decide), .agg_l ⟨.int_eq rfl, .int_eq rfl, .str_eq rfl, .int_eq rfl, fz_nils, trivial⟩, ⟨⟨fun _ => ⟨rfl, rfl⟩, rfl, rfl, rfl, fun _ _ => ⟨.str_eq rfl, .int_eq rfl, .bool_eq rfl, trivial⟩⟩, trivial⟩, rfl, rfl⟩
      · replace h := F_dec hb2 h
        refine .direct ?_
        refine ⟨rfl, ?_⟩
        refine ⟨rfl, ?_⟩
        refine ⟨rfl, _, rfl, ?_⟩
        refine ⟨rfl, ?_⟩
        refine ⟨rfl, ?_⟩
        refine ⟨rfl, _, rfl, ?_⟩
        obtain ⟨c3, hx4, h⟩ := bind_some h
        refine ⟨sidx_bd hx4, c3, sidx_at hx4, ?_⟩
        refine .direct ?_
        refine .direct ?_
        refine splitB.mk (fun hb5 => ?_) (fun hb5 => ?_)
        · replace h := T_beq hb5 h
          refine .direct ?_
          obtain ⟨v6, hv7, h⟩ := bind_some h
          refine ⟨fun res h' => res = .tup [] ∧ h' = [.row g1000 3 1 85 (fun _ => [.str v6.fS, .int .i64 v6.fAt, .bool v6.fBad]), .row 0 5 1 26 (fun _ => [.int .i64 0, .int .i64 0, .str [], .int .i64 0, .nils])], (ACall.over (ok_i_serialReadereat (g1000 := g1000) hv7) [0] [.row g1000 3 1 85 (fun _ => [.str a0.fS, .int .i64 a0.fAt, .bool a0.fBad]), .row 0 5 1 26 (fun _ => [.int .i64 0, .int .i64 0, .str [], .int .i64 0, .nils])] rfl (by decide) (by simp) (by intro j o hj; exact match j, hj with | 0, hj => by cases hj; rfl | j + 1, hj => by cases hj) rfl).mono (by rintro _ _ ⟨_, _, ⟨rfl, rfl⟩, rfl, rfl⟩; exact ⟨rfl, rfl⟩), ?_⟩
          rintro _ _ ⟨rfl, rfl⟩
          refine .direct ?_
          refine ⟨_, ACall.pure0 (ok_i_NullValuex) _ rfl (fun _ => rfl), ?_⟩
          rintro _ _ ⟨rfl, rfl⟩
          refine ⟨rfl, _, fun _ => [.int .i64 0, .int .i64 0, .str [], .int .i64 0, .nils], rfl, one_set rfl, ?_⟩
          obtain rfl := Option.some.inj h
          refine ⟨rfl, _, rfl, ?_⟩
          exact ⟨[0], .agg [.int .i64 ((TValue.mk 0 0 [] 0 []).fKind), .int .i64 ((TValue.mk 0 0 [] 0 []).fNum), .str ((TValue.mk 0 0 [] 0 []).fStr), .int .i64 ((TValue.mk 0 0 [] 0 []).fNext), sl 8 TEntry.cells ((TValue.mk 0 0 [] 0 []).fItems)], [.row g1000 3 1 85 (fun _ => [.str v6.fS, .int .i64 v6.fAt, .bool v6.fBad])], by decide, (show 1 ≤ 1 by decide), .agg_l ⟨.int_eq rfl, .int_eq rfl, .str_eq rfl, .int_eq rfl, fz_nils, trivial⟩, ⟨⟨fun _ => ⟨rfl, rfl⟩, rfl, rfl, rfl, fun _ _ => ⟨.str_eq rfl, .int_eq rfl, .bool_eq rfl, trivial⟩⟩, trivial⟩, rfl, rfl⟩
        · replace h := F_beq hb5 h
          refine .direct ?_
          refine ⟨row cB ([c3, (58 : UInt8)] : List UInt8), row_lit cB ([c3, (58 : UInt8)] : List UInt8) rfl (cll_refl rfl), ?_⟩
          refine ⟨rfl, ([c3, (58 : UInt8)] : List UInt8), rfl, bytes_shows shows_all rfl, ?_⟩
          obtain ⟨v8, hv9, h⟩ := bind_some h
          refine ⟨fun res h' => res = .tup [] ∧ h' = [.row g1000 3 1 85 (fun _ => [.str v8.fS, .int .i64 v8.fAt, .bool v8.fBad]), .row 0 5 1 26 (fun _ => [.int .i64 0, .int .i64 0, .str [], .int .i64 0, .nils]), .row 0 1 ([c3, (58 : UInt8)] : List UInt8).length 5 (row cB ([c3, (58 : UInt8)] : List UInt8))], (ACall.over (ok_i_serialReadereat (g1000 := g1000) hv9) [0] [.row g1000 3 1 85 (fun _ => [.str a0.fS, .int .i64 a0.fAt, .bool a0.fBad]), .row 0 5 1 26 (fun _ => [.int .i64 0, .int .i64 0, .str [], .int .i64 0, .nils]), .row 0 1 ([c3, (58 : UInt8)] : List UInt8).length 5 (row cB ([c3, (58 : UInt8)] : List UInt8))] rfl (by decide) (by simp) (by intro j o hj; exact match j, hj with | 0, hj => by cases hj; rfl | j + 1, hj => by cases hj) rfl).mono (by rintro _ _ ⟨_, _, ⟨rfl, rfl⟩, rfl, rfl⟩; exact ⟨rfl, rfl⟩), ?_⟩
          rintro _ _ ⟨rfl, rfl⟩
          refine .direct ?_
          refine .direct ?_
          refine ⟨rfl, ?_⟩
          refine ⟨rfl, ?_⟩
          refine ⟨rfl, _, rfl, ?_⟩
          refine splitB.mk (fun hb10 => ?_) (fun hb10 => ?_)
          · replace h := T_var hb10 h
            refine .direct ?_
            refine ⟨rfl, _, fun _ => [.int .i64 0, .int .i64 0, .str [], .int .i64 0, .nils], rfl, one_set rfl, ?_⟩
            obtain rfl := Option.some.inj h
            refine ⟨rfl, _, rfl, ?_⟩
            exact ⟨[0], .agg [.int .i64 ((TValue.mk 0 0 [] 0 []).fKind), .int .i64 ((TValue.mk 0 0 [] 0 []).fNum), .str ((TValue.mk 0 0 [] 0 []).fStr), .int .i64 ((TValue.mk 0 0 [] 0 []).fNext), sl 8 TEntry.cells ((TValue.mk 0 0 [] 0 []).fItems)], [.row g1000 3 1 85 (fun _ => [.str v8.fS, .int .i64 v8.fAt, .bool v8.fBad])], by decide, (show 1 ≤ 1 by decide), .agg_l ⟨.int_eq rfl, .int_eq rfl, .str_eq rfl, .int_eq rfl, fz_nils, trivial⟩, ⟨⟨fun _ => ⟨rfl, rfl⟩, rfl, rfl, rfl, fun _ _ => ⟨.str_eq rfl, .int_eq rfl, .bool_eq rfl, trivial⟩⟩, trivial⟩, rfl, rfl⟩
          · replace h := F_var hb10 h
            refine .direct ?_
            refine .direct ?_
            obtain ⟨o12, ho13, hk14⟩ := bind_some h
            replace h := ho13
            refine .cut (fun σ η => ∃ b11, b11 = o12 ∧ σ = [(0, .optr 0 g1000 0 0), (1, .int .i64 a1), (4, .optr 1 0 0 0), (5, .int .u8 (c3.toNat : Int)), (52, .int .u8 (c3.toNat : Int)), (53, .bool b11)] ∧ η = [.row g1000 3 1 85 (fun _ => [.str v8.fS, .int .i64 v8.fAt, .bool v8.fBad]), .row 0 5 1 26 (fun _ => [.int .i64 0, .int .i64 0, .str [], .int .i64 0, .nils])]) ?_ ?_
            · refine .direct ?_
              refine splitB.mk (fun hb15 => ?_) (fun hb15 => ?_)
              · replace h := T_beq hb15 h
                exact ⟨[(0, .optr 0 g1000 0 0), (1, .int .i64 a1), (4, .optr 1 0 0 0), (5, .int .u8 (c3.toNat : Int)), (52, .int .u8 (c3.toNat : Int)), (53, .bool ((c3.toNat : Int) == 98))], [.row g1000 3 1 85 (fun _ => [.str v8.fS, .int .i64 v8.fAt, .bool v8.fBad]), .row 0 5 1 26 (fun _ => [.int .i64 0, .int .i64 0, .str [], .int .i64 0, .nils])], ⟨[0, 1], by decide, (show 1 ≤ 2 by decide), ⟨.optr_eq rfl ⟨_, _, _, _, rfl⟩ ⟨_, _, _, _, rfl⟩ rfl rfl, .int_eq rfl, .optr_eq rfl ⟨_, _, _, _, rfl⟩ ⟨_, _, _, _, rfl⟩ rfl rfl, .int_eq rfl, .int_eq rfl, .bool_eq rfl, trivial⟩, ⟨⟨fun _ => ⟨rfl, rfl⟩, rfl, rfl, rfl, fun _ _ => ⟨.str_eq rfl, .int_eq rfl, .bool_eq rfl, trivial⟩⟩, ⟨fun h0 => absurd (show 1 < 1 from h0) (by decide), rfl, rfl, rfl, fun _ _ => ⟨.int_eq rfl, .int_eq rfl, .str_eq rfl, .int_eq rfl, .nils, trivial⟩⟩, trivial⟩⟩, ((c3.toNat : Int) == 98), Option.some.inj h, rfl, rfl⟩
              · replace h := F_beq hb15 h
                exact ⟨[(0, .optr 0 g1000 0 0), (1, .int .i64 a1), (4, .optr 1 0 0 0), (5, .int .u8 (c3.toNat : Int)), (52, .int .u8 (c3.toNat : Int)), (53, .bool ((c3.toNat : Int) == 105))], [.row g1000 3 1 85 (fun _ => [.str v8.fS, .int .i64 v8.fAt, .bool v8.fBad]), .row 0 5 1 26 (fun _ => [.int .i64 0, .int .i64 0, .str [], .int .i64 0, .nils])], ⟨[0, 1], by decide, (show 1 ≤ 2 by decide), ⟨.optr_eq rfl ⟨_, _, _, _, rfl⟩ ⟨_, _, _, _, rfl⟩ rfl rfl, .int_eq rfl, .optr_eq rfl ⟨_, _, _, _, rfl⟩ ⟨_, _, _, _, rfl⟩ rfl rfl, .int_eq rfl, .int_eq rfl, .bool_eq rfl, trivial⟩, ⟨⟨fun _ => ⟨rfl, rfl⟩, rfl, rfl, rfl, fun _ _ => ⟨.str_eq rfl, .int_eq rfl, .bool_eq rfl, trivial⟩⟩, ⟨fun h0 => absurd (show 1 < 1 from h0) (by decide), rfl, rfl, rfl, fun _ _ => ⟨.int_eq rfl, .int_eq rfl, .str_eq rfl, .int_eq rfl, .nils, trivial⟩⟩, trivial⟩⟩, ((c3.toNat : Int) == 105), Option.some.inj h, rfl, rfl⟩
            · rintro _ _ ⟨b11, rfl, rfl, rfl⟩
              replace h := hk14
              refine splitB.mk (fun hb16 => ?_) (fun hb16 => ?_)
              · replace h := T_var hb16 h
                refine .direct ?_
                obtain ⟨⟨v17, v18⟩, hv19, h⟩ := bind_some h
                refine ⟨fun res h' => res = .str v17 ∧ h' = [.row g1000 3 1 85 (fun _ => [.str v18.fS, .int .i64 v18.fAt, .bool v18.fBad]), .row 0 5 1 26 (fun _ => [.int .i64 0, .int .i64 0, .str [], .int .i64 0, .nils])], (ACall.over (ok_i_serialReaderuntil (g1000 := g1000) hv19) [0] [.row g1000 3 1 85 (fun _ => [.str v8.fS, .int .i64 v8.fAt, .bool v8.fBad]), .row 0 5 1 26 (fun _ => [.int .i64 0, .int .i64 0, .str [], .int .i64 0, .nils])] rfl (by decide) (by simp) (by intro j o hj; exact match j, hj with | 0, hj => by cases hj; rfl | j + 1, hj => by cases hj) rfl).mono (by rintro _ _ ⟨_, _, ⟨rfl, rfl⟩, rfl, rfl⟩; exact ⟨rfl, rfl⟩), ?_⟩
                rintro _ _ ⟨rfl, rfl⟩
                obtain ⟨⟨v20, v21⟩, hv22, h⟩ := bind_some h
                refine ⟨_, ACall.pure0 (ok69 hv22) _ rfl (fun _ => rfl), ?_⟩
                rintro _ _ ⟨rfl, rfl⟩
                refine .direct ?_
                refine ⟨rfl, ?_⟩
                refine ⟨rfl, ?_⟩
                refine ⟨rfl, _, rfl, ?_⟩
                refine splitB.mk (fun hb23 => ?_) (fun hb23 => ?_)
                · replace h := T_var hb23 h
                  refine splitB_t ?_
                  refine splitB_t ?_
                  refine ⟨rfl, ?_⟩
                  refine ⟨rfl, ?_⟩
                  refine ⟨rfl, _, fun _ => [.str v18.fS, .int .i64 v18.fAt, .bool true], rfl, one_set rfl, ?_⟩
                  refine .direct ?_
                  refine .direct ?_
                  refine splitB.mk (fun hb24 => ?_) (fun hb24 => ?_)
                  · replace h := T_beq hb24 h
                    refine .direct ?_
                    refine ⟨rfl, _, fun _ => [.int .i64 1, .int .i64 v20, .str [], .int .i64 0, .nils], rfl, one_set rfl, ?_⟩
                    obtain rfl := Option.some.inj h
                    refine ⟨rfl, _, rfl, ?_⟩
                    exact ⟨[0], .agg [.int .i64 ((TValue.mk 1 v20 [] 0 []).fKind), .int .i64 ((TValue.mk 1 v20 [] 0 []).fNum), .str ((TValue.mk 1 v20 [] 0 []).fStr), .int .i64 ((TValue.mk 1 v20 [] 0 []).fNext), sl 8 TEntry.cells ((TValue.mk 1 v20 [] 0 []).fItems)], [.row g1000 3 1 85 (fun _ => [.str ((TSerialReader.mk v18.fS v18.fAt true).fS), .int .i64 ((TSerialReader.mk v18.fS v18.fAt true).fAt), .bool ((TSerialReader.mk v18.fS v18.fAt true).fBad)])], by decide, (show 1 ≤ 1 by decide), .agg_l ⟨.int_eq rfl, .int_eq rfl, .str_eq rfl, .int_eq rfl, fz_nils, trivial⟩, ⟨⟨fun _ => ⟨rfl, rfl⟩, rfl, rfl, rfl, fun _ _ => ⟨.str_eq rfl, .int_eq rfl, .bool_eq rfl, trivial⟩⟩, trivial⟩, rfl, rfl⟩
                  · replace h := F_beq hb24 h
                    refine .direct ?_
                    refine ⟨_, ACall.pure0 (ok_i_IntValuex v20) _ rfl (fun _ => rfl), ?_⟩
                    rintro _ _ ⟨rfl, rfl⟩
                    refine ⟨rfl, _, fun _ => [.int .i64 2, .int .i64 v20, .str [], .int .i64 0, .nils], rfl, one_set rfl, ?_⟩
                    obtain rfl := Option.some.inj h
                    refine ⟨rfl, _, rfl, ?_⟩
                    exact ⟨[0], .agg [.int .i64 ((TValue.mk 2 v20 [] 0 []).fKind), .int .i64 ((TValue.mk 2 v20 [] 0 []).fNum), .str ((TValue.mk 2 v20 [] 0 []).fStr), .int .i64 ((TValue.mk 2 v20 [] 0 []).fNext), sl 8 TEntry.cells ((TValue.mk 2 v20 [] 0 []).fItems)], [.row g1000 3 1 85 (fun _ => [.str ((TSerialReader.mk v18.fS v18.fAt true).fS), .int .i64 ((TSerialReader.mk v18.fS v18.fAt true).fAt), .bool ((TSerialReader.mk v18.fS v18.fAt true).fBad)])], by decide, (show 1 ≤ 1 by decide), .agg_l ⟨.int_eq rfl, .int_eq rfl, .str_eq rfl, .int_eq rfl, fz_nils, trivial⟩, ⟨⟨fun _ => ⟨rfl, rfl⟩, rfl, rfl, rfl, fun _ _ => ⟨.str_eq rfl, .int_eq rfl, .bool_eq rfl, trivial⟩⟩, trivial⟩, rfl, rfl⟩
                · replace h := F_var hb23 h
                  refine splitB_f ?_
                  refine splitB_f ?_
                  refine ⟨rfl, ?_⟩
                  refine ⟨rfl, ?_⟩
                  refine ⟨rfl, _, fun _ => [.str v18.fS, .int .i64 v18.fAt, .bool (!v21)], rfl, one_set rfl, ?_⟩
                  refine .direct ?_
                  refine .direct ?_
                  refine splitB.mk (fun hb25 => ?_) (fun hb25 => ?_)
                  · replace h := T_beq hb25 h
                    refine .direct ?_
                    refine ⟨rfl, _, fun _ => [.int .i64 1, .int .i64 v20, .str [], .int .i64 0, .nils], rfl, one_set rfl, ?_⟩
                    obtain rfl := Option.some.inj h
                    refine ⟨rfl, _, rfl, ?_⟩
                    exact ⟨[0], .agg [.int .i64 ((TValue.mk 1 v20 [] 0 []).fKind), .int .i64 ((TValue.mk 1 v20 [] 0 []).fNum), .str ((TValue.mk 1 v20 [] 0 []).fStr), .int .i64 ((TValue.mk 1 v20 [] 0 []).fNext), sl 8 TEntry.cells ((TValue.mk 1 v20 [] 0 []).fItems)], [.row g1000 3 1 85 (fun _ => [.str ((TSerialReader.mk v18.fS v18.fAt (!v21)).fS), .int .i64 ((TSerialReader.mk v18.fS v18.fAt (!v21)).fAt), .bool ((TSerialReader.mk v18.fS v18.fAt (!v21)).fBad)])], by decide, (show 1 ≤ 1 by decide), .agg_l ⟨.int_eq rfl, .int_eq rfl, .str_eq rfl, .int_eq rfl, fz_nils, trivial⟩, ⟨⟨fun _ => ⟨rfl, rfl⟩, rfl, rfl, rfl, fun _ _ => ⟨.str_eq rfl, .int_eq rfl, .bool_eq rfl, trivial⟩⟩, trivial⟩, rfl, rfl⟩
                  · replace h := F_beq hb25 h
                    refine .direct ?_
                    refine ⟨_, ACall.pure0 (ok_i_IntValuex v20) _ rfl (fun _ => rfl), ?_⟩
                    rintro _ _ ⟨rfl, rfl⟩
                    refine ⟨rfl, _, fun _ => [.int .i64 2, .int .i64 v20, .str [], .int .i64 0, .nils], rfl, one_set rfl, ?_⟩
                    obtain rfl := Option.some.inj h
                    refine ⟨rfl, _, rfl, ?_⟩
                    exact ⟨[0], .agg [.int .i64 ((TValue.mk 2 v20 [] 0 []).fKind), .int .i64 ((TValue.mk 2 v20 [] 0 []).fNum), .str ((TValue.mk 2 v20 [] 0 []).fStr), .int .i64 ((TValue.mk 2 v20 [] 0 []).fNext), sl 8 TEntry.cells ((TValue.mk 2 v20 [] 0 []).fItems)], [.row g1000 3 1 85 (fun _ => [.str ((TSerialReader.mk v18.fS v18.fAt (!v21)).fS), .int .i64 ((TSerialReader.mk v18.fS v18.fAt (!v21)).fAt), .bool ((TSerialReader.mk v18.fS v18.fAt (!v21)).fBad)])], by decide, (show 1 ≤ 1 by decide), .agg_l ⟨.int_eq rfl, .int_eq rfl, .str_eq rfl, .int_eq rfl, fz_nils, trivial⟩, ⟨⟨fun _ => ⟨rfl, rfl⟩, rfl, rfl, rfl, fun _ _ => ⟨.str_eq rfl, .int_eq rfl, .bool_eq rfl, trivial⟩⟩, trivial⟩, rfl, rfl⟩
              · replace h := F_var hb16 h
                refine .direct ?_
                refine splitB.mk (fun hb26 => ?_) (fun hb26 => ?_)
                · replace h := T_beq hb26 h
                  refine .direct ?_
                  obtain ⟨⟨v27, v28⟩, hv29, h⟩ := bind_some h
                  refine ⟨fun res h' => res = .int .i64 v27 ∧ h' = [.row g1000 3 1 85 (fun _ => [.str v28.fS, .int .i64 v28.fAt, .bool v28.fBad]), .row 0 5 1 26 (fun _ => [.int .i64 0, .int .i64 0, .str [], .int .i64 0, .nils])], (ACall.over (ok_i_serialReadercount (g1000 := g1000) hv29) [0] [.row g1000 3 1 85 (fun _ => [.str v8.fS, .int .i64 v8.fAt, .bool v8.fBad]), .row 0 5 1 26 (fun _ => [.int .i64 0, .int .i64 0, .str [], .int .i64 0, .nils])] rfl (by decide) (by simp) (by intro j o hj; exact match j, hj with | 0, hj => by cases hj; rfl | j + 1, hj => by cases hj) rfl).mono (by rintro _ _ ⟨_, _, ⟨rfl, rfl⟩, rfl, rfl⟩; exact ⟨rfl, rfl⟩), ?_⟩
                  rintro _ _ ⟨rfl, rfl⟩
                  refine .direct ?_
                  refine .direct ?_
                  refine ⟨rfl, ?_⟩
                  refine ⟨rfl, ?_⟩
                  refine ⟨rfl, _, rfl, ?_⟩
                  refine splitB.mk (fun hb30 => ?_) (fun hb30 => ?_)
                  · replace h := T_var hb30 h
                    refine splitB_t ?_
                    refine splitB_t ?_
                    refine splitB_t ?_
                    refine splitB_t ?_
                    refine splitB_t ?_
                    refine splitB_t ?_
                    refine splitB_t ?_
                    refine splitB_t ?_
                    refine splitB_t ?_
                    refine splitB_t ?_
                    refine splitB_t ?_
                    refine splitB_t ?_
                    refine splitB_t ?_
                    refine .direct ?_
                    refine ⟨rfl, ?_⟩
                    refine ⟨rfl, ?_⟩
                    refine ⟨rfl, _, fun _ => [.str v28.fS, .int .i64 v28.fAt, .bool true], rfl, one_set rfl, ?_⟩
                    refine .direct ?_
                    refine ⟨rfl, _, fun _ => [.int .i64 0, .int .i64 0, .str [], .int .i64 0, .nils], rfl, one_set rfl, ?_⟩
                    obtain rfl := Option.some.inj h
                    refine ⟨rfl, _, rfl, ?_⟩
                    exact ⟨[0], .agg [.int .i64 ((TValue.mk 0 0 [] 0 []).fKind), .int .i64 ((TValue.mk 0 0 [] 0 []).fNum), .str ((TValue.mk 0 0 [] 0 []).fStr), .int .i64 ((TValue.mk 0 0 [] 0 []).fNext), sl 8 TEntry.cells ((TValue.mk 0 0 [] 0 []).fItems)], [.row g1000 3 1 85 (fun _ => [.str ((TSerialReader.mk v28.fS v28.fAt true).fS), .int .i64 ((TSerialReader.mk v28.fS v28.fAt true).fAt), .bool ((TSerialReader.mk v28.fS v28.fAt true).fBad)])], by decide, (show 1 ≤ 1 by decide), .agg_l ⟨.int_eq rfl, .int_eq rfl, .str_eq rfl, .int_eq rfl, fz_nils, trivial⟩, ⟨⟨fun _ => ⟨rfl, rfl⟩, rfl, rfl, rfl, fun _ _ => ⟨.str_eq rfl, .int_eq rfl, .bool_eq rfl, trivial⟩⟩, trivial⟩, rfl, rfl⟩
                  · replace h := F_var hb30 h
                    refine splitB_f ?_
                    refine splitB_f ?_
                    refine ⟨rfl, ?_⟩
                    refine splitB_f ?_
                    refine ⟨rfl, ?_⟩
                    refine splitB_f ?_
                    refine ⟨rfl, _, rfl, ?_⟩
                    refine splitB_f ?_
                    refine splitB_f ?_
                    refine splitB_f ?_
                    refine ⟨rfl, ?_⟩
                    refine splitB_f ?_
                    refine ⟨rfl, ?_⟩
                    refine splitB_f ?_
                    refine ⟨rfl, _, rfl, ?_⟩
                    refine splitB_f ?_
                    refine splitB_f ?_
                    refine splitB_f ?_
                    refine splitB.mk (fun hb31 => ?_) (fun hb31 => ?_)
                    · replace h := T_dec hb31 h
                      refine .direct ?_
                      refine ⟨rfl, ?_⟩
                      refine ⟨rfl, ?_⟩
                      refine ⟨rfl, _, fun _ => [.str v28.fS, .int .i64 v28.fAt, .bool true], rfl, one_set rfl, ?_⟩
                      refine .direct ?_
                      refine ⟨rfl, _, fun _ => [.int .i64 0, .int .i64 0, .str [], .int .i64 0, .nils], rfl, one_set rfl, ?_⟩
                      obtain rfl := Option.some.inj h
                      refine ⟨rfl, _, rfl, ?_⟩
                      exact ⟨[0], .agg [.int .i64 ((TValue.mk 0 0 [] 0 []).fKind), .int .i64 ((TValue.mk 0 0 [] 0 []).fNum), .str ((TValue.mk 0 0 [] 0 []).fStr), .int .i64 ((TValue.mk 0 0 [] 0 []).fNext), sl 8 TEntry.cells ((TValue.mk 0 0 [] 0 []).fItems)], [.row g1000 3 1 85 (fun _ => [.str ((TSerialReader.mk v28.fS v28.fAt true).fS), .int .i64 ((TSerialReader.mk v28.fS v28.fAt true).fAt), .bool ((TSerialReader.mk v28.fS v28.fAt true).fBad)])], by decide, (show 1 ≤ 1 by decide), .agg_l ⟨.int_eq rfl, .int_eq rfl, .str_eq rfl, .int_eq rfl, fz_nils, trivial⟩, ⟨⟨fun _ => ⟨rfl, rfl⟩, rfl, rfl, rfl, fun _ _ => ⟨.str_eq rfl, .int_eq rfl, .bool_eq rfl, trivial⟩⟩, trivial⟩, rfl, rfl⟩
                    · replace h := F_dec hb31 h
                      obtain ⟨o33, ho34, hk35⟩ := bind_some h
                      replace h := ho34
                      refine .cut (fun σ η => ∃ s32, s32 = o33 ∧ σ = [(0, .optr 0 g1000 0 0), (4, .optr 1 0 0 0), (8, .int .i64 v27), (9, .optr 2 0 0 0)] ∧ η = [.row g1000 3 1 85 (fun _ => [.str v28.fS, .int .i64 v28.fAt, .bool v28.fBad]), .row 0 5 1 26 (fun _ => [.int .i64 0, .int .i64 0, .str [], .int .i64 0, .nils]), .row 0 5 1 26 (fun _ => [.int .i64 3, .int .i64 0, .str s32, .int .i64 0, .nils])]) ?_ ?_
                      · refine .float2 [(0, true), (1, true), (2, true), (3, true), (4, true), (5, true), (6, true), (7, true), (8, true), (9, true), (10, true), (11, true), (12, true), (13, true), (14, true)] 15 [(16, false), (17, false)] 16 [(15, false), (17, false)] (by kernel_rfl) ?_
                        refine ⟨rfl, ?_⟩
                        refine ⟨rfl, ?_⟩
                        refine ⟨rfl, _, rfl, ?_⟩
                        refine ⟨rfl, ?_⟩
                        refine ⟨rfl, ?_⟩
                        refine ⟨rfl, _, rfl, ?_⟩
                        refine ⟨rfl, ?_⟩
                        refine ⟨rfl, ?_⟩
                        refine ⟨rfl, _, rfl, ?_⟩
                        obtain ⟨s36, hx37, h⟩ := bind_some h
                        refine ⟨ssub_bd hx37, s36, ssub_at hx37, ?_⟩
                        refine ⟨?_, ?_⟩
                        · refine ⟨_, ACall.pure0 (ok_i_TextValuex s36) _ rfl (fun _ => rfl), ?_⟩
                          rintro _ _ ⟨rfl, rfl⟩
                          refine ⟨rfl, ?_⟩
                          refine ⟨rfl, ?_⟩
                          refine ⟨rfl, ?_⟩
                          refine ⟨rfl, ?_⟩
                          refine ⟨rfl, ?_⟩
                          refine ⟨rfl, ?_⟩
                          refine ⟨rfl, ?_⟩
                          refine ⟨rfl, ?_⟩
                          refine ⟨rfl, ?_⟩
                          refine ⟨rfl, _, fun _ => [.int .i64 3, .int .i64 0, .str s36, .int .i64 0, .nils], rfl, one_set rfl, ?_⟩
                          exact ⟨[(0, .optr 0 g1000 0 0), (4, .optr 1 0 0 0), (8, .int .i64 v27), (9, .optr 2 0 0 0)], [.row g1000 3 1 85 (fun _ => [.str v28.fS, .int .i64 v28.fAt, .bool v28.fBad]), .row 0 5 1 26 (fun _ => [.int .i64 0, .int .i64 0, .str [], .int .i64 0, .nils]), .row 0 5 1 26 (fun _ => [.int .i64 3, .int .i64 0, .str s36, .int .i64 0, .nils])], ⟨[0, 1, 2], by decide, (show 1 ≤ 3 by decide), ⟨.optr_eq rfl ⟨_, _, _, _, rfl⟩ ⟨_, _, _, _, rfl⟩ rfl rfl, .optr_eq rfl ⟨_, _, _, _, rfl⟩ ⟨_, _, _, _, rfl⟩ rfl rfl, .int_eq rfl, .optr_eq rfl ⟨_, _, _, _, rfl⟩ ⟨_, _, _, _, rfl⟩ rfl rfl, trivial⟩, ⟨⟨fun _ => ⟨rfl, rfl⟩, rfl, rfl, rfl, fun _ _ => ⟨.str_eq rfl, .int_eq rfl, .bool_eq rfl, trivial⟩⟩, ⟨fun h0 => absurd (show 1 < 1 from h0) (by decide), rfl, rfl, rfl, fun _ _ => ⟨.int_eq rfl, .int_eq rfl, .str_eq rfl, .int_eq rfl, .nils, trivial⟩⟩, ⟨fun h0 => absurd (show 2 < 1 from h0) (by decide), rfl, rfl, rfl, fun _ _ => ⟨.int_eq rfl, .int_eq rfl, .str_eq rfl, .int_eq rfl, .nils, trivial⟩⟩, trivial⟩⟩, s36, Option.some.inj h, rfl, rfl⟩
                        · refine ⟨rfl, ?_⟩
                          refine ⟨rfl, ?_⟩
                          refine ⟨rfl, ?_⟩
                          refine ⟨rfl, ?_⟩
                          refine ⟨rfl, ?_⟩
                          refine ⟨rfl, ?_⟩
                          refine ⟨rfl, ?_⟩
                          refine ⟨rfl, ?_⟩
                          refine ⟨rfl, ?_⟩
                          refine ⟨_, ACall.pure0 (ok_i_TextValuex s36) _ rfl (fun _ => rfl), ?_⟩
                          rintro _ _ ⟨rfl, rfl⟩
                          refine ⟨rfl, _, fun _ => [.int .i64 3, .int .i64 0, .str s36, .int .i64 0, .nils], rfl, one_set rfl, ?_⟩
                          exact ⟨[(0, .optr 0 g1000 0 0), (4, .optr 1 0 0 0), (8, .int .i64 v27), (9, .optr 2 0 0 0)], [.row g1000 3 1 85 (fun _ => [.str v28.fS, .int .i64 v28.fAt, .bool v28.fBad]), .row 0 5 1 26 (fun _ => [.int .i64 0, .int .i64 0, .str [], .int .i64 0, .nils]), .row 0 5 1 26 (fun _ => [.int .i64 3, .int .i64 0, .str s36, .int .i64 0, .nils])], ⟨[0, 1, 2], by decide, (show 1 ≤ 3 by decide), ⟨.optr_eq rfl ⟨_, _, _, _, rfl⟩ ⟨_, _, _, _, rfl⟩ rfl rfl, .optr_eq rfl ⟨_, _, _, _, rfl⟩ ⟨_, _, _, _, rfl⟩ rfl rfl, .int_eq rfl, .optr_eq rfl ⟨_, _, _, _, rfl⟩ ⟨_, _, _, _, rfl⟩ rfl rfl, trivial⟩, ⟨⟨fun _ => ⟨rfl, rfl⟩, rfl, rfl, rfl, fun _ _ => ⟨.str_eq rfl, .int_eq rfl, .bool_eq rfl, trivial⟩⟩, ⟨fun h0 => absurd (show 1 < 1 from h0) (by decide), rfl, rfl, rfl, fun _ _ => ⟨.int_eq rfl, .int_eq rfl, .str_eq rfl, .int_eq rfl, .nils, trivial⟩⟩, ⟨fun h0 => absurd (show 2 < 1 from h0) (by decide), rfl, rfl, rfl, fun _ _ => ⟨.int_eq rfl, .int_eq rfl, .str_eq rfl, .int_eq rfl, .nils, trivial⟩⟩, trivial⟩⟩, s36, Option.some.inj h, rfl, rfl⟩
                      · rintro _ _ ⟨s32, rfl, rfl, rfl⟩
                        replace h := hk35
                        refine .direct ?_
                        refine ⟨rfl, ?_⟩
                        refine ⟨rfl, ?_⟩
                        refine ⟨rfl, _, rfl, ?_⟩
                        refine ⟨rfl, ?_⟩
                        refine ⟨rfl, ?_⟩
                        refine ⟨rfl, _, fun _ => [.str v28.fS, .int .i64 (W64 (v28.fAt + v27)), .bool v28.fBad], rfl, one_set rfl, ?_⟩
                        refine .direct ?_
                        obtain ⟨v38, hv39, h⟩ := bind_some h
                        refine ⟨fun res h' => res = .tup [] ∧ h' = [.row g1000 3 1 85 (fun _ => [.str v38.fS, .int .i64 v38.fAt, .bool v38.fBad]), .row 0 5 1 26 (fun _ => [.int .i64 0, .int .i64 0, .str [], .int .i64 0, .nils]), .row 0 5 1 26 (fun _ => [.int .i64 3, .int .i64 0, .str s32, .int .i64 0, .nils])], (ACall.over (ok_i_serialReadereat (g1000 := g1000) hv39) [0] [.row g1000 3 1 85 (fun _ => [.str v28.fS, .int .i64 (W64 (v28.fAt + v27)), .bool v28.fBad]), .row 0 5 1 26 (fun _ => [.int .i64 0, .int .i64 0, .str [], .int .i64 0, .nils]), .row 0 5 1 26 (fun _ => [.int .i64 3, .int .i64 0, .str s32, .int .i64 0, .nils])] rfl (by decide) (by simp) (by intro j o hj; exact match j, hj with | 0, hj => by cases hj; rfl | j + 1, hj => by cases hj) rfl).mono (by rintro _ _ ⟨_, _, ⟨rfl, rfl⟩, rfl, rfl⟩; exact ⟨rfl, rfl⟩), ?_⟩
                        rintro _ _ ⟨rfl, rfl⟩
                        refine .direct ?_
                        refine ⟨rfl, _, rfl, ?_⟩
                        refine ⟨rfl, _, fun _ => [.int .i64 3, .int .i64 0, .str s32, .int .i64 0, .nils], rfl, one_set rfl, ?_⟩
                        obtain rfl := Option.some.inj h
                        refine ⟨rfl, _, rfl, ?_⟩
                        exact ⟨[0], .agg [.int .i64 ((TValue.mk 3 0 s32 0 []).fKind), .int .i64 ((TValue.mk 3 0 s32 0 []).fNum), .str ((TValue.mk 3 0 s32 0 []).fStr), .int .i64 ((TValue.mk 3 0 s32 0 []).fNext), sl 8 TEntry.cells ((TValue.mk 3 0 s32 0 []).fItems)], [.row g1000 3 1 85 (fun _ => [.str v38.fS, .int .i64 v38.fAt, .bool v38.fBad])], by decide, (show 1 ≤ 1 by decide), .agg_l ⟨.int_eq rfl, .int_eq rfl, .str_eq rfl, .int_eq rfl, fz_nils, trivial⟩, ⟨⟨fun _ => ⟨rfl, rfl⟩, rfl, rfl, rfl, fun _ _ => ⟨.str_eq rfl, .int_eq rfl, .bool_eq rfl, trivial⟩⟩, trivial⟩, rfl, rfl⟩
                · replace h := F_beq hb26 h
                  refine .direct ?_
                  refine splitB.mk (fun hb40 => ?_) (fun hb40 => ?_)
                  · replace h := T_beq hb40 h
                    refine .direct ?_
                    obtain ⟨⟨v41, v42⟩, hv43, h⟩ := bind_some h
                    refine ⟨fun res h' => res = .agg [.int .i64 v41.fKind, .int .i64 v41.fNum, .str v41.fStr, .int .i64 v41.fNext, sl 8 TEntry.cells v41.fItems] ∧ h' = [.row g1000 3 1 85 (fun _ => [.str v42.fS, .int .i64 v42.fAt, .bool v42.fBad]), .row 0 5 1 26 (fun _ => [.int .i64 0, .int .i64 0, .str [], .int .i64 0, .nils])], (ACall.over (ihf96 _ _ _ hv43 _) [0] [.row g1000 3 1 85 (fun _ => [.str v8.fS, .int .i64 v8.fAt, .bool v8.fBad]), .row 0 5 1 26 (fun _ => [.int .i64 0, .int .i64 0, .str [], .int .i64 0, .nils])] rfl (by decide) (by simp) (by intro j o hj; exact match j, hj with | 0, hj => by cases hj; rfl | j + 1, hj => by cases hj) rfl).mono (by rintro _ _ ⟨_, _, ⟨rfl, rfl⟩, rfl, rfl⟩; exact ⟨rfl, rfl⟩), ?_⟩
                    rintro _ _ ⟨rfl, rfl⟩
                    refine ⟨rfl, _, fun _ => [.int .i64 v41.fKind, .int .i64 v41.fNum, .str v41.fStr, .int .i64 v41.fNext, sl 8 TEntry.cells v41.fItems], rfl, one_set rfl, ?_⟩
                    obtain rfl := Option.some.inj h
                    refine ⟨rfl, _, rfl, ?_⟩
                    exact ⟨[0], .agg [.int .i64 v41.fKind, .int .i64 v41.fNum, .str v41.fStr, .int .i64 v41.fNext, sl 8 TEntry.cells v41.fItems], [.row g1000 3 1 85 (fun _ => [.str v42.fS, .int .i64 v42.fAt, .bool v42.fBad])], by decide, (show 1 ≤ 1 by decide), .agg_l ⟨.int_eq rfl, .int_eq rfl, .str_eq rfl, .int_eq rfl, .slc_eq rfl (fun _ _ => rfl), trivial⟩, ⟨⟨fun _ => ⟨rfl, rfl⟩, rfl, rfl, rfl, fun _ _ => ⟨.str_eq rfl, .int_eq rfl, .bool_eq rfl, trivial⟩⟩, trivial⟩, rfl, rfl⟩
                  · replace h := F_beq hb40 h
                    refine .direct ?_
                    refine ⟨rfl, ?_⟩
                    refine ⟨rfl, ?_⟩
                    refine ⟨rfl, _, fun _ => [.str v8.fS, .int .i64 v8.fAt, .bool true], rfl, one_set rfl, ?_⟩
                    refine .direct ?_
                    refine ⟨rfl, _, fun _ => [.int .i64 0, .int .i64 0, .str [], .int .i64 0, .nils], rfl, one_set rfl, ?_⟩
                    obtain rfl := Option.some.inj h
                    refine ⟨rfl, _, rfl, ?_⟩
                    exact ⟨[0], .agg [.int .i64 ((TValue.mk 0 0 [] 0 []).fKind), .int .i64 ((TValue.mk 0 0 [] 0 []).fNum), .str ((TValue.mk 0 0 [] 0 []).fStr), .int .i64 ((TValue.mk 0 0 [] 0 []).fNext), sl 8 TEntry.cells ((TValue.mk 0 0 [] 0 []).fItems)], [.row g1000 3 1 85 (fun _ => [.str ((TSerialReader.mk v8.fS v8.fAt true).fS), .int .i64 ((TSerialReader.mk v8.fS v8.fAt true).fAt), .bool ((TSerialReader.mk v8.fS v8.fAt true).fBad)])], by decide, (show 1 ≤ 1 by decide), .agg_l ⟨.int_eq rfl, .int_eq rfl, .str_eq rfl, .int_eq rfl, fz_nils, trivial⟩, ⟨⟨fun _ => ⟨rfl, rfl⟩, rfl, rfl, rfl, fun _ _ => ⟨.str_eq rfl, .int_eq rfl, .bool_eq rfl, trivial⟩⟩, trivial⟩, rfl, rfl⟩
  · intro _ hI98 a0 a1 r h g1000
    refine ACall.of_vc tabT_ok mixed Tryd.func96 rfl (by kernel_rfl) _ _ _ rfl (by kernel_rfl) ?_
    refine .direct ?_
    refine .direct ?_
    obtain ⟨⟨v44, v45⟩, hv46, h⟩ := bind_some h
    refine ⟨fun res h' => res = .int .i64 v44 ∧ h' = [.row g1000 3 1 85 (fun _ => [.str v45.fS, .int .i64 v45.fAt, .bool v45.fBad]), .row 0 5 1 26 (fun _ => [.int .i64 0, .int .i64 0, .str [], .int .i64 0, .nils])], (ACall.over (ok_i_serialReadercount (g1000 := g1000) hv46) [0] [.row g1000 3 1 85 (fun _ => [.str a0.fS, .int .i64 a0.fAt, .bool a0.fBad]), .row 0 5 1 26 (fun _ => [.int .i64 0, .int .i64 0, .str [], .int .i64 0, .nils])] rfl (by decide) (by simp) (by intro j o hj; exact match j, hj with | 0, hj => by cases hj; rfl | j + 1, hj => by cases hj) rfl).mono (by rintro _ _ ⟨_, _, ⟨rfl, rfl⟩, rfl, rfl⟩; exact ⟨rfl, rfl⟩), ?_⟩
    rintro _ _ ⟨rfl, rfl⟩
    refine .direct ?_
    obtain ⟨⟨v47, v48⟩, hv49, h⟩ := bind_some h
    refine ⟨fun res h' => res = .str v47 ∧ h' = [.row g1000 3 1 85 (fun _ => [.str v48.fS, .int .i64 v48.fAt, .bool v48.fBad]), .row 0 5 1 26 (fun _ => [.int .i64 0, .int .i64 0, .str [], .int .i64 0, .nils])], (ACall.over (ok_i_serialReaderuntil (g1000 := g1000) hv49) [0] [.row g1000 3 1 85 (fun _ => [.str v45.fS, .int .i64 v45.fAt, .bool v45.fBad]), .row 0 5 1 26 (fun _ => [.int .i64 0, .int .i64 0, .str [], .int .i64 0, .nils])] rfl (by decide) (by simp) (by intro j o hj; exact match j, hj with | 0, hj => by cases hj; rfl | j + 1, hj => by cases hj) rfl).mono (by rintro _ _ ⟨_, _, ⟨rfl, rfl⟩, rfl, rfl⟩; exact ⟨rfl, rfl⟩), ?_⟩
    rintro _ _ ⟨rfl, rfl⟩
    obtain ⟨⟨v50, v51⟩, hv52, h⟩ := bind_some h
    refine ⟨_, ACall.pure0 (ok_i_ParseInt hv52) _ rfl (fun _ => rfl), ?_⟩
    rintro _ _ ⟨rfl, rfl⟩
    obtain ⟨o54, ho55, hk56⟩ := bind_some h
    replace h := ho55
    refine .cut (fun σ η => ∃ b53, b53 = o54 ∧ σ = [(0, .optr 0 g1000 0 0), (1, .int .i64 a1), (4, .optr 1 0 0 0), (5, .int .i64 v44), (6, .int .i64 v50)] ∧ η = [.row g1000 3 1 85 (fun _ => [.str v48.fS, .int .i64 v48.fAt, .bool b53]), .row 0 5 1 26 (fun _ => [.int .i64 0, .int .i64 0, .str [], .int .i64 0, .nils])]) ?_ ?_
    · refine .direct ?_
      refine splitB.mk (fun hb57 => ?_) (fun hb57 => ?_)
      · have hb59 := not_F hb57
        replace h := F_var hb59 h
        refine splitB_t ?_
        refine splitB_t ?_
        refine splitB_t ?_
        refine ⟨rfl, ?_⟩
        refine ⟨rfl, ?_⟩
        refine ⟨rfl, _, fun _ => [.str v48.fS, .int .i64 v48.fAt, .bool true], rfl, one_set rfl, ?_⟩
        exact ⟨[(0, .optr 0 g1000 0 0), (1, .int .i64 a1), (4, .optr 1 0 0 0), (5, .int .i64 v44), (6, .int .i64 v50)], [.row g1000 3 1 85 (fun _ => [.str v48.fS, .int .i64 v48.fAt, .bool true]), .row 0 5 1 26 (fun _ => [.int .i64 0, .int .i64 0, .str [], .int .i64 0, .nils])], ⟨[0, 1], by decide, (show 1 ≤ 2 by decide), ⟨.optr_eq rfl ⟨_, _, _, _, rfl⟩ ⟨_, _, _, _, rfl⟩ rfl rfl, .int_eq rfl, .optr_eq rfl ⟨_, _, _, _, rfl⟩ ⟨_, _, _, _, rfl⟩ rfl rfl, .int_eq rfl, .int_eq rfl, trivial⟩, ⟨⟨fun _ => ⟨rfl, rfl⟩, rfl, rfl, rfl, fun _ _ => ⟨.str_eq rfl, .int_eq rfl, .bool_eq rfl, trivial⟩⟩, ⟨fun h0 => absurd (show 1 < 1 from h0) (by decide), rfl, rfl, rfl, fun _ _ => ⟨.int_eq rfl, .int_eq rfl, .str_eq rfl, .int_eq rfl, .nils, trivial⟩⟩, trivial⟩⟩, true, Option.some.inj h, rfl, rfl⟩
      · have hb59 := not_T hb57
        replace h := T_var hb59 h
        refine splitB_f ?_
        refine splitB_f ?_
        refine splitB.mk (fun hb58 => ?_) (fun hb58 => ?_)
        · replace h := T_dec hb58 h
          refine ⟨rfl, ?_⟩
          refine ⟨rfl, ?_⟩
          refine ⟨rfl, _, fun _ => [.str v48.fS, .int .i64 v48.fAt, .bool true], rfl, one_set rfl, ?_⟩
          exact ⟨[(0, .optr 0 g1000 0 0), (1, .int .i64 a1), (4, .optr 1 0 0 0), (5, .int .i64 v44), (6, .int .i64 v50)], [.row g1000 3 1 85 (fun _ => [.str v48.fS, .int .i64 v48.fAt, .bool true]), .row 0 5 1 26 (fun _ => [.int .i64 0, .int .i64 0, .str [], .int .i64 0, .nils])], ⟨[0, 1], by decide, (show 1 ≤ 2 by decide), ⟨.optr_eq rfl ⟨_, _, _, _, rfl⟩ ⟨_, _, _, _, rfl⟩ rfl rfl, .int_eq rfl, .optr_eq rfl ⟨_, _, _, _, rfl⟩ ⟨_, _, _, _, rfl⟩ rfl rfl, .int_eq rfl, .int_eq rfl, trivial⟩, ⟨⟨fun _ => ⟨rfl, rfl⟩, rfl, rfl, rfl, fun _ _ => ⟨.str_eq rfl, .int_eq rfl, .bool_eq rfl, trivial⟩⟩, ⟨fun h0 => absurd (show 1 < 1 from h0) (by decide), rfl, rfl, rfl, fun _ _ => ⟨.int_eq rfl, .int_eq rfl, .str_eq rfl, .int_eq rfl, .nils, trivial⟩⟩, trivial⟩⟩, true, Option.some.inj h, rfl, rfl⟩
        · replace h := F_dec hb58 h
          exact ⟨[(0, .optr 0 g1000 0 0), (1, .int .i64 a1), (4, .optr 1 0 0 0), (5, .int .i64 v44), (6, .int .i64 v50)], [.row g1000 3 1 85 (fun _ => [.str v48.fS, .int .i64 v48.fAt, .bool v48.fBad]), .row 0 5 1 26 (fun _ => [.int .i64 0, .int .i64 0, .str [], .int .i64 0, .nils])], ⟨[0, 1], by decide, (show 1 ≤ 2 by decide), ⟨.optr_eq rfl ⟨_, _, _, _, rfl⟩ ⟨_, _, _, _, rfl⟩ rfl rfl, .int_eq rfl, .optr_eq rfl ⟨_, _, _, _, rfl⟩ ⟨_, _, _, _, rfl⟩ rfl rfl, .int_eq rfl, .int_eq rfl, trivial⟩, ⟨⟨fun _ => ⟨rfl, rfl⟩, rfl, rfl, rfl, fun _ _ => ⟨.str_eq rfl, .int_eq rfl, .bool_eq rfl, trivial⟩⟩, ⟨fun h0 => absurd (show 1 < 1 from h0) (by decide), rfl, rfl, rfl, fun _ _ => ⟨.int_eq rfl, .int_eq rfl, .str_eq rfl, .int_eq rfl, .nils, trivial⟩⟩, trivial⟩⟩, v48.fBad, Option.some.inj h, rfl, rfl⟩
    · rintro _ _ ⟨b53, rfl, rfl, rfl⟩
      replace h := hk56
      refine .direct ?_
      refine ⟨rfl, _, fun _ => [.int .i64 4, .int .i64 0, .str [], .int .i64 v50, .nils], rfl, one_set rfl, ?_⟩
      obtain ⟨o64, ho65, hk66⟩ := bind_some h
      replace h := ho65
      refine .cut (fun σ η => ∃ s60, ∃ y61, ∃ b62, ∃ l63, .inl (s60, y61, b62, l63) = o64 ∧ σ = [(0, .optr 0 g1000 0 0), (4, .optr 1 0 0 0), (8, .optr 2 0 0 0)] ∧ η = [.row g1000 3 1 85 (fun _ => [.str s60, .int .i64 y61, .bool b62]), .row 0 5 1 26 (fun _ => [.int .i64 0, .int .i64 0, .str [], .int .i64 0, .nils]), .row 0 5 1 26 (fun _ => [.int .i64 4, .int .i64 0, .str [], .int .i64 v50, .own 3 0 0 l63.length]), .row 0 8 l63.length 34 (row TEntry.cells l63)]) ?_ ?_
      · refine .direct ?_
        have hL97 := hI98 _ _ _ _ _ _ _ _ _ h
        refine LoopAt.enter [(0, .optr 0 g1000 0 0), (1, .int .i64 a1), (4, .optr 1 0 0 0), (5, .int .i64 v44), (8, .optr 2 0 0 0), (9, .int .i64 0)] [.row g1000 3 1 85 (fun _ => [.str v48.fS, .int .i64 v48.fAt, .bool b53]), .row 0 5 1 26 (fun _ => [.int .i64 0, .int .i64 0, .str [], .int .i64 0, .nils]), .row 0 5 1 26 (fun _ => [.int .i64 4, .int .i64 0, .str [], .int .i64 v50, .own 3 0 0 ([] : List TEntry).length]), .row 0 8 ([] : List TEntry).length 34 (row TEntry.cells ([] : List TEntry))] ⟨[0, 1, 2, 6], by decide, (show 1 ≤ 4 by decide), ⟨.optr_eq rfl ⟨_, _, _, _, rfl⟩ ⟨_, _, _, _, rfl⟩ rfl rfl, .int_eq rfl, .optr_eq rfl ⟨_, _, _, _, rfl⟩ ⟨_, _, _, _, rfl⟩ rfl rfl, .int_eq rfl, .optr_eq rfl ⟨_, _, _, _, rfl⟩ ⟨_, _, _, _, rfl⟩ rfl rfl, .int_eq rfl, trivial⟩, ⟨⟨fun _ => ⟨rfl, rfl⟩, rfl, rfl, rfl, fun _ _ => ⟨.str_eq rfl, .int_eq rfl, .bool_eq rfl, trivial⟩⟩, ⟨fun h0 => absurd (show 1 < 1 from h0) (by decide), rfl, rfl, rfl, fun _ _ => ⟨.int_eq rfl, .int_eq rfl, .str_eq rfl, .int_eq rfl, .nils, trivial⟩⟩, ⟨fun h0 => absurd (show 2 < 1 from h0) (by decide), rfl, rfl, rfl, fun _ _ => ⟨.int_eq rfl, .int_eq rfl, .str_eq rfl, .int_eq rfl, (.nilo _ _ _ _ _ _ rfl rfl rfl), trivial⟩⟩, ⟨(show 1 ≤ 3 by decide), rfl⟩, trivial⟩⟩ ?_
        refine m_i_serialReaderarray_L2_ind (motive := fun p94 p95 p96 s67 y68 b69 l70 y71 o92 => a1 = p94 → v44 = p95 → v50 = p96 → o64 = o92 → LoopAt _ _ [(0, .optr 0 g1000 0 0), (1, .int .i64 a1), (4, .optr 1 0 0 0), (5, .int .i64 v44), (8, .optr 2 0 0 0), (9, .int .i64 y71)] [.row g1000 3 1 85 (fun _ => [.str s67, .int .i64 y68, .bool b69]), .row 0 5 1 26 (fun _ => [.int .i64 0, .int .i64 0, .str [], .int .i64 0, .nils]), .row 0 5 1 26 (fun _ => [.int .i64 4, .int .i64 0, .str [], .int .i64 v50, .own 3 0 0 l70.length]), .row 0 8 l70.length 34 (row TEntry.cells l70)]) ?_ a1 v44 v50 v48.fS v48.fAt b53 ([] : List TEntry) 0 o64 hL97 rfl rfl rfl rfl
        intro _ hG74 _ _ p94 p95 p96 s67 y68 b69 l70 y71 o92 h ih72  hp_p94 hp_p95 hp_p96 hr93
        subst hp_p94
        subst hp_p95
        subst hp_p96
        subst hr93
        refine LoopAt.round ?_
        refine .direct ?_
        refine .direct ?_
        refine splitB.mk (fun hb76 => ?_) (fun hb76 => ?_)
        · replace h := T_dec hb76 h
          refine splitB_t ?_
          refine ⟨rfl, ?_⟩
          refine splitB_t ?_
          refine ⟨rfl, ?_⟩
          refine splitB_t ?_
          refine ⟨rfl, _, rfl, ?_⟩
          refine splitB_t ?_
          refine splitB_t ?_
          refine splitB.mk (fun hb77 => ?_) (fun hb77 => ?_)
          · have hb91 := not_F hb77
            replace h := F_var hb91 h
            refine .direct ?_
            refine .direct ?_
            obtain ⟨⟨v78, v79⟩, hv80, h⟩ := bind_some h
            refine ⟨fun res h' => res = .agg [.int .i64 v78.fKind, .int .i64 v78.fNum, .str v78.fStr, .int .i64 v78.fNext, sl 8 TEntry.cells v78.fItems] ∧ h' = [.row g1000 3 1 85 (fun _ => [.str v79.fS, .int .i64 v79.fAt, .bool v79.fBad]), .row 0 5 1 26 (fun _ => [.int .i64 0, .int .i64 0, .str [], .int .i64 0, .nils]), .row 0 5 1 26 (fun _ => [.int .i64 4, .int .i64 0, .str [], .int .i64 v50, .own 3 0 0 l70.length]), .row 0 8 l70.length 34 (row TEntry.cells l70)], (ACall.over (hG74 _ _ _ hv80 _) [0] [.row g1000 3 1 85 (fun _ => [.str s67, .int .i64 y68, .bool b69]), .row 0 5 1 26 (fun _ => [.int .i64 0, .int .i64 0, .str [], .int .i64 0, .nils]), .row 0 5 1 26 (fun _ => [.int .i64 4, .int .i64 0, .str [], .int .i64 v50, .own 3 0 0 l70.length]), .row 0 8 l70.length 34 (row TEntry.cells l70)] rfl (by decide) (by simp) (by intro j o hj; exact match j, hj with | 0, hj => by cases hj; rfl | j + 1, hj => by cases hj) rfl).mono (by rintro _ _ ⟨_, _, ⟨rfl, rfl⟩, rfl, rfl⟩; exact ⟨rfl, rfl⟩), ?_⟩
            rintro _ _ ⟨rfl, rfl⟩
            obtain ⟨⟨v81, v82⟩, hv83, h⟩ := bind_some h
            refine ⟨_, ACall.pure0 (ok_i_KeyOf hv83) _ rfl (fun _ => rfl), ?_⟩
            rintro _ _ ⟨rfl, rfl⟩
            refine ⟨rfl, _, fun _ => [.bool v81.fText, .int .i64 v81.fNum, .str v81.fStr], rfl, one_set rfl, ?_⟩
            refine .direct ?_
            refine .direct ?_
            refine splitB.mk (fun hb84 => ?_) (fun hb84 => ?_)
            · have hb90 := not_F hb84
              replace h := F_var hb90 h
              refine .direct ?_
              refine ⟨rfl, ?_⟩
              refine ⟨rfl, ?_⟩
              refine ⟨rfl, _, fun _ => [.str v79.fS, .int .i64 v79.fAt, .bool true], rfl, one_set rfl, ?_⟩
              refine .direct ?_
              refine ⟨rfl, _, rfl, ?_⟩
              refine ⟨rfl, _, fun _ => [.int .i64 4, .int .i64 0, .str [], .int .i64 v50, .own 3 0 0 l70.length], rfl, one_set rfl, ?_⟩
              obtain rfl := Option.some.inj h
              replace h := hk66
              obtain rfl := Option.some.inj h
              refine ⟨rfl, _, rfl, ?_⟩
              exact ⟨[0], .agg [.int .i64 ((TValue.mk 4 0 [] v50 l70).fKind), .int .i64 ((TValue.mk 4 0 [] v50 l70).fNum), .str ((TValue.mk 4 0 [] v50 l70).fStr), .int .i64 ((TValue.mk 4 0 [] v50 l70).fNext), sl 8 TEntry.cells ((TValue.mk 4 0 [] v50 l70).fItems)], [.row g1000 3 1 85 (fun _ => [.str ((TSerialReader.mk v79.fS v79.fAt true).fS), .int .i64 ((TSerialReader.mk v79.fS v79.fAt true).fAt), .bool ((TSerialReader.mk v79.fS v79.fAt true).fBad)])], by decide, (show 1 ≤ 1 by decide), .agg_l ⟨.int_eq rfl, .int_eq rfl, .str_eq rfl, .int_eq rfl, (fz_frz TEntry.cells_pure (by first | decide | simp) rfl shows_all), trivial⟩, ⟨⟨fun _ => ⟨rfl, rfl⟩, rfl, rfl, rfl, fun _ _ => ⟨.str_eq rfl, .int_eq rfl, .bool_eq rfl, trivial⟩⟩, trivial⟩, rfl, rfl⟩
            · have hb90 := not_T hb84
              replace h := T_var hb90 h
              refine .direct ?_
              obtain ⟨⟨v85, v86⟩, hv87, h⟩ := bind_some h
              refine ⟨fun res h' => res = .agg [.int .i64 v85.fKind, .int .i64 v85.fNum, .str v85.fStr, .int .i64 v85.fNext, sl 8 TEntry.cells v85.fItems] ∧ h' = [.row g1000 3 1 85 (fun _ => [.str v86.fS, .int .i64 v86.fAt, .bool v86.fBad]), .row 0 5 1 26 (fun _ => [.int .i64 0, .int .i64 0, .str [], .int .i64 0, .nils]), .row 0 5 1 26 (fun _ => [.int .i64 4, .int .i64 0, .str [], .int .i64 v50, .own 3 0 0 l70.length]), .row 0 8 l70.length 34 (row TEntry.cells l70), .row 0 3 1 32 (fun _ => [.bool v81.fText, .int .i64 v81.fNum, .str v81.fStr])], (ACall.over (hG74 _ _ _ hv87 _) [0] [.row g1000 3 1 85 (fun _ => [.str v79.fS, .int .i64 v79.fAt, .bool v79.fBad]), .row 0 5 1 26 (fun _ => [.int .i64 0, .int .i64 0, .str [], .int .i64 0, .nils]), .row 0 5 1 26 (fun _ => [.int .i64 4, .int .i64 0, .str [], .int .i64 v50, .own 3 0 0 l70.length]), .row 0 8 l70.length 34 (row TEntry.cells l70), .row 0 3 1 32 (fun _ => [.bool v81.fText, .int .i64 v81.fNum, .str v81.fStr])] rfl (by decide) (by simp) (by intro j o hj; exact match j, hj with | 0, hj => by cases hj; rfl | j + 1, hj => by cases hj) rfl).mono (by rintro _ _ ⟨_, _, ⟨rfl, rfl⟩, rfl, rfl⟩; exact ⟨rfl, rfl⟩), ?_⟩
              rintro _ _ ⟨rfl, rfl⟩
              refine ⟨rfl, _, fun _ => [.int .i64 v85.fKind, .int .i64 v85.fNum, .str v85.fStr, .int .i64 v85.fNext, sl 8 TEntry.cells v85.fItems], rfl, one_set rfl, ?_⟩
              refine ⟨rfl, ?_⟩
              refine ⟨rfl, _, rfl, ?_⟩
              refine ⟨rfl, _, rfl, ?_⟩
              refine ⟨rfl, _, rfl, ?_⟩
              refine ⟨row TEntry.cells ([(TEntry.mk v81 v85)] : List TEntry), row_lit TEntry.cells ([(TEntry.mk v81 v85)] : List TEntry) rfl (cll_cons (TEntry.cells_eq _) ⟨.same _, .same _, .same _, .same _, .same _, .same _, .same _, .same _, trivial⟩ trivial), ?_⟩
              obtain ⟨l88, hx89, h⟩ := bind_some h
              refine ⟨rfl, rfl, lapp_bd hx89, l88.length, row TEntry.cells l88, lapp_len hx89, lapp_row hx89 shows_all (src_own shows_all), ?_⟩
              refine ⟨rfl, ?_⟩
              refine ⟨rfl, _, fun _ => [.int .i64 4, .int .i64 0, .str [], .int .i64 v50, .own 3 (0 + 1) 0 l88.length], rfl, one_set rfl, ?_⟩
              exact ⟨[(0, .optr 0 g1000 0 0), (1, .int .i64 a1), (4, .optr 1 0 0 0), (5, .int .i64 v44), (8, .optr 2 0 0 0), (9, .int .i64 (W64 (y71 + 1)))], [.row g1000 3 1 85 (fun _ => [.str v86.fS, .int .i64 v86.fAt, .bool v86.fBad]), .row 0 5 1 26 (fun _ => [.int .i64 0, .int .i64 0, .str [], .int .i64 0, .nils]), .row 0 5 1 26 (fun _ => [.int .i64 4, .int .i64 0, .str [], .int .i64 v50, .own 3 0 0 l88.length]), .row 0 8 l88.length 34 (row TEntry.cells l88)], ⟨[0, 1, 2, 3], by decide, (show 1 ≤ 4 by decide), ⟨.optr_eq rfl ⟨_, _, _, _, rfl⟩ ⟨_, _, _, _, rfl⟩ rfl rfl, .int_eq rfl, .optr_eq rfl ⟨_, _, _, _, rfl⟩ ⟨_, _, _, _, rfl⟩ rfl rfl, .int_eq rfl, .optr_eq rfl ⟨_, _, _, _, rfl⟩ ⟨_, _, _, _, rfl⟩ rfl rfl, .int_eq rfl, trivial⟩, ⟨⟨fun _ => ⟨rfl, rfl⟩, rfl, rfl, rfl, fun _ _ => ⟨.str_eq rfl, .int_eq rfl, .bool_eq rfl, trivial⟩⟩, ⟨fun h0 => absurd (show 1 < 1 from h0) (by decide), rfl, rfl, rfl, fun _ _ => ⟨.int_eq rfl, .int_eq rfl, .str_eq rfl, .int_eq rfl, .nils, trivial⟩⟩, ⟨fun h0 => absurd (show 2 < 1 from h0) (by decide), rfl, rfl, rfl, fun _ _ => ⟨.int_eq rfl, .int_eq rfl, .str_eq rfl, .int_eq rfl, .own_eq rfl ⟨_, _, _, _, rfl⟩ ⟨_, _, _, _, rfl⟩ rfl rfl, trivial⟩⟩, ⟨fun h0 => absurd (show 3 < 1 from h0) (by decide), rfl, rfl, rfl, fz_row TEntry.cells_pure⟩, trivial⟩⟩, ih72 _ _ _ _ _ _ _ _ _ h rfl rfl rfl rfl⟩
          · have hb91 := not_T hb77
            replace h := T_var hb91 h
            exact ⟨[(0, .optr 0 g1000 0 0), (4, .optr 1 0 0 0), (8, .optr 2 0 0 0)], [.row g1000 3 1 85 (fun _ => [.str s67, .int .i64 y68, .bool b69]), .row 0 5 1 26 (fun _ => [.int .i64 0, .int .i64 0, .str [], .int .i64 0, .nils]), .row 0 5 1 26 (fun _ => [.int .i64 4, .int .i64 0, .str [], .int .i64 v50, .own 3 0 0 l70.length]), .row 0 8 l70.length 34 (row TEntry.cells l70)], ⟨[0, 1, 2, 3], by decide, (show 1 ≤ 4 by decide), ⟨.optr_eq rfl ⟨_, _, _, _, rfl⟩ ⟨_, _, _, _, rfl⟩ rfl rfl, .optr_eq rfl ⟨_, _, _, _, rfl⟩ ⟨_, _, _, _, rfl⟩ rfl rfl, .optr_eq rfl ⟨_, _, _, _, rfl⟩ ⟨_, _, _, _, rfl⟩ rfl rfl, trivial⟩, ⟨⟨fun _ => ⟨rfl, rfl⟩, rfl, rfl, rfl, fun _ _ => ⟨.str_eq rfl, .int_eq rfl, .bool_eq rfl, trivial⟩⟩, ⟨fun h0 => absurd (show 1 < 1 from h0) (by decide), rfl, rfl, rfl, fun _ _ => ⟨.int_eq rfl, .int_eq rfl, .str_eq rfl, .int_eq rfl, .nils, trivial⟩⟩, ⟨fun h0 => absurd (show 2 < 1 from h0) (by decide), rfl, rfl, rfl, fun _ _ => ⟨.int_eq rfl, .int_eq rfl, .str_eq rfl, .int_eq rfl, .own_eq rfl ⟨_, _, _, _, rfl⟩ ⟨_, _, _, _, rfl⟩ rfl rfl, trivial⟩⟩, ⟨fun h0 => absurd (show 3 < 1 from h0) (by decide), rfl, rfl, rfl, fz_row TEntry.cells_pure⟩, trivial⟩⟩, s67, y68, b69, l70, Option.some.inj h, rfl, rfl⟩
        · replace h := F_dec hb76 h
          refine splitB_f ?_
          refine splitB_f ?_
          refine splitB_f ?_
          refine splitB_f ?_
          refine splitB_f ?_
          refine splitB_f ?_
          exact ⟨[(0, .optr 0 g1000 0 0), (4, .optr 1 0 0 0), (8, .optr 2 0 0 0)], [.row g1000 3 1 85 (fun _ => [.str s67, .int .i64 y68, .bool b69]), .row 0 5 1 26 (fun _ => [.int .i64 0, .int .i64 0, .str [], .int .i64 0, .nils]), .row 0 5 1 26 (fun _ => [.int .i64 4, .int .i64 0, .str [], .int .i64 v50, .own 3 0 0 l70.length]), .row 0 8 l70.length 34 (row TEntry.cells l70)], ⟨[0, 1, 2, 3], by decide, (show 1 ≤ 4 by decide), ⟨.optr_eq rfl ⟨_, _, _, _, rfl⟩ ⟨_, _, _, _, rfl⟩ rfl rfl, .optr_eq rfl ⟨_, _, _, _, rfl⟩ ⟨_, _, _, _, rfl⟩ rfl rfl, .optr_eq rfl ⟨_, _, _, _, rfl⟩ ⟨_, _, _, _, rfl⟩ rfl rfl, trivial⟩, ⟨⟨fun _ => ⟨rfl, rfl⟩, rfl, rfl, rfl, fun _ _ => ⟨.str_eq rfl, .int_eq rfl, .bool_eq rfl, trivial⟩⟩, ⟨fun h0 => absurd (show 1 < 1 from h0) (by decide), rfl, rfl, rfl, fun _ _ => ⟨.int_eq rfl, .int_eq rfl, .str_eq rfl, .int_eq rfl, .nils, trivial⟩⟩, ⟨fun h0 => absurd (show 2 < 1 from h0) (by decide), rfl, rfl, rfl, fun _ _ => ⟨.int_eq rfl, .int_eq rfl, .str_eq rfl, .int_eq rfl, .own_eq rfl ⟨_, _, _, _, rfl⟩ ⟨_, _, _, _, rfl⟩ rfl rfl, trivial⟩⟩, ⟨fun h0 => absurd (show 3 < 1 from h0) (by decide), rfl, rfl, rfl, fz_row TEntry.cells_pure⟩, trivial⟩⟩, s67, y68, b69, l70, Option.some.inj h, rfl, rfl⟩
      · rintro _ _ ⟨s60, y61, b62, l63, rfl, rfl, rfl⟩
        replace h := hk66
        refine .direct ?_
        refine .direct ?_
        refine ⟨rfl, ?_⟩
        refine ⟨rfl, ?_⟩
        refine ⟨rfl, _, rfl, ?_⟩
        refine splitB.mk (fun hb99 => ?_) (fun hb99 => ?_)
        · have hb102 := not_F hb99
          replace h := F_var hb102 h
          obtain ⟨v100, hv101, h⟩ := bind_some h
          refine ⟨fun res h' => res = .tup [] ∧ h' = [.row g1000 3 1 85 (fun _ => [.str v100.fS, .int .i64 v100.fAt, .bool v100.fBad]), .row 0 5 1 26 (fun _ => [.int .i64 0, .int .i64 0, .str [], .int .i64 0, .nils]), .row 0 5 1 26 (fun _ => [.int .i64 4, .int .i64 0, .str [], .int .i64 v50, .own 3 0 0 l63.length]), .row 0 8 l63.length 34 (row TEntry.cells l63)], (ACall.over (ok_i_serialReadereat (g1000 := g1000) hv101) [0] [.row g1000 3 1 85 (fun _ => [.str s60, .int .i64 y61, .bool b62]), .row 0 5 1 26 (fun _ => [.int .i64 0, .int .i64 0, .str [], .int .i64 0, .nils]), .row 0 5 1 26 (fun _ => [.int .i64 4, .int .i64 0, .str [], .int .i64 v50, .own 3 0 0 l63.length]), .row 0 8 l63.length 34 (row TEntry.cells l63)] rfl (by decide) (by simp) (by intro j o hj; exact match j, hj with | 0, hj => by cases hj; rfl | j + 1, hj => by cases hj) rfl).mono (by rintro _ _ ⟨_, _, ⟨rfl, rfl⟩, rfl, rfl⟩; exact ⟨rfl, rfl⟩), ?_⟩
          rintro _ _ ⟨rfl, rfl⟩
          refine .direct ?_
          refine ⟨rfl, _, rfl, ?_⟩
          refine ⟨rfl, _, fun _ => [.int .i64 4, .int .i64 0, .str [], .int .i64 v50, .own 3 0 0 l63.length], rfl, one_set rfl, ?_⟩
          obtain rfl := Option.some.inj h
          refine ⟨rfl, _, rfl, ?_⟩
          exact ⟨[0], .agg [.int .i64 ((TValue.mk 4 0 [] v50 l63).fKind), .int .i64 ((TValue.mk 4 0 [] v50 l63).fNum), .str ((TValue.mk 4 0 [] v50 l63).fStr), .int .i64 ((TValue.mk 4 0 [] v50 l63).fNext), sl 8 TEntry.cells ((TValue.mk 4 0 [] v50 l63).fItems)], [.row g1000 3 1 85 (fun _ => [.str v100.fS, .int .i64 v100.fAt, .bool v100.fBad])], by decide, (show 1 ≤ 1 by decide), .agg_l ⟨.int_eq rfl, .int_eq rfl, .str_eq rfl, .int_eq rfl, (fz_frz TEntry.cells_pure (by first | decide | simp) rfl shows_all), trivial⟩, ⟨⟨fun _ => ⟨rfl, rfl⟩, rfl, rfl, rfl, fun _ _ => ⟨.str_eq rfl, .int_eq rfl, .bool_eq rfl, trivial⟩⟩, trivial⟩, rfl, rfl⟩
        · have hb102 := not_T hb99
          replace h := T_var hb102 h
          refine .direct ?_
          refine ⟨rfl, _, rfl, ?_⟩
          refine ⟨rfl, _, fun _ => [.int .i64 4, .int .i64 0, .str [], .int .i64 v50, .own 3 0 0 l63.length], rfl, one_set rfl, ?_⟩
          obtain rfl := Option.some.inj h
          refine ⟨rfl, _, rfl, ?_⟩
          exact ⟨[0], .agg [.int .i64 ((TValue.mk 4 0 [] v50 l63).fKind), .int .i64 ((TValue.mk 4 0 [] v50 l63).fNum), .str ((TValue.mk 4 0 [] v50 l63).fStr), .int .i64 ((TValue.mk 4 0 [] v50 l63).fNext), sl 8 TEntry.cells ((TValue.mk 4 0 [] v50 l63).fItems)], [.row g1000 3 1 85 (fun _ => [.str ((TSerialReader.mk s60 y61 b62).fS), .int .i64 ((TSerialReader.mk s60 y61 b62).fAt), .bool ((TSerialReader.mk s60 y61 b62).fBad)])], by decide, (show 1 ≤ 1 by decide), .agg_l ⟨.int_eq rfl, .int_eq rfl, .str_eq rfl, .int_eq rfl, (fz_frz TEntry.cells_pure (by first | decide | simp) rfl shows_all), trivial⟩, ⟨⟨fun _ => ⟨rfl, rfl⟩, rfl, rfl, rfl, fun _ _ => ⟨.str_eq rfl, .int_eq rfl, .bool_eq rfl, trivial⟩⟩, trivial⟩, rfl, rfl⟩
  · intro F0 F1 hF0 hF1 a1 v44 v50 s67 y68 b69 l70 y71 o h
    exact .mk F0 hF0 F1 hF1 a1 v44 v50 s67 y68 b69 l70 y71 o h
theorem ok_i_serialReadervalue {a0 : TSerialReader} {a1 : Int} {r : TValue × TSerialReader} {g1000 : Nat} (h : m_i_serialReadervalue a0 a1 = some r) : ACall Tryd.prog 61 [.optr 0 g1000 0 0, .int .i64 a1] [.row g1000 3 1 85 (fun _ => [.str a0.fS, .int .i64 a0.fAt, .bool a0.fBad])] (fun res h => res = .agg [.int .i64 r.1.fKind, .int .i64 r.1.fNum, .str r.1.fStr, .int .i64 r.1.fNext, sl 8 TEntry.cells r.1.fItems] ∧ h = [.row g1000 3 1 85 (fun _ => [.str r.2.fS, .int .i64 r.2.fAt, .bool r.2.fBad])]) := grp__i_serialReadervalue.1 a0 a1 r h g1000
theorem ok_i_serialReaderarray {a0 : TSerialReader} {a1 : Int} {r : TValue × TSerialReader} {g1000 : Nat} (h : m_i_serialReaderarray a0 a1 = some r) : ACall Tryd.prog 96 [.optr 0 g1000 0 0, .int .i64 a1] [.row g1000 3 1 85 (fun _ => [.str a0.fS, .int .i64 a0.fAt, .bool a0.fBad])] (fun res h => res = .agg [.int .i64 r.1.fKind, .int .i64 r.1.fNum, .str r.1.fStr, .int .i64 r.1.fNext, sl 8 TEntry.cells r.1.fItems] ∧ h = [.row g1000 3 1 85 (fun _ => [.str r.2.fS, .int .i64 r.2.fAt, .bool r.2.fBad])]) := grp__i_serialReadervalue.2.1 a0 a1 r h g1000
def m_i_Unserialize (a0 : Str) : Option (TValue × Bool) :=
  m_i_serialReadervalue (TSerialReader.mk a0 0 false) 0 >>= fun (v1, v2) =>
  (if v2.fBad = true then
    some ((TValue.mk 0 0 [] 0 []), false)
  else
    (if v2.fAt = (a0.length : Int) then
      m_i_Serialize v1 >>= fun (v6, v7) =>
      (if v7 = true then
        (if v6 = a0 then
          some (v1, true)
        else
          some ((TValue.mk 0 0 [] 0 []), false))
      else
        some ((TValue.mk 0 0 [] 0 []), false))
    else
      some ((TValue.mk 0 0 [] 0 []), false)))
theorem ok_i_Unserialize {a0 : Str} {r : TValue × Bool} (h : m_i_Unserialize a0 = some r) : ACall Tryd.prog 25 [.str a0] [] (fun res h => res = .tup [.agg [.int .i64 r.1.fKind, .int .i64 r.1.fNum, .str r.1.fStr, .int .i64 r.1.fNext, sl 8 TEntry.cells r.1.fItems], .bool r.2] ∧ h = []) := by
  refine ACall.of_vc tabT_ok mixed Tryd.func25 rfl (by kernel_rfl) _ _ _ rfl (by kernel_rfl) ?_
  unfold m_i_Unserialize at h
  refine .direct ?_
  refine .direct ?_
  refine ⟨rfl, _, fun _ => [.str a0, .int .i64 0, .bool false], rfl, one_set rfl, ?_⟩
  refine .direct ?_
  obtain ⟨⟨v1, v2⟩, hv3, h⟩ := bind_some h
  refine ⟨fun res h' => res = .agg [.int .i64 v1.fKind, .int .i64 v1.fNum, .str v1.fStr, .int .i64 v1.fNext, sl 8 TEntry.cells v1.fItems] ∧ h' = [.row 0 5 1 26 (fun _ => [.int .i64 0, .int .i64 0, .str [], .int .i64 0, .nils]), .row 0 3 1 85 (fun _ => [.str v2.fS, .int .i64 v2.fAt, .bool v2.fBad])], (ACall.over (ok_i_serialReadervalue (g1000 := 0) hv3) [1] [.row 0 5 1 26 (fun _ => [.int .i64 0, .int .i64 0, .str [], .int .i64 0, .nils]), .row 0 3 1 85 (fun _ => [.str a0, .int .i64 0, .bool false])] rfl (by decide) (by simp) (by intro j o hj; exact match j, hj with | 0, hj => by cases hj; rfl | j + 1, hj => by cases hj) rfl).mono (by rintro _ _ ⟨_, _, ⟨rfl, rfl⟩, rfl, rfl⟩; exact ⟨rfl, rfl⟩), ?_⟩
  rintro _ _ ⟨rfl, rfl⟩
  refine ⟨rfl, _, fun _ => [.int .i64 v1.fKind, .int .i64 v1.fNum, .str v1.fStr, .int .i64 v1.fNext, sl 8 TEntry.cells v1.fItems], rfl, one_set rfl, ?_⟩
  refine .direct ?_
  refine .direct ?_
  refine ⟨rfl, ?_⟩
  refine ⟨rfl, _, rfl, ?_⟩
  refine splitB.mk (fun hb4 => ?_) (fun hb4 => ?_)
  · replace h := T_var hb4 h
    refine splitB_t ?_
    refine splitB_t ?_
    refine splitB_t ?_
    refine splitB_t ?_
    refine splitB_t ?_
    refine splitB_t ?_
    refine .direct ?_
    refine ⟨_, ACall.pure0 (ok_i_NullValuex) _ rfl (fun _ => rfl), ?_⟩
    rintro _ _ ⟨rfl, rfl⟩
    refine ⟨rfl, _, fun _ => [.int .i64 0, .int .i64 0, .str [], .int .i64 0, .nils], rfl, one_set rfl, ?_⟩
    obtain rfl := Option.some.inj h
    refine ⟨rfl, _, rfl, ?_⟩
    exact ⟨[], .tup [.agg [.int .i64 ((TValue.mk 0 0 [] 0 []).fKind), .int .i64 ((TValue.mk 0 0 [] 0 []).fNum), .str ((TValue.mk 0 0 [] 0 []).fStr), .int .i64 ((TValue.mk 0 0 [] 0 []).fNext), sl 8 TEntry.cells ((TValue.mk 0 0 [] 0 []).fItems)], .bool false], [], by decide, (show 0 ≤ 0 by decide), .tup_l ⟨.agg_l ⟨.int_eq rfl, .int_eq rfl, .str_eq rfl, .int_eq rfl, fz_nils, trivial⟩, .bool_eq rfl, trivial⟩, trivial, rfl, rfl⟩
  · replace h := F_var hb4 h
    refine ⟨rfl, ?_⟩
    refine splitB_f ?_
    refine ⟨rfl, _, rfl, ?_⟩
    refine splitB_f ?_
    refine splitB_f ?_
    refine splitB_f ?_
    refine splitB_f ?_
    refine splitB.mk (fun hb5 => ?_) (fun hb5 => ?_)
    · replace h := T_bne hb5 h
      refine .direct ?_
      refine ⟨_, ACall.pure0 (ok_i_NullValuex) _ rfl (fun _ => rfl), ?_⟩
      rintro _ _ ⟨rfl, rfl⟩
      refine ⟨rfl, _, fun _ => [.int .i64 0, .int .i64 0, .str [], .int .i64 0, .nils], rfl, one_set rfl, ?_⟩
      obtain rfl := Option.some.inj h
      refine ⟨rfl, _, rfl, ?_⟩
      exact ⟨[], .tup [.agg [.int .i64 ((TValue.mk 0 0 [] 0 []).fKind), .int .i64 ((TValue.mk 0 0 [] 0 []).fNum), .str ((TValue.mk 0 0 [] 0 []).fStr), .int .i64 ((TValue.mk 0 0 [] 0 []).fNext), sl 8 TEntry.cells ((TValue.mk 0 0 [] 0 []).fItems)], .bool false], [], by decide, (show 0 ≤ 0 by decide), .tup_l ⟨.agg_l ⟨.int_eq rfl, .int_eq rfl, .str_eq rfl, .int_eq rfl, fz_nils, trivial⟩, .bool_eq rfl, trivial⟩, trivial, rfl, rfl⟩
    · replace h := F_bne hb5 h
      refine .direct ?_
      refine ⟨rfl, _, rfl, ?_⟩
      obtain ⟨⟨v6, v7⟩, hv8, h⟩ := bind_some h
      refine ⟨_, ACall.pure0 (ok_i_Serialize hv8) _ rfl (fun _ => rfl), ?_⟩
      rintro _ _ ⟨rfl, rfl⟩
      refine .direct ?_
      refine .direct ?_
      refine splitB.mk (fun hb9 => ?_) (fun hb9 => ?_)
      · have hb12 := not_F hb9
        replace h := F_var hb12 h
        refine splitB_t ?_
        refine splitB_t ?_
        refine splitB_t ?_
        refine splitB_t ?_
        refine .direct ?_
        refine ⟨_, ACall.pure0 (ok_i_NullValuex) _ rfl (fun _ => rfl), ?_⟩
        rintro _ _ ⟨rfl, rfl⟩
        refine ⟨rfl, _, fun _ => [.int .i64 0, .int .i64 0, .str [], .int .i64 0, .nils], rfl, one_set rfl, ?_⟩
        obtain rfl := Option.some.inj h
        refine ⟨rfl, _, rfl, ?_⟩
        exact ⟨[], .tup [.agg [.int .i64 ((TValue.mk 0 0 [] 0 []).fKind), .int .i64 ((TValue.mk 0 0 [] 0 []).fNum), .str ((TValue.mk 0 0 [] 0 []).fStr), .int .i64 ((TValue.mk 0 0 [] 0 []).fNext), sl 8 TEntry.cells ((TValue.mk 0 0 [] 0 []).fItems)], .bool false], [], by decide, (show 0 ≤ 0 by decide), .tup_l ⟨.agg_l ⟨.int_eq rfl, .int_eq rfl, .str_eq rfl, .int_eq rfl, fz_nils, trivial⟩, .bool_eq rfl, trivial⟩, trivial, rfl, rfl⟩
      · have hb12 := not_T hb9
        replace h := T_var hb12 h
        refine splitB_f ?_
        refine splitB_f ?_
        refine splitB_f ?_
        refine splitB.mk (fun hb10 => ?_) (fun hb10 => ?_)
        · have hb11 := not_F hb10
          replace h := F_beq hb11 h
          refine .direct ?_
          refine ⟨_, ACall.pure0 (ok_i_NullValuex) _ rfl (fun _ => rfl), ?_⟩
          rintro _ _ ⟨rfl, rfl⟩
          refine ⟨rfl, _, fun _ => [.int .i64 0, .int .i64 0, .str [], .int .i64 0, .nils], rfl, one_set rfl, ?_⟩
          obtain rfl := Option.some.inj h
          refine ⟨rfl, _, rfl, ?_⟩
          exact ⟨[], .tup [.agg [.int .i64 ((TValue.mk 0 0 [] 0 []).fKind), .int .i64 ((TValue.mk 0 0 [] 0 []).fNum), .str ((TValue.mk 0 0 [] 0 []).fStr), .int .i64 ((TValue.mk 0 0 [] 0 []).fNext), sl 8 TEntry.cells ((TValue.mk 0 0 [] 0 []).fItems)], .bool false], [], by decide, (show 0 ≤ 0 by decide), .tup_l ⟨.agg_l ⟨.int_eq rfl, .int_eq rfl, .str_eq rfl, .int_eq rfl, fz_nils, trivial⟩, .bool_eq rfl, trivial⟩, trivial, rfl, rfl⟩
        · have hb11 := not_T hb10
          replace h := T_beq hb11 h
          refine .direct ?_
          refine ⟨rfl, _, rfl, ?_⟩
          refine ⟨rfl, _, fun _ => [.int .i64 v1.fKind, .int .i64 v1.fNum, .str v1.fStr, .int .i64 v1.fNext, sl 8 TEntry.cells v1.fItems], rfl, one_set rfl, ?_⟩
          obtain rfl := Option.some.inj h
          refine ⟨rfl, _, rfl, ?_⟩
          exact ⟨[], .tup [.agg [.int .i64 v1.fKind, .int .i64 v1.fNum, .str v1.fStr, .int .i64 v1.fNext, sl 8 TEntry.cells v1.fItems], .bool true], [], by decide, (show 0 ≤ 0 by decide), .tup_l ⟨.agg_l ⟨.int_eq rfl, .int_eq rfl, .str_eq rfl, .int_eq rfl, .slc_eq rfl (fun _ _ => rfl), trivial⟩, .bool_eq rfl, trivial⟩, trivial, rfl, rfl⟩
end Go.Am
