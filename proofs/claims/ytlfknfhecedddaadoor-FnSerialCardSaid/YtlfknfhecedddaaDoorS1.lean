/- Models of Go functions, and their walks. (Printed by tools/mg.py.) -/
import Derived.Test.YtlfknfhecedddaaDoorF4
import Derived.Test.YtlfknfhecedddaaDoorU1
set_option linter.unusedVariables false
set_option linter.unusedSimpArgs false
namespace Go.Am
open Go Go.RowKit Go.Proofs

mutual
def m_s_IsPlain (a0 : TValue) : Option (Bool) :=
  (if a0.fKind = 4 then
    ((
      m_s_IsPlain_L2 a0 0
     : Option ((Unit) ⊕ Bool)) >>= fun o4 => match o4 with
      | .inr r => some r
      | .inl _ =>
        some true
    )
  else
    m53 a0.fKind 0 3 >>= fun v2 =>
    some v2)
partial_fixpoint
def m_s_IsPlain_L2 (a0 : TValue) (y7 : Int) : Option ((Unit) ⊕ Bool) :=
  (if y7 < (a0.fItems.length : Int) then
    idx a0.fItems y7 >>= fun x12 =>
    m_s_IsPlain x12.fVal >>= fun v14 =>
    (if v14 = true then
      m_s_IsPlain_L2 a0 (W64 (y7 + 1))
    else
      some (.inr false))
  else
    some (.inl ()))
partial_fixpoint
end
def okS26 (a0 : TValue) (r : Bool) : Prop := ACall Tryd.prog 26 [.agg [.int .i64 a0.fKind, .int .i64 a0.fNum, .str a0.fStr, .int .i64 a0.fNext, sl 8 TEntry.cells a0.fItems]] [] (fun res h => res = .bool r ∧ h = [])
inductive m_s_IsPlain_L2_I : TValue → Int → ((Unit) ⊕ Bool) → Prop
  | mk (G26 : TValue → Option (Bool)) (hG26 : ∀ a0 r, G26 a0 = some r → okS26 a0 r) (F_m_s_IsPlain_L2 : TValue → Int → Option ((Unit) ⊕ Bool)) (hF_m_s_IsPlain_L2 : ∀ a0 y7 o, F_m_s_IsPlain_L2 a0 y7 = some o → m_s_IsPlain_L2_I a0 y7 o) (a0 : TValue) (y7 : Int) (o : (Unit) ⊕ Bool) (h : (
      (if y7 < (a0.fItems.length : Int) then
        idx a0.fItems y7 >>= fun x12 =>
        G26 x12.fVal >>= fun v14 =>
        (if v14 = true then
          F_m_s_IsPlain_L2 a0 (W64 (y7 + 1))
        else
          some (.inr false))
      else
        some (.inl ()))
    ) = some o) : m_s_IsPlain_L2_I a0 y7 o
theorem m_s_IsPlain_L2_ind {motive : TValue → Int → ((Unit) ⊕ Bool) → Prop} (step : ∀ (G26 : TValue → Option (Bool)) (hG26 : ∀ a0 r, G26 a0 = some r → okS26 a0 r) (F_m_s_IsPlain_L2 : TValue → Int → Option ((Unit) ⊕ Bool)) (hF_m_s_IsPlain_L2 : ∀ a0 y7 o, F_m_s_IsPlain_L2 a0 y7 = some o → m_s_IsPlain_L2_I a0 y7 o) (a0 : TValue) (y7 : Int) (o : (Unit) ⊕ Bool) (h : (
      (if y7 < (a0.fItems.length : Int) then
        idx a0.fItems y7 >>= fun x12 =>
        G26 x12.fVal >>= fun v14 =>
        (if v14 = true then
          F_m_s_IsPlain_L2 a0 (W64 (y7 + 1))
        else
          some (.inr false))
      else
        some (.inl ()))
    ) = some o) (ih : ∀ a0 y7 o, F_m_s_IsPlain_L2 a0 y7 = some o → motive a0 y7 o), motive a0 y7 o) : ∀ a0 y7 o, m_s_IsPlain_L2_I a0 y7 o → motive a0 y7 o :=
  fun a0 y7 o h => m_s_IsPlain_L2_I.rec (motive := fun a0 y7 o _ => motive a0 y7 o) step h
theorem grp__s_IsPlain : (∀ a0 r, m_s_IsPlain a0 = some r → okS26 a0 r) ∧ (∀ a0 y7 o, m_s_IsPlain_L2 a0 y7 = some o → m_s_IsPlain_L2_I a0 y7 o) := by
  refine m_s_IsPlain.mutual_partial_correctness okS26 m_s_IsPlain_L2_I ?_ ?_
  · intro _ hI22 a0 r h
    refine ACall.of_vc tabT_ok mixed Tryd.func26 rfl (by kernel_rfl) _ _ _ rfl (by kernel_rfl) ?_
    refine .direct ?_
    refine .direct ?_
    refine .direct ?_
    refine ⟨rfl, ?_⟩
    refine ⟨rfl, _, rfl, ?_⟩
    refine splitB.mk (fun hb1 => ?_) (fun hb1 => ?_)
    · replace h := T_bne hb1 h
      refine .direct ?_
      refine ⟨rfl, ?_⟩
      refine ⟨rfl, _, rfl, ?_⟩
      obtain ⟨v2, hv3, h⟩ := bind_some h
      refine ⟨_, ACall.pure0 (ok53 hv3) _ rfl (fun _ => rfl), ?_⟩
      rintro _ _ ⟨rfl, rfl⟩
      obtain rfl := Option.some.inj h
      exact ⟨[], .bool v2, [], by decide, (show 0 ≤ 0 by decide), .bool_eq rfl, trivial, rfl, rfl⟩
    · replace h := F_bne hb1 h
      obtain ⟨o4, ho5, hk6⟩ := bind_some h
      replace h := ho5
      refine .cut (fun σ η => .inl () = o4 ∧ σ = [] ∧ η = []) ?_ ?_
      · refine .direct ?_
        have hL21 := hI22 _ _ _ h
        refine LoopAt.enter [(1, .optr 0 0 0 0), (3, .int .i64 0)] [.row 0 5 1 26 (fun _ => [.int .i64 a0.fKind, .int .i64 a0.fNum, .str a0.fStr, .int .i64 a0.fNext, sl 8 TEntry.cells a0.fItems])] ⟨[0], by decide, (show 0 ≤ 1 by decide), ⟨.optr_eq rfl ⟨_, _, _, _, rfl⟩ ⟨_, _, _, _, rfl⟩ rfl rfl, .int_eq rfl, trivial⟩, ⟨⟨fun h0 => absurd (show 0 < 0 from h0) (by decide), rfl, rfl, rfl, fun _ _ => ⟨.int_eq rfl, .int_eq rfl, .str_eq rfl, .int_eq rfl, .slc_eq rfl (fun _ _ => rfl), trivial⟩⟩, trivial⟩⟩ ?_
        refine m_s_IsPlain_L2_ind (motive := fun p20 y7 o18 => a0 = p20 → o4 = o18 → LoopAt _ _ [(1, .optr 0 0 0 0), (3, .int .i64 y7)] [.row 0 5 1 26 (fun _ => [.int .i64 a0.fKind, .int .i64 a0.fNum, .str a0.fStr, .int .i64 a0.fNext, sl 8 TEntry.cells a0.fItems])]) ?_ a0 0 o4 hL21 rfl rfl
        intro _ hG10 _ _ p20 y7 o18 h ih8  hp_p20 hr19
        subst hp_p20
        subst hr19
        refine LoopAt.round ?_
        refine .direct ?_
        refine .direct ?_
        refine ⟨rfl, ?_⟩
        refine ⟨rfl, _, rfl, ?_⟩
        refine splitB.mk (fun hb11 => ?_) (fun hb11 => ?_)
        · replace h := T_dec hb11 h
          refine .direct ?_
          refine .direct ?_
          refine ⟨rfl, ?_⟩
          refine ⟨rfl, _, rfl, ?_⟩
          obtain ⟨x12, hx13, h⟩ := bind_some h
          refine ⟨idx_bd hx13, _, (idx_row hx13).trans (TEntry.cells_eq x12), ?_⟩
          obtain ⟨v14, hv15, h⟩ := bind_some h
          refine ⟨_, ACall.pure0 (hG10 _ _ hv15) _ rfl (fun _ => rfl), ?_⟩
          rintro _ _ ⟨rfl, rfl⟩
          refine splitB.mk (fun hb16 => ?_) (fun hb16 => ?_)
          · have hb17 := not_F hb16
            replace h := F_var hb17 h
            refine .direct ?_
            obtain rfl := Option.some.inj h
            replace h := hk6
            obtain rfl := Option.some.inj h
            exact ⟨[], .bool false, [], by decide, (show 0 ≤ 0 by decide), .bool_eq rfl, trivial, rfl, rfl⟩
          · have hb17 := not_T hb16
            replace h := T_var hb17 h
            exact ⟨[(1, .optr 0 0 0 0), (3, .int .i64 (W64 (y7 + 1)))], [.row 0 5 1 26 (fun _ => [.int .i64 a0.fKind, .int .i64 a0.fNum, .str a0.fStr, .int .i64 a0.fNext, sl 8 TEntry.cells a0.fItems])], ⟨[0], by decide, (show 0 ≤ 1 by decide), ⟨.optr_eq rfl ⟨_, _, _, _, rfl⟩ ⟨_, _, _, _, rfl⟩ rfl rfl, .int_eq rfl, trivial⟩, ⟨⟨fun h0 => absurd (show 0 < 0 from h0) (by decide), rfl, rfl, rfl, fun _ _ => ⟨.int_eq rfl, .int_eq rfl, .str_eq rfl, .int_eq rfl, .slc_eq rfl (fun _ _ => rfl), trivial⟩⟩, trivial⟩⟩, ih8 _ _ _ h rfl rfl⟩
        · replace h := F_dec hb11 h
          exact ⟨[], [], ⟨[], by decide, (show 0 ≤ 0 by decide), trivial, trivial⟩, Option.some.inj h, rfl, rfl⟩
      · rintro _ _ ⟨rfl, rfl, rfl⟩
        replace h := hk6
        refine .direct ?_
        obtain rfl := Option.some.inj h
        exact ⟨[], .bool true, [], by decide, (show 0 ≤ 0 by decide), .bool_eq rfl, trivial, rfl, rfl⟩
  · intro F0 F1 hF0 hF1 a0 y7 o h
    exact .mk F0 hF0 F1 hF1 a0 y7 o h
theorem ok_s_IsPlain {a0 : TValue} {r : Bool} (h : m_s_IsPlain a0 = some r) : ACall Tryd.prog 26 [.agg [.int .i64 a0.fKind, .int .i64 a0.fNum, .str a0.fStr, .int .i64 a0.fNext, sl 8 TEntry.cells a0.fItems]] [] (fun res h => res = .bool r ∧ h = []) := grp__s_IsPlain.1 a0 r h
mutual
def m_i_IsPlain (a0 : TValue) : Option (Bool) :=
  ((
    (if a0.fKind = 4 then
      ((
        m_i_IsPlain_L4 a0 0
       : Option ((Unit) ⊕ ((Unit) ⊕ Bool))) >>= fun o5 => match o5 with
        | .inr r => some r
        | .inl _ =>
          some (.inr true)
      )
    else
      some (.inl ()))
   : Option ((Unit) ⊕ Bool)) >>= fun o1 => match o1 with
    | .inr r => some r
    | .inl _ =>
      m92 a0.fKind 0 3 >>= fun v24 =>
      some v24
  )
partial_fixpoint
def m_i_IsPlain_L4 (a0 : TValue) (y8 : Int) : Option ((Unit) ⊕ ((Unit) ⊕ Bool)) :=
  (if y8 < (a0.fItems.length : Int) then
    idx a0.fItems y8 >>= fun x13 =>
    m_i_IsPlain x13.fVal >>= fun v15 =>
    (if v15 = true then
      m_i_IsPlain_L4 a0 (W64 (y8 + 1))
    else
      some (.inr (.inr false)))
  else
    some (.inl ()))
partial_fixpoint
end
def okS29 (a0 : TValue) (r : Bool) : Prop := ACall Tryd.prog 29 [.agg [.int .i64 a0.fKind, .int .i64 a0.fNum, .str a0.fStr, .int .i64 a0.fNext, sl 8 TEntry.cells a0.fItems]] [] (fun res h => res = .bool r ∧ h = [])
inductive m_i_IsPlain_L4_I : TValue → Int → ((Unit) ⊕ ((Unit) ⊕ Bool)) → Prop
  | mk (G29 : TValue → Option (Bool)) (hG29 : ∀ a0 r, G29 a0 = some r → okS29 a0 r) (F_m_i_IsPlain_L4 : TValue → Int → Option ((Unit) ⊕ ((Unit) ⊕ Bool))) (hF_m_i_IsPlain_L4 : ∀ a0 y8 o, F_m_i_IsPlain_L4 a0 y8 = some o → m_i_IsPlain_L4_I a0 y8 o) (a0 : TValue) (y8 : Int) (o : (Unit) ⊕ ((Unit) ⊕ Bool)) (h : (
      (if y8 < (a0.fItems.length : Int) then
        idx a0.fItems y8 >>= fun x13 =>
        G29 x13.fVal >>= fun v15 =>
        (if v15 = true then
          F_m_i_IsPlain_L4 a0 (W64 (y8 + 1))
        else
          some (.inr (.inr false)))
      else
        some (.inl ()))
    ) = some o) : m_i_IsPlain_L4_I a0 y8 o
theorem m_i_IsPlain_L4_ind {motive : TValue → Int → ((Unit) ⊕ ((Unit) ⊕ Bool)) → Prop} (step : ∀ (G29 : TValue → Option (Bool)) (hG29 : ∀ a0 r, G29 a0 = some r → okS29 a0 r) (F_m_i_IsPlain_L4 : TValue → Int → Option ((Unit) ⊕ ((Unit) ⊕ Bool))) (hF_m_i_IsPlain_L4 : ∀ a0 y8 o, F_m_i_IsPlain_L4 a0 y8 = some o → m_i_IsPlain_L4_I a0 y8 o) (a0 : TValue) (y8 : Int) (o : (Unit) ⊕ ((Unit) ⊕ Bool)) (h : (
      (if y8 < (a0.fItems.length : Int) then
        idx a0.fItems y8 >>= fun x13 =>
        G29 x13.fVal >>= fun v15 =>
        (if v15 = true then
          F_m_i_IsPlain_L4 a0 (W64 (y8 + 1))
        else
          some (.inr (.inr false)))
      else
        some (.inl ()))
    ) = some o) (ih : ∀ a0 y8 o, F_m_i_IsPlain_L4 a0 y8 = some o → motive a0 y8 o), motive a0 y8 o) : ∀ a0 y8 o, m_i_IsPlain_L4_I a0 y8 o → motive a0 y8 o :=
  fun a0 y8 o h => m_i_IsPlain_L4_I.rec (motive := fun a0 y8 o _ => motive a0 y8 o) step h
theorem grp__i_IsPlain : (∀ a0 r, m_i_IsPlain a0 = some r → okS29 a0 r) ∧ (∀ a0 y8 o, m_i_IsPlain_L4 a0 y8 = some o → m_i_IsPlain_L4_I a0 y8 o) := by
  refine m_i_IsPlain.mutual_partial_correctness okS29 m_i_IsPlain_L4_I ?_ ?_
  · intro _ hI23 a0 r h
    refine ACall.of_vc tabT_ok mixed Tryd.func29 rfl (by kernel_rfl) _ _ _ rfl (by kernel_rfl) ?_
    refine .direct ?_
    obtain ⟨o1, ho2, hk3⟩ := bind_some h
    replace h := ho2
    refine .cut (fun σ η => .inl () = o1 ∧ σ = [(1, .optr 0 0 0 0)] ∧ η = [.row 0 5 1 26 (fun _ => [.int .i64 a0.fKind, .int .i64 a0.fNum, .str a0.fStr, .int .i64 a0.fNext, sl 8 TEntry.cells a0.fItems])]) ?_ ?_
    · refine .direct ?_
      refine ⟨rfl, ?_⟩
      refine ⟨rfl, _, rfl, ?_⟩
      refine splitB.mk (fun hb4 => ?_) (fun hb4 => ?_)
      · replace h := T_beq hb4 h
        obtain ⟨o5, ho6, hk7⟩ := bind_some h
        replace h := ho6
        refine .cut (fun σ η => .inl () = o5 ∧ σ = [] ∧ η = []) ?_ ?_
        · refine .direct ?_
          refine ⟨rfl, ?_⟩
          refine ⟨rfl, _, rfl, ?_⟩
          have hL22 := hI23 _ _ _ h
          refine LoopAt.enter [(9, sl 8 TEntry.cells a0.fItems), (10, .int .i64 (a0.fItems.length : Int)), (11, .int .i64 0)] [] ⟨[], by decide, (show 0 ≤ 0 by decide), ⟨.slc_eq rfl (fun _ _ => rfl), .int_eq rfl, .int_eq rfl, trivial⟩, trivial⟩ ?_
          refine m_i_IsPlain_L4_ind (motive := fun p21 y8 o19 => a0 = p21 → o5 = o19 → LoopAt _ _ [(9, sl 8 TEntry.cells a0.fItems), (10, .int .i64 (a0.fItems.length : Int)), (11, .int .i64 y8)] []) ?_ a0 0 o5 hL22 rfl rfl
          intro _ hG11 _ _ p21 y8 o19 h ih9  hp_p21 hr20
          subst hp_p21
          subst hr20
          refine LoopAt.round ?_
          refine .direct ?_
          refine .direct ?_
          refine splitB.mk (fun hb12 => ?_) (fun hb12 => ?_)
          · replace h := T_dec hb12 h
            refine .direct ?_
            refine .direct ?_
            obtain ⟨x13, hx14, h⟩ := bind_some h
            refine ⟨idx_bd hx14, _, (idx_row hx14).trans (TEntry.cells_eq x13), ?_⟩
            refine ⟨rfl, _, fun _ => [.bool x13.fKey.fText, .int .i64 x13.fKey.fNum, .str x13.fKey.fStr, .int .i64 x13.fVal.fKind, .int .i64 x13.fVal.fNum, .str x13.fVal.fStr, .int .i64 x13.fVal.fNext, sl 8 TEntry.cells x13.fVal.fItems], rfl, one_set rfl, ?_⟩
            refine .direct ?_
            refine ⟨rfl, ?_⟩
            refine ⟨rfl, _, rfl, ?_⟩
            obtain ⟨v15, hv16, h⟩ := bind_some h
            refine ⟨_, ACall.pure0 (hG11 _ _ hv16) _ rfl (fun _ => rfl), ?_⟩
            rintro _ _ ⟨rfl, rfl⟩
            refine splitB.mk (fun hb17 => ?_) (fun hb17 => ?_)
            · have hb18 := not_F hb17
              replace h := F_var hb18 h
              refine .direct ?_
              obtain rfl := Option.some.inj h
              replace h := hk7
              obtain rfl := Option.some.inj h
              replace h := hk3
              obtain rfl := Option.some.inj h
              exact ⟨[], .bool false, [], by decide, (show 0 ≤ 0 by decide), .bool_eq rfl, trivial, rfl, rfl⟩
            · have hb18 := not_T hb17
              replace h := T_var hb18 h
              exact ⟨[(9, sl 8 TEntry.cells a0.fItems), (10, .int .i64 (a0.fItems.length : Int)), (11, .int .i64 (W64 (y8 + 1)))], [], ⟨[], by decide, (show 0 ≤ 0 by decide), ⟨.slc_eq rfl (fun _ _ => rfl), .int_eq rfl, .int_eq rfl, trivial⟩, trivial⟩, ih9 _ _ _ h rfl rfl⟩
          · replace h := F_dec hb12 h
            exact ⟨[], [], ⟨[], by decide, (show 0 ≤ 0 by decide), trivial, trivial⟩, Option.some.inj h, rfl, rfl⟩
        · rintro _ _ ⟨rfl, rfl, rfl⟩
          replace h := hk7
          refine .direct ?_
          obtain rfl := Option.some.inj h
          replace h := hk3
          obtain rfl := Option.some.inj h
          exact ⟨[], .bool true, [], by decide, (show 0 ≤ 0 by decide), .bool_eq rfl, trivial, rfl, rfl⟩
      · replace h := F_beq hb4 h
        exact ⟨[(1, .optr 0 0 0 0)], [.row 0 5 1 26 (fun _ => [.int .i64 a0.fKind, .int .i64 a0.fNum, .str a0.fStr, .int .i64 a0.fNext, sl 8 TEntry.cells a0.fItems])], ⟨[0], by decide, (show 0 ≤ 1 by decide), ⟨.optr_eq rfl ⟨_, _, _, _, rfl⟩ ⟨_, _, _, _, rfl⟩ rfl rfl, trivial⟩, ⟨⟨fun h0 => absurd (show 0 < 0 from h0) (by decide), rfl, rfl, rfl, fun _ _ => ⟨.int_eq rfl, .int_eq rfl, .str_eq rfl, .int_eq rfl, .slc_eq rfl (fun _ _ => rfl), trivial⟩⟩, trivial⟩⟩, Option.some.inj h, rfl, rfl⟩
    · rintro _ _ ⟨rfl, rfl, rfl⟩
      replace h := hk3
      refine .direct ?_
      refine ⟨rfl, ?_⟩
      refine ⟨rfl, _, rfl, ?_⟩
      obtain ⟨v24, hv25, h⟩ := bind_some h
      refine ⟨_, ACall.pure0 (ok92 hv25) _ rfl (fun _ => rfl), ?_⟩
      rintro _ _ ⟨rfl, rfl⟩
      obtain rfl := Option.some.inj h
      exact ⟨[], .bool v24, [], by decide, (show 0 ≤ 0 by decide), .bool_eq rfl, trivial, rfl, rfl⟩
  · intro F0 F1 hF0 hF1 a0 y8 o h
    exact .mk F0 hF0 F1 hF1 a0 y8 o h
theorem ok_i_IsPlain {a0 : TValue} {r : Bool} (h : m_i_IsPlain a0 = some r) : ACall Tryd.prog 29 [.agg [.int .i64 a0.fKind, .int .i64 a0.fNum, .str a0.fStr, .int .i64 a0.fNext, sl 8 TEntry.cells a0.fItems]] [] (fun res h => res = .bool r ∧ h = []) := grp__i_IsPlain.1 a0 r h
def m_i_FormatInt (a0 : Int) : Option (Str) :=
  m73 a0 >>= fun v1 =>
  some v1
theorem ok_i_FormatInt {a0 : Int} {r : Str} (h : m_i_FormatInt a0 = some r) : ACall Tryd.prog 88 [.int .i64 a0] [] (fun res h => res = .str r ∧ h = []) := by
  refine ACall.of_vc tabT_ok mixed Tryd.func88 rfl (by kernel_rfl) _ _ _ rfl (by kernel_rfl) ?_
  unfold m_i_FormatInt at h
  refine .direct ?_
  refine .direct ?_
  obtain ⟨v1, hv2, h⟩ := bind_some h
  refine ⟨_, ACall.pure0 (ok73 hv2) _ rfl (fun _ => rfl), ?_⟩
  rintro _ _ ⟨rfl, rfl⟩
  obtain rfl := Option.some.inj h
  exact ⟨[], .str v1, [], by decide, (show 0 ≤ 0 by decide), .str_eq rfl, trivial, rfl, rfl⟩
mutual
def m_i_appendSerial (a0 : List UInt8) (a1 : TValue) : Option ((List UInt8)) :=
  (if a1.fKind = 0 then
    lapp 1 a0 ([78, 59] : Str) >>= fun l2 =>
    some l2
  else
    (if a1.fKind = 1 then
      m_i_FormatInt a1.fNum >>= fun v5 =>
      scat [98, 58] v5 >>= fun s7 =>
      scat s7 [59] >>= fun s9 =>
      lapp 1 a0 s9 >>= fun l11 =>
      some l11
    else
      (if a1.fKind = 2 then
        m_i_FormatInt a1.fNum >>= fun v14 =>
        scat [105, 58] v14 >>= fun s16 =>
        scat s16 [59] >>= fun s18 =>
        lapp 1 a0 s18 >>= fun l20 =>
        some l20
      else
        (if a1.fKind = 3 then
          m_i_FormatInt (a1.fStr.length : Int) >>= fun v23 =>
          scat [115, 58] v23 >>= fun s25 =>
          scat s25 [58] >>= fun s27 =>
          scat s27 a1.fStr >>= fun s29 =>
          scat s29 [59] >>= fun s31 =>
          lapp 1 a0 s31 >>= fun l33 =>
          some l33
        else
          m_i_FormatInt (a1.fItems.length : Int) >>= fun v35 =>
          scat [97, 58] v35 >>= fun s37 =>
          scat s37 [58] >>= fun s39 =>
          m_i_FormatInt a1.fNext >>= fun v41 =>
          scat s39 v41 >>= fun s43 =>
          scat s43 [123] >>= fun s45 =>
          lapp 1 a0 s45 >>= fun l47 =>
          (
            m_i_appendSerial_L2 a1 l47 0
           : Option ((List UInt8))) >>= fun l50 =>
          lapp 1 l50 ([(125 : UInt8)] : List UInt8) >>= fun l76 =>
          some l76))))
partial_fixpoint
def m_i_appendSerial_L2 (a1 : TValue) (l55 : List UInt8) (y56 : Int) : Option ((List UInt8)) :=
  (if y56 < (a1.fItems.length : Int) then
    idx a1.fItems y56 >>= fun x61 =>
    m_i_KeyValue x61.fKey >>= fun v63 =>
    m_i_appendSerial l55 v63 >>= fun v65 =>
    m_i_appendSerial v65 x61.fVal >>= fun v68 =>
    m_i_appendSerial_L2 a1 v68 (W64 (y56 + 1))
  else
    some l55)
partial_fixpoint
end
def okS60 (a0 : List UInt8) (a1 : TValue) (r : (List UInt8)) : Prop := ∀ g1000 : Nat, ACall Tryd.prog 60 [.own 0 g1000 0 a0.length, .agg [.int .i64 a1.fKind, .int .i64 a1.fNum, .str a1.fStr, .int .i64 a1.fNext, sl 8 TEntry.cells a1.fItems]] [.row g1000 1 a0.length 5 (row cB a0)] (fun res h => ∃ G0 : Nat, res = .own 0 G0 0 r.length ∧ h = [.row G0 1 r.length 5 (row cB r)])
inductive m_i_appendSerial_L2_I : TValue → (List UInt8) → Int → ((List UInt8)) → Prop
  | mk (G60 : (List UInt8) → TValue → Option ((List UInt8))) (hG60 : ∀ a0 a1 r, G60 a0 a1 = some r → okS60 a0 a1 r) (F_m_i_appendSerial_L2 : TValue → (List UInt8) → Int → Option ((List UInt8))) (hF_m_i_appendSerial_L2 : ∀ a1 l55 y56 o, F_m_i_appendSerial_L2 a1 l55 y56 = some o → m_i_appendSerial_L2_I a1 l55 y56 o) (a1 : TValue) (l55 : List UInt8) (y56 : Int) (o : (List UInt8)) (h : (
      (if y56 < (a1.fItems.length : Int) then
        idx a1.fItems y56 >>= fun x61 =>
        m_i_KeyValue x61.fKey >>= fun v63 =>
        G60 l55 v63 >>= fun v65 =>
        G60 v65 x61.fVal >>= fun v68 =>
        F_m_i_appendSerial_L2 a1 v68 (W64 (y56 + 1))
      else
        some l55)
    ) = some o) : m_i_appendSerial_L2_I a1 l55 y56 o
theorem m_i_appendSerial_L2_ind {motive : TValue → (List UInt8) → Int → ((List UInt8)) → Prop} (step : ∀ (G60 : (List UInt8) → TValue → Option ((List UInt8))) (hG60 : ∀ a0 a1 r, G60 a0 a1 = some r → okS60 a0 a1 r) (F_m_i_appendSerial_L2 : TValue → (List UInt8) → Int → Option ((List UInt8))) (hF_m_i_appendSerial_L2 : ∀ a1 l55 y56 o, F_m_i_appendSerial_L2 a1 l55 y56 = some o → m_i_appendSerial_L2_I a1 l55 y56 o) (a1 : TValue) (l55 : List UInt8) (y56 : Int) (o : (List UInt8)) (h : (
      (if y56 < (a1.fItems.length : Int) then
        idx a1.fItems y56 >>= fun x61 =>
        m_i_KeyValue x61.fKey >>= fun v63 =>
        G60 l55 v63 >>= fun v65 =>
        G60 v65 x61.fVal >>= fun v68 =>
        F_m_i_appendSerial_L2 a1 v68 (W64 (y56 + 1))
      else
        some l55)
    ) = some o) (ih : ∀ a1 l55 y56 o, F_m_i_appendSerial_L2 a1 l55 y56 = some o → motive a1 l55 y56 o), motive a1 l55 y56 o) : ∀ a1 l55 y56 o, m_i_appendSerial_L2_I a1 l55 y56 o → motive a1 l55 y56 o :=
  fun a1 l55 y56 o h => m_i_appendSerial_L2_I.rec (motive := fun a1 l55 y56 o _ => motive a1 l55 y56 o) step h
theorem grp__i_appendSerial : (∀ a0 a1 r, m_i_appendSerial a0 a1 = some r → okS60 a0 a1 r) ∧ (∀ a1 l55 y56 o, m_i_appendSerial_L2 a1 l55 y56 = some o → m_i_appendSerial_L2_I a1 l55 y56 o) := by
  refine m_i_appendSerial.mutual_partial_correctness okS60 m_i_appendSerial_L2_I ?_ ?_
  · intro _ hI75 a0 a1 r h g1000
    refine ACall.of_vc tabT_ok mixed Tryd.func60 rfl (by kernel_rfl) _ _ _ rfl (by kernel_rfl) ?_
    refine .direct ?_
    refine .direct ?_
    refine .direct ?_
    refine ⟨rfl, ?_⟩
    refine ⟨rfl, _, rfl, ?_⟩
    refine .direct ?_
    refine splitB.mk (fun hb1 => ?_) (fun hb1 => ?_)
    · replace h := T_beq hb1 h
      refine .direct ?_
      obtain ⟨l2, hx3, h⟩ := bind_some h
      refine ⟨rfl, lapp_bd hx3, l2.length, row cB l2, lapp_len hx3, lapp_row hx3 shows_all src_str, ?_⟩
      obtain rfl := Option.some.inj h
      exact ⟨[0], .own 0 (g1000 + 1) 0 l2.length, [.row (g1000 + 1) 1 l2.length 5 (row cB l2)], by decide, (show 1 ≤ 1 by decide), .own_eq rfl ⟨_, _, _, _, rfl⟩ ⟨_, _, _, _, rfl⟩ rfl rfl, ⟨⟨fun _ => ⟨rfl, rfl⟩, rfl, rfl, rfl, fz_row cB_pure⟩, trivial⟩, (g1000 + 1), rfl, rfl⟩
    · replace h := F_beq hb1 h
      refine .direct ?_
      refine splitB.mk (fun hb4 => ?_) (fun hb4 => ?_)
      · replace h := T_beq hb4 h
        refine .direct ?_
        refine ⟨rfl, ?_⟩
        refine ⟨rfl, _, rfl, ?_⟩
        obtain ⟨v5, hv6, h⟩ := bind_some h
        refine ⟨_, ACall.pure0 (ok_i_FormatInt hv6) _ rfl (fun _ => rfl), ?_⟩
        rintro _ _ ⟨rfl, rfl⟩
        obtain ⟨s7, hx8, h⟩ := bind_some h
        refine ⟨scat_bd hx8, s7, scat_at hx8, ?_⟩
        obtain ⟨s9, hx10, h⟩ := bind_some h
        refine ⟨scat_bd hx10, s9, scat_at hx10, ?_⟩
        obtain ⟨l11, hx12, h⟩ := bind_some h
        refine ⟨rfl, lapp_bd hx12, l11.length, row cB l11, lapp_len hx12, lapp_row hx12 shows_all src_str, ?_⟩
        obtain rfl := Option.some.inj h
        exact ⟨[0], .own 0 (g1000 + 1) 0 l11.length, [.row (g1000 + 1) 1 l11.length 5 (row cB l11)], by decide, (show 1 ≤ 1 by decide), .own_eq rfl ⟨_, _, _, _, rfl⟩ ⟨_, _, _, _, rfl⟩ rfl rfl, ⟨⟨fun _ => ⟨rfl, rfl⟩, rfl, rfl, rfl, fz_row cB_pure⟩, trivial⟩, (g1000 + 1), rfl, rfl⟩
      · replace h := F_beq hb4 h
        refine .direct ?_
        refine splitB.mk (fun hb13 => ?_) (fun hb13 => ?_)
        · replace h := T_beq hb13 h
          refine .direct ?_
          refine ⟨rfl, ?_⟩
          refine ⟨rfl, _, rfl, ?_⟩
          obtain ⟨v14, hv15, h⟩ := bind_some h
          refine ⟨_, ACall.pure0 (ok_i_FormatInt hv15) _ rfl (fun _ => rfl), ?_⟩
          rintro _ _ ⟨rfl, rfl⟩
          obtain ⟨s16, hx17, h⟩ := bind_some h
          refine ⟨scat_bd hx17, s16, scat_at hx17, ?_⟩
          obtain ⟨s18, hx19, h⟩ := bind_some h
          refine ⟨scat_bd hx19, s18, scat_at hx19, ?_⟩
          obtain ⟨l20, hx21, h⟩ := bind_some h
          refine ⟨rfl, lapp_bd hx21, l20.length, row cB l20, lapp_len hx21, lapp_row hx21 shows_all src_str, ?_⟩
          obtain rfl := Option.some.inj h
          exact ⟨[0], .own 0 (g1000 + 1) 0 l20.length, [.row (g1000 + 1) 1 l20.length 5 (row cB l20)], by decide, (show 1 ≤ 1 by decide), .own_eq rfl ⟨_, _, _, _, rfl⟩ ⟨_, _, _, _, rfl⟩ rfl rfl, ⟨⟨fun _ => ⟨rfl, rfl⟩, rfl, rfl, rfl, fz_row cB_pure⟩, trivial⟩, (g1000 + 1), rfl, rfl⟩
        · replace h := F_beq hb13 h
          refine .direct ?_
          refine splitB.mk (fun hb22 => ?_) (fun hb22 => ?_)
          · replace h := T_beq hb22 h
            refine .direct ?_
            refine .float [(0, true), (1, true), (2, true), (3, true), (7, true), (8, true), (4, false), (5, true), (6, true), (9, true), (10, true), (11, false), (12, true)] (by kernel_rfl) ?_
            refine ⟨rfl, ?_⟩
            refine ⟨rfl, _, rfl, ?_⟩
            refine ⟨rfl, ?_⟩
            refine ⟨rfl, _, rfl, ?_⟩
            obtain ⟨v23, hv24, h⟩ := bind_some h
            refine ⟨_, ACall.pure0 (ok_i_FormatInt hv24) _ rfl (fun _ => rfl), ?_⟩
            rintro _ _ ⟨rfl, rfl⟩
            refine ⟨rfl, ?_⟩
            refine ⟨rfl, ?_⟩
            obtain ⟨s25, hx26, h⟩ := bind_some h
            refine ⟨scat_bd hx26, s25, scat_at hx26, ?_⟩
            obtain ⟨s27, hx28, h⟩ := bind_some h
            refine ⟨scat_bd hx28, s27, scat_at hx28, ?_⟩
            obtain ⟨s29, hx30, h⟩ := bind_some h
            refine ⟨scat_bd hx30, s29, scat_at hx30, ?_⟩
            obtain ⟨s31, hx32, h⟩ := bind_some h
            refine ⟨scat_bd hx32, s31, scat_at hx32, ?_⟩
            obtain ⟨l33, hx34, h⟩ := bind_some h
            refine ⟨rfl, lapp_bd hx34, l33.length, row cB l33, lapp_len hx34, lapp_row hx34 shows_all src_str, ?_⟩
            obtain rfl := Option.some.inj h
            exact ⟨[0], .own 0 (g1000 + 1) 0 l33.length, [.row (g1000 + 1) 1 l33.length 5 (row cB l33)], by decide, (show 1 ≤ 1 by decide), .own_eq rfl ⟨_, _, _, _, rfl⟩ ⟨_, _, _, _, rfl⟩ rfl rfl, ⟨⟨fun _ => ⟨rfl, rfl⟩, rfl, rfl, rfl, fz_row cB_pure⟩, trivial⟩, (g1000 + 1), rfl, rfl⟩
          · replace h := F_beq hb22 h
            refine .direct ?_
            refine .float [(0, true), (1, true), (2, true), (3, true), (7, true), (8, true), (4, false), (5, true), (6, true), (9, false), (10, true), (11, true), (12, false), (13, true)] (by kernel_rfl) ?_
            refine ⟨rfl, ?_⟩
            refine ⟨rfl, _, rfl, ?_⟩
            refine ⟨rfl, ?_⟩
            refine ⟨rfl, _, rfl, ?_⟩
            obtain ⟨v35, hv36, h⟩ := bind_some h
            refine ⟨_, ACall.pure0 (ok_i_FormatInt hv36) _ rfl (fun _ => rfl), ?_⟩
            rintro _ _ ⟨rfl, rfl⟩
            refine ⟨rfl, ?_⟩
            refine ⟨rfl, ?_⟩
            obtain ⟨s37, hx38, h⟩ := bind_some h
            refine ⟨scat_bd hx38, s37, scat_at hx38, ?_⟩
            obtain ⟨s39, hx40, h⟩ := bind_some h
            refine ⟨scat_bd hx40, s39, scat_at hx40, ?_⟩
            obtain ⟨v41, hv42, h⟩ := bind_some h
            refine ⟨_, ACall.pure0 (ok_i_FormatInt hv42) _ rfl (fun _ => rfl), ?_⟩
            rintro _ _ ⟨rfl, rfl⟩
            obtain ⟨s43, hx44, h⟩ := bind_some h
            refine ⟨scat_bd hx44, s43, scat_at hx44, ?_⟩
            obtain ⟨s45, hx46, h⟩ := bind_some h
            refine ⟨scat_bd hx46, s45, scat_at hx46, ?_⟩
            obtain ⟨l47, hx48, h⟩ := bind_some h
            refine ⟨rfl, lapp_bd hx48, l47.length, row cB l47, lapp_len hx48, lapp_row hx48 shows_all src_str, ?_⟩
            obtain ⟨o51, ho52, hk53⟩ := bind_some h
            replace h := ho52
            refine .cut (fun σ η => ∃ l50, ∃ g49 : Nat, l50 = o51 ∧ σ = [(0, .own 0 g49 0 l50.length)] ∧ η = [.row g49 1 l50.length 5 (row cB l50)]) ?_ ?_
            · refine .direct ?_
              refine ⟨rfl, ?_⟩
              refine ⟨rfl, _, rfl, ?_⟩
              have hL74 := hI75 _ _ _ _ h
              refine LoopAt.enter [(0, .own 0 (g1000 + 1) 0 l47.length), (59, sl 8 TEntry.cells a1.fItems), (60, .int .i64 (a1.fItems.length : Int)), (61, .int .i64 0)] [.row (g1000 + 1) 1 l47.length 5 (row cB l47)] ⟨[0], by decide, (show 1 ≤ 1 by decide), ⟨.own_eq rfl ⟨_, _, _, _, rfl⟩ ⟨_, _, _, _, rfl⟩ rfl rfl, .slc_eq rfl (fun _ _ => rfl), .int_eq rfl, .int_eq rfl, trivial⟩, ⟨⟨fun _ => ⟨rfl, rfl⟩, rfl, rfl, rfl, fz_row cB_pure⟩, trivial⟩⟩ ?_
              refine m_i_appendSerial_L2_ind (motive := fun p73 l55 y56 o71 => ∀ g54 : Nat, a1 = p73 → o51 = o71 → LoopAt _ _ [(0, .own 0 g54 0 l55.length), (59, sl 8 TEntry.cells a1.fItems), (60, .int .i64 (a1.fItems.length : Int)), (61, .int .i64 y56)] [.row g54 1 l55.length 5 (row cB l55)]) ?_ a1 l47 0 o51 hL74 (g1000 + 1) rfl rfl
              intro _ hG59 _ _ p73 l55 y56 o71 h ih57 g54 hp_p73 hr72
              subst hp_p73
              subst hr72
              refine LoopAt.round ?_
              refine .direct ?_
              refine .direct ?_
              refine splitB.mk (fun hb60 => ?_) (fun hb60 => ?_)
              · replace h := T_dec hb60 h
                refine .direct ?_
                refine .direct ?_
                obtain ⟨x61, hx62, h⟩ := bind_some h
                refine ⟨idx_bd hx62, _, (idx_row hx62).trans (TEntry.cells_eq x61), ?_⟩
                refine ⟨rfl, _, fun _ => [.bool x61.fKey.fText, .int .i64 x61.fKey.fNum, .str x61.fKey.fStr, .int .i64 x61.fVal.fKind, .int .i64 x61.fVal.fNum, .str x61.fVal.fStr, .int .i64 x61.fVal.fNext, sl 8 TEntry.cells x61.fVal.fItems], rfl, one_set rfl, ?_⟩
                refine .direct ?_
                refine ⟨rfl, ?_⟩
                refine ⟨rfl, _, rfl, ?_⟩
                obtain ⟨v63, hv64, h⟩ := bind_some h
                refine ⟨_, ACall.pure0 (ok_i_KeyValue hv64) _ rfl (fun _ => rfl), ?_⟩
                rintro _ _ ⟨rfl, rfl⟩
                obtain ⟨v65, hv66, h⟩ := bind_some h
                refine ⟨fun res h' => ∃ g67 : Nat, res = .own 0 g67 0 v65.length ∧ h' = [.row g67 1 v65.length 5 (row cB v65), .row 0 8 1 34 (fun _ => [.bool x61.fKey.fText, .int .i64 x61.fKey.fNum, .str x61.fKey.fStr, .int .i64 x61.fVal.fKind, .int .i64 x61.fVal.fNum, .str x61.fVal.fStr, .int .i64 x61.fVal.fNext, sl 8 TEntry.cells x61.fVal.fItems])], (ACall.over (hG59 _ _ _ hv66 _) [0] [.row g54 1 l55.length 5 (row cB l55), .row 0 8 1 34 (fun _ => [.bool x61.fKey.fText, .int .i64 x61.fKey.fNum, .str x61.fKey.fStr, .int .i64 x61.fVal.fKind, .int .i64 x61.fVal.fNum, .str x61.fVal.fStr, .int .i64 x61.fVal.fNext, sl 8 TEntry.cells x61.fVal.fItems])] rfl (by decide) (by simp) (by intro j o hj; exact match j, hj with | 0, hj => by cases hj; exact (congrArg some (renO_row cB_pure _ _ _ _ _ _)).symm | j + 1, hj => by cases hj) rfl).mono (by rintro _ _ ⟨_, _, ⟨g67, rfl, rfl⟩, rfl, rfl⟩; exact ⟨g67, rfl, (by simp only [nxtL, putSel, List.map_cons, List.map_nil, List.drop, List.length_cons, List.length_nil, renO_row cB_pure]; rfl)⟩), ?_⟩
                rintro _ _ ⟨g67, rfl, rfl⟩
                refine ⟨rfl, ?_⟩
                refine ⟨rfl, _, rfl, ?_⟩
                obtain ⟨v68, hv69, h⟩ := bind_some h
                refine ⟨fun res h' => ∃ g70 : Nat, res = .own 0 g70 0 v68.length ∧ h' = [.row g70 1 v68.length 5 (row cB v68), .row 0 8 1 34 (fun _ => [.bool x61.fKey.fText, .int .i64 x61.fKey.fNum, .str x61.fKey.fStr, .int .i64 x61.fVal.fKind, .int .i64 x61.fVal.fNum, .str x61.fVal.fStr, .int .i64 x61.fVal.fNext, sl 8 TEntry.cells x61.fVal.fItems])], (ACall.over (hG59 _ _ _ hv69 _) [0] [.row g67 1 v65.length 5 (row cB v65), .row 0 8 1 34 (fun _ => [.bool x61.fKey.fText, .int .i64 x61.fKey.fNum, .str x61.fKey.fStr, .int .i64 x61.fVal.fKind, .int .i64 x61.fVal.fNum, .str x61.fVal.fStr, .int .i64 x61.fVal.fNext, sl 8 TEntry.cells x61.fVal.fItems])] rfl (by decide) (by simp) (by intro j o hj; exact match j, hj with | 0, hj => by cases hj; exact (congrArg some (renO_row cB_pure _ _ _ _ _ _)).symm | j + 1, hj => by cases hj) rfl).mono (by rintro _ _ ⟨_, _, ⟨g70, rfl, rfl⟩, rfl, rfl⟩; exact ⟨g70, rfl, (by simp only [nxtL, putSel, List.map_cons, List.map_nil, List.drop, List.length_cons, List.length_nil, renO_row cB_pure]; rfl)⟩), ?_⟩
                rintro _ _ ⟨g70, rfl, rfl⟩
                exact ⟨[(0, .own 0 g70 0 v68.length), (59, sl 8 TEntry.cells a1.fItems), (60, .int .i64 (a1.fItems.length : Int)), (61, .int .i64 (W64 (y56 + 1)))], [.row g70 1 v68.length 5 (row cB v68)], ⟨[0], by decide, (show 1 ≤ 1 by decide), ⟨.own_eq rfl ⟨_, _, _, _, rfl⟩ ⟨_, _, _, _, rfl⟩ rfl rfl, .slc_eq rfl (fun _ _ => rfl), .int_eq rfl, .int_eq rfl, trivial⟩, ⟨⟨fun _ => ⟨rfl, rfl⟩, rfl, rfl, rfl, fz_row cB_pure⟩, trivial⟩⟩, ih57 _ _ _ _ h g70 rfl rfl⟩
              · replace h := F_dec hb60 h
                exact ⟨[(0, .own 0 g54 0 l55.length)], [.row g54 1 l55.length 5 (row cB l55)], ⟨[0], by decide, (show 1 ≤ 1 by decide), ⟨.own_eq rfl ⟨_, _, _, _, rfl⟩ ⟨_, _, _, _, rfl⟩ rfl rfl, trivial⟩, ⟨⟨fun _ => ⟨rfl, rfl⟩, rfl, rfl, rfl, fz_row cB_pure⟩, trivial⟩⟩, l55, g54, Option.some.inj h, rfl, rfl⟩
            · rintro _ _ ⟨l50, g49, rfl, rfl, rfl⟩
              replace h := hk53
              refine .direct ?_
              refine ⟨row cB ([(125 : UInt8)] : List UInt8), row_lit cB ([(125 : UInt8)] : List UInt8) rfl (cll_refl rfl), ?_⟩
              obtain ⟨l76, hx77, h⟩ := bind_some h
              refine ⟨rfl, rfl, lapp_bd hx77, l76.length, row cB l76, lapp_len hx77, lapp_row hx77 shows_all (src_own shows_all), ?_⟩
              obtain rfl := Option.some.inj h
              exact ⟨[0], .own 0 (g49 + 1) 0 l76.length, [.row (g49 + 1) 1 l76.length 5 (row cB l76)], by decide, (show 1 ≤ 1 by decide), .own_eq rfl ⟨_, _, _, _, rfl⟩ ⟨_, _, _, _, rfl⟩ rfl rfl, ⟨⟨fun _ => ⟨rfl, rfl⟩, rfl, rfl, rfl, fz_row cB_pure⟩, trivial⟩, (g49 + 1), rfl, rfl⟩
  · intro F0 F1 hF0 hF1 a1 l55 y56 o h
    exact .mk F0 hF0 F1 hF1 a1 l55 y56 o h
theorem ok_i_appendSerial {a0 : List UInt8} {a1 : TValue} {r : (List UInt8)} {g1000 : Nat} (h : m_i_appendSerial a0 a1 = some r) : ACall Tryd.prog 60 [.own 0 g1000 0 a0.length, .agg [.int .i64 a1.fKind, .int .i64 a1.fNum, .str a1.fStr, .int .i64 a1.fNext, sl 8 TEntry.cells a1.fItems]] [.row g1000 1 a0.length 5 (row cB a0)] (fun res h => ∃ G0 : Nat, res = .own 0 G0 0 r.length ∧ h = [.row G0 1 r.length 5 (row cB r)]) := grp__i_appendSerial.1 a0 a1 r h g1000
def m_i_Serialize (a0 : TValue) : Option (Str × Bool) :=
  m_i_IsValue a0 >>= fun v1 =>
  (if v1 = true then
    m_i_IsPlain a0 >>= fun v4 =>
    (if v4 = true then
      m_i_appendSerial ([] : List UInt8) a0 >>= fun v7 =>
      some (v7, true)
    else
      some ([], false))
  else
    some ([], false))
theorem ok_i_Serialize {a0 : TValue} {r : Str × Bool} (h : m_i_Serialize a0 = some r) : ACall Tryd.prog 24 [.agg [.int .i64 a0.fKind, .int .i64 a0.fNum, .str a0.fStr, .int .i64 a0.fNext, sl 8 TEntry.cells a0.fItems]] [] (fun res h => res = .tup [.str r.1, .bool r.2] ∧ h = []) := by
  refine ACall.of_vc tabT_ok mixed Tryd.func24 rfl (by kernel_rfl) _ _ _ rfl (by kernel_rfl) ?_
  unfold m_i_Serialize at h
  refine .direct ?_
  refine .direct ?_
  refine .direct ?_
  refine ⟨rfl, _, rfl, ?_⟩
  obtain ⟨v1, hv2, h⟩ := bind_some h
  refine ⟨_, ACall.pure0 (ok_i_IsValue hv2) _ rfl (fun _ => rfl), ?_⟩
  rintro _ _ ⟨rfl, rfl⟩
  refine splitB.mk (fun hb3 => ?_) (fun hb3 => ?_)
  · have hb11 := not_F hb3
    replace h := F_var hb11 h
    refine splitB_t ?_
    refine splitB_t ?_
    refine splitB_t ?_
    refine splitB_t ?_
    refine .direct ?_
    obtain rfl := Option.some.inj h
    exact ⟨[], .tup [.str [], .bool false], [], by decide, (show 0 ≤ 0 by decide), .tup_l ⟨.str_eq rfl, .bool_eq rfl, trivial⟩, trivial, rfl, rfl⟩
  · have hb11 := not_T hb3
    replace h := T_var hb11 h
    refine ⟨rfl, _, rfl, ?_⟩
    refine splitB_f ?_
    obtain ⟨v4, hv5, h⟩ := bind_some h
    refine ⟨_, ACall.pure0 (ok_i_IsPlain hv5) _ rfl (fun _ => rfl), ?_⟩
    rintro _ _ ⟨rfl, rfl⟩
    refine splitB_f ?_
    refine splitB_f ?_
    refine splitB.mk (fun hb6 => ?_) (fun hb6 => ?_)
    · have hb10 := not_F hb6
      replace h := F_var hb10 h
      refine .direct ?_
      obtain rfl := Option.some.inj h
      exact ⟨[], .tup [.str [], .bool false], [], by decide, (show 0 ≤ 0 by decide), .tup_l ⟨.str_eq rfl, .bool_eq rfl, trivial⟩, trivial, rfl, rfl⟩
    · have hb10 := not_T hb6
      replace h := T_var hb10 h
      refine .direct ?_
      refine ⟨rfl, _, rfl, ?_⟩
      obtain ⟨v7, hv8, h⟩ := bind_some h
      refine ⟨fun res h' => ∃ g9 : Nat, res = .own 1 g9 0 v7.length ∧ h' = [.row 0 5 1 26 (fun _ => [.int .i64 a0.fKind, .int .i64 a0.fNum, .str a0.fStr, .int .i64 a0.fNext, sl 8 TEntry.cells a0.fItems]), .row g9 1 v7.length 5 (row cB v7)], ((ACall.nil0 (ok_i_appendSerial (g1000 := 0) hv8) rfl).frame [.row 0 5 1 26 (fun _ => [.int .i64 a0.fKind, .int .i64 a0.fNum, .str a0.fStr, .int .i64 a0.fNext, sl 8 TEntry.cells a0.fItems])] rfl).mono (by rintro _ _ ⟨_, _, ⟨g9, rfl, rfl⟩, rfl, rfl⟩; exact ⟨g9, rfl, by simp only [List.map_cons, List.map_nil, shiftO_row cB_pure]; rfl⟩), ?_⟩
      rintro _ _ ⟨g9, rfl, rfl⟩
      refine ⟨rfl, v7, rfl, bytes_shows shows_all rfl, ?_⟩
      obtain rfl := Option.some.inj h
      exact ⟨[], .tup [.str v7, .bool true], [], by decide, (show 0 ≤ 0 by decide), .tup_l ⟨.str_eq rfl, .bool_eq rfl, trivial⟩, trivial, rfl, rfl⟩
end Go.Am
