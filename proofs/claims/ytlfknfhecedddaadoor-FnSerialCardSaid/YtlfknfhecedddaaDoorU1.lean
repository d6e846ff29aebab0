/- Models of Go functions, and their walks. (Printed by tools/mg.py.) -/
import Derived.Test.YtlfknfhecedddaaDoorF3
set_option linter.unusedVariables false
set_option linter.unusedSimpArgs false
namespace Go.Am
open Go Go.RowKit Go.Proofs

mutual
def m_i_wellFormed (a0 : TValue) : Option (Bool) :=
  ((
    (if a0.fKind = 3 then
      (if a0.fKind = 4 then
        some (.inl ())
      else
        (if a0.fNext = 0 then
          (if (a0.fItems.length : Int) > 0 then
            some (.inr false)
          else
            some (.inl ()))
        else
          some (.inr false)))
    else
      (if a0.fStr = ([] : Str) then
        (if a0.fKind = 4 then
          some (.inl ())
        else
          (if a0.fNext = 0 then
            (if (a0.fItems.length : Int) > 0 then
              some (.inr false)
            else
              some (.inl ()))
          else
            some (.inr false)))
      else
        some (.inr false)))
   : Option ((Unit) ⊕ Bool)) >>= fun o1 => match o1 with
    | .inr r => some r
    | .inl _ =>
      ((
        (if a0.fKind = 0 then
          some (.inr (a0.fNum == 0))
        else
          (if a0.fKind = 1 then
            (if a0.fNum = 0 then
              some (.inr true)
            else
              some (.inr (a0.fNum == 1)))
          else
            (if a0.fKind = 2 then
              m92 a0.fNum (-1000000000) 1000000000 >>= fun v20 =>
              some (.inr v20)
            else
              (if a0.fKind = 3 then
                (if a0.fNum = 0 then
                  some (.inr (decide ((a0.fStr.length : Int) ≤ 400)))
                else
                  some (.inr false))
              else
                (
                  (if a0.fKind = 6 then
                    some (a0.fKind == 6)
                  else
                    (if a0.fKind = 7 then
                      some (a0.fKind == 7)
                    else
                      some (a0.fKind == 8)))
                 : Option (Bool)) >>= fun b24 =>
                (if b24 = true then
                  m92 a0.fNum 0 255 >>= fun v31 =>
                  some (.inr v31)
                else
                  (if a0.fKind = 4 then
                    (if a0.fNum = 0 then
                      m92 a0.fNext 0 1000000001 >>= fun v35 =>
                      (if v35 = true then
                        ((
                          m_i_wellFormed_L4 a0 ([] : List (TKey × Bool)) 0
                         : Option ((Unit) ⊕ ((Unit) ⊕ Bool))) >>= fun o38 => match o38 with
                          | .inr r => some r
                          | .inl _ =>
                            some (.inr true)
                        )
                      else
                        some (.inr false))
                    else
                      some (.inr false))
                  else
                    some (.inl ())))))))
       : Option ((Unit) ⊕ Bool)) >>= fun o13 => match o13 with
        | .inr r => some r
        | .inl _ =>
          some false
      )
  )
partial_fixpoint
def m_i_wellFormed_L4 (a0 : TValue) (l41 : List (TKey × Bool)) (y42 : Int) : Option ((Unit) ⊕ ((Unit) ⊕ Bool)) :=
  (if y42 < (a0.fItems.length : Int) then
    idx a0.fItems y42 >>= fun x47 =>
    m55 x47.fKey >>= fun v49 =>
    (if v49 = true then
      (if (mgd l41 x47.fKey false) = true then
        some (.inr (.inr false))
      else
        (if x47.fKey.fText = true then
          m_i_wellFormed x47.fVal >>= fun v59 =>
          (if v59 = true then
            m_i_wellFormed_L4 a0 (mput l41 x47.fKey true) (W64 (y42 + 1))
          else
            some (.inr (.inr false)))
        else
          (if x47.fKey.fNum ≥ a0.fNext then
            some (.inr (.inr false))
          else
            m_i_wellFormed x47.fVal >>= fun v55 =>
            (if v55 = true then
              m_i_wellFormed_L4 a0 (mput l41 x47.fKey true) (W64 (y42 + 1))
            else
              some (.inr (.inr false))))))
    else
      some (.inr (.inr false)))
  else
    some (.inl ()))
partial_fixpoint
end
def okS66 (a0 : TValue) (r : Bool) : Prop := ACall Tryd.prog 66 [.agg [.int .i64 a0.fKind, .int .i64 a0.fNum, .str a0.fStr, .int .i64 a0.fNext, sl 8 TEntry.cells a0.fItems]] [] (fun res h => res = .bool r ∧ h = [])
inductive m_i_wellFormed_L4_I : TValue → (List (TKey × Bool)) → Int → ((Unit) ⊕ ((Unit) ⊕ Bool)) → Prop
  | mk (G66 : TValue → Option (Bool)) (hG66 : ∀ a0 r, G66 a0 = some r → okS66 a0 r) (F_m_i_wellFormed_L4 : TValue → (List (TKey × Bool)) → Int → Option ((Unit) ⊕ ((Unit) ⊕ Bool))) (hF_m_i_wellFormed_L4 : ∀ a0 l41 y42 o, F_m_i_wellFormed_L4 a0 l41 y42 = some o → m_i_wellFormed_L4_I a0 l41 y42 o) (a0 : TValue) (l41 : List (TKey × Bool)) (y42 : Int) (o : (Unit) ⊕ ((Unit) ⊕ Bool)) (h : (
      (if y42 < (a0.fItems.length : Int) then
        idx a0.fItems y42 >>= fun x47 =>
        m55 x47.fKey >>= fun v49 =>
        (if v49 = true then
          (if (mgd l41 x47.fKey false) = true then
            some (.inr (.inr false))
          else
            (if x47.fKey.fText = true then
              G66 x47.fVal >>= fun v59 =>
              (if v59 = true then
                F_m_i_wellFormed_L4 a0 (mput l41 x47.fKey true) (W64 (y42 + 1))
              else
                some (.inr (.inr false)))
            else
              (if x47.fKey.fNum ≥ a0.fNext then
                some (.inr (.inr false))
              else
                G66 x47.fVal >>= fun v55 =>
                (if v55 = true then
                  F_m_i_wellFormed_L4 a0 (mput l41 x47.fKey true) (W64 (y42 + 1))
                else
                  some (.inr (.inr false))))))
        else
          some (.inr (.inr false)))
      else
        some (.inl ()))
    ) = some o) : m_i_wellFormed_L4_I a0 l41 y42 o
theorem m_i_wellFormed_L4_ind {motive : TValue → (List (TKey × Bool)) → Int → ((Unit) ⊕ ((Unit) ⊕ Bool)) → Prop} (step : ∀ (G66 : TValue → Option (Bool)) (hG66 : ∀ a0 r, G66 a0 = some r → okS66 a0 r) (F_m_i_wellFormed_L4 : TValue → (List (TKey × Bool)) → Int → Option ((Unit) ⊕ ((Unit) ⊕ Bool))) (hF_m_i_wellFormed_L4 : ∀ a0 l41 y42 o, F_m_i_wellFormed_L4 a0 l41 y42 = some o → m_i_wellFormed_L4_I a0 l41 y42 o) (a0 : TValue) (l41 : List (TKey × Bool)) (y42 : Int) (o : (Unit) ⊕ ((Unit) ⊕ Bool)) (h : (
      (if y42 < (a0.fItems.length : Int) then
        idx a0.fItems y42 >>= fun x47 =>
        m55 x47.fKey >>= fun v49 =>
        (if v49 = true then
          (if (mgd l41 x47.fKey false) = true then
            some (.inr (.inr false))
          else
            (if x47.fKey.fText = true then
              G66 x47.fVal >>= fun v59 =>
              (if v59 = true then
                F_m_i_wellFormed_L4 a0 (mput l41 x47.fKey true) (W64 (y42 + 1))
              else
                some (.inr (.inr false)))
            else
              (if x47.fKey.fNum ≥ a0.fNext then
                some (.inr (.inr false))
              else
                G66 x47.fVal >>= fun v55 =>
                (if v55 = true then
                  F_m_i_wellFormed_L4 a0 (mput l41 x47.fKey true) (W64 (y42 + 1))
                else
                  some (.inr (.inr false))))))
        else
          some (.inr (.inr false)))
      else
        some (.inl ()))
    ) = some o) (ih : ∀ a0 l41 y42 o, F_m_i_wellFormed_L4 a0 l41 y42 = some o → motive a0 l41 y42 o), motive a0 l41 y42 o) : ∀ a0 l41 y42 o, m_i_wellFormed_L4_I a0 l41 y42 o → motive a0 l41 y42 o :=
  fun a0 l41 y42 o h => m_i_wellFormed_L4_I.rec (motive := fun a0 l41 y42 o _ => motive a0 l41 y42 o) step h
theorem grp__i_wellFormed : (∀ a0 r, m_i_wellFormed a0 = some r → okS66 a0 r) ∧ (∀ a0 l41 y42 o, m_i_wellFormed_L4 a0 l41 y42 = some o → m_i_wellFormed_L4_I a0 l41 y42 o) := by
  refine m_i_wellFormed.mutual_partial_correctness okS66 m_i_wellFormed_L4_I ?_ ?_
  · intro _ hI69 a0 r h
    refine ACall.of_vc tabT_ok mixed Tryd.func66 rfl (by kernel_rfl) _ _ _ rfl (by kernel_rfl) ?_
    refine .direct ?_
    obtain ⟨o1, ho2, hk3⟩ := bind_some h
    replace h := ho2
    refine .cut (fun σ η => .inl () = o1 ∧ σ = [(1, .optr 0 0 0 0)] ∧ η = [.row 0 5 1 26 (fun _ => [.int .i64 a0.fKind, .int .i64 a0.fNum, .str a0.fStr, .int .i64 a0.fNext, sl 8 TEntry.cells a0.fItems])]) ?_ ?_
    · refine .direct ?_
      refine ⟨rfl, ?_⟩
      refine ⟨rfl, _, rfl, ?_⟩
      refine splitB.mk (fun hb4 => ?_) (fun hb4 => ?_)
      · replace h := T_bne hb4 h
        refine ⟨rfl, ?_⟩
        refine splitB_t ?_
        refine ⟨rfl, _, rfl, ?_⟩
        refine splitB_t ?_
        refine splitB_t ?_
        refine splitB.mk (fun hb5 => ?_) (fun hb5 => ?_)
        · have hb9 := not_F hb5
          replace h := F_beq hb9 h
          refine splitB_t ?_
          refine splitB_t ?_
          refine splitB_t ?_
          refine splitB_t ?_
          refine splitB_t ?_
          refine splitB_t ?_
          refine .direct ?_
          obtain rfl := Option.some.inj h
          replace h := hk3
          obtain rfl := Option.some.inj h
          exact ⟨[], .bool false, [], by decide, (show 0 ≤ 0 by decide), .bool_eq rfl, trivial, rfl, rfl⟩
        · have hb9 := not_T hb5
          replace h := T_beq hb9 h
          refine ⟨rfl, ?_⟩
          refine splitB_f ?_
          refine ⟨rfl, _, rfl, ?_⟩
          refine splitB_f ?_
          refine splitB_f ?_
          refine splitB.mk (fun hb6 => ?_) (fun hb6 => ?_)
          · replace h := T_bne hb6 h
            refine ⟨rfl, ?_⟩
            refine splitB_t ?_
            refine ⟨rfl, _, rfl, ?_⟩
            refine splitB_t ?_
            refine splitB_t ?_
            refine splitB.mk (fun hb7 => ?_) (fun hb7 => ?_)
            · replace h := T_bne hb7 h
              refine splitB_t ?_
              refine splitB_t ?_
              refine splitB_t ?_
              refine splitB_t ?_
              refine splitB_t ?_
              refine splitB_f ?_
              refine splitB_t ?_
              refine splitB_f ?_
              refine splitB_t ?_
              refine .direct ?_
              obtain rfl := Option.some.inj h
              replace h := hk3
              obtain rfl := Option.some.inj h
              exact ⟨[], .bool false, [], by decide, (show 0 ≤ 0 by decide), .bool_eq rfl, trivial, rfl, rfl⟩
            · replace h := F_bne hb7 h
              refine ⟨rfl, ?_⟩
              refine splitB_f ?_
              refine ⟨rfl, _, rfl, ?_⟩
              refine splitB_f ?_
              refine splitB_f ?_
              refine splitB_t ?_
              refine splitB_f ?_
              refine splitB_f ?_
              refine splitB_t ?_
              refine splitB_f ?_
              refine splitB.mk (fun hb8 => ?_) (fun hb8 => ?_)
              · replace h := T_dec hb8 h
                refine .direct ?_
                obtain rfl := Option.some.inj h
                replace h := hk3
                obtain rfl := Option.some.inj h
                exact ⟨[], .bool false, [], by decide, (show 0 ≤ 0 by decide), .bool_eq rfl, trivial, rfl, rfl⟩
              · replace h := F_dec hb8 h
                exact ⟨[(1, .optr 0 0 0 0)], [.row 0 5 1 26 (fun _ => [.int .i64 a0.fKind, .int .i64 a0.fNum, .str a0.fStr, .int .i64 a0.fNext, sl 8 TEntry.cells a0.fItems])], ⟨[0], by decide, (show 0 ≤ 1 by decide), ⟨.optr_eq rfl ⟨_, _, _, _, rfl⟩ ⟨_, _, _, _, rfl⟩ rfl rfl, trivial⟩, ⟨⟨fun h0 => absurd (show 0 < 0 from h0) (by decide), rfl, rfl, rfl, fun _ _ => ⟨.int_eq rfl, .int_eq rfl, .str_eq rfl, .int_eq rfl, .slc_eq rfl (fun _ _ => rfl), trivial⟩⟩, trivial⟩⟩, Option.some.inj h, rfl, rfl⟩
          · replace h := F_bne hb6 h
            refine splitB_f ?_
            refine splitB_f ?_
            refine splitB_f ?_
            refine splitB_f ?_
            refine splitB_f ?_
            refine splitB_f ?_
            refine splitB_f ?_
            refine splitB_f ?_
            exact ⟨[(1, .optr 0 0 0 0)], [.row 0 5 1 26 (fun _ => [.int .i64 a0.fKind, .int .i64 a0.fNum, .str a0.fStr, .int .i64 a0.fNext, sl 8 TEntry.cells a0.fItems])], ⟨[0], by decide, (show 0 ≤ 1 by decide), ⟨.optr_eq rfl ⟨_, _, _, _, rfl⟩ ⟨_, _, _, _, rfl⟩ rfl rfl, trivial⟩, ⟨⟨fun h0 => absurd (show 0 < 0 from h0) (by decide), rfl, rfl, rfl, fun _ _ => ⟨.int_eq rfl, .int_eq rfl, .str_eq rfl, .int_eq rfl, .slc_eq rfl (fun _ _ => rfl), trivial⟩⟩, trivial⟩⟩, Option.some.inj h, rfl, rfl⟩
      · replace h := F_bne hb4 h
        refine splitB_f ?_
        refine splitB_f ?_
        refine splitB_f ?_
        refine splitB_f ?_
        refine ⟨rfl, ?_⟩
        refine splitB_f ?_
        refine ⟨rfl, _, rfl, ?_⟩
        refine splitB_f ?_
        refine splitB_f ?_
        refine splitB.mk (fun hb10 => ?_) (fun hb10 => ?_)
        · replace h := T_bne hb10 h
          refine ⟨rfl, ?_⟩
          refine splitB_t ?_
          refine ⟨rfl, _, rfl, ?_⟩
          refine splitB_t ?_
          refine splitB_t ?_
          refine splitB.mk (fun hb11 => ?_) (fun hb11 => ?_)
          · replace h := T_bne hb11 h
            refine splitB_t ?_
            refine splitB_t ?_
            refine splitB_t ?_
            refine splitB_t ?_
            refine splitB_t ?_
            refine splitB_f ?_
            refine splitB_t ?_
            refine splitB_f ?_
            refine splitB_t ?_
            refine .direct ?_
            obtain rfl := Option.some.inj h
            replace h := hk3
            obtain rfl := Option.some.inj h
            exact ⟨[], .bool false, [], by decide, (show 0 ≤ 0 by decide), .bool_eq rfl, trivial, rfl, rfl⟩
          · replace h := F_bne hb11 h
            refine ⟨rfl, ?_⟩
            refine splitB_f ?_
            refine ⟨rfl, _, rfl, ?_⟩
            refine splitB_f ?_
            refine splitB_f ?_
            refine splitB_t ?_
            refine splitB_f ?_
            refine splitB_f ?_
            refine splitB_t ?_
            refine splitB_f ?_
            refine splitB.mk (fun hb12 => ?_) (fun hb12 => ?_)
            · replace h := T_dec hb12 h
              refine .direct ?_
              obtain rfl := Option.some.inj h
              replace h := hk3
              obtain rfl := Option.some.inj h
              exact ⟨[], .bool false, [], by decide, (show 0 ≤ 0 by decide), .bool_eq rfl, trivial, rfl, rfl⟩
            · replace h := F_dec hb12 h
              exact ⟨[(1, .optr 0 0 0 0)], [.row 0 5 1 26 (fun _ => [.int .i64 a0.fKind, .int .i64 a0.fNum, .str a0.fStr, .int .i64 a0.fNext, sl 8 TEntry.cells a0.fItems])], ⟨[0], by decide, (show 0 ≤ 1 by decide), ⟨.optr_eq rfl ⟨_, _, _, _, rfl⟩ ⟨_, _, _, _, rfl⟩ rfl rfl, trivial⟩, ⟨⟨fun h0 => absurd (show 0 < 0 from h0) (by decide), rfl, rfl, rfl, fun _ _ => ⟨.int_eq rfl, .int_eq rfl, .str_eq rfl, .int_eq rfl, .slc_eq rfl (fun _ _ => rfl), trivial⟩⟩, trivial⟩⟩, Option.some.inj h, rfl, rfl⟩
        · replace h := F_bne hb10 h
          refine splitB_f ?_
          refine splitB_f ?_
          refine splitB_f ?_
          refine splitB_f ?_
          refine splitB_f ?_
          refine splitB_f ?_
          refine splitB_f ?_
          refine splitB_f ?_
          exact ⟨[(1, .optr 0 0 0 0)], [.row 0 5 1 26 (fun _ => [.int .i64 a0.fKind, .int .i64 a0.fNum, .str a0.fStr, .int .i64 a0.fNext, sl 8 TEntry.cells a0.fItems])], ⟨[0], by decide, (show 0 ≤ 1 by decide), ⟨.optr_eq rfl ⟨_, _, _, _, rfl⟩ ⟨_, _, _, _, rfl⟩ rfl rfl, trivial⟩, ⟨⟨fun h0 => absurd (show 0 < 0 from h0) (by decide), rfl, rfl, rfl, fun _ _ => ⟨.int_eq rfl, .int_eq rfl, .str_eq rfl, .int_eq rfl, .slc_eq rfl (fun _ _ => rfl), trivial⟩⟩, trivial⟩⟩, Option.some.inj h, rfl, rfl⟩
    · rintro _ _ ⟨rfl, rfl, rfl⟩
      replace h := hk3
      obtain ⟨o13, ho14, hk15⟩ := bind_some h
      replace h := ho14
      refine .cut (fun σ η => .inl () = o13 ∧ σ = [] ∧ η = []) ?_ ?_
      · refine .direct ?_
        refine ⟨rfl, ?_⟩
        refine ⟨rfl, _, rfl, ?_⟩
        refine .direct ?_
        refine splitB.mk (fun hb16 => ?_) (fun hb16 => ?_)
        · replace h := T_beq hb16 h
          refine .direct ?_
          refine ⟨rfl, ?_⟩
          refine ⟨rfl, _, rfl, ?_⟩
          obtain rfl := Option.some.inj h
          replace h := hk15
          obtain rfl := Option.some.inj h
          exact ⟨[], .bool (a0.fNum == 0), [], by decide, (show 0 ≤ 0 by decide), .bool_eq rfl, trivial, rfl, rfl⟩
        · replace h := F_beq hb16 h
          refine .direct ?_
          refine splitB.mk (fun hb17 => ?_) (fun hb17 => ?_)
          · replace h := T_beq hb17 h
            refine .direct ?_
            refine ⟨rfl, ?_⟩
            refine ⟨rfl, _, rfl, ?_⟩
            refine splitB.mk (fun hb18 => ?_) (fun hb18 => ?_)
            · replace h := T_beq hb18 h
              refine splitB_t ?_
              refine splitB_t ?_
              refine splitB_t ?_
              obtain rfl := Option.some.inj h
              replace h := hk15
              obtain rfl := Option.some.inj h
              exact ⟨[], .bool true, [], by decide, (show 0 ≤ 0 by decide), .bool_eq rfl, trivial, rfl, rfl⟩
            · replace h := F_beq hb18 h
              refine ⟨rfl, ?_⟩
              refine splitB_f ?_
              refine ⟨rfl, _, rfl, ?_⟩
              refine splitB_f ?_
              refine splitB_f ?_
              obtain rfl := Option.some.inj h
              replace h := hk15
              obtain rfl := Option.some.inj h
              exact ⟨[], .bool (a0.fNum == 1), [], by decide, (show 0 ≤ 0 by decide), .bool_eq rfl, trivial, rfl, rfl⟩
          · replace h := F_beq hb17 h
            refine .direct ?_
            refine splitB.mk (fun hb19 => ?_) (fun hb19 => ?_)
            · replace h := T_beq hb19 h
              refine .direct ?_
              refine ⟨rfl, ?_⟩
              refine ⟨rfl, _, rfl, ?_⟩
              obtain ⟨v20, hv21, h⟩ := bind_some h
              refine ⟨_, ACall.pure0 (ok92 hv21) _ rfl (fun _ => rfl), ?_⟩
              rintro _ _ ⟨rfl, rfl⟩
              obtain rfl := Option.some.inj h
              replace h := hk15
              obtain rfl := Option.some.inj h
              exact ⟨[], .bool v20, [], by decide, (show 0 ≤ 0 by decide), .bool_eq rfl, trivial, rfl, rfl⟩
            · replace h := F_beq hb19 h
              refine .direct ?_
              refine splitB.mk (fun hb22 => ?_) (fun hb22 => ?_)
              · replace h := T_beq hb22 h
                refine .direct ?_
                refine ⟨rfl, ?_⟩
                refine ⟨rfl, _, rfl, ?_⟩
                refine splitB.mk (fun hb23 => ?_) (fun hb23 => ?_)
                · replace h := T_beq hb23 h
                  refine ⟨rfl, ?_⟩
                  refine splitB_t ?_
                  refine ⟨rfl, _, rfl, ?_⟩
                  refine splitB_t ?_
                  refine splitB_t ?_
                  refine splitB_t ?_
                  obtain rfl := Option.some.inj h
                  replace h := hk15
                  obtain rfl := Option.some.inj h
                  exact ⟨[], .bool (decide ((a0.fStr.length : Int) ≤ 400)), [], by decide, (show 0 ≤ 0 by decide), .bool_eq rfl, trivial, rfl, rfl⟩
                · replace h := F_beq hb23 h
                  refine splitB_f ?_
                  refine splitB_f ?_
                  refine splitB_f ?_
                  refine splitB_f ?_
                  obtain rfl := Option.some.inj h
                  replace h := hk15
                  obtain rfl := Option.some.inj h
                  exact ⟨[], .bool false, [], by decide, (show 0 ≤ 0 by decide), .bool_eq rfl, trivial, rfl, rfl⟩
              · replace h := F_beq hb22 h
                obtain ⟨o25, ho26, hk27⟩ := bind_some h
                replace h := ho26
                refine .cut (fun σ η => ∃ b24, b24 = o25 ∧ σ = [(1, .optr 0 0 0 0), (31, .int .i64 a0.fKind), (63, .bool b24)] ∧ η = [.row 0 5 1 26 (fun _ => [.int .i64 a0.fKind, .int .i64 a0.fNum, .str a0.fStr, .int .i64 a0.fNext, sl 8 TEntry.cells a0.fItems])]) ?_ ?_
                · refine .direct ?_
                  refine splitB.mk (fun hb28 => ?_) (fun hb28 => ?_)
                  · replace h := T_beq hb28 h
                    exact ⟨[(1, .optr 0 0 0 0), (31, .int .i64 a0.fKind), (63, .bool (a0.fKind == 6))], [.row 0 5 1 26 (fun _ => [.int .i64 a0.fKind, .int .i64 a0.fNum, .str a0.fStr, .int .i64 a0.fNext, sl 8 TEntry.cells a0.fItems])], ⟨[0], by decide, (show 0 ≤ 1 by decide), ⟨.optr_eq rfl ⟨_, _, _, _, rfl⟩ ⟨_, _, _, _, rfl⟩ rfl rfl, .int_eq rfl, .bool_eq rfl, trivial⟩, ⟨⟨fun h0 => absurd (show 0 < 0 from h0) (by decide), rfl, rfl, rfl, fun _ _ => ⟨.int_eq rfl, .int_eq rfl, .str_eq rfl, .int_eq rfl, .slc_eq rfl (fun _ _ => rfl), trivial⟩⟩, trivial⟩⟩, (a0.fKind == 6), Option.some.inj h, rfl, rfl⟩
                  · replace h := F_beq hb28 h
                    refine .direct ?_
                    refine splitB.mk (fun hb29 => ?_) (fun hb29 => ?_)
                    · replace h := T_beq hb29 h
                      exact ⟨[(1, .optr 0 0 0 0), (31, .int .i64 a0.fKind), (63, .bool (a0.fKind == 7))], [.row 0 5 1 26 (fun _ => [.int .i64 a0.fKind, .int .i64 a0.fNum, .str a0.fStr, .int .i64 a0.fNext, sl 8 TEntry.cells a0.fItems])], ⟨[0], by decide, (show 0 ≤ 1 by decide), ⟨.optr_eq rfl ⟨_, _, _, _, rfl⟩ ⟨_, _, _, _, rfl⟩ rfl rfl, .int_eq rfl, .bool_eq rfl, trivial⟩, ⟨⟨fun h0 => absurd (show 0 < 0 from h0) (by decide), rfl, rfl, rfl, fun _ _ => ⟨.int_eq rfl, .int_eq rfl, .str_eq rfl, .int_eq rfl, .slc_eq rfl (fun _ _ => rfl), trivial⟩⟩, trivial⟩⟩, (a0.fKind == 7), Option.some.inj h, rfl, rfl⟩
                    · replace h := F_beq hb29 h
                      exact ⟨[(1, .optr 0 0 0 0), (31, .int .i64 a0.fKind), (63, .bool (a0.fKind == 8))], [.row 0 5 1 26 (fun _ => [.int .i64 a0.fKind, .int .i64 a0.fNum, .str a0.fStr, .int .i64 a0.fNext, sl 8 TEntry.cells a0.fItems])], ⟨[0], by decide, (show 0 ≤ 1 by decide), ⟨.optr_eq rfl ⟨_, _, _, _, rfl⟩ ⟨_, _, _, _, rfl⟩ rfl rfl, .int_eq rfl, .bool_eq rfl, trivial⟩, ⟨⟨fun h0 => absurd (show 0 < 0 from h0) (by decide), rfl, rfl, rfl, fun _ _ => ⟨.int_eq rfl, .int_eq rfl, .str_eq rfl, .int_eq rfl, .slc_eq rfl (fun _ _ => rfl), trivial⟩⟩, trivial⟩⟩, (a0.fKind == 8), Option.some.inj h, rfl, rfl⟩
                · rintro _ _ ⟨b24, rfl, rfl, rfl⟩
                  replace h := hk27
                  refine splitB.mk (fun hb30 => ?_) (fun hb30 => ?_)
                  · replace h := T_var hb30 h
                    refine .direct ?_
                    refine ⟨rfl, ?_⟩
                    refine ⟨rfl, _, rfl, ?_⟩
                    obtain ⟨v31, hv32, h⟩ := bind_some h
                    refine ⟨_, ACall.pure0 (ok92 hv32) _ rfl (fun _ => rfl), ?_⟩
                    rintro _ _ ⟨rfl, rfl⟩
                    obtain rfl := Option.some.inj h
                    replace h := hk15
                    obtain rfl := Option.some.inj h
                    exact ⟨[], .bool v31, [], by decide, (show 0 ≤ 0 by decide), .bool_eq rfl, trivial, rfl, rfl⟩
                  · replace h := F_var hb30 h
                    refine .direct ?_
                    refine splitB.mk (fun hb33 => ?_) (fun hb33 => ?_)
                    · replace h := T_beq hb33 h
                      refine .direct ?_
                      refine .direct ?_
                      refine ⟨rfl, ?_⟩
                      refine ⟨rfl, _, rfl, ?_⟩
                      refine splitB.mk (fun hb34 => ?_) (fun hb34 => ?_)
                      · replace h := T_bne hb34 h
                        refine splitB_t ?_
                        refine splitB_t ?_
                        refine splitB_t ?_
                        refine splitB_t ?_
                        refine splitB_t ?_
                        refine .direct ?_
                        obtain rfl := Option.some.inj h
                        replace h := hk15
                        obtain rfl := Option.some.inj h
                        exact ⟨[], .bool false, [], by decide, (show 0 ≤ 0 by decide), .bool_eq rfl, trivial, rfl, rfl⟩
                      · replace h := F_bne hb34 h
                        refine ⟨rfl, ?_⟩
                        refine splitB_f ?_
                        refine ⟨rfl, _, rfl, ?_⟩
                        refine splitB_f ?_
                        obtain ⟨v35, hv36, h⟩ := bind_some h
                        refine ⟨_, ACall.pure0 (ok92 hv36) _ rfl (fun _ => rfl), ?_⟩
                        rintro _ _ ⟨rfl, rfl⟩
                        refine splitB_f ?_
                        refine splitB_f ?_
                        refine splitB.mk (fun hb37 => ?_) (fun hb37 => ?_)
                        · have hb70 := not_F hb37
                          replace h := F_var hb70 h
                          refine .direct ?_
                          obtain rfl := Option.some.inj h
                          replace h := hk15
                          obtain rfl := Option.some.inj h
                          exact ⟨[], .bool false, [], by decide, (show 0 ≤ 0 by decide), .bool_eq rfl, trivial, rfl, rfl⟩
                        · have hb70 := not_T hb37
                          replace h := T_var hb70 h
                          refine .direct ?_
                          refine ⟨row (mc (fun x : TKey => PV.agg x.lit) (PV.bool)) ([] : List (TKey × Bool)), ?_⟩
                          obtain ⟨o38, ho39, hk40⟩ := bind_some h
                          replace h := ho39
                          refine .cut (fun σ η => .inl () = o38 ∧ σ = [] ∧ η = []) ?_ ?_
                          · refine .direct ?_
                            refine ⟨rfl, ?_⟩
                            refine ⟨rfl, _, rfl, ?_⟩
                            have hL68 := hI69 _ _ _ _ h
                            refine LoopAt.enter [(1, .optr 0 0 0 0), (3, .omp 1), (83, sl 8 TEntry.cells a0.fItems), (84, .int .i64 (a0.fItems.length : Int)), (85, .int .i64 0)] [.row 0 5 1 26 (fun _ => [.int .i64 a0.fKind, .int .i64 a0.fNum, .str a0.fStr, .int .i64 a0.fNext, sl 8 TEntry.cells a0.fItems]), .row 0 2 ([] : List (TKey × Bool)).length 116 (row (mc (fun x : TKey => PV.agg x.lit) (PV.bool)) ([] : List (TKey × Bool)))] ⟨[0, 1], by decide, (show 0 ≤ 2 by decide), ⟨.optr_eq rfl ⟨_, _, _, _, rfl⟩ ⟨_, _, _, _, rfl⟩ rfl rfl, .omp_eq rfl ⟨_, _, _, _, _, rfl⟩ ⟨_, _, _, _, _, rfl⟩, .slc_eq rfl (fun _ _ => rfl), .int_eq rfl, .int_eq rfl, trivial⟩, ⟨⟨fun h0 => absurd (show 0 < 0 from h0) (by decide), rfl, rfl, rfl, fun _ _ => ⟨.int_eq rfl, .int_eq rfl, .str_eq rfl, .int_eq rfl, .slc_eq rfl (fun _ _ => rfl), trivial⟩⟩, ⟨fun h0 => absurd (show 1 < 0 from h0) (by decide), rfl, rfl, rfl, fz_mrow (fun _ => rfl) (fun _ => rfl)⟩, trivial⟩⟩ ?_
                            refine m_i_wellFormed_L4_ind (motive := fun p67 l41 y42 o65 => a0 = p67 → o38 = o65 → LoopAt _ _ [(1, .optr 0 0 0 0), (3, .omp 1), (83, sl 8 TEntry.cells a0.fItems), (84, .int .i64 (a0.fItems.length : Int)), (85, .int .i64 y42)] [.row 0 5 1 26 (fun _ => [.int .i64 a0.fKind, .int .i64 a0.fNum, .str a0.fStr, .int .i64 a0.fNext, sl 8 TEntry.cells a0.fItems]), .row 0 2 l41.length 116 (row (mc (fun x : TKey => PV.agg x.lit) (PV.bool)) l41)]) ?_ a0 ([] : List (TKey × Bool)) 0 o38 hL68 rfl rfl
                            intro _ hG45 _ _ p67 l41 y42 o65 h ih43  hp_p67 hr66
                            subst hp_p67
                            subst hr66
                            refine LoopAt.round ?_
                            refine .direct ?_
                            refine .direct ?_
                            refine splitB.mk (fun hb46 => ?_) (fun hb46 => ?_)
                            · replace h := T_dec hb46 h
                              refine .direct ?_
                              refine .direct ?_
                              obtain ⟨x47, hx48, h⟩ := bind_some h
                              refine ⟨idx_bd hx48, _, (idx_row hx48).trans (TEntry.cells_eq x47), ?_⟩
                              refine ⟨rfl, _, fun _ => [.bool x47.fKey.fText, .int .i64 x47.fKey.fNum, .str x47.fKey.fStr, .int .i64 x47.fVal.fKind, .int .i64 x47.fVal.fNum, .str x47.fVal.fStr, .int .i64 x47.fVal.fNext, sl 8 TEntry.cells x47.fVal.fItems], rfl, one_set rfl, ?_⟩
                              refine .direct ?_
                              refine .direct ?_
                              refine ⟨rfl, ?_⟩
                              refine ⟨rfl, _, rfl, ?_⟩
                              obtain ⟨v49, hv50, h⟩ := bind_some h
                              refine ⟨_, ACall.pure0 (ok55 hv50) _ rfl (fun _ => rfl), ?_⟩
                              rintro _ _ ⟨rfl, rfl⟩
                              refine splitB.mk (fun hb51 => ?_) (fun hb51 => ?_)
                              · have hb64 := not_F hb51
                                replace h := F_var hb64 h
                                refine splitB_t ?_
                                refine splitB_t ?_
                                refine splitB_t ?_
                                refine splitB_t ?_
                                refine splitB_t ?_
                                refine splitB_t ?_
                                refine splitB_t ?_
                                refine splitB_t ?_
                                refine splitB_t ?_
                                refine splitB_t ?_
                                refine splitB_t ?_
                                refine splitB_t ?_
                                refine splitB_t ?_
                                refine splitB_t ?_
                                refine splitB_t ?_
                                refine splitB_t ?_
                                refine splitB_t ?_
                                refine .direct ?_
                                obtain rfl := Option.some.inj h
                                replace h := hk40
                                obtain rfl := Option.some.inj h
                                replace h := hk15
                                obtain rfl := Option.some.inj h
                                exact ⟨[], .bool false, [], by decide, (show 0 ≤ 0 by decide), .bool_eq rfl, trivial, rfl, rfl⟩
                              · have hb64 := not_T hb51
                                replace h := T_var hb64 h
                                refine splitB_f ?_
                                refine ⟨rfl, ?_⟩
                                refine splitB_f ?_
                                refine ⟨rfl, _, rfl, ?_⟩
                                refine splitB_f ?_
                                refine ⟨.bool (mgd l41 x47.fKey false), mhas l41 x47.fKey, mlook_of (ti := tabT.get 32) (c := fun x : TKey => PV.agg x.lit) (d := PV.bool) (fun x y => congrArg some (TKey.eq_cells x y)) l41 x47.fKey false, ?_⟩
                                refine splitB_f ?_
                                refine splitB.mk (fun hb52 => ?_) (fun hb52 => ?_)
                                · replace h := T_var hb52 h
                                  refine splitB_t ?_
                                  refine splitB_t ?_
                                  refine splitB_t ?_
                                  refine splitB_t ?_
                                  refine splitB_t ?_
                                  refine splitB_t ?_
                                  refine splitB_t ?_
                                  refine splitB_t ?_
                                  refine splitB_t ?_
                                  refine splitB_t ?_
                                  refine splitB_t ?_
                                  refine splitB_t ?_
                                  refine .direct ?_
                                  obtain rfl := Option.some.inj h
                                  replace h := hk40
                                  obtain rfl := Option.some.inj h
                                  replace h := hk15
                                  obtain rfl := Option.some.inj h
                                  exact ⟨[], .bool false, [], by decide, (show 0 ≤ 0 by decide), .bool_eq rfl, trivial, rfl, rfl⟩
                                · replace h := F_var hb52 h
                                  refine ⟨rfl, ?_⟩
                                  refine splitB_f ?_
                                  refine ⟨rfl, ?_⟩
                                  refine splitB_f ?_
                                  refine ⟨rfl, _, rfl, ?_⟩
                                  refine splitB_f ?_
                                  refine splitB_f ?_
                                  refine splitB.mk (fun hb53 => ?_) (fun hb53 => ?_)
                                  · have hb63 := not_F hb53
                                    replace h := F_var hb63 h
                                    refine ⟨rfl, ?_⟩
                                    refine splitB_t ?_
                                    refine ⟨rfl, ?_⟩
                                    refine splitB_t ?_
                                    refine ⟨rfl, _, rfl, ?_⟩
                                    refine splitB_t ?_
                                    refine ⟨rfl, ?_⟩
                                    refine splitB_t ?_
                                    refine ⟨rfl, _, rfl, ?_⟩
                                    refine splitB_t ?_
                                    refine splitB_f ?_
                                    refine splitB_t ?_
                                    refine splitB_f ?_
                                    refine splitB.mk (fun hb54 => ?_) (fun hb54 => ?_)
                                    · replace h := T_dec hb54 h
                                      refine splitB_t ?_
                                      refine splitB_t ?_
                                      refine splitB_t ?_
                                      refine splitB_t ?_
                                      refine splitB_t ?_
                                      refine .direct ?_
                                      obtain rfl := Option.some.inj h
                                      replace h := hk40
                                      obtain rfl := Option.some.inj h
                                      replace h := hk15
                                      obtain rfl := Option.some.inj h
                                      exact ⟨[], .bool false, [], by decide, (show 0 ≤ 0 by decide), .bool_eq rfl, trivial, rfl, rfl⟩
                                    · replace h := F_dec hb54 h
                                      refine ⟨rfl, ?_⟩
                                      refine splitB_f ?_
                                      refine ⟨rfl, _, rfl, ?_⟩
                                      refine splitB_f ?_
                                      obtain ⟨v55, hv56, h⟩ := bind_some h
                                      refine ⟨_, ACall.pure0 (hG45 _ _ hv56) _ rfl (fun _ => rfl), ?_⟩
                                      rintro _ _ ⟨rfl, rfl⟩
                                      refine splitB_f ?_
                                      refine splitB_f ?_
                                      refine splitB.mk (fun hb57 => ?_) (fun hb57 => ?_)
                                      · have hb58 := not_F hb57
                                        replace h := F_var hb58 h
                                        refine .direct ?_
                                        obtain rfl := Option.some.inj h
                                        replace h := hk40
                                        obtain rfl := Option.some.inj h
                                        replace h := hk15
                                        obtain rfl := Option.some.inj h
                                        exact ⟨[], .bool false, [], by decide, (show 0 ≤ 0 by decide), .bool_eq rfl, trivial, rfl, rfl⟩
                                      · have hb58 := not_T hb57
                                        replace h := T_var hb58 h
                                        refine ⟨rfl, ?_⟩
                                        refine ⟨rfl, _, rfl, ?_⟩
                                        refine ⟨(mput l41 x47.fKey true).length, row (mc (fun x : TKey => PV.agg x.lit) (PV.bool)) (mput l41 x47.fKey true), mupd_of (ti := tabT.get 32) (c := fun x : TKey => PV.agg x.lit) (d := PV.bool) (fun x y => congrArg some (TKey.eq_cells x y)) l41 x47.fKey true, ?_⟩
                                        exact ⟨[(1, .optr 0 0 0 0), (3, .omp 1), (83, sl 8 TEntry.cells a0.fItems), (84, .int .i64 (a0.fItems.length : Int)), (85, .int .i64 (W64 (y42 + 1)))], [.row 0 5 1 26 (fun _ => [.int .i64 a0.fKind, .int .i64 a0.fNum, .str a0.fStr, .int .i64 a0.fNext, sl 8 TEntry.cells a0.fItems]), .row 0 2 (mput l41 x47.fKey true).length 116 (row (mc (fun x : TKey => PV.agg x.lit) (PV.bool)) (mput l41 x47.fKey true))], ⟨[0, 1], by decide, (show 0 ≤ 2 by decide), ⟨.optr_eq rfl ⟨_, _, _, _, rfl⟩ ⟨_, _, _, _, rfl⟩ rfl rfl, .omp_eq rfl ⟨_, _, _, _, _, rfl⟩ ⟨_, _, _, _, _, rfl⟩, .slc_eq rfl (fun _ _ => rfl), .int_eq rfl, .int_eq rfl, trivial⟩, ⟨⟨fun h0 => absurd (show 0 < 0 from h0) (by decide), rfl, rfl, rfl, fun _ _ => ⟨.int_eq rfl, .int_eq rfl, .str_eq rfl, .int_eq rfl, .slc_eq rfl (fun _ _ => rfl), trivial⟩⟩, ⟨fun h0 => absurd (show 1 < 0 from h0) (by decide), rfl, rfl, rfl, fz_mrow (fun _ => rfl) (fun _ => rfl)⟩, trivial⟩⟩, ih43 _ _ _ _ h rfl rfl⟩
                                  · have hb63 := not_T hb53
                                    replace h := T_var hb63 h
                                    refine splitB_f ?_
                                    refine splitB_f ?_
                                    refine splitB_f ?_
                                    refine splitB_f ?_
                                    refine splitB_f ?_
                                    refine splitB_f ?_
                                    refine splitB_f ?_
                                    refine splitB_f ?_
                                    refine splitB_f ?_
                                    refine ⟨rfl, ?_⟩
                                    refine splitB_f ?_
                                    refine ⟨rfl, _, rfl, ?_⟩
                                    refine splitB_f ?_
                                    obtain ⟨v59, hv60, h⟩ := bind_some h
                                    refine ⟨_, ACall.pure0 (hG45 _ _ hv60) _ rfl (fun _ => rfl), ?_⟩
                                    rintro _ _ ⟨rfl, rfl⟩
                                    refine splitB_f ?_
                                    refine splitB_f ?_
                                    refine splitB.mk (fun hb61 => ?_) (fun hb61 => ?_)
                                    · have hb62 := not_F hb61
                                      replace h := F_var hb62 h
                                      refine .direct ?_
                                      obtain rfl := Option.some.inj h
                                      replace h := hk40
                                      obtain rfl := Option.some.inj h
                                      replace h := hk15
                                      obtain rfl := Option.some.inj h
                                      exact ⟨[], .bool false, [], by decide, (show 0 ≤ 0 by decide), .bool_eq rfl, trivial, rfl, rfl⟩
                                    · have hb62 := not_T hb61
                                      replace h := T_var hb62 h
                                      refine ⟨rfl, ?_⟩
                                      refine ⟨rfl, _, rfl, ?_⟩
                                      refine ⟨(mput l41 x47.fKey true).length, row (mc (fun x : TKey => PV.agg x.lit) (PV.bool)) (mput l41 x47.fKey true), mupd_of (ti := tabT.get 32) (c := fun x : TKey => PV.agg x.lit) (d := PV.bool) (fun x y => congrArg some (TKey.eq_cells x y)) l41 x47.fKey true, ?_⟩
                                      exact ⟨[(1, .optr 0 0 0 0), (3, .omp 1), (83, sl 8 TEntry.cells a0.fItems), (84, .int .i64 (a0.fItems.length : Int)), (85, .int .i64 (W64 (y42 + 1)))], [.row 0 5 1 26 (fun _ => [.int .i64 a0.fKind, .int .i64 a0.fNum, .str a0.fStr, .int .i64 a0.fNext, sl 8 TEntry.cells a0.fItems]), .row 0 2 (mput l41 x47.fKey true).length 116 (row (mc (fun x : TKey => PV.agg x.lit) (PV.bool)) (mput l41 x47.fKey true))], ⟨[0, 1], by decide, (show 0 ≤ 2 by decide), ⟨.optr_eq rfl ⟨_, _, _, _, rfl⟩ ⟨_, _, _, _, rfl⟩ rfl rfl, .omp_eq rfl ⟨_, _, _, _, _, rfl⟩ ⟨_, _, _, _, _, rfl⟩, .slc_eq rfl (fun _ _ => rfl), .int_eq rfl, .int_eq rfl, trivial⟩, ⟨⟨fun h0 => absurd (show 0 < 0 from h0) (by decide), rfl, rfl, rfl, fun _ _ => ⟨.int_eq rfl, .int_eq rfl, .str_eq rfl, .int_eq rfl, .slc_eq rfl (fun _ _ => rfl), trivial⟩⟩, ⟨fun h0 => absurd (show 1 < 0 from h0) (by decide), rfl, rfl, rfl, fz_mrow (fun _ => rfl) (fun _ => rfl)⟩, trivial⟩⟩, ih43 _ _ _ _ h rfl rfl⟩
                            · replace h := F_dec hb46 h
                              exact ⟨[], [], ⟨[], by decide, (show 0 ≤ 0 by decide), trivial, trivial⟩, Option.some.inj h, rfl, rfl⟩
                          · rintro _ _ ⟨rfl, rfl, rfl⟩
                            replace h := hk40
                            refine .direct ?_
                            obtain rfl := Option.some.inj h
                            replace h := hk15
                            obtain rfl := Option.some.inj h
                            exact ⟨[], .bool true, [], by decide, (show 0 ≤ 0 by decide), .bool_eq rfl, trivial, rfl, rfl⟩
                    · replace h := F_beq hb33 h
                      exact ⟨[], [], ⟨[], by decide, (show 0 ≤ 0 by decide), trivial, trivial⟩, Option.some.inj h, rfl, rfl⟩
      · rintro _ _ ⟨rfl, rfl, rfl⟩
        replace h := hk15
        refine .direct ?_
        obtain rfl := Option.some.inj h
        exact ⟨[], .bool false, [], by decide, (show 0 ≤ 0 by decide), .bool_eq rfl, trivial, rfl, rfl⟩
  · intro F0 F1 hF0 hF1 a0 l41 y42 o h
    exact .mk F0 hF0 F1 hF1 a0 l41 y42 o h
theorem ok_i_wellFormed {a0 : TValue} {r : Bool} (h : m_i_wellFormed a0 = some r) : ACall Tryd.prog 66 [.agg [.int .i64 a0.fKind, .int .i64 a0.fNum, .str a0.fStr, .int .i64 a0.fNext, sl 8 TEntry.cells a0.fItems]] [] (fun res h => res = .bool r ∧ h = []) := grp__i_wellFormed.1 a0 r h
def m_i_IsValue (a0 : TValue) : Option (Bool) :=
  m_i_Weight a0 >>= fun v1 =>
  (if v1 ≤ 200 then
    m_i_wellFormed a0 >>= fun v4 =>
    some v4
  else
    some false)
theorem ok_i_IsValue {a0 : TValue} {r : Bool} (h : m_i_IsValue a0 = some r) : ACall Tryd.prog 28 [.agg [.int .i64 a0.fKind, .int .i64 a0.fNum, .str a0.fStr, .int .i64 a0.fNext, sl 8 TEntry.cells a0.fItems]] [] (fun res h => res = .bool r ∧ h = []) := by
  refine ACall.of_vc tabT_ok mixed Tryd.func28 rfl (by kernel_rfl) _ _ _ rfl (by kernel_rfl) ?_
  unfold m_i_IsValue at h
  refine .direct ?_
  refine .direct ?_
  refine ⟨rfl, _, rfl, ?_⟩
  obtain ⟨v1, hv2, h⟩ := bind_some h
  refine ⟨_, ACall.pure0 (ok_i_Weight hv2) _ rfl (fun _ => rfl), ?_⟩
  rintro _ _ ⟨rfl, rfl⟩
  refine splitB.mk (fun hb3 => ?_) (fun hb3 => ?_)
  · replace h := T_dec hb3 h
    refine ⟨rfl, _, rfl, ?_⟩
    refine splitB_t ?_
    obtain ⟨v4, hv5, h⟩ := bind_some h
    refine ⟨_, ACall.pure0 (ok_i_wellFormed hv5) _ rfl (fun _ => rfl), ?_⟩
    rintro _ _ ⟨rfl, rfl⟩
    refine splitB_t ?_
    obtain rfl := Option.some.inj h
    exact ⟨[], .bool v4, [], by decide, (show 0 ≤ 0 by decide), .bool_eq rfl, trivial, rfl, rfl⟩
  · replace h := F_dec hb3 h
    refine splitB_f ?_
    refine splitB_f ?_
    obtain rfl := Option.some.inj h
    exact ⟨[], .bool false, [], by decide, (show 0 ≤ 0 by decide), .bool_eq rfl, trivial, rfl, rfl⟩
def m_s_l6Get (a0 : TValue) (a1 : TKey) : Option (TValue × Bool) :=
  m90 a0 a1 >>= fun v1 =>
  (if v1 < 0 then
    some ((TValue.mk 0 0 [] 0 []), false)
  else
    idx a0.fItems v1 >>= fun x4 =>
    some (x4.fVal, true))
theorem ok_s_l6Get {a0 : TValue} {a1 : TKey} {r : TValue × Bool} (h : m_s_l6Get a0 a1 = some r) : ACall Tryd.prog 42 [.agg [.int .i64 a0.fKind, .int .i64 a0.fNum, .str a0.fStr, .int .i64 a0.fNext, sl 8 TEntry.cells a0.fItems], .agg [.bool a1.fText, .int .i64 a1.fNum, .str a1.fStr]] [] (fun res h => res = .tup [.agg [.int .i64 r.1.fKind, .int .i64 r.1.fNum, .str r.1.fStr, .int .i64 r.1.fNext, sl 8 TEntry.cells r.1.fItems], .bool r.2] ∧ h = []) := by
  refine ACall.of_vc tabT_ok mixed Tryd.func42 rfl (by kernel_rfl) _ _ _ rfl (by kernel_rfl) ?_
  unfold m_s_l6Get at h
  refine .direct ?_
  refine .direct ?_
  refine ⟨rfl, _, rfl, ?_⟩
  refine ⟨rfl, _, rfl, ?_⟩
  obtain ⟨v1, hv2, h⟩ := bind_some h
  refine ⟨_, ACall.pure0 (ok90 hv2) _ rfl (fun _ => rfl), ?_⟩
  rintro _ _ ⟨rfl, rfl⟩
  refine .direct ?_
  refine .direct ?_
  refine splitB.mk (fun hb3 => ?_) (fun hb3 => ?_)
  · replace h := T_dec hb3 h
    refine .direct ?_
    refine ⟨rfl, _, fun _ => [.int .i64 0, .int .i64 0, .str [], .int .i64 0, .nils], rfl, one_set rfl, ?_⟩
    obtain rfl := Option.some.inj h
    refine ⟨rfl, _, rfl, ?_⟩
    exact ⟨[], .tup [.agg [.int .i64 ((TValue.mk 0 0 [] 0 []).fKind), .int .i64 ((TValue.mk 0 0 [] 0 []).fNum), .str ((TValue.mk 0 0 [] 0 []).fStr), .int .i64 ((TValue.mk 0 0 [] 0 []).fNext), sl 8 TEntry.cells ((TValue.mk 0 0 [] 0 []).fItems)], .bool false], [], by decide, (show 0 ≤ 0 by decide), .tup_l ⟨.agg_l ⟨.int_eq rfl, .int_eq rfl, .str_eq rfl, .int_eq rfl, fz_nils, trivial⟩, .bool_eq rfl, trivial⟩, trivial, rfl, rfl⟩
  · replace h := F_dec hb3 h
    refine .direct ?_
    refine ⟨rfl, ?_⟩
    refine ⟨rfl, _, rfl, ?_⟩
    obtain ⟨x4, hx5, h⟩ := bind_some h
    refine ⟨idx_bd hx5, _, (idx_row hx5).trans (TEntry.cells_eq x4), ?_⟩
    refine ⟨rfl, _, fun _ => [.int .i64 x4.fVal.fKind, .int .i64 x4.fVal.fNum, .str x4.fVal.fStr, .int .i64 x4.fVal.fNext, sl 8 TEntry.cells x4.fVal.fItems], rfl, one_set rfl, ?_⟩
    obtain rfl := Option.some.inj h
    refine ⟨rfl, _, rfl, ?_⟩
    exact ⟨[], .tup [.agg [.int .i64 x4.fVal.fKind, .int .i64 x4.fVal.fNum, .str x4.fVal.fStr, .int .i64 x4.fVal.fNext, sl 8 TEntry.cells x4.fVal.fItems], .bool true], [], by decide, (show 0 ≤ 0 by decide), .tup_l ⟨.agg_l ⟨.int_eq rfl, .int_eq rfl, .str_eq rfl, .int_eq rfl, .slc_eq rfl (fun _ _ => rfl), trivial⟩, .bool_eq rfl, trivial⟩, trivial, rfl, rfl⟩
def m_s_GetKey (a0 : TValue) (a1 : TKey) : Option (TValue × Bool) :=
  m_s_l6Get a0 a1 >>= fun (v1, v2) =>
  m_s_l5Copy v1 >>= fun v4 =>
  some (v4, v2)
theorem ok_s_GetKey {a0 : TValue} {a1 : TKey} {r : TValue × Bool} (h : m_s_GetKey a0 a1 = some r) : ACall Tryd.prog 13 [.agg [.int .i64 a0.fKind, .int .i64 a0.fNum, .str a0.fStr, .int .i64 a0.fNext, sl 8 TEntry.cells a0.fItems], .agg [.bool a1.fText, .int .i64 a1.fNum, .str a1.fStr]] [] (fun res h => res = .tup [.agg [.int .i64 r.1.fKind, .int .i64 r.1.fNum, .str r.1.fStr, .int .i64 r.1.fNext, sl 8 TEntry.cells r.1.fItems], .bool r.2] ∧ h = []) := by
  refine ACall.of_vc tabT_ok mixed Tryd.func13 rfl (by kernel_rfl) _ _ _ rfl (by kernel_rfl) ?_
  unfold m_s_GetKey at h
  refine .direct ?_
  refine .direct ?_
  refine ⟨rfl, _, rfl, ?_⟩
  refine ⟨rfl, _, rfl, ?_⟩
  obtain ⟨⟨v1, v2⟩, hv3, h⟩ := bind_some h
  refine ⟨_, ACall.pure0 (ok_s_l6Get hv3) _ rfl (fun _ => rfl), ?_⟩
  rintro _ _ ⟨rfl, rfl⟩
  refine ⟨rfl, _, fun _ => [.int .i64 v1.fKind, .int .i64 v1.fNum, .str v1.fStr, .int .i64 v1.fNext, sl 8 TEntry.cells v1.fItems], rfl, one_set rfl, ?_⟩
  refine .direct ?_
  refine ⟨rfl, _, rfl, ?_⟩
  obtain ⟨v4, hv5, h⟩ := bind_some h
  refine ⟨_, ACall.pure0 (ok_s_l5Copy hv5) _ rfl (fun _ => rfl), ?_⟩
  rintro _ _ ⟨rfl, rfl⟩
  refine ⟨rfl, _, fun _ => [.int .i64 v4.fKind, .int .i64 v4.fNum, .str v4.fStr, .int .i64 v4.fNext, sl 8 TEntry.cells v4.fItems], rfl, one_set rfl, ?_⟩
  obtain rfl := Option.some.inj h
  refine ⟨rfl, _, rfl, ?_⟩
  exact ⟨[], .tup [.agg [.int .i64 v4.fKind, .int .i64 v4.fNum, .str v4.fStr, .int .i64 v4.fNext, sl 8 TEntry.cells v4.fItems], .bool v2], [], by decide, (show 0 ≤ 0 by decide), .tup_l ⟨.agg_l ⟨.int_eq rfl, .int_eq rfl, .str_eq rfl, .int_eq rfl, .slc_eq rfl (fun _ _ => rfl), trivial⟩, .bool_eq rfl, trivial⟩, trivial, rfl, rfl⟩
def m_i_Union_L2 (a1 : TValue) (y19 : Int) (y20 : Int) (s21 : Str) (y22 : Int) (l23 : List TEntry) (y24 : Int) : Option (Int × Int × Str × Int × (List TEntry)) :=
  (if y24 < (a1.fItems.length : Int) then
    idx a1.fItems y24 >>= fun x28 =>
    m27 (TValue.mk y19 y20 s21 y22 l23) x28.fKey >>= fun v30 =>
    (if v30 < 0 then
      m46 x28.fVal >>= fun v33 =>
      m56 (TValue.mk y19 y20 s21 y22 l23) x28.fKey v33 >>= fun v35 =>
      m_i_Union_L2 a1 v35.fKind v35.fNum v35.fStr v35.fNext v35.fItems (W64 (y24 + 1))
    else
      m_i_Union_L2 a1 y19 y20 s21 y22 l23 (W64 (y24 + 1)))
  else
    some (y19, y20, s21, y22, l23))
partial_fixpoint
def m_i_Union (a0 : TValue) (a1 : TValue) : Option (TValue × Int) :=
  m_i_IsValue a0 >>= fun v1 =>
  (if v1 = true then
    m_i_IsValue a1 >>= fun v4 =>
    (if v4 = true then
      (if a0.fKind = 4 then
        (if a1.fKind = 4 then
          m46 a0 >>= fun v9 =>
          (
            m_i_Union_L2 a1 v9.fKind v9.fNum v9.fStr v9.fNext v9.fItems 0
           : Option (Int × Int × Str × Int × (List TEntry))) >>= fun (y11, y12, s13, y14, l15) =>
          m93 a0.fNext a1.fNext >>= fun v40 =>
          m_i_Weight (TValue.mk y11 y12 s13 v40 l15) >>= fun v42 =>
          (if v42 > 200 then
            some ((TValue.mk 0 0 [] 0 []), 9)
          else
            some ((TValue.mk y11 y12 s13 v40 l15), 0))
        else
          some ((TValue.mk 0 0 [] 0 []), 2))
      else
        some ((TValue.mk 0 0 [] 0 []), 2))
    else
      some ((TValue.mk 0 0 [] 0 []), 2))
  else
    some ((TValue.mk 0 0 [] 0 []), 2))
theorem ok_i_Union {a0 : TValue} {a1 : TValue} {r : TValue × Int} (h : m_i_Union a0 a1 = some r) : ACall Tryd.prog 10 [.agg [.int .i64 a0.fKind, .int .i64 a0.fNum, .str a0.fStr, .int .i64 a0.fNext, sl 8 TEntry.cells a0.fItems], .agg [.int .i64 a1.fKind, .int .i64 a1.fNum, .str a1.fStr, .int .i64 a1.fNext, sl 8 TEntry.cells a1.fItems]] [] (fun res h => res = .tup [.agg [.int .i64 r.1.fKind, .int .i64 r.1.fNum, .str r.1.fStr, .int .i64 r.1.fNext, sl 8 TEntry.cells r.1.fItems], .int .i64 r.2] ∧ h = []) := by
  refine ACall.of_vc tabT_ok mixed Tryd.func10 rfl (by kernel_rfl) _ _ _ rfl (by kernel_rfl) ?_
  unfold m_i_Union at h
  refine .direct ?_
  refine .direct ?_
  refine .direct ?_
  refine ⟨rfl, _, rfl, ?_⟩
  obtain ⟨v1, hv2, h⟩ := bind_some h
  refine ⟨_, ACall.pure0 (ok_i_IsValue hv2) _ rfl (fun _ => rfl), ?_⟩
  rintro _ _ ⟨rfl, rfl⟩
  refine splitB.mk (fun hb3 => ?_) (fun hb3 => ?_)
  · have hb46 := not_F hb3
    replace h := F_var hb46 h
    refine splitB_t ?_
    refine splitB_t ?_
    refine splitB_t ?_
    refine splitB_t ?_
    refine splitB_t ?_
    refine splitB_t ?_
    refine splitB_t ?_
    refine splitB_t ?_
    refine splitB_t ?_
    refine splitB_t ?_
    refine splitB_t ?_
    refine splitB_t ?_
    refine .direct ?_
    refine ⟨_, ACall.pure0 (ok_i_NullValuex) _ rfl (fun _ => rfl), ?_⟩
    rintro _ _ ⟨rfl, rfl⟩
    refine ⟨rfl, _, fun _ => [.int .i64 0, .int .i64 0, .str [], .int .i64 0, .nils], rfl, one_set rfl, ?_⟩
    obtain rfl := Option.some.inj h
    refine ⟨rfl, _, rfl, ?_⟩
    exact ⟨[], .tup [.agg [.int .i64 ((TValue.mk 0 0 [] 0 []).fKind), .int .i64 ((TValue.mk 0 0 [] 0 []).fNum), .str ((TValue.mk 0 0 [] 0 []).fStr), .int .i64 ((TValue.mk 0 0 [] 0 []).fNext), sl 8 TEntry.cells ((TValue.mk 0 0 [] 0 []).fItems)], .int .i64 2], [], by decide, (show 0 ≤ 0 by decide), .tup_l ⟨.agg_l ⟨.int_eq rfl, .int_eq rfl, .str_eq rfl, .int_eq rfl, fz_nils, trivial⟩, .int_eq rfl, trivial⟩, trivial, rfl, rfl⟩
  · have hb46 := not_T hb3
    replace h := T_var hb46 h
    refine ⟨rfl, _, rfl, ?_⟩
    refine splitB_f ?_
    obtain ⟨v4, hv5, h⟩ := bind_some h
    refine ⟨_, ACall.pure0 (ok_i_IsValue hv5) _ rfl (fun _ => rfl), ?_⟩
    rintro _ _ ⟨rfl, rfl⟩
    refine splitB_f ?_
    refine splitB_f ?_
    refine splitB.mk (fun hb6 => ?_) (fun hb6 => ?_)
    · have hb45 := not_F hb6
      replace h := F_var hb45 h
      refine splitB_t ?_
      refine splitB_t ?_
      refine splitB_t ?_
      refine splitB_t ?_
      refine splitB_t ?_
      refine splitB_t ?_
      refine splitB_t ?_
      refine splitB_t ?_
      refine .direct ?_
      refine ⟨_, ACall.pure0 (ok_i_NullValuex) _ rfl (fun _ => rfl), ?_⟩
      rintro _ _ ⟨rfl, rfl⟩
      refine ⟨rfl, _, fun _ => [.int .i64 0, .int .i64 0, .str [], .int .i64 0, .nils], rfl, one_set rfl, ?_⟩
      obtain rfl := Option.some.inj h
      refine ⟨rfl, _, rfl, ?_⟩
      exact ⟨[], .tup [.agg [.int .i64 ((TValue.mk 0 0 [] 0 []).fKind), .int .i64 ((TValue.mk 0 0 [] 0 []).fNum), .str ((TValue.mk 0 0 [] 0 []).fStr), .int .i64 ((TValue.mk 0 0 [] 0 []).fNext), sl 8 TEntry.cells ((TValue.mk 0 0 [] 0 []).fItems)], .int .i64 2], [], by decide, (show 0 ≤ 0 by decide), .tup_l ⟨.agg_l ⟨.int_eq rfl, .int_eq rfl, .str_eq rfl, .int_eq rfl, fz_nils, trivial⟩, .int_eq rfl, trivial⟩, trivial, rfl, rfl⟩
    · have hb45 := not_T hb6
      replace h := T_var hb45 h
      refine ⟨rfl, ?_⟩
      refine splitB_f ?_
      refine ⟨rfl, _, rfl, ?_⟩
      refine splitB_f ?_
      refine splitB_f ?_
      refine splitB.mk (fun hb7 => ?_) (fun hb7 => ?_)
      · replace h := T_bne hb7 h
        refine splitB_t ?_
        refine splitB_t ?_
        refine splitB_t ?_
        refine splitB_t ?_
        refine .direct ?_
        refine ⟨_, ACall.pure0 (ok_i_NullValuex) _ rfl (fun _ => rfl), ?_⟩
        rintro _ _ ⟨rfl, rfl⟩
        refine ⟨rfl, _, fun _ => [.int .i64 0, .int .i64 0, .str [], .int .i64 0, .nils], rfl, one_set rfl, ?_⟩
        obtain rfl := Option.some.inj h
        refine ⟨rfl, _, rfl, ?_⟩
        exact ⟨[], .tup [.agg [.int .i64 ((TValue.mk 0 0 [] 0 []).fKind), .int .i64 ((TValue.mk 0 0 [] 0 []).fNum), .str ((TValue.mk 0 0 [] 0 []).fStr), .int .i64 ((TValue.mk 0 0 [] 0 []).fNext), sl 8 TEntry.cells ((TValue.mk 0 0 [] 0 []).fItems)], .int .i64 2], [], by decide, (show 0 ≤ 0 by decide), .tup_l ⟨.agg_l ⟨.int_eq rfl, .int_eq rfl, .str_eq rfl, .int_eq rfl, fz_nils, trivial⟩, .int_eq rfl, trivial⟩, trivial, rfl, rfl⟩
      · replace h := F_bne hb7 h
        refine ⟨rfl, ?_⟩
        refine splitB_f ?_
        refine ⟨rfl, _, rfl, ?_⟩
        refine splitB_f ?_
        refine splitB_f ?_
        refine splitB.mk (fun hb8 => ?_) (fun hb8 => ?_)
        · replace h := T_bne hb8 h
          refine .direct ?_
          refine ⟨_, ACall.pure0 (ok_i_NullValuex) _ rfl (fun _ => rfl), ?_⟩
          rintro _ _ ⟨rfl, rfl⟩
          refine ⟨rfl, _, fun _ => [.int .i64 0, .int .i64 0, .str [], .int .i64 0, .nils], rfl, one_set rfl, ?_⟩
          obtain rfl := Option.some.inj h
          refine ⟨rfl, _, rfl, ?_⟩
          exact ⟨[], .tup [.agg [.int .i64 ((TValue.mk 0 0 [] 0 []).fKind), .int .i64 ((TValue.mk 0 0 [] 0 []).fNum), .str ((TValue.mk 0 0 [] 0 []).fStr), .int .i64 ((TValue.mk 0 0 [] 0 []).fNext), sl 8 TEntry.cells ((TValue.mk 0 0 [] 0 []).fItems)], .int .i64 2], [], by decide, (show 0 ≤ 0 by decide), .tup_l ⟨.agg_l ⟨.int_eq rfl, .int_eq rfl, .str_eq rfl, .int_eq rfl, fz_nils, trivial⟩, .int_eq rfl, trivial⟩, trivial, rfl, rfl⟩
        · replace h := F_bne hb8 h
          refine .direct ?_
          refine ⟨rfl, _, rfl, ?_⟩
          obtain ⟨v9, hv10, h⟩ := bind_some h
          refine ⟨fun res h' => res = .agg [.int .i64 v9.fKind, .int .i64 v9.fNum, .str v9.fStr, .int .i64 v9.fNext, .own 3 0 0 v9.fItems.length] ∧ h' = [.row 0 5 1 26 (fun _ => [.int .i64 a0.fKind, .int .i64 a0.fNum, .str a0.fStr, .int .i64 a0.fNext, sl 8 TEntry.cells a0.fItems]), .row 0 5 1 26 (fun _ => [.int .i64 a1.fKind, .int .i64 a1.fNum, .str a1.fStr, .int .i64 a1.fNext, sl 8 TEntry.cells a1.fItems]), .row 0 5 1 26 (fun _ => [.int .i64 0, .int .i64 0, .str [], .int .i64 0, .nils]), .row 0 8 v9.fItems.length 34 (row TEntry.cells v9.fItems)], (ACall.frame (ow46 hv10) [.row 0 5 1 26 (fun _ => [.int .i64 a0.fKind, .int .i64 a0.fNum, .str a0.fStr, .int .i64 a0.fNext, sl 8 TEntry.cells a0.fItems]), .row 0 5 1 26 (fun _ => [.int .i64 a1.fKind, .int .i64 a1.fNum, .str a1.fStr, .int .i64 a1.fNext, sl 8 TEntry.cells a1.fItems]), .row 0 5 1 26 (fun _ => [.int .i64 0, .int .i64 0, .str [], .int .i64 0, .nils])] rfl).mono (by rintro _ _ ⟨_, _, ⟨rfl, rfl⟩, rfl, rfl⟩; exact ⟨rfl, by simp only [List.map_cons, List.map_nil, shiftO_row TEntry.cells_pure]; rfl⟩), ?_⟩
          rintro _ _ ⟨rfl, rfl⟩
          refine ⟨rfl, _, fun _ => [.int .i64 v9.fKind, .int .i64 v9.fNum, .str v9.fStr, .int .i64 v9.fNext, .own 3 0 0 v9.fItems.length], rfl, one_set rfl, ?_⟩
          obtain ⟨o16, ho17, hk18⟩ := bind_some h
          replace h := ho17
          refine .cut (fun σ η => ∃ y11, ∃ y12, ∃ s13, ∃ y14, ∃ l15, (y11, y12, s13, y14, l15) = o16 ∧ σ = [(2, .optr 0 0 0 0), (3, .optr 1 0 0 0), (4, .optr 2 0 0 0), (6, .optr 3 0 0 0)] ∧ η = [.row 0 5 1 26 (fun _ => [.int .i64 a0.fKind, .int .i64 a0.fNum, .str a0.fStr, .int .i64 a0.fNext, sl 8 TEntry.cells a0.fItems]), .row 0 5 1 26 (fun _ => [.int .i64 a1.fKind, .int .i64 a1.fNum, .str a1.fStr, .int .i64 a1.fNext, sl 8 TEntry.cells a1.fItems]), .row 0 5 1 26 (fun _ => [.int .i64 0, .int .i64 0, .str [], .int .i64 0, .nils]), .row 0 5 1 26 (fun _ => [.int .i64 y11, .int .i64 y12, .str s13, .int .i64 y14, .own 4 0 0 l15.length]), .row 0 8 l15.length 34 (row TEntry.cells l15)]) ?_ ?_
          · refine .direct ?_
            refine ⟨rfl, ?_⟩
            refine ⟨rfl, _, rfl, ?_⟩
            refine LoopAt.enter [(2, .optr 0 0 0 0), (3, .optr 1 0 0 0), (4, .optr 2 0 0 0), (6, .optr 3 0 0 0), (31, sl 8 TEntry.cells a1.fItems), (32, .int .i64 (a1.fItems.length : Int)), (33, .int .i64 0)] [.row 0 5 1 26 (fun _ => [.int .i64 a0.fKind, .int .i64 a0.fNum, .str a0.fStr, .int .i64 a0.fNext, sl 8 TEntry.cells a0.fItems]), .row 0 5 1 26 (fun _ => [.int .i64 a1.fKind, .int .i64 a1.fNum, .str a1.fStr, .int .i64 a1.fNext, sl 8 TEntry.cells a1.fItems]), .row 0 5 1 26 (fun _ => [.int .i64 0, .int .i64 0, .str [], .int .i64 0, .nils]), .row 0 5 1 26 (fun _ => [.int .i64 v9.fKind, .int .i64 v9.fNum, .str v9.fStr, .int .i64 v9.fNext, .own 4 0 0 v9.fItems.length]), .row 0 8 v9.fItems.length 34 (row TEntry.cells v9.fItems)] ⟨[0, 1, 2, 4, 3], by decide, (show 0 ≤ 5 by decide), ⟨.optr_eq rfl ⟨_, _, _, _, rfl⟩ ⟨_, _, _, _, rfl⟩ rfl rfl, .optr_eq rfl ⟨_, _, _, _, rfl⟩ ⟨_, _, _, _, rfl⟩ rfl rfl, .optr_eq rfl ⟨_, _, _, _, rfl⟩ ⟨_, _, _, _, rfl⟩ rfl rfl, .optr_eq rfl ⟨_, _, _, _, rfl⟩ ⟨_, _, _, _, rfl⟩ rfl rfl, .slc_eq rfl (fun _ _ => rfl), .int_eq rfl, .int_eq rfl, trivial⟩, ⟨⟨fun h0 => absurd (show 0 < 0 from h0) (by decide), rfl, rfl, rfl, fun _ _ => ⟨.int_eq rfl, .int_eq rfl, .str_eq rfl, .int_eq rfl, .slc_eq rfl (fun _ _ => rfl), trivial⟩⟩, ⟨fun h0 => absurd (show 1 < 0 from h0) (by decide), rfl, rfl, rfl, fun _ _ => ⟨.int_eq rfl, .int_eq rfl, .str_eq rfl, .int_eq rfl, .slc_eq rfl (fun _ _ => rfl), trivial⟩⟩, ⟨fun h0 => absurd (show 2 < 0 from h0) (by decide), rfl, rfl, rfl, fun _ _ => ⟨.int_eq rfl, .int_eq rfl, .str_eq rfl, .int_eq rfl, .nils, trivial⟩⟩, ⟨fun h0 => absurd (show 3 < 0 from h0) (by decide), rfl, rfl, rfl, fun _ _ => ⟨.int_eq rfl, .int_eq rfl, .str_eq rfl, .int_eq rfl, .own_eq rfl ⟨_, _, _, _, rfl⟩ ⟨_, _, _, _, rfl⟩ rfl rfl, trivial⟩⟩, ⟨fun h0 => absurd (show 4 < 0 from h0) (by decide), rfl, rfl, rfl, fz_row TEntry.cells_pure⟩, trivial⟩⟩ ?_
            refine m_i_Union_L2.partial_correctness a1 (motive := fun y19 y20 s21 y22 l23 y24 o38 => o16 = o38 → LoopAt _ _ [(2, .optr 0 0 0 0), (3, .optr 1 0 0 0), (4, .optr 2 0 0 0), (6, .optr 3 0 0 0), (31, sl 8 TEntry.cells a1.fItems), (32, .int .i64 (a1.fItems.length : Int)), (33, .int .i64 y24)] [.row 0 5 1 26 (fun _ => [.int .i64 a0.fKind, .int .i64 a0.fNum, .str a0.fStr, .int .i64 a0.fNext, sl 8 TEntry.cells a0.fItems]), .row 0 5 1 26 (fun _ => [.int .i64 a1.fKind, .int .i64 a1.fNum, .str a1.fStr, .int .i64 a1.fNext, sl 8 TEntry.cells a1.fItems]), .row 0 5 1 26 (fun _ => [.int .i64 0, .int .i64 0, .str [], .int .i64 0, .nils]), .row 0 5 1 26 (fun _ => [.int .i64 y19, .int .i64 y20, .str s21, .int .i64 y22, .own 4 0 0 l23.length]), .row 0 8 l23.length 34 (row TEntry.cells l23)]) ?_ v9.fKind v9.fNum v9.fStr v9.fNext v9.fItems 0 o16 h rfl
            intro F26 ih25 y19 y20 s21 y22 l23 y24 o38 h hr39
            subst hr39
            refine LoopAt.round ?_
            refine .direct ?_
            refine .direct ?_
            refine splitB.mk (fun hb27 => ?_) (fun hb27 => ?_)
            · replace h := T_dec hb27 h
              refine .direct ?_
              refine .direct ?_
              obtain ⟨x28, hx29, h⟩ := bind_some h
              refine ⟨idx_bd hx29, _, (idx_row hx29).trans (TEntry.cells_eq x28), ?_⟩
              refine ⟨rfl, _, fun _ => [.bool x28.fKey.fText, .int .i64 x28.fKey.fNum, .str x28.fKey.fStr, .int .i64 x28.fVal.fKind, .int .i64 x28.fVal.fNum, .str x28.fVal.fStr, .int .i64 x28.fVal.fNext, sl 8 TEntry.cells x28.fVal.fItems], rfl, one_set rfl, ?_⟩
              refine .direct ?_
              refine ⟨rfl, _, rfl, ?_⟩
              refine ⟨rfl, ?_⟩
              refine ⟨rfl, _, rfl, ?_⟩
              obtain ⟨v30, hv31, h⟩ := bind_some h
              refine ⟨_, ACall.snap0 (args := [.agg [.int .i64 y19, .int .i64 y20, .str s21, .int .i64 y22, .own 4 0 0 l23.length], .agg [.bool x28.fKey.fText, .int .i64 x28.fKey.fNum, .str x28.fKey.fStr]]) (ok27 hv31) [.row 0 5 1 26 (fun _ => [.int .i64 a0.fKind, .int .i64 a0.fNum, .str a0.fStr, .int .i64 a0.fNext, sl 8 TEntry.cells a0.fItems]), .row 0 5 1 26 (fun _ => [.int .i64 a1.fKind, .int .i64 a1.fNum, .str a1.fStr, .int .i64 a1.fNext, sl 8 TEntry.cells a1.fItems]), .row 0 5 1 26 (fun _ => [.int .i64 0, .int .i64 0, .str [], .int .i64 0, .nils]), .row 0 5 1 26 (fun _ => [.int .i64 y19, .int .i64 y20, .str s21, .int .i64 y22, .own 4 0 0 l23.length]), .row 0 8 l23.length 34 (row TEntry.cells l23), .row 0 8 1 34 (fun _ => [.bool x28.fKey.fText, .int .i64 x28.fKey.fNum, .str x28.fKey.fStr, .int .i64 x28.fVal.fKind, .int .i64 x28.fVal.fNum, .str x28.fVal.fStr, .int .i64 x28.fVal.fNext, sl 8 TEntry.cells x28.fVal.fItems])] ⟨.agg_l ⟨.int_eq rfl, .int_eq rfl, .str_eq rfl, .int_eq rfl, (fz_snap TEntry.cells_pure rfl shows_all), trivial⟩, .agg_l ⟨.bool_eq rfl, .int_eq rfl, .str_eq rfl, trivial⟩, trivial⟩ rfl rfl (fun _ => rfl), ?_⟩
              rintro _ _ ⟨rfl, rfl⟩
              refine splitB.mk (fun hb32 => ?_) (fun hb32 => ?_)
              · replace h := T_dec hb32 h
                refine .float [(0, true), (1, true), (2, true), (3, true), (4, false), (5, false)] (by kernel_rfl) ?_
                refine ⟨rfl, ?_⟩
                refine ⟨rfl, _, rfl, ?_⟩
                refine ⟨rfl, ?_⟩
                refine ⟨rfl, _, rfl, ?_⟩
                obtain ⟨v33, hv34, h⟩ := bind_some h
                refine ⟨_, ACall.pure0 (ok46 hv34) _ rfl (fun _ => rfl), ?_⟩
                rintro _ _ ⟨rfl, rfl⟩
                refine ⟨rfl, ?_⟩
                refine ⟨rfl, ?_⟩
                obtain ⟨v35, hv36, h⟩ := bind_some h
                refine ⟨fun res h' => ∃ g37 : Nat, res = .tup [] ∧ h' = [.row 0 5 1 26 (fun _ => [.int .i64 a0.fKind, .int .i64 a0.fNum, .str a0.fStr, .int .i64 a0.fNext, sl 8 TEntry.cells a0.fItems]), .row 0 5 1 26 (fun _ => [.int .i64 a1.fKind, .int .i64 a1.fNum, .str a1.fStr, .int .i64 a1.fNext, sl 8 TEntry.cells a1.fItems]), .row 0 5 1 26 (fun _ => [.int .i64 0, .int .i64 0, .str [], .int .i64 0, .nils]), .row 0 5 1 26 (fun _ => [.int .i64 v35.fKind, .int .i64 v35.fNum, .str v35.fStr, .int .i64 v35.fNext, .own 4 g37 0 v35.fItems.length]), .row g37 8 v35.fItems.length 34 (row TEntry.cells v35.fItems), .row 0 8 1 34 (fun _ => [.bool x28.fKey.fText, .int .i64 x28.fKey.fNum, .str x28.fKey.fStr, .int .i64 x28.fVal.fKind, .int .i64 x28.fVal.fNum, .str x28.fVal.fStr, .int .i64 x28.fVal.fNext, sl 8 TEntry.cells x28.fVal.fItems])], (ACall.over (ok56 (g1000 := 0) (g1001 := 0) hv36) [3, 4] [.row 0 5 1 26 (fun _ => [.int .i64 a0.fKind, .int .i64 a0.fNum, .str a0.fStr, .int .i64 a0.fNext, sl 8 TEntry.cells a0.fItems]), .row 0 5 1 26 (fun _ => [.int .i64 a1.fKind, .int .i64 a1.fNum, .str a1.fStr, .int .i64 a1.fNext, sl 8 TEntry.cells a1.fItems]), .row 0 5 1 26 (fun _ => [.int .i64 0, .int .i64 0, .str [], .int .i64 0, .nils]), .row 0 5 1 26 (fun _ => [.int .i64 y19, .int .i64 y20, .str s21, .int .i64 y22, .own 4 0 0 l23.length]), .row 0 8 l23.length 34 (row TEntry.cells l23), .row 0 8 1 34 (fun _ => [.bool x28.fKey.fText, .int .i64 x28.fKey.fNum, .str x28.fKey.fStr, .int .i64 x28.fVal.fKind, .int .i64 x28.fVal.fNum, .str x28.fVal.fStr, .int .i64 x28.fVal.fNext, sl 8 TEntry.cells x28.fVal.fItems])] rfl (by decide) (by simp) (by intro j o hj; exact match j, hj with | 0, hj => by cases hj; rfl | 1, hj => by cases hj; exact (congrArg some (renO_row TEntry.cells_pure _ _ _ _ _ _)).symm | j + 2, hj => by cases hj) rfl).mono (by rintro _ _ ⟨_, _, ⟨g37, rfl, rfl⟩, rfl, rfl⟩; exact ⟨g37, rfl, (by simp only [nxtL, putSel, List.map_cons, List.map_nil, List.drop, List.length_cons, List.length_nil, renO_row TEntry.cells_pure]; rfl)⟩), ?_⟩
                rintro _ _ ⟨g37, rfl, rfl⟩
                exact ⟨[(2, .optr 0 0 0 0), (3, .optr 1 0 0 0), (4, .optr 2 0 0 0), (6, .optr 3 0 0 0), (31, sl 8 TEntry.cells a1.fItems), (32, .int .i64 (a1.fItems.length : Int)), (33, .int .i64 (W64 (y24 + 1)))], [.row 0 5 1 26 (fun _ => [.int .i64 a0.fKind, .int .i64 a0.fNum, .str a0.fStr, .int .i64 a0.fNext, sl 8 TEntry.cells a0.fItems]), .row 0 5 1 26 (fun _ => [.int .i64 a1.fKind, .int .i64 a1.fNum, .str a1.fStr, .int .i64 a1.fNext, sl 8 TEntry.cells a1.fItems]), .row 0 5 1 26 (fun _ => [.int .i64 0, .int .i64 0, .str [], .int .i64 0, .nils]), .row 0 5 1 26 (fun _ => [.int .i64 v35.fKind, .int .i64 v35.fNum, .str v35.fStr, .int .i64 v35.fNext, .own 4 0 0 v35.fItems.length]), .row 0 8 v35.fItems.length 34 (row TEntry.cells v35.fItems)], ⟨[0, 1, 2, 3, 4], by decide, (show 0 ≤ 5 by decide), ⟨.optr_eq rfl ⟨_, _, _, _, rfl⟩ ⟨_, _, _, _, rfl⟩ rfl rfl, .optr_eq rfl ⟨_, _, _, _, rfl⟩ ⟨_, _, _, _, rfl⟩ rfl rfl, .optr_eq rfl ⟨_, _, _, _, rfl⟩ ⟨_, _, _, _, rfl⟩ rfl rfl, .optr_eq rfl ⟨_, _, _, _, rfl⟩ ⟨_, _, _, _, rfl⟩ rfl rfl, .slc_eq rfl (fun _ _ => rfl), .int_eq rfl, .int_eq rfl, trivial⟩, ⟨⟨fun h0 => absurd (show 0 < 0 from h0) (by decide), rfl, rfl, rfl, fun _ _ => ⟨.int_eq rfl, .int_eq rfl, .str_eq rfl, .int_eq rfl, .slc_eq rfl (fun _ _ => rfl), trivial⟩⟩, ⟨fun h0 => absurd (show 1 < 0 from h0) (by decide), rfl, rfl, rfl, fun _ _ => ⟨.int_eq rfl, .int_eq rfl, .str_eq rfl, .int_eq rfl, .slc_eq rfl (fun _ _ => rfl), trivial⟩⟩, ⟨fun h0 => absurd (show 2 < 0 from h0) (by decide), rfl, rfl, rfl, fun _ _ => ⟨.int_eq rfl, .int_eq rfl, .str_eq rfl, .int_eq rfl, .nils, trivial⟩⟩, ⟨fun h0 => absurd (show 3 < 0 from h0) (by decide), rfl, rfl, rfl, fun _ _ => ⟨.int_eq rfl, .int_eq rfl, .str_eq rfl, .int_eq rfl, .own_eq rfl ⟨_, _, _, _, rfl⟩ ⟨_, _, _, _, rfl⟩ rfl rfl, trivial⟩⟩, ⟨fun h0 => absurd (show 4 < 0 from h0) (by decide), rfl, rfl, rfl, fz_row TEntry.cells_pure⟩, trivial⟩⟩, ih25 _ _ _ _ _ _ _ h rfl⟩
              · replace h := F_dec hb32 h
                exact ⟨[(2, .optr 0 0 0 0), (3, .optr 1 0 0 0), (4, .optr 2 0 0 0), (6, .optr 3 0 0 0), (31, sl 8 TEntry.cells a1.fItems), (32, .int .i64 (a1.fItems.length : Int)), (33, .int .i64 (W64 (y24 + 1)))], [.row 0 5 1 26 (fun _ => [.int .i64 a0.fKind, .int .i64 a0.fNum, .str a0.fStr, .int .i64 a0.fNext, sl 8 TEntry.cells a0.fItems]), .row 0 5 1 26 (fun _ => [.int .i64 a1.fKind, .int .i64 a1.fNum, .str a1.fStr, .int .i64 a1.fNext, sl 8 TEntry.cells a1.fItems]), .row 0 5 1 26 (fun _ => [.int .i64 0, .int .i64 0, .str [], .int .i64 0, .nils]), .row 0 5 1 26 (fun _ => [.int .i64 y19, .int .i64 y20, .str s21, .int .i64 y22, .own 4 0 0 l23.length]), .row 0 8 l23.length 34 (row TEntry.cells l23)], ⟨[0, 1, 2, 3, 4], by decide, (show 0 ≤ 5 by decide), ⟨.optr_eq rfl ⟨_, _, _, _, rfl⟩ ⟨_, _, _, _, rfl⟩ rfl rfl, .optr_eq rfl ⟨_, _, _, _, rfl⟩ ⟨_, _, _, _, rfl⟩ rfl rfl, .optr_eq rfl ⟨_, _, _, _, rfl⟩ ⟨_, _, _, _, rfl⟩ rfl rfl, .optr_eq rfl ⟨_, _, _, _, rfl⟩ ⟨_, _, _, _, rfl⟩ rfl rfl, .slc_eq rfl (fun _ _ => rfl), .int_eq rfl, .int_eq rfl, trivial⟩, ⟨⟨fun h0 => absurd (show 0 < 0 from h0) (by decide), rfl, rfl, rfl, fun _ _ => ⟨.int_eq rfl, .int_eq rfl, .str_eq rfl, .int_eq rfl, .slc_eq rfl (fun _ _ => rfl), trivial⟩⟩, ⟨fun h0 => absurd (show 1 < 0 from h0) (by decide), rfl, rfl, rfl, fun _ _ => ⟨.int_eq rfl, .int_eq rfl, .str_eq rfl, .int_eq rfl, .slc_eq rfl (fun _ _ => rfl), trivial⟩⟩, ⟨fun h0 => absurd (show 2 < 0 from h0) (by decide), rfl, rfl, rfl, fun _ _ => ⟨.int_eq rfl, .int_eq rfl, .str_eq rfl, .int_eq rfl, .nils, trivial⟩⟩, ⟨fun h0 => absurd (show 3 < 0 from h0) (by decide), rfl, rfl, rfl, fun _ _ => ⟨.int_eq rfl, .int_eq rfl, .str_eq rfl, .int_eq rfl, .own_eq rfl ⟨_, _, _, _, rfl⟩ ⟨_, _, _, _, rfl⟩ rfl rfl, trivial⟩⟩, ⟨fun h0 => absurd (show 4 < 0 from h0) (by decide), rfl, rfl, rfl, fz_row TEntry.cells_pure⟩, trivial⟩⟩, ih25 _ _ _ _ _ _ _ h rfl⟩
            · replace h := F_dec hb27 h
              exact ⟨[(2, .optr 0 0 0 0), (3, .optr 1 0 0 0), (4, .optr 2 0 0 0), (6, .optr 3 0 0 0)], [.row 0 5 1 26 (fun _ => [.int .i64 a0.fKind, .int .i64 a0.fNum, .str a0.fStr, .int .i64 a0.fNext, sl 8 TEntry.cells a0.fItems]), .row 0 5 1 26 (fun _ => [.int .i64 a1.fKind, .int .i64 a1.fNum, .str a1.fStr, .int .i64 a1.fNext, sl 8 TEntry.cells a1.fItems]), .row 0 5 1 26 (fun _ => [.int .i64 0, .int .i64 0, .str [], .int .i64 0, .nils]), .row 0 5 1 26 (fun _ => [.int .i64 y19, .int .i64 y20, .str s21, .int .i64 y22, .own 4 0 0 l23.length]), .row 0 8 l23.length 34 (row TEntry.cells l23)], ⟨[0, 1, 2, 3, 4], by decide, (show 0 ≤ 5 by decide), ⟨.optr_eq rfl ⟨_, _, _, _, rfl⟩ ⟨_, _, _, _, rfl⟩ rfl rfl, .optr_eq rfl ⟨_, _, _, _, rfl⟩ ⟨_, _, _, _, rfl⟩ rfl rfl, .optr_eq rfl ⟨_, _, _, _, rfl⟩ ⟨_, _, _, _, rfl⟩ rfl rfl, .optr_eq rfl ⟨_, _, _, _, rfl⟩ ⟨_, _, _, _, rfl⟩ rfl rfl, trivial⟩, ⟨⟨fun h0 => absurd (show 0 < 0 from h0) (by decide), rfl, rfl, rfl, fun _ _ => ⟨.int_eq rfl, .int_eq rfl, .str_eq rfl, .int_eq rfl, .slc_eq rfl (fun _ _ => rfl), trivial⟩⟩, ⟨fun h0 => absurd (show 1 < 0 from h0) (by decide), rfl, rfl, rfl, fun _ _ => ⟨.int_eq rfl, .int_eq rfl, .str_eq rfl, .int_eq rfl, .slc_eq rfl (fun _ _ => rfl), trivial⟩⟩, ⟨fun h0 => absurd (show 2 < 0 from h0) (by decide), rfl, rfl, rfl, fun _ _ => ⟨.int_eq rfl, .int_eq rfl, .str_eq rfl, .int_eq rfl, .nils, trivial⟩⟩, ⟨fun h0 => absurd (show 3 < 0 from h0) (by decide), rfl, rfl, rfl, fun _ _ => ⟨.int_eq rfl, .int_eq rfl, .str_eq rfl, .int_eq rfl, .own_eq rfl ⟨_, _, _, _, rfl⟩ ⟨_, _, _, _, rfl⟩ rfl rfl, trivial⟩⟩, ⟨fun h0 => absurd (show 4 < 0 from h0) (by decide), rfl, rfl, rfl, fz_row TEntry.cells_pure⟩, trivial⟩⟩, y19, y20, s21, y22, l23, Option.some.inj h, rfl, rfl⟩
          · rintro _ _ ⟨y11, y12, s13, y14, l15, rfl, rfl, rfl⟩
            replace h := hk18
            refine .direct ?_
            refine ⟨rfl, ?_⟩
            refine ⟨rfl, _, rfl, ?_⟩
            refine ⟨rfl, ?_⟩
            refine ⟨rfl, _, rfl, ?_⟩
            obtain ⟨v40, hv41, h⟩ := bind_some h
            refine ⟨_, ACall.pure0 (ok93 hv41) _ rfl (fun _ => rfl), ?_⟩
            rintro _ _ ⟨rfl, rfl⟩
            refine ⟨rfl, ?_⟩
            refine ⟨rfl, _, fun _ => [.int .i64 y11, .int .i64 y12, .str s13, .int .i64 v40, .own 4 0 0 l15.length], rfl, one_set rfl, ?_⟩
            refine .direct ?_
            refine .direct ?_
            refine ⟨rfl, _, rfl, ?_⟩
            obtain ⟨v42, hv43, h⟩ := bind_some h
            refine ⟨_, ACall.snap0 (args := [.agg [.int .i64 y11, .int .i64 y12, .str s13, .int .i64 v40, .own 4 0 0 l15.length]]) (ok_i_Weight hv43) [.row 0 5 1 26 (fun _ => [.int .i64 a0.fKind, .int .i64 a0.fNum, .str a0.fStr, .int .i64 a0.fNext, sl 8 TEntry.cells a0.fItems]), .row 0 5 1 26 (fun _ => [.int .i64 a1.fKind, .int .i64 a1.fNum, .str a1.fStr, .int .i64 a1.fNext, sl 8 TEntry.cells a1.fItems]), .row 0 5 1 26 (fun _ => [.int .i64 0, .int .i64 0, .str [], .int .i64 0, .nils]), .row 0 5 1 26 (fun _ => [.int .i64 y11, .int .i64 y12, .str s13, .int .i64 v40, .own 4 0 0 l15.length]), .row 0 8 l15.length 34 (row TEntry.cells l15)] ⟨.agg_l ⟨.int_eq rfl, .int_eq rfl, .str_eq rfl, .int_eq rfl, (fz_snap TEntry.cells_pure rfl shows_all), trivial⟩, trivial⟩ rfl rfl (fun _ => rfl), ?_⟩
            rintro _ _ ⟨rfl, rfl⟩
            refine splitB.mk (fun hb44 => ?_) (fun hb44 => ?_)
            · replace h := T_dec hb44 h
              refine .direct ?_
              refine ⟨_, ACall.pure0 (ok_i_NullValuex) _ rfl (fun _ => rfl), ?_⟩
              rintro _ _ ⟨rfl, rfl⟩
              refine ⟨rfl, _, fun _ => [.int .i64 0, .int .i64 0, .str [], .int .i64 0, .nils], rfl, one_set rfl, ?_⟩
              obtain rfl := Option.some.inj h
              refine ⟨rfl, _, rfl, ?_⟩
              exact ⟨[], .tup [.agg [.int .i64 ((TValue.mk 0 0 [] 0 []).fKind), .int .i64 ((TValue.mk 0 0 [] 0 []).fNum), .str ((TValue.mk 0 0 [] 0 []).fStr), .int .i64 ((TValue.mk 0 0 [] 0 []).fNext), sl 8 TEntry.cells ((TValue.mk 0 0 [] 0 []).fItems)], .int .i64 9], [], by decide, (show 0 ≤ 0 by decide), .tup_l ⟨.agg_l ⟨.int_eq rfl, .int_eq rfl, .str_eq rfl, .int_eq rfl, fz_nils, trivial⟩, .int_eq rfl, trivial⟩, trivial, rfl, rfl⟩
            · replace h := F_dec hb44 h
              refine .direct ?_
              refine ⟨rfl, _, rfl, ?_⟩
              refine ⟨rfl, _, fun _ => [.int .i64 y11, .int .i64 y12, .str s13, .int .i64 v40, .own 4 0 0 l15.length], rfl, one_set rfl, ?_⟩
              obtain rfl := Option.some.inj h
              refine ⟨rfl, _, rfl, ?_⟩
              exact ⟨[], .tup [.agg [.int .i64 ((TValue.mk y11 y12 s13 v40 l15).fKind), .int .i64 ((TValue.mk y11 y12 s13 v40 l15).fNum), .str ((TValue.mk y11 y12 s13 v40 l15).fStr), .int .i64 ((TValue.mk y11 y12 s13 v40 l15).fNext), sl 8 TEntry.cells ((TValue.mk y11 y12 s13 v40 l15).fItems)], .int .i64 0], [], by decide, (show 0 ≤ 0 by decide), .tup_l ⟨.agg_l ⟨.int_eq rfl, .int_eq rfl, .str_eq rfl, .int_eq rfl, (fz_frz TEntry.cells_pure (by first | decide | simp) rfl shows_all), trivial⟩, .int_eq rfl, trivial⟩, trivial, rfl, rfl⟩
end Go.Am
