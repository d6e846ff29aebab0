/- Models of Go functions, and their walks. (Printed by tools/mg.py.) -/
import Derived.Test.YtlfknfhecedddaaDoorF1
set_option linter.unusedVariables false
set_option linter.unusedSimpArgs false
namespace Go.Am
open Go Go.RowKit Go.Proofs

mutual
def m46 (a0 : TValue) : Option (TValue) :=
  (
    m46_L2 a0 ([] : List TEntry) 0
   : Option ((List TEntry))) >>= fun l1 =>
  some (TValue.mk a0.fKind a0.fNum a0.fStr a0.fNext l1)
partial_fixpoint
def m46_L2 (a0 : TValue) (l5 : List TEntry) (y6 : Int) : Option ((List TEntry)) :=
  (if y6 < (a0.fItems.length : Int) then
    idx a0.fItems y6 >>= fun x11 =>
    m46 x11.fVal >>= fun v13 =>
    lapp 96 l5 ([(TEntry.mk x11.fKey v13)] : List TEntry) >>= fun l15 =>
    m46_L2 a0 l15 (W64 (y6 + 1))
  else
    some l5)
partial_fixpoint
end
def okS37 (a0 : TValue) (r : TValue) : Prop := ACall Tryd.prog 37 [.agg [.int .i64 a0.fKind, .int .i64 a0.fNum, .str a0.fStr, .int .i64 a0.fNext, sl 8 TEntry.cells a0.fItems]] [] (fun res h => res = .agg [.int .i64 r.fKind, .int .i64 r.fNum, .str r.fStr, .int .i64 r.fNext, sl 8 TEntry.cells r.fItems] ∧ h = [])
inductive m46_L2_I : TValue → (List TEntry) → Int → ((List TEntry)) → Prop
  | mk (G37 : TValue → Option (TValue)) (hG37 : ∀ a0 r, G37 a0 = some r → okS37 a0 r) (F_m46_L2 : TValue → (List TEntry) → Int → Option ((List TEntry))) (hF_m46_L2 : ∀ a0 l5 y6 o, F_m46_L2 a0 l5 y6 = some o → m46_L2_I a0 l5 y6 o) (a0 : TValue) (l5 : List TEntry) (y6 : Int) (o : (List TEntry)) (h : (
      (if y6 < (a0.fItems.length : Int) then
        idx a0.fItems y6 >>= fun x11 =>
        G37 x11.fVal >>= fun v13 =>
        lapp 96 l5 ([(TEntry.mk x11.fKey v13)] : List TEntry) >>= fun l15 =>
        F_m46_L2 a0 l15 (W64 (y6 + 1))
      else
        some l5)
    ) = some o) : m46_L2_I a0 l5 y6 o
theorem m46_L2_ind {motive : TValue → (List TEntry) → Int → ((List TEntry)) → Prop} (step : ∀ (G37 : TValue → Option (TValue)) (hG37 : ∀ a0 r, G37 a0 = some r → okS37 a0 r) (F_m46_L2 : TValue → (List TEntry) → Int → Option ((List TEntry))) (hF_m46_L2 : ∀ a0 l5 y6 o, F_m46_L2 a0 l5 y6 = some o → m46_L2_I a0 l5 y6 o) (a0 : TValue) (l5 : List TEntry) (y6 : Int) (o : (List TEntry)) (h : (
      (if y6 < (a0.fItems.length : Int) then
        idx a0.fItems y6 >>= fun x11 =>
        G37 x11.fVal >>= fun v13 =>
        lapp 96 l5 ([(TEntry.mk x11.fKey v13)] : List TEntry) >>= fun l15 =>
        F_m46_L2 a0 l15 (W64 (y6 + 1))
      else
        some l5)
    ) = some o) (ih : ∀ a0 l5 y6 o, F_m46_L2 a0 l5 y6 = some o → motive a0 l5 y6 o), motive a0 l5 y6 o) : ∀ a0 l5 y6 o, m46_L2_I a0 l5 y6 o → motive a0 l5 y6 o :=
  fun a0 l5 y6 o h => m46_L2_I.rec (motive := fun a0 l5 y6 o _ => motive a0 l5 y6 o) step h
theorem grp_46 : (∀ a0 r, m46 a0 = some r → okS37 a0 r) ∧ (∀ a0 l5 y6 o, m46_L2 a0 l5 y6 = some o → m46_L2_I a0 l5 y6 o) := by
  refine m46.mutual_partial_correctness okS37 m46_L2_I ?_ ?_
  · intro _ hI21 a0 r h
    refine ACall.of_vc tabT_ok mixed Tryd.func37 rfl (by kernel_rfl) _ _ _ rfl (by kernel_rfl) ?_
    refine .direct ?_
    refine .direct ?_
    refine ⟨rfl, _, rfl, ?_⟩
    refine ⟨rfl, _, fun _ => [.int .i64 a0.fKind, .int .i64 a0.fNum, .str a0.fStr, .int .i64 a0.fNext, sl 8 TEntry.cells a0.fItems], rfl, one_set rfl, ?_⟩
    refine .direct ?_
    refine ⟨rfl, ?_⟩
    refine ⟨rfl, _, fun _ => [.int .i64 a0.fKind, .int .i64 a0.fNum, .str a0.fStr, .int .i64 a0.fNext, .nils], rfl, one_set rfl, ?_⟩
    obtain ⟨o2, ho3, hk4⟩ := bind_some h
    replace h := ho3
    refine .cut (fun σ η => ∃ l1, l1 = o2 ∧ σ = [(2, .optr 0 0 0 0), (3, .optr 1 0 0 0)] ∧ η = [.row 0 5 1 26 (fun _ => [.int .i64 0, .int .i64 0, .str [], .int .i64 0, .nils]), .row 0 5 1 26 (fun _ => [.int .i64 a0.fKind, .int .i64 a0.fNum, .str a0.fStr, .int .i64 a0.fNext, .own 2 0 0 l1.length]), .row 0 8 l1.length 34 (row TEntry.cells l1)]) ?_ ?_
    · refine .direct ?_
      refine ⟨rfl, ?_⟩
      refine ⟨rfl, _, rfl, ?_⟩
      have hL20 := hI21 _ _ _ _ h
      refine LoopAt.enter [(2, .optr 0 0 0 0), (3, .optr 1 0 0 0), (9, sl 8 TEntry.cells a0.fItems), (10, .int .i64 (a0.fItems.length : Int)), (11, .int .i64 0)] [.row 0 5 1 26 (fun _ => [.int .i64 0, .int .i64 0, .str [], .int .i64 0, .nils]), .row 0 5 1 26 (fun _ => [.int .i64 a0.fKind, .int .i64 a0.fNum, .str a0.fStr, .int .i64 a0.fNext, .own 2 0 0 ([] : List TEntry).length]), .row 0 8 ([] : List TEntry).length 34 (row TEntry.cells ([] : List TEntry))] ⟨[1, 2, 5], by decide, (show 0 ≤ 3 by decide), ⟨.optr_eq rfl ⟨_, _, _, _, rfl⟩ ⟨_, _, _, _, rfl⟩ rfl rfl, .optr_eq rfl ⟨_, _, _, _, rfl⟩ ⟨_, _, _, _, rfl⟩ rfl rfl, .slc_eq rfl (fun _ _ => rfl), .int_eq rfl, .int_eq rfl, trivial⟩, ⟨⟨fun h0 => absurd (show 0 < 0 from h0) (by decide), rfl, rfl, rfl, fun _ _ => ⟨.int_eq rfl, .int_eq rfl, .str_eq rfl, .int_eq rfl, .nils, trivial⟩⟩, ⟨fun h0 => absurd (show 1 < 0 from h0) (by decide), rfl, rfl, rfl, fun _ _ => ⟨.int_eq rfl, .int_eq rfl, .str_eq rfl, .int_eq rfl, (.nilo _ _ _ _ _ _ rfl rfl rfl), trivial⟩⟩, ⟨(show 0 ≤ 2 by decide), rfl⟩, trivial⟩⟩ ?_
      refine m46_L2_ind (motive := fun p19 l5 y6 o17 => a0 = p19 → o2 = o17 → LoopAt _ _ [(2, .optr 0 0 0 0), (3, .optr 1 0 0 0), (9, sl 8 TEntry.cells a0.fItems), (10, .int .i64 (a0.fItems.length : Int)), (11, .int .i64 y6)] [.row 0 5 1 26 (fun _ => [.int .i64 0, .int .i64 0, .str [], .int .i64 0, .nils]), .row 0 5 1 26 (fun _ => [.int .i64 a0.fKind, .int .i64 a0.fNum, .str a0.fStr, .int .i64 a0.fNext, .own 2 0 0 l5.length]), .row 0 8 l5.length 34 (row TEntry.cells l5)]) ?_ a0 ([] : List TEntry) 0 o2 hL20 rfl rfl
      intro _ hG9 _ _ p19 l5 y6 o17 h ih7  hp_p19 hr18
      subst hp_p19
      subst hr18
      refine LoopAt.round ?_
      refine .direct ?_
      refine .direct ?_
      refine splitB.mk (fun hb10 => ?_) (fun hb10 => ?_)
      · replace h := T_dec hb10 h
        refine .direct ?_
        refine .direct ?_
        obtain ⟨x11, hx12, h⟩ := bind_some h
        refine ⟨idx_bd hx12, _, (idx_row hx12).trans (TEntry.cells_eq x11), ?_⟩
        refine ⟨rfl, _, fun _ => [.bool x11.fKey.fText, .int .i64 x11.fKey.fNum, .str x11.fKey.fStr, .int .i64 x11.fVal.fKind, .int .i64 x11.fVal.fNum, .str x11.fVal.fStr, .int .i64 x11.fVal.fNext, sl 8 TEntry.cells x11.fVal.fItems], rfl, one_set rfl, ?_⟩
        refine .float [(0, true), (1, true), (2, true), (3, true), (4, true), (5, true), (6, false), (7, true), (8, false), (9, false), (10, true), (11, false)] (by kernel_rfl) ?_
        refine ⟨rfl, ?_⟩
        refine ⟨rfl, _, rfl, ?_⟩
        refine ⟨rfl, ?_⟩
        refine ⟨rfl, _, rfl, ?_⟩
        refine ⟨rfl, ?_⟩
        refine ⟨rfl, _, rfl, ?_⟩
        obtain ⟨v13, hv14, h⟩ := bind_some h
        refine ⟨_, ACall.pure0 (hG9 _ _ hv14) _ rfl (fun _ => rfl), ?_⟩
        rintro _ _ ⟨rfl, rfl⟩
        refine ⟨rfl, ?_⟩
        refine ⟨rfl, ?_⟩
        refine ⟨rfl, ?_⟩
        refine ⟨rfl, ?_⟩
        refine ⟨row TEntry.cells ([(TEntry.mk x11.fKey v13)] : List TEntry), row_lit TEntry.cells ([(TEntry.mk x11.fKey v13)] : List TEntry) rfl (cll_cons (TEntry.cells_eq _) ⟨.same _, .same _, .same _, .same _, .same _, .same _, .same _, .same _, trivial⟩ trivial), ?_⟩
        refine ⟨rfl, ?_⟩
        refine ⟨rfl, ?_⟩
        obtain ⟨l15, hx16, h⟩ := bind_some h
        refine ⟨rfl, rfl, lapp_bd hx16, l15.length, row TEntry.cells l15, lapp_len hx16, lapp_row hx16 shows_all (src_own shows_all), ?_⟩
        refine ⟨rfl, ?_⟩
        refine ⟨rfl, _, fun _ => [.int .i64 a0.fKind, .int .i64 a0.fNum, .str a0.fStr, .int .i64 a0.fNext, .own 2 (0 + 1) 0 l15.length], rfl, one_set rfl, ?_⟩
        exact ⟨[(2, .optr 0 0 0 0), (3, .optr 1 0 0 0), (9, sl 8 TEntry.cells a0.fItems), (10, .int .i64 (a0.fItems.length : Int)), (11, .int .i64 (W64 (y6 + 1)))], [.row 0 5 1 26 (fun _ => [.int .i64 0, .int .i64 0, .str [], .int .i64 0, .nils]), .row 0 5 1 26 (fun _ => [.int .i64 a0.fKind, .int .i64 a0.fNum, .str a0.fStr, .int .i64 a0.fNext, .own 2 0 0 l15.length]), .row 0 8 l15.length 34 (row TEntry.cells l15)], ⟨[0, 1, 2], by decide, (show 0 ≤ 3 by decide), ⟨.optr_eq rfl ⟨_, _, _, _, rfl⟩ ⟨_, _, _, _, rfl⟩ rfl rfl, .optr_eq rfl ⟨_, _, _, _, rfl⟩ ⟨_, _, _, _, rfl⟩ rfl rfl, .slc_eq rfl (fun _ _ => rfl), .int_eq rfl, .int_eq rfl, trivial⟩, ⟨⟨fun h0 => absurd (show 0 < 0 from h0) (by decide), rfl, rfl, rfl, fun _ _ => ⟨.int_eq rfl, .int_eq rfl, .str_eq rfl, .int_eq rfl, .nils, trivial⟩⟩, ⟨fun h0 => absurd (show 1 < 0 from h0) (by decide), rfl, rfl, rfl, fun _ _ => ⟨.int_eq rfl, .int_eq rfl, .str_eq rfl, .int_eq rfl, .own_eq rfl ⟨_, _, _, _, rfl⟩ ⟨_, _, _, _, rfl⟩ rfl rfl, trivial⟩⟩, ⟨fun h0 => absurd (show 2 < 0 from h0) (by decide), rfl, rfl, rfl, fz_row TEntry.cells_pure⟩, trivial⟩⟩, ih7 _ _ _ _ h rfl rfl⟩
      · replace h := F_dec hb10 h
        exact ⟨[(2, .optr 0 0 0 0), (3, .optr 1 0 0 0)], [.row 0 5 1 26 (fun _ => [.int .i64 0, .int .i64 0, .str [], .int .i64 0, .nils]), .row 0 5 1 26 (fun _ => [.int .i64 a0.fKind, .int .i64 a0.fNum, .str a0.fStr, .int .i64 a0.fNext, .own 2 0 0 l5.length]), .row 0 8 l5.length 34 (row TEntry.cells l5)], ⟨[0, 1, 2], by decide, (show 0 ≤ 3 by decide), ⟨.optr_eq rfl ⟨_, _, _, _, rfl⟩ ⟨_, _, _, _, rfl⟩ rfl rfl, .optr_eq rfl ⟨_, _, _, _, rfl⟩ ⟨_, _, _, _, rfl⟩ rfl rfl, trivial⟩, ⟨⟨fun h0 => absurd (show 0 < 0 from h0) (by decide), rfl, rfl, rfl, fun _ _ => ⟨.int_eq rfl, .int_eq rfl, .str_eq rfl, .int_eq rfl, .nils, trivial⟩⟩, ⟨fun h0 => absurd (show 1 < 0 from h0) (by decide), rfl, rfl, rfl, fun _ _ => ⟨.int_eq rfl, .int_eq rfl, .str_eq rfl, .int_eq rfl, .own_eq rfl ⟨_, _, _, _, rfl⟩ ⟨_, _, _, _, rfl⟩ rfl rfl, trivial⟩⟩, ⟨fun h0 => absurd (show 2 < 0 from h0) (by decide), rfl, rfl, rfl, fz_row TEntry.cells_pure⟩, trivial⟩⟩, l5, Option.some.inj h, rfl, rfl⟩
    · rintro _ _ ⟨l1, rfl, rfl, rfl⟩
      replace h := hk4
      refine .direct ?_
      refine ⟨rfl, _, rfl, ?_⟩
      refine ⟨rfl, _, fun _ => [.int .i64 a0.fKind, .int .i64 a0.fNum, .str a0.fStr, .int .i64 a0.fNext, .own 2 0 0 l1.length], rfl, one_set rfl, ?_⟩
      obtain rfl := Option.some.inj h
      refine ⟨rfl, _, rfl, ?_⟩
      exact ⟨[], .agg [.int .i64 ((TValue.mk a0.fKind a0.fNum a0.fStr a0.fNext l1).fKind), .int .i64 ((TValue.mk a0.fKind a0.fNum a0.fStr a0.fNext l1).fNum), .str ((TValue.mk a0.fKind a0.fNum a0.fStr a0.fNext l1).fStr), .int .i64 ((TValue.mk a0.fKind a0.fNum a0.fStr a0.fNext l1).fNext), sl 8 TEntry.cells ((TValue.mk a0.fKind a0.fNum a0.fStr a0.fNext l1).fItems)], [], by decide, (show 0 ≤ 0 by decide), .agg_l ⟨.int_eq rfl, .int_eq rfl, .str_eq rfl, .int_eq rfl, (fz_frz TEntry.cells_pure (by first | decide | simp) rfl shows_all), trivial⟩, trivial, rfl, rfl⟩
  · intro F0 F1 hF0 hF1 a0 l5 y6 o h
    exact .mk F0 hF0 F1 hF1 a0 l5 y6 o h
theorem ok46 {a0 : TValue} {r : TValue} (h : m46 a0 = some r) : ACall Tryd.prog 37 [.agg [.int .i64 a0.fKind, .int .i64 a0.fNum, .str a0.fStr, .int .i64 a0.fNext, sl 8 TEntry.cells a0.fItems]] [] (fun res h => res = .agg [.int .i64 r.fKind, .int .i64 r.fNum, .str r.fStr, .int .i64 r.fNext, sl 8 TEntry.cells r.fItems] ∧ h = []) := grp_46.1 a0 r h
theorem ow46 {a0 : TValue} {r : TValue} (h : m46 a0 = some r) : ACall Tryd.prog 37 [.agg [.int .i64 a0.fKind, .int .i64 a0.fNum, .str a0.fStr, .int .i64 a0.fNext, sl 8 TEntry.cells a0.fItems]] [] (fun res h => res = .agg [.int .i64 r.fKind, .int .i64 r.fNum, .str r.fStr, .int .i64 r.fNext, .own 0 0 0 r.fItems.length] ∧ h = [.row 0 8 r.fItems.length 34 (row TEntry.cells r.fItems)]) := by
  have hI21 := grp_46.2
  refine ACall.of_vc tabT_ok mixed Tryd.func37 rfl (by kernel_rfl) _ _ _ rfl (by kernel_rfl) ?_
  unfold m46 at h
  refine .direct ?_
  refine .direct ?_
  refine ⟨rfl, _, rfl, ?_⟩
  refine ⟨rfl, _, fun _ => [.int .i64 a0.fKind, .int .i64 a0.fNum, .str a0.fStr, .int .i64 a0.fNext, sl 8 TEntry.cells a0.fItems], rfl, one_set rfl, ?_⟩
  refine .direct ?_
  refine ⟨rfl, ?_⟩
  refine ⟨rfl, _, fun _ => [.int .i64 a0.fKind, .int .i64 a0.fNum, .str a0.fStr, .int .i64 a0.fNext, .nils], rfl, one_set rfl, ?_⟩
  obtain ⟨o2, ho3, hk4⟩ := bind_some h
  replace h := ho3
  refine .cut (fun σ η => ∃ l1, l1 = o2 ∧ σ = [(2, .optr 0 0 0 0), (3, .optr 1 0 0 0)] ∧ η = [.row 0 5 1 26 (fun _ => [.int .i64 0, .int .i64 0, .str [], .int .i64 0, .nils]), .row 0 5 1 26 (fun _ => [.int .i64 a0.fKind, .int .i64 a0.fNum, .str a0.fStr, .int .i64 a0.fNext, .own 2 0 0 l1.length]), .row 0 8 l1.length 34 (row TEntry.cells l1)]) ?_ ?_
  · refine .direct ?_
    refine ⟨rfl, ?_⟩
    refine ⟨rfl, _, rfl, ?_⟩
    have hL20 := hI21 _ _ _ _ h
    refine LoopAt.enter [(2, .optr 0 0 0 0), (3, .optr 1 0 0 0), (9, sl 8 TEntry.cells a0.fItems), (10, .int .i64 (a0.fItems.length : Int)), (11, .int .i64 0)] [.row 0 5 1 26 (fun _ => [.int .i64 0, .int .i64 0, .str [], .int .i64 0, .nils]), .row 0 5 1 26 (fun _ => [.int .i64 a0.fKind, .int .i64 a0.fNum, .str a0.fStr, .int .i64 a0.fNext, .own 2 0 0 ([] : List TEntry).length]), .row 0 8 ([] : List TEntry).length 34 (row TEntry.cells ([] : List TEntry))] ⟨[1, 2, 5], by decide, (show 0 ≤ 3 by decide), ⟨.optr_eq rfl ⟨_, _, _, _, rfl⟩ ⟨_, _, _, _, rfl⟩ rfl rfl, .optr_eq rfl ⟨_, _, _, _, rfl⟩ ⟨_, _, _, _, rfl⟩ rfl rfl, .slc_eq rfl (fun _ _ => rfl), .int_eq rfl, .int_eq rfl, trivial⟩, ⟨⟨fun h0 => absurd (show 0 < 0 from h0) (by decide), rfl, rfl, rfl, fun _ _ => ⟨.int_eq rfl, .int_eq rfl, .str_eq rfl, .int_eq rfl, .nils, trivial⟩⟩, ⟨fun h0 => absurd (show 1 < 0 from h0) (by decide), rfl, rfl, rfl, fun _ _ => ⟨.int_eq rfl, .int_eq rfl, .str_eq rfl, .int_eq rfl, (.nilo _ _ _ _ _ _ rfl rfl rfl), trivial⟩⟩, ⟨(show 0 ≤ 2 by decide), rfl⟩, trivial⟩⟩ ?_
    refine m46_L2_ind (motive := fun p19 l5 y6 o17 => a0 = p19 → o2 = o17 → LoopAt _ _ [(2, .optr 0 0 0 0), (3, .optr 1 0 0 0), (9, sl 8 TEntry.cells a0.fItems), (10, .int .i64 (a0.fItems.length : Int)), (11, .int .i64 y6)] [.row 0 5 1 26 (fun _ => [.int .i64 0, .int .i64 0, .str [], .int .i64 0, .nils]), .row 0 5 1 26 (fun _ => [.int .i64 a0.fKind, .int .i64 a0.fNum, .str a0.fStr, .int .i64 a0.fNext, .own 2 0 0 l5.length]), .row 0 8 l5.length 34 (row TEntry.cells l5)]) ?_ a0 ([] : List TEntry) 0 o2 hL20 rfl rfl
    intro _ hG9 _ _ p19 l5 y6 o17 h ih7  hp_p19 hr18
    subst hp_p19
    subst hr18
    refine LoopAt.round ?_
    refine .direct ?_
    refine .direct ?_
    refine splitB.mk (fun hb10 => ?_) (fun hb10 => ?_)
    · replace h := T_dec hb10 h
      refine .direct ?_
      refine .direct ?_
      obtain ⟨x11, hx12, h⟩ := bind_some h
      refine ⟨idx_bd hx12, _, (idx_row hx12).trans (TEntry.cells_eq x11), ?_⟩
      refine ⟨rfl, _, fun _ => [.bool x11.fKey.fText, .int .i64 x11.fKey.fNum, .str x11.fKey.fStr, .int .i64 x11.fVal.fKind, .int .i64 x11.fVal.fNum, .str x11.fVal.fStr, .int .i64 x11.fVal.fNext, sl 8 TEntry.cells x11.fVal.fItems], rfl, one_set rfl, ?_⟩
      refine .float [(0, true), (1, true), (2, true), (3, true), (4, true), (5, true), (6, false), (7, true), (8, false), (9, false), (10, true), (11, false)] (by kernel_rfl) ?_
      refine ⟨rfl, ?_⟩
      refine ⟨rfl, _, rfl, ?_⟩
      refine ⟨rfl, ?_⟩
      refine ⟨rfl, _, rfl, ?_⟩
      refine ⟨rfl, ?_⟩
      refine ⟨rfl, _, rfl, ?_⟩
      obtain ⟨v13, hv14, h⟩ := bind_some h
      refine ⟨_, ACall.pure0 (hG9 _ _ hv14) _ rfl (fun _ => rfl), ?_⟩
      rintro _ _ ⟨rfl, rfl⟩
      refine ⟨rfl, ?_⟩
      refine ⟨rfl, ?_⟩
      refine ⟨rfl, ?_⟩
      refine ⟨rfl, ?_⟩
      refine ⟨row TEntry.cells ([(TEntry.mk x11.fKey v13)] : List TEntry), row_lit TEntry.cells ([(TEntry.mk x11.fKey v13)] : List TEntry) rfl (cll_cons (TEntry.cells_eq _) ⟨.same _, .same _, .same _, .same _, .same _, .same _, .same _, .same _, trivial⟩ trivial), ?_⟩
      refine ⟨rfl, ?_⟩
      refine ⟨rfl, ?_⟩
      obtain ⟨l15, hx16, h⟩ := bind_some h
      refine ⟨rfl, rfl, lapp_bd hx16, l15.length, row TEntry.cells l15, lapp_len hx16, lapp_row hx16 shows_all (src_own shows_all), ?_⟩
      refine ⟨rfl, ?_⟩
      refine ⟨rfl, _, fun _ => [.int .i64 a0.fKind, .int .i64 a0.fNum, .str a0.fStr, .int .i64 a0.fNext, .own 2 (0 + 1) 0 l15.length], rfl, one_set rfl, ?_⟩
      exact ⟨[(2, .optr 0 0 0 0), (3, .optr 1 0 0 0), (9, sl 8 TEntry.cells a0.fItems), (10, .int .i64 (a0.fItems.length : Int)), (11, .int .i64 (W64 (y6 + 1)))], [.row 0 5 1 26 (fun _ => [.int .i64 0, .int .i64 0, .str [], .int .i64 0, .nils]), .row 0 5 1 26 (fun _ => [.int .i64 a0.fKind, .int .i64 a0.fNum, .str a0.fStr, .int .i64 a0.fNext, .own 2 0 0 l15.length]), .row 0 8 l15.length 34 (row TEntry.cells l15)], ⟨[0, 1, 2], by decide, (show 0 ≤ 3 by decide), ⟨.optr_eq rfl ⟨_, _, _, _, rfl⟩ ⟨_, _, _, _, rfl⟩ rfl rfl, .optr_eq rfl ⟨_, _, _, _, rfl⟩ ⟨_, _, _, _, rfl⟩ rfl rfl, .slc_eq rfl (fun _ _ => rfl), .int_eq rfl, .int_eq rfl, trivial⟩, ⟨⟨fun h0 => absurd (show 0 < 0 from h0) (by decide), rfl, rfl, rfl, fun _ _ => ⟨.int_eq rfl, .int_eq rfl, .str_eq rfl, .int_eq rfl, .nils, trivial⟩⟩, ⟨fun h0 => absurd (show 1 < 0 from h0) (by decide), rfl, rfl, rfl, fun _ _ => ⟨.int_eq rfl, .int_eq rfl, .str_eq rfl, .int_eq rfl, .own_eq rfl ⟨_, _, _, _, rfl⟩ ⟨_, _, _, _, rfl⟩ rfl rfl, trivial⟩⟩, ⟨fun h0 => absurd (show 2 < 0 from h0) (by decide), rfl, rfl, rfl, fz_row TEntry.cells_pure⟩, trivial⟩⟩, ih7 _ _ _ _ h rfl rfl⟩
    · replace h := F_dec hb10 h
      exact ⟨[(2, .optr 0 0 0 0), (3, .optr 1 0 0 0)], [.row 0 5 1 26 (fun _ => [.int .i64 0, .int .i64 0, .str [], .int .i64 0, .nils]), .row 0 5 1 26 (fun _ => [.int .i64 a0.fKind, .int .i64 a0.fNum, .str a0.fStr, .int .i64 a0.fNext, .own 2 0 0 l5.length]), .row 0 8 l5.length 34 (row TEntry.cells l5)], ⟨[0, 1, 2], by decide, (show 0 ≤ 3 by decide), ⟨.optr_eq rfl ⟨_, _, _, _, rfl⟩ ⟨_, _, _, _, rfl⟩ rfl rfl, .optr_eq rfl ⟨_, _, _, _, rfl⟩ ⟨_, _, _, _, rfl⟩ rfl rfl, trivial⟩, ⟨⟨fun h0 => absurd (show 0 < 0 from h0) (by decide), rfl, rfl, rfl, fun _ _ => ⟨.int_eq rfl, .int_eq rfl, .str_eq rfl, .int_eq rfl, .nils, trivial⟩⟩, ⟨fun h0 => absurd (show 1 < 0 from h0) (by decide), rfl, rfl, rfl, fun _ _ => ⟨.int_eq rfl, .int_eq rfl, .str_eq rfl, .int_eq rfl, .own_eq rfl ⟨_, _, _, _, rfl⟩ ⟨_, _, _, _, rfl⟩ rfl rfl, trivial⟩⟩, ⟨fun h0 => absurd (show 2 < 0 from h0) (by decide), rfl, rfl, rfl, fz_row TEntry.cells_pure⟩, trivial⟩⟩, l5, Option.some.inj h, rfl, rfl⟩
  · rintro _ _ ⟨l1, rfl, rfl, rfl⟩
    replace h := hk4
    refine .direct ?_
    refine ⟨rfl, _, rfl, ?_⟩
    refine ⟨rfl, _, fun _ => [.int .i64 a0.fKind, .int .i64 a0.fNum, .str a0.fStr, .int .i64 a0.fNext, .own 2 0 0 l1.length], rfl, one_set rfl, ?_⟩
    obtain rfl := Option.some.inj h
    refine ⟨rfl, _, rfl, ?_⟩
    exact ⟨[2], .agg [.int .i64 ((TValue.mk a0.fKind a0.fNum a0.fStr a0.fNext l1).fKind), .int .i64 ((TValue.mk a0.fKind a0.fNum a0.fStr a0.fNext l1).fNum), .str ((TValue.mk a0.fKind a0.fNum a0.fStr a0.fNext l1).fStr), .int .i64 ((TValue.mk a0.fKind a0.fNum a0.fStr a0.fNext l1).fNext), .own 0 0 0 ((TValue.mk a0.fKind a0.fNum a0.fStr a0.fNext l1).fItems).length], [.row 0 8 ((TValue.mk a0.fKind a0.fNum a0.fStr a0.fNext l1).fItems).length 34 (row TEntry.cells ((TValue.mk a0.fKind a0.fNum a0.fStr a0.fNext l1).fItems))], by decide, (show 0 ≤ 1 by decide), .agg_l ⟨.int_eq rfl, .int_eq rfl, .str_eq rfl, .int_eq rfl, .own_eq rfl ⟨_, _, _, _, rfl⟩ ⟨_, _, _, _, rfl⟩ rfl rfl, trivial⟩, ⟨⟨fun h0 => absurd (show 0 < 0 from h0) (by decide), rfl, rfl, rfl, fz_row TEntry.cells_pure⟩, trivial⟩, rfl, rfl⟩
def m25 (a0 : TValue) (a1 : TKey) : Option (TValue × Bool) :=
  m27 a0 a1 >>= fun v1 =>
  (if v1 < 0 then
    some ((TValue.mk 0 0 [] 0 []), false)
  else
    idx a0.fItems v1 >>= fun x4 =>
    m46 x4.fVal >>= fun v6 =>
    some (v6, true))
theorem ok25 {a0 : TValue} {a1 : TKey} {r : TValue × Bool} (h : m25 a0 a1 = some r) : ACall Tryd.prog 12 [.agg [.int .i64 a0.fKind, .int .i64 a0.fNum, .str a0.fStr, .int .i64 a0.fNext, sl 8 TEntry.cells a0.fItems], .agg [.bool a1.fText, .int .i64 a1.fNum, .str a1.fStr]] [] (fun res h => res = .tup [.agg [.int .i64 r.1.fKind, .int .i64 r.1.fNum, .str r.1.fStr, .int .i64 r.1.fNext, sl 8 TEntry.cells r.1.fItems], .bool r.2] ∧ h = []) := by
  refine ACall.of_vc tabT_ok mixed Tryd.func12 rfl (by kernel_rfl) _ _ _ rfl (by kernel_rfl) ?_
  unfold m25 at h
  refine .direct ?_
  refine .direct ?_
  refine ⟨rfl, _, rfl, ?_⟩
  refine ⟨rfl, _, rfl, ?_⟩
  obtain ⟨v1, hv2, h⟩ := bind_some h
  refine ⟨_, ACall.pure0 (ok27 hv2) _ rfl (fun _ => rfl), ?_⟩
  rintro _ _ ⟨rfl, rfl⟩
  refine .direct ?_
  refine .direct ?_
  refine splitB.mk (fun hb3 => ?_) (fun hb3 => ?_)
  · replace h := T_dec hb3 h
    refine .direct ?_
    refine ⟨_, ACall.pure0 (ok_i_NullValuex) _ rfl (fun _ => rfl), ?_⟩
    rintro _ _ ⟨rfl, rfl⟩
    refine ⟨rfl, _, fun _ => [.int .i64 0, .int .i64 0, .str [], .int .i64 0, .nils], rfl, one_set rfl, ?_⟩
    obtain rfl := Option.some.inj h
    refine ⟨rfl, _, rfl, ?_⟩
    exact ⟨[], .tup [.agg [.int .i64 ((TValue.mk 0 0 [] 0 []).fKind), .int .i64 ((TValue.mk 0 0 [] 0 []).fNum), .str ((TValue.mk 0 0 [] 0 []).fStr), .int .i64 ((TValue.mk 0 0 [] 0 []).fNext), sl 8 TEntry.cells ((TValue.mk 0 0 [] 0 []).fItems)], .bool false], [], by decide, (show 0 ≤ 0 by decide), .tup_l ⟨.agg_l ⟨.int_eq rfl, .int_eq rfl, .str_eq rfl, .int_eq rfl, fz_nils, trivial⟩, .bool_eq rfl, trivial⟩, trivial, rfl, rfl⟩
  · replace h := F_dec hb3 h
    refine .direct ?_
    refine ⟨rfl, ?_⟩
    refine ⟨rfl, _, rfl, ?_⟩
    obtain ⟨x4, hx5, h⟩ := bind_some h
    refine ⟨idx_bd hx5, _, (idx_row hx5).trans (TEntry.cells_eq x4), ?_⟩
    obtain ⟨v6, hv7, h⟩ := bind_some h
    refine ⟨_, ACall.pure0 (ok46 hv7) _ rfl (fun _ => rfl), ?_⟩
    rintro _ _ ⟨rfl, rfl⟩
    refine ⟨rfl, _, fun _ => [.int .i64 v6.fKind, .int .i64 v6.fNum, .str v6.fStr, .int .i64 v6.fNext, sl 8 TEntry.cells v6.fItems], rfl, one_set rfl, ?_⟩
    obtain rfl := Option.some.inj h
    refine ⟨rfl, _, rfl, ?_⟩
    exact ⟨[], .tup [.agg [.int .i64 v6.fKind, .int .i64 v6.fNum, .str v6.fStr, .int .i64 v6.fNext, sl 8 TEntry.cells v6.fItems], .bool true], [], by decide, (show 0 ≤ 0 by decide), .tup_l ⟨.agg_l ⟨.int_eq rfl, .int_eq rfl, .str_eq rfl, .int_eq rfl, .slc_eq rfl (fun _ _ => rfl), trivial⟩, .bool_eq rfl, trivial⟩, trivial, rfl, rfl⟩
mutual
def m51 (a0 : TValue) (a1 : Int) : Option (Int) :=
  (
    m51_L2 a0 a1 1 0
   : Option (Int)) >>= fun y1 =>
  some y1
partial_fixpoint
def m51_L2 (a0 : TValue) (a1 : Int) (y5 : Int) (y6 : Int) : Option (Int) :=
  (if a0.fKind = 4 then
    (if y6 < (a0.fItems.length : Int) then
      (if y5 ≤ a1 then
        idx a0.fItems y6 >>= fun x13 =>
        m51 x13.fVal (W64 (a1 - y5)) >>= fun v15 =>
        m51_L2 a0 a1 (W64 (y5 + v15)) (W64 (y6 + 1))
      else
        some y5)
    else
      some y5)
  else
    some y5)
partial_fixpoint
end
def okS44 (a0 : TValue) (a1 : Int) (r : Int) : Prop := ACall Tryd.prog 44 [.agg [.int .i64 a0.fKind, .int .i64 a0.fNum, .str a0.fStr, .int .i64 a0.fNext, sl 8 TEntry.cells a0.fItems], .int .i64 a1] [] (fun res h => res = .int .i64 r ∧ h = [])
inductive m51_L2_I : TValue → Int → Int → Int → (Int) → Prop
  | mk (G44 : TValue → Int → Option (Int)) (hG44 : ∀ a0 a1 r, G44 a0 a1 = some r → okS44 a0 a1 r) (F_m51_L2 : TValue → Int → Int → Int → Option (Int)) (hF_m51_L2 : ∀ a0 a1 y5 y6 o, F_m51_L2 a0 a1 y5 y6 = some o → m51_L2_I a0 a1 y5 y6 o) (a0 : TValue) (a1 : Int) (y5 : Int) (y6 : Int) (o : Int) (h : (
      (if a0.fKind = 4 then
        (if y6 < (a0.fItems.length : Int) then
          (if y5 ≤ a1 then
            idx a0.fItems y6 >>= fun x13 =>
            G44 x13.fVal (W64 (a1 - y5)) >>= fun v15 =>
            F_m51_L2 a0 a1 (W64 (y5 + v15)) (W64 (y6 + 1))
          else
            some y5)
        else
          some y5)
      else
        some y5)
    ) = some o) : m51_L2_I a0 a1 y5 y6 o
theorem m51_L2_ind {motive : TValue → Int → Int → Int → (Int) → Prop} (step : ∀ (G44 : TValue → Int → Option (Int)) (hG44 : ∀ a0 a1 r, G44 a0 a1 = some r → okS44 a0 a1 r) (F_m51_L2 : TValue → Int → Int → Int → Option (Int)) (hF_m51_L2 : ∀ a0 a1 y5 y6 o, F_m51_L2 a0 a1 y5 y6 = some o → m51_L2_I a0 a1 y5 y6 o) (a0 : TValue) (a1 : Int) (y5 : Int) (y6 : Int) (o : Int) (h : (
      (if a0.fKind = 4 then
        (if y6 < (a0.fItems.length : Int) then
          (if y5 ≤ a1 then
            idx a0.fItems y6 >>= fun x13 =>
            G44 x13.fVal (W64 (a1 - y5)) >>= fun v15 =>
            F_m51_L2 a0 a1 (W64 (y5 + v15)) (W64 (y6 + 1))
          else
            some y5)
        else
          some y5)
      else
        some y5)
    ) = some o) (ih : ∀ a0 a1 y5 y6 o, F_m51_L2 a0 a1 y5 y6 = some o → motive a0 a1 y5 y6 o), motive a0 a1 y5 y6 o) : ∀ a0 a1 y5 y6 o, m51_L2_I a0 a1 y5 y6 o → motive a0 a1 y5 y6 o :=
  fun a0 a1 y5 y6 o h => m51_L2_I.rec (motive := fun a0 a1 y5 y6 o _ => motive a0 a1 y5 y6 o) step h
theorem grp_51 : (∀ a0 a1 r, m51 a0 a1 = some r → okS44 a0 a1 r) ∧ (∀ a0 a1 y5 y6 o, m51_L2 a0 a1 y5 y6 = some o → m51_L2_I a0 a1 y5 y6 o) := by
  refine m51.mutual_partial_correctness okS44 m51_L2_I ?_ ?_
  · intro _ hI22 a0 a1 r h
    refine ACall.of_vc tabT_ok mixed Tryd.func44 rfl (by kernel_rfl) _ _ _ rfl (by kernel_rfl) ?_
    refine .direct ?_
    refine .direct ?_
    obtain ⟨o2, ho3, hk4⟩ := bind_some h
    replace h := ho3
    refine .cut (fun σ η => ∃ y1, y1 = o2 ∧ σ = [(5, .int .i64 y1)] ∧ η = []) ?_ ?_
    · refine .direct ?_
      have hL21 := hI22 _ _ _ _ _ h
      refine LoopAt.enter [(1, .int .i64 a1), (2, .optr 0 0 0 0), (5, .int .i64 1), (6, .int .i64 0)] [.row 0 5 1 26 (fun _ => [.int .i64 a0.fKind, .int .i64 a0.fNum, .str a0.fStr, .int .i64 a0.fNext, sl 8 TEntry.cells a0.fItems])] ⟨[0], by decide, (show 0 ≤ 1 by decide), ⟨.int_eq rfl, .optr_eq rfl ⟨_, _, _, _, rfl⟩ ⟨_, _, _, _, rfl⟩ rfl rfl, .int_eq rfl, .int_eq rfl, trivial⟩, ⟨⟨fun h0 => absurd (show 0 < 0 from h0) (by decide), rfl, rfl, rfl, fun _ _ => ⟨.int_eq rfl, .int_eq rfl, .str_eq rfl, .int_eq rfl, .slc_eq rfl (fun _ _ => rfl), trivial⟩⟩, trivial⟩⟩ ?_
      refine m51_L2_ind (motive := fun p19 p20 y5 y6 o17 => a0 = p19 → a1 = p20 → o2 = o17 → LoopAt _ _ [(1, .int .i64 a1), (2, .optr 0 0 0 0), (5, .int .i64 y5), (6, .int .i64 y6)] [.row 0 5 1 26 (fun _ => [.int .i64 a0.fKind, .int .i64 a0.fNum, .str a0.fStr, .int .i64 a0.fNext, sl 8 TEntry.cells a0.fItems])]) ?_ a0 a1 1 0 o2 hL21 rfl rfl rfl
      intro _ hG9 _ _ p19 p20 y5 y6 o17 h ih7  hp_p19 hp_p20 hr18
      subst hp_p19
      subst hp_p20
      subst hr18
      refine LoopAt.round ?_
      refine .direct ?_
      refine .direct ?_
      refine ⟨rfl, ?_⟩
      refine ⟨rfl, _, rfl, ?_⟩
      refine splitB.mk (fun hb10 => ?_) (fun hb10 => ?_)
      · replace h := T_beq hb10 h
        refine splitB_t ?_
        refine ⟨rfl, ?_⟩
        refine splitB_t ?_
        refine ⟨rfl, _, rfl, ?_⟩
        refine splitB_t ?_
        refine splitB_t ?_
        refine splitB_t ?_
        refine splitB.mk (fun hb11 => ?_) (fun hb11 => ?_)
        · replace h := T_dec hb11 h
          refine splitB_t ?_
          refine splitB_t ?_
          refine splitB_t ?_
          refine splitB.mk (fun hb12 => ?_) (fun hb12 => ?_)
          · replace h := T_dec hb12 h
            refine .direct ?_
            refine ⟨rfl, ?_⟩
            refine ⟨rfl, _, rfl, ?_⟩
            obtain ⟨x13, hx14, h⟩ := bind_some h
            refine ⟨idx_bd hx14, _, (idx_row hx14).trans (TEntry.cells_eq x13), ?_⟩
            obtain ⟨v15, hv16, h⟩ := bind_some h
            refine ⟨_, ACall.pure0 (hG9 _ _ _ hv16) _ rfl (fun _ => rfl), ?_⟩
            rintro _ _ ⟨rfl, rfl⟩
            exact ⟨[(1, .int .i64 a1), (2, .optr 0 0 0 0), (5, .int .i64 (W64 (y5 + v15))), (6, .int .i64 (W64 (y6 + 1)))], [.row 0 5 1 26 (fun _ => [.int .i64 a0.fKind, .int .i64 a0.fNum, .str a0.fStr, .int .i64 a0.fNext, sl 8 TEntry.cells a0.fItems])], ⟨[0], by decide, (show 0 ≤ 1 by decide), ⟨.int_eq rfl, .optr_eq rfl ⟨_, _, _, _, rfl⟩ ⟨_, _, _, _, rfl⟩ rfl rfl, .int_eq rfl, .int_eq rfl, trivial⟩, ⟨⟨fun h0 => absurd (show 0 < 0 from h0) (by decide), rfl, rfl, rfl, fun _ _ => ⟨.int_eq rfl, .int_eq rfl, .str_eq rfl, .int_eq rfl, .slc_eq rfl (fun _ _ => rfl), trivial⟩⟩, trivial⟩⟩, ih7 _ _ _ _ _ h rfl rfl rfl⟩
          · replace h := F_dec hb12 h
            exact ⟨[(5, .int .i64 y5)], [], ⟨[], by decide, (show 0 ≤ 0 by decide), ⟨.int_eq rfl, trivial⟩, trivial⟩, y5, Option.some.inj h, rfl, rfl⟩
        · replace h := F_dec hb11 h
          refine splitB_f ?_
          refine splitB_f ?_
          refine splitB_f ?_
          refine splitB_f ?_
          exact ⟨[(5, .int .i64 y5)], [], ⟨[], by decide, (show 0 ≤ 0 by decide), ⟨.int_eq rfl, trivial⟩, trivial⟩, y5, Option.some.inj h, rfl, rfl⟩
      · replace h := F_beq hb10 h
        refine splitB_f ?_
        refine splitB_f ?_
        refine splitB_f ?_
        refine splitB_f ?_
        refine splitB_f ?_
        refine splitB_f ?_
        refine splitB_f ?_
        refine splitB_f ?_
        refine splitB_f ?_
        refine splitB_f ?_
        exact ⟨[(5, .int .i64 y5)], [], ⟨[], by decide, (show 0 ≤ 0 by decide), ⟨.int_eq rfl, trivial⟩, trivial⟩, y5, Option.some.inj h, rfl, rfl⟩
    · rintro _ _ ⟨y1, rfl, rfl, rfl⟩
      replace h := hk4
      refine .direct ?_
      obtain rfl := Option.some.inj h
      exact ⟨[], .int .i64 y1, [], by decide, (show 0 ≤ 0 by decide), .int_eq rfl, trivial, rfl, rfl⟩
  · intro F0 F1 hF0 hF1 a0 a1 y5 y6 o h
    exact .mk F0 hF0 F1 hF1 a0 a1 y5 y6 o h
theorem ok51 {a0 : TValue} {a1 : Int} {r : Int} (h : m51 a0 a1 = some r) : ACall Tryd.prog 44 [.agg [.int .i64 a0.fKind, .int .i64 a0.fNum, .str a0.fStr, .int .i64 a0.fNext, sl 8 TEntry.cells a0.fItems], .int .i64 a1] [] (fun res h => res = .int .i64 r ∧ h = []) := grp_51.1 a0 a1 r h
mutual
def m_s_l5Copy (a0 : TValue) : Option (TValue) :=
  (
    m_s_l5Copy_L2 a0 ([] : List TEntry) 0
   : Option ((List TEntry))) >>= fun l1 =>
  some (TValue.mk a0.fKind a0.fNum a0.fStr a0.fNext l1)
partial_fixpoint
def m_s_l5Copy_L2 (a0 : TValue) (l5 : List TEntry) (y6 : Int) : Option ((List TEntry)) :=
  (if y6 < (a0.fItems.length : Int) then
    idx a0.fItems y6 >>= fun x11 =>
    idx a0.fItems y6 >>= fun x13 =>
    m_s_l5Copy x13.fVal >>= fun v15 =>
    lapp 96 l5 ([(TEntry.mk x11.fKey v15)] : List TEntry) >>= fun l17 =>
    m_s_l5Copy_L2 a0 l17 (W64 (y6 + 1))
  else
    some l5)
partial_fixpoint
end
def okS43 (a0 : TValue) (r : TValue) : Prop := ACall Tryd.prog 43 [.agg [.int .i64 a0.fKind, .int .i64 a0.fNum, .str a0.fStr, .int .i64 a0.fNext, sl 8 TEntry.cells a0.fItems]] [] (fun res h => res = .agg [.int .i64 r.fKind, .int .i64 r.fNum, .str r.fStr, .int .i64 r.fNext, sl 8 TEntry.cells r.fItems] ∧ h = [])
inductive m_s_l5Copy_L2_I : TValue → (List TEntry) → Int → ((List TEntry)) → Prop
  | mk (G43 : TValue → Option (TValue)) (hG43 : ∀ a0 r, G43 a0 = some r → okS43 a0 r) (F_m_s_l5Copy_L2 : TValue → (List TEntry) → Int → Option ((List TEntry))) (hF_m_s_l5Copy_L2 : ∀ a0 l5 y6 o, F_m_s_l5Copy_L2 a0 l5 y6 = some o → m_s_l5Copy_L2_I a0 l5 y6 o) (a0 : TValue) (l5 : List TEntry) (y6 : Int) (o : (List TEntry)) (h : (
      (if y6 < (a0.fItems.length : Int) then
        idx a0.fItems y6 >>= fun x11 =>
        idx a0.fItems y6 >>= fun x13 =>
        G43 x13.fVal >>= fun v15 =>
        lapp 96 l5 ([(TEntry.mk x11.fKey v15)] : List TEntry) >>= fun l17 =>
        F_m_s_l5Copy_L2 a0 l17 (W64 (y6 + 1))
      else
        some l5)
    ) = some o) : m_s_l5Copy_L2_I a0 l5 y6 o
theorem m_s_l5Copy_L2_ind {motive : TValue → (List TEntry) → Int → ((List TEntry)) → Prop} (step : ∀ (G43 : TValue → Option (TValue)) (hG43 : ∀ a0 r, G43 a0 = some r → okS43 a0 r) (F_m_s_l5Copy_L2 : TValue → (List TEntry) → Int → Option ((List TEntry))) (hF_m_s_l5Copy_L2 : ∀ a0 l5 y6 o, F_m_s_l5Copy_L2 a0 l5 y6 = some o → m_s_l5Copy_L2_I a0 l5 y6 o) (a0 : TValue) (l5 : List TEntry) (y6 : Int) (o : (List TEntry)) (h : (
      (if y6 < (a0.fItems.length : Int) then
        idx a0.fItems y6 >>= fun x11 =>
        idx a0.fItems y6 >>= fun x13 =>
        G43 x13.fVal >>= fun v15 =>
        lapp 96 l5 ([(TEntry.mk x11.fKey v15)] : List TEntry) >>= fun l17 =>
        F_m_s_l5Copy_L2 a0 l17 (W64 (y6 + 1))
      else
        some l5)
    ) = some o) (ih : ∀ a0 l5 y6 o, F_m_s_l5Copy_L2 a0 l5 y6 = some o → motive a0 l5 y6 o), motive a0 l5 y6 o) : ∀ a0 l5 y6 o, m_s_l5Copy_L2_I a0 l5 y6 o → motive a0 l5 y6 o :=
  fun a0 l5 y6 o h => m_s_l5Copy_L2_I.rec (motive := fun a0 l5 y6 o _ => motive a0 l5 y6 o) step h
theorem grp__s_l5Copy : (∀ a0 r, m_s_l5Copy a0 = some r → okS43 a0 r) ∧ (∀ a0 l5 y6 o, m_s_l5Copy_L2 a0 l5 y6 = some o → m_s_l5Copy_L2_I a0 l5 y6 o) := by
  refine m_s_l5Copy.mutual_partial_correctness okS43 m_s_l5Copy_L2_I ?_ ?_
  · intro _ hI23 a0 r h
    refine ACall.of_vc tabT_ok mixed Tryd.func43 rfl (by kernel_rfl) _ _ _ rfl (by kernel_rfl) ?_
    refine .direct ?_
    refine .direct ?_
    refine ⟨rfl, _, rfl, ?_⟩
    refine ⟨rfl, _, fun _ => [.int .i64 a0.fKind, .int .i64 a0.fNum, .str a0.fStr, .int .i64 a0.fNext, sl 8 TEntry.cells a0.fItems], rfl, one_set rfl, ?_⟩
    refine .direct ?_
    refine ⟨rfl, ?_⟩
    refine ⟨rfl, _, fun _ => [.int .i64 a0.fKind, .int .i64 a0.fNum, .str a0.fStr, .int .i64 a0.fNext, .nils], rfl, one_set rfl, ?_⟩
    obtain ⟨o2, ho3, hk4⟩ := bind_some h
    replace h := ho3
    refine .cut (fun σ η => ∃ l1, l1 = o2 ∧ σ = [(2, .optr 0 0 0 0), (3, .optr 1 0 0 0)] ∧ η = [.row 0 5 1 26 (fun _ => [.int .i64 0, .int .i64 0, .str [], .int .i64 0, .nils]), .row 0 5 1 26 (fun _ => [.int .i64 a0.fKind, .int .i64 a0.fNum, .str a0.fStr, .int .i64 a0.fNext, .own 2 0 0 l1.length]), .row 0 8 l1.length 34 (row TEntry.cells l1)]) ?_ ?_
    · refine .direct ?_
      have hL22 := hI23 _ _ _ _ h
      refine LoopAt.enter [(1, .optr 0 0 0 0), (2, .optr 1 0 0 0), (3, .optr 2 0 0 0), (4, .int .i64 0)] [.row 0 5 1 26 (fun _ => [.int .i64 a0.fKind, .int .i64 a0.fNum, .str a0.fStr, .int .i64 a0.fNext, sl 8 TEntry.cells a0.fItems]), .row 0 5 1 26 (fun _ => [.int .i64 0, .int .i64 0, .str [], .int .i64 0, .nils]), .row 0 5 1 26 (fun _ => [.int .i64 a0.fKind, .int .i64 a0.fNum, .str a0.fStr, .int .i64 a0.fNext, .own 3 0 0 ([] : List TEntry).length]), .row 0 8 ([] : List TEntry).length 34 (row TEntry.cells ([] : List TEntry))] ⟨[0, 1, 2, 6], by decide, (show 0 ≤ 4 by decide), ⟨.optr_eq rfl ⟨_, _, _, _, rfl⟩ ⟨_, _, _, _, rfl⟩ rfl rfl, .optr_eq rfl ⟨_, _, _, _, rfl⟩ ⟨_, _, _, _, rfl⟩ rfl rfl, .optr_eq rfl ⟨_, _, _, _, rfl⟩ ⟨_, _, _, _, rfl⟩ rfl rfl, .int_eq rfl, trivial⟩, ⟨⟨fun h0 => absurd (show 0 < 0 from h0) (by decide), rfl, rfl, rfl, fun _ _ => ⟨.int_eq rfl, .int_eq rfl, .str_eq rfl, .int_eq rfl, .slc_eq rfl (fun _ _ => rfl), trivial⟩⟩, ⟨fun h0 => absurd (show 1 < 0 from h0) (by decide), rfl, rfl, rfl, fun _ _ => ⟨.int_eq rfl, .int_eq rfl, .str_eq rfl, .int_eq rfl, .nils, trivial⟩⟩, ⟨fun h0 => absurd (show 2 < 0 from h0) (by decide), rfl, rfl, rfl, fun _ _ => ⟨.int_eq rfl, .int_eq rfl, .str_eq rfl, .int_eq rfl, (.nilo _ _ _ _ _ _ rfl rfl rfl), trivial⟩⟩, ⟨(show 0 ≤ 3 by decide), rfl⟩, trivial⟩⟩ ?_
      refine m_s_l5Copy_L2_ind (motive := fun p21 l5 y6 o19 => a0 = p21 → o2 = o19 → LoopAt _ _ [(1, .optr 0 0 0 0), (2, .optr 1 0 0 0), (3, .optr 2 0 0 0), (4, .int .i64 y6)] [.row 0 5 1 26 (fun _ => [.int .i64 a0.fKind, .int .i64 a0.fNum, .str a0.fStr, .int .i64 a0.fNext, sl 8 TEntry.cells a0.fItems]), .row 0 5 1 26 (fun _ => [.int .i64 0, .int .i64 0, .str [], .int .i64 0, .nils]), .row 0 5 1 26 (fun _ => [.int .i64 a0.fKind, .int .i64 a0.fNum, .str a0.fStr, .int .i64 a0.fNext, .own 3 0 0 l5.length]), .row 0 8 l5.length 34 (row TEntry.cells l5)]) ?_ a0 ([] : List TEntry) 0 o2 hL22 rfl rfl
      intro _ hG9 _ _ p21 l5 y6 o19 h ih7  hp_p21 hr20
      subst hp_p21
      subst hr20
      refine LoopAt.round ?_
      refine .direct ?_
      refine .direct ?_
      refine ⟨rfl, ?_⟩
      refine ⟨rfl, _, rfl, ?_⟩
      refine splitB.mk (fun hb10 => ?_) (fun hb10 => ?_)
      · replace h := T_dec hb10 h
        refine .direct ?_
        refine .float [(0, true), (1, true), (2, true), (3, true), (4, true), (5, true), (6, true), (7, true), (8, true), (9, true), (10, true), (11, true), (12, true), (13, true), (14, false), (15, true), (16, false), (17, false), (18, true), (19, false)] (by kernel_rfl) ?_
        refine ⟨rfl, ?_⟩
        refine ⟨rfl, _, rfl, ?_⟩
        refine ⟨rfl, ?_⟩
        refine ⟨rfl, _, rfl, ?_⟩
        obtain ⟨x11, hx12, h⟩ := bind_some h
        refine ⟨idx_bd hx12, _, (idx_row hx12).trans (TEntry.cells_eq x11), ?_⟩
        refine ⟨rfl, ?_⟩
        refine ⟨rfl, _, rfl, ?_⟩
        obtain ⟨x13, hx14, h⟩ := bind_some h
        refine ⟨idx_bd hx14, _, (idx_row hx14).trans (TEntry.cells_eq x13), ?_⟩
        obtain ⟨v15, hv16, h⟩ := bind_some h
        refine ⟨_, ACall.pure0 (hG9 _ _ hv16) _ rfl (fun _ => rfl), ?_⟩
        rintro _ _ ⟨rfl, rfl⟩
        refine ⟨rfl, ?_⟩
        refine ⟨rfl, ?_⟩
        refine ⟨rfl, ?_⟩
        refine ⟨rfl, ?_⟩
        refine ⟨row TEntry.cells ([(TEntry.mk x11.fKey v15)] : List TEntry), row_lit TEntry.cells ([(TEntry.mk x11.fKey v15)] : List TEntry) rfl (cll_cons (TEntry.cells_eq _) ⟨.same _, .same _, .same _, .same _, .same _, .same _, .same _, .same _, trivial⟩ trivial), ?_⟩
        refine ⟨rfl, ?_⟩
        refine ⟨rfl, ?_⟩
        obtain ⟨l17, hx18, h⟩ := bind_some h
        refine ⟨rfl, rfl, lapp_bd hx18, l17.length, row TEntry.cells l17, lapp_len hx18, lapp_row hx18 shows_all (src_own shows_all), ?_⟩
        refine ⟨rfl, ?_⟩
        refine ⟨rfl, _, fun _ => [.int .i64 a0.fKind, .int .i64 a0.fNum, .str a0.fStr, .int .i64 a0.fNext, .own 3 (0 + 1) 0 l17.length], rfl, one_set rfl, ?_⟩
        exact ⟨[(1, .optr 0 0 0 0), (2, .optr 1 0 0 0), (3, .optr 2 0 0 0), (4, .int .i64 (W64 (y6 + 1)))], [.row 0 5 1 26 (fun _ => [.int .i64 a0.fKind, .int .i64 a0.fNum, .str a0.fStr, .int .i64 a0.fNext, sl 8 TEntry.cells a0.fItems]), .row 0 5 1 26 (fun _ => [.int .i64 0, .int .i64 0, .str [], .int .i64 0, .nils]), .row 0 5 1 26 (fun _ => [.int .i64 a0.fKind, .int .i64 a0.fNum, .str a0.fStr, .int .i64 a0.fNext, .own 3 0 0 l17.length]), .row 0 8 l17.length 34 (row TEntry.cells l17)], ⟨[0, 1, 2, 3], by decide, (show 0 ≤ 4 by decide), ⟨.optr_eq rfl ⟨_, _, _, _, rfl⟩ ⟨_, _, _, _, rfl⟩ rfl rfl, .optr_eq rfl ⟨_, _, _, _, rfl⟩ ⟨_, _, _, _, rfl⟩ rfl rfl, .optr_eq rfl ⟨_, _, _, _, rfl⟩ ⟨_, _, _, _, rfl⟩ rfl rfl, .int_eq rfl, trivial⟩, ⟨⟨fun h0 => absurd (show 0 < 0 from h0) (by decide), rfl, rfl, rfl, fun _ _ => ⟨.int_eq rfl, .int_eq rfl, .str_eq rfl, .int_eq rfl, .slc_eq rfl (fun _ _ => rfl), trivial⟩⟩, ⟨fun h0 => absurd (show 1 < 0 from h0) (by decide), rfl, rfl, rfl, fun _ _ => ⟨.int_eq rfl, .int_eq rfl, .str_eq rfl, .int_eq rfl, .nils, trivial⟩⟩, ⟨fun h0 => absurd (show 2 < 0 from h0) (by decide), rfl, rfl, rfl, fun _ _ => ⟨.int_eq rfl, .int_eq rfl, .str_eq rfl, .int_eq rfl, .own_eq rfl ⟨_, _, _, _, rfl⟩ ⟨_, _, _, _, rfl⟩ rfl rfl, trivial⟩⟩, ⟨fun h0 => absurd (show 3 < 0 from h0) (by decide), rfl, rfl, rfl, fz_row TEntry.cells_pure⟩, trivial⟩⟩, ih7 _ _ _ _ h rfl rfl⟩
      · replace h := F_dec hb10 h
        exact ⟨[(2, .optr 0 0 0 0), (3, .optr 1 0 0 0)], [.row 0 5 1 26 (fun _ => [.int .i64 0, .int .i64 0, .str [], .int .i64 0, .nils]), .row 0 5 1 26 (fun _ => [.int .i64 a0.fKind, .int .i64 a0.fNum, .str a0.fStr, .int .i64 a0.fNext, .own 2 0 0 l5.length]), .row 0 8 l5.length 34 (row TEntry.cells l5)], ⟨[1, 2, 3], by decide, (show 0 ≤ 3 by decide), ⟨.optr_eq rfl ⟨_, _, _, _, rfl⟩ ⟨_, _, _, _, rfl⟩ rfl rfl, .optr_eq rfl ⟨_, _, _, _, rfl⟩ ⟨_, _, _, _, rfl⟩ rfl rfl, trivial⟩, ⟨⟨fun h0 => absurd (show 0 < 0 from h0) (by decide), rfl, rfl, rfl, fun _ _ => ⟨.int_eq rfl, .int_eq rfl, .str_eq rfl, .int_eq rfl, .nils, trivial⟩⟩, ⟨fun h0 => absurd (show 1 < 0 from h0) (by decide), rfl, rfl, rfl, fun _ _ => ⟨.int_eq rfl, .int_eq rfl, .str_eq rfl, .int_eq rfl, .own_eq rfl ⟨_, _, _, _, rfl⟩ ⟨_, _, _, _, rfl⟩ rfl rfl, trivial⟩⟩, ⟨fun h0 => absurd (show 2 < 0 from h0) (by decide), rfl, rfl, rfl, fz_row TEntry.cells_pure⟩, trivial⟩⟩, l5, Option.some.inj h, rfl, rfl⟩
    · rintro _ _ ⟨l1, rfl, rfl, rfl⟩
      replace h := hk4
      refine .direct ?_
      refine ⟨rfl, _, rfl, ?_⟩
      refine ⟨rfl, _, fun _ => [.int .i64 a0.fKind, .int .i64 a0.fNum, .str a0.fStr, .int .i64 a0.fNext, .own 2 0 0 l1.length], rfl, one_set rfl, ?_⟩
      obtain rfl := Option.some.inj h
      refine ⟨rfl, _, rfl, ?_⟩
      exact ⟨[], .agg [.int .i64 ((TValue.mk a0.fKind a0.fNum a0.fStr a0.fNext l1).fKind), .int .i64 ((TValue.mk a0.fKind a0.fNum a0.fStr a0.fNext l1).fNum), .str ((TValue.mk a0.fKind a0.fNum a0.fStr a0.fNext l1).fStr), .int .i64 ((TValue.mk a0.fKind a0.fNum a0.fStr a0.fNext l1).fNext), sl 8 TEntry.cells ((TValue.mk a0.fKind a0.fNum a0.fStr a0.fNext l1).fItems)], [], by decide, (show 0 ≤ 0 by decide), .agg_l ⟨.int_eq rfl, .int_eq rfl, .str_eq rfl, .int_eq rfl, (fz_frz TEntry.cells_pure (by first | decide | simp) rfl shows_all), trivial⟩, trivial, rfl, rfl⟩
  · intro F0 F1 hF0 hF1 a0 l5 y6 o h
    exact .mk F0 hF0 F1 hF1 a0 l5 y6 o h
theorem ok_s_l5Copy {a0 : TValue} {r : TValue} (h : m_s_l5Copy a0 = some r) : ACall Tryd.prog 43 [.agg [.int .i64 a0.fKind, .int .i64 a0.fNum, .str a0.fStr, .int .i64 a0.fNext, sl 8 TEntry.cells a0.fItems]] [] (fun res h => res = .agg [.int .i64 r.fKind, .int .i64 r.fNum, .str r.fStr, .int .i64 r.fNext, sl 8 TEntry.cells r.fItems] ∧ h = []) := grp__s_l5Copy.1 a0 r h
mutual
def m_i_Weight (a0 : TValue) : Option (Int) :=
  (
    (if a0.fKind = 4 then
      m_i_Weight_L2 a0 1 0
    else
      some 1)
   : Option (Int)) >>= fun y1 =>
  some y1
partial_fixpoint
def m_i_Weight_L2 (a0 : TValue) (y6 : Int) (y7 : Int) : Option (Int) :=
  (if y7 < (a0.fItems.length : Int) then
    idx a0.fItems y7 >>= fun x12 =>
    m_i_Weight x12.fVal >>= fun v14 =>
    m_i_Weight_L2 a0 (W64 (y6 + v14)) (W64 (y7 + 1))
  else
    some y6)
partial_fixpoint
end
def okS41 (a0 : TValue) (r : Int) : Prop := ACall Tryd.prog 41 [.agg [.int .i64 a0.fKind, .int .i64 a0.fNum, .str a0.fStr, .int .i64 a0.fNext, sl 8 TEntry.cells a0.fItems]] [] (fun res h => res = .int .i64 r ∧ h = [])
inductive m_i_Weight_L2_I : TValue → Int → Int → (Int) → Prop
  | mk (G41 : TValue → Option (Int)) (hG41 : ∀ a0 r, G41 a0 = some r → okS41 a0 r) (F_m_i_Weight_L2 : TValue → Int → Int → Option (Int)) (hF_m_i_Weight_L2 : ∀ a0 y6 y7 o, F_m_i_Weight_L2 a0 y6 y7 = some o → m_i_Weight_L2_I a0 y6 y7 o) (a0 : TValue) (y6 : Int) (y7 : Int) (o : Int) (h : (
      (if y7 < (a0.fItems.length : Int) then
        idx a0.fItems y7 >>= fun x12 =>
        G41 x12.fVal >>= fun v14 =>
        F_m_i_Weight_L2 a0 (W64 (y6 + v14)) (W64 (y7 + 1))
      else
        some y6)
    ) = some o) : m_i_Weight_L2_I a0 y6 y7 o
theorem m_i_Weight_L2_ind {motive : TValue → Int → Int → (Int) → Prop} (step : ∀ (G41 : TValue → Option (Int)) (hG41 : ∀ a0 r, G41 a0 = some r → okS41 a0 r) (F_m_i_Weight_L2 : TValue → Int → Int → Option (Int)) (hF_m_i_Weight_L2 : ∀ a0 y6 y7 o, F_m_i_Weight_L2 a0 y6 y7 = some o → m_i_Weight_L2_I a0 y6 y7 o) (a0 : TValue) (y6 : Int) (y7 : Int) (o : Int) (h : (
      (if y7 < (a0.fItems.length : Int) then
        idx a0.fItems y7 >>= fun x12 =>
        G41 x12.fVal >>= fun v14 =>
        F_m_i_Weight_L2 a0 (W64 (y6 + v14)) (W64 (y7 + 1))
      else
        some y6)
    ) = some o) (ih : ∀ a0 y6 y7 o, F_m_i_Weight_L2 a0 y6 y7 = some o → motive a0 y6 y7 o), motive a0 y6 y7 o) : ∀ a0 y6 y7 o, m_i_Weight_L2_I a0 y6 y7 o → motive a0 y6 y7 o :=
  fun a0 y6 y7 o h => m_i_Weight_L2_I.rec (motive := fun a0 y6 y7 o _ => motive a0 y6 y7 o) step h
theorem grp__i_Weight : (∀ a0 r, m_i_Weight a0 = some r → okS41 a0 r) ∧ (∀ a0 y6 y7 o, m_i_Weight_L2 a0 y6 y7 = some o → m_i_Weight_L2_I a0 y6 y7 o) := by
  refine m_i_Weight.mutual_partial_correctness okS41 m_i_Weight_L2_I ?_ ?_
  · intro _ hI20 a0 r h
    refine ACall.of_vc tabT_ok mixed Tryd.func41 rfl (by kernel_rfl) _ _ _ rfl (by kernel_rfl) ?_
    refine .direct ?_
    refine .direct ?_
    obtain ⟨o2, ho3, hk4⟩ := bind_some h
    replace h := ho3
    refine .cut (fun σ η => ∃ y1, y1 = o2 ∧ σ = [(3, .int .i64 y1)] ∧ η = []) ?_ ?_
    · refine .direct ?_
      refine ⟨rfl, ?_⟩
      refine ⟨rfl, _, rfl, ?_⟩
      refine splitB.mk (fun hb5 => ?_) (fun hb5 => ?_)
      · replace h := T_beq hb5 h
        refine .direct ?_
        refine ⟨rfl, ?_⟩
        refine ⟨rfl, _, rfl, ?_⟩
        have hL19 := hI20 _ _ _ _ h
        refine LoopAt.enter [(3, .int .i64 1), (10, sl 8 TEntry.cells a0.fItems), (11, .int .i64 (a0.fItems.length : Int)), (12, .int .i64 0)] [] ⟨[], by decide, (show 0 ≤ 0 by decide), ⟨.int_eq rfl, .slc_eq rfl (fun _ _ => rfl), .int_eq rfl, .int_eq rfl, trivial⟩, trivial⟩ ?_
        refine m_i_Weight_L2_ind (motive := fun p18 y6 y7 o16 => a0 = p18 → o2 = o16 → LoopAt _ _ [(3, .int .i64 y6), (10, sl 8 TEntry.cells a0.fItems), (11, .int .i64 (a0.fItems.length : Int)), (12, .int .i64 y7)] []) ?_ a0 1 0 o2 hL19 rfl rfl
        intro _ hG10 _ _ p18 y6 y7 o16 h ih8  hp_p18 hr17
        subst hp_p18
        subst hr17
        refine LoopAt.round ?_
        refine .direct ?_
        refine .direct ?_
        refine splitB.mk (fun hb11 => ?_) (fun hb11 => ?_)
        · replace h := T_dec hb11 h
          refine .direct ?_
          refine .direct ?_
          obtain ⟨x12, hx13, h⟩ := bind_some h
          refine ⟨idx_bd hx13, _, (idx_row hx13).trans (TEntry.cells_eq x12), ?_⟩
          refine ⟨rfl, _, fun _ => [.bool x12.fKey.fText, .int .i64 x12.fKey.fNum, .str x12.fKey.fStr, .int .i64 x12.fVal.fKind, .int .i64 x12.fVal.fNum, .str x12.fVal.fStr, .int .i64 x12.fVal.fNext, sl 8 TEntry.cells x12.fVal.fItems], rfl, one_set rfl, ?_⟩
          refine ⟨rfl, ?_⟩
          refine ⟨rfl, _, rfl, ?_⟩
          obtain ⟨v14, hv15, h⟩ := bind_some h
          refine ⟨_, ACall.pure0 (hG10 _ _ hv15) _ rfl (fun _ => rfl), ?_⟩
          rintro _ _ ⟨rfl, rfl⟩
          exact ⟨[(3, .int .i64 (W64 (y6 + v14))), (10, sl 8 TEntry.cells a0.fItems), (11, .int .i64 (a0.fItems.length : Int)), (12, .int .i64 (W64 (y7 + 1)))], [], ⟨[], by decide, (show 0 ≤ 0 by decide), ⟨.int_eq rfl, .slc_eq rfl (fun _ _ => rfl), .int_eq rfl, .int_eq rfl, trivial⟩, trivial⟩, ih8 _ _ _ _ h rfl rfl⟩
        · replace h := F_dec hb11 h
          exact ⟨[(3, .int .i64 y6)], [], ⟨[], by decide, (show 0 ≤ 0 by decide), ⟨.int_eq rfl, trivial⟩, trivial⟩, y6, Option.some.inj h, rfl, rfl⟩
      · replace h := F_beq hb5 h
        exact ⟨[(3, .int .i64 1)], [], ⟨[], by decide, (show 0 ≤ 0 by decide), ⟨.int_eq rfl, trivial⟩, trivial⟩, 1, Option.some.inj h, rfl, rfl⟩
    · rintro _ _ ⟨y1, rfl, rfl, rfl⟩
      replace h := hk4
      refine .direct ?_
      obtain rfl := Option.some.inj h
      exact ⟨[], .int .i64 y1, [], by decide, (show 0 ≤ 0 by decide), .int_eq rfl, trivial, rfl, rfl⟩
  · intro F0 F1 hF0 hF1 a0 y6 y7 o h
    exact .mk F0 hF0 F1 hF1 a0 y6 y7 o h
theorem ok_i_Weight {a0 : TValue} {r : Int} (h : m_i_Weight a0 = some r) : ACall Tryd.prog 41 [.agg [.int .i64 a0.fKind, .int .i64 a0.fNum, .str a0.fStr, .int .i64 a0.fNext, sl 8 TEntry.cells a0.fItems]] [] (fun res h => res = .int .i64 r ∧ h = []) := grp__i_Weight.1 a0 r h
def m94_L2 (s6 : Str) (y7 : Int) : Option (Str) :=
  (if y7 = 0 then
    some s6
  else
    (if (y7.tmod 10) < 0 then
      scat ([UInt8.ofNat (IntKind.u8.wrap (W64 (48 + (W64 (0 - (y7.tmod 10)))))).toNat] : List UInt8) s6 >>= fun s12 =>
      m94_L2 s12 (W64 (y7.tdiv 10))
    else
      scat ([UInt8.ofNat (IntKind.u8.wrap (W64 (48 + (y7.tmod 10)))).toNat] : List UInt8) s6 >>= fun s14 =>
      m94_L2 s14 (W64 (y7.tdiv 10))))
partial_fixpoint
def m94 (a0 : Int) : Option (Str) :=
  (if a0 = 0 then
    some [48]
  else
    (
      m94_L2 [] a0
     : Option (Str)) >>= fun s2 =>
    (if a0 < 0 then
      scat [45] s2 >>= fun s19 =>
      some s19
    else
      some s2))
theorem ok94 {a0 : Int} {r : Str} (h : m94 a0 = some r) : ACall Tryd.prog 97 [.int .i64 a0] [] (fun res h => res = .str r ∧ h = []) := by
  refine ACall.of_vc tabT_ok mixed Tryd.func97 rfl (by kernel_rfl) _ _ _ rfl (by kernel_rfl) ?_
  unfold m94 at h
  refine .direct ?_
  refine .direct ?_
  refine .direct ?_
  refine splitB.mk (fun hb1 => ?_) (fun hb1 => ?_)
  · replace h := T_beq hb1 h
    refine .direct ?_
    obtain rfl := Option.some.inj h
    exact ⟨[], .str [48], [], by decide, (show 0 ≤ 0 by decide), .str_eq rfl, trivial, rfl, rfl⟩
  · replace h := F_beq hb1 h
    refine .direct ?_
    obtain ⟨o3, ho4, hk5⟩ := bind_some h
    replace h := ho4
    refine .cut (fun σ η => ∃ s2, s2 = o3 ∧ σ = [(0, .int .i64 a0), (3, .str s2)] ∧ η = []) ?_ ?_
    · refine .direct ?_
      refine LoopAt.enter [(0, .int .i64 a0), (3, .str []), (4, .int .i64 a0)] [] ⟨[], by decide, (show 0 ≤ 0 by decide), ⟨.int_eq rfl, .str_eq rfl, .int_eq rfl, trivial⟩, trivial⟩ ?_
      refine m94_L2.partial_correctness  (motive := fun s6 y7 o16 => o3 = o16 → LoopAt _ _ [(0, .int .i64 a0), (3, .str s6), (4, .int .i64 y7)] []) ?_ [] a0 o3 h rfl
      intro F9 ih8 s6 y7 o16 h hr17
      subst hr17
      refine LoopAt.round ?_
      refine .direct ?_
      refine .direct ?_
      refine splitB.mk (fun hb10 => ?_) (fun hb10 => ?_)
      · replace h := T_bne hb10 h
        refine .direct ?_
        refine .direct ?_
        refine ⟨by decide, ?_⟩
        refine .direct ?_
        refine .direct ?_
        refine splitB.mk (fun hb11 => ?_) (fun hb11 => ?_)
        · replace h := T_dec hb11 h
          refine ⟨row cB ([UInt8.ofNat (IntKind.u8.wrap (W64 (48 + (W64 (0 - (y7.tmod 10)))))).toNat] : List UInt8), row_lit cB ([UInt8.ofNat (IntKind.u8.wrap (W64 (48 + (W64 (0 - (y7.tmod 10)))))).toNat] : List UInt8) rfl (cll_cons (cB_wrap _) ⟨.same _, trivial⟩ trivial), ?_⟩
          refine ⟨rfl, ([UInt8.ofNat (IntKind.u8.wrap (W64 (48 + (W64 (0 - (y7.tmod 10)))))).toNat] : List UInt8), rfl, bytes_shows shows_all rfl, ?_⟩
          obtain ⟨s12, hx13, h⟩ := bind_some h
          refine ⟨scat_bd hx13, s12, scat_at hx13, ?_⟩
          refine ⟨by decide, ?_⟩
          exact ⟨[(0, .int .i64 a0), (3, .str s12), (4, .int .i64 (W64 (y7.tdiv 10)))], [], ⟨[], by decide, (show 0 ≤ 0 by decide), ⟨.int_eq rfl, .str_eq rfl, .int_eq rfl, trivial⟩, trivial⟩, ih8 _ _ _ h rfl⟩
        · replace h := F_dec hb11 h
          refine ⟨row cB ([UInt8.ofNat (IntKind.u8.wrap (W64 (48 + (y7.tmod 10)))).toNat] : List UInt8), row_lit cB ([UInt8.ofNat (IntKind.u8.wrap (W64 (48 + (y7.tmod 10)))).toNat] : List UInt8) rfl (cll_cons (cB_wrap _) ⟨.same _, trivial⟩ trivial), ?_⟩
          refine ⟨rfl, ([UInt8.ofNat (IntKind.u8.wrap (W64 (48 + (y7.tmod 10)))).toNat] : List UInt8), rfl, bytes_shows shows_all rfl, ?_⟩
          obtain ⟨s14, hx15, h⟩ := bind_some h
          refine ⟨scat_bd hx15, s14, scat_at hx15, ?_⟩
          refine ⟨by decide, ?_⟩
          exact ⟨[(0, .int .i64 a0), (3, .str s14), (4, .int .i64 (W64 (y7.tdiv 10)))], [], ⟨[], by decide, (show 0 ≤ 0 by decide), ⟨.int_eq rfl, .str_eq rfl, .int_eq rfl, trivial⟩, trivial⟩, ih8 _ _ _ h rfl⟩
      · replace h := F_bne hb10 h
        exact ⟨[(0, .int .i64 a0), (3, .str s6)], [], ⟨[], by decide, (show 0 ≤ 0 by decide), ⟨.int_eq rfl, .str_eq rfl, trivial⟩, trivial⟩, s6, Option.some.inj h, rfl, rfl⟩
    · rintro _ _ ⟨s2, rfl, rfl, rfl⟩
      replace h := hk5
      refine .direct ?_
      refine .direct ?_
      refine splitB.mk (fun hb18 => ?_) (fun hb18 => ?_)
      · replace h := T_dec hb18 h
        refine .direct ?_
        obtain ⟨s19, hx20, h⟩ := bind_some h
        refine ⟨scat_bd hx20, s19, scat_at hx20, ?_⟩
        obtain rfl := Option.some.inj h
        exact ⟨[], .str s19, [], by decide, (show 0 ≤ 0 by decide), .str_eq rfl, trivial, rfl, rfl⟩
      · replace h := F_dec hb18 h
        refine .direct ?_
        obtain rfl := Option.some.inj h
        exact ⟨[], .str s2, [], by decide, (show 0 ≤ 0 by decide), .str_eq rfl, trivial, rfl, rfl⟩
def m61_L2 (a0 : Str) (y8 : Int) (y9 : Int) : Option ((Int) ⊕ (Int × Bool)) :=
  (if y9 < (a0.length : Int) then
    sidx a0 y9 >>= fun c13 =>
    m53 (W64 ((c13.toNat : Int))) 48 57 >>= fun v15 =>
    (if v15 = true then
      sidx a0 y9 >>= fun c18 =>
      m61_L2 a0 (W64 ((W64 (10 * y8)) + (W64 (IntKind.u8.wrap ((c18.toNat : Int) - 48))))) (W64 (y9 + 1))
    else
      some (.inr (0, false)))
  else
    some (.inl y8))
partial_fixpoint
def m61 (a0 : Str) : Option (Int × Bool) :=
  m53 (a0.length : Int) 1 13 >>= fun v1 =>
  (if v1 = true then
    ((
      m61_L2 a0 0 0
     : Option ((Int) ⊕ (Int × Bool))) >>= fun o5 => match o5 with
      | .inr r => some r
      | .inl y4 =>
        (if y4 > 1000000000000 then
          some (0, false)
        else
          m94 y4 >>= fun v24 =>
          (if v24 = a0 then
            some (y4, true)
          else
            some (0, false)))
    )
  else
    some (0, false))
theorem ok61 {a0 : Str} {r : Int × Bool} (h : m61 a0 = some r) : ACall Tryd.prog 108 [.str a0] [] (fun res h => res = .tup [.int .i64 r.1, .bool r.2] ∧ h = []) := by
  refine ACall.of_vc tabT_ok mixed Tryd.func108 rfl (by kernel_rfl) _ _ _ rfl (by kernel_rfl) ?_
  unfold m61 at h
  refine .direct ?_
  refine .direct ?_
  refine .direct ?_
  obtain ⟨v1, hv2, h⟩ := bind_some h
  refine ⟨_, ACall.pure0 (ok53 hv2) _ rfl (fun _ => rfl), ?_⟩
  rintro _ _ ⟨rfl, rfl⟩
  refine splitB.mk (fun hb3 => ?_) (fun hb3 => ?_)
  · have hb28 := not_F hb3
    replace h := F_var hb28 h
    refine .direct ?_
    obtain rfl := Option.some.inj h
    exact ⟨[], .tup [.int .i64 0, .bool false], [], by decide, (show 0 ≤ 0 by decide), .tup_l ⟨.int_eq rfl, .bool_eq rfl, trivial⟩, trivial, rfl, rfl⟩
  · have hb28 := not_T hb3
    replace h := T_var hb28 h
    refine .direct ?_
    obtain ⟨o5, ho6, hk7⟩ := bind_some h
    replace h := ho6
    refine .cut (fun σ η => ∃ y4, .inl y4 = o5 ∧ σ = [(0, .str a0), (4, .int .i64 y4)] ∧ η = []) ?_ ?_
    · refine .direct ?_
      refine LoopAt.enter [(0, .str a0), (4, .int .i64 0), (5, .int .i64 0)] [] ⟨[], by decide, (show 0 ≤ 0 by decide), ⟨.str_eq rfl, .int_eq rfl, .int_eq rfl, trivial⟩, trivial⟩ ?_
      refine m61_L2.partial_correctness a0 (motive := fun y8 y9 o21 => o5 = o21 → LoopAt _ _ [(0, .str a0), (4, .int .i64 y8), (5, .int .i64 y9)] []) ?_ 0 0 o5 h rfl
      intro F11 ih10 y8 y9 o21 h hr22
      subst hr22
      refine LoopAt.round ?_
      refine .direct ?_
      refine .direct ?_
      refine splitB.mk (fun hb12 => ?_) (fun hb12 => ?_)
      · replace h := T_dec hb12 h
        refine .direct ?_
        refine .direct ?_
        refine .direct ?_
        obtain ⟨c13, hx14, h⟩ := bind_some h
        refine ⟨sidx_bd hx14, c13, sidx_at hx14, ?_⟩
        obtain ⟨v15, hv16, h⟩ := bind_some h
        refine ⟨_, ACall.pure0 (ok53 hv16) _ rfl (fun _ => rfl), ?_⟩
        rintro _ _ ⟨rfl, rfl⟩
        refine splitB.mk (fun hb17 => ?_) (fun hb17 => ?_)
        · have hb20 := not_F hb17
          replace h := F_var hb20 h
          refine .direct ?_
          obtain rfl := Option.some.inj h
          replace h := hk7
          obtain rfl := Option.some.inj h
          exact ⟨[], .tup [.int .i64 0, .bool false], [], by decide, (show 0 ≤ 0 by decide), .tup_l ⟨.int_eq rfl, .bool_eq rfl, trivial⟩, trivial, rfl, rfl⟩
        · have hb20 := not_T hb17
          replace h := T_var hb20 h
          obtain ⟨c18, hx19, h⟩ := bind_some h
          refine ⟨sidx_bd hx19, c18, sidx_at hx19, ?_⟩
          exact ⟨[(0, .str a0), (4, .int .i64 (W64 ((W64 (10 * y8)) + (W64 (IntKind.u8.wrap ((c18.toNat : Int) - 48)))))), (5, .int .i64 (W64 (y9 + 1)))], [], ⟨[], by decide, (show 0 ≤ 0 by decide), ⟨.str_eq rfl, .int_eq rfl, .int_eq rfl, trivial⟩, trivial⟩, ih10 _ _ _ h rfl⟩
      · replace h := F_dec hb12 h
        exact ⟨[(0, .str a0), (4, .int .i64 y8)], [], ⟨[], by decide, (show 0 ≤ 0 by decide), ⟨.str_eq rfl, .int_eq rfl, trivial⟩, trivial⟩, y8, Option.some.inj h, rfl, rfl⟩
    · rintro _ _ ⟨y4, rfl, rfl, rfl⟩
      replace h := hk7
      refine .direct ?_
      refine .direct ?_
      refine splitB.mk (fun hb23 => ?_) (fun hb23 => ?_)
      · replace h := T_dec hb23 h
        refine splitB_t ?_
        refine splitB_t ?_
        refine splitB_t ?_
        refine splitB_t ?_
        refine splitB_t ?_
        refine .direct ?_
        obtain rfl := Option.some.inj h
        exact ⟨[], .tup [.int .i64 0, .bool false], [], by decide, (show 0 ≤ 0 by decide), .tup_l ⟨.int_eq rfl, .bool_eq rfl, trivial⟩, trivial, rfl, rfl⟩
      · replace h := F_dec hb23 h
        refine splitB_f ?_
        obtain ⟨v24, hv25, h⟩ := bind_some h
        refine ⟨_, ACall.pure0 (ok94 hv25) _ rfl (fun _ => rfl), ?_⟩
        rintro _ _ ⟨rfl, rfl⟩
        refine splitB_f ?_
        refine splitB_f ?_
        refine splitB_f ?_
        refine splitB.mk (fun hb26 => ?_) (fun hb26 => ?_)
        · have hb27 := not_F hb26
          replace h := F_beq hb27 h
          refine .direct ?_
          obtain rfl := Option.some.inj h
          exact ⟨[], .tup [.int .i64 0, .bool false], [], by decide, (show 0 ≤ 0 by decide), .tup_l ⟨.int_eq rfl, .bool_eq rfl, trivial⟩, trivial, rfl, rfl⟩
        · have hb27 := not_T hb26
          replace h := T_beq hb27 h
          refine .direct ?_
          obtain rfl := Option.some.inj h
          exact ⟨[], .tup [.int .i64 y4, .bool true], [], by decide, (show 0 ≤ 0 by decide), .tup_l ⟨.int_eq rfl, .bool_eq rfl, trivial⟩, trivial, rfl, rfl⟩
def m54 (a0 : Str) : Option (Int × Bool) :=
  (
    (if (a0.length : Int) > 0 then
      sidx a0 0 >>= fun c6 =>
      some ((c6.toNat : Int) == 45)
    else
      some false)
   : Option (Bool)) >>= fun b1 =>
  (
    (if b1 = true then
      sfrom a0 1 >>= fun s13 =>
      some s13
    else
      some a0)
   : Option (Str)) >>= fun s8 =>
  m61 s8 >>= fun (v15, v16) =>
  (if v16 = true then
    (if v15 > 1000000000 then
      some (0, false)
    else
      (if b1 = true then
        (if v15 = 0 then
          some (0, false)
        else
          some (W64 (0 - v15), true))
      else
        some (v15, true)))
  else
    some (0, false))
theorem ok54 {a0 : Str} {r : Int × Bool} (h : m54 a0 = some r) : ACall Tryd.prog 84 [.str a0] [] (fun res h => res = .tup [.int .i64 r.1, .bool r.2] ∧ h = []) := by
  refine ACall.of_vc tabT_ok mixed Tryd.func84 rfl (by kernel_rfl) _ _ _ rfl (by kernel_rfl) ?_
  unfold m54 at h
  refine .direct ?_
  obtain ⟨o2, ho3, hk4⟩ := bind_some h
  replace h := ho3
  refine .cut (fun σ η => ∃ b1, b1 = o2 ∧ σ = [(0, .str a0), (4, .bool b1)] ∧ η = []) ?_ ?_
  · refine splitB.mk (fun hb5 => ?_) (fun hb5 => ?_)
    · replace h := T_dec hb5 h
      refine splitB_t ?_
      obtain ⟨c6, hx7, h⟩ := bind_some h
      refine ⟨sidx_bd hx7, c6, sidx_at hx7, ?_⟩
      refine splitB_t ?_
      refine splitB_t ?_
      exact ⟨[(0, .str a0), (4, .bool ((c6.toNat : Int) == 45))], [], ⟨[], by decide, (show 0 ≤ 0 by decide), ⟨.str_eq rfl, .bool_eq rfl, trivial⟩, trivial⟩, ((c6.toNat : Int) == 45), Option.some.inj h, rfl, rfl⟩
    · replace h := F_dec hb5 h
      refine splitB_f ?_
      refine splitB_f ?_
      refine splitB_f ?_
      exact ⟨[(0, .str a0), (4, .bool false)], [], ⟨[], by decide, (show 0 ≤ 0 by decide), ⟨.str_eq rfl, .bool_eq rfl, trivial⟩, trivial⟩, false, Option.some.inj h, rfl, rfl⟩
  · rintro _ _ ⟨b1, rfl, rfl, rfl⟩
    replace h := hk4
    obtain ⟨o9, ho10, hk11⟩ := bind_some h
    replace h := ho10
    refine .cut (fun σ η => ∃ s8, s8 = o9 ∧ σ = [(0, .str s8), (4, .bool b1)] ∧ η = []) ?_ ?_
    · refine .direct ?_
      refine splitB.mk (fun hb12 => ?_) (fun hb12 => ?_)
      · replace h := T_var hb12 h
        obtain ⟨s13, hx14, h⟩ := bind_some h
        refine ⟨sfrom_bd hx14, s13, sfrom_at hx14, ?_⟩
        exact ⟨[(0, .str s13), (4, .bool b1)], [], ⟨[], by decide, (show 0 ≤ 0 by decide), ⟨.str_eq rfl, .bool_eq rfl, trivial⟩, trivial⟩, s13, Option.some.inj h, rfl, rfl⟩
      · replace h := F_var hb12 h
        exact ⟨[(0, .str a0), (4, .bool b1)], [], ⟨[], by decide, (show 0 ≤ 0 by decide), ⟨.str_eq rfl, .bool_eq rfl, trivial⟩, trivial⟩, a0, Option.some.inj h, rfl, rfl⟩
    · rintro _ _ ⟨s8, rfl, rfl, rfl⟩
      replace h := hk11
      refine .direct ?_
      obtain ⟨⟨v15, v16⟩, hv17, h⟩ := bind_some h
      refine ⟨_, ACall.pure0 (ok61 hv17) _ rfl (fun _ => rfl), ?_⟩
      rintro _ _ ⟨rfl, rfl⟩
      refine .direct ?_
      refine .direct ?_
      refine splitB.mk (fun hb18 => ?_) (fun hb18 => ?_)
      · have hb22 := not_F hb18
        replace h := F_var hb22 h
        refine splitB_t ?_
        refine splitB_t ?_
        refine splitB_t ?_
        refine splitB_t ?_
        refine splitB_t ?_
        refine splitB_t ?_
        refine splitB_t ?_
        refine .direct ?_
        obtain rfl := Option.some.inj h
        exact ⟨[], .tup [.int .i64 0, .bool false], [], by decide, (show 0 ≤ 0 by decide), .tup_l ⟨.int_eq rfl, .bool_eq rfl, trivial⟩, trivial, rfl, rfl⟩
      · have hb22 := not_T hb18
        replace h := T_var hb22 h
        refine splitB_f ?_
        refine splitB_f ?_
        refine splitB.mk (fun hb19 => ?_) (fun hb19 => ?_)
        · replace h := T_dec hb19 h
          refine splitB_t ?_
          refine splitB_t ?_
          refine splitB_t ?_
          refine splitB_t ?_
          refine .direct ?_
          obtain rfl := Option.some.inj h
          exact ⟨[], .tup [.int .i64 0, .bool false], [], by decide, (show 0 ≤ 0 by decide), .tup_l ⟨.int_eq rfl, .bool_eq rfl, trivial⟩, trivial, rfl, rfl⟩
        · replace h := F_dec hb19 h
          refine splitB_f ?_
          refine splitB.mk (fun hb20 => ?_) (fun hb20 => ?_)
          · replace h := T_var hb20 h
            refine splitB_t ?_
            refine splitB_f ?_
            refine splitB_t ?_
            refine splitB_f ?_
            refine splitB.mk (fun hb21 => ?_) (fun hb21 => ?_)
            · replace h := T_beq hb21 h
              refine .direct ?_
              obtain rfl := Option.some.inj h
              exact ⟨[], .tup [.int .i64 0, .bool false], [], by decide, (show 0 ≤ 0 by decide), .tup_l ⟨.int_eq rfl, .bool_eq rfl, trivial⟩, trivial, rfl, rfl⟩
            · replace h := F_beq hb21 h
              refine .direct ?_
              refine .direct ?_
              refine splitB_kt hb20 ?_
              refine .direct ?_
              obtain rfl := Option.some.inj h
              exact ⟨[], .tup [.int .i64 (W64 (0 - v15)), .bool true], [], by decide, (show 0 ≤ 0 by decide), .tup_l ⟨.int_eq rfl, .bool_eq rfl, trivial⟩, trivial, rfl, rfl⟩
          · replace h := F_var hb20 h
            refine splitB_f ?_
            refine splitB_f ?_
            refine splitB_f ?_
            refine splitB_f ?_
            refine splitB_f ?_
            refine .direct ?_
            refine .direct ?_
            refine splitB_kf hb20 ?_
            refine .direct ?_
            obtain rfl := Option.some.inj h
            exact ⟨[], .tup [.int .i64 v15, .bool true], [], by decide, (show 0 ≤ 0 by decide), .tup_l ⟨.int_eq rfl, .bool_eq rfl, trivial⟩, trivial, rfl, rfl⟩
def m23 (a0 : TKey) : Option (Bool) :=
  (if a0.fText = true then
    m54 a0.fStr >>= fun (v5, v6) =>
    (if a0.fNum = 0 then
      (if (a0.fStr.length : Int) ≤ 400 then
        some (!v6)
      else
        some false)
    else
      some false)
  else
    m53 a0.fNum (-1000000000) 1000000000 >>= fun v2 =>
    (if v2 = true then
      some (a0.fStr == ([] : Str))
    else
      some false))
theorem ok23 {a0 : TKey} {r : Bool} (h : m23 a0 = some r) : ACall Tryd.prog 56 [.agg [.bool a0.fText, .int .i64 a0.fNum, .str a0.fStr]] [] (fun res h => res = .bool r ∧ h = []) := by
  refine ACall.of_vc tabT_ok mixed Tryd.func56 rfl (by kernel_rfl) _ _ _ rfl (by kernel_rfl) ?_
  unfold m23 at h
  refine .direct ?_
  refine .direct ?_
  refine .direct ?_
  refine ⟨rfl, ?_⟩
  refine ⟨rfl, _, rfl, ?_⟩
  refine splitB.mk (fun hb1 => ?_) (fun hb1 => ?_)
  · have hb10 := not_F hb1
    replace h := F_var hb10 h
    refine .direct ?_
    refine ⟨rfl, ?_⟩
    refine ⟨rfl, _, rfl, ?_⟩
    obtain ⟨v2, hv3, h⟩ := bind_some h
    refine ⟨_, ACall.pure0 (ok53 hv3) _ rfl (fun _ => rfl), ?_⟩
    rintro _ _ ⟨rfl, rfl⟩
    refine splitB.mk (fun hb4 => ?_) (fun hb4 => ?_)
    · replace h := T_var hb4 h
      refine ⟨rfl, ?_⟩
      refine splitB_t ?_
      refine ⟨rfl, _, rfl, ?_⟩
      refine splitB_t ?_
      refine splitB_t ?_
      obtain rfl := Option.some.inj h
      exact ⟨[], .bool (a0.fStr == ([] : Str)), [], by decide, (show 0 ≤ 0 by decide), .bool_eq rfl, trivial, rfl, rfl⟩
    · replace h := F_var hb4 h
      refine splitB_f ?_
      refine splitB_f ?_
      refine splitB_f ?_
      obtain rfl := Option.some.inj h
      exact ⟨[], .bool false, [], by decide, (show 0 ≤ 0 by decide), .bool_eq rfl, trivial, rfl, rfl⟩
  · have hb10 := not_T hb1
    replace h := T_var hb10 h
    refine .direct ?_
    refine ⟨rfl, ?_⟩
    refine ⟨rfl, _, rfl, ?_⟩
    obtain ⟨⟨v5, v6⟩, hv7, h⟩ := bind_some h
    refine ⟨_, ACall.pure0 (ok54 hv7) _ rfl (fun _ => rfl), ?_⟩
    rintro _ _ ⟨rfl, rfl⟩
    refine .direct ?_
    refine ⟨rfl, ?_⟩
    refine ⟨rfl, _, rfl, ?_⟩
    refine splitB.mk (fun hb8 => ?_) (fun hb8 => ?_)
    · replace h := T_beq hb8 h
      refine ⟨rfl, ?_⟩
      refine splitB_t ?_
      refine ⟨rfl, _, rfl, ?_⟩
      refine splitB_t ?_
      refine splitB_t ?_
      refine splitB_t ?_
      refine splitB.mk (fun hb9 => ?_) (fun hb9 => ?_)
      · replace h := T_dec hb9 h
        refine splitB_t ?_
        refine splitB_t ?_
        obtain rfl := Option.some.inj h
        exact ⟨[], .bool (!v6), [], by decide, (show 0 ≤ 0 by decide), .bool_eq rfl, trivial, rfl, rfl⟩
      · replace h := F_dec hb9 h
        refine splitB_f ?_
        refine splitB_f ?_
        obtain rfl := Option.some.inj h
        exact ⟨[], .bool false, [], by decide, (show 0 ≤ 0 by decide), .bool_eq rfl, trivial, rfl, rfl⟩
    · replace h := F_beq hb8 h
      refine splitB_f ?_
      refine splitB_f ?_
      refine splitB_f ?_
      refine splitB_f ?_
      refine splitB_f ?_
      refine splitB_f ?_
      refine splitB_f ?_
      obtain rfl := Option.some.inj h
      exact ⟨[], .bool false, [], by decide, (show 0 ≤ 0 by decide), .bool_eq rfl, trivial, rfl, rfl⟩
mutual
def m52 (a0 : TValue) : Option (Bool) :=
  ((
    (if a0.fKind = 3 then
      (if a0.fKind = 4 then
        some (.inl ())
      else
        (if a0.fNext = 0 then
          (if (a0.fItems.length : Int) > 0 then
            some (.inr false)
          else
            some (.inl ()))
        else
          some (.inr false)))
    else
      (if a0.fStr = ([] : Str) then
        (if a0.fKind = 4 then
          some (.inl ())
        else
          (if a0.fNext = 0 then
            (if (a0.fItems.length : Int) > 0 then
              some (.inr false)
            else
              some (.inl ()))
          else
            some (.inr false)))
      else
        some (.inr false)))
   : Option ((Unit) ⊕ Bool)) >>= fun o1 => match o1 with
    | .inr r => some r
    | .inl _ =>
      ((
        (if a0.fKind = 0 then
          some (.inr (a0.fNum == 0))
        else
          (if a0.fKind = 1 then
            m53 a0.fNum 0 1 >>= fun v18 =>
            some (.inr v18)
          else
            (if a0.fKind = 2 then
              m53 a0.fNum (-1000000000) 1000000000 >>= fun v21 =>
              some (.inr v21)
            else
              (if a0.fKind = 3 then
                (if a0.fNum = 0 then
                  some (.inr (decide ((a0.fStr.length : Int) ≤ 400)))
                else
                  some (.inr false))
              else
                (
                  (if a0.fKind = 6 then
                    some (a0.fKind == 6)
                  else
                    (if a0.fKind = 7 then
                      some (a0.fKind == 7)
                    else
                      some (a0.fKind == 8)))
                 : Option (Bool)) >>= fun b25 =>
                (if b25 = true then
                  m53 a0.fNum 0 255 >>= fun v32 =>
                  some (.inr v32)
                else
                  (if a0.fKind = 4 then
                    (if a0.fNum = 0 then
                      m53 a0.fNext 0 1000000001 >>= fun v36 =>
                      (if v36 = true then
                        ((
                          m52_L4 a0 0
                         : Option ((Unit) ⊕ ((Unit) ⊕ Bool))) >>= fun o39 => match o39 with
                          | .inr r => some r
                          | .inl _ =>
                            some (.inr true)
                        )
                      else
                        some (.inr false))
                    else
                      some (.inr false))
                  else
                    some (.inl ())))))))
       : Option ((Unit) ⊕ Bool)) >>= fun o13 => match o13 with
        | .inr r => some r
        | .inl _ =>
          some false
      )
  )
partial_fixpoint
def m52_L4 (a0 : TValue) (y42 : Int) : Option ((Unit) ⊕ ((Unit) ⊕ Bool)) :=
  (if y42 < (a0.fItems.length : Int) then
    idx a0.fItems y42 >>= fun x47 =>
    m23 x47.fKey >>= fun v49 =>
    (if v49 = true then
      (if x47.fKey.fText = true then
        m90 a0 x47.fKey >>= fun v63 =>
        (if v63 = y42 then
          idx a0.fItems y42 >>= fun x66 =>
          m52 x66.fVal >>= fun v68 =>
          (if v68 = true then
            m52_L4 a0 (W64 (y42 + 1))
          else
            some (.inr (.inr false)))
        else
          some (.inr (.inr false)))
      else
        (if x47.fKey.fNum ≥ a0.fNext then
          some (.inr (.inr false))
        else
          m90 a0 x47.fKey >>= fun v54 =>
          (if v54 = y42 then
            idx a0.fItems y42 >>= fun x57 =>
            m52 x57.fVal >>= fun v59 =>
            (if v59 = true then
              m52_L4 a0 (W64 (y42 + 1))
            else
              some (.inr (.inr false)))
          else
            some (.inr (.inr false)))))
    else
      some (.inr (.inr false)))
  else
    some (.inl ()))
partial_fixpoint
end
def okS45 (a0 : TValue) (r : Bool) : Prop := ACall Tryd.prog 45 [.agg [.int .i64 a0.fKind, .int .i64 a0.fNum, .str a0.fStr, .int .i64 a0.fNext, sl 8 TEntry.cells a0.fItems]] [] (fun res h => res = .bool r ∧ h = [])
inductive m52_L4_I : TValue → Int → ((Unit) ⊕ ((Unit) ⊕ Bool)) → Prop
  | mk (G45 : TValue → Option (Bool)) (hG45 : ∀ a0 r, G45 a0 = some r → okS45 a0 r) (F_m52_L4 : TValue → Int → Option ((Unit) ⊕ ((Unit) ⊕ Bool))) (hF_m52_L4 : ∀ a0 y42 o, F_m52_L4 a0 y42 = some o → m52_L4_I a0 y42 o) (a0 : TValue) (y42 : Int) (o : (Unit) ⊕ ((Unit) ⊕ Bool)) (h : (
      (if y42 < (a0.fItems.length : Int) then
        idx a0.fItems y42 >>= fun x47 =>
        m23 x47.fKey >>= fun v49 =>
        (if v49 = true then
          (if x47.fKey.fText = true then
            m90 a0 x47.fKey >>= fun v63 =>
            (if v63 = y42 then
              idx a0.fItems y42 >>= fun x66 =>
              G45 x66.fVal >>= fun v68 =>
              (if v68 = true then
                F_m52_L4 a0 (W64 (y42 + 1))
              else
                some (.inr (.inr false)))
            else
              some (.inr (.inr false)))
          else
            (if x47.fKey.fNum ≥ a0.fNext then
              some (.inr (.inr false))
            else
              m90 a0 x47.fKey >>= fun v54 =>
              (if v54 = y42 then
                idx a0.fItems y42 >>= fun x57 =>
                G45 x57.fVal >>= fun v59 =>
                (if v59 = true then
                  F_m52_L4 a0 (W64 (y42 + 1))
                else
                  some (.inr (.inr false)))
              else
                some (.inr (.inr false)))))
        else
          some (.inr (.inr false)))
      else
        some (.inl ()))
    ) = some o) : m52_L4_I a0 y42 o
theorem m52_L4_ind {motive : TValue → Int → ((Unit) ⊕ ((Unit) ⊕ Bool)) → Prop} (step : ∀ (G45 : TValue → Option (Bool)) (hG45 : ∀ a0 r, G45 a0 = some r → okS45 a0 r) (F_m52_L4 : TValue → Int → Option ((Unit) ⊕ ((Unit) ⊕ Bool))) (hF_m52_L4 : ∀ a0 y42 o, F_m52_L4 a0 y42 = some o → m52_L4_I a0 y42 o) (a0 : TValue) (y42 : Int) (o : (Unit) ⊕ ((Unit) ⊕ Bool)) (h : (
      (if y42 < (a0.fItems.length : Int) then
        idx a0.fItems y42 >>= fun x47 =>
        m23 x47.fKey >>= fun v49 =>
        (if v49 = true then
          (if x47.fKey.fText = true then
            m90 a0 x47.fKey >>= fun v63 =>
            (if v63 = y42 then
              idx a0.fItems y42 >>= fun x66 =>
              G45 x66.fVal >>= fun v68 =>
              (if v68 = true then
                F_m52_L4 a0 (W64 (y42 + 1))
              else
                some (.inr (.inr false)))
            else
              some (.inr (.inr false)))
          else
            (if x47.fKey.fNum ≥ a0.fNext then
              some (.inr (.inr false))
            else
              m90 a0 x47.fKey >>= fun v54 =>
              (if v54 = y42 then
                idx a0.fItems y42 >>= fun x57 =>
                G45 x57.fVal >>= fun v59 =>
                (if v59 = true then
                  F_m52_L4 a0 (W64 (y42 + 1))
                else
                  some (.inr (.inr false)))
              else
                some (.inr (.inr false)))))
        else
          some (.inr (.inr false)))
      else
        some (.inl ()))
    ) = some o) (ih : ∀ a0 y42 o, F_m52_L4 a0 y42 = some o → motive a0 y42 o), motive a0 y42 o) : ∀ a0 y42 o, m52_L4_I a0 y42 o → motive a0 y42 o :=
  fun a0 y42 o h => m52_L4_I.rec (motive := fun a0 y42 o _ => motive a0 y42 o) step h
theorem grp_52 : (∀ a0 r, m52 a0 = some r → okS45 a0 r) ∧ (∀ a0 y42 o, m52_L4 a0 y42 = some o → m52_L4_I a0 y42 o) := by
  refine m52.mutual_partial_correctness okS45 m52_L4_I ?_ ?_
  · intro _ hI78 a0 r h
    refine ACall.of_vc tabT_ok mixed Tryd.func45 rfl (by kernel_rfl) _ _ _ rfl (by kernel_rfl) ?_
    refine .direct ?_
    obtain ⟨o1, ho2, hk3⟩ := bind_some h
    replace h := ho2
    refine .cut (fun σ η => .inl () = o1 ∧ σ = [(1, .optr 0 0 0 0)] ∧ η = [.row 0 5 1 26 (fun _ => [.int .i64 a0.fKind, .int .i64 a0.fNum, .str a0.fStr, .int .i64 a0.fNext, sl 8 TEntry.cells a0.fItems])]) ?_ ?_
    · refine .direct ?_
      refine ⟨rfl, ?_⟩
      refine ⟨rfl, _, rfl, ?_⟩
      refine splitB.mk (fun hb4 => ?_) (fun hb4 => ?_)
      · replace h := T_bne hb4 h
        refine ⟨rfl, ?_⟩
        refine splitB_t ?_
        refine ⟨rfl, _, rfl, ?_⟩
        refine splitB_t ?_
        refine splitB_t ?_
        refine splitB.mk (fun hb5 => ?_) (fun hb5 => ?_)
        · have hb9 := not_F hb5
          replace h := F_beq hb9 h
          refine splitB_t ?_
          refine splitB_t ?_
          refine splitB_t ?_
          refine splitB_t ?_
          refine splitB_t ?_
          refine splitB_t ?_
          refine .direct ?_
          obtain rfl := Option.some.inj h
          replace h := hk3
          obtain rfl := Option.some.inj h
          exact ⟨[], .bool false, [], by decide, (show 0 ≤ 0 by decide), .bool_eq rfl, trivial, rfl, rfl⟩
        · have hb9 := not_T hb5
          replace h := T_beq hb9 h
          refine ⟨rfl, ?_⟩
          refine splitB_f ?_
          refine ⟨rfl, _, rfl, ?_⟩
          refine splitB_f ?_
          refine splitB_f ?_
          refine splitB.mk (fun hb6 => ?_) (fun hb6 => ?_)
          · replace h := T_bne hb6 h
            refine ⟨rfl, ?_⟩
            refine splitB_t ?_
            refine ⟨rfl, _, rfl, ?_⟩
            refine splitB_t ?_
            refine splitB_t ?_
            refine splitB.mk (fun hb7 => ?_) (fun hb7 => ?_)
            · replace h := T_bne hb7 h
              refine splitB_t ?_
              refine splitB_t ?_
              refine splitB_t ?_
              refine splitB_t ?_
              refine splitB_t ?_
              refine splitB_f ?_
              refine splitB_t ?_
              refine splitB_f ?_
              refine splitB_t ?_
              refine .direct ?_
              obtain rfl := Option.some.inj h
              replace h := hk3
              obtain rfl := Option.some.inj h
              exact ⟨[], .bool false, [], by decide, (show 0 ≤ 0 by decide), .bool_eq rfl, trivial, rfl, rfl⟩
            · replace h := F_bne hb7 h
              refine ⟨rfl, ?_⟩
              refine splitB_f ?_
              refine ⟨rfl, _, rfl, ?_⟩
              refine splitB_f ?_
              refine splitB_f ?_
              refine splitB_t ?_
              refine splitB_f ?_
              refine splitB_f ?_
              refine splitB_t ?_
              refine splitB_f ?_
              refine splitB.mk (fun hb8 => ?_) (fun hb8 => ?_)
              · replace h := T_dec hb8 h
                refine .direct ?_
                obtain rfl := Option.some.inj h
                replace h := hk3
                obtain rfl := Option.some.inj h
                exact ⟨[], .bool false, [], by decide, (show 0 ≤ 0 by decide), .bool_eq rfl, trivial, rfl, rfl⟩
              · replace h := F_dec hb8 h
                exact ⟨[(1, .optr 0 0 0 0)], [.row 0 5 1 26 (fun _ => [.int .i64 a0.fKind, .int .i64 a0.fNum, .str a0.fStr, .int .i64 a0.fNext, sl 8 TEntry.cells a0.fItems])], ⟨[0], by decide, (show 0 ≤ 1 by decide), ⟨.optr_eq rfl ⟨_, _, _, _, rfl⟩ ⟨_, _, _, _, rfl⟩ rfl rfl, trivial⟩, ⟨⟨fun h0 => absurd (show 0 < 0 from h0) (by decide), rfl, rfl, rfl, fun _ _ => ⟨.int_eq rfl, .int_eq rfl, .str_eq rfl, .int_eq rfl, .slc_eq rfl (fun _ _ => rfl), trivial⟩⟩, trivial⟩⟩, Option.some.inj h, rfl, rfl⟩
          · replace h := F_bne hb6 h
            refine splitB_f ?_
            refine splitB_f ?_
            refine splitB_f ?_
            refine splitB_f ?_
            refine splitB_f ?_
            refine splitB_f ?_
            refine splitB_f ?_
            refine splitB_f ?_
            exact ⟨[(1, .optr 0 0 0 0)], [.row 0 5 1 26 (fun _ => [.int .i64 a0.fKind, .int .i64 a0.fNum, .str a0.fStr, .int .i64 a0.fNext, sl 8 TEntry.cells a0.fItems])], ⟨[0], by decide, (show 0 ≤ 1 by decide), ⟨.optr_eq rfl ⟨_, _, _, _, rfl⟩ ⟨_, _, _, _, rfl⟩ rfl rfl, trivial⟩, ⟨⟨fun h0 => absurd (show 0 < 0 from h0) (by decide), rfl, rfl, rfl, fun _ _ => ⟨.int_eq rfl, .int_eq rfl, .str_eq rfl, .int_eq rfl, .slc_eq rfl (fun _ _ => rfl), trivial⟩⟩, trivial⟩⟩, Option.some.inj h, rfl, rfl⟩
      · replace h := F_bne hb4 h
        refine splitB_f ?_
        refine splitB_f ?_
        refine splitB_f ?_
        refine splitB_f ?_
        refine ⟨rfl, ?_⟩
        refine splitB_f ?_
        refine ⟨rfl, _, rfl, ?_⟩
        refine splitB_f ?_
        refine splitB_f ?_
        refine splitB.mk (fun hb10 => ?_) (fun hb10 => ?_)
        · replace h := T_bne hb10 h
          refine ⟨rfl, ?_⟩
          refine splitB_t ?_
          refine ⟨rfl, _, rfl, ?_⟩
          refine splitB_t ?_
          refine splitB_t ?_
          refine splitB.mk (fun hb11 => ?_) (fun hb11 => ?_)
          · replace h := T_bne hb11 h
            refine splitB_t ?_
            refine splitB_t ?_
            refine splitB_t ?_
            refine splitB_t ?_
            refine splitB_t ?_
            refine splitB_f ?_
            refine splitB_t ?_
            refine splitB_f ?_
            refine splitB_t ?_
            refine .direct ?_
            obtain rfl := Option.some.inj h
            replace h := hk3
            obtain rfl := Option.some.inj h
            exact ⟨[], .bool false, [], by decide, (show 0 ≤ 0 by decide), .bool_eq rfl, trivial, rfl, rfl⟩
          · replace h := F_bne hb11 h
            refine ⟨rfl, ?_⟩
            refine splitB_f ?_
            refine ⟨rfl, _, rfl, ?_⟩
            refine splitB_f ?_
            refine splitB_f ?_
            refine splitB_t ?_
            refine splitB_f ?_
            refine splitB_f ?_
            refine splitB_t ?_
            refine splitB_f ?_
            refine splitB.mk (fun hb12 => ?_) (fun hb12 => ?_)
            · replace h := T_dec hb12 h
              refine .direct ?_
              obtain rfl := Option.some.inj h
              replace h := hk3
              obtain rfl := Option.some.inj h
              exact ⟨[], .bool false, [], by decide, (show 0 ≤ 0 by decide), .bool_eq rfl, trivial, rfl, rfl⟩
            · replace h := F_dec hb12 h
              exact ⟨[(1, .optr 0 0 0 0)], [.row 0 5 1 26 (fun _ => [.int .i64 a0.fKind, .int .i64 a0.fNum, .str a0.fStr, .int .i64 a0.fNext, sl 8 TEntry.cells a0.fItems])], ⟨[0], by decide, (show 0 ≤ 1 by decide), ⟨.optr_eq rfl ⟨_, _, _, _, rfl⟩ ⟨_, _, _, _, rfl⟩ rfl rfl, trivial⟩, ⟨⟨fun h0 => absurd (show 0 < 0 from h0) (by decide), rfl, rfl, rfl, fun _ _ => ⟨.int_eq rfl, .int_eq rfl, .str_eq rfl, .int_eq rfl, .slc_eq rfl (fun _ _ => rfl), trivial⟩⟩, trivial⟩⟩, Option.some.inj h, rfl, rfl⟩
        · replace h := F_bne hb10 h
          refine splitB_f ?_
          refine splitB_f ?_
          refine splitB_f ?_
          refine splitB_f ?_
          refine splitB_f ?_
          refine splitB_f ?_
          refine splitB_f ?_
          refine splitB_f ?_
          exact ⟨[(1, .optr 0 0 0 0)], [.row 0 5 1 26 (fun _ => [.int .i64 a0.fKind, .int .i64 a0.fNum, .str a0.fStr, .int .i64 a0.fNext, sl 8 TEntry.cells a0.fItems])], ⟨[0], by decide, (show 0 ≤ 1 by decide), ⟨.optr_eq rfl ⟨_, _, _, _, rfl⟩ ⟨_, _, _, _, rfl⟩ rfl rfl, trivial⟩, ⟨⟨fun h0 => absurd (show 0 < 0 from h0) (by decide), rfl, rfl, rfl, fun _ _ => ⟨.int_eq rfl, .int_eq rfl, .str_eq rfl, .int_eq rfl, .slc_eq rfl (fun _ _ => rfl), trivial⟩⟩, trivial⟩⟩, Option.some.inj h, rfl, rfl⟩
    · rintro _ _ ⟨rfl, rfl, rfl⟩
      replace h := hk3
      obtain ⟨o13, ho14, hk15⟩ := bind_some h
      replace h := ho14
      refine .cut (fun σ η => .inl () = o13 ∧ σ = [] ∧ η = []) ?_ ?_
      · refine .direct ?_
        refine ⟨rfl, ?_⟩
        refine ⟨rfl, _, rfl, ?_⟩
        refine .direct ?_
        refine splitB.mk (fun hb16 => ?_) (fun hb16 => ?_)
        · replace h := T_beq hb16 h
          refine .direct ?_
          refine ⟨rfl, ?_⟩
          refine ⟨rfl, _, rfl, ?_⟩
          obtain rfl := Option.some.inj h
          replace h := hk15
          obtain rfl := Option.some.inj h
          exact ⟨[], .bool (a0.fNum == 0), [], by decide, (show 0 ≤ 0 by decide), .bool_eq rfl, trivial, rfl, rfl⟩
        · replace h := F_beq hb16 h
          refine .direct ?_
          refine splitB.mk (fun hb17 => ?_) (fun hb17 => ?_)
          · replace h := T_beq hb17 h
            refine .direct ?_
            refine ⟨rfl, ?_⟩
            refine ⟨rfl, _, rfl, ?_⟩
            obtain ⟨v18, hv19, h⟩ := bind_some h
            refine ⟨_, ACall.pure0 (ok53 hv19) _ rfl (fun _ => rfl), ?_⟩
            rintro _ _ ⟨rfl, rfl⟩
            obtain rfl := Option.some.inj h
            replace h := hk15
            obtain rfl := Option.some.inj h
            exact ⟨[], .bool v18, [], by decide, (show 0 ≤ 0 by decide), .bool_eq rfl, trivial, rfl, rfl⟩
          · replace h := F_beq hb17 h
            refine .direct ?_
            refine splitB.mk (fun hb20 => ?_) (fun hb20 => ?_)
            · replace h := T_beq hb20 h
              refine .direct ?_
              refine ⟨rfl, ?_⟩
              refine ⟨rfl, _, rfl, ?_⟩
              obtain ⟨v21, hv22, h⟩ := bind_some h
              refine ⟨_, ACall.pure0 (ok53 hv22) _ rfl (fun _ => rfl), ?_⟩
              rintro _ _ ⟨rfl, rfl⟩
              obtain rfl := Option.some.inj h
              replace h := hk15
              obtain rfl := Option.some.inj h
              exact ⟨[], .bool v21, [], by decide, (show 0 ≤ 0 by decide), .bool_eq rfl, trivial, rfl, rfl⟩
            · replace h := F_beq hb20 h
              refine .direct ?_
              refine splitB.mk (fun hb23 => ?_) (fun hb23 => ?_)
              · replace h := T_beq hb23 h
                refine .direct ?_
                refine ⟨rfl, ?_⟩
                refine ⟨rfl, _, rfl, ?_⟩
                refine splitB.mk (fun hb24 => ?_) (fun hb24 => ?_)
                · replace h := T_beq hb24 h
                  refine ⟨rfl, ?_⟩
                  refine splitB_t ?_
                  refine ⟨rfl, _, rfl, ?_⟩
                  refine splitB_t ?_
                  refine splitB_t ?_
                  refine splitB_t ?_
                  obtain rfl := Option.some.inj h
                  replace h := hk15
                  obtain rfl := Option.some.inj h
                  exact ⟨[], .bool (decide ((a0.fStr.length : Int) ≤ 400)), [], by decide, (show 0 ≤ 0 by decide), .bool_eq rfl, trivial, rfl, rfl⟩
                · replace h := F_beq hb24 h
                  refine splitB_f ?_
                  refine splitB_f ?_
                  refine splitB_f ?_
                  refine splitB_f ?_
                  obtain rfl := Option.some.inj h
                  replace h := hk15
                  obtain rfl := Option.some.inj h
                  exact ⟨[], .bool false, [], by decide, (show 0 ≤ 0 by decide), .bool_eq rfl, trivial, rfl, rfl⟩
              · replace h := F_beq hb23 h
                obtain ⟨o26, ho27, hk28⟩ := bind_some h
                replace h := ho27
                refine .cut (fun σ η => ∃ b25, b25 = o26 ∧ σ = [(1, .optr 0 0 0 0), (30, .int .i64 a0.fKind), (57, .bool b25)] ∧ η = [.row 0 5 1 26 (fun _ => [.int .i64 a0.fKind, .int .i64 a0.fNum, .str a0.fStr, .int .i64 a0.fNext, sl 8 TEntry.cells a0.fItems])]) ?_ ?_
                · refine .direct ?_
                  refine splitB.mk (fun hb29 => ?_) (fun hb29 => ?_)
                  · replace h := T_beq hb29 h
                    exact ⟨[(1, .optr 0 0 0 0), (30, .int .i64 a0.fKind), (57, .bool (a0.fKind == 6))], [.row 0 5 1 26 (fun _ => [.int .i64 a0.fKind, .int .i64 a0.fNum, .str a0.fStr, .int .i64 a0.fNext, sl 8 TEntry.cells a0.fItems])], ⟨[0], by decide, (show 0 ≤ 1 by decide), ⟨.optr_eq rfl ⟨_, _, _, _, rfl⟩ ⟨_, _, _, _, rfl⟩ rfl rfl, .int_eq rfl, .bool_eq rfl, trivial⟩, ⟨⟨fun h0 => absurd (show 0 < 0 from h0) (by decide), rfl, rfl, rfl, fun _ _ => ⟨.int_eq rfl, .int_eq rfl, .str_eq rfl, .int_eq rfl, .slc_eq rfl (fun _ _ => rfl), trivial⟩⟩, trivial⟩⟩, (a0.fKind == 6), Option.some.inj h, rfl, rfl⟩
                  · replace h := F_beq hb29 h
                    refine .direct ?_
                    refine splitB.mk (fun hb30 => ?_) (fun hb30 => ?_)
                    · replace h := T_beq hb30 h
                      exact ⟨[(1, .optr 0 0 0 0), (30, .int .i64 a0.fKind), (57, .bool (a0.fKind == 7))], [.row 0 5 1 26 (fun _ => [.int .i64 a0.fKind, .int .i64 a0.fNum, .str a0.fStr, .int .i64 a0.fNext, sl 8 TEntry.cells a0.fItems])], ⟨[0], by decide, (show 0 ≤ 1 by decide), ⟨.optr_eq rfl ⟨_, _, _, _, rfl⟩ ⟨_, _, _, _, rfl⟩ rfl rfl, .int_eq rfl, .bool_eq rfl, trivial⟩, ⟨⟨fun h0 => absurd (show 0 < 0 from h0) (by decide), rfl, rfl, rfl, fun _ _ => ⟨.int_eq rfl, .int_eq rfl, .str_eq rfl, .int_eq rfl, .slc_eq rfl (fun _ _ => rfl), trivial⟩⟩, trivial⟩⟩, (a0.fKind == 7), Option.some.inj h, rfl, rfl⟩
                    · replace h := F_beq hb30 h
                      exact ⟨[(1, .optr 0 0 0 0), (30, .int .i64 a0.fKind), (57, .bool (a0.fKind == 8))], [.row 0 5 1 26 (fun _ => [.int .i64 a0.fKind, .int .i64 a0.fNum, .str a0.fStr, .int .i64 a0.fNext, sl 8 TEntry.cells a0.fItems])], ⟨[0], by decide, (show 0 ≤ 1 by decide), ⟨.optr_eq rfl ⟨_, _, _, _, rfl⟩ ⟨_, _, _, _, rfl⟩ rfl rfl, .int_eq rfl, .bool_eq rfl, trivial⟩, ⟨⟨fun h0 => absurd (show 0 < 0 from h0) (by decide), rfl, rfl, rfl, fun _ _ => ⟨.int_eq rfl, .int_eq rfl, .str_eq rfl, .int_eq rfl, .slc_eq rfl (fun _ _ => rfl), trivial⟩⟩, trivial⟩⟩, (a0.fKind == 8), Option.some.inj h, rfl, rfl⟩
                · rintro _ _ ⟨b25, rfl, rfl, rfl⟩
                  replace h := hk28
                  refine splitB.mk (fun hb31 => ?_) (fun hb31 => ?_)
                  · replace h := T_var hb31 h
                    refine .direct ?_
                    refine ⟨rfl, ?_⟩
                    refine ⟨rfl, _, rfl, ?_⟩
                    obtain ⟨v32, hv33, h⟩ := bind_some h
                    refine ⟨_, ACall.pure0 (ok53 hv33) _ rfl (fun _ => rfl), ?_⟩
                    rintro _ _ ⟨rfl, rfl⟩
                    obtain rfl := Option.some.inj h
                    replace h := hk15
                    obtain rfl := Option.some.inj h
                    exact ⟨[], .bool v32, [], by decide, (show 0 ≤ 0 by decide), .bool_eq rfl, trivial, rfl, rfl⟩
                  · replace h := F_var hb31 h
                    refine .direct ?_
                    refine splitB.mk (fun hb34 => ?_) (fun hb34 => ?_)
                    · replace h := T_beq hb34 h
                      refine .direct ?_
                      refine .direct ?_
                      refine ⟨rfl, ?_⟩
                      refine ⟨rfl, _, rfl, ?_⟩
                      refine splitB.mk (fun hb35 => ?_) (fun hb35 => ?_)
                      · replace h := T_bne hb35 h
                        refine splitB_t ?_
                        refine splitB_t ?_
                        refine splitB_t ?_
                        refine splitB_t ?_
                        refine splitB_t ?_
                        refine .direct ?_
                        obtain rfl := Option.some.inj h
                        replace h := hk15
                        obtain rfl := Option.some.inj h
                        exact ⟨[], .bool false, [], by decide, (show 0 ≤ 0 by decide), .bool_eq rfl, trivial, rfl, rfl⟩
                      · replace h := F_bne hb35 h
                        refine ⟨rfl, ?_⟩
                        refine splitB_f ?_
                        refine ⟨rfl, _, rfl, ?_⟩
                        refine splitB_f ?_
                        obtain ⟨v36, hv37, h⟩ := bind_some h
                        refine ⟨_, ACall.pure0 (ok53 hv37) _ rfl (fun _ => rfl), ?_⟩
                        rintro _ _ ⟨rfl, rfl⟩
                        refine splitB_f ?_
                        refine splitB_f ?_
                        refine splitB.mk (fun hb38 => ?_) (fun hb38 => ?_)
                        · have hb79 := not_F hb38
                          replace h := F_var hb79 h
                          refine .direct ?_
                          obtain rfl := Option.some.inj h
                          replace h := hk15
                          obtain rfl := Option.some.inj h
                          exact ⟨[], .bool false, [], by decide, (show 0 ≤ 0 by decide), .bool_eq rfl, trivial, rfl, rfl⟩
                        · have hb79 := not_T hb38
                          replace h := T_var hb79 h
                          obtain ⟨o39, ho40, hk41⟩ := bind_some h
                          replace h := ho40
                          refine .cut (fun σ η => .inl () = o39 ∧ σ = [] ∧ η = []) ?_ ?_
                          · refine .direct ?_
                            have hL77 := hI78 _ _ _ h
                            refine LoopAt.enter [(1, .optr 0 0 0 0), (3, .int .i64 0)] [.row 0 5 1 26 (fun _ => [.int .i64 a0.fKind, .int .i64 a0.fNum, .str a0.fStr, .int .i64 a0.fNext, sl 8 TEntry.cells a0.fItems])] ⟨[0], by decide, (show 0 ≤ 1 by decide), ⟨.optr_eq rfl ⟨_, _, _, _, rfl⟩ ⟨_, _, _, _, rfl⟩ rfl rfl, .int_eq rfl, trivial⟩, ⟨⟨fun h0 => absurd (show 0 < 0 from h0) (by decide), rfl, rfl, rfl, fun _ _ => ⟨.int_eq rfl, .int_eq rfl, .str_eq rfl, .int_eq rfl, .slc_eq rfl (fun _ _ => rfl), trivial⟩⟩, trivial⟩⟩ ?_
                            refine m52_L4_ind (motive := fun p76 y42 o74 => a0 = p76 → o39 = o74 → LoopAt _ _ [(1, .optr 0 0 0 0), (3, .int .i64 y42)] [.row 0 5 1 26 (fun _ => [.int .i64 a0.fKind, .int .i64 a0.fNum, .str a0.fStr, .int .i64 a0.fNext, sl 8 TEntry.cells a0.fItems])]) ?_ a0 0 o39 hL77 rfl rfl
                            intro _ hG45 _ _ p76 y42 o74 h ih43  hp_p76 hr75
                            subst hp_p76
                            subst hr75
                            refine LoopAt.round ?_
                            refine .direct ?_
                            refine .direct ?_
                            refine ⟨rfl, ?_⟩
                            refine ⟨rfl, _, rfl, ?_⟩
                            refine splitB.mk (fun hb46 => ?_) (fun hb46 => ?_)
                            · replace h := T_dec hb46 h
                              refine .direct ?_
                              refine .direct ?_
                              refine ⟨rfl, ?_⟩
                              refine ⟨rfl, _, rfl, ?_⟩
                              obtain ⟨x47, hx48, h⟩ := bind_some h
                              refine ⟨idx_bd hx48, _, (idx_row hx48).trans (TEntry.cells_eq x47), ?_⟩
                              refine ⟨rfl, _, fun _ => [.bool x47.fKey.fText, .int .i64 x47.fKey.fNum, .str x47.fKey.fStr], rfl, one_set rfl, ?_⟩
                              refine .direct ?_
                              refine ⟨rfl, _, rfl, ?_⟩
                              obtain ⟨v49, hv50, h⟩ := bind_some h
                              refine ⟨_, ACall.pure0 (ok23 hv50) _ rfl (fun _ => rfl), ?_⟩
                              rintro _ _ ⟨rfl, rfl⟩
                              refine splitB.mk (fun hb51 => ?_) (fun hb51 => ?_)
                              · have hb73 := not_F hb51
                                replace h := F_var hb73 h
                                refine splitB_t ?_
                                refine splitB_t ?_
                                refine splitB_t ?_
                                refine splitB_t ?_
                                refine splitB_t ?_
                                refine splitB_t ?_
                                refine splitB_t ?_
                                refine splitB_t ?_
                                refine splitB_t ?_
                                refine splitB_t ?_
                                refine splitB_t ?_
                                refine splitB_t ?_
                                refine splitB_t ?_
                                refine splitB_t ?_
                                refine splitB_t ?_
                                refine splitB_t ?_
                                refine splitB_t ?_
                                refine splitB_t ?_
                                refine splitB_t ?_
                                refine splitB_t ?_
                                refine splitB_t ?_
                                refine .direct ?_
                                obtain rfl := Option.some.inj h
                                replace h := hk41
                                obtain rfl := Option.some.inj h
                                replace h := hk15
                                obtain rfl := Option.some.inj h
                                exact ⟨[], .bool false, [], by decide, (show 0 ≤ 0 by decide), .bool_eq rfl, trivial, rfl, rfl⟩
                              · have hb73 := not_T hb51
                                replace h := T_var hb73 h
                                refine ⟨rfl, ?_⟩
                                refine splitB_f ?_
                                refine ⟨rfl, _, rfl, ?_⟩
                                refine splitB_f ?_
                                refine splitB_f ?_
                                refine splitB.mk (fun hb52 => ?_) (fun hb52 => ?_)
                                · have hb72 := not_F hb52
                                  replace h := F_var hb72 h
                                  refine ⟨rfl, ?_⟩
                                  refine splitB_t ?_
                                  refine ⟨rfl, _, rfl, ?_⟩
                                  refine splitB_t ?_
                                  refine ⟨rfl, ?_⟩
                                  refine splitB_t ?_
                                  refine ⟨rfl, _, rfl, ?_⟩
                                  refine splitB_t ?_
                                  refine splitB_f ?_
                                  refine splitB_t ?_
                                  refine splitB_f ?_
                                  refine splitB.mk (fun hb53 => ?_) (fun hb53 => ?_)
                                  · replace h := T_dec hb53 h
                                    refine splitB_t ?_
                                    refine splitB_t ?_
                                    refine splitB_t ?_
                                    refine splitB_t ?_
                                    refine splitB_t ?_
                                    refine splitB_t ?_
                                    refine splitB_t ?_
                                    refine splitB_t ?_
                                    refine splitB_t ?_
                                    refine splitB_t ?_
                                    refine splitB_t ?_
                                    refine splitB_t ?_
                                    refine splitB_t ?_
                                    refine splitB_t ?_
                                    refine splitB_t ?_
                                    refine .direct ?_
                                    obtain rfl := Option.some.inj h
                                    replace h := hk41
                                    obtain rfl := Option.some.inj h
                                    replace h := hk15
                                    obtain rfl := Option.some.inj h
                                    exact ⟨[], .bool false, [], by decide, (show 0 ≤ 0 by decide), .bool_eq rfl, trivial, rfl, rfl⟩
                                  · replace h := F_dec hb53 h
                                    refine ⟨rfl, _, rfl, ?_⟩
                                    refine splitB_f ?_
                                    refine ⟨rfl, _, rfl, ?_⟩
                                    refine splitB_f ?_
                                    obtain ⟨v54, hv55, h⟩ := bind_some h
                                    refine ⟨_, ACall.pure0 (ok90 hv55) _ rfl (fun _ => rfl), ?_⟩
                                    rintro _ _ ⟨rfl, rfl⟩
                                    refine splitB_f ?_
                                    refine splitB_f ?_
                                    refine splitB_f ?_
                                    refine splitB.mk (fun hb56 => ?_) (fun hb56 => ?_)
                                    · replace h := T_bne hb56 h
                                      refine splitB_t ?_
                                      refine splitB_t ?_
                                      refine splitB_t ?_
                                      refine splitB_t ?_
                                      refine splitB_t ?_
                                      refine splitB_t ?_
                                      refine splitB_t ?_
                                      refine splitB_t ?_
                                      refine splitB_t ?_
                                      refine .direct ?_
                                      obtain rfl := Option.some.inj h
                                      replace h := hk41
                                      obtain rfl := Option.some.inj h
                                      replace h := hk15
                                      obtain rfl := Option.some.inj h
                                      exact ⟨[], .bool false, [], by decide, (show 0 ≤ 0 by decide), .bool_eq rfl, trivial, rfl, rfl⟩
                                    · replace h := F_bne hb56 h
                                      refine ⟨rfl, ?_⟩
                                      refine splitB_f ?_
                                      refine ⟨rfl, _, rfl, ?_⟩
                                      refine splitB_f ?_
                                      refine splitB_f ?_
                                      obtain ⟨x57, hx58, h⟩ := bind_some h
                                      refine ⟨idx_bd hx58, _, (idx_row hx58).trans (TEntry.cells_eq x57), ?_⟩
                                      refine splitB_f ?_
                                      refine splitB_f ?_
                                      refine splitB_f ?_
                                      obtain ⟨v59, hv60, h⟩ := bind_some h
                                      refine ⟨_, ACall.pure0 (hG45 _ _ hv60) _ rfl (fun _ => rfl), ?_⟩
                                      rintro _ _ ⟨rfl, rfl⟩
                                      refine splitB_f ?_
                                      refine splitB_f ?_
                                      refine splitB.mk (fun hb61 => ?_) (fun hb61 => ?_)
                                      · have hb62 := not_F hb61
                                        replace h := F_var hb62 h
                                        refine .direct ?_
                                        obtain rfl := Option.some.inj h
                                        replace h := hk41
                                        obtain rfl := Option.some.inj h
                                        replace h := hk15
                                        obtain rfl := Option.some.inj h
                                        exact ⟨[], .bool false, [], by decide, (show 0 ≤ 0 by decide), .bool_eq rfl, trivial, rfl, rfl⟩
                                      · have hb62 := not_T hb61
                                        replace h := T_var hb62 h
                                        exact ⟨[(1, .optr 0 0 0 0), (3, .int .i64 (W64 (y42 + 1)))], [.row 0 5 1 26 (fun _ => [.int .i64 a0.fKind, .int .i64 a0.fNum, .str a0.fStr, .int .i64 a0.fNext, sl 8 TEntry.cells a0.fItems])], ⟨[0], by decide, (show 0 ≤ 1 by decide), ⟨.optr_eq rfl ⟨_, _, _, _, rfl⟩ ⟨_, _, _, _, rfl⟩ rfl rfl, .int_eq rfl, trivial⟩, ⟨⟨fun h0 => absurd (show 0 < 0 from h0) (by decide), rfl, rfl, rfl, fun _ _ => ⟨.int_eq rfl, .int_eq rfl, .str_eq rfl, .int_eq rfl, .slc_eq rfl (fun _ _ => rfl), trivial⟩⟩, trivial⟩⟩, ih43 _ _ _ h rfl rfl⟩
                                · have hb72 := not_T hb52
                                  replace h := T_var hb72 h
                                  refine splitB_f ?_
                                  refine splitB_f ?_
                                  refine splitB_f ?_
                                  refine splitB_f ?_
                                  refine splitB_f ?_
                                  refine splitB_f ?_
                                  refine splitB_f ?_
                                  refine splitB_f ?_
                                  refine ⟨rfl, _, rfl, ?_⟩
                                  refine splitB_f ?_
                                  refine ⟨rfl, _, rfl, ?_⟩
                                  refine splitB_f ?_
                                  obtain ⟨v63, hv64, h⟩ := bind_some h
                                  refine ⟨_, ACall.pure0 (ok90 hv64) _ rfl (fun _ => rfl), ?_⟩
                                  rintro _ _ ⟨rfl, rfl⟩
                                  refine splitB_f ?_
                                  refine splitB_f ?_
                                  refine splitB_f ?_
                                  refine splitB.mk (fun hb65 => ?_) (fun hb65 => ?_)
                                  · replace h := T_bne hb65 h
                                    refine splitB_t ?_
                                    refine splitB_t ?_
                                    refine splitB_t ?_
                                    refine splitB_t ?_
                                    refine splitB_t ?_
                                    refine splitB_t ?_
                                    refine splitB_t ?_
                                    refine splitB_t ?_
                                    refine splitB_t ?_
                                    refine .direct ?_
                                    obtain rfl := Option.some.inj h
                                    replace h := hk41
                                    obtain rfl := Option.some.inj h
                                    replace h := hk15
                                    obtain rfl := Option.some.inj h
                                    exact ⟨[], .bool false, [], by decide, (show 0 ≤ 0 by decide), .bool_eq rfl, trivial, rfl, rfl⟩
                                  · replace h := F_bne hb65 h
                                    refine ⟨rfl, ?_⟩
                                    refine splitB_f ?_
                                    refine ⟨rfl, _, rfl, ?_⟩
                                    refine splitB_f ?_
                                    refine splitB_f ?_
                                    obtain ⟨x66, hx67, h⟩ := bind_some h
                                    refine ⟨idx_bd hx67, _, (idx_row hx67).trans (TEntry.cells_eq x66), ?_⟩
                                    refine splitB_f ?_
                                    refine splitB_f ?_
                                    refine splitB_f ?_
                                    obtain ⟨v68, hv69, h⟩ := bind_some h
                                    refine ⟨_, ACall.pure0 (hG45 _ _ hv69) _ rfl (fun _ => rfl), ?_⟩
                                    rintro _ _ ⟨rfl, rfl⟩
                                    refine splitB_f ?_
                                    refine splitB_f ?_
                                    refine splitB.mk (fun hb70 => ?_) (fun hb70 => ?_)
                                    · have hb71 := not_F hb70
                                      replace h := F_var hb71 h
                                      refine .direct ?_
                                      obtain rfl := Option.some.inj h
                                      replace h := hk41
                                      obtain rfl := Option.some.inj h
                                      replace h := hk15
                                      obtain rfl := Option.some.inj h
                                      exact ⟨[], .bool false, [], by decide, (show 0 ≤ 0 by decide), .bool_eq rfl, trivial, rfl, rfl⟩
                                    · have hb71 := not_T hb70
                                      replace h := T_var hb71 h
                                      exact ⟨[(1, .optr 0 0 0 0), (3, .int .i64 (W64 (y42 + 1)))], [.row 0 5 1 26 (fun _ => [.int .i64 a0.fKind, .int .i64 a0.fNum, .str a0.fStr, .int .i64 a0.fNext, sl 8 TEntry.cells a0.fItems])], ⟨[0], by decide, (show 0 ≤ 1 by decide), ⟨.optr_eq rfl ⟨_, _, _, _, rfl⟩ ⟨_, _, _, _, rfl⟩ rfl rfl, .int_eq rfl, trivial⟩, ⟨⟨fun h0 => absurd (show 0 < 0 from h0) (by decide), rfl, rfl, rfl, fun _ _ => ⟨.int_eq rfl, .int_eq rfl, .str_eq rfl, .int_eq rfl, .slc_eq rfl (fun _ _ => rfl), trivial⟩⟩, trivial⟩⟩, ih43 _ _ _ h rfl rfl⟩
                            · replace h := F_dec hb46 h
                              exact ⟨[], [], ⟨[], by decide, (show 0 ≤ 0 by decide), trivial, trivial⟩, Option.some.inj h, rfl, rfl⟩
                          · rintro _ _ ⟨rfl, rfl, rfl⟩
                            replace h := hk41
                            refine .direct ?_
                            obtain rfl := Option.some.inj h
                            replace h := hk15
                            obtain rfl := Option.some.inj h
                            exact ⟨[], .bool true, [], by decide, (show 0 ≤ 0 by decide), .bool_eq rfl, trivial, rfl, rfl⟩
                    · replace h := F_beq hb34 h
                      exact ⟨[], [], ⟨[], by decide, (show 0 ≤ 0 by decide), trivial, trivial⟩, Option.some.inj h, rfl, rfl⟩
      · rintro _ _ ⟨rfl, rfl, rfl⟩
        replace h := hk15
        refine .direct ?_
        obtain rfl := Option.some.inj h
        exact ⟨[], .bool false, [], by decide, (show 0 ≤ 0 by decide), .bool_eq rfl, trivial, rfl, rfl⟩
  · intro F0 F1 hF0 hF1 a0 y42 o h
    exact .mk F0 hF0 F1 hF1 a0 y42 o h
theorem ok52 {a0 : TValue} {r : Bool} (h : m52 a0 = some r) : ACall Tryd.prog 45 [.agg [.int .i64 a0.fKind, .int .i64 a0.fNum, .str a0.fStr, .int .i64 a0.fNext, sl 8 TEntry.cells a0.fItems]] [] (fun res h => res = .bool r ∧ h = []) := grp_52.1 a0 r h
def m22 (a0 : TValue) : Option (Bool) :=
  m51 a0 200 >>= fun v1 =>
  (if v1 ≤ 200 then
    m52 a0 >>= fun v4 =>
    some v4
  else
    some false)
theorem ok22 {a0 : TValue} {r : Bool} (h : m22 a0 = some r) : ACall Tryd.prog 14 [.agg [.int .i64 a0.fKind, .int .i64 a0.fNum, .str a0.fStr, .int .i64 a0.fNext, sl 8 TEntry.cells a0.fItems]] [] (fun res h => res = .bool r ∧ h = []) := by
  refine ACall.of_vc tabT_ok mixed Tryd.func14 rfl (by kernel_rfl) _ _ _ rfl (by kernel_rfl) ?_
  unfold m22 at h
  refine .direct ?_
  refine .direct ?_
  refine ⟨rfl, _, rfl, ?_⟩
  obtain ⟨v1, hv2, h⟩ := bind_some h
  refine ⟨_, ACall.pure0 (ok51 hv2) _ rfl (fun _ => rfl), ?_⟩
  rintro _ _ ⟨rfl, rfl⟩
  refine splitB.mk (fun hb3 => ?_) (fun hb3 => ?_)
  · replace h := T_dec hb3 h
    refine ⟨rfl, _, rfl, ?_⟩
    refine splitB_t ?_
    obtain ⟨v4, hv5, h⟩ := bind_some h
    refine ⟨_, ACall.pure0 (ok52 hv5) _ rfl (fun _ => rfl), ?_⟩
    rintro _ _ ⟨rfl, rfl⟩
    refine splitB_t ?_
    obtain rfl := Option.some.inj h
    exact ⟨[], .bool v4, [], by decide, (show 0 ≤ 0 by decide), .bool_eq rfl, trivial, rfl, rfl⟩
  · replace h := F_dec hb3 h
    refine splitB_f ?_
    refine splitB_f ?_
    obtain rfl := Option.some.inj h
    exact ⟨[], .bool false, [], by decide, (show 0 ≤ 0 by decide), .bool_eq rfl, trivial, rfl, rfl⟩
mutual
def m19 (a0 : TValue) (a1 : TValue) : Option (Bool) :=
  (if a0.fKind = a1.fKind then
    (if a0.fNum = a1.fNum then
      (if a0.fStr = a1.fStr then
        (if a0.fNext = a1.fNext then
          (if (a0.fItems.length : Int) = (a1.fItems.length : Int) then
            ((
              m19_L2 a0 a1 0
             : Option ((Unit) ⊕ Bool)) >>= fun o6 => match o6 with
              | .inr r => some r
              | .inl _ =>
                some true
            )
          else
            some false)
        else
          some false)
      else
        some false)
    else
      some false)
  else
    some false)
partial_fixpoint
def m19_L2 (a0 : TValue) (a1 : TValue) (y9 : Int) : Option ((Unit) ⊕ Bool) :=
  (if y9 < (a0.fItems.length : Int) then
    idx a0.fItems y9 >>= fun x14 =>
    idx a1.fItems y9 >>= fun x16 =>
    (if x14.fKey = x16.fKey then
      idx a0.fItems y9 >>= fun x19 =>
      idx a1.fItems y9 >>= fun x21 =>
      m19 x19.fVal x21.fVal >>= fun v23 =>
      (if v23 = true then
        m19_L2 a0 a1 (W64 (y9 + 1))
      else
        some (.inr false))
    else
      some (.inr false))
  else
    some (.inl ()))
partial_fixpoint
end
def okS11 (a0 : TValue) (a1 : TValue) (r : Bool) : Prop := ACall Tryd.prog 11 [.agg [.int .i64 a0.fKind, .int .i64 a0.fNum, .str a0.fStr, .int .i64 a0.fNext, sl 8 TEntry.cells a0.fItems], .agg [.int .i64 a1.fKind, .int .i64 a1.fNum, .str a1.fStr, .int .i64 a1.fNext, sl 8 TEntry.cells a1.fItems]] [] (fun res h => res = .bool r ∧ h = [])
inductive m19_L2_I : TValue → TValue → Int → ((Unit) ⊕ Bool) → Prop
  | mk (G11 : TValue → TValue → Option (Bool)) (hG11 : ∀ a0 a1 r, G11 a0 a1 = some r → okS11 a0 a1 r) (F_m19_L2 : TValue → TValue → Int → Option ((Unit) ⊕ Bool)) (hF_m19_L2 : ∀ a0 a1 y9 o, F_m19_L2 a0 a1 y9 = some o → m19_L2_I a0 a1 y9 o) (a0 : TValue) (a1 : TValue) (y9 : Int) (o : (Unit) ⊕ Bool) (h : (
      (if y9 < (a0.fItems.length : Int) then
        idx a0.fItems y9 >>= fun x14 =>
        idx a1.fItems y9 >>= fun x16 =>
        (if x14.fKey = x16.fKey then
          idx a0.fItems y9 >>= fun x19 =>
          idx a1.fItems y9 >>= fun x21 =>
          G11 x19.fVal x21.fVal >>= fun v23 =>
          (if v23 = true then
            F_m19_L2 a0 a1 (W64 (y9 + 1))
          else
            some (.inr false))
        else
          some (.inr false))
      else
        some (.inl ()))
    ) = some o) : m19_L2_I a0 a1 y9 o
theorem m19_L2_ind {motive : TValue → TValue → Int → ((Unit) ⊕ Bool) → Prop} (step : ∀ (G11 : TValue → TValue → Option (Bool)) (hG11 : ∀ a0 a1 r, G11 a0 a1 = some r → okS11 a0 a1 r) (F_m19_L2 : TValue → TValue → Int → Option ((Unit) ⊕ Bool)) (hF_m19_L2 : ∀ a0 a1 y9 o, F_m19_L2 a0 a1 y9 = some o → m19_L2_I a0 a1 y9 o) (a0 : TValue) (a1 : TValue) (y9 : Int) (o : (Unit) ⊕ Bool) (h : (
      (if y9 < (a0.fItems.length : Int) then
        idx a0.fItems y9 >>= fun x14 =>
        idx a1.fItems y9 >>= fun x16 =>
        (if x14.fKey = x16.fKey then
          idx a0.fItems y9 >>= fun x19 =>
          idx a1.fItems y9 >>= fun x21 =>
          G11 x19.fVal x21.fVal >>= fun v23 =>
          (if v23 = true then
            F_m19_L2 a0 a1 (W64 (y9 + 1))
          else
            some (.inr false))
        else
          some (.inr false))
      else
        some (.inl ()))
    ) = some o) (ih : ∀ a0 a1 y9 o, F_m19_L2 a0 a1 y9 = some o → motive a0 a1 y9 o), motive a0 a1 y9 o) : ∀ a0 a1 y9 o, m19_L2_I a0 a1 y9 o → motive a0 a1 y9 o :=
  fun a0 a1 y9 o h => m19_L2_I.rec (motive := fun a0 a1 y9 o _ => motive a0 a1 y9 o) step h
theorem grp_19 : (∀ a0 a1 r, m19 a0 a1 = some r → okS11 a0 a1 r) ∧ (∀ a0 a1 y9 o, m19_L2 a0 a1 y9 = some o → m19_L2_I a0 a1 y9 o) := by
  refine m19.mutual_partial_correctness okS11 m19_L2_I ?_ ?_
  · intro _ hI33 a0 a1 r h
    refine ACall.of_vc tabT_ok mixed Tryd.func11 rfl (by kernel_rfl) _ _ _ rfl (by kernel_rfl) ?_
    refine .direct ?_
    refine .direct ?_
    refine .direct ?_
    refine ⟨rfl, ?_⟩
    refine ⟨rfl, _, rfl, ?_⟩
    refine ⟨rfl, ?_⟩
    refine ⟨rfl, _, rfl, ?_⟩
    refine splitB.mk (fun hb1 => ?_) (fun hb1 => ?_)
    · replace h := T_bne hb1 h
      refine splitB_t ?_
      refine splitB_t ?_
      refine splitB_t ?_
      refine splitB_t ?_
      refine splitB_t ?_
      refine splitB_t ?_
      refine splitB_t ?_
      refine splitB_t ?_
      refine splitB_t ?_
      refine splitB_t ?_
      refine splitB_t ?_
      refine splitB_t ?_
      refine splitB_t ?_
      refine splitB_t ?_
      refine splitB_t ?_
      refine splitB_t ?_
      refine splitB_t ?_
      refine splitB_t ?_
      refine splitB_t ?_
      refine splitB_t ?_
      refine splitB_t ?_
      refine splitB_t ?_
      refine splitB_t ?_
      refine splitB_t ?_
      refine splitB_t ?_
      refine splitB_t ?_
      refine .direct ?_
      obtain rfl := Option.some.inj h
      exact ⟨[], .bool false, [], by decide, (show 0 ≤ 0 by decide), .bool_eq rfl, trivial, rfl, rfl⟩
    · replace h := F_bne hb1 h
      refine ⟨rfl, ?_⟩
      refine splitB_f ?_
      refine ⟨rfl, _, rfl, ?_⟩
      refine splitB_f ?_
      refine ⟨rfl, ?_⟩
      refine splitB_f ?_
      refine ⟨rfl, _, rfl, ?_⟩
      refine splitB_f ?_
      refine splitB_f ?_
      refine splitB.mk (fun hb2 => ?_) (fun hb2 => ?_)
      · replace h := T_bne hb2 h
        refine splitB_t ?_
        refine splitB_t ?_
        refine splitB_t ?_
        refine splitB_t ?_
        refine splitB_t ?_
        refine splitB_t ?_
        refine splitB_t ?_
        refine splitB_t ?_
        refine splitB_t ?_
        refine splitB_t ?_
        refine splitB_t ?_
        refine splitB_t ?_
        refine splitB_t ?_
        refine splitB_t ?_
        refine splitB_t ?_
        refine splitB_t ?_
        refine splitB_t ?_
        refine splitB_t ?_
        refine splitB_t ?_
        refine splitB_t ?_
        refine .direct ?_
        obtain rfl := Option.some.inj h
        exact ⟨[], .bool false, [], by decide, (show 0 ≤ 0 by decide), .bool_eq rfl, trivial, rfl, rfl⟩
      · replace h := F_bne hb2 h
        refine ⟨rfl, ?_⟩
        refine splitB_f ?_
        refine ⟨rfl, _, rfl, ?_⟩
        refine splitB_f ?_
        refine ⟨rfl, ?_⟩
        refine splitB_f ?_
        refine ⟨rfl, _, rfl, ?_⟩
        refine splitB_f ?_
        refine splitB_f ?_
        refine splitB.mk (fun hb3 => ?_) (fun hb3 => ?_)
        · have hb34 := not_F hb3
          replace h := F_beq hb34 h
          refine splitB_t ?_
          refine splitB_t ?_
          refine splitB_t ?_
          refine splitB_t ?_
          refine splitB_t ?_
          refine splitB_t ?_
          refine splitB_t ?_
          refine splitB_t ?_
          refine splitB_t ?_
          refine splitB_t ?_
          refine splitB_t ?_
          refine splitB_t ?_
          refine splitB_t ?_
          refine splitB_t ?_
          refine .direct ?_
          obtain rfl := Option.some.inj h
          exact ⟨[], .bool false, [], by decide, (show 0 ≤ 0 by decide), .bool_eq rfl, trivial, rfl, rfl⟩
        · have hb34 := not_T hb3
          replace h := T_beq hb34 h
          refine ⟨rfl, ?_⟩
          refine splitB_f ?_
          refine ⟨rfl, _, rfl, ?_⟩
          refine splitB_f ?_
          refine ⟨rfl, ?_⟩
          refine splitB_f ?_
          refine ⟨rfl, _, rfl, ?_⟩
          refine splitB_f ?_
          refine splitB_f ?_
          refine splitB.mk (fun hb4 => ?_) (fun hb4 => ?_)
          · replace h := T_bne hb4 h
            refine splitB_t ?_
            refine splitB_t ?_
            refine splitB_t ?_
            refine splitB_t ?_
            refine splitB_t ?_
            refine splitB_t ?_
            refine splitB_t ?_
            refine splitB_t ?_
            refine .direct ?_
            obtain rfl := Option.some.inj h
            exact ⟨[], .bool false, [], by decide, (show 0 ≤ 0 by decide), .bool_eq rfl, trivial, rfl, rfl⟩
          · replace h := F_bne hb4 h
            refine ⟨rfl, ?_⟩
            refine splitB_f ?_
            refine ⟨rfl, _, rfl, ?_⟩
            refine splitB_f ?_
            refine splitB_f ?_
            refine ⟨rfl, ?_⟩
            refine splitB_f ?_
            refine ⟨rfl, _, rfl, ?_⟩
            refine splitB_f ?_
            refine splitB_f ?_
            refine splitB_f ?_
            refine splitB.mk (fun hb5 => ?_) (fun hb5 => ?_)
            · replace h := T_bne hb5 h
              refine .direct ?_
              obtain rfl := Option.some.inj h
              exact ⟨[], .bool false, [], by decide, (show 0 ≤ 0 by decide), .bool_eq rfl, trivial, rfl, rfl⟩
            · replace h := F_bne hb5 h
              obtain ⟨o6, ho7, hk8⟩ := bind_some h
              replace h := ho7
              refine .cut (fun σ η => .inl () = o6 ∧ σ = [] ∧ η = []) ?_ ?_
              · refine .direct ?_
                have hL32 := hI33 _ _ _ _ h
                refine LoopAt.enter [(2, .optr 0 0 0 0), (3, .optr 1 0 0 0), (5, .int .i64 0)] [.row 0 5 1 26 (fun _ => [.int .i64 a0.fKind, .int .i64 a0.fNum, .str a0.fStr, .int .i64 a0.fNext, sl 8 TEntry.cells a0.fItems]), .row 0 5 1 26 (fun _ => [.int .i64 a1.fKind, .int .i64 a1.fNum, .str a1.fStr, .int .i64 a1.fNext, sl 8 TEntry.cells a1.fItems])] ⟨[0, 1], by decide, (show 0 ≤ 2 by decide), ⟨.optr_eq rfl ⟨_, _, _, _, rfl⟩ ⟨_, _, _, _, rfl⟩ rfl rfl, .optr_eq rfl ⟨_, _, _, _, rfl⟩ ⟨_, _, _, _, rfl⟩ rfl rfl, .int_eq rfl, trivial⟩, ⟨⟨fun h0 => absurd (show 0 < 0 from h0) (by decide), rfl, rfl, rfl, fun _ _ => ⟨.int_eq rfl, .int_eq rfl, .str_eq rfl, .int_eq rfl, .slc_eq rfl (fun _ _ => rfl), trivial⟩⟩, ⟨fun h0 => absurd (show 1 < 0 from h0) (by decide), rfl, rfl, rfl, fun _ _ => ⟨.int_eq rfl, .int_eq rfl, .str_eq rfl, .int_eq rfl, .slc_eq rfl (fun _ _ => rfl), trivial⟩⟩, trivial⟩⟩ ?_
                refine m19_L2_ind (motive := fun p30 p31 y9 o28 => a0 = p30 → a1 = p31 → o6 = o28 → LoopAt _ _ [(2, .optr 0 0 0 0), (3, .optr 1 0 0 0), (5, .int .i64 y9)] [.row 0 5 1 26 (fun _ => [.int .i64 a0.fKind, .int .i64 a0.fNum, .str a0.fStr, .int .i64 a0.fNext, sl 8 TEntry.cells a0.fItems]), .row 0 5 1 26 (fun _ => [.int .i64 a1.fKind, .int .i64 a1.fNum, .str a1.fStr, .int .i64 a1.fNext, sl 8 TEntry.cells a1.fItems])]) ?_ a0 a1 0 o6 hL32 rfl rfl rfl
                intro _ hG12 _ _ p30 p31 y9 o28 h ih10  hp_p30 hp_p31 hr29
                subst hp_p30
                subst hp_p31
                subst hr29
                refine LoopAt.round ?_
                refine .direct ?_
                refine .direct ?_
                refine ⟨rfl, ?_⟩
                refine ⟨rfl, _, rfl, ?_⟩
                refine splitB.mk (fun hb13 => ?_) (fun hb13 => ?_)
                · replace h := T_dec hb13 h
                  refine .direct ?_
                  refine .direct ?_
                  refine .float [(0, true), (1, true), (2, true), (3, true), (4, true), (5, true), (6, true), (7, true), (8, true), (9, true), (10, true), (11, true), (12, true), (13, true), (14, true), (15, true), (16, true), (17, true), (18, true), (19, true), (20, true), (21, true), (22, true), (23, true), (24, true), (25, true), (26, false), (27, true), (28, true)] (by kernel_rfl) ?_
                  refine ⟨rfl, ?_⟩
                  refine ⟨rfl, _, rfl, ?_⟩
                  obtain ⟨x14, hx15, h⟩ := bind_some h
                  refine ⟨idx_bd hx15, _, (idx_row hx15).trans (TEntry.cells_eq x14), ?_⟩
                  refine ⟨rfl, ?_⟩
                  refine ⟨rfl, _, rfl, ?_⟩
                  obtain ⟨x16, hx17, h⟩ := bind_some h
                  refine ⟨idx_bd hx17, _, (idx_row hx17).trans (TEntry.cells_eq x16), ?_⟩
                  refine ⟨_, TKey.eq_cells x14.fKey x16.fKey, ?_⟩
                  refine splitB.mk (fun hb18 => ?_) (fun hb18 => ?_)
                  · have hb27 := not_F hb18
                    replace h := F_dec hb27 h
                    refine splitB_t ?_
                    refine splitB_t ?_
                    refine splitB_t ?_
                    refine splitB_t ?_
                    refine splitB_t ?_
                    refine splitB_t ?_
                    refine splitB_t ?_
                    refine splitB_t ?_
                    refine splitB_t ?_
                    refine splitB_t ?_
                    refine splitB_t ?_
                    refine splitB_t ?_
                    refine splitB_t ?_
                    refine splitB_t ?_
                    refine splitB_t ?_
                    refine .direct ?_
                    obtain rfl := Option.some.inj h
                    replace h := hk8
                    obtain rfl := Option.some.inj h
                    exact ⟨[], .bool false, [], by decide, (show 0 ≤ 0 by decide), .bool_eq rfl, trivial, rfl, rfl⟩
                  · have hb27 := not_T hb18
                    replace h := T_dec hb27 h
                    refine ⟨rfl, ?_⟩
                    refine splitB_f ?_
                    refine ⟨rfl, _, rfl, ?_⟩
                    refine splitB_f ?_
                    refine splitB_f ?_
                    obtain ⟨x19, hx20, h⟩ := bind_some h
                    refine ⟨idx_bd hx20, _, (idx_row hx20).trans (TEntry.cells_eq x19), ?_⟩
                    refine splitB_f ?_
                    refine splitB_f ?_
                    refine splitB_f ?_
                    refine ⟨rfl, ?_⟩
                    refine splitB_f ?_
                    refine ⟨rfl, _, rfl, ?_⟩
                    refine splitB_f ?_
                    refine splitB_f ?_
                    obtain ⟨x21, hx22, h⟩ := bind_some h
                    refine ⟨idx_bd hx22, _, (idx_row hx22).trans (TEntry.cells_eq x21), ?_⟩
                    refine splitB_f ?_
                    refine splitB_f ?_
                    refine splitB_f ?_
                    obtain ⟨v23, hv24, h⟩ := bind_some h
                    refine ⟨_, ACall.pure0 (hG12 _ _ _ hv24) _ rfl (fun _ => rfl), ?_⟩
                    rintro _ _ ⟨rfl, rfl⟩
                    refine splitB_f ?_
                    refine splitB_f ?_
                    refine splitB.mk (fun hb25 => ?_) (fun hb25 => ?_)
                    · have hb26 := not_F hb25
                      replace h := F_var hb26 h
                      refine .direct ?_
                      obtain rfl := Option.some.inj h
                      replace h := hk8
                      obtain rfl := Option.some.inj h
                      exact ⟨[], .bool false, [], by decide, (show 0 ≤ 0 by decide), .bool_eq rfl, trivial, rfl, rfl⟩
                    · have hb26 := not_T hb25
                      replace h := T_var hb26 h
                      exact ⟨[(2, .optr 0 0 0 0), (3, .optr 1 0 0 0), (5, .int .i64 (W64 (y9 + 1)))], [.row 0 5 1 26 (fun _ => [.int .i64 a0.fKind, .int .i64 a0.fNum, .str a0.fStr, .int .i64 a0.fNext, sl 8 TEntry.cells a0.fItems]), .row 0 5 1 26 (fun _ => [.int .i64 a1.fKind, .int .i64 a1.fNum, .str a1.fStr, .int .i64 a1.fNext, sl 8 TEntry.cells a1.fItems])], ⟨[0, 1], by decide, (show 0 ≤ 2 by decide), ⟨.optr_eq rfl ⟨_, _, _, _, rfl⟩ ⟨_, _, _, _, rfl⟩ rfl rfl, .optr_eq rfl ⟨_, _, _, _, rfl⟩ ⟨_, _, _, _, rfl⟩ rfl rfl, .int_eq rfl, trivial⟩, ⟨⟨fun h0 => absurd (show 0 < 0 from h0) (by decide), rfl, rfl, rfl, fun _ _ => ⟨.int_eq rfl, .int_eq rfl, .str_eq rfl, .int_eq rfl, .slc_eq rfl (fun _ _ => rfl), trivial⟩⟩, ⟨fun h0 => absurd (show 1 < 0 from h0) (by decide), rfl, rfl, rfl, fun _ _ => ⟨.int_eq rfl, .int_eq rfl, .str_eq rfl, .int_eq rfl, .slc_eq rfl (fun _ _ => rfl), trivial⟩⟩, trivial⟩⟩, ih10 _ _ _ _ h rfl rfl rfl⟩
                · replace h := F_dec hb13 h
                  exact ⟨[], [], ⟨[], by decide, (show 0 ≤ 0 by decide), trivial, trivial⟩, Option.some.inj h, rfl, rfl⟩
              · rintro _ _ ⟨rfl, rfl, rfl⟩
                replace h := hk8
                refine .direct ?_
                obtain rfl := Option.some.inj h
                exact ⟨[], .bool true, [], by decide, (show 0 ≤ 0 by decide), .bool_eq rfl, trivial, rfl, rfl⟩
  · intro F0 F1 hF0 hF1 a0 a1 y9 o h
    exact .mk F0 hF0 F1 hF1 a0 a1 y9 o h
theorem ok19 {a0 : TValue} {a1 : TValue} {r : Bool} (h : m19 a0 a1 = some r) : ACall Tryd.prog 11 [.agg [.int .i64 a0.fKind, .int .i64 a0.fNum, .str a0.fStr, .int .i64 a0.fNext, sl 8 TEntry.cells a0.fItems], .agg [.int .i64 a1.fKind, .int .i64 a1.fNum, .str a1.fStr, .int .i64 a1.fNext, sl 8 TEntry.cells a1.fItems]] [] (fun res h => res = .bool r ∧ h = []) := grp_19.1 a0 a1 r h
end Go.Am
