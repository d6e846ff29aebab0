/- Models of Go functions, and their walks. (Printed by tools/mg.py.) -/
import Derived.Test.YtcipcpjmialcoaaDoorF1
set_option linter.unusedVariables false
set_option linter.unusedSimpArgs false
namespace Go.Am
open Go Go.RowKit Go.Proofs
mutual
def m46 (a0 : TValue) : Option (TValue) :=
 (
 m46_L2 a0 ([] : List TEntry) 0
 : Option ((List TEntry))) >>= fun l1 =>
 some (TValue.mk a0.fKind a0.fNum a0.fStr a0.fNext l1)
partial_fixpoint
def m46_L2 (a0 : TValue) (l5 : List TEntry) (y6 : Int) : Option ((List TEntry)) :=
 (if y6 < (a0.fItems.length : Int) then
 idx a0.fItems y6 >>= fun x11 =>
 m46 x11.fVal >>= fun v13 =>
 lapp 96 l5 ([(TEntry.mk x11.fKey v13)] : List TEntry) >>= fun l15 =>
 m46_L2 a0 l15 (W64 (y6 + 1))
 else
 some l5)
partial_fixpoint
end
def okS31 (a0 : TValue) (r : TValue) : Prop := ACall Tryd.prog 31 [.agg a0.lit] [] (fun res h => res = .agg r.lit ∧ h = [])
inductive m46_L2_I : TValue → (List TEntry) → Int → ((List TEntry)) → Prop
 | mk (G31 : TValue → Option (TValue)) (hG31 : ∀ a0 r, G31 a0 = some r → okS31 a0 r) (F_m46_L2 : TValue → (List TEntry) → Int → Option ((List TEntry))) (hF_m46_L2 : ∀ a0 l5 y6 o, F_m46_L2 a0 l5 y6 = some o → m46_L2_I a0 l5 y6 o) (a0 : TValue) (l5 : List TEntry) (y6 : Int) (o : (List TEntry)) (h : (
 (if y6 < (a0.fItems.length : Int) then
 idx a0.fItems y6 >>= fun x11 =>
 G31 x11.fVal >>= fun v13 =>
 lapp 96 l5 ([(TEntry.mk x11.fKey v13)] : List TEntry) >>= fun l15 =>
 F_m46_L2 a0 l15 (W64 (y6 + 1))
 else
 some l5)
 ) = some o) : m46_L2_I a0 l5 y6 o
theorem m46_L2_ind {motive : TValue → (List TEntry) → Int → ((List TEntry)) → Prop} (step : ∀ (G31 : TValue → Option (TValue)) (hG31 : ∀ a0 r, G31 a0 = some r → okS31 a0 r) (F_m46_L2 : TValue → (List TEntry) → Int → Option ((List TEntry))) (hF_m46_L2 : ∀ a0 l5 y6 o, F_m46_L2 a0 l5 y6 = some o → m46_L2_I a0 l5 y6 o) (a0 : TValue) (l5 : List TEntry) (y6 : Int) (o : (List TEntry)) (h : (
 (if y6 < (a0.fItems.length : Int) then
 idx a0.fItems y6 >>= fun x11 =>
 G31 x11.fVal >>= fun v13 =>
 lapp 96 l5 ([(TEntry.mk x11.fKey v13)] : List TEntry) >>= fun l15 =>
 F_m46_L2 a0 l15 (W64 (y6 + 1))
 else
 some l5)
 ) = some o) (ih : ∀ a0 l5 y6 o, F_m46_L2 a0 l5 y6 = some o → motive a0 l5 y6 o), motive a0 l5 y6 o) : ∀ a0 l5 y6 o, m46_L2_I a0 l5 y6 o → motive a0 l5 y6 o :=
 fun a0 l5 y6 o h => m46_L2_I.rec (motive := fun a0 l5 y6 o _ => motive a0 l5 y6 o) step h
theorem grp_46 : (∀ a0 r, m46 a0 = some r → okS31 a0 r) ∧ (∀ a0 l5 y6 o, m46_L2 a0 l5 y6 = some o → m46_L2_I a0 l5 y6 o) := by
 refine m46.mutual_partial_correctness okS31 m46_L2_I ?_ ?_
 intro _ hI21 a0 r h
 refine vc1 Tryd.func31 ?_
 refine .d (.d ⟨rfl, _, rfl, ⟨rfl, _, fun _ => [.int .i64 a0.fKind, .int .i64 a0.fNum, .str a0.fStr, .int .i64 a0.fNext, sl 8 TEntry.cells a0.fItems], rfl, one_set rfl, (.d ⟨rfl, ⟨rfl, _, fun _ => [.int .i64 a0.fKind, .int .i64 a0.fNum, .str a0.fStr, .int .i64 a0.fNext, .nils], rfl, one_set rfl, ?_⟩⟩)⟩⟩)
 obtain ⟨o2, ho3, hk4⟩ := bd h
 replace h := ho3
 refine .cut (fun σ η => ∃ l1, l1 = o2 ∧ σ = [(2, .optr 0 0 0 0), (3, .optr 1 0 0 0)] ∧ η = [.row 0 5 1 24 (fun _ => [.int .i64 0, .int .i64 0, .str [], .int .i64 0, .nils]), .row 0 5 1 24 (fun _ => [.int .i64 a0.fKind, .int .i64 a0.fNum, .str a0.fStr, .int .i64 a0.fNext, .own 2 0 0 l1.length]), .row 0 8 l1.length 63 (row TEntry.cells l1)]) ?_ ?_
 refine .d ⟨rfl, ⟨rfl, _, rfl, ?_⟩⟩
 have hL20 := hI21 _ _ _ _ h
 refine le (m46_L2_ind (motive := fun p19 l5 y6 o17 => a0 = p19 → o2 = o17 → LoopAt _ _ [(2, .optr 0 0 0 0), (3, .optr 1 0 0 0), (9, sl 8 TEntry.cells a0.fItems), (10, .int .i64 (a0.fItems.length : Int)), (11, .int .i64 y6)] [.row 0 5 1 24 (fun _ => [.int .i64 0, .int .i64 0, .str [], .int .i64 0, .nils]), .row 0 5 1 24 (fun _ => [.int .i64 a0.fKind, .int .i64 a0.fNum, .str a0.fStr, .int .i64 a0.fNext, .own 2 0 0 l5.length]), .row 0 8 l5.length 63 (row TEntry.cells l5)]) ?_ a0 ([] : List TEntry) 0 o2 hL20 rfl rfl) (tk [1, 2, 5] ⟨.p, .p, .l, .i, .i, ⟨⟩⟩ ⟨(nb rfl ⟨.i, .i, .s, .i, .nils, ⟨⟩⟩), (nb rfl ⟨.i, .i, .s, .i, .g, ⟨⟩⟩), gh, ⟨⟩⟩)
 intro _ hG9 _ _ p19 l5 y6 o17 h ih7  hp_p19 hr18
 subst hp_p19
 subst hr18
 refine LoopAt.round (.d (.d (sD h (fun hb10 h => ?_) (fun hb10 h => ?_))))
 refine .d (.d (bk h fun x11 hx12 h => ⟨idx_bd hx12, _, (idx_row hx12).trans (TEntry.cells_eq x11), ⟨rfl, _, fun _ => [.bool x11.fKey.fText, .int .i64 x11.fKey.fNum, .str x11.fKey.fStr, .int .i64 x11.fVal.fKind, .int .i64 x11.fVal.fNum, .str x11.fVal.fStr, .int .i64 x11.fVal.fNext, sl 8 TEntry.cells x11.fVal.fItems], rfl, one_set rfl, (.float [(0, true), (1, true), (2, true), (3, true), (4, true), (5, true), (6, false), (7, true), (8, false), (9, false), (10, true), (11, false)] (by kernel_rfl) ?_)⟩⟩))
 refine ⟨rfl, ⟨rfl, _, rfl, ⟨rfl, ⟨rfl, _, rfl, ⟨rfl, ⟨rfl, _, rfl, (bk h fun v13 hv14 h => (pcP (hG9 _ _ hv14) ⟨rfl, ⟨rfl, ⟨rfl, ⟨rfl, ⟨row TEntry.cells ([(TEntry.mk x11.fKey v13)] : List TEntry), row_lit TEntry.cells ([(TEntry.mk x11.fKey v13)] : List TEntry) rfl (cll_cons (TEntry.cells_eq _) ⟨.same _, .same _, .same _, .same _, .same _, .same _, .same _, .same _, trivial⟩ trivial), ⟨rfl, ⟨rfl, ?_⟩⟩⟩⟩⟩⟩⟩))⟩⟩⟩⟩⟩⟩
 exact bk h fun l15 hx16 h => ⟨rfl, rfl, src_no (l := ([(TEntry.mk x11.fKey v13)] : List TEntry)) shows_all, lapp_bd hx16, l15.length, row TEntry.cells l15, lapp_len hx16, lapp_row hx16 shows_all (src_own shows_all), ⟨rfl, ⟨rfl, _, fun _ => [.int .i64 a0.fKind, .int .i64 a0.fNum, .str a0.fStr, .int .i64 a0.fNext, .own 2 (0 + 1) 0 l15.length], rfl, one_set rfl, (lg (ih7 _ _ _ _ h rfl rfl) (tk [0, 1, 2] ⟨.p, .p, .l, .i, .i, ⟨⟩⟩ ⟨(nb rfl ⟨.i, .i, .s, .i, .nils, ⟨⟩⟩), (nb rfl ⟨.i, .i, .s, .i, .o, ⟨⟩⟩), nw, ⟨⟩⟩))⟩⟩⟩
 exact ct ⟨_, si h, rfl, rfl⟩ (tk [0, 1, 2] ⟨.p, .p, ⟨⟩⟩ ⟨(nb rfl ⟨.i, .i, .s, .i, .nils, ⟨⟩⟩), (nb rfl ⟨.i, .i, .s, .i, .o, ⟨⟩⟩), nw, ⟨⟩⟩)
 rintro _ _ ⟨l1, rfl, rfl, rfl⟩
 replace h := hk4
 refine .d ⟨rfl, _, rfl, ⟨rfl, _, fun _ => [.int .i64 a0.fKind, .int .i64 a0.fNum, .str a0.fStr, .int .i64 a0.fNext, .own 2 0 0 l1.length], rfl, one_set rfl, ?_⟩⟩
 obtain rfl := si h
 exact ⟨rfl, _, rfl, (en [] ⟨rfl, rfl⟩ (.agg_l ⟨.i, .i, .s, .i, .r, ⟨⟩⟩) ⟨⟩)⟩
 intro F0 F1 hF0 hF1 a0 l5 y6 o h
 exact .mk F0 hF0 F1 hF1 a0 l5 y6 o h
theorem ok46 {a0 : TValue} {r : TValue} (h : m46 a0 = some r) : ACall Tryd.prog 31 [.agg a0.lit] [] (fun res h => res = .agg r.lit ∧ h = []) := grp_46.1 a0 r h
mutual
def m19 (a0 : TValue) (a1 : TValue) : Option (Bool) :=
 (if a0.fKind = a1.fKind then
 (if a0.fNum = a1.fNum then
 (if a0.fStr = a1.fStr then
 (if a0.fNext = a1.fNext then
 (if (a0.fItems.length : Int) = (a1.fItems.length : Int) then
 ((
 m19_L2 a0 a1 0
 : Option ((Unit) ⊕ Bool)) >>= fun o6 => match o6 with
 | .inr r => some r
 | .inl _ =>
 some true
 )
 else
 some false)
 else
 some false)
 else
 some false)
 else
 some false)
 else
 some false)
partial_fixpoint
def m19_L2 (a0 : TValue) (a1 : TValue) (y9 : Int) : Option ((Unit) ⊕ Bool) :=
 (if y9 < (a0.fItems.length : Int) then
 idx a0.fItems y9 >>= fun x14 =>
 idx a1.fItems y9 >>= fun x16 =>
 (if x14.fKey = x16.fKey then
 idx a0.fItems y9 >>= fun x19 =>
 idx a1.fItems y9 >>= fun x21 =>
 m19 x19.fVal x21.fVal >>= fun v23 =>
 (if v23 = true then
 m19_L2 a0 a1 (W64 (y9 + 1))
 else
 some (.inr false))
 else
 some (.inr false))
 else
 some (.inl ()))
partial_fixpoint
end
def okS13 (a0 : TValue) (a1 : TValue) (r : Bool) : Prop := ACall Tryd.prog 13 [.agg a0.lit, .agg a1.lit] [] (fun res h => res = .bool r ∧ h = [])
inductive m19_L2_I : TValue → TValue → Int → ((Unit) ⊕ Bool) → Prop
 | mk (G13 : TValue → TValue → Option (Bool)) (hG13 : ∀ a0 a1 r, G13 a0 a1 = some r → okS13 a0 a1 r) (F_m19_L2 : TValue → TValue → Int → Option ((Unit) ⊕ Bool)) (hF_m19_L2 : ∀ a0 a1 y9 o, F_m19_L2 a0 a1 y9 = some o → m19_L2_I a0 a1 y9 o) (a0 : TValue) (a1 : TValue) (y9 : Int) (o : (Unit) ⊕ Bool) (h : (
 (if y9 < (a0.fItems.length : Int) then
 idx a0.fItems y9 >>= fun x14 =>
 idx a1.fItems y9 >>= fun x16 =>
 (if x14.fKey = x16.fKey then
 idx a0.fItems y9 >>= fun x19 =>
 idx a1.fItems y9 >>= fun x21 =>
 G13 x19.fVal x21.fVal >>= fun v23 =>
 (if v23 = true then
 F_m19_L2 a0 a1 (W64 (y9 + 1))
 else
 some (.inr false))
 else
 some (.inr false))
 else
 some (.inl ()))
 ) = some o) : m19_L2_I a0 a1 y9 o
theorem m19_L2_ind {motive : TValue → TValue → Int → ((Unit) ⊕ Bool) → Prop} (step : ∀ (G13 : TValue → TValue → Option (Bool)) (hG13 : ∀ a0 a1 r, G13 a0 a1 = some r → okS13 a0 a1 r) (F_m19_L2 : TValue → TValue → Int → Option ((Unit) ⊕ Bool)) (hF_m19_L2 : ∀ a0 a1 y9 o, F_m19_L2 a0 a1 y9 = some o → m19_L2_I a0 a1 y9 o) (a0 : TValue) (a1 : TValue) (y9 : Int) (o : (Unit) ⊕ Bool) (h : (
 (if y9 < (a0.fItems.length : Int) then
 idx a0.fItems y9 >>= fun x14 =>
 idx a1.fItems y9 >>= fun x16 =>
 (if x14.fKey = x16.fKey then
 idx a0.fItems y9 >>= fun x19 =>
 idx a1.fItems y9 >>= fun x21 =>
 G13 x19.fVal x21.fVal >>= fun v23 =>
 (if v23 = true then
 F_m19_L2 a0 a1 (W64 (y9 + 1))
 else
 some (.inr false))
 else
 some (.inr false))
 else
 some (.inl ()))
 ) = some o) (ih : ∀ a0 a1 y9 o, F_m19_L2 a0 a1 y9 = some o → motive a0 a1 y9 o), motive a0 a1 y9 o) : ∀ a0 a1 y9 o, m19_L2_I a0 a1 y9 o → motive a0 a1 y9 o :=
 fun a0 a1 y9 o h => m19_L2_I.rec (motive := fun a0 a1 y9 o _ => motive a0 a1 y9 o) step h
theorem grp_19 : (∀ a0 a1 r, m19 a0 a1 = some r → okS13 a0 a1 r) ∧ (∀ a0 a1 y9 o, m19_L2 a0 a1 y9 = some o → m19_L2_I a0 a1 y9 o) := by
 refine m19.mutual_partial_correctness okS13 m19_L2_I ?_ ?_
 intro _ hI31 a0 a1 r h
 refine vc1 Tryd.func13 ?_
 refine .d (.d (.d ⟨rfl, ⟨rfl, _, rfl, ⟨rfl, ⟨rfl, _, rfl, (sN h (fun hb1 h => ?_) (fun hb1 h => ?_))⟩⟩⟩⟩))
 refine .t (.t (.t (.t (.t (.t (.t (.t (.t (.t (.t (.t (.t (.t (.t ?_))))))))))))))
 exact .t (.t (.t (.t (.t (.t (.t (.t (.t (.t (.t (.d (eB h))))))))))))
 refine ⟨rfl, (.f ⟨rfl, _, rfl, (.f ⟨rfl, (.f ⟨rfl, _, rfl, (.f (.f (sN h (fun hb2 h => ?_) (fun hb2 h => ?_))))⟩)⟩)⟩)⟩
 refine .t (.t (.t (.t (.t (.t (.t (.t (.t (.t (.t (.t (.t (.t (.t ?_))))))))))))))
 exact .t (.t (.t (.t (.t (.d (eB h))))))
 refine ⟨rfl, (.f ⟨rfl, _, rfl, (.f ⟨rfl, (.f ⟨rfl, _, rfl, (.f (.f (sEn h (fun hb3 h => ?_) (fun hb3 h => ?_))))⟩)⟩)⟩)⟩
 refine .t (.t (.t (.t (.t (.t (.t (.t (.t (.t (.t (.t (.t (.t (.d ?_))))))))))))))
 exact eB h
 refine ⟨rfl, (.f ⟨rfl, _, rfl, (.f ⟨rfl, (.f ⟨rfl, _, rfl, (.f (.f (sN h (fun hb4 h => ?_) (fun hb4 h => ?_))))⟩)⟩)⟩)⟩
 exact .t (.t (.t (.t (.t (.t (.t (.t (.d (eB h)))))))))
 refine ⟨rfl, (.f ⟨rfl, _, rfl, (.f (.f ⟨rfl, (.f ⟨rfl, _, rfl, (.f (.f (.f (sN h (fun hb5 h => ?_) (fun hb5 h => ?_)))))⟩)⟩))⟩)⟩
 exact .d (eB h)
 obtain ⟨o6, ho7, hk8⟩ := bd h
 replace h := ho7
 refine .cut (fun σ η => .inl () = o6 ∧ σ = [] ∧ η = []) ?_ ?_
 refine .d ?_
 have hL30 := hI31 _ _ _ _ h
 refine le (m19_L2_ind (motive := fun p28 p29 y9 o26 => a0 = p28 → a1 = p29 → o6 = o26 → LoopAt _ _ [(2, .optr 0 0 0 0), (3, .optr 1 0 0 0), (5, .int .i64 y9)] [.row 0 5 1 24 (fun _ => a0.lit), .row 0 5 1 24 (fun _ => a1.lit)]) ?_ a0 a1 0 o6 hL30 rfl rfl rfl) (tk [0, 1] ⟨.p, .p, .i, ⟨⟩⟩ ⟨(nbp rfl), (nbp rfl), ⟨⟩⟩)
 intro _ hG12 _ _ p28 p29 y9 o26 h ih10  hp_p28 hp_p29 hr27
 subst hp_p28
 subst hp_p29
 subst hr27
 refine LoopAt.round (.d (.d ⟨rfl, ⟨rfl, _, rfl, (sD h (fun hb13 h => ?_) (fun hb13 h => ?_))⟩⟩))
 refine .d (.d (.float [(0, true), (1, true), (2, true), (3, true), (4, true), (5, true), (6, true), (7, true), (8, true), (9, true), (10, true), (11, true), (12, true), (13, true), (14, true), (15, true), (16, true), (17, true), (18, true), (19, true), (20, true), (21, true), (22, true), (23, true), (24, true), (25, true), (26, false), (27, true), (28, true)] (by kernel_rfl) ?_))
 refine ⟨rfl, ⟨rfl, _, rfl, (bk h fun x14 hx15 h => ⟨idx_bd hx15, _, (idx_row hx15).trans (TEntry.cells_eq x14), ⟨rfl, ⟨rfl, _, rfl, (bk h fun x16 hx17 h => ⟨idx_bd hx17, _, (idx_row hx17).trans (TEntry.cells_eq x16), ⟨_, TKey.eq_cells x14.fKey x16.fKey, (sDn h (fun hb18 h => ?_) (fun hb18 h => ?_))⟩⟩)⟩⟩⟩)⟩⟩
 refine .t (.t (.t (.t (.t (.t (.t (.t (.t (.t (.t (.t (.t (.t (.t ?_))))))))))))))
 refine .d ?_
 obtain rfl := si h
 replace h := hk8
 exact eB h
 refine ⟨rfl, (.f ⟨rfl, _, rfl, (.f (.f (bk h fun x19 hx20 h => ⟨idx_bd hx20, _, (idx_row hx20).trans (TEntry.cells_eq x19), (.f (.f (.f ⟨rfl, (.f ⟨rfl, _, rfl, (.f (.f ?_))⟩)⟩)))⟩)))⟩)⟩
 refine bk h fun x21 hx22 h => ⟨idx_bd hx22, _, (idx_row hx22).trans (TEntry.cells_eq x21), (.f (.f (.f (bk h fun v23 hv24 h => (pcP (hG12 _ _ _ hv24) (.f (.f (sVn h (fun hb25 h => ?_) (fun hb25 h => ?_)))))))))⟩
 refine .d ?_
 obtain rfl := si h
 replace h := hk8
 exact eB h
 exact lg (ih10 _ _ _ _ h rfl rfl rfl) (tk [0, 1] ⟨.p, .p, .i, ⟨⟩⟩ ⟨(nbp rfl), (nbp rfl), ⟨⟩⟩)
 exact ct ⟨si h, rfl, rfl⟩ (tk [] ⟨⟩ ⟨⟩)
 rintro _ _ ⟨rfl, rfl, rfl⟩
 replace h := hk8
 exact .d (eB h)
 intro F0 F1 hF0 hF1 a0 a1 y9 o h
 exact .mk F0 hF0 F1 hF1 a0 a1 y9 o h
theorem ok19 {a0 : TValue} {a1 : TValue} {r : Bool} (h : m19 a0 a1 = some r) : ACall Tryd.prog 13 [.agg a0.lit, .agg a1.lit] [] (fun res h => res = .bool r ∧ h = []) := grp_19.1 a0 a1 r h
mutual
def m51 (a0 : TValue) (a1 : Int) : Option (Int) :=
 (
 m51_L2 a0 a1 1 0
 : Option (Int)) >>= fun y1 =>
 some y1
partial_fixpoint
def m51_L2 (a0 : TValue) (a1 : Int) (y5 : Int) (y6 : Int) : Option (Int) :=
 (if a0.fKind = 4 then
 (if y6 < (a0.fItems.length : Int) then
 (if y5 ≤ a1 then
 idx a0.fItems y6 >>= fun x13 =>
 m51 x13.fVal (W64 (a1 - y5)) >>= fun v15 =>
 m51_L2 a0 a1 (W64 (y5 + v15)) (W64 (y6 + 1))
 else
 some y5)
 else
 some y5)
 else
 some y5)
partial_fixpoint
end
def okS34 (a0 : TValue) (a1 : Int) (r : Int) : Prop := ACall Tryd.prog 34 [.agg a0.lit, .int .i64 a1] [] (fun res h => res = .int .i64 r ∧ h = [])
inductive m51_L2_I : TValue → Int → Int → Int → (Int) → Prop
 | mk (G34 : TValue → Int → Option (Int)) (hG34 : ∀ a0 a1 r, G34 a0 a1 = some r → okS34 a0 a1 r) (F_m51_L2 : TValue → Int → Int → Int → Option (Int)) (hF_m51_L2 : ∀ a0 a1 y5 y6 o, F_m51_L2 a0 a1 y5 y6 = some o → m51_L2_I a0 a1 y5 y6 o) (a0 : TValue) (a1 : Int) (y5 : Int) (y6 : Int) (o : Int) (h : (
 (if a0.fKind = 4 then
 (if y6 < (a0.fItems.length : Int) then
 (if y5 ≤ a1 then
 idx a0.fItems y6 >>= fun x13 =>
 G34 x13.fVal (W64 (a1 - y5)) >>= fun v15 =>
 F_m51_L2 a0 a1 (W64 (y5 + v15)) (W64 (y6 + 1))
 else
 some y5)
 else
 some y5)
 else
 some y5)
 ) = some o) : m51_L2_I a0 a1 y5 y6 o
theorem m51_L2_ind {motive : TValue → Int → Int → Int → (Int) → Prop} (step : ∀ (G34 : TValue → Int → Option (Int)) (hG34 : ∀ a0 a1 r, G34 a0 a1 = some r → okS34 a0 a1 r) (F_m51_L2 : TValue → Int → Int → Int → Option (Int)) (hF_m51_L2 : ∀ a0 a1 y5 y6 o, F_m51_L2 a0 a1 y5 y6 = some o → m51_L2_I a0 a1 y5 y6 o) (a0 : TValue) (a1 : Int) (y5 : Int) (y6 : Int) (o : Int) (h : (
 (if a0.fKind = 4 then
 (if y6 < (a0.fItems.length : Int) then
 (if y5 ≤ a1 then
 idx a0.fItems y6 >>= fun x13 =>
 G34 x13.fVal (W64 (a1 - y5)) >>= fun v15 =>
 F_m51_L2 a0 a1 (W64 (y5 + v15)) (W64 (y6 + 1))
 else
 some y5)
 else
 some y5)
 else
 some y5)
 ) = some o) (ih : ∀ a0 a1 y5 y6 o, F_m51_L2 a0 a1 y5 y6 = some o → motive a0 a1 y5 y6 o), motive a0 a1 y5 y6 o) : ∀ a0 a1 y5 y6 o, m51_L2_I a0 a1 y5 y6 o → motive a0 a1 y5 y6 o :=
 fun a0 a1 y5 y6 o h => m51_L2_I.rec (motive := fun a0 a1 y5 y6 o _ => motive a0 a1 y5 y6 o) step h
theorem grp_51 : (∀ a0 a1 r, m51 a0 a1 = some r → okS34 a0 a1 r) ∧ (∀ a0 a1 y5 y6 o, m51_L2 a0 a1 y5 y6 = some o → m51_L2_I a0 a1 y5 y6 o) := by
 refine m51.mutual_partial_correctness okS34 m51_L2_I ?_ ?_
 intro _ hI22 a0 a1 r h
 refine vc1 Tryd.func34 ?_
 refine .d (.d ?_)
 obtain ⟨o2, ho3, hk4⟩ := bd h
 replace h := ho3
 refine .cut (fun σ η => ∃ y1, y1 = o2 ∧ σ = [(5, .int .i64 y1)] ∧ η = []) ?_ ?_
 refine .d ?_
 have hL21 := hI22 _ _ _ _ _ h
 refine le (m51_L2_ind (motive := fun p19 p20 y5 y6 o17 => a0 = p19 → a1 = p20 → o2 = o17 → LoopAt _ _ [(1, .int .i64 a1), (2, .optr 0 0 0 0), (5, .int .i64 y5), (6, .int .i64 y6)] [.row 0 5 1 24 (fun _ => a0.lit)]) ?_ a0 a1 1 0 o2 hL21 rfl rfl rfl) (tk [0] ⟨.i, .p, .i, .i, ⟨⟩⟩ ⟨(nbp rfl), ⟨⟩⟩)
 intro _ hG9 _ _ p19 p20 y5 y6 o17 h ih7  hp_p19 hp_p20 hr18
 subst hp_p19
 subst hp_p20
 subst hr18
 refine LoopAt.round (.d (.d ⟨rfl, ⟨rfl, _, rfl, (sE h (fun hb10 h => ?_) (fun hb10 h => ?_))⟩⟩))
 refine .t ⟨rfl, (.t ⟨rfl, _, rfl, (.t (.t (.t (sD h (fun hb11 h => ?_) (fun hb11 h => ?_)))))⟩)⟩
 refine .t (.t (.t (sD h (fun hb12 h => ?_) (fun hb12 h => ?_))))
 exact .d ⟨rfl, ⟨rfl, _, rfl, (bk h fun x13 hx14 h => ⟨idx_bd hx14, _, (idx_row hx14).trans (TEntry.cells_eq x13), (bk h fun v15 hv16 h => (pcP (hG9 _ _ _ hv16) (lg (ih7 _ _ _ _ _ h rfl rfl rfl) (tk [0] ⟨.i, .p, .i, .i, ⟨⟩⟩ ⟨(nbp rfl), ⟨⟩⟩))))⟩)⟩⟩
 exact ct ⟨_, si h, rfl, rfl⟩ (tk [] ⟨.i, ⟨⟩⟩ ⟨⟩)
 exact .f (.f (.f (.f (ct ⟨_, si h, rfl, rfl⟩ (tk [] ⟨.i, ⟨⟩⟩ ⟨⟩)))))
 exact .f (.f (.f (.f (.f (.f (.f (.f (.f (.f (ct ⟨_, si h, rfl, rfl⟩ (tk [] ⟨.i, ⟨⟩⟩ ⟨⟩)))))))))))
 rintro _ _ ⟨y1, rfl, rfl, rfl⟩
 replace h := hk4
 exact .d (eI h)
 intro F0 F1 hF0 hF1 a0 a1 y5 y6 o h
 exact .mk F0 hF0 F1 hF1 a0 a1 y5 y6 o h
theorem ok51 {a0 : TValue} {a1 : Int} {r : Int} (h : m51 a0 a1 = some r) : ACall Tryd.prog 34 [.agg a0.lit, .int .i64 a1] [] (fun res h => res = .int .i64 r ∧ h = []) := grp_51.1 a0 a1 r h
mutual
def m_i_Weight (a0 : TValue) : Option (Int) :=
 (
 (if a0.fKind = 4 then
 m_i_Weight_L2 a0 1 0
 else
 some 1)
 : Option (Int)) >>= fun y1 =>
 some y1
partial_fixpoint
def m_i_Weight_L2 (a0 : TValue) (y6 : Int) (y7 : Int) : Option (Int) :=
 (if y7 < (a0.fItems.length : Int) then
 idx a0.fItems y7 >>= fun x12 =>
 m_i_Weight x12.fVal >>= fun v14 =>
 m_i_Weight_L2 a0 (W64 (y6 + v14)) (W64 (y7 + 1))
 else
 some y6)
partial_fixpoint
end
def okS33 (a0 : TValue) (r : Int) : Prop := ACall Tryd.prog 33 [.agg a0.lit] [] (fun res h => res = .int .i64 r ∧ h = [])
inductive m_i_Weight_L2_I : TValue → Int → Int → (Int) → Prop
 | mk (G33 : TValue → Option (Int)) (hG33 : ∀ a0 r, G33 a0 = some r → okS33 a0 r) (F_m_i_Weight_L2 : TValue → Int → Int → Option (Int)) (hF_m_i_Weight_L2 : ∀ a0 y6 y7 o, F_m_i_Weight_L2 a0 y6 y7 = some o → m_i_Weight_L2_I a0 y6 y7 o) (a0 : TValue) (y6 : Int) (y7 : Int) (o : Int) (h : (
 (if y7 < (a0.fItems.length : Int) then
 idx a0.fItems y7 >>= fun x12 =>
 G33 x12.fVal >>= fun v14 =>
 F_m_i_Weight_L2 a0 (W64 (y6 + v14)) (W64 (y7 + 1))
 else
 some y6)
 ) = some o) : m_i_Weight_L2_I a0 y6 y7 o
theorem m_i_Weight_L2_ind {motive : TValue → Int → Int → (Int) → Prop} (step : ∀ (G33 : TValue → Option (Int)) (hG33 : ∀ a0 r, G33 a0 = some r → okS33 a0 r) (F_m_i_Weight_L2 : TValue → Int → Int → Option (Int)) (hF_m_i_Weight_L2 : ∀ a0 y6 y7 o, F_m_i_Weight_L2 a0 y6 y7 = some o → m_i_Weight_L2_I a0 y6 y7 o) (a0 : TValue) (y6 : Int) (y7 : Int) (o : Int) (h : (
 (if y7 < (a0.fItems.length : Int) then
 idx a0.fItems y7 >>= fun x12 =>
 G33 x12.fVal >>= fun v14 =>
 F_m_i_Weight_L2 a0 (W64 (y6 + v14)) (W64 (y7 + 1))
 else
 some y6)
 ) = some o) (ih : ∀ a0 y6 y7 o, F_m_i_Weight_L2 a0 y6 y7 = some o → motive a0 y6 y7 o), motive a0 y6 y7 o) : ∀ a0 y6 y7 o, m_i_Weight_L2_I a0 y6 y7 o → motive a0 y6 y7 o :=
 fun a0 y6 y7 o h => m_i_Weight_L2_I.rec (motive := fun a0 y6 y7 o _ => motive a0 y6 y7 o) step h
theorem grp__i_Weight : (∀ a0 r, m_i_Weight a0 = some r → okS33 a0 r) ∧ (∀ a0 y6 y7 o, m_i_Weight_L2 a0 y6 y7 = some o → m_i_Weight_L2_I a0 y6 y7 o) := by
 refine m_i_Weight.mutual_partial_correctness okS33 m_i_Weight_L2_I ?_ ?_
 intro _ hI20 a0 r h
 refine vc1 Tryd.func33 ?_
 refine .d (.d ?_)
 obtain ⟨o2, ho3, hk4⟩ := bd h
 replace h := ho3
 refine .cut (fun σ η => ∃ y1, y1 = o2 ∧ σ = [(3, .int .i64 y1)] ∧ η = []) ?_ ?_
 refine .d ⟨rfl, ⟨rfl, _, rfl, (sE h (fun hb5 h => ?_) (fun hb5 h => ?_))⟩⟩
 refine .d ⟨rfl, ⟨rfl, _, rfl, ?_⟩⟩
 have hL19 := hI20 _ _ _ _ h
 refine le (m_i_Weight_L2_ind (motive := fun p18 y6 y7 o16 => a0 = p18 → o2 = o16 → LoopAt _ _ [(3, .int .i64 y6), (10, sl 8 TEntry.cells a0.fItems), (11, .int .i64 (a0.fItems.length : Int)), (12, .int .i64 y7)] []) ?_ a0 1 0 o2 hL19 rfl rfl) (tk [] ⟨.i, .l, .i, .i, ⟨⟩⟩ ⟨⟩)
 intro _ hG10 _ _ p18 y6 y7 o16 h ih8  hp_p18 hr17
 subst hp_p18
 subst hr17
 refine LoopAt.round (.d (.d (sD h (fun hb11 h => ?_) (fun hb11 h => ?_))))
 exact .d (.d (bk h fun x12 hx13 h => ⟨idx_bd hx13, _, (idx_row hx13).trans (TEntry.cells_eq x12), ⟨rfl, _, fun _ => [.bool x12.fKey.fText, .int .i64 x12.fKey.fNum, .str x12.fKey.fStr, .int .i64 x12.fVal.fKind, .int .i64 x12.fVal.fNum, .str x12.fVal.fStr, .int .i64 x12.fVal.fNext, sl 8 TEntry.cells x12.fVal.fItems], rfl, one_set rfl, ⟨rfl, ⟨rfl, _, rfl, (bk h fun v14 hv15 h => (pcP (hG10 _ _ hv15) (lg (ih8 _ _ _ _ h rfl rfl) (tk [] ⟨.i, .l, .i, .i, ⟨⟩⟩ ⟨⟩))))⟩⟩⟩⟩))
 exact ct ⟨_, si h, rfl, rfl⟩ (tk [] ⟨.i, ⟨⟩⟩ ⟨⟩)
 exact ct ⟨_, si h, rfl, rfl⟩ (tk [] ⟨.i, ⟨⟩⟩ ⟨⟩)
 rintro _ _ ⟨y1, rfl, rfl, rfl⟩
 replace h := hk4
 exact .d (eI h)
 intro F0 F1 hF0 hF1 a0 y6 y7 o h
 exact .mk F0 hF0 F1 hF1 a0 y6 y7 o h
theorem ok_i_Weight {a0 : TValue} {r : Int} (h : m_i_Weight a0 = some r) : ACall Tryd.prog 33 [.agg a0.lit] [] (fun res h => res = .int .i64 r ∧ h = []) := grp__i_Weight.1 a0 r h
def m94_L2 (s6 : Str) (y7 : Int) : Option (Str) :=
 (if y7 = 0 then
 some s6
 else
 (if (y7.tmod 10) < 0 then
 scat ([UInt8.ofNat (IntKind.u8.wrap (W64 (48 + (W64 (0 - (y7.tmod 10)))))).toNat] : List UInt8) s6 >>= fun s12 =>
 m94_L2 s12 (W64 (y7.tdiv 10))
 else
 scat ([UInt8.ofNat (IntKind.u8.wrap (W64 (48 + (y7.tmod 10)))).toNat] : List UInt8) s6 >>= fun s14 =>
 m94_L2 s14 (W64 (y7.tdiv 10))))
partial_fixpoint
def m94 (a0 : Int) : Option (Str) :=
 (if a0 = 0 then
 some [48]
 else
 (
 m94_L2 [] a0
 : Option (Str)) >>= fun s2 =>
 (if a0 < 0 then
 scat [45] s2 >>= fun s19 =>
 some s19
 else
 some s2))
theorem ok94 {a0 : Int} {r : Str} (h : m94 a0 = some r) : ACall Tryd.prog 88 [.int .i64 a0] [] (fun res h => res = .str r ∧ h = []) := by
 refine vc1 Tryd.func88 ?_
 unfold m94 at h
 refine .d (.d (.d (sE h (fun hb1 h => ?_) (fun hb1 h => ?_))))
 exact .d (eS h)
 refine .d ?_
 obtain ⟨o3, ho4, hk5⟩ := bd h
 replace h := ho4
 refine .cut (fun σ η => ∃ s2, s2 = o3 ∧ σ = [(0, .int .i64 a0), (3, .str s2)] ∧ η = []) ?_ ?_
 refine .d ?_
 refine le (m94_L2.partial_correctness  (motive := fun s6 y7 o16 => o3 = o16 → LoopAt _ _ [(0, .int .i64 a0), (3, .str s6), (4, .int .i64 y7)] []) ?_ [] a0 o3 h rfl) (tk [] ⟨.i, .s, .i, ⟨⟩⟩ ⟨⟩)
 intro F9 ih8 s6 y7 o16 h hr17
 subst hr17
 refine LoopAt.round (.d (.d (sN h (fun hb10 h => ?_) (fun hb10 h => ?_))))
 refine .d (.d ⟨by decide, (.d (.d (sD h (fun hb11 h => ?_) (fun hb11 h => ?_))))⟩)
 exact ⟨row cB ([UInt8.ofNat (IntKind.u8.wrap (W64 (48 + (W64 (0 - (y7.tmod 10)))))).toNat] : List UInt8), row_lit cB ([UInt8.ofNat (IntKind.u8.wrap (W64 (48 + (W64 (0 - (y7.tmod 10)))))).toNat] : List UInt8) rfl (cll_cons (cB_wrap _) ⟨.same _, trivial⟩ trivial), ⟨rfl, ([UInt8.ofNat (IntKind.u8.wrap (W64 (48 + (W64 (0 - (y7.tmod 10)))))).toNat] : List UInt8), rfl, bytes_shows shows_all rfl, (bk h fun s12 hx13 h => ⟨scat_bd hx13, s12, scat_at hx13, ⟨by decide, (lg (ih8 _ _ _ h rfl) (tk [] ⟨.i, .s, .i, ⟨⟩⟩ ⟨⟩))⟩⟩)⟩⟩
 exact ⟨row cB ([UInt8.ofNat (IntKind.u8.wrap (W64 (48 + (y7.tmod 10)))).toNat] : List UInt8), row_lit cB ([UInt8.ofNat (IntKind.u8.wrap (W64 (48 + (y7.tmod 10)))).toNat] : List UInt8) rfl (cll_cons (cB_wrap _) ⟨.same _, trivial⟩ trivial), ⟨rfl, ([UInt8.ofNat (IntKind.u8.wrap (W64 (48 + (y7.tmod 10)))).toNat] : List UInt8), rfl, bytes_shows shows_all rfl, (bk h fun s14 hx15 h => ⟨scat_bd hx15, s14, scat_at hx15, ⟨by decide, (lg (ih8 _ _ _ h rfl) (tk [] ⟨.i, .s, .i, ⟨⟩⟩ ⟨⟩))⟩⟩)⟩⟩
 exact ct ⟨_, si h, rfl, rfl⟩ (tk [] ⟨.i, .s, ⟨⟩⟩ ⟨⟩)
 rintro _ _ ⟨s2, rfl, rfl, rfl⟩
 replace h := hk5
 refine .d (.d (sD h (fun hb18 h => ?_) (fun hb18 h => ?_)))
 exact .d (bk h fun s19 hx20 h => ⟨scat_bd hx20, s19, scat_at hx20, (eS h)⟩)
 exact .d (eS h)
def m61_L2 (a0 : Str) (y8 : Int) (y9 : Int) : Option ((Int) ⊕ (Int × Bool)) :=
 (if y9 < (a0.length : Int) then
 sidx a0 y9 >>= fun c13 =>
 m53 (W64 ((c13.toNat : Int))) 48 57 >>= fun v15 =>
 (if v15 = true then
 sidx a0 y9 >>= fun c18 =>
 m61_L2 a0 (W64 ((W64 (10 * y8)) + (W64 (IntKind.u8.wrap ((c18.toNat : Int) - 48))))) (W64 (y9 + 1))
 else
 some (.inr (0, false)))
 else
 some (.inl y8))
partial_fixpoint
def m61 (a0 : Str) : Option (Int × Bool) :=
 m53 (a0.length : Int) 1 13 >>= fun v1 =>
 (if v1 = true then
 ((
 m61_L2 a0 0 0
 : Option ((Int) ⊕ (Int × Bool))) >>= fun o5 => match o5 with
 | .inr r => some r
 | .inl y4 =>
 (if y4 > 1000000000000 then
 some (0, false)
 else
 m94 y4 >>= fun v23 =>
 (if v23 = a0 then
 some (y4, true)
 else
 some (0, false)))
 )
 else
 some (0, false))
theorem ok61 {a0 : Str} {r : Int × Bool} (h : m61 a0 = some r) : ACall Tryd.prog 81 [.str a0] [] (fun res h => res = .tup [.int .i64 r.1, .bool r.2] ∧ h = []) := by
 refine vc1 Tryd.func81 ?_
 unfold m61 at h
 refine .d (.d (.d (bk h fun v1 hv2 h => (pcP (ok53 hv2) (sVn h (fun hb3 h => ?_) (fun hb3 h => ?_))))))
 refine .d ?_
 obtain rfl := si h
 exact en [] ⟨rfl, rfl⟩ (.tup_l ⟨.i, .b, ⟨⟩⟩) ⟨⟩
 refine .d ?_
 obtain ⟨o5, ho6, hk7⟩ := bd h
 replace h := ho6
 refine .cut (fun σ η => ∃ y4, .inl y4 = o5 ∧ σ = [(0, .str a0), (4, .int .i64 y4)] ∧ η = []) ?_ ?_
 refine .d ?_
 refine le (m61_L2.partial_correctness a0 (motive := fun y8 y9 o20 => o5 = o20 → LoopAt _ _ [(0, .str a0), (4, .int .i64 y8), (5, .int .i64 y9)] []) ?_ 0 0 o5 h rfl) (tk [] ⟨.s, .i, .i, ⟨⟩⟩ ⟨⟩)
 intro F11 ih10 y8 y9 o20 h hr21
 subst hr21
 refine LoopAt.round (.d (.d (sD h (fun hb12 h => ?_) (fun hb12 h => ?_))))
 refine .d (.d (.d (bk h fun c13 hx14 h => ⟨sidx_bd hx14, c13, sidx_at hx14, (bk h fun v15 hv16 h => (pcP (ok53 hv16) (sVn h (fun hb17 h => ?_) (fun hb17 h => ?_))))⟩)))
 refine .d ?_
 obtain rfl := si h
 replace h := hk7
 obtain rfl := si h
 exact en [] ⟨rfl, rfl⟩ (.tup_l ⟨.i, .b, ⟨⟩⟩) ⟨⟩
 exact bk h fun c18 hx19 h => ⟨sidx_bd hx19, c18, sidx_at hx19, (lg (ih10 _ _ _ h rfl) (tk [] ⟨.s, .i, .i, ⟨⟩⟩ ⟨⟩))⟩
 exact ct ⟨_, si h, rfl, rfl⟩ (tk [] ⟨.s, .i, ⟨⟩⟩ ⟨⟩)
 rintro _ _ ⟨y4, rfl, rfl, rfl⟩
 replace h := hk7
 refine .d (.d (sD h (fun hb22 h => ?_) (fun hb22 h => ?_)))
 refine .t (.t (.t (.t (.t (.d ?_)))))
 obtain rfl := si h
 exact en [] ⟨rfl, rfl⟩ (.tup_l ⟨.i, .b, ⟨⟩⟩) ⟨⟩
 refine .f (bk h fun v23 hv24 h => (pcP (ok94 hv24) (.f (.f (.f (sEn h (fun hb25 h => ?_) (fun hb25 h => ?_)))))))
 refine .d ?_
 obtain rfl := si h
 exact en [] ⟨rfl, rfl⟩ (.tup_l ⟨.i, .b, ⟨⟩⟩) ⟨⟩
 refine .d ?_
 obtain rfl := si h
 exact en [] ⟨rfl, rfl⟩ (.tup_l ⟨.i, .b, ⟨⟩⟩) ⟨⟩
def m54 (a0 : Str) : Option (Int × Bool) :=
 (
 (if (a0.length : Int) > 0 then
 sidx a0 0 >>= fun c6 =>
 some ((c6.toNat : Int) == 45)
 else
 some false)
 : Option (Bool)) >>= fun b1 =>
 (
 (if b1 = true then
 sfrom a0 1 >>= fun s13 =>
 some s13
 else
 some a0)
 : Option (Str)) >>= fun s8 =>
 m61 s8 >>= fun (v15, v16) =>
 (if v16 = true then
 (if v15 > 1000000000 then
 some (0, false)
 else
 (if b1 = true then
 (if v15 = 0 then
 some (0, false)
 else
 some (W64 (0 - v15), true))
 else
 some (v15, true)))
 else
 some (0, false))
theorem ok54 {a0 : Str} {r : Int × Bool} (h : m54 a0 = some r) : ACall Tryd.prog 66 [.str a0] [] (fun res h => res = .tup [.int .i64 r.1, .bool r.2] ∧ h = []) := by
 refine vc1 Tryd.func66 ?_
 unfold m54 at h
 refine .d ?_
 obtain ⟨o2, ho3, hk4⟩ := bd h
 replace h := ho3
 refine .cut (fun σ η => ∃ b1, b1 = o2 ∧ σ = [(0, .str a0), (4, .bool b1)] ∧ η = []) ?_ ?_
 refine sD h (fun hb5 h => ?_) (fun hb5 h => ?_)
 exact .t (bk h fun c6 hx7 h => ⟨sidx_bd hx7, c6, sidx_at hx7, (.t (.t (ct ⟨_, si h, rfl, rfl⟩ (tk [] ⟨.s, .b, ⟨⟩⟩ ⟨⟩))))⟩)
 exact .f (.f (.f (ct ⟨_, si h, rfl, rfl⟩ (tk [] ⟨.s, .b, ⟨⟩⟩ ⟨⟩))))
 rintro _ _ ⟨b1, rfl, rfl, rfl⟩
 replace h := hk4
 obtain ⟨o9, ho10, hk11⟩ := bd h
 replace h := ho10
 refine .cut (fun σ η => ∃ s8, s8 = o9 ∧ σ = [(0, .str s8), (4, .bool b1)] ∧ η = []) ?_ ?_
 refine .d (sV h (fun hb12 h => ?_) (fun hb12 h => ?_))
 exact bk h fun s13 hx14 h => ⟨sfrom_bd hx14, s13, sfrom_at hx14, (ct ⟨_, si h, rfl, rfl⟩ (tk [] ⟨.s, .b, ⟨⟩⟩ ⟨⟩))⟩
 exact ct ⟨_, si h, rfl, rfl⟩ (tk [] ⟨.s, .b, ⟨⟩⟩ ⟨⟩)
 rintro _ _ ⟨s8, rfl, rfl, rfl⟩
 replace h := hk11
 refine .d ?_
 obtain ⟨⟨v15, v16⟩, hv17, h⟩ := bd h
 refine pcP (ok61 hv17) (.d (.d (sVn h (fun hb18 h => ?_) (fun hb18 h => ?_))))
 refine .t (.t (.t (.t (.t (.t (.t (.d ?_)))))))
 obtain rfl := si h
 exact en [] ⟨rfl, rfl⟩ (.tup_l ⟨.i, .b, ⟨⟩⟩) ⟨⟩
 refine .f (.f (sD h (fun hb19 h => ?_) (fun hb19 h => ?_)))
 refine .t (.t (.t (.t (.d ?_))))
 obtain rfl := si h
 exact en [] ⟨rfl, rfl⟩ (.tup_l ⟨.i, .b, ⟨⟩⟩) ⟨⟩
 refine .f (sV h (fun hb20 h => ?_) (fun hb20 h => ?_))
 refine .t (.f (.t (.f (sE h (fun hb21 h => ?_) (fun hb21 h => ?_)))))
 refine .d ?_
 obtain rfl := si h
 exact en [] ⟨rfl, rfl⟩ (.tup_l ⟨.i, .b, ⟨⟩⟩) ⟨⟩
 refine .d (.d (.kt hb20 (.d ?_)))
 obtain rfl := si h
 exact en [] ⟨rfl, rfl⟩ (.tup_l ⟨.i, .b, ⟨⟩⟩) ⟨⟩
 refine .f (.f (.f (.f (.f (.d (.d (.kf hb20 (.d ?_))))))))
 obtain rfl := si h
 exact en [] ⟨rfl, rfl⟩ (.tup_l ⟨.i, .b, ⟨⟩⟩) ⟨⟩
def m23 (a0 : TKey) : Option (Bool) :=
 (if a0.fText = true then
 m54 a0.fStr >>= fun (v5, v6) =>
 (if a0.fNum = 0 then
 (if (a0.fStr.length : Int) ≤ 400 then
 some (!v6)
 else
 some false)
 else
 some false)
 else
 m53 a0.fNum (-1000000000) 1000000000 >>= fun v2 =>
 (if v2 = true then
 some (a0.fStr == ([] : Str))
 else
 some false))
theorem ok23 {a0 : TKey} {r : Bool} (h : m23 a0 = some r) : ACall Tryd.prog 65 [.agg a0.lit] [] (fun res h => res = .bool r ∧ h = []) := by
 refine vc1 Tryd.func65 ?_
 unfold m23 at h
 refine .d (.d (.d ⟨rfl, ⟨rfl, _, rfl, (sVn h (fun hb1 h => ?_) (fun hb1 h => ?_))⟩⟩))
 refine .d ⟨rfl, ⟨rfl, _, rfl, (bk h fun v2 hv3 h => (pcP (ok53 hv3) (sV h (fun hb4 h => ?_) (fun hb4 h => ?_))))⟩⟩
 exact ⟨rfl, (.t ⟨rfl, _, rfl, (.t (.t (eB h)))⟩)⟩
 exact .f (.f (.f (eB h)))
 refine .d ⟨rfl, ⟨rfl, _, rfl, ?_⟩⟩
 obtain ⟨⟨v5, v6⟩, hv7, h⟩ := bd h
 refine pcP (ok54 hv7) (.d ⟨rfl, ⟨rfl, _, rfl, (sE h (fun hb8 h => ?_) (fun hb8 h => ?_))⟩⟩)
 refine ⟨rfl, (.t ⟨rfl, _, rfl, (.t (.t (.t (sD h (fun hb9 h => ?_) (fun hb9 h => ?_)))))⟩)⟩
 exact .t (.t (eB h))
 exact .f (.f (eB h))
 exact .f (.f (.f (.f (.f (.f (.f (eB h)))))))
mutual
def m52 (a0 : TValue) : Option (Bool) :=
 ((
 (if a0.fKind = 3 then
 (if a0.fKind = 4 then
 some (.inl ())
 else
 (if a0.fNext = 0 then
 (if (a0.fItems.length : Int) > 0 then
 some (.inr false)
 else
 some (.inl ()))
 else
 some (.inr false)))
 else
 (if a0.fStr = ([] : Str) then
 (if a0.fKind = 4 then
 some (.inl ())
 else
 (if a0.fNext = 0 then
 (if (a0.fItems.length : Int) > 0 then
 some (.inr false)
 else
 some (.inl ()))
 else
 some (.inr false)))
 else
 some (.inr false)))
 : Option ((Unit) ⊕ Bool)) >>= fun o1 => match o1 with
 | .inr r => some r
 | .inl _ =>
 ((
 (if a0.fKind = 0 then
 some (.inr (a0.fNum == 0))
 else
 (if a0.fKind = 1 then
 m53 a0.fNum 0 1 >>= fun v17 =>
 some (.inr v17)
 else
 (if a0.fKind = 2 then
 m53 a0.fNum (-1000000000) 1000000000 >>= fun v20 =>
 some (.inr v20)
 else
 (if a0.fKind = 3 then
 (if a0.fNum = 0 then
 some (.inr (decide ((a0.fStr.length : Int) ≤ 400)))
 else
 some (.inr false))
 else
 (
 (if a0.fKind = 6 then
 some (a0.fKind == 6)
 else
 (if a0.fKind = 7 then
 some (a0.fKind == 7)
 else
 some (a0.fKind == 8)))
 : Option (Bool)) >>= fun b24 =>
 (if b24 = true then
 m53 a0.fNum 0 255 >>= fun v31 =>
 some (.inr v31)
 else
 (if a0.fKind = 4 then
 (if a0.fNum = 0 then
 m53 a0.fNext 0 1000000001 >>= fun v35 =>
 (if v35 = true then
 ((
 m52_L4 a0 0
 : Option ((Unit) ⊕ ((Unit) ⊕ Bool))) >>= fun o38 => match o38 with
 | .inr r => some r
 | .inl _ =>
 some (.inr true)
 )
 else
 some (.inr false))
 else
 some (.inr false))
 else
 some (.inl ())))))))
 : Option ((Unit) ⊕ Bool)) >>= fun o12 => match o12 with
 | .inr r => some r
 | .inl _ =>
 some false
 )
 )
partial_fixpoint
def m52_L4 (a0 : TValue) (y41 : Int) : Option ((Unit) ⊕ ((Unit) ⊕ Bool)) :=
 (if y41 < (a0.fItems.length : Int) then
 idx a0.fItems y41 >>= fun x46 =>
 m23 x46.fKey >>= fun v48 =>
 (if v48 = true then
 (if x46.fKey.fText = true then
 m90 a0 x46.fKey >>= fun v61 =>
 (if v61 = y41 then
 idx a0.fItems y41 >>= fun x64 =>
 m52 x64.fVal >>= fun v66 =>
 (if v66 = true then
 m52_L4 a0 (W64 (y41 + 1))
 else
 some (.inr (.inr false)))
 else
 some (.inr (.inr false)))
 else
 (if x46.fKey.fNum ≥ a0.fNext then
 some (.inr (.inr false))
 else
 m90 a0 x46.fKey >>= fun v53 =>
 (if v53 = y41 then
 idx a0.fItems y41 >>= fun x56 =>
 m52 x56.fVal >>= fun v58 =>
 (if v58 = true then
 m52_L4 a0 (W64 (y41 + 1))
 else
 some (.inr (.inr false)))
 else
 some (.inr (.inr false)))))
 else
 some (.inr (.inr false)))
 else
 some (.inl ()))
partial_fixpoint
end
def okS35 (a0 : TValue) (r : Bool) : Prop := ACall Tryd.prog 35 [.agg a0.lit] [] (fun res h => res = .bool r ∧ h = [])
inductive m52_L4_I : TValue → Int → ((Unit) ⊕ ((Unit) ⊕ Bool)) → Prop
 | mk (G35 : TValue → Option (Bool)) (hG35 : ∀ a0 r, G35 a0 = some r → okS35 a0 r) (F_m52_L4 : TValue → Int → Option ((Unit) ⊕ ((Unit) ⊕ Bool))) (hF_m52_L4 : ∀ a0 y41 o, F_m52_L4 a0 y41 = some o → m52_L4_I a0 y41 o) (a0 : TValue) (y41 : Int) (o : (Unit) ⊕ ((Unit) ⊕ Bool)) (h : (
 (if y41 < (a0.fItems.length : Int) then
 idx a0.fItems y41 >>= fun x46 =>
 m23 x46.fKey >>= fun v48 =>
 (if v48 = true then
 (if x46.fKey.fText = true then
 m90 a0 x46.fKey >>= fun v61 =>
 (if v61 = y41 then
 idx a0.fItems y41 >>= fun x64 =>
 G35 x64.fVal >>= fun v66 =>
 (if v66 = true then
 F_m52_L4 a0 (W64 (y41 + 1))
 else
 some (.inr (.inr false)))
 else
 some (.inr (.inr false)))
 else
 (if x46.fKey.fNum ≥ a0.fNext then
 some (.inr (.inr false))
 else
 m90 a0 x46.fKey >>= fun v53 =>
 (if v53 = y41 then
 idx a0.fItems y41 >>= fun x56 =>
 G35 x56.fVal >>= fun v58 =>
 (if v58 = true then
 F_m52_L4 a0 (W64 (y41 + 1))
 else
 some (.inr (.inr false)))
 else
 some (.inr (.inr false)))))
 else
 some (.inr (.inr false)))
 else
 some (.inl ()))
 ) = some o) : m52_L4_I a0 y41 o
theorem m52_L4_ind {motive : TValue → Int → ((Unit) ⊕ ((Unit) ⊕ Bool)) → Prop} (step : ∀ (G35 : TValue → Option (Bool)) (hG35 : ∀ a0 r, G35 a0 = some r → okS35 a0 r) (F_m52_L4 : TValue → Int → Option ((Unit) ⊕ ((Unit) ⊕ Bool))) (hF_m52_L4 : ∀ a0 y41 o, F_m52_L4 a0 y41 = some o → m52_L4_I a0 y41 o) (a0 : TValue) (y41 : Int) (o : (Unit) ⊕ ((Unit) ⊕ Bool)) (h : (
 (if y41 < (a0.fItems.length : Int) then
 idx a0.fItems y41 >>= fun x46 =>
 m23 x46.fKey >>= fun v48 =>
 (if v48 = true then
 (if x46.fKey.fText = true then
 m90 a0 x46.fKey >>= fun v61 =>
 (if v61 = y41 then
 idx a0.fItems y41 >>= fun x64 =>
 G35 x64.fVal >>= fun v66 =>
 (if v66 = true then
 F_m52_L4 a0 (W64 (y41 + 1))
 else
 some (.inr (.inr false)))
 else
 some (.inr (.inr false)))
 else
 (if x46.fKey.fNum ≥ a0.fNext then
 some (.inr (.inr false))
 else
 m90 a0 x46.fKey >>= fun v53 =>
 (if v53 = y41 then
 idx a0.fItems y41 >>= fun x56 =>
 G35 x56.fVal >>= fun v58 =>
 (if v58 = true then
 F_m52_L4 a0 (W64 (y41 + 1))
 else
 some (.inr (.inr false)))
 else
 some (.inr (.inr false)))))
 else
 some (.inr (.inr false)))
 else
 some (.inl ()))
 ) = some o) (ih : ∀ a0 y41 o, F_m52_L4 a0 y41 = some o → motive a0 y41 o), motive a0 y41 o) : ∀ a0 y41 o, m52_L4_I a0 y41 o → motive a0 y41 o :=
 fun a0 y41 o h => m52_L4_I.rec (motive := fun a0 y41 o _ => motive a0 y41 o) step h
theorem grp_52 : (∀ a0 r, m52 a0 = some r → okS35 a0 r) ∧ (∀ a0 y41 o, m52_L4 a0 y41 = some o → m52_L4_I a0 y41 o) := by
 refine m52.mutual_partial_correctness okS35 m52_L4_I ?_ ?_
 intro _ hI73 a0 r h
 refine vc1 Tryd.func35 ?_
 refine .d ?_
 obtain ⟨o1, ho2, hk3⟩ := bd h
 replace h := ho2
 refine .cut (fun σ η => .inl () = o1 ∧ σ = [(1, .optr 0 0 0 0)] ∧ η = [.row 0 5 1 24 (fun _ => a0.lit)]) ?_ ?_
 refine .d ⟨rfl, ⟨rfl, _, rfl, (sN h (fun hb4 h => ?_) (fun hb4 h => ?_))⟩⟩
 refine ⟨rfl, (.t ⟨rfl, _, rfl, (.t (.t (sEn h (fun hb5 h => ?_) (fun hb5 h => ?_))))⟩)⟩
 refine .t (.t (.t (.t (.t (.t (.d ?_))))))
 obtain rfl := si h
 replace h := hk3
 exact eB h
 refine ⟨rfl, (.f ⟨rfl, _, rfl, (.f (.f (sN h (fun hb6 h => ?_) (fun hb6 h => ?_))))⟩)⟩
 refine ⟨rfl, (.t ⟨rfl, _, rfl, (.t (.t (sN h (fun hb7 h => ?_) (fun hb7 h => ?_))))⟩)⟩
 refine .t (.t (.t (.t (.t (.f (.t (.f (.t (.d ?_)))))))))
 obtain rfl := si h
 replace h := hk3
 exact eB h
 refine ⟨rfl, (.f ⟨rfl, _, rfl, (.f (.f (.t (.f (.f (.t (.f (sD h (fun hb8 h => ?_) (fun hb8 h => ?_)))))))))⟩)⟩
 refine .d ?_
 obtain rfl := si h
 replace h := hk3
 exact eB h
 exact ct ⟨si h, rfl, rfl⟩ (tk [0] ⟨.p, ⟨⟩⟩ ⟨(nbp rfl), ⟨⟩⟩)
 exact .f (.f (.f (.f (.f (.f (.f (.f (ct ⟨si h, rfl, rfl⟩ (tk [0] ⟨.p, ⟨⟩⟩ ⟨(nbp rfl), ⟨⟩⟩)))))))))
 refine .f (.f (.f (.f ⟨rfl, (.f ⟨rfl, _, rfl, (.f (.f (sN h (fun hb9 h => ?_) (fun hb9 h => ?_))))⟩)⟩)))
 refine ⟨rfl, (.t ⟨rfl, _, rfl, (.t (.t (sN h (fun hb10 h => ?_) (fun hb10 h => ?_))))⟩)⟩
 refine .t (.t (.t (.t (.t (.f (.t (.f (.t (.d ?_)))))))))
 obtain rfl := si h
 replace h := hk3
 exact eB h
 refine ⟨rfl, (.f ⟨rfl, _, rfl, (.f (.f (.t (.f (.f (.t (.f (sD h (fun hb11 h => ?_) (fun hb11 h => ?_)))))))))⟩)⟩
 refine .d ?_
 obtain rfl := si h
 replace h := hk3
 exact eB h
 exact ct ⟨si h, rfl, rfl⟩ (tk [0] ⟨.p, ⟨⟩⟩ ⟨(nbp rfl), ⟨⟩⟩)
 exact .f (.f (.f (.f (.f (.f (.f (.f (ct ⟨si h, rfl, rfl⟩ (tk [0] ⟨.p, ⟨⟩⟩ ⟨(nbp rfl), ⟨⟩⟩)))))))))
 rintro _ _ ⟨rfl, rfl, rfl⟩
 replace h := hk3
 obtain ⟨o12, ho13, hk14⟩ := bd h
 replace h := ho13
 refine .cut (fun σ η => .inl () = o12 ∧ σ = [] ∧ η = []) ?_ ?_
 refine .d ⟨rfl, ⟨rfl, _, rfl, (.d (sE h (fun hb15 h => ?_) (fun hb15 h => ?_)))⟩⟩
 refine .d ⟨rfl, ⟨rfl, _, rfl, ?_⟩⟩
 obtain rfl := si h
 replace h := hk14
 exact eB h
 refine .d (sE h (fun hb16 h => ?_) (fun hb16 h => ?_))
 refine .d ⟨rfl, ⟨rfl, _, rfl, (bk h fun v17 hv18 h => (pcP (ok53 hv18) ?_))⟩⟩
 obtain rfl := si h
 replace h := hk14
 exact eB h
 refine .d (sE h (fun hb19 h => ?_) (fun hb19 h => ?_))
 refine .d ⟨rfl, ⟨rfl, _, rfl, (bk h fun v20 hv21 h => (pcP (ok53 hv21) ?_))⟩⟩
 obtain rfl := si h
 replace h := hk14
 exact eB h
 refine .d (sE h (fun hb22 h => ?_) (fun hb22 h => ?_))
 refine .d ⟨rfl, ⟨rfl, _, rfl, (sE h (fun hb23 h => ?_) (fun hb23 h => ?_))⟩⟩
 refine ⟨rfl, (.t ⟨rfl, _, rfl, (.t (.t (.t ?_)))⟩)⟩
 obtain rfl := si h
 replace h := hk14
 exact eB h
 refine .f (.f (.f (.f ?_)))
 obtain rfl := si h
 replace h := hk14
 exact eB h
 obtain ⟨o25, ho26, hk27⟩ := bd h
 replace h := ho26
 refine .cut (fun σ η => ∃ b24, b24 = o25 ∧ σ = [(1, .optr 0 0 0 0), (30, .int .i64 a0.fKind), (57, .bool b24)] ∧ η = [.row 0 5 1 24 (fun _ => a0.lit)]) ?_ ?_
 refine .d (sE h (fun hb28 h => ?_) (fun hb28 h => ?_))
 exact ct ⟨_, si h, rfl, rfl⟩ (tk [0] ⟨.p, .i, .b, ⟨⟩⟩ ⟨(nbp rfl), ⟨⟩⟩)
 refine .d (sE h (fun hb29 h => ?_) (fun hb29 h => ?_))
 exact ct ⟨_, si h, rfl, rfl⟩ (tk [0] ⟨.p, .i, .b, ⟨⟩⟩ ⟨(nbp rfl), ⟨⟩⟩)
 exact ct ⟨_, si h, rfl, rfl⟩ (tk [0] ⟨.p, .i, .b, ⟨⟩⟩ ⟨(nbp rfl), ⟨⟩⟩)
 rintro _ _ ⟨b24, rfl, rfl, rfl⟩
 replace h := hk27
 refine sV h (fun hb30 h => ?_) (fun hb30 h => ?_)
 refine .d ⟨rfl, ⟨rfl, _, rfl, (bk h fun v31 hv32 h => (pcP (ok53 hv32) ?_))⟩⟩
 obtain rfl := si h
 replace h := hk14
 exact eB h
 refine .d (sE h (fun hb33 h => ?_) (fun hb33 h => ?_))
 refine .d (.d ⟨rfl, ⟨rfl, _, rfl, (sN h (fun hb34 h => ?_) (fun hb34 h => ?_))⟩⟩)
 refine .t (.t (.t (.t (.t (.d ?_)))))
 obtain rfl := si h
 replace h := hk14
 exact eB h
 refine ⟨rfl, (.f ⟨rfl, _, rfl, (.f (bk h fun v35 hv36 h => (pcP (ok53 hv36) (.f (.f (sVn h (fun hb37 h => ?_) (fun hb37 h => ?_)))))))⟩)⟩
 refine .d ?_
 obtain rfl := si h
 replace h := hk14
 exact eB h
 obtain ⟨o38, ho39, hk40⟩ := bd h
 replace h := ho39
 refine .cut (fun σ η => .inl () = o38 ∧ σ = [] ∧ η = []) ?_ ?_
 refine .d ?_
 have hL72 := hI73 _ _ _ h
 refine le (m52_L4_ind (motive := fun p71 y41 o69 => a0 = p71 → o38 = o69 → LoopAt _ _ [(1, .optr 0 0 0 0), (3, .int .i64 y41)] [.row 0 5 1 24 (fun _ => a0.lit)]) ?_ a0 0 o38 hL72 rfl rfl) (tk [0] ⟨.p, .i, ⟨⟩⟩ ⟨(nbp rfl), ⟨⟩⟩)
 intro _ hG44 _ _ p71 y41 o69 h ih42  hp_p71 hr70
 subst hp_p71
 subst hr70
 refine LoopAt.round (.d (.d ⟨rfl, ⟨rfl, _, rfl, (sD h (fun hb45 h => ?_) (fun hb45 h => ?_))⟩⟩))
 refine .d (.d ⟨rfl, ⟨rfl, _, rfl, (bk h fun x46 hx47 h => ⟨idx_bd hx47, _, (idx_row hx47).trans (TEntry.cells_eq x46), ⟨rfl, _, fun _ => [.bool x46.fKey.fText, .int .i64 x46.fKey.fNum, .str x46.fKey.fStr], rfl, one_set rfl, (.d ⟨rfl, _, rfl, (bk h fun v48 hv49 h => (pcP (ok23 hv49) (sVn h (fun hb50 h => ?_) (fun hb50 h => ?_))))⟩)⟩⟩)⟩⟩)
 refine .t (.t (.t (.t (.t (.t (.t (.t (.t (.t (.t (.t (.t (.t (.t ?_))))))))))))))
 refine .t (.t (.t (.t (.t (.t (.d ?_))))))
 obtain rfl := si h
 replace h := hk40
 obtain rfl := si h
 replace h := hk14
 exact eB h
 refine ⟨rfl, (.f ⟨rfl, _, rfl, (.f (.f (sVn h (fun hb51 h => ?_) (fun hb51 h => ?_))))⟩)⟩
 refine ⟨rfl, (.t ⟨rfl, _, rfl, (.t ⟨rfl, (.t ⟨rfl, _, rfl, (.t (.f (.t (.f (sD h (fun hb52 h => ?_) (fun hb52 h => ?_))))))⟩)⟩)⟩)⟩
 refine .t (.t (.t (.t (.t (.t (.t (.t (.t (.t (.t (.t (.t (.t (.t ?_))))))))))))))
 refine .d ?_
 obtain rfl := si h
 replace h := hk40
 obtain rfl := si h
 replace h := hk14
 exact eB h
 refine ⟨rfl, _, rfl, (.f ⟨rfl, _, rfl, (.f (bk h fun v53 hv54 h => (pcP (ok90 hv54) (.f (.f (.f (sN h (fun hb55 h => ?_) (fun hb55 h => ?_))))))))⟩)⟩
 refine .t (.t (.t (.t (.t (.t (.t (.t (.t (.d ?_)))))))))
 obtain rfl := si h
 replace h := hk40
 obtain rfl := si h
 replace h := hk14
 exact eB h
 refine ⟨rfl, (.f ⟨rfl, _, rfl, (.f (.f (bk h fun x56 hx57 h => ⟨idx_bd hx57, _, (idx_row hx57).trans (TEntry.cells_eq x56), (.f (.f (.f (bk h fun v58 hv59 h => (pcP (hG44 _ _ hv59) (.f (.f (sVn h (fun hb60 h => ?_) (fun hb60 h => ?_)))))))))⟩)))⟩)⟩
 refine .d ?_
 obtain rfl := si h
 replace h := hk40
 obtain rfl := si h
 replace h := hk14
 exact eB h
 exact lg (ih42 _ _ _ h rfl rfl) (tk [0] ⟨.p, .i, ⟨⟩⟩ ⟨(nbp rfl), ⟨⟩⟩)
 refine .f (.f (.f (.f (.f (.f (.f (.f ⟨rfl, _, rfl, (.f ⟨rfl, _, rfl, (.f (bk h fun v61 hv62 h => (pcP (ok90 hv62) (.f ?_))))⟩)⟩)))))))
 refine .f (.f (sN h (fun hb63 h => ?_) (fun hb63 h => ?_)))
 refine .t (.t (.t (.t (.t (.t (.t (.t (.t (.d ?_)))))))))
 obtain rfl := si h
 replace h := hk40
 obtain rfl := si h
 replace h := hk14
 exact eB h
 refine ⟨rfl, (.f ⟨rfl, _, rfl, (.f (.f (bk h fun x64 hx65 h => ⟨idx_bd hx65, _, (idx_row hx65).trans (TEntry.cells_eq x64), (.f (.f (.f (bk h fun v66 hv67 h => (pcP (hG44 _ _ hv67) (.f (.f (sVn h (fun hb68 h => ?_) (fun hb68 h => ?_)))))))))⟩)))⟩)⟩
 refine .d ?_
 obtain rfl := si h
 replace h := hk40
 obtain rfl := si h
 replace h := hk14
 exact eB h
 exact lg (ih42 _ _ _ h rfl rfl) (tk [0] ⟨.p, .i, ⟨⟩⟩ ⟨(nbp rfl), ⟨⟩⟩)
 exact ct ⟨si h, rfl, rfl⟩ (tk [] ⟨⟩ ⟨⟩)
 rintro _ _ ⟨rfl, rfl, rfl⟩
 replace h := hk40
 refine .d ?_
 obtain rfl := si h
 replace h := hk14
 exact eB h
 exact ct ⟨si h, rfl, rfl⟩ (tk [] ⟨⟩ ⟨⟩)
 rintro _ _ ⟨rfl, rfl, rfl⟩
 replace h := hk14
 exact .d (eB h)
 intro F0 F1 hF0 hF1 a0 y41 o h
 exact .mk F0 hF0 F1 hF1 a0 y41 o h
theorem ok52 {a0 : TValue} {r : Bool} (h : m52 a0 = some r) : ACall Tryd.prog 35 [.agg a0.lit] [] (fun res h => res = .bool r ∧ h = []) := grp_52.1 a0 r h
def m22 (a0 : TValue) : Option (Bool) :=
 m51 a0 200 >>= fun v1 =>
 (if v1 ≤ 200 then
 m52 a0 >>= fun v4 =>
 some v4
 else
 some false)
theorem ok22 {a0 : TValue} {r : Bool} (h : m22 a0 = some r) : ACall Tryd.prog 14 [.agg a0.lit] [] (fun res h => res = .bool r ∧ h = []) := by
 refine vc1 Tryd.func14 ?_
 unfold m22 at h
 refine .d (.d ⟨rfl, _, rfl, (bk h fun v1 hv2 h => (pcP (ok51 hv2) (sD h (fun hb3 h => ?_) (fun hb3 h => ?_))))⟩)
 exact ⟨rfl, _, rfl, (.t (bk h fun v4 hv5 h => (pcP (ok52 hv5) (.t (eB h)))))⟩
 exact .f (.f (eB h))
end Go.Am
