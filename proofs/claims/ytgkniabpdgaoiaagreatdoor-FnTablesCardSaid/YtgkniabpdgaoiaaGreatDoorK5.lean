/- Models of Go functions, and their walks. (Printed by tools/mg.py.) -/
import Derived.Test.YtgkniabpdgaoiaaGreatDoorF4
set_option linter.unusedVariables false
set_option linter.unusedSimpArgs false
set_option maxRecDepth 100000
namespace Go.Am
open Go Go.RowKit Go.Proofs
mutual
def m_s_l5Copy (a0 : TValue) : Option (TValue) :=
 (
 m_s_l5Copy_L2 a0 ([] : List TEntry) 0
 : Option ((List TEntry))) >>= fun l1 =>
 some (TValue.mk a0.fKind a0.fNum a0.fStr a0.fNext l1)
partial_fixpoint
def m_s_l5Copy_L2 (a0 : TValue) (l5 : List TEntry) (y6 : Int) : Option ((List TEntry)) :=
 (if y6 < (a0.fItems.length : Int) then
 idx a0.fItems y6 >>= fun x11 =>
 idx a0.fItems y6 >>= fun x13 =>
 m_s_l5Copy x13.fVal >>= fun v15 =>
 lapp 96 l5 ([(TEntry.mk x11.fKey v15)] : List TEntry) >>= fun l17 =>
 m_s_l5Copy_L2 a0 l17 (W64 (y6 + 1))
 else
 some l5)
partial_fixpoint
end
def okS48 (a0 : TValue) (r : TValue) : Prop := ACall Tryz.prog 48 [.agg a0.lit] [] (fun res h => res = .agg r.lit ∧ h = [])
inductive m_s_l5Copy_L2_I : TValue → (List TEntry) → Int → ((List TEntry)) → Prop
 | mk (G48 : TValue → Option (TValue)) (hG48 : ∀ a0 r, G48 a0 = some r → okS48 a0 r) (F_m_s_l5Copy_L2 : TValue → (List TEntry) → Int → Option ((List TEntry))) (hF_m_s_l5Copy_L2 : ∀ a0 l5 y6 o, F_m_s_l5Copy_L2 a0 l5 y6 = some o → m_s_l5Copy_L2_I a0 l5 y6 o) (a0 : TValue) (l5 : List TEntry) (y6 : Int) (o : (List TEntry)) (h : (
 (if y6 < (a0.fItems.length : Int) then
 idx a0.fItems y6 >>= fun x11 =>
 idx a0.fItems y6 >>= fun x13 =>
 G48 x13.fVal >>= fun v15 =>
 lapp 96 l5 ([(TEntry.mk x11.fKey v15)] : List TEntry) >>= fun l17 =>
 F_m_s_l5Copy_L2 a0 l17 (W64 (y6 + 1))
 else
 some l5)
 ) = some o) : m_s_l5Copy_L2_I a0 l5 y6 o
theorem m_s_l5Copy_L2_ind {motive : TValue → (List TEntry) → Int → ((List TEntry)) → Prop} (step : ∀ (G48 : TValue → Option (TValue)) (hG48 : ∀ a0 r, G48 a0 = some r → okS48 a0 r) (F_m_s_l5Copy_L2 : TValue → (List TEntry) → Int → Option ((List TEntry))) (hF_m_s_l5Copy_L2 : ∀ a0 l5 y6 o, F_m_s_l5Copy_L2 a0 l5 y6 = some o → m_s_l5Copy_L2_I a0 l5 y6 o) (a0 : TValue) (l5 : List TEntry) (y6 : Int) (o : (List TEntry)) (h : (
 (if y6 < (a0.fItems.length : Int) then
 idx a0.fItems y6 >>= fun x11 =>
 idx a0.fItems y6 >>= fun x13 =>
 G48 x13.fVal >>= fun v15 =>
 lapp 96 l5 ([(TEntry.mk x11.fKey v15)] : List TEntry) >>= fun l17 =>
 F_m_s_l5Copy_L2 a0 l17 (W64 (y6 + 1))
 else
 some l5)
 ) = some o) (ih : ∀ a0 l5 y6 o, F_m_s_l5Copy_L2 a0 l5 y6 = some o → motive a0 l5 y6 o), motive a0 l5 y6 o) : ∀ a0 l5 y6 o, m_s_l5Copy_L2_I a0 l5 y6 o → motive a0 l5 y6 o :=
 fun a0 l5 y6 o h => m_s_l5Copy_L2_I.rec (motive := fun a0 l5 y6 o _ => motive a0 l5 y6 o) step h
theorem grp__s_l5Copy : (∀ a0 r, m_s_l5Copy a0 = some r → okS48 a0 r) ∧ (∀ a0 l5 y6 o, m_s_l5Copy_L2 a0 l5 y6 = some o → m_s_l5Copy_L2_I a0 l5 y6 o) := by
 refine m_s_l5Copy.mutual_partial_correctness okS48 m_s_l5Copy_L2_I ?_ ?_
 intro _ hI23 a0 r h
 refine vc1 Tryz.func48 ?_
 refine .d (.d ⟨rfl, _, rfl, ⟨rfl, _, fun _ => [.int .i64 a0.fKind, .int .i64 a0.fNum, .str a0.fStr, .int .i64 a0.fNext, sl 8 TEntry.cells a0.fItems], rfl, one_set rfl, (.d ⟨rfl, ⟨rfl, _, fun _ => [.int .i64 a0.fKind, .int .i64 a0.fNum, .str a0.fStr, .int .i64 a0.fNext, .nils], rfl, one_set rfl, ?_⟩⟩)⟩⟩)
 obtain ⟨o2, ho3, hk4⟩ := bd h
 replace h := ho3
 refine .cut (fun σ η => ∃ l1, l1 = o2 ∧ σ = [(2, .optr 0 0 0 0), (3, .optr 1 0 0 0)] ∧ η = [.row 0 5 1 32 (fun _ => [.int .i64 0, .int .i64 0, .str [], .int .i64 0, .nils]), .row 0 5 1 32 (fun _ => [.int .i64 a0.fKind, .int .i64 a0.fNum, .str a0.fStr, .int .i64 a0.fNext, .own 2 0 0 l1.length]), .row 0 8 l1.length 82 (row TEntry.cells l1)]) ?_ ?_
 refine .d ?_
 have hL22 := hI23 _ _ _ _ h
 refine le (m_s_l5Copy_L2_ind (motive := fun p21 l5 y6 o19 => a0 = p21 → o2 = o19 → LoopAt _ _ [(1, .optr 0 0 0 0), (2, .optr 1 0 0 0), (3, .optr 2 0 0 0), (4, .int .i64 y6)] [.row 0 5 1 32 (fun _ => a0.lit), .row 0 5 1 32 (fun _ => [.int .i64 0, .int .i64 0, .str [], .int .i64 0, .nils]), .row 0 5 1 32 (fun _ => [.int .i64 a0.fKind, .int .i64 a0.fNum, .str a0.fStr, .int .i64 a0.fNext, .own 3 0 0 l5.length]), .row 0 8 l5.length 82 (row TEntry.cells l5)]) ?_ a0 ([] : List TEntry) 0 o2 hL22 rfl rfl) (tk [0, 1, 2, 6] ⟨.p, .p, .p, .i, ⟨⟩⟩ ⟨(nbp rfl), (nb rfl ⟨.i, .i, .s, .i, .nils, ⟨⟩⟩), (nb rfl ⟨.i, .i, .s, .i, .g, ⟨⟩⟩), gh, ⟨⟩⟩)
 intro _ hG9 _ _ p21 l5 y6 o19 h ih7  hp_p21 hr20
 subst hp_p21
 subst hr20
 refine LoopAt.round (.d (.d ⟨rfl, ⟨rfl, _, rfl, (sD h (fun hb10 h => ?_) (fun hb10 h => ?_))⟩⟩))
 refine .d (.float [(0, true), (1, true), (2, true), (3, true), (4, true), (5, true), (6, true), (7, true), (8, true), (9, true), (10, true), (11, true), (12, true), (13, true), (14, false), (15, true), (16, false), (17, false), (18, true), (19, false)] (by kernel_rfl) ?_)
 refine ⟨rfl, ⟨rfl, _, rfl, ⟨rfl, ⟨rfl, _, rfl, (bk h fun x11 hx12 h => ⟨idx_bd hx12, _, (idx_row hx12).trans (TEntry.cells_eq x11), ⟨rfl, ⟨rfl, _, rfl, (bk h fun x13 hx14 h => ⟨idx_bd hx14, _, (idx_row hx14).trans (TEntry.cells_eq x13), (bk h fun v15 hv16 h => (pcP (hG9 _ _ hv16) ⟨rfl, ⟨rfl, ⟨rfl, ?_⟩⟩⟩))⟩)⟩⟩⟩)⟩⟩⟩⟩
 exact ⟨rfl, ⟨row TEntry.cells ([(TEntry.mk x11.fKey v15)] : List TEntry), row_lit TEntry.cells ([(TEntry.mk x11.fKey v15)] : List TEntry) rfl (cll_cons (TEntry.cells_eq _) ⟨.same _, .same _, .same _, .same _, .same _, .same _, .same _, .same _, trivial⟩ trivial), ⟨rfl, ⟨rfl, (bk h fun l17 hx18 h => ⟨rfl, rfl, lapp_bd hx18, l17.length, row TEntry.cells l17, lapp_len hx18, lapp_row hx18 shows_all (src_own shows_all), ⟨rfl, ⟨rfl, _, fun _ => [.int .i64 a0.fKind, .int .i64 a0.fNum, .str a0.fStr, .int .i64 a0.fNext, .own 3 (0 + 1) 0 l17.length], rfl, one_set rfl, (lg (ih7 _ _ _ _ h rfl rfl) (tk [0, 1, 2, 3] ⟨.p, .p, .p, .i, ⟨⟩⟩ ⟨(nbp rfl), (nb rfl ⟨.i, .i, .s, .i, .nils, ⟨⟩⟩), (nb rfl ⟨.i, .i, .s, .i, .o, ⟨⟩⟩), nw, ⟨⟩⟩))⟩⟩⟩)⟩⟩⟩⟩
 exact ct ⟨_, si h, rfl, rfl⟩ (tk [1, 2, 3] ⟨.p, .p, ⟨⟩⟩ ⟨(nb rfl ⟨.i, .i, .s, .i, .nils, ⟨⟩⟩), (nb rfl ⟨.i, .i, .s, .i, .o, ⟨⟩⟩), nw, ⟨⟩⟩)
 rintro _ _ ⟨l1, rfl, rfl, rfl⟩
 replace h := hk4
 refine .d ⟨rfl, _, rfl, ⟨rfl, _, fun _ => [.int .i64 a0.fKind, .int .i64 a0.fNum, .str a0.fStr, .int .i64 a0.fNext, .own 2 0 0 l1.length], rfl, one_set rfl, ?_⟩⟩
 obtain rfl := si h
 exact ⟨rfl, _, rfl, (en [] ⟨rfl, rfl⟩ (.agg_l ⟨.i, .i, .s, .i, .r, ⟨⟩⟩) ⟨⟩)⟩
 intro F0 F1 hF0 hF1 a0 l5 y6 o h
 exact .mk F0 hF0 F1 hF1 a0 l5 y6 o h
theorem ok_s_l5Copy {a0 : TValue} {r : TValue} (h : m_s_l5Copy a0 = some r) : ACall Tryz.prog 48 [.agg a0.lit] [] (fun res h => res = .agg r.lit ∧ h = []) := grp__s_l5Copy.1 a0 r h
def m_s_l6Get (a0 : TValue) (a1 : TKey) : Option (TValue × Bool) :=
 m90 a0 a1 >>= fun v1 =>
 (if v1 < 0 then
 some ((TValue.mk 0 0 [] 0 []), false)
 else
 idx a0.fItems v1 >>= fun x4 =>
 some (x4.fVal, true))
theorem ok_s_l6Get {a0 : TValue} {a1 : TKey} {r : TValue × Bool} (h : m_s_l6Get a0 a1 = some r) : ACall Tryz.prog 47 [.agg a0.lit, .agg a1.lit] [] (fun res h => res = .tup [.agg r.1.lit, .bool r.2] ∧ h = []) := by
 refine vc1 Tryz.func47 ?_
 unfold m_s_l6Get at h
 refine .d (.d ⟨rfl, _, rfl, ⟨rfl, _, rfl, (bk h fun v1 hv2 h => (pcP (ok90 hv2) (.d (.d (sD h (fun hb3 h => ?_) (fun hb3 h => ?_))))))⟩⟩)
 refine .d ⟨rfl, _, fun _ => [.int .i64 0, .int .i64 0, .str [], .int .i64 0, .nils], rfl, one_set rfl, ?_⟩
 obtain rfl := si h
 exact ⟨rfl, _, rfl, (en [] ⟨rfl, rfl⟩ (.tup_l ⟨.agg_l ⟨.i, .i, .s, .i, .z, ⟨⟩⟩, .b, ⟨⟩⟩) ⟨⟩)⟩
 refine .d ⟨rfl, ⟨rfl, _, rfl, (bk h fun x4 hx5 h => ⟨idx_bd hx5, _, (idx_row hx5).trans (TEntry.cells_eq x4), ⟨rfl, _, fun _ => [.int .i64 x4.fVal.fKind, .int .i64 x4.fVal.fNum, .str x4.fVal.fStr, .int .i64 x4.fVal.fNext, sl 8 TEntry.cells x4.fVal.fItems], rfl, one_set rfl, ?_⟩⟩)⟩⟩
 obtain rfl := si h
 exact ⟨rfl, _, rfl, (en [] ⟨rfl, rfl⟩ (.tup_l ⟨.agg_l ⟨.i, .i, .s, .i, .l, ⟨⟩⟩, .b, ⟨⟩⟩) ⟨⟩)⟩
def m_s_GetKey (a0 : TValue) (a1 : TKey) : Option (TValue × Bool) :=
 m_s_l6Get a0 a1 >>= fun (v1, v2) =>
 m_s_l5Copy v1 >>= fun v4 =>
 some (v4, v2)
theorem ok_s_GetKey {a0 : TValue} {a1 : TKey} {r : TValue × Bool} (h : m_s_GetKey a0 a1 = some r) : ACall Tryz.prog 13 [.agg a0.lit, .agg a1.lit] [] (fun res h => res = .tup [.agg r.1.lit, .bool r.2] ∧ h = []) := by
 refine vc1 Tryz.func13 ?_
 unfold m_s_GetKey at h
 refine .d (.d ⟨rfl, _, rfl, ⟨rfl, _, rfl, ?_⟩⟩)
 obtain ⟨⟨v1, v2⟩, hv3, h⟩ := bd h
 refine pcP (ok_s_l6Get hv3) ⟨rfl, _, fun _ => [.int .i64 v1.fKind, .int .i64 v1.fNum, .str v1.fStr, .int .i64 v1.fNext, sl 8 TEntry.cells v1.fItems], rfl, one_set rfl, (.d ⟨rfl, _, rfl, (bk h fun v4 hv5 h => (pcP (ok_s_l5Copy hv5) ⟨rfl, _, fun _ => [.int .i64 v4.fKind, .int .i64 v4.fNum, .str v4.fStr, .int .i64 v4.fNext, sl 8 TEntry.cells v4.fItems], rfl, one_set rfl, ?_⟩))⟩)⟩
 obtain rfl := si h
 exact ⟨rfl, _, rfl, (en [] ⟨rfl, rfl⟩ (.tup_l ⟨.agg_l ⟨.i, .i, .s, .i, .l, ⟨⟩⟩, .b, ⟨⟩⟩) ⟨⟩)⟩
def m_s_l6Drop (a0 : TValue) (a1 : TKey) : Option (TValue) :=
 m90 a0 a1 >>= fun v1 =>
 (if v1 < 0 then
 some a0
 else
 lto a0.fItems v1 >>= fun l4 =>
 lfrom a0.fItems (W64 (v1 + 1)) >>= fun l6 =>
 lapp 96 ([] : List TEntry) l4 >>= fun l8 =>
 lapp 96 l8 l6 >>= fun l10 =>
 some (TValue.mk a0.fKind a0.fNum a0.fStr a0.fNext l10))
theorem ok_s_l6Drop {a0 : TValue} {a1 : TKey} {r : TValue} (h : m_s_l6Drop a0 a1 = some r) : ACall Tryz.prog 51 [.agg a0.lit, .agg a1.lit] [] (fun res h => res = .agg r.lit ∧ h = []) := by
 refine vc1 Tryz.func51 ?_
 unfold m_s_l6Drop at h
 refine .d (.d ⟨rfl, _, rfl, ⟨rfl, _, rfl, (bk h fun v1 hv2 h => (pcP (ok90 hv2) (.d (.d (sD h (fun hb3 h => ?_) (fun hb3 h => ?_))))))⟩⟩)
 refine .d ⟨rfl, _, rfl, ⟨rfl, _, fun _ => [.int .i64 a0.fKind, .int .i64 a0.fNum, .str a0.fStr, .int .i64 a0.fNext, sl 8 TEntry.cells a0.fItems], rfl, one_set rfl, ?_⟩⟩
 obtain rfl := si h
 exact ⟨rfl, _, rfl, (en [] ⟨rfl, rfl⟩ (.agg_l ⟨.i, .i, .s, .i, .l, ⟨⟩⟩) ⟨⟩)⟩
 refine .d ⟨rfl, _, rfl, ⟨rfl, _, fun _ => [.int .i64 a0.fKind, .int .i64 a0.fNum, .str a0.fStr, .int .i64 a0.fNext, sl 8 TEntry.cells a0.fItems], rfl, one_set rfl, (.d (.float [(1, true), (2, true), (3, true), (4, true), (6, true), (7, true), (8, true), (9, true), (10, true), (0, false), (5, false), (11, false), (12, true), (13, false)] (by kernel_rfl) ?_))⟩⟩
 refine ⟨rfl, ⟨rfl, _, rfl, (bk h fun l4 hx5 h => ⟨trivial, lto_bd hx5, l4.length, row TEntry.cells l4, lto_len hx5, lto_row hx5, ⟨rfl, ⟨rfl, _, rfl, (bk h fun l6 hx7 h => ⟨trivial, lfrom_bd hx7, l6.length, row TEntry.cells l6, lfrom_len hx7, lfrom_row hx7, ⟨row TEntry.cells ([] : List TEntry), row_lit TEntry.cells ([] : List TEntry) rfl (cll_refl rfl), ⟨rfl, ⟨rfl, ⟨rfl, ⟨rfl, (bk h fun l8 hx9 h => ⟨rfl, lapp_bd hx9, l8.length, row TEntry.cells l8, lapp_len hx9, lapp_row hx9 shows_all src_slc, ?_⟩)⟩⟩⟩⟩⟩⟩)⟩⟩⟩)⟩⟩
 refine ⟨rfl, ⟨rfl, (bk h fun l10 hx11 h => ⟨rfl, lapp_bd hx11, l10.length, row TEntry.cells l10, lapp_len hx11, lapp_row hx11 shows_all src_slc, ⟨rfl, ⟨rfl, _, fun _ => [.int .i64 a0.fKind, .int .i64 a0.fNum, .str a0.fStr, .int .i64 a0.fNext, .own 4 ((0 + 1) + 1) 0 l10.length], rfl, one_set rfl, (.d ⟨rfl, _, rfl, ⟨rfl, _, fun _ => [.int .i64 a0.fKind, .int .i64 a0.fNum, .str a0.fStr, .int .i64 a0.fNext, .own 4 ((0 + 1) + 1) 0 l10.length], rfl, one_set rfl, ?_⟩⟩)⟩⟩⟩)⟩⟩
 obtain rfl := si h
 exact ⟨rfl, _, rfl, (en [] ⟨rfl, rfl⟩ (.agg_l ⟨.i, .i, .s, .i, .r, ⟨⟩⟩) ⟨⟩)⟩
def m_s_DeleteKey (a0 : TValue) (a1 : TKey) : Option (TValue) :=
 m_s_l6Drop a0 a1 >>= fun v1 =>
 m_s_l5Copy v1 >>= fun v3 =>
 some v3
theorem ok_s_DeleteKey {a0 : TValue} {a1 : TKey} {r : TValue} (h : m_s_DeleteKey a0 a1 = some r) : ACall Tryz.prog 17 [.agg a0.lit, .agg a1.lit] [] (fun res h => res = .agg r.lit ∧ h = []) := by
 refine vc1 Tryz.func17 ?_
 unfold m_s_DeleteKey at h
 refine .d (.d ⟨rfl, _, rfl, ⟨rfl, _, rfl, (bk h fun v1 hv2 h => (pcP (ok_s_l6Drop hv2) (bk h fun v3 hv4 h => (pcP (ok_s_l5Copy hv4) ⟨rfl, _, fun _ => [.int .i64 v3.fKind, .int .i64 v3.fNum, .str v3.fStr, .int .i64 v3.fNext, sl 8 TEntry.cells v3.fItems], rfl, one_set rfl, ?_⟩))))⟩⟩)
 obtain rfl := si h
 exact ⟨rfl, _, rfl, (en [] ⟨rfl, rfl⟩ (.agg_l ⟨.i, .i, .s, .i, .l, ⟨⟩⟩) ⟨⟩)⟩
def m_s_SetKey (a0 : TValue) (a1 : TKey) (a2 : TValue) : Option (TValue × Bool) :=
 (if a0.fKind = 4 then
 m23 a1 >>= fun v4 =>
 (if v4 = true then
 m87 a0 a1 a2 >>= fun v9 =>
 m_s_l5Copy v9 >>= fun v11 =>
 some (v11, true)
 else
 m_s_l5Copy a0 >>= fun v7 =>
 some (v7, false))
 else
 m_s_l5Copy a0 >>= fun v2 =>
 some (v2, false))
theorem ok_s_SetKey {a0 : TValue} {a1 : TKey} {a2 : TValue} {r : TValue × Bool} (h : m_s_SetKey a0 a1 a2 = some r) : ACall Tryz.prog 14 [.agg a0.lit, .agg a1.lit, .agg a2.lit] [] (fun res h => res = .tup [.agg r.1.lit, .bool r.2] ∧ h = []) := by
 refine vc1 Tryz.func14 ?_
 unfold m_s_SetKey at h
 refine .d (.d (.d ⟨rfl, ⟨rfl, _, rfl, (sN h (fun hb1 h => ?_) (fun hb1 h => ?_))⟩⟩))
 refine .t (.t (.t (.t (.d ⟨rfl, _, rfl, (bk h fun v2 hv3 h => (pcP (ok_s_l5Copy hv3) ⟨rfl, _, fun _ => [.int .i64 v2.fKind, .int .i64 v2.fNum, .str v2.fStr, .int .i64 v2.fNext, sl 8 TEntry.cells v2.fItems], rfl, one_set rfl, ?_⟩))⟩))))
 obtain rfl := si h
 exact ⟨rfl, _, rfl, (en [] ⟨rfl, rfl⟩ (.tup_l ⟨.agg_l ⟨.i, .i, .s, .i, .l, ⟨⟩⟩, .b, ⟨⟩⟩) ⟨⟩)⟩
 refine ⟨rfl, _, rfl, (.f (bk h fun v4 hv5 h => (pcP (ok23 hv5) (.f (.f (sVn h (fun hb6 h => ?_) (fun hb6 h => ?_)))))))⟩
 refine .d ⟨rfl, _, rfl, (bk h fun v7 hv8 h => (pcP (ok_s_l5Copy hv8) ⟨rfl, _, fun _ => [.int .i64 v7.fKind, .int .i64 v7.fNum, .str v7.fStr, .int .i64 v7.fNext, sl 8 TEntry.cells v7.fItems], rfl, one_set rfl, ?_⟩))⟩
 obtain rfl := si h
 exact ⟨rfl, _, rfl, (en [] ⟨rfl, rfl⟩ (.tup_l ⟨.agg_l ⟨.i, .i, .s, .i, .l, ⟨⟩⟩, .b, ⟨⟩⟩) ⟨⟩)⟩
 refine .d ⟨rfl, _, rfl, ⟨rfl, _, rfl, ⟨rfl, _, rfl, (bk h fun v9 hv10 h => (pcP (ok87 hv10) (bk h fun v11 hv12 h => (pcP (ok_s_l5Copy hv12) ⟨rfl, _, fun _ => [.int .i64 v11.fKind, .int .i64 v11.fNum, .str v11.fStr, .int .i64 v11.fNext, sl 8 TEntry.cells v11.fItems], rfl, one_set rfl, ?_⟩))))⟩⟩⟩
 obtain rfl := si h
 exact ⟨rfl, _, rfl, (en [] ⟨rfl, rfl⟩ (.tup_l ⟨.agg_l ⟨.i, .i, .s, .i, .l, ⟨⟩⟩, .b, ⟨⟩⟩) ⟨⟩)⟩
end Go.Am
