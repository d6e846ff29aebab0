/- Models of Go functions, and their walks. (Printed by tools/mg.py.) -/
import Derived.Test.YtgkniabpdgaoiaaDoorK3
import Derived.Test.YtgkniabpdgaoiaaDoorU1
import Derived.Test.YtgkniabpdgaoiaaDoorF4
set_option linter.unusedVariables false
set_option linter.unusedSimpArgs false
set_option maxRecDepth 100000
namespace Go.Am
open Go Go.RowKit Go.Proofs
def m_i_TableOf_L2 (a0 : TValue) (l15 : List Int) (l16 : List TSlot) (b17 : Bool) (y18 : Int) (y19 : Int) (l20 : List Int) (l21 : List TSlot) (y22 : Int) : Option ((List Int) × (List TSlot) × Bool × Int × Int × (List Int) × (List TSlot)) :=
 (if y22 < (a0.fItems.length : Int) then
 idx a0.fItems y22 >>= fun x26 =>
 m46 x26.fVal >>= fun v28 =>
 m_i_putSlot (TTable.mk b17 l20 l21 y18 y19) x26.fKey v28 >>= fun v30 =>
 m_i_TableOf_L2 a0 l15 l16 v30.fHashed v30.fNext v30.fCount v30.fHeads v30.fSlots (W64 (y22 + 1))
 else
 some (l15, l16, b17, y18, y19, l20, l21))
partial_fixpoint
def m_i_TableOf (a0 : TValue) : Option (TTable × Bool) :=
 m_i_IsValue a0 >>= fun v1 =>
 (if v1 = true then
 (if a0.fKind = 4 then
 (
 m_i_TableOf_L2 a0 ([] : List Int) ([] : List TSlot) false 0 0 ([] : List Int) ([] : List TSlot) 0
 : Option ((List Int) × (List TSlot) × Bool × Int × Int × (List Int) × (List TSlot))) >>= fun (l5, l6, b7, y8, y9, l10, l11) =>
 some ((TTable.mk b7 l10 l11 a0.fNext y9), true)
 else
 some ((TTable.mk false [] [] 0 0), false))
 else
 some ((TTable.mk false [] [] 0 0), false))
theorem ok_i_TableOf {a0 : TValue} {r : TTable × Bool} (h : m_i_TableOf a0 = some r) : ACall Tryd.prog 11 [.agg a0.lit] [] (fun res h => res = .tup [.agg r.1.lit, .bool r.2] ∧ h = []) := by
 refine vc1 Tryd.func11 ?_
 unfold m_i_TableOf at h
 refine .d (.d (.d ⟨rfl, _, rfl, (bk h fun v1 hv2 h => (pcP (ok_i_IsValue hv2) (sVn h (fun hb3 h => ?_) (fun hb3 h => ?_))))⟩))
 refine .t (.t (.t (.t (.d ⟨rfl, _, fun _ => [.bool false, .nils, .nils, .int .i64 0, .int .i64 0], rfl, one_set rfl, ?_⟩))))
 obtain rfl := si h
 exact ⟨rfl, _, rfl, (en [] ⟨rfl, rfl⟩ (.tup_l ⟨.agg_l ⟨.b, .z, .z, .i, .i, ⟨⟩⟩, .b, ⟨⟩⟩) ⟨⟩)⟩
 refine ⟨rfl, (.f ⟨rfl, _, rfl, (.f (.f (sN h (fun hb4 h => ?_) (fun hb4 h => ?_))))⟩)⟩
 refine .d ⟨rfl, _, fun _ => [.bool false, .nils, .nils, .int .i64 0, .int .i64 0], rfl, one_set rfl, ?_⟩
 obtain rfl := si h
 exact ⟨rfl, _, rfl, (en [] ⟨rfl, rfl⟩ (.tup_l ⟨.agg_l ⟨.b, .z, .z, .i, .i, ⟨⟩⟩, .b, ⟨⟩⟩) ⟨⟩)⟩
 refine .d (pcP (ok_i_NewTablex) ⟨rfl, _, fun _ => [.bool false, .nils, .nils, .int .i64 0, .int .i64 0], rfl, one_set rfl, ?_⟩)
 obtain ⟨o12, ho13, hk14⟩ := bd h
 replace h := ho13
 refine .cut (fun σ η => ∃ l5, ∃ l6, ∃ b7, ∃ y8, ∃ y9, ∃ l10, ∃ l11, (l5, l6, b7, y8, y9, l10, l11) = o12 ∧ σ = [(1, .optr 0 0 0 0), (2, .optr 1 0 0 0), (4, .optr 4 0 0 0)] ∧ η = [.row 0 5 1 29 (fun _ => a0.lit), .row 0 5 1 36 (fun _ => [.bool false, .own 2 0 0 l5.length, .own 3 0 0 l6.length, .int .i64 0, .int .i64 0]), .row 0 1 l5.length 3 (row cI l5), .row 0 10 l6.length 58 (row TSlot.cells l6), .row 0 5 1 36 (fun _ => [.bool b7, .own 5 0 0 l10.length, .own 6 0 0 l11.length, .int .i64 y8, .int .i64 y9]), .row 0 1 l10.length 3 (row cI l10), .row 0 10 l11.length 58 (row TSlot.cells l11)]) ?_ ?_
 refine .d ⟨rfl, ⟨rfl, _, rfl, ?_⟩⟩
 refine le (m_i_TableOf_L2.partial_correctness a0 ([] : List Int) ([] : List TSlot) (motive := fun b17 y18 y19 l20 l21 y22 o32 => o12 = o32 → LoopAt _ _ [(1, .optr 0 0 0 0), (2, .optr 1 0 0 0), (4, .optr 4 0 0 0), (18, sl 8 TEntry.cells a0.fItems), (19, .int .i64 (a0.fItems.length : Int)), (20, .int .i64 y22)] [.row 0 5 1 29 (fun _ => a0.lit), .row 0 5 1 36 (fun _ => [.bool false, .own 2 0 0 ([] : List Int).length, .own 3 0 0 ([] : List TSlot).length, .int .i64 0, .int .i64 0]), .row 0 1 ([] : List Int).length 3 (row cI ([] : List Int)), .row 0 10 ([] : List TSlot).length 58 (row TSlot.cells ([] : List TSlot)), .row 0 5 1 36 (fun _ => [.bool b17, .own 5 0 0 l20.length, .own 6 0 0 l21.length, .int .i64 y18, .int .i64 y19]), .row 0 1 l20.length 3 (row cI l20), .row 0 10 l21.length 58 (row TSlot.cells l21)]) ?_ false 0 0 ([] : List Int) ([] : List TSlot) 0 o12 h rfl) (tk [0, 1, 5, 6, 2, 8, 9] ⟨.p, .p, .p, .l, .i, .i, ⟨⟩⟩ ⟨(nbp rfl), (nb rfl ⟨.b, .g, .g, .i, .i, ⟨⟩⟩), gh, gh, (nb rfl ⟨.b, .g, .g, .i, .i, ⟨⟩⟩), gh, gh, ⟨⟩⟩)
 intro F24 ih23 b17 y18 y19 l20 l21 y22 o32 h hr33
 subst hr33
 refine LoopAt.round (.d (.d (sD h (fun hb25 h => ?_) (fun hb25 h => ?_))))
 refine .d (.d (bk h fun x26 hx27 h => ⟨idx_bd hx27, _, (idx_row hx27).trans (TEntry.cells_eq x26), ⟨rfl, _, fun _ => [.bool x26.fKey.fText, .int .i64 x26.fKey.fNum, .str x26.fKey.fStr, .int .i64 x26.fVal.fKind, .int .i64 x26.fVal.fNum, .str x26.fVal.fStr, .int .i64 x26.fVal.fNext, sl 8 TEntry.cells x26.fVal.fItems], rfl, one_set rfl, (.float [(0, true), (1, true), (2, true), (3, true), (4, true), (5, false), (6, false), (7, false)] (by kernel_rfl) ?_)⟩⟩))
 exact ⟨rfl, _, rfl, ⟨rfl, ⟨rfl, _, rfl, ⟨rfl, ⟨rfl, _, rfl, (bk h fun v28 hv29 h => (pcP (ok46 hv29) ⟨rfl, ⟨rfl, ⟨rfl, (bk h fun v30 hv31 h => (pcO (ok_i_putSlot (g1000 := 0) (g1001 := 0) hv31) [5, 6] ⟨ov, ov, ⟨⟩⟩ (.agg [.bool v30.fHashed, .own 8 0 0 v30.fHeads.length, .own 9 0 0 v30.fSlots.length, .int .i64 v30.fNext, .int .i64 v30.fCount]) [.row 0 5 1 29 (fun _ => a0.lit), .row 0 5 1 36 (fun _ => [.bool false, .own 2 0 0 ([] : List Int).length, .own 3 0 0 ([] : List TSlot).length, .int .i64 0, .int .i64 0]), .row 0 1 ([] : List Int).length 3 (row cI ([] : List Int)), .row 0 10 ([] : List TSlot).length 58 (row TSlot.cells ([] : List TSlot)), .row 0 5 1 36 (fun _ => [.bool b17, .own 5 0 0 l20.length, .own 6 0 0 l21.length, .int .i64 y18, .int .i64 y19]), .dead, .dead, .row 0 8 1 43 (fun _ => x26.lit), .row 0 1 v30.fHeads.length 3 (row cI v30.fHeads), .row 0 10 v30.fSlots.length 58 (row TSlot.cells v30.fSlots)] ⟨rfl, _, fun _ => [.bool v30.fHashed, .own 8 0 0 v30.fHeads.length, .own 9 0 0 v30.fSlots.length, .int .i64 v30.fNext, .int .i64 v30.fCount], rfl, one_set rfl, (lg (ih23 _ _ _ _ _ _ _ h rfl) (tk [0, 1, 2, 3, 4, 8, 9] ⟨.p, .p, .p, .l, .i, .i, ⟨⟩⟩ ⟨(nbp rfl), (nb rfl ⟨.b, .o, .o, .i, .i, ⟨⟩⟩), nw, nw, (nb rfl ⟨.b, .o, .o, .i, .i, ⟨⟩⟩), nw, nw, ⟨⟩⟩))⟩))⟩⟩⟩))⟩⟩⟩⟩⟩
 exact ct ⟨_, _, _, _, _, _, _, si h, rfl, rfl⟩ (tk [0, 1, 2, 3, 4, 5, 6] ⟨.p, .p, .p, ⟨⟩⟩ ⟨(nbp rfl), (nb rfl ⟨.b, .o, .o, .i, .i, ⟨⟩⟩), nw, nw, (nb rfl ⟨.b, .o, .o, .i, .i, ⟨⟩⟩), nw, nw, ⟨⟩⟩)
 rintro _ _ ⟨l5, l6, b7, y8, y9, l10, l11, rfl, rfl, rfl⟩
 replace h := hk14
 refine .d ⟨rfl, ⟨rfl, _, rfl, ⟨rfl, ⟨rfl, _, fun _ => [.bool b7, .own 5 0 0 l10.length, .own 6 0 0 l11.length, .int .i64 a0.fNext, .int .i64 y9], rfl, one_set rfl, (.d ⟨rfl, _, rfl, ⟨rfl, _, fun _ => [.bool b7, .own 5 0 0 l10.length, .own 6 0 0 l11.length, .int .i64 a0.fNext, .int .i64 y9], rfl, one_set rfl, ?_⟩⟩)⟩⟩⟩⟩
 obtain rfl := si h
 exact ⟨rfl, _, rfl, (en [] ⟨rfl, rfl⟩ (.tup_l ⟨.agg_l ⟨.b, .r, .r, .i, .i, ⟨⟩⟩, .b, ⟨⟩⟩) ⟨⟩)⟩
def m_i_TableValue_L2 (a0 : TTable) (l5 : List TEntry) (y6 : Int) : Option ((List TEntry)) :=
 (if y6 < (a0.fSlots.length : Int) then
 idx a0.fSlots y6 >>= fun x10 =>
 (if x10.fLive = true then
 m46 x10.fVal >>= fun v13 =>
 lapp 96 l5 ([(TEntry.mk x10.fKey v13)] : List TEntry) >>= fun l15 =>
 m_i_TableValue_L2 a0 l15 (W64 (y6 + 1))
 else
 m_i_TableValue_L2 a0 l5 (W64 (y6 + 1)))
 else
 some l5)
partial_fixpoint
def m_i_TableValue (a0 : TTable) : Option (TValue) :=
 (
 m_i_TableValue_L2 a0 ([] : List TEntry) 0
 : Option ((List TEntry))) >>= fun l1 =>
 some (TValue.mk 4 0 [] a0.fNext l1)
theorem ok_i_TableValue {a0 : TTable} {r : TValue} (h : m_i_TableValue a0 = some r) : ACall Tryd.prog 14 [.agg a0.lit] [] (fun res h => res = .agg r.lit ∧ h = []) := by
 refine vc1 Tryd.func14 ?_
 unfold m_i_TableValue at h
 refine .d (.d (pcP (ok_i_ArrayValuex) ⟨rfl, _, fun _ => [.int .i64 4, .int .i64 0, .str [], .int .i64 0, .nils], rfl, one_set rfl, (.d ⟨rfl, ⟨rfl, _, rfl, ⟨rfl, ⟨rfl, _, fun _ => [.int .i64 4, .int .i64 0, .str [], .int .i64 a0.fNext, .nils], rfl, one_set rfl, ?_⟩⟩⟩⟩)⟩))
 obtain ⟨o2, ho3, hk4⟩ := bd h
 replace h := ho3
 refine .cut (fun σ η => ∃ l1, l1 = o2 ∧ σ = [(2, .optr 0 0 0 0), (3, .optr 1 0 0 0)] ∧ η = [.row 0 5 1 29 (fun _ => [.int .i64 0, .int .i64 0, .str [], .int .i64 0, .nils]), .row 0 5 1 29 (fun _ => [.int .i64 4, .int .i64 0, .str [], .int .i64 a0.fNext, .own 2 0 0 l1.length]), .row 0 8 l1.length 43 (row TEntry.cells l1)]) ?_ ?_
 refine .d ⟨rfl, ⟨rfl, _, rfl, ?_⟩⟩
 refine le (m_i_TableValue_L2.partial_correctness a0 (motive := fun l5 y6 o17 => o2 = o17 → LoopAt _ _ [(2, .optr 0 0 0 0), (3, .optr 1 0 0 0), (11, sl 10 TSlot.cells a0.fSlots), (12, .int .i64 (a0.fSlots.length : Int)), (13, .int .i64 y6)] [.row 0 5 1 29 (fun _ => [.int .i64 0, .int .i64 0, .str [], .int .i64 0, .nils]), .row 0 5 1 29 (fun _ => [.int .i64 4, .int .i64 0, .str [], .int .i64 a0.fNext, .own 2 0 0 l5.length]), .row 0 8 l5.length 43 (row TEntry.cells l5)]) ?_ ([] : List TEntry) 0 o2 h rfl) (tk [1, 2, 5] ⟨.p, .p, .l, .i, .i, ⟨⟩⟩ ⟨(nb rfl ⟨.i, .i, .s, .i, .nils, ⟨⟩⟩), (nb rfl ⟨.i, .i, .s, .i, .g, ⟨⟩⟩), gh, ⟨⟩⟩)
 intro F8 ih7 l5 y6 o17 h hr18
 subst hr18
 refine LoopAt.round (.d (.d (sD h (fun hb9 h => ?_) (fun hb9 h => ?_))))
 refine .d (.d (bk h fun x10 hx11 h => ⟨idx_bd hx11, _, (idx_row hx11).trans (TSlot.cells_eq x10), ⟨rfl, _, fun _ => [.bool x10.fKey.fText, .int .i64 x10.fKey.fNum, .str x10.fKey.fStr, .int .i64 x10.fVal.fKind, .int .i64 x10.fVal.fNum, .str x10.fVal.fStr, .int .i64 x10.fVal.fNext, sl 8 TEntry.cells x10.fVal.fItems, .bool x10.fLive, .int .i64 x10.fLink], rfl, one_set rfl, (.d ⟨rfl, ⟨rfl, _, rfl, (sV h (fun hb12 h => ?_) (fun hb12 h => ?_))⟩⟩)⟩⟩))
 refine .float [(0, true), (1, true), (2, true), (3, true), (4, true), (5, true), (6, false), (7, true), (8, false), (9, false), (10, true), (11, false)] (by kernel_rfl) ?_
 refine ⟨rfl, ⟨rfl, _, rfl, ⟨rfl, ⟨rfl, _, rfl, ⟨rfl, ⟨rfl, _, rfl, (bk h fun v13 hv14 h => (pcP (ok46 hv14) ⟨rfl, ⟨rfl, ⟨rfl, ⟨rfl, ⟨row TEntry.cells ([(TEntry.mk x10.fKey v13)] : List TEntry), row_lit TEntry.cells ([(TEntry.mk x10.fKey v13)] : List TEntry) rfl (cll_cons (TEntry.cells_eq _) ⟨.same _, .same _, .same _, .same _, .same _, .same _, .same _, .same _, trivial⟩ trivial), ⟨rfl, ⟨rfl, ?_⟩⟩⟩⟩⟩⟩⟩))⟩⟩⟩⟩⟩⟩
 exact bk h fun l15 hx16 h => ⟨rfl, rfl, lapp_bd hx16, l15.length, row TEntry.cells l15, lapp_len hx16, lapp_row hx16 shows_all (src_own shows_all), ⟨rfl, ⟨rfl, _, fun _ => [.int .i64 4, .int .i64 0, .str [], .int .i64 a0.fNext, .own 2 (0 + 1) 0 l15.length], rfl, one_set rfl, (lg (ih7 _ _ _ h rfl) (tk [0, 1, 2] ⟨.p, .p, .l, .i, .i, ⟨⟩⟩ ⟨(nb rfl ⟨.i, .i, .s, .i, .nils, ⟨⟩⟩), (nb rfl ⟨.i, .i, .s, .i, .o, ⟨⟩⟩), nw, ⟨⟩⟩))⟩⟩⟩
 exact lg (ih7 _ _ _ h rfl) (tk [0, 1, 2] ⟨.p, .p, .l, .i, .i, ⟨⟩⟩ ⟨(nb rfl ⟨.i, .i, .s, .i, .nils, ⟨⟩⟩), (nb rfl ⟨.i, .i, .s, .i, .o, ⟨⟩⟩), nw, ⟨⟩⟩)
 exact ct ⟨_, si h, rfl, rfl⟩ (tk [0, 1, 2] ⟨.p, .p, ⟨⟩⟩ ⟨(nb rfl ⟨.i, .i, .s, .i, .nils, ⟨⟩⟩), (nb rfl ⟨.i, .i, .s, .i, .o, ⟨⟩⟩), nw, ⟨⟩⟩)
 rintro _ _ ⟨l1, rfl, rfl, rfl⟩
 replace h := hk4
 refine .d ⟨rfl, _, rfl, ⟨rfl, _, fun _ => [.int .i64 4, .int .i64 0, .str [], .int .i64 a0.fNext, .own 2 0 0 l1.length], rfl, one_set rfl, ?_⟩⟩
 obtain rfl := si h
 exact ⟨rfl, _, rfl, (en [] ⟨rfl, rfl⟩ (.agg_l ⟨.i, .i, .s, .i, .r, ⟨⟩⟩) ⟨⟩)⟩
def m_s_DrawTableOf (a0 : List UInt8) : Option (TValue) :=
 m36 a0 >>= fun v1 =>
 m49 v1 >>= fun (v3, v4) =>
 some v3
theorem ok_s_DrawTableOf {a0 : List UInt8} {r : TValue} (h : m_s_DrawTableOf a0 = some r) : ACall Tryd.prog 10 [sl 1 cB a0] [] (fun res h => res = .agg r.lit ∧ h = []) := by
 refine vc1 Tryd.func10 ?_
 unfold m_s_DrawTableOf at h
 refine .d (.d (bk h fun v1 hv2 h => (pcF (ok36 hv2) (.optr 1 0 0 0) [.row 0 5 1 29 (fun _ => [.int .i64 0, .int .i64 0, .str [], .int .i64 0, .nils]), .row 0 3 1 63 (fun _ => v1.lit)] (.d ?_))))
 obtain ⟨⟨v3, v4⟩, hv5, h⟩ := bd h
 refine pcO (ok49 (g1000 := 0) hv5) [1] ⟨rfl, ⟨⟩⟩ (.agg v3.lit) [.row 0 5 1 29 (fun _ => [.int .i64 0, .int .i64 0, .str [], .int .i64 0, .nils]), .row 0 3 1 63 (fun _ => v4.lit)] ⟨rfl, _, fun _ => [.int .i64 v3.fKind, .int .i64 v3.fNum, .str v3.fStr, .int .i64 v3.fNext, sl 8 TEntry.cells v3.fItems], rfl, one_set rfl, ?_⟩
 obtain rfl := si h
 exact ⟨rfl, _, rfl, (en [] ⟨rfl, rfl⟩ (.agg_l ⟨.i, .i, .s, .i, .l, ⟨⟩⟩) ⟨⟩)⟩
def m_l_FnPacked_L2 (v2 : TValue) (b29 : Bool) (y30 : Int) : Option (Bool) :=
 (if y30 < (v2.fItems.length : Int) then
 (if b29 = true then
 idx v2.fItems y30 >>= fun x35 =>
 m_l_FnPacked_L2 v2 (decide (x35.fKey = (TKey.mk false y30 []))) (W64 (y30 + 1))
 else
 m_l_FnPacked_L2 v2 false (W64 (y30 + 1)))
 else
 some b29)
partial_fixpoint
def m_l_FnPacked (a0 : List UInt8) : Option (Bool) :=
 (if (a0.length : Int) > 1048576 then
 some true
 else
 m_s_DrawTableOf a0 >>= fun v2 =>
 (
 m_i_TableOf v2 >>= fun (v13, v14) =>
 some (v13.fHashed, v13.fHeads, v13.fSlots, v13.fNext, v13.fCount, v14)
 : Option (Bool × (List Int) × (List TSlot) × Int × Int × Bool)) >>= fun (b4, l5, l6, y7, y8, b9) =>
 ((
 m22 v2 >>= fun v19 =>
 (if v19 = true then
 (if b9 = (v2.fKind == 4) then
 some (.inl ())
 else
 some (.inr false))
 else
 (if b9 = false then
 some (.inl ())
 else
 some (.inr false)))
 : Option ((Unit) ⊕ Bool)) >>= fun o16 => match o16 with
 | .inr r => some r
 | .inl _ =>
 (if b9 = true then
 (
 m_l_FnPacked_L2 v2 true 0
 : Option (Bool)) >>= fun b25 =>
 m_s_IsTable (TTable.mk b4 l5 l6 y7 y8) >>= fun v39 =>
 (if v39 = true then
 m_i_TableValue (TTable.mk b4 l5 l6 y7 y8) >>= fun v42 =>
 m19 v42 v2 >>= fun v44 =>
 (if v44 = true then
 some (b4 == (!b25))
 else
 some false)
 else
 some false)
 else
 some true)
 ))
theorem ok_l_FnPacked {a0 : List UInt8} {r : Bool} (h : m_l_FnPacked a0 = some r) : ACall Tryd.prog 4 [sl 1 cB a0] [] (fun res h => res = .bool r ∧ h = []) := by
 refine vc1 Tryd.func4 ?_
 unfold m_l_FnPacked at h
 refine .d (.d (.d (pcP (ok_l_bigx a0) (sD h (fun hb1 h => ?_) (fun hb1 h => ?_)))))
 exact .d (eB h)
 refine .d (bk h fun v2 hv3 h => (pcP (ok_s_DrawTableOf hv3) ⟨rfl, _, fun _ => [.int .i64 v2.fKind, .int .i64 v2.fNum, .str v2.fStr, .int .i64 v2.fNext, sl 8 TEntry.cells v2.fItems], rfl, one_set rfl, ?_⟩))
 obtain ⟨o10, ho11, hk12⟩ := bd h
 replace h := ho11
 refine .cut (fun σ η => ∃ b4, ∃ l5, ∃ l6, ∃ y7, ∃ y8, ∃ b9, (b4, l5, l6, y7, y8, b9) = o10 ∧ σ = [(3, .optr 0 0 0 0), (4, .optr 1 0 0 0), (5, .bool b9)] ∧ η = [.row 0 5 1 29 (fun _ => v2.lit), .row 0 5 1 36 (fun _ => [.bool b4, sl 1 cI l5, sl 10 TSlot.cells l6, .int .i64 y7, .int .i64 y8])]) ?_ ?_
 refine ⟨rfl, _, rfl, ?_⟩
 obtain ⟨⟨v13, v14⟩, hv15, h⟩ := bd h
 exact pcP (ok_i_TableOf hv15) ⟨rfl, _, fun _ => [.bool v13.fHashed, sl 1 cI v13.fHeads, sl 10 TSlot.cells v13.fSlots, .int .i64 v13.fNext, .int .i64 v13.fCount], rfl, one_set rfl, (ct ⟨_, _, _, _, _, _, si h, rfl, rfl⟩ (tk [0, 1] ⟨.p, .p, .b, ⟨⟩⟩ ⟨(nbp rfl), (nbp rfl), ⟨⟩⟩))⟩
 rintro _ _ ⟨b4, l5, l6, y7, y8, b9, rfl, rfl, rfl⟩
 replace h := hk12
 obtain ⟨o16, ho17, hk18⟩ := bd h
 replace h := ho17
 refine .cut (fun σ η => .inl () = o16 ∧ σ = [(3, .optr 0 0 0 0), (4, .optr 1 0 0 0), (5, .bool b9)] ∧ η = [.row 0 5 1 29 (fun _ => v2.lit), .row 0 5 1 36 (fun _ => [.bool b4, sl 1 cI l5, sl 10 TSlot.cells l6, .int .i64 y7, .int .i64 y8])]) ?_ ?_
 refine .d ⟨rfl, _, rfl, (bk h fun v19 hv20 h => (pcP (ok22 hv20) (sV h (fun hb21 h => ?_) (fun hb21 h => ?_))))⟩
 refine ⟨rfl, (.t ⟨rfl, _, rfl, (.t (.t (sEn h (fun hb22 h => ?_) (fun hb22 h => ?_))))⟩)⟩
 refine .d ?_
 obtain rfl := si h
 replace h := hk18
 exact eB h
 exact ct ⟨si h, rfl, rfl⟩ (tk [0, 1] ⟨.p, .p, .b, ⟨⟩⟩ ⟨(nbp rfl), (nbp rfl), ⟨⟩⟩)
 refine .f (.f (.f (sEn h (fun hb23 h => ?_) (fun hb23 h => ?_))))
 refine .d ?_
 obtain rfl := si h
 replace h := hk18
 exact eB h
 exact ct ⟨si h, rfl, rfl⟩ (tk [0, 1] ⟨.p, .p, .b, ⟨⟩⟩ ⟨(nbp rfl), (nbp rfl), ⟨⟩⟩)
 rintro _ _ ⟨rfl, rfl, rfl⟩
 replace h := hk18
 refine .d (.d (sVn h (fun hb24 h => ?_) (fun hb24 h => ?_)))
 exact .d (eB h)
 refine .d ?_
 obtain ⟨o26, ho27, hk28⟩ := bd h
 replace h := ho27
 refine .cut (fun σ η => ∃ b25, b25 = o26 ∧ σ = [(3, .optr 0 0 0 0), (4, .optr 1 0 0 0), (6, .bool b25)] ∧ η = [.row 0 5 1 29 (fun _ => v2.lit), .row 0 5 1 36 (fun _ => [.bool b4, sl 1 cI l5, sl 10 TSlot.cells l6, .int .i64 y7, .int .i64 y8])]) ?_ ?_
 refine .d ?_
 refine le (m_l_FnPacked_L2.partial_correctness v2 (motive := fun b29 y30 o37 => o26 = o37 → LoopAt _ _ [(3, .optr 0 0 0 0), (4, .optr 1 0 0 0), (6, .bool b29), (7, .int .i64 y30)] [.row 0 5 1 29 (fun _ => v2.lit), .row 0 5 1 36 (fun _ => [.bool b4, sl 1 cI l5, sl 10 TSlot.cells l6, .int .i64 y7, .int .i64 y8])]) ?_ true 0 o26 h rfl) (tk [0, 1] ⟨.p, .p, .b, .i, ⟨⟩⟩ ⟨(nbp rfl), (nbp rfl), ⟨⟩⟩)
 intro F32 ih31 b29 y30 o37 h hr38
 subst hr38
 refine LoopAt.round (.d (.d ⟨rfl, ⟨rfl, _, rfl, (sD h (fun hb33 h => ?_) (fun hb33 h => ?_))⟩⟩))
 refine .d (sV h (fun hb34 h => ?_) (fun hb34 h => ?_))
 exact ⟨rfl, (.t ⟨rfl, _, rfl, (.t (.t (bk h fun x35 hx36 h => ⟨idx_bd hx36, _, (idx_row hx36).trans (TEntry.cells_eq x35), (.t (.t (.t (.t (.t ⟨_, TKey.eq_cells x35.fKey (TKey.mk false y30 []), (.t (lg (ih31 _ _ _ h rfl) (tk [0, 1] ⟨.p, .p, .b, .i, ⟨⟩⟩ ⟨(nbp rfl), (nbp rfl), ⟨⟩⟩)))⟩)))))⟩)))⟩)⟩
 exact .f (.f (.f (.f (.f (.f (.f (.f (.f (lg (ih31 _ _ _ h rfl) (tk [0, 1] ⟨.p, .p, .b, .i, ⟨⟩⟩ ⟨(nbp rfl), (nbp rfl), ⟨⟩⟩))))))))))
 exact ct ⟨_, si h, rfl, rfl⟩ (tk [0, 1] ⟨.p, .p, .b, ⟨⟩⟩ ⟨(nbp rfl), (nbp rfl), ⟨⟩⟩)
 rintro _ _ ⟨b25, rfl, rfl, rfl⟩
 replace h := hk28
 refine .d (.float [(0, true), (1, false), (2, true), (3, true), (5, true), (4, false), (6, false), (7, true), (8, true), (9, true), (10, true), (11, true), (12, true), (13, true), (14, true), (15, true)] (by kernel_rfl) ?_)
 refine ⟨rfl, _, rfl, (bk h fun v39 hv40 h => (pcP (ok_s_IsTable hv40) (sV h (fun hb41 h => ?_) (fun hb41 h => ?_))))⟩
 refine ⟨rfl, _, rfl, (.t ⟨rfl, _, rfl, (.t (bk h fun v42 hv43 h => (pcP (ok_i_TableValue hv43) ⟨rfl, (.t (bk h fun v44 hv45 h => (pcP (ok19 hv45) (.t (sV h (fun hb46 h => ?_) (fun hb46 h => ?_))))))⟩)))⟩)⟩
 exact ⟨rfl, (.t ⟨rfl, _, rfl, (.t (.t (.t (.t (eB h)))))⟩)⟩
 exact .f (.f (.f (.f (.f (eB h)))))
 exact .f (.f ⟨rfl, (.f (.f (.f (.f (.f (.f (.f (.f (eB h)))))))))⟩)
end Go.Am
