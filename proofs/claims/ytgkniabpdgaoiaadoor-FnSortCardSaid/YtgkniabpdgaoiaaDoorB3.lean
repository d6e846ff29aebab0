/- Models of Go functions, and their walks. (Printed by tools/mg.py.) -/
import Derived.Test.YtgkniabpdgaoiaaDoorB2
import Derived.Test.YtgkniabpdgaoiaaDoorF4
import Derived.Test.YtgkniabpdgaoiaaDoorI3
set_option linter.unusedVariables false
set_option linter.unusedSimpArgs false
set_option maxRecDepth 100000
namespace Go.Am
open Go Go.RowKit Go.Proofs
def m_i_SortValues_L26 (l5 : List TValue) (x14 : TValue) (y20 : Int) : Option (Int) :=
 (if y20 > 0 then
 idx l5 (W64 (y20 - 1)) >>= fun x24 =>
 m_i_CompareValues x24 x14 >>= fun v26 =>
 (if v26 = 1 then
 m_i_SortValues_L26 l5 x14 (W64 (y20 - 1))
 else
 some y20)
 else
 some y20)
partial_fixpoint
def m_i_SortValues_L22 (a0 : List TValue) (l5 : List TValue) (y6 : Int) : Option ((List TValue)) :=
 (if y6 < (a0.length : Int) then
 (
 idx a0 y6 >>= fun x14 =>
 (
 m_i_SortValues_L26 l5 x14 (l5.length : Int)
 : Option (Int)) >>= fun y16 =>
 m46 x14 >>= fun v31 =>
 m_Insert l5 y16 ([v31] : List TValue) >>= fun v33 =>
 some v33
 : Option ((List TValue))) >>= fun l10 =>
 m_i_SortValues_L22 a0 l10 (W64 (y6 + 1))
 else
 some l5)
partial_fixpoint
def m_i_SortValues (a0 : List TValue) : Option ((List TValue)) :=
 (
 m_i_SortValues_L22 a0 ([] : List TValue) 0
 : Option ((List TValue))) >>= fun l1 =>
 some l1
theorem ok_i_SortValues {a0 : List TValue} {r : (List TValue)} (h : m_i_SortValues a0 = some r) : ACall Tryd.prog 7 [sl 5 TValue.cells a0] [] (fun res h => res = sl 5 TValue.cells r ∧ h = []) := by
 refine vc1 Tryd.func7 ?_
 unfold m_i_SortValues at h
 refine .d (.d ⟨row TValue.cells ([] : List TValue), row_lit TValue.cells ([] : List TValue) rfl (cll_refl rfl), ?_⟩)
 obtain ⟨o2, ho3, hk4⟩ := bd h
 replace h := ho3
 refine .cut (fun σ η => ∃ l1, l1 = o2 ∧ σ = [(3, .own 0 0 0 l1.length)] ∧ η = [.row 0 5 l1.length 29 (row TValue.cells l1)]) ?_ ?_
 refine .d ?_
 refine le (m_i_SortValues_L22.partial_correctness a0 (motive := fun l5 y6 o35 => o2 = o35 → LoopAt _ _ [(3, .own 0 0 0 l5.length), (8, sl 5 TValue.cells a0), (9, .int .i64 (a0.length : Int)), (10, .int .i64 y6)] [.row 0 5 l5.length 29 (row TValue.cells l5)]) ?_ ([] : List TValue) 0 o2 h rfl) (tk [0] ⟨.o, .l, .i, .i, ⟨⟩⟩ ⟨nw, ⟨⟩⟩)
 intro F8 ih7 l5 y6 o35 h hr36
 subst hr36
 refine LoopAt.round (.d (.d (sD h (fun hb9 h => ?_) (fun hb9 h => ?_))))
 obtain ⟨o11, ho12, hk13⟩ := bd h
 replace h := ho12
 refine .cut (fun σ η => ∃ l10, l10 = o11 ∧ σ = [(3, .own 0 0 0 l10.length), (8, sl 5 TValue.cells a0), (9, .int .i64 (a0.length : Int)), (10, .int .i64 y6)] ∧ η = [.row 0 5 l10.length 29 (row TValue.cells l10)]) ?_ ?_
 refine .d (bk h fun x14 hx15 h => ⟨idx_bd hx15, _, (idx_row hx15).trans (TValue.cells_eq x14), ⟨rfl, _, fun _ => [.int .i64 x14.fKind, .int .i64 x14.fNum, .str x14.fStr, .int .i64 x14.fNext, sl 8 TEntry.cells x14.fItems], rfl, one_set rfl, (.d ⟨rfl, ?_⟩)⟩⟩)
 obtain ⟨o17, ho18, hk19⟩ := bd h
 replace h := ho18
 refine .cut (fun σ η => ∃ y16, y16 = o17 ∧ σ = [(3, .own 0 0 0 l5.length), (5, .optr 1 0 0 0), (6, .int .i64 y16), (8, sl 5 TValue.cells a0), (9, .int .i64 (a0.length : Int)), (10, .int .i64 y6)] ∧ η = [.row 0 5 l5.length 29 (row TValue.cells l5), .row 0 5 1 29 (fun _ => x14.lit)]) ?_ ?_
 refine le (m_i_SortValues_L26.partial_correctness l5 x14 (motive := fun y20 o29 => o17 = o29 → LoopAt _ _ [(3, .own 0 0 0 l5.length), (5, .optr 1 0 0 0), (6, .int .i64 y20), (8, sl 5 TValue.cells a0), (9, .int .i64 (a0.length : Int)), (10, .int .i64 y6)] [.row 0 5 l5.length 29 (row TValue.cells l5), .row 0 5 1 29 (fun _ => x14.lit)]) ?_ (l5.length : Int) o17 h rfl) (tk [0, 1] ⟨.o, .p, .i, .l, .i, .i, ⟨⟩⟩ ⟨nw, (nbp rfl), ⟨⟩⟩)
 intro F22 ih21 y20 o29 h hr30
 subst hr30
 refine LoopAt.round (.d (.d (.float [(0, true), (1, true), (2, true), (3, true), (4, true), (5, true), (6, true), (7, true), (8, true), (9, false), (10, true), (11, true)] (by kernel_rfl) ?_)))
 refine sD h (fun hb23 h => ?_) (fun hb23 h => ?_)
 refine .t (.t (.t (bk h fun x24 hx25 h => ⟨rfl, idx_bd hx25, _, Nat.zero_add _, (.t ⟨rfl, _, ((idx_row hx25).trans (TValue.cells_eq x24)), (.t ⟨rfl, _, rfl, (.t (bk h fun v26 hv27 h => (pcP (ok_i_CompareValues hv27) (.t (.t (sE h (fun hb28 h => ?_) (fun hb28 h => ?_)))))))⟩)⟩)⟩)))
 exact lg (ih21 _ _ h rfl) (tk [0, 1] ⟨.o, .p, .i, .l, .i, .i, ⟨⟩⟩ ⟨nw, (nbp rfl), ⟨⟩⟩)
 exact ct ⟨_, si h, rfl, rfl⟩ (tk [0, 1] ⟨.o, .p, .i, .l, .i, .i, ⟨⟩⟩ ⟨nw, (nbp rfl), ⟨⟩⟩)
 exact .f (.f (.f (.f (.f (.f (.f (.f (.f (ct ⟨_, si h, rfl, rfl⟩ (tk [0, 1] ⟨.o, .p, .i, .l, .i, .i, ⟨⟩⟩ ⟨nw, (nbp rfl), ⟨⟩⟩))))))))))
 rintro _ _ ⟨y16, rfl, rfl, rfl⟩
 replace h := hk19
 exact ⟨rfl, _, rfl, (bk h fun v31 hv32 h => (pcP (ok46 hv32) ⟨row TValue.cells ([v31] : List TValue), row_lit TValue.cells ([v31] : List TValue) rfl (cll_cons (TValue.cells_eq _) ⟨.same _, .same _, .same _, .same _, .same _, trivial⟩ trivial), (bk h fun v33 hv34 h => (pcO (ok_Insert (g1000 := 0) (g1001 := 0) hv34) [0, 2] ⟨ov, ov, ⟨⟩⟩ (.own 3 0 0 v33.length) [.dead, .row 0 5 1 29 (fun _ => x14.lit), .dead, .row 0 5 v33.length 29 (row TValue.cells v33)] (ct ⟨_, si h, rfl, rfl⟩ (tk [3] ⟨.o, .l, .i, .i, ⟨⟩⟩ ⟨nw, ⟨⟩⟩))))⟩))⟩
 rintro _ _ ⟨l10, rfl, rfl, rfl⟩
 replace h := hk13
 exact lg (ih7 _ _ _ h rfl) (tk [0] ⟨.o, .l, .i, .i, ⟨⟩⟩ ⟨nw, ⟨⟩⟩)
 exact ct ⟨_, si h, rfl, rfl⟩ (tk [0] ⟨.o, ⟨⟩⟩ ⟨nw, ⟨⟩⟩)
 rintro _ _ ⟨l1, rfl, rfl, rfl⟩
 replace h := hk4
 refine .d ?_
 obtain rfl := si h
 exact en [] ⟨rfl, rfl⟩ .r ⟨⟩
def m_s_l9List_L2 (l11 : List UInt8) (y12 : Int) (y13 : Int) (l14 : List TValue) (y15 : Int) : Option ((List UInt8) × Int × Int × (List TValue)) :=
 (if y15 > 0 then
 m37 (TL1Cur.mk l11 y12 y13) 5 >>= fun (v19, v20) =>
 (if v19 = true then
 m50 v20 2 >>= fun (v23, v24) =>
 lapp 64 l14 ([v23] : List TValue) >>= fun l26 =>
 m_s_l9List_L2 v24.fB v24.fI v24.fH l26 (W64 (y15 - 1))
 else
 m40 v20 9 >>= fun (v28, v29) =>
 lapp 64 l14 ([(TValue.mk 2 v28 [] 0 [])] : List TValue) >>= fun l31 =>
 m_s_l9List_L2 v29.fB v29.fI v29.fH l31 (W64 (y15 - 1)))
 else
 some (l11, y12, y13, l14))
partial_fixpoint
def m_s_l9List (a0 : TL1Cur) : Option ((List TValue) × TL1Cur) :=
 (
 m40 a0 7 >>= fun (v8, v9) =>
 m_s_l9List_L2 v9.fB v9.fI v9.fH ([] : List TValue) v8
 : Option ((List UInt8) × Int × Int × (List TValue))) >>= fun (l1, y2, y3, l4) =>
 some (l4, (TL1Cur.mk l1 y2 y3))
theorem ok_s_l9List {a0 : TL1Cur} {r : (List TValue) × TL1Cur} {g1000 : Nat} (h : m_s_l9List a0 = some r) : ACall Tryd.prog 16 [.optr 0 g1000 0 0] [.row g1000 3 1 63 (fun _ => a0.lit)] (fun res h => res = sl 5 TValue.cells r.1 ∧ h = [.row g1000 3 1 63 (fun _ => r.2.lit)]) := by
 refine vc1 Tryd.func16 ?_
 unfold m_s_l9List at h
 refine .d (.d ⟨row TValue.cells ([] : List TValue), row_lit TValue.cells ([] : List TValue) rfl (cll_refl rfl), ?_⟩)
 obtain ⟨o5, ho6, hk7⟩ := bd h
 replace h := ho6
 refine .cut (fun σ η => ∃ l1, ∃ y2, ∃ y3, ∃ l4, (l1, y2, y3, l4) = o5 ∧ σ = [(3, .own 1 0 0 l4.length)] ∧ η = [.row g1000 3 1 63 (fun _ => [sl 1 cB l1, .int .i64 y2, .int .i64 y3]), .row 0 5 l4.length 29 (row TValue.cells l4)]) ?_ ?_
 refine .d ?_
 obtain ⟨⟨v8, v9⟩, hv10, h⟩ := bd h
 refine pcO (ok40 (g1000 := g1000) hv10) [0] ⟨rfl, ⟨⟩⟩ (.int .i64 v8) [.row g1000 3 1 63 (fun _ => v9.lit), .row 0 5 ([] : List TValue).length 29 (row TValue.cells ([] : List TValue))] ?_
 refine le (m_s_l9List_L2.partial_correctness  (motive := fun l11 y12 y13 l14 y15 o33 => o5 = o33 → LoopAt _ _ [(0, .optr 0 g1000 0 0), (3, .own 1 0 0 l14.length), (4, .int .i64 y15)] [.row g1000 3 1 63 (fun _ => [sl 1 cB l11, .int .i64 y12, .int .i64 y13]), .row 0 5 l14.length 29 (row TValue.cells l14)]) ?_ v9.fB v9.fI v9.fH ([] : List TValue) v8 o5 h rfl) (tk [0, 1] ⟨.p, .o, .i, ⟨⟩⟩ ⟨(obp rfl), nw, ⟨⟩⟩)
 intro F17 ih16 l11 y12 y13 l14 y15 o33 h hr34
 subst hr34
 refine LoopAt.round (.d (.d (sD h (fun hb18 h => ?_) (fun hb18 h => ?_))))
 refine .d (.d ?_)
 obtain ⟨⟨v19, v20⟩, hv21, h⟩ := bd h
 refine pcO (ok37 (g1000 := g1000) hv21) [0] ⟨rfl, ⟨⟩⟩ (.bool v19) [.row g1000 3 1 63 (fun _ => v20.lit), .row 0 5 l14.length 29 (row TValue.cells l14)] (sV h (fun hb22 h => ?_) (fun hb22 h => ?_))
 obtain ⟨⟨v23, v24⟩, hv25, h⟩ := bd h
 exact pcO (ok50 (g1000 := g1000) hv25) [0] ⟨rfl, ⟨⟩⟩ (.agg v23.lit) [.row g1000 3 1 63 (fun _ => v24.lit), .row 0 5 l14.length 29 (row TValue.cells l14)] ⟨row TValue.cells ([v23] : List TValue), row_lit TValue.cells ([v23] : List TValue) rfl (cll_cons (TValue.cells_eq _) ⟨.same _, .same _, .same _, .same _, .same _, trivial⟩ trivial), (bk h fun l26 hx27 h => ⟨rfl, rfl, lapp_bd hx27, l26.length, row TValue.cells l26, lapp_len hx27, lapp_row hx27 shows_all (src_own shows_all), (lg (ih16 _ _ _ _ _ _ h rfl) (tk [0, 1] ⟨.p, .o, .i, ⟨⟩⟩ ⟨(obp rfl), nw, ⟨⟩⟩))⟩)⟩
 obtain ⟨⟨v28, v29⟩, hv30, h⟩ := bd h
 exact pcO (ok40 (g1000 := g1000) hv30) [0] ⟨rfl, ⟨⟩⟩ (.int .i64 v28) [.row g1000 3 1 63 (fun _ => v29.lit), .row 0 5 l14.length 29 (row TValue.cells l14)] (pcP (ok_s_IntValuex v28) ⟨row TValue.cells ([(TValue.mk 2 v28 [] 0 [])] : List TValue), row_lit TValue.cells ([(TValue.mk 2 v28 [] 0 [])] : List TValue) rfl (cll_cons (TValue.cells_eq _) ⟨.same _, .same _, .same _, .same _, .nil _ _, trivial⟩ trivial), (bk h fun l31 hx32 h => ⟨rfl, rfl, lapp_bd hx32, l31.length, row TValue.cells l31, lapp_len hx32, lapp_row hx32 shows_all (src_own shows_all), (lg (ih16 _ _ _ _ _ _ h rfl) (tk [0, 1] ⟨.p, .o, .i, ⟨⟩⟩ ⟨(obp rfl), nw, ⟨⟩⟩))⟩)⟩)
 exact ct ⟨_, _, _, _, si h, rfl, rfl⟩ (tk [0, 1] ⟨.o, ⟨⟩⟩ ⟨(obp rfl), nw, ⟨⟩⟩)
 rintro _ _ ⟨l1, y2, y3, l4, rfl, rfl, rfl⟩
 replace h := hk7
 refine .d ?_
 obtain rfl := si h
 exact en [0] ⟨rfl, rfl⟩ .r ⟨(ob rfl ⟨.l, .i, .i, ⟨⟩⟩), ⟨⟩⟩
def m_s_DrawSortValues (a0 : List UInt8) : Option ((List TValue)) :=
 m36 a0 >>= fun v1 =>
 m_s_l9List v1 >>= fun (v3, v4) =>
 some v3
theorem ok_s_DrawSortValues {a0 : List UInt8} {r : (List TValue)} (h : m_s_DrawSortValues a0 = some r) : ACall Tryd.prog 6 [sl 1 cB a0] [] (fun res h => res = sl 5 TValue.cells r ∧ h = []) := by
 refine vc1 Tryd.func6 ?_
 unfold m_s_DrawSortValues at h
 refine .d (.d (bk h fun v1 hv2 h => (pcF (ok36 hv2) (.optr 0 0 0 0) [.row 0 3 1 63 (fun _ => v1.lit)] (.d ?_))))
 obtain ⟨⟨v3, v4⟩, hv5, h⟩ := bd h
 refine pcO (ok_s_l9List (g1000 := 0) hv5) [0] ⟨rfl, ⟨⟩⟩ (sl 5 TValue.cells v3) [.row 0 3 1 63 (fun _ => v4.lit)] ?_
 obtain rfl := si h
 exact en [] ⟨rfl, rfl⟩ .l ⟨⟩
def m_l_FnSort_L18 (v2 : List TValue) (v4 : List TValue) (y11 : Int) (y31 : Int) (y32 : Int) (y33 : Int) : Option (Int × Int) :=
 (if y33 < (v2.length : Int) then
 (
 idx v2 y11 >>= fun x41 =>
 idx v2 y33 >>= fun x43 =>
 m19 x41 x43 >>= fun v45 =>
 (if v45 = true then
 some (W64 (y31 + 1))
 else
 some y31)
 : Option (Int)) >>= fun y37 =>
 (
 (if y33 < (v4.length : Int) then
 idx v2 y11 >>= fun x53 =>
 idx v4 y33 >>= fun x55 =>
 m19 x53 x55 >>= fun v57 =>
 some v57
 else
 some false)
 : Option (Bool)) >>= fun b48 =>
 (if b48 = true then
 m_l_FnSort_L18 v2 v4 y11 y37 (W64 (y32 + 1)) (W64 (y33 + 1))
 else
 m_l_FnSort_L18 v2 v4 y11 y37 y32 (W64 (y33 + 1)))
 else
 some (y31, y32))
partial_fixpoint
def m_l_FnSort_L14 (v2 : List TValue) (v4 : List TValue) (b10 : Bool) (y11 : Int) : Option ((Bool) ⊕ Bool) :=
 (if y11 < (v2.length : Int) then
 ((
 (
 (if b10 = true then
 idx v2 y11 >>= fun x24 =>
 some (x24.fKind == 2)
 else
 some false)
 : Option (Bool)) >>= fun b19 =>
 (
 m_l_FnSort_L18 v2 v4 y11 0 0 0
 : Option (Int × Int)) >>= fun (y26, y27) =>
 (if y26 = y27 then
 some (.inl b19)
 else
 some (.inr (.inr false)))
 : Option ((Bool) ⊕ ((Bool) ⊕ Bool))) >>= fun o16 => match o16 with
 | .inr r => some r
 | .inl b15 =>
 m_l_FnSort_L14 v2 v4 b15 (W64 (y11 + 1))
 )
 else
 some (.inl b10))
partial_fixpoint
def m_l_FnSort (a0 : List UInt8) : Option (Bool) :=
 (if (a0.length : Int) > 1048576 then
 some true
 else
 m_s_DrawSortValues a0 >>= fun v2 =>
 m_i_SortValues v2 >>= fun v4 =>
 ((
 m_l_FnSort_L14 v2 v4 true 0
 : Option ((Bool) ⊕ Bool)) >>= fun o7 => match o7 with
 | .inr r => some r
 | .inl b6 =>
 (if (v4.length : Int) = (v2.length : Int) then
 (if b6 = true then
 m_i_IsOrdered v4 >>= fun v67 =>
 some v67
 else
 some true)
 else
 some false)
 ))
theorem ok_l_FnSort {a0 : List UInt8} {r : Bool} (h : m_l_FnSort a0 = some r) : ACall Tryd.prog 3 [sl 1 cB a0] [] (fun res h => res = .bool r ∧ h = []) := by
 refine vc1 Tryd.func3 ?_
 unfold m_l_FnSort at h
 refine .d (.d (.d (pcP (ok_l_bigx a0) (sD h (fun hb1 h => ?_) (fun hb1 h => ?_)))))
 exact .d (eB h)
 refine .d (bk h fun v2 hv3 h => (pcP (ok_s_DrawSortValues hv3) (.d (bk h fun v4 hv5 h => (pcP (ok_i_SortValues hv5) (.d ?_))))))
 obtain ⟨o7, ho8, hk9⟩ := bd h
 replace h := ho8
 refine .cut (fun σ η => ∃ b6, .inl b6 = o7 ∧ σ = [(3, sl 5 TValue.cells v2), (4, sl 5 TValue.cells v4), (5, .bool b6)] ∧ η = []) ?_ ?_
 refine .d ?_
 refine le (m_l_FnSort_L14.partial_correctness v2 v4 (motive := fun b10 y11 o63 => o7 = o63 → LoopAt _ _ [(3, sl 5 TValue.cells v2), (4, sl 5 TValue.cells v4), (5, .bool b10), (6, .int .i64 y11)] []) ?_ true 0 o7 h rfl) (tk [] ⟨.l, .l, .b, .i, ⟨⟩⟩ ⟨⟩)
 intro F13 ih12 b10 y11 o63 h hr64
 subst hr64
 refine LoopAt.round (.d (.d (sD h (fun hb14 h => ?_) (fun hb14 h => ?_))))
 obtain ⟨o16, ho17, hk18⟩ := bd h
 replace h := ho17
 refine .cut (fun σ η => ∃ b15, .inl b15 = o16 ∧ σ = [(3, sl 5 TValue.cells v2), (4, sl 5 TValue.cells v4), (5, .bool b15), (6, .int .i64 y11)] ∧ η = []) ?_ ?_
 obtain ⟨o20, ho21, hk22⟩ := bd h
 replace h := ho21
 refine .cut (fun σ η => ∃ b19, b19 = o20 ∧ σ = [(3, sl 5 TValue.cells v2), (4, sl 5 TValue.cells v4), (5, .bool b19), (6, .int .i64 y11)] ∧ η = []) ?_ ?_
 refine sV h (fun hb23 h => ?_) (fun hb23 h => ?_)
 exact .t (.t (bk h fun x24 hx25 h => ⟨idx_bd hx25, _, (idx_row hx25).trans (TValue.cells_eq x24), (.t (.t (.t (.t (ct ⟨_, si h, rfl, rfl⟩ (tk [] ⟨.l, .l, .b, .i, ⟨⟩⟩ ⟨⟩))))))⟩))
 exact .f (.f (.f (.f (.f (.f (ct ⟨_, si h, rfl, rfl⟩ (tk [] ⟨.l, .l, .b, .i, ⟨⟩⟩ ⟨⟩)))))))
 rintro _ _ ⟨b19, rfl, rfl, rfl⟩
 replace h := hk22
 refine .d (.d ?_)
 obtain ⟨o28, ho29, hk30⟩ := bd h
 replace h := ho29
 refine .cut (fun σ η => ∃ y26, ∃ y27, (y26, y27) = o28 ∧ σ = [(3, sl 5 TValue.cells v2), (4, sl 5 TValue.cells v4), (5, .bool b19), (6, .int .i64 y11), (7, .int .i64 y26), (8, .int .i64 y27)] ∧ η = []) ?_ ?_
 refine .d ?_
 refine le (m_l_FnSort_L18.partial_correctness v2 v4 y11 (motive := fun y31 y32 y33 o60 => o28 = o60 → LoopAt _ _ [(3, sl 5 TValue.cells v2), (4, sl 5 TValue.cells v4), (5, .bool b19), (6, .int .i64 y11), (7, .int .i64 y31), (8, .int .i64 y32), (9, .int .i64 y33)] []) ?_ 0 0 0 o28 h rfl) (tk [] ⟨.l, .l, .b, .i, .i, .i, .i, ⟨⟩⟩ ⟨⟩)
 intro F35 ih34 y31 y32 y33 o60 h hr61
 subst hr61
 refine LoopAt.round (.d (.d (sD h (fun hb36 h => ?_) (fun hb36 h => ?_))))
 refine .d ?_
 obtain ⟨o38, ho39, hk40⟩ := bd h
 replace h := ho39
 refine .cut (fun σ η => ∃ y37, y37 = o38 ∧ σ = [(3, sl 5 TValue.cells v2), (4, sl 5 TValue.cells v4), (5, .bool b19), (6, .int .i64 y11), (7, .int .i64 y37), (8, .int .i64 y32), (9, .int .i64 y33)] ∧ η = []) ?_ ?_
 refine .d (.float [(0, true), (1, true), (2, true), (3, true), (4, true), (5, true), (6, true), (7, true), (8, false)] (by kernel_rfl) ?_)
 refine bk h fun x41 hx42 h => ⟨idx_bd hx42, _, (idx_row hx42).trans (TValue.cells_eq x41), (bk h fun x43 hx44 h => ⟨idx_bd hx44, _, (idx_row hx44).trans (TValue.cells_eq x43), (bk h fun v45 hv46 h => (pcP (ok19 hv46) (sV h (fun hb47 h => ?_) (fun hb47 h => ?_))))⟩)⟩
 exact ct ⟨_, si h, rfl, rfl⟩ (tk [] ⟨.l, .l, .b, .i, .i, .i, .i, ⟨⟩⟩ ⟨⟩)
 exact ct ⟨_, si h, rfl, rfl⟩ (tk [] ⟨.l, .l, .b, .i, .i, .i, .i, ⟨⟩⟩ ⟨⟩)
 rintro _ _ ⟨y37, rfl, rfl, rfl⟩
 replace h := hk40
 obtain ⟨o49, ho50, hk51⟩ := bd h
 replace h := ho50
 refine .cut (fun σ η => ∃ b48, b48 = o49 ∧ σ = [(3, sl 5 TValue.cells v2), (4, sl 5 TValue.cells v4), (5, .bool b19), (6, .int .i64 y11), (7, .int .i64 y37), (8, .int .i64 y32), (9, .int .i64 y33), (62, .bool b48)] ∧ η = []) ?_ ?_
 refine .float [(0, true), (1, true), (2, true), (3, true), (4, true), (5, true), (6, true), (7, true), (8, true), (9, true), (10, true), (11, true), (12, true), (13, false), (14, true)] (by kernel_rfl) ?_
 refine sD h (fun hb52 h => ?_) (fun hb52 h => ?_)
 refine .t (.t (bk h fun x53 hx54 h => ⟨idx_bd hx54, _, (idx_row hx54).trans (TValue.cells_eq x53), (.t (.t (.t (.t (bk h fun x55 hx56 h => ⟨idx_bd hx56, _, (idx_row hx56).trans (TValue.cells_eq x55), (.t (.t (bk h fun v57 hv58 h => (pcP (ok19 hv58) (.t ?_)))))⟩)))))⟩))
 exact ct ⟨_, si h, rfl, rfl⟩ (tk [] ⟨.l, .l, .b, .i, .i, .i, .i, .b, ⟨⟩⟩ ⟨⟩)
 exact .f (.f (.f (.f (.f (.f (.f (.f (.f (ct ⟨_, si h, rfl, rfl⟩ (tk [] ⟨.l, .l, .b, .i, .i, .i, .i, .b, ⟨⟩⟩ ⟨⟩))))))))))
 rintro _ _ ⟨b48, rfl, rfl, rfl⟩
 replace h := hk51
 refine sV h (fun hb59 h => ?_) (fun hb59 h => ?_)
 exact lg (ih34 _ _ _ _ h rfl) (tk [] ⟨.l, .l, .b, .i, .i, .i, .i, ⟨⟩⟩ ⟨⟩)
 exact lg (ih34 _ _ _ _ h rfl) (tk [] ⟨.l, .l, .b, .i, .i, .i, .i, ⟨⟩⟩ ⟨⟩)
 exact ct ⟨_, _, si h, rfl, rfl⟩ (tk [] ⟨.l, .l, .b, .i, .i, .i, ⟨⟩⟩ ⟨⟩)
 rintro _ _ ⟨y26, y27, rfl, rfl, rfl⟩
 replace h := hk30
 refine .d (sN h (fun hb62 h => ?_) (fun hb62 h => ?_))
 refine .d ?_
 obtain rfl := si h
 replace h := hk18
 obtain rfl := si h
 replace h := hk9
 exact eB h
 exact ct ⟨_, si h, rfl, rfl⟩ (tk [] ⟨.l, .l, .b, .i, ⟨⟩⟩ ⟨⟩)
 rintro _ _ ⟨b15, rfl, rfl, rfl⟩
 replace h := hk18
 exact lg (ih12 _ _ _ h rfl) (tk [] ⟨.l, .l, .b, .i, ⟨⟩⟩ ⟨⟩)
 exact ct ⟨_, si h, rfl, rfl⟩ (tk [] ⟨.l, .l, .b, ⟨⟩⟩ ⟨⟩)
 rintro _ _ ⟨b6, rfl, rfl, rfl⟩
 replace h := hk9
 refine .d (sE h (fun hb65 h => ?_) (fun hb65 h => ?_))
 refine .t (.t (sVn h (fun hb66 h => ?_) (fun hb66 h => ?_)))
 exact .t (.t (.t (.t (eB h))))
 exact .f (bk h fun v67 hv68 h => (pcP (ok_i_IsOrdered hv68) (.t (.f (.t (eB h))))))
 exact .f (.f (.f (.f (eB h))))
end Go.Am
