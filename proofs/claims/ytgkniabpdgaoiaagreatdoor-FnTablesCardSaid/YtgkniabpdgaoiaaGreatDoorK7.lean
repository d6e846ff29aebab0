/- Models of Go functions, and their walks. (Printed by tools/mg.py.) -/
import Derived.Test.YtgkniabpdgaoiaaGreatDoorK6
set_option linter.unusedVariables false
set_option linter.unusedSimpArgs false
set_option synthInstance.maxHeartbeats 400000
set_option synthInstance.maxSize 4000
set_option maxRecDepth 100000
namespace Go.Am
open Go Go.RowKit Go.Proofs
def m_s_l7Draw_L2 (l17 : List UInt8) (y18 : Int) (y19 : Int) (l20 : List Int) (l21 : List TSlot) (b22 : Bool) (y23 : Int) (y24 : Int) (l25 : List Int) (l26 : List TSlot) (y27 : Int) : Option ((List UInt8) × Int × Int × (List Int) × (List TSlot) × Bool × Int × Int × (List Int) × (List TSlot)) :=
 (if y27 > 0 then
 m40 (TL1Cur.mk l17 y18 y19) 5 >>= fun (v31, v32) =>
 (if v31 = 0 then
 m47 v32 >>= fun (v35, v36) =>
 m_s_l7Drop (TTable.mk b22 l25 l26 y23 y24) v35 >>= fun v38 =>
 m_s_l7Draw_L2 v36.fB v36.fI v36.fH l20 l21 v38.fHashed v38.fNext v38.fCount v38.fHeads v38.fSlots (W64 (y27 - 1))
 else
 (if v31 = 1 then
 m47 v32 >>= fun (v41, v42) =>
 m89 v42 >>= fun (v44, v45) =>
 m_s_l7Set (TTable.mk b22 l25 l26 y23 y24) v41 v44 >>= fun (v47, v48) =>
 m_s_l7Draw_L2 v45.fB v45.fI v45.fH l20 l21 v47.fHashed v47.fNext v47.fCount v47.fHeads v47.fSlots (W64 (y27 - 1))
 else
 (if y23 ≤ 1000000000 then
 m89 v32 >>= fun (v51, v52) =>
 m_s_l7Set (TTable.mk b22 l25 l26 y23 y24) (TKey.mk false y23 []) v51 >>= fun (v54, v55) =>
 m_s_l7Draw_L2 v52.fB v52.fI v52.fH l20 l21 v54.fHashed v54.fNext v54.fCount v54.fHeads v54.fSlots (W64 (y27 - 1))
 else
 m_s_l7Draw_L2 v32.fB v32.fI v32.fH l20 l21 b22 y23 y24 l25 l26 (W64 (y27 - 1)))))
 else
 some (l17, y18, y19, l20, l21, b22, y23, y24, l25, l26))
partial_fixpoint
def m_s_l7Draw (a0 : TL1Cur) : Option (TTable × TL1Cur) :=
 (
 m40 a0 20 >>= fun (v14, v15) =>
 m_s_l7Draw_L2 v15.fB v15.fI v15.fH ([] : List Int) ([] : List TSlot) false 0 0 ([] : List Int) ([] : List TSlot) v14
 : Option ((List UInt8) × Int × Int × (List Int) × (List TSlot) × Bool × Int × Int × (List Int) × (List TSlot))) >>= fun (l1, y2, y3, l4, l5, b6, y7, y8, l9, l10) =>
 some ((TTable.mk b6 l9 l10 y7 y8), (TL1Cur.mk l1 y2 y3))
theorem ok_s_l7Draw {a0 : TL1Cur} {r : TTable × TL1Cur} {g1000 : Nat} (h : m_s_l7Draw a0 = some r) : ACall Tryz.prog 80 [.optr 0 g1000 0 0] [.row g1000 3 1 105 (fun _ => a0.lit)] (fun res h => res = .agg [.bool r.1.fHashed, .own 1 0 0 r.1.fHeads.length, .own 2 0 0 r.1.fSlots.length, .int .i64 r.1.fNext, .int .i64 r.1.fCount] ∧ h = [.row g1000 3 1 105 (fun _ => r.2.lit), .row 0 1 r.1.fHeads.length 3 (row cI r.1.fHeads), .row 0 10 r.1.fSlots.length 80 (row TSlot.cells r.1.fSlots)]) := by
 refine vc1 Tryz.func80 ?_
 unfold m_s_l7Draw at h
 refine .d (.d ⟨rfl, _, fun _ => [.bool false, .nils, .nils, .int .i64 0, .int .i64 0], rfl, one_set rfl, ?_⟩)
 obtain ⟨o11, ho12, hk13⟩ := bd h
 replace h := ho12
 refine .cut (fun σ η => ∃ l1, ∃ y2, ∃ y3, ∃ l4, ∃ l5, ∃ b6, ∃ y7, ∃ y8, ∃ l9, ∃ l10, (l1, y2, y3, l4, l5, b6, y7, y8, l9, l10) = o11 ∧ σ = [(2, .optr 1 0 0 0), (3, .optr 4 0 0 0)] ∧ η = [.row g1000 3 1 105 (fun _ => [sl 1 cB l1, .int .i64 y2, .int .i64 y3]), .row 0 5 1 27 (fun _ => [.bool false, .own 2 0 0 l4.length, .own 3 0 0 l5.length, .int .i64 0, .int .i64 0]), .row 0 1 l4.length 3 (row cI l4), .row 0 10 l5.length 80 (row TSlot.cells l5), .row 0 5 1 27 (fun _ => [.bool b6, .own 5 0 0 l9.length, .own 6 0 0 l10.length, .int .i64 y7, .int .i64 y8]), .row 0 1 l9.length 3 (row cI l9), .row 0 10 l10.length 80 (row TSlot.cells l10)]) ?_ ?_
 refine .d ?_
 obtain ⟨⟨v14, v15⟩, hv16, h⟩ := bd h
 refine pcO (ok40 (g1000 := g1000) hv16) [0] ⟨rfl, ⟨⟩⟩ (.int .i64 v14) [.row g1000 3 1 105 (fun _ => v15.lit), .row 0 5 1 27 (fun _ => [.bool false, .nils, .nils, .int .i64 0, .int .i64 0]), .row 0 5 1 27 (fun _ => [.bool false, .nils, .nils, .int .i64 0, .int .i64 0])] ?_
 refine le (m_s_l7Draw_L2.partial_correctness ([] : List Int) ([] : List TSlot) (motive := fun l17 y18 y19 b22 y23 y24 l25 l26 y27 o57 => o11 = o57 → LoopAt _ _ [(0, .optr 0 g1000 0 0), (2, .optr 1 0 0 0), (3, .optr 4 0 0 0), (4, .int .i64 y27)] [.row g1000 3 1 105 (fun _ => [sl 1 cB l17, .int .i64 y18, .int .i64 y19]), .row 0 5 1 27 (fun _ => [.bool false, .own 2 0 0 ([] : List Int).length, .own 3 0 0 ([] : List TSlot).length, .int .i64 0, .int .i64 0]), .row 0 1 ([] : List Int).length 3 (row cI ([] : List Int)), .row 0 10 ([] : List TSlot).length 80 (row TSlot.cells ([] : List TSlot)), .row 0 5 1 27 (fun _ => [.bool b22, .own 5 0 0 l25.length, .own 6 0 0 l26.length, .int .i64 y23, .int .i64 y24]), .row 0 1 l25.length 3 (row cI l25), .row 0 10 l26.length 80 (row TSlot.cells l26)]) ?_ v15.fB v15.fI v15.fH false 0 0 ([] : List Int) ([] : List TSlot) v14 o11 h rfl) (tk [0, 1, 5, 6, 2, 8, 9] ⟨.p, .p, .p, .i, ⟨⟩⟩ ⟨(obp rfl), (nb rfl ⟨.b, .g, .g, .i, .i, ⟨⟩⟩), gh, gh, (nb rfl ⟨.b, .g, .g, .i, .i, ⟨⟩⟩), gh, gh, ⟨⟩⟩)
 intro F29 ih28 l17 y18 y19 b22 y23 y24 l25 l26 y27 o57 h hr58
 subst hr58
 refine LoopAt.round (.d (.d (sD h (fun hb30 h => ?_) (fun hb30 h => ?_))))
 refine .d (.d ?_)
 obtain ⟨⟨v31, v32⟩, hv33, h⟩ := bd h
 refine pcO (ok40 (g1000 := g1000) hv33) [0] ⟨rfl, ⟨⟩⟩ (.int .i64 v31) [.row g1000 3 1 105 (fun _ => v32.lit), .row 0 5 1 27 (fun _ => [.bool false, .own 2 0 0 ([] : List Int).length, .own 3 0 0 ([] : List TSlot).length, .int .i64 0, .int .i64 0]), .row 0 1 ([] : List Int).length 3 (row cI ([] : List Int)), .row 0 10 ([] : List TSlot).length 80 (row TSlot.cells ([] : List TSlot)), .row 0 5 1 27 (fun _ => [.bool b22, .own 5 0 0 l25.length, .own 6 0 0 l26.length, .int .i64 y23, .int .i64 y24]), .row 0 1 l25.length 3 (row cI l25), .row 0 10 l26.length 80 (row TSlot.cells l26)] (.d (sE h (fun hb34 h => ?_) (fun hb34 h => ?_)))
 refine .float [(0, true), (1, true), (2, false), (3, false), (4, false)] (by kernel_rfl) ?_
 refine ⟨rfl, _, rfl, ?_⟩
 obtain ⟨⟨v35, v36⟩, hv37, h⟩ := bd h
 exact pcO (ok47 (g1000 := g1000) hv37) [0] ⟨rfl, ⟨⟩⟩ (.agg v35.lit) [.row g1000 3 1 105 (fun _ => v36.lit), .row 0 5 1 27 (fun _ => [.bool false, .own 2 0 0 ([] : List Int).length, .own 3 0 0 ([] : List TSlot).length, .int .i64 0, .int .i64 0]), .row 0 1 ([] : List Int).length 3 (row cI ([] : List Int)), .row 0 10 ([] : List TSlot).length 80 (row TSlot.cells ([] : List TSlot)), .row 0 5 1 27 (fun _ => [.bool b22, .own 5 0 0 l25.length, .own 6 0 0 l26.length, .int .i64 y23, .int .i64 y24]), .row 0 1 l25.length 3 (row cI l25), .row 0 10 l26.length 80 (row TSlot.cells l26)] ⟨rfl, (bk h fun v38 hv39 h => (pcO (ok_s_l7Drop (g1000 := 0) (g1001 := 0) hv39) [5, 6] ⟨ov, ov, ⟨⟩⟩ (.agg [.bool v38.fHashed, .own 7 0 0 v38.fHeads.length, .own 8 0 0 v38.fSlots.length, .int .i64 v38.fNext, .int .i64 v38.fCount]) [.row g1000 3 1 105 (fun _ => v36.lit), .row 0 5 1 27 (fun _ => [.bool false, .own 2 0 0 ([] : List Int).length, .own 3 0 0 ([] : List TSlot).length, .int .i64 0, .int .i64 0]), .row 0 1 ([] : List Int).length 3 (row cI ([] : List Int)), .row 0 10 ([] : List TSlot).length 80 (row TSlot.cells ([] : List TSlot)), .row 0 5 1 27 (fun _ => [.bool b22, .own 5 0 0 l25.length, .own 6 0 0 l26.length, .int .i64 y23, .int .i64 y24]), .dead, .dead, .row 0 1 v38.fHeads.length 3 (row cI v38.fHeads), .row 0 10 v38.fSlots.length 80 (row TSlot.cells v38.fSlots)] ⟨rfl, _, fun _ => [.bool v38.fHashed, .own 7 0 0 v38.fHeads.length, .own 8 0 0 v38.fSlots.length, .int .i64 v38.fNext, .int .i64 v38.fCount], rfl, one_set rfl, (lg (ih28 _ _ _ _ _ _ _ _ _ _ h rfl) (tk [0, 1, 2, 3, 4, 7, 8] ⟨.p, .p, .p, .i, ⟨⟩⟩ ⟨(obp rfl), (nb rfl ⟨.b, .o, .o, .i, .i, ⟨⟩⟩), nw, nw, (nb rfl ⟨.b, .o, .o, .i, .i, ⟨⟩⟩), nw, nw, ⟨⟩⟩))⟩))⟩
 refine .d (sE h (fun hb40 h => ?_) (fun hb40 h => ?_))
 refine .float [(0, true), (1, true), (3, true), (2, false), (4, false), (5, false), (6, true), (7, true), (8, true), (9, false)] (by kernel_rfl) ?_
 refine ⟨rfl, _, rfl, ?_⟩
 obtain ⟨⟨v41, v42⟩, hv43, h⟩ := bd h
 refine pcO (ok47 (g1000 := g1000) hv43) [0] ⟨rfl, ⟨⟩⟩ (.agg v41.lit) [.row g1000 3 1 105 (fun _ => v42.lit), .row 0 5 1 27 (fun _ => [.bool false, .own 2 0 0 ([] : List Int).length, .own 3 0 0 ([] : List TSlot).length, .int .i64 0, .int .i64 0]), .row 0 1 ([] : List Int).length 3 (row cI ([] : List Int)), .row 0 10 ([] : List TSlot).length 80 (row TSlot.cells ([] : List TSlot)), .row 0 5 1 27 (fun _ => [.bool b22, .own 5 0 0 l25.length, .own 6 0 0 l26.length, .int .i64 y23, .int .i64 y24]), .row 0 1 l25.length 3 (row cI l25), .row 0 10 l26.length 80 (row TSlot.cells l26)] ⟨rfl, ?_⟩
 obtain ⟨⟨v44, v45⟩, hv46, h⟩ := bd h
 refine pcO (ok89 (g1000 := g1000) hv46) [0] ⟨rfl, ⟨⟩⟩ (.agg v44.lit) [.row g1000 3 1 105 (fun _ => v45.lit), .row 0 5 1 27 (fun _ => [.bool false, .own 2 0 0 ([] : List Int).length, .own 3 0 0 ([] : List TSlot).length, .int .i64 0, .int .i64 0]), .row 0 1 ([] : List Int).length 3 (row cI ([] : List Int)), .row 0 10 ([] : List TSlot).length 80 (row TSlot.cells ([] : List TSlot)), .row 0 5 1 27 (fun _ => [.bool b22, .own 5 0 0 l25.length, .own 6 0 0 l26.length, .int .i64 y23, .int .i64 y24]), .row 0 1 l25.length 3 (row cI l25), .row 0 10 l26.length 80 (row TSlot.cells l26)] ⟨rfl, ?_⟩
 obtain ⟨⟨v47, v48⟩, hv49, h⟩ := bd h
 exact pcO (ok_s_l7Set (g1000 := 0) (g1001 := 0) hv49) [5, 6] ⟨ov, ov, ⟨⟩⟩ (.tup [.agg [.bool v47.fHashed, .own 7 0 0 v47.fHeads.length, .own 8 0 0 v47.fSlots.length, .int .i64 v47.fNext, .int .i64 v47.fCount], .bool v48]) [.row g1000 3 1 105 (fun _ => v45.lit), .row 0 5 1 27 (fun _ => [.bool false, .own 2 0 0 ([] : List Int).length, .own 3 0 0 ([] : List TSlot).length, .int .i64 0, .int .i64 0]), .row 0 1 ([] : List Int).length 3 (row cI ([] : List Int)), .row 0 10 ([] : List TSlot).length 80 (row TSlot.cells ([] : List TSlot)), .row 0 5 1 27 (fun _ => [.bool b22, .own 5 0 0 l25.length, .own 6 0 0 l26.length, .int .i64 y23, .int .i64 y24]), .dead, .dead, .row 0 1 v47.fHeads.length 3 (row cI v47.fHeads), .row 0 10 v47.fSlots.length 80 (row TSlot.cells v47.fSlots)] ⟨rfl, _, fun _ => [.bool v47.fHashed, .own 7 0 0 v47.fHeads.length, .own 8 0 0 v47.fSlots.length, .int .i64 v47.fNext, .int .i64 v47.fCount], rfl, one_set rfl, (lg (ih28 _ _ _ _ _ _ _ _ _ _ h rfl) (tk [0, 1, 2, 3, 4, 7, 8] ⟨.p, .p, .p, .i, ⟨⟩⟩ ⟨(obp rfl), (nb rfl ⟨.b, .o, .o, .i, .i, ⟨⟩⟩), nw, nw, (nb rfl ⟨.b, .o, .o, .i, .i, ⟨⟩⟩), nw, nw, ⟨⟩⟩))⟩
 refine .d ⟨rfl, ⟨rfl, _, rfl, (sD h (fun hb50 h => ?_) (fun hb50 h => ?_))⟩⟩
 refine .float [(0, true), (1, true), (2, true), (3, true), (4, true), (5, false), (6, false), (7, true), (8, true), (9, true), (10, false)] (by kernel_rfl) ?_
 refine ⟨rfl, _, rfl, ⟨rfl, ⟨rfl, _, rfl, ?_⟩⟩⟩
 obtain ⟨⟨v51, v52⟩, hv53, h⟩ := bd h
 refine pcO (ok89 (g1000 := g1000) hv53) [0] ⟨rfl, ⟨⟩⟩ (.agg v51.lit) [.row g1000 3 1 105 (fun _ => v52.lit), .row 0 5 1 27 (fun _ => [.bool false, .own 2 0 0 ([] : List Int).length, .own 3 0 0 ([] : List TSlot).length, .int .i64 0, .int .i64 0]), .row 0 1 ([] : List Int).length 3 (row cI ([] : List Int)), .row 0 10 ([] : List TSlot).length 80 (row TSlot.cells ([] : List TSlot)), .row 0 5 1 27 (fun _ => [.bool b22, .own 5 0 0 l25.length, .own 6 0 0 l26.length, .int .i64 y23, .int .i64 y24]), .row 0 1 l25.length 3 (row cI l25), .row 0 10 l26.length 80 (row TSlot.cells l26)] ⟨rfl, ⟨rfl, ⟨rfl, ?_⟩⟩⟩
 obtain ⟨⟨v54, v55⟩, hv56, h⟩ := bd h
 exact pcO (ok_s_l7Set (g1000 := 0) (g1001 := 0) hv56) [5, 6] ⟨ov, ov, ⟨⟩⟩ (.tup [.agg [.bool v54.fHashed, .own 7 0 0 v54.fHeads.length, .own 8 0 0 v54.fSlots.length, .int .i64 v54.fNext, .int .i64 v54.fCount], .bool v55]) [.row g1000 3 1 105 (fun _ => v52.lit), .row 0 5 1 27 (fun _ => [.bool false, .own 2 0 0 ([] : List Int).length, .own 3 0 0 ([] : List TSlot).length, .int .i64 0, .int .i64 0]), .row 0 1 ([] : List Int).length 3 (row cI ([] : List Int)), .row 0 10 ([] : List TSlot).length 80 (row TSlot.cells ([] : List TSlot)), .row 0 5 1 27 (fun _ => [.bool b22, .own 5 0 0 l25.length, .own 6 0 0 l26.length, .int .i64 y23, .int .i64 y24]), .dead, .dead, .row 0 1 v54.fHeads.length 3 (row cI v54.fHeads), .row 0 10 v54.fSlots.length 80 (row TSlot.cells v54.fSlots)] ⟨rfl, _, fun _ => [.bool v54.fHashed, .own 7 0 0 v54.fHeads.length, .own 8 0 0 v54.fSlots.length, .int .i64 v54.fNext, .int .i64 v54.fCount], rfl, one_set rfl, (lg (ih28 _ _ _ _ _ _ _ _ _ _ h rfl) (tk [0, 1, 2, 3, 4, 7, 8] ⟨.p, .p, .p, .i, ⟨⟩⟩ ⟨(obp rfl), (nb rfl ⟨.b, .o, .o, .i, .i, ⟨⟩⟩), nw, nw, (nb rfl ⟨.b, .o, .o, .i, .i, ⟨⟩⟩), nw, nw, ⟨⟩⟩))⟩
 exact lg (ih28 _ _ _ _ _ _ _ _ _ _ h rfl) (tk [0, 1, 2, 3, 4, 5, 6] ⟨.p, .p, .p, .i, ⟨⟩⟩ ⟨(obp rfl), (nb rfl ⟨.b, .o, .o, .i, .i, ⟨⟩⟩), nw, nw, (nb rfl ⟨.b, .o, .o, .i, .i, ⟨⟩⟩), nw, nw, ⟨⟩⟩)
 exact ct ⟨_, _, _, _, _, _, _, _, _, _, si h, rfl, rfl⟩ (tk [0, 1, 2, 3, 4, 5, 6] ⟨.p, .p, ⟨⟩⟩ ⟨(obp rfl), (nb rfl ⟨.b, .o, .o, .i, .i, ⟨⟩⟩), nw, nw, (nb rfl ⟨.b, .o, .o, .i, .i, ⟨⟩⟩), nw, nw, ⟨⟩⟩)
 rintro _ _ ⟨l1, y2, y3, l4, l5, b6, y7, y8, l9, l10, rfl, rfl, rfl⟩
 replace h := hk13
 refine .d ⟨rfl, _, rfl, ⟨rfl, _, fun _ => [.bool b6, .own 5 0 0 l9.length, .own 6 0 0 l10.length, .int .i64 y7, .int .i64 y8], rfl, one_set rfl, ?_⟩⟩
 obtain rfl := si h
 exact ⟨rfl, _, rfl, (en [0, 5, 6] ⟨rfl, rfl⟩ (.agg_l ⟨.b, .o, .o, .i, .i, ⟨⟩⟩) ⟨(ob rfl ⟨.l, .i, .i, ⟨⟩⟩), nw, nw, ⟨⟩⟩)⟩
def m_s_l7Any (a0 : TL1Cur) : Option (TTable × TL1Cur) :=
 m_s_l7Draw a0 >>= fun (v1, v2) =>
 m40 v2 14 >>= fun (v4, v5) =>
 (if v4 = 0 then
 m48 v5 >>= fun (v8, v9) =>
 some ((TTable.mk v1.fHashed v1.fHeads v1.fSlots v8 v1.fCount), v9)
 else
 (if v4 = 1 then
 some ((TTable.mk v1.fHashed v1.fHeads v1.fSlots v1.fNext (W64 (v1.fCount + 1))), v5)
 else
 (if v4 = 2 then
 some ((TTable.mk (!v1.fHashed) v1.fHeads v1.fSlots v1.fNext v1.fCount), v5)
 else
 (if v4 = 3 then
 (if (v1.fSlots.length : Int) > 0 then
 m40 v5 (v1.fSlots.length : Int) >>= fun (v15, v16) =>
 m40 v16 5 >>= fun (v18, v19) =>
 idx v1.fSlots v15 >>= fun x21 =>
 some ((TTable.mk v1.fHashed v1.fHeads (v1.fSlots.set v15.toNat (TSlot.mk x21.fKey x21.fVal x21.fLive (W64 (v18 - 1)))) v1.fNext v1.fCount), v19)
 else
 some (v1, v5))
 else
 (if v4 = 4 then
 (if (v1.fSlots.length : Int) > 0 then
 m40 v5 (v1.fSlots.length : Int) >>= fun (v25, v26) =>
 m47 v26 >>= fun (v28, v29) =>
 idx v1.fSlots v25 >>= fun x31 =>
 some ((TTable.mk v1.fHashed v1.fHeads (v1.fSlots.set v25.toNat (TSlot.mk v28 x31.fVal x31.fLive x31.fLink)) v1.fNext v1.fCount), v29)
 else
 some (v1, v5))
 else
 some (v1, v5))))))
theorem ok_s_l7Any {a0 : TL1Cur} {r : TTable × TL1Cur} {g1000 : Nat} (h : m_s_l7Any a0 = some r) : ACall Tryz.prog 34 [.optr 0 g1000 0 0] [.row g1000 3 1 105 (fun _ => a0.lit)] (fun res h => res = .agg r.1.lit ∧ h = [.row g1000 3 1 105 (fun _ => r.2.lit)]) := by
 refine vc1 Tryz.func34 ?_
 unfold m_s_l7Any at h
 refine .d (.d ?_)
 obtain ⟨⟨v1, v2⟩, hv3, h⟩ := bd h
 refine pcO (ok_s_l7Draw (g1000 := g1000) hv3) [0] ⟨rfl, ⟨⟩⟩ (.agg [.bool v1.fHashed, .own 2 0 0 v1.fHeads.length, .own 3 0 0 v1.fSlots.length, .int .i64 v1.fNext, .int .i64 v1.fCount]) [.row g1000 3 1 105 (fun _ => v2.lit), .row 0 5 1 27 (fun _ => [.bool false, .nils, .nils, .int .i64 0, .int .i64 0]), .row 0 1 v1.fHeads.length 3 (row cI v1.fHeads), .row 0 10 v1.fSlots.length 80 (row TSlot.cells v1.fSlots)] ⟨rfl, _, fun _ => [.bool v1.fHashed, .own 2 0 0 v1.fHeads.length, .own 3 0 0 v1.fSlots.length, .int .i64 v1.fNext, .int .i64 v1.fCount], rfl, one_set rfl, (.d (.d ?_))⟩
 obtain ⟨⟨v4, v5⟩, hv6, h⟩ := bd h
 refine pcO (ok40 (g1000 := g1000) hv6) [0] ⟨rfl, ⟨⟩⟩ (.int .i64 v4) [.row g1000 3 1 105 (fun _ => v5.lit), .row 0 5 1 27 (fun _ => [.bool false, .nils, .nils, .int .i64 0, .int .i64 0]), .row 0 1 v1.fHeads.length 3 (row cI v1.fHeads), .row 0 10 v1.fSlots.length 80 (row TSlot.cells v1.fSlots), .row 0 5 1 27 (fun _ => [.bool v1.fHashed, .own 2 0 0 v1.fHeads.length, .own 3 0 0 v1.fSlots.length, .int .i64 v1.fNext, .int .i64 v1.fCount])] (.d (sE h (fun hb7 h => ?_) (fun hb7 h => ?_)))
 obtain ⟨⟨v8, v9⟩, hv10, h⟩ := bd h
 refine pcO (ok48 (g1000 := g1000) hv10) [0] ⟨rfl, ⟨⟩⟩ (.int .i64 v8) [.row g1000 3 1 105 (fun _ => v9.lit), .row 0 5 1 27 (fun _ => [.bool false, .nils, .nils, .int .i64 0, .int .i64 0]), .row 0 1 v1.fHeads.length 3 (row cI v1.fHeads), .row 0 10 v1.fSlots.length 80 (row TSlot.cells v1.fSlots), .row 0 5 1 27 (fun _ => [.bool v1.fHashed, .own 2 0 0 v1.fHeads.length, .own 3 0 0 v1.fSlots.length, .int .i64 v1.fNext, .int .i64 v1.fCount])] ⟨rfl, ⟨rfl, _, fun _ => [.bool v1.fHashed, .own 2 0 0 v1.fHeads.length, .own 3 0 0 v1.fSlots.length, .int .i64 v8, .int .i64 v1.fCount], rfl, one_set rfl, (.d ⟨rfl, _, rfl, ⟨rfl, _, fun _ => [.bool v1.fHashed, .own 2 0 0 v1.fHeads.length, .own 3 0 0 v1.fSlots.length, .int .i64 v8, .int .i64 v1.fCount], rfl, one_set rfl, ?_⟩⟩)⟩⟩
 obtain rfl := si h
 exact ⟨rfl, _, rfl, (en [0] ⟨rfl, rfl⟩ (.agg_l ⟨.b, .r, .r, .i, .i, ⟨⟩⟩) ⟨(ob rfl ⟨.l, .i, .i, ⟨⟩⟩), ⟨⟩⟩)⟩
 refine .d (sE h (fun hb11 h => ?_) (fun hb11 h => ?_))
 refine ⟨rfl, ⟨rfl, _, rfl, ⟨rfl, ⟨rfl, _, fun _ => [.bool v1.fHashed, .own 2 0 0 v1.fHeads.length, .own 3 0 0 v1.fSlots.length, .int .i64 v1.fNext, .int .i64 (W64 (v1.fCount + 1))], rfl, one_set rfl, (.d ⟨rfl, _, rfl, ⟨rfl, _, fun _ => [.bool v1.fHashed, .own 2 0 0 v1.fHeads.length, .own 3 0 0 v1.fSlots.length, .int .i64 v1.fNext, .int .i64 (W64 (v1.fCount + 1))], rfl, one_set rfl, ?_⟩⟩)⟩⟩⟩⟩
 obtain rfl := si h
 exact ⟨rfl, _, rfl, (en [0] ⟨rfl, rfl⟩ (.agg_l ⟨.b, .r, .r, .i, .i, ⟨⟩⟩) ⟨(ob rfl ⟨.l, .i, .i, ⟨⟩⟩), ⟨⟩⟩)⟩
 refine .d (sE h (fun hb12 h => ?_) (fun hb12 h => ?_))
 refine ⟨rfl, ⟨rfl, _, rfl, ⟨rfl, ⟨rfl, _, fun _ => [.bool (!v1.fHashed), .own 2 0 0 v1.fHeads.length, .own 3 0 0 v1.fSlots.length, .int .i64 v1.fNext, .int .i64 v1.fCount], rfl, one_set rfl, (.d ⟨rfl, _, rfl, ⟨rfl, _, fun _ => [.bool (!v1.fHashed), .own 2 0 0 v1.fHeads.length, .own 3 0 0 v1.fSlots.length, .int .i64 v1.fNext, .int .i64 v1.fCount], rfl, one_set rfl, ?_⟩⟩)⟩⟩⟩⟩
 obtain rfl := si h
 exact ⟨rfl, _, rfl, (en [0] ⟨rfl, rfl⟩ (.agg_l ⟨.b, .r, .r, .i, .i, ⟨⟩⟩) ⟨(ob rfl ⟨.l, .i, .i, ⟨⟩⟩), ⟨⟩⟩)⟩
 refine .d (sE h (fun hb13 h => ?_) (fun hb13 h => ?_))
 refine .d ⟨rfl, ⟨rfl, _, rfl, ⟨rfl, (sD h (fun hb14 h => ?_) (fun hb14 h => ?_))⟩⟩⟩
 refine .float [(0, true), (1, true), (2, true), (3, true), (4, true), (5, true), (7, true), (6, false), (8, false), (9, true), (10, true), (11, true), (12, false)] (by kernel_rfl) ?_
 refine ⟨rfl, ⟨rfl, _, rfl, ⟨rfl, ⟨rfl, _, rfl, ⟨rfl, ?_⟩⟩⟩⟩⟩
 obtain ⟨⟨v15, v16⟩, hv17, h⟩ := bd h
 refine pcO (ok40 (g1000 := g1000) hv17) [0] ⟨rfl, ⟨⟩⟩ (.int .i64 v15) [.row g1000 3 1 105 (fun _ => v16.lit), .row 0 5 1 27 (fun _ => [.bool false, .nils, .nils, .int .i64 0, .int .i64 0]), .row 0 1 v1.fHeads.length 3 (row cI v1.fHeads), .row 0 10 v1.fSlots.length 80 (row TSlot.cells v1.fSlots), .row 0 5 1 27 (fun _ => [.bool v1.fHashed, .own 2 0 0 v1.fHeads.length, .own 3 0 0 v1.fSlots.length, .int .i64 v1.fNext, .int .i64 v1.fCount])] ⟨rfl, ⟨rfl, ?_⟩⟩
 obtain ⟨⟨v18, v19⟩, hv20, h⟩ := bd h
 refine pcO (ok40 (g1000 := g1000) hv20) [0] ⟨rfl, ⟨⟩⟩ (.int .i64 v18) [.row g1000 3 1 105 (fun _ => v19.lit), .row 0 5 1 27 (fun _ => [.bool false, .nils, .nils, .int .i64 0, .int .i64 0]), .row 0 1 v1.fHeads.length 3 (row cI v1.fHeads), .row 0 10 v1.fSlots.length 80 (row TSlot.cells v1.fSlots), .row 0 5 1 27 (fun _ => [.bool v1.fHashed, .own 2 0 0 v1.fHeads.length, .own 3 0 0 v1.fSlots.length, .int .i64 v1.fNext, .int .i64 v1.fCount])] ⟨rfl, ⟨rfl, (bk h fun x21 hx22 h => ⟨rfl, idx_bd hx22, _, Nat.zero_add _, ⟨rfl, ⟨rfl, _, row TSlot.cells (v1.fSlots.set v15.toNat (TSlot.mk x21.fKey x21.fVal x21.fLive (W64 (v18 - 1)))), ((idx_row hx22).trans (TSlot.cells_eq x21)), row_set (idx_lt hx22) (TSlot.cells_eq (TSlot.mk x21.fKey x21.fVal x21.fLive (W64 (v18 - 1)))) ⟨.same _, .same _, .same _, .same _, .same _, .same _, .same _, .same _, .same _, .same _, trivial⟩, (.d ⟨rfl, _, rfl, ⟨rfl, _, fun _ => [.bool v1.fHashed, .own 2 0 0 v1.fHeads.length, .own 3 0 0 v1.fSlots.length, .int .i64 v1.fNext, .int .i64 v1.fCount], rfl, one_set rfl, ?_⟩⟩)⟩⟩⟩)⟩⟩
 obtain rfl := si h
 exact ⟨rfl, _, rfl, (en [0] ⟨rfl, rfl⟩ (.agg_l ⟨.b, .r, (.rx ln), .i, .i, ⟨⟩⟩) ⟨(ob rfl ⟨.l, .i, .i, ⟨⟩⟩), ⟨⟩⟩)⟩
 refine .d ⟨rfl, _, rfl, ⟨rfl, _, fun _ => [.bool v1.fHashed, .own 2 0 0 v1.fHeads.length, .own 3 0 0 v1.fSlots.length, .int .i64 v1.fNext, .int .i64 v1.fCount], rfl, one_set rfl, ?_⟩⟩
 obtain rfl := si h
 exact ⟨rfl, _, rfl, (en [0] ⟨rfl, rfl⟩ (.agg_l ⟨.b, .r, .r, .i, .i, ⟨⟩⟩) ⟨(ob rfl ⟨.l, .i, .i, ⟨⟩⟩), ⟨⟩⟩)⟩
 refine .d (sE h (fun hb23 h => ?_) (fun hb23 h => ?_))
 refine .d ⟨rfl, ⟨rfl, _, rfl, ⟨rfl, (sD h (fun hb24 h => ?_) (fun hb24 h => ?_))⟩⟩⟩
 refine .float [(0, true), (1, true), (2, true), (3, true), (4, true), (5, true), (7, true), (6, false), (8, false), (9, true), (10, true), (11, false)] (by kernel_rfl) ?_
 refine ⟨rfl, ⟨rfl, _, rfl, ⟨rfl, ⟨rfl, _, rfl, ⟨rfl, ?_⟩⟩⟩⟩⟩
 obtain ⟨⟨v25, v26⟩, hv27, h⟩ := bd h
 refine pcO (ok40 (g1000 := g1000) hv27) [0] ⟨rfl, ⟨⟩⟩ (.int .i64 v25) [.row g1000 3 1 105 (fun _ => v26.lit), .row 0 5 1 27 (fun _ => [.bool false, .nils, .nils, .int .i64 0, .int .i64 0]), .row 0 1 v1.fHeads.length 3 (row cI v1.fHeads), .row 0 10 v1.fSlots.length 80 (row TSlot.cells v1.fSlots), .row 0 5 1 27 (fun _ => [.bool v1.fHashed, .own 2 0 0 v1.fHeads.length, .own 3 0 0 v1.fSlots.length, .int .i64 v1.fNext, .int .i64 v1.fCount])] ⟨rfl, ⟨rfl, ?_⟩⟩
 obtain ⟨⟨v28, v29⟩, hv30, h⟩ := bd h
 refine pcO (ok47 (g1000 := g1000) hv30) [0] ⟨rfl, ⟨⟩⟩ (.agg v28.lit) [.row g1000 3 1 105 (fun _ => v29.lit), .row 0 5 1 27 (fun _ => [.bool false, .nils, .nils, .int .i64 0, .int .i64 0]), .row 0 1 v1.fHeads.length 3 (row cI v1.fHeads), .row 0 10 v1.fSlots.length 80 (row TSlot.cells v1.fSlots), .row 0 5 1 27 (fun _ => [.bool v1.fHashed, .own 2 0 0 v1.fHeads.length, .own 3 0 0 v1.fSlots.length, .int .i64 v1.fNext, .int .i64 v1.fCount])] ⟨rfl, ⟨rfl, (bk h fun x31 hx32 h => ⟨rfl, idx_bd hx32, _, Nat.zero_add _, ⟨rfl, ⟨rfl, _, row TSlot.cells (v1.fSlots.set v25.toNat (TSlot.mk v28 x31.fVal x31.fLive x31.fLink)), ((idx_row hx32).trans (TSlot.cells_eq x31)), row_set (idx_lt hx32) (TSlot.cells_eq (TSlot.mk v28 x31.fVal x31.fLive x31.fLink)) ⟨.same _, .same _, .same _, .same _, .same _, .same _, .same _, .same _, .same _, .same _, trivial⟩, (.d ⟨rfl, _, rfl, ⟨rfl, _, fun _ => [.bool v1.fHashed, .own 2 0 0 v1.fHeads.length, .own 3 0 0 v1.fSlots.length, .int .i64 v1.fNext, .int .i64 v1.fCount], rfl, one_set rfl, ?_⟩⟩)⟩⟩⟩)⟩⟩
 obtain rfl := si h
 exact ⟨rfl, _, rfl, (en [0] ⟨rfl, rfl⟩ (.agg_l ⟨.b, .r, (.rx ln), .i, .i, ⟨⟩⟩) ⟨(ob rfl ⟨.l, .i, .i, ⟨⟩⟩), ⟨⟩⟩)⟩
 refine .d ⟨rfl, _, rfl, ⟨rfl, _, fun _ => [.bool v1.fHashed, .own 2 0 0 v1.fHeads.length, .own 3 0 0 v1.fSlots.length, .int .i64 v1.fNext, .int .i64 v1.fCount], rfl, one_set rfl, ?_⟩⟩
 obtain rfl := si h
 exact ⟨rfl, _, rfl, (en [0] ⟨rfl, rfl⟩ (.agg_l ⟨.b, .r, .r, .i, .i, ⟨⟩⟩) ⟨(ob rfl ⟨.l, .i, .i, ⟨⟩⟩), ⟨⟩⟩)⟩
 refine .d ⟨rfl, _, rfl, ⟨rfl, _, fun _ => [.bool v1.fHashed, .own 2 0 0 v1.fHeads.length, .own 3 0 0 v1.fSlots.length, .int .i64 v1.fNext, .int .i64 v1.fCount], rfl, one_set rfl, ?_⟩⟩
 obtain rfl := si h
 exact ⟨rfl, _, rfl, (en [0] ⟨rfl, rfl⟩ (.agg_l ⟨.b, .r, .r, .i, .i, ⟨⟩⟩) ⟨(ob rfl ⟨.l, .i, .i, ⟨⟩⟩), ⟨⟩⟩)⟩
def m_s_DrawTableSet (a0 : List UInt8) : Option (TTable × TKey × TValue) :=
 m36 a0 >>= fun v1 =>
 m47 v1 >>= fun (v3, v4) =>
 m37 v4 12 >>= fun (v6, v7) =>
 (if v6 = true then
 m48 v7 >>= fun (v10, v11) =>
 m_s_l7Any v11 >>= fun (v13, v14) =>
 m50 v14 1 >>= fun (v16, v17) =>
 some (v13, (TKey.mk v3.fText v10 v3.fStr), v16)
 else
 m_s_l7Any v7 >>= fun (v19, v20) =>
 m50 v20 1 >>= fun (v22, v23) =>
 some (v19, v3, v22))
theorem ok_s_DrawTableSet {a0 : List UInt8} {r : TTable × TKey × TValue} (h : m_s_DrawTableSet a0 = some r) : ACall Tryz.prog 7 [sl 1 cB a0] [] (fun res h => res = .tup [.agg r.1.lit, .agg r.2.1.lit, .agg r.2.2.lit] ∧ h = []) := by
 refine vc1 Tryz.func7 ?_
 unfold m_s_DrawTableSet at h
 refine .d (.d (bk h fun v1 hv2 h => (pcF (ok36 hv2) (.optr 3 0 0 0) [.row 0 5 1 27 (fun _ => [.bool false, .nils, .nils, .int .i64 0, .int .i64 0]), .row 0 3 1 29 (fun _ => [.bool false, .int .i64 0, .str []]), .row 0 5 1 32 (fun _ => [.int .i64 0, .int .i64 0, .str [], .int .i64 0, .nils]), .row 0 3 1 105 (fun _ => v1.lit)] (.d ?_))))
 obtain ⟨⟨v3, v4⟩, hv5, h⟩ := bd h
 refine pcO (ok47 (g1000 := 0) hv5) [3] ⟨rfl, ⟨⟩⟩ (.agg v3.lit) [.row 0 5 1 27 (fun _ => [.bool false, .nils, .nils, .int .i64 0, .int .i64 0]), .row 0 3 1 29 (fun _ => [.bool false, .int .i64 0, .str []]), .row 0 5 1 32 (fun _ => [.int .i64 0, .int .i64 0, .str [], .int .i64 0, .nils]), .row 0 3 1 105 (fun _ => v4.lit)] ⟨rfl, _, fun _ => [.bool v3.fText, .int .i64 v3.fNum, .str v3.fStr], rfl, one_set rfl, (.d (.d ?_))⟩
 obtain ⟨⟨v6, v7⟩, hv8, h⟩ := bd h
 refine pcO (ok37 (g1000 := 0) hv8) [3] ⟨rfl, ⟨⟩⟩ (.bool v6) [.row 0 5 1 27 (fun _ => [.bool false, .nils, .nils, .int .i64 0, .int .i64 0]), .row 0 3 1 29 (fun _ => [.bool false, .int .i64 0, .str []]), .row 0 5 1 32 (fun _ => [.int .i64 0, .int .i64 0, .str [], .int .i64 0, .nils]), .row 0 3 1 105 (fun _ => v7.lit), .row 0 3 1 29 (fun _ => v3.lit)] (sV h (fun hb9 h => ?_) (fun hb9 h => ?_))
 obtain ⟨⟨v10, v11⟩, hv12, h⟩ := bd h
 refine pcO (ok48 (g1000 := 0) hv12) [3] ⟨rfl, ⟨⟩⟩ (.int .i64 v10) [.row 0 5 1 27 (fun _ => [.bool false, .nils, .nils, .int .i64 0, .int .i64 0]), .row 0 3 1 29 (fun _ => [.bool false, .int .i64 0, .str []]), .row 0 5 1 32 (fun _ => [.int .i64 0, .int .i64 0, .str [], .int .i64 0, .nils]), .row 0 3 1 105 (fun _ => v11.lit), .row 0 3 1 29 (fun _ => v3.lit)] ⟨rfl, ⟨rfl, _, fun _ => [.bool v3.fText, .int .i64 v10, .str v3.fStr], rfl, one_set rfl, (.d (.float [(0, true), (2, true), (3, true), (1, false), (4, false), (5, false), (6, false), (7, false)] (by kernel_rfl) ?_))⟩⟩
 refine ⟨rfl, _, rfl, ?_⟩
 obtain ⟨⟨v13, v14⟩, hv15, h⟩ := bd h
 refine pcO (ok_s_l7Any (g1000 := 0) hv15) [3] ⟨rfl, ⟨⟩⟩ (.agg v13.lit) [.row 0 5 1 27 (fun _ => [.bool false, .nils, .nils, .int .i64 0, .int .i64 0]), .row 0 3 1 29 (fun _ => [.bool false, .int .i64 0, .str []]), .row 0 5 1 32 (fun _ => [.int .i64 0, .int .i64 0, .str [], .int .i64 0, .nils]), .row 0 3 1 105 (fun _ => v14.lit), .row 0 3 1 29 (fun _ => [.bool v3.fText, .int .i64 v10, .str v3.fStr])] ⟨rfl, ?_⟩
 obtain ⟨⟨v16, v17⟩, hv18, h⟩ := bd h
 refine pcO (ok50 (g1000 := 0) hv18) [3] ⟨rfl, ⟨⟩⟩ (.agg v16.lit) [.row 0 5 1 27 (fun _ => [.bool false, .nils, .nils, .int .i64 0, .int .i64 0]), .row 0 3 1 29 (fun _ => [.bool false, .int .i64 0, .str []]), .row 0 5 1 32 (fun _ => [.int .i64 0, .int .i64 0, .str [], .int .i64 0, .nils]), .row 0 3 1 105 (fun _ => v17.lit), .row 0 3 1 29 (fun _ => [.bool v3.fText, .int .i64 v10, .str v3.fStr])] ⟨rfl, ⟨rfl, _, fun _ => [.bool v13.fHashed, sl 1 cI v13.fHeads, sl 10 TSlot.cells v13.fSlots, .int .i64 v13.fNext, .int .i64 v13.fCount], rfl, one_set rfl, ⟨rfl, ⟨rfl, _, fun _ => [.bool v3.fText, .int .i64 v10, .str v3.fStr], rfl, one_set rfl, ⟨rfl, _, fun _ => [.int .i64 v16.fKind, .int .i64 v16.fNum, .str v16.fStr, .int .i64 v16.fNext, sl 8 TEntry.cells v16.fItems], rfl, one_set rfl, ?_⟩⟩⟩⟩⟩
 obtain rfl := si h
 exact ⟨rfl, _, rfl, ⟨rfl, _, rfl, ⟨rfl, _, rfl, (en [] ⟨rfl, rfl⟩ (.tup_l ⟨.agg_l ⟨.b, .l, .l, .i, .i, ⟨⟩⟩, .agg_l ⟨.b, .i, .s, ⟨⟩⟩, .agg_l ⟨.i, .i, .s, .i, .l, ⟨⟩⟩, ⟨⟩⟩) ⟨⟩)⟩⟩⟩
 refine .d (.float [(0, true), (2, true), (3, true), (1, false), (4, false), (5, false), (6, false), (7, false)] (by kernel_rfl) ?_)
 refine ⟨rfl, _, rfl, ?_⟩
 obtain ⟨⟨v19, v20⟩, hv21, h⟩ := bd h
 refine pcO (ok_s_l7Any (g1000 := 0) hv21) [3] ⟨rfl, ⟨⟩⟩ (.agg v19.lit) [.row 0 5 1 27 (fun _ => [.bool false, .nils, .nils, .int .i64 0, .int .i64 0]), .row 0 3 1 29 (fun _ => [.bool false, .int .i64 0, .str []]), .row 0 5 1 32 (fun _ => [.int .i64 0, .int .i64 0, .str [], .int .i64 0, .nils]), .row 0 3 1 105 (fun _ => v20.lit), .row 0 3 1 29 (fun _ => v3.lit)] ⟨rfl, ?_⟩
 obtain ⟨⟨v22, v23⟩, hv24, h⟩ := bd h
 refine pcO (ok50 (g1000 := 0) hv24) [3] ⟨rfl, ⟨⟩⟩ (.agg v22.lit) [.row 0 5 1 27 (fun _ => [.bool false, .nils, .nils, .int .i64 0, .int .i64 0]), .row 0 3 1 29 (fun _ => [.bool false, .int .i64 0, .str []]), .row 0 5 1 32 (fun _ => [.int .i64 0, .int .i64 0, .str [], .int .i64 0, .nils]), .row 0 3 1 105 (fun _ => v23.lit), .row 0 3 1 29 (fun _ => v3.lit)] ⟨rfl, ⟨rfl, _, fun _ => [.bool v19.fHashed, sl 1 cI v19.fHeads, sl 10 TSlot.cells v19.fSlots, .int .i64 v19.fNext, .int .i64 v19.fCount], rfl, one_set rfl, ⟨rfl, ⟨rfl, _, fun _ => [.bool v3.fText, .int .i64 v3.fNum, .str v3.fStr], rfl, one_set rfl, ⟨rfl, _, fun _ => [.int .i64 v22.fKind, .int .i64 v22.fNum, .str v22.fStr, .int .i64 v22.fNext, sl 8 TEntry.cells v22.fItems], rfl, one_set rfl, ?_⟩⟩⟩⟩⟩
 obtain rfl := si h
 exact ⟨rfl, _, rfl, ⟨rfl, _, rfl, ⟨rfl, _, rfl, (en [] ⟨rfl, rfl⟩ (.tup_l ⟨.agg_l ⟨.b, .l, .l, .i, .i, ⟨⟩⟩, .agg_l ⟨.b, .i, .s, ⟨⟩⟩, .agg_l ⟨.i, .i, .s, .i, .l, ⟨⟩⟩, ⟨⟩⟩) ⟨⟩)⟩⟩⟩
end Go.Am
