/- Models of Go functions, and their walks. (Printed by tools/mg.py.) -/
import Derived.Test.YtgkniabpdgaoiaaGreatDoorK2
set_option linter.unusedVariables false
set_option linter.unusedSimpArgs false
set_option maxRecDepth 100000
namespace Go.Am
open Go Go.RowKit Go.Proofs
def m_i_putSlot (a0 : TTable) (a1 : TKey) (a2 : TValue) : Option (TTable) :=
 m_i_slotOf a0 a1 >>= fun v1 =>
 (if v1 ≥ 0 then
 idx a0.fSlots v1 >>= fun x4 =>
 some (TTable.mk a0.fHashed a0.fHeads (a0.fSlots.set v1.toNat (TSlot.mk x4.fKey a2 x4.fLive x4.fLink)) a0.fNext a0.fCount)
 else
 (
 (if a0.fHashed = true then
 some (a0.fHashed, a0.fNext, a0.fCount, a0.fHeads, a0.fSlots)
 else
 (if a1 = (TKey.mk false (a0.fSlots.length : Int) []) then
 (if (a0.fSlots.length : Int) ≥ 1024 then
 m_i_rebuilt a0 >>= fun v19 =>
 some (v19.fHashed, v19.fNext, v19.fCount, v19.fHeads, v19.fSlots)
 else
 some (a0.fHashed, a0.fNext, a0.fCount, a0.fHeads, a0.fSlots))
 else
 m_i_rebuilt a0 >>= fun v16 =>
 some (v16.fHashed, v16.fNext, v16.fCount, v16.fHeads, v16.fSlots)))
 : Option (Bool × Int × Int × (List Int) × (List TSlot))) >>= fun (b6, y7, y8, l9, l10) =>
 (
 (if b6 = true then
 (if (l10.length : Int) = (l9.length : Int) then
 m_i_rebuilt (TTable.mk b6 l9 l10 y7 y8) >>= fun v31 =>
 some (v31.fHashed, v31.fNext, v31.fCount, v31.fHeads, v31.fSlots)
 else
 some (b6, y7, y8, l9, l10))
 else
 some (b6, y7, y8, l9, l10))
 : Option (Bool × Int × Int × (List Int) × (List TSlot))) >>= fun (b21, y22, y23, l24, l25) =>
 m_i_addSlot (TTable.mk b21 l24 l25 y22 y23) a1 a2 >>= fun v33 =>
 (if a1.fText = true then
 some v33
 else
 m93 v33.fNext (W64 (a1.fNum + 1)) >>= fun v38 =>
 some (TTable.mk v33.fHashed v33.fHeads v33.fSlots v38 v33.fCount)))
theorem ok_i_putSlot {a0 : TTable} {a1 : TKey} {a2 : TValue} {r : TTable} {g1000 : Nat} {g1001 : Nat} (h : m_i_putSlot a0 a1 a2 = some r) : ACall Tryz.prog 40 [.agg [.bool a0.fHashed, .own 0 g1000 0 a0.fHeads.length, .own 1 g1001 0 a0.fSlots.length, .int .i64 a0.fNext, .int .i64 a0.fCount], .agg a1.lit, .agg a2.lit] [.row g1000 1 a0.fHeads.length 3 (row cI a0.fHeads), .row g1001 10 a0.fSlots.length 80 (row TSlot.cells a0.fSlots)] (fun res h => res = .agg [.bool r.fHashed, .own 2 0 0 r.fHeads.length, .own 3 0 0 r.fSlots.length, .int .i64 r.fNext, .int .i64 r.fCount] ∧ h = [.dead, .dead, .row 0 1 r.fHeads.length 3 (row cI r.fHeads), .row 0 10 r.fSlots.length 80 (row TSlot.cells r.fSlots)]) := by
 refine vc1 Tryz.func40 ?_
 unfold m_i_putSlot at h
 refine .d (.d ⟨rfl, _, rfl, ⟨rfl, _, rfl, (bk h fun v1 hv2 h => (pcS (ok_i_slotOf hv2) ⟨.agg_l ⟨.b, .r, .r, .i, .i, ⟨⟩⟩, .agg_l ⟨.b, .i, .s, ⟨⟩⟩, ⟨⟩⟩ (.d (.d (sD h (fun hb3 h => ?_) (fun hb3 h => ?_))))))⟩⟩)
 refine .d ⟨rfl, ⟨rfl, _, rfl, ⟨rfl, _, rfl, (bk h fun x4 hx5 h => ⟨rfl, idx_bd hx5, _, Nat.zero_add _, ⟨rfl, ⟨rfl, _, row TSlot.cells (a0.fSlots.set v1.toNat (TSlot.mk x4.fKey a2 x4.fLive x4.fLink)), ((idx_row hx5).trans (TSlot.cells_eq x4)), row_set (idx_lt hx5) (TSlot.cells_eq (TSlot.mk x4.fKey a2 x4.fLive x4.fLink)) ⟨.same _, .same _, .same _, .same _, .same _, .same _, .same _, .same _, .same _, .same _, trivial⟩, (.d ⟨rfl, _, rfl, ⟨rfl, _, fun _ => [.bool a0.fHashed, .own 0 g1000 0 a0.fHeads.length, .own 1 g1001 0 a0.fSlots.length, .int .i64 a0.fNext, .int .i64 a0.fCount], rfl, one_set rfl, ?_⟩⟩)⟩⟩⟩)⟩⟩⟩
 obtain rfl := si h
 exact ⟨rfl, _, rfl, (en [0, 1, 0, 1] ⟨rfl, rfl⟩ (.agg_l ⟨.b, .o, (.ox ln), .i, .i, ⟨⟩⟩) ⟨dd, dd, nw, (nwx rfl ln), ⟨⟩⟩)⟩
 obtain ⟨o11, ho12, hk13⟩ := bd h
 replace h := ho12
 refine .cut (fun σ η => ∃ b6, ∃ y7, ∃ y8, ∃ l9, ∃ l10, (b6, y7, y8, l9, l10) = o11 ∧ σ = [(3, .optr 2 0 0 0), (4, .optr 5 0 0 0), (5, .optr 6 0 0 0), (6, .optr 7 0 0 0)] ∧ η = [.dead, .dead, .row 0 5 1 27 (fun _ => [.bool b6, .own 3 0 0 l9.length, .own 4 0 0 l10.length, .int .i64 y7, .int .i64 y8]), .row 0 1 l9.length 3 (row cI l9), .row 0 10 l10.length 80 (row TSlot.cells l10), .row 0 3 1 29 (fun _ => a1.lit), .row 0 5 1 32 (fun _ => a2.lit), .row 0 5 1 27 (fun _ => [.bool false, .nils, .nils, .int .i64 0, .int .i64 0])]) ?_ ?_
 refine .d (.float [(0, true), (1, true), (2, true), (3, true), (4, true), (5, true), (6, true), (7, true), (8, false), (9, true), (10, true), (11, true), (12, true), (13, true), (14, true), (15, true), (16, true)] (by kernel_rfl) ?_)
 refine ⟨rfl, ⟨rfl, _, rfl, (sVn h (fun hb14 h => ?_) (fun hb14 h => ?_))⟩⟩
 refine ⟨rfl, _, rfl, (.t ⟨rfl, (.t ⟨rfl, _, rfl, (.t ⟨rfl, (.t (pcP (ok_i_intKeyx (a0.fSlots.length : Int)) ⟨rfl, (.t ⟨_, TKey.eq_cells a1 (TKey.mk false (a0.fSlots.length : Int) []), (.t (sDn h (fun hb15 h => ?_) (fun hb15 h => ?_)))⟩)⟩))⟩)⟩)⟩)⟩
 exact .t (.t (.t (.t (.t (.t (.t ⟨rfl, _, rfl, (bk h fun v16 hv17 h => (pcO (ok_i_rebuilt (g1000 := g1000) (g1001 := g1001) hv17) [0, 1] ⟨ov, ov, ⟨⟩⟩ (.agg [.bool v16.fHashed, .own 6 0 0 v16.fHeads.length, .own 7 0 0 v16.fSlots.length, .int .i64 v16.fNext, .int .i64 v16.fCount]) [.dead, .dead, .row 0 5 1 27 (fun _ => [.bool a0.fHashed, .own 0 g1000 0 a0.fHeads.length, .own 1 g1001 0 a0.fSlots.length, .int .i64 a0.fNext, .int .i64 a0.fCount]), .row 0 3 1 29 (fun _ => a1.lit), .row 0 5 1 32 (fun _ => a2.lit), .row 0 5 1 27 (fun _ => [.bool false, .nils, .nils, .int .i64 0, .int .i64 0]), .row 0 1 v16.fHeads.length 3 (row cI v16.fHeads), .row 0 10 v16.fSlots.length 80 (row TSlot.cells v16.fSlots)] ⟨rfl, _, fun _ => [.bool v16.fHashed, .own 6 0 0 v16.fHeads.length, .own 7 0 0 v16.fSlots.length, .int .i64 v16.fNext, .int .i64 v16.fCount], rfl, one_set rfl, (ct ⟨_, _, _, _, _, si h, rfl, rfl⟩ (tk [0, 1, 2, 6, 7, 3, 4, 5] ⟨.p, .p, .p, .p, ⟨⟩⟩ ⟨dd, dd, (nb rfl ⟨.b, .o, .o, .i, .i, ⟨⟩⟩), nw, nw, (nbp rfl), (nbp rfl), (nb rfl ⟨.b, .nils, .nils, .i, .i, ⟨⟩⟩), ⟨⟩⟩))⟩))⟩))))))
 refine ⟨rfl, (.f ⟨rfl, _, rfl, (.f ⟨rfl, (.f (.t (.f (.t (sD h (fun hb18 h => ?_) (fun hb18 h => ?_))))))⟩)⟩)⟩
 exact ⟨rfl, _, rfl, (bk h fun v19 hv20 h => (pcO (ok_i_rebuilt (g1000 := g1000) (g1001 := g1001) hv20) [0, 1] ⟨ov, ov, ⟨⟩⟩ (.agg [.bool v19.fHashed, .own 6 0 0 v19.fHeads.length, .own 7 0 0 v19.fSlots.length, .int .i64 v19.fNext, .int .i64 v19.fCount]) [.dead, .dead, .row 0 5 1 27 (fun _ => [.bool a0.fHashed, .own 0 g1000 0 a0.fHeads.length, .own 1 g1001 0 a0.fSlots.length, .int .i64 a0.fNext, .int .i64 a0.fCount]), .row 0 3 1 29 (fun _ => a1.lit), .row 0 5 1 32 (fun _ => a2.lit), .row 0 5 1 27 (fun _ => [.bool false, .nils, .nils, .int .i64 0, .int .i64 0]), .row 0 1 v19.fHeads.length 3 (row cI v19.fHeads), .row 0 10 v19.fSlots.length 80 (row TSlot.cells v19.fSlots)] ⟨rfl, _, fun _ => [.bool v19.fHashed, .own 6 0 0 v19.fHeads.length, .own 7 0 0 v19.fSlots.length, .int .i64 v19.fNext, .int .i64 v19.fCount], rfl, one_set rfl, (ct ⟨_, _, _, _, _, si h, rfl, rfl⟩ (tk [0, 1, 2, 6, 7, 3, 4, 5] ⟨.p, .p, .p, .p, ⟨⟩⟩ ⟨dd, dd, (nb rfl ⟨.b, .o, .o, .i, .i, ⟨⟩⟩), nw, nw, (nbp rfl), (nbp rfl), (nb rfl ⟨.b, .nils, .nils, .i, .i, ⟨⟩⟩), ⟨⟩⟩))⟩))⟩
 exact ct ⟨_, _, _, _, _, si h, rfl, rfl⟩ (tk [0, 1, 2, 0, 1, 3, 4, 5] ⟨.p, .p, .p, .p, ⟨⟩⟩ ⟨dd, dd, (nb rfl ⟨.b, .o, .o, .i, .i, ⟨⟩⟩), nw, nw, (nbp rfl), (nbp rfl), (nb rfl ⟨.b, .nils, .nils, .i, .i, ⟨⟩⟩), ⟨⟩⟩)
 exact .f (.f (.f (.f ⟨rfl, (.f (.f (.f (.f (.f (ct ⟨_, _, _, _, _, si h, rfl, rfl⟩ (tk [0, 1, 2, 0, 1, 3, 4, 5] ⟨.p, .p, .p, .p, ⟨⟩⟩ ⟨dd, dd, (nb rfl ⟨.b, .o, .o, .i, .i, ⟨⟩⟩), nw, nw, (nbp rfl), (nbp rfl), (nb rfl ⟨.b, .nils, .nils, .i, .i, ⟨⟩⟩), ⟨⟩⟩)))))))⟩)))
 rintro _ _ ⟨b6, y7, y8, l9, l10, rfl, rfl, rfl⟩
 replace h := hk13
 obtain ⟨o26, ho27, hk28⟩ := bd h
 replace h := ho27
 refine .cut (fun σ η => ∃ b21, ∃ y22, ∃ y23, ∃ l24, ∃ l25, (b21, y22, y23, l24, l25) = o26 ∧ σ = [(3, .optr 2 0 0 0), (4, .optr 5 0 0 0), (5, .optr 6 0 0 0), (6, .optr 7 0 0 0)] ∧ η = [.dead, .dead, .row 0 5 1 27 (fun _ => [.bool b21, .own 3 0 0 l24.length, .own 4 0 0 l25.length, .int .i64 y22, .int .i64 y23]), .row 0 1 l24.length 3 (row cI l24), .row 0 10 l25.length 80 (row TSlot.cells l25), .row 0 3 1 29 (fun _ => a1.lit), .row 0 5 1 32 (fun _ => a2.lit), .row 0 5 1 27 (fun _ => [.bool false, .nils, .nils, .int .i64 0, .int .i64 0])]) ?_ ?_
 refine .d ⟨rfl, ⟨rfl, _, rfl, (sV h (fun hb29 h => ?_) (fun hb29 h => ?_))⟩⟩
 refine ⟨rfl, (.t ⟨rfl, _, rfl, (.t ⟨rfl, (.t ⟨rfl, (.t ⟨rfl, _, rfl, (.t ⟨rfl, (.t (.t (sE h (fun hb30 h => ?_) (fun hb30 h => ?_))))⟩)⟩)⟩)⟩)⟩)⟩
 exact ⟨rfl, _, rfl, (bk h fun v31 hv32 h => (pcO (ok_i_rebuilt (g1000 := 0) (g1001 := 0) hv32) [3, 4] ⟨ov, ov, ⟨⟩⟩ (.agg [.bool v31.fHashed, .own 8 0 0 v31.fHeads.length, .own 9 0 0 v31.fSlots.length, .int .i64 v31.fNext, .int .i64 v31.fCount]) [.dead, .dead, .row 0 5 1 27 (fun _ => [.bool b6, .own 3 0 0 l9.length, .own 4 0 0 l10.length, .int .i64 y7, .int .i64 y8]), .dead, .dead, .row 0 3 1 29 (fun _ => a1.lit), .row 0 5 1 32 (fun _ => a2.lit), .row 0 5 1 27 (fun _ => [.bool false, .nils, .nils, .int .i64 0, .int .i64 0]), .row 0 1 v31.fHeads.length 3 (row cI v31.fHeads), .row 0 10 v31.fSlots.length 80 (row TSlot.cells v31.fSlots)] ⟨rfl, _, fun _ => [.bool v31.fHashed, .own 8 0 0 v31.fHeads.length, .own 9 0 0 v31.fSlots.length, .int .i64 v31.fNext, .int .i64 v31.fCount], rfl, one_set rfl, (ct ⟨_, _, _, _, _, si h, rfl, rfl⟩ (tk [0, 1, 2, 8, 9, 5, 6, 7] ⟨.p, .p, .p, .p, ⟨⟩⟩ ⟨dd, dd, (nb rfl ⟨.b, .o, .o, .i, .i, ⟨⟩⟩), nw, nw, (nbp rfl), (nbp rfl), (nb rfl ⟨.b, .nils, .nils, .i, .i, ⟨⟩⟩), ⟨⟩⟩))⟩))⟩
 exact ct ⟨_, _, _, _, _, si h, rfl, rfl⟩ (tk [0, 1, 2, 3, 4, 5, 6, 7] ⟨.p, .p, .p, .p, ⟨⟩⟩ ⟨dd, dd, (nb rfl ⟨.b, .o, .o, .i, .i, ⟨⟩⟩), nw, nw, (nbp rfl), (nbp rfl), (nb rfl ⟨.b, .nils, .nils, .i, .i, ⟨⟩⟩), ⟨⟩⟩)
 exact .f (.f (.f (.f (.f (.f (.f (.f (ct ⟨_, _, _, _, _, si h, rfl, rfl⟩ (tk [0, 1, 2, 3, 4, 5, 6, 7] ⟨.p, .p, .p, .p, ⟨⟩⟩ ⟨dd, dd, (nb rfl ⟨.b, .o, .o, .i, .i, ⟨⟩⟩), nw, nw, (nbp rfl), (nbp rfl), (nb rfl ⟨.b, .nils, .nils, .i, .i, ⟨⟩⟩), ⟨⟩⟩)))))))))
 rintro _ _ ⟨b21, y22, y23, l24, l25, rfl, rfl, rfl⟩
 replace h := hk28
 refine .d ⟨rfl, _, rfl, ⟨rfl, _, rfl, (bk h fun v33 hv34 h => ⟨fun res h' => ∃ g35 : Nat, ∃ g36 : Nat, res = .tup [] ∧ h' = [.dead, .dead, .row 0 5 1 27 (fun _ => [.bool v33.fHashed, .own 3 g35 0 v33.fHeads.length, .own 4 g36 0 v33.fSlots.length, .int .i64 v33.fNext, .int .i64 v33.fCount]), .row g35 1 v33.fHeads.length 3 (row cI v33.fHeads), .row g36 10 v33.fSlots.length 80 (row TSlot.cells v33.fSlots), .row 0 3 1 29 (fun _ => a1.lit), .row 0 5 1 32 (fun _ => a2.lit), .row 0 5 1 27 (fun _ => [.bool false, .nils, .nils, .int .i64 0, .int .i64 0])], (ACall.over (ok_i_addSlot (g1000 := 0) (g1001 := 0) (g1002 := 0) hv34) [2, 3, 4] [.dead, .dead, .row 0 5 1 27 (fun _ => [.bool b21, .own 3 0 0 l24.length, .own 4 0 0 l25.length, .int .i64 y22, .int .i64 y23]), .row 0 1 l24.length 3 (row cI l24), .row 0 10 l25.length 80 (row TSlot.cells l25), .row 0 3 1 29 (fun _ => a1.lit), .row 0 5 1 32 (fun _ => a2.lit), .row 0 5 1 27 (fun _ => [.bool false, .nils, .nils, .int .i64 0, .int .i64 0])] rfl (by decide) (by simp) (by intro j o hj; exact match j, hj with | 0, hj => by cases hj; rfl | 1, hj => by cases hj; exact (congrArg some (renO_row cI_pure _ _ _ _ _ _)).symm | 2, hj => by cases hj; exact (congrArg some (renO_row TSlot.cells_pure _ _ _ _ _ _)).symm | j + 3, hj => by cases hj) rfl).mono (by rintro _ _ ⟨_, _, ⟨g35, g36, rfl, rfl⟩, rfl, rfl⟩; exact ⟨g35, g36, rfl, (by simp only [nxtL, putSel, List.map_cons, List.map_nil, List.drop, List.length_cons, List.length_nil, renO_row TSlot.cells_pure, renO_row cI_pure]; rfl)⟩), ?_⟩)⟩⟩
 rintro _ _ ⟨g35, g36, rfl, rfl⟩
 refine .d (.d ⟨rfl, ⟨rfl, _, rfl, (sVn h (fun hb37 h => ?_) (fun hb37 h => ?_))⟩⟩)
 refine ⟨rfl, ⟨rfl, _, rfl, ⟨rfl, ⟨rfl, _, rfl, (bk h fun v38 hv39 h => (pcP (ok93 hv39) ⟨rfl, ⟨rfl, _, fun _ => [.bool v33.fHashed, .own 3 g35 0 v33.fHeads.length, .own 4 g36 0 v33.fSlots.length, .int .i64 v38, .int .i64 v33.fCount], rfl, one_set rfl, (.d ⟨rfl, _, rfl, ⟨rfl, _, fun _ => [.bool v33.fHashed, .own 3 g35 0 v33.fHeads.length, .own 4 g36 0 v33.fSlots.length, .int .i64 v38, .int .i64 v33.fCount], rfl, one_set rfl, ?_⟩⟩)⟩⟩))⟩⟩⟩⟩
 obtain rfl := si h
 exact ⟨rfl, _, rfl, (en [0, 1, 3, 4] ⟨rfl, rfl⟩ (.agg_l ⟨.b, .o, .o, .i, .i, ⟨⟩⟩) ⟨dd, dd, nw, nw, ⟨⟩⟩)⟩
 refine .d ⟨rfl, _, rfl, ⟨rfl, _, fun _ => [.bool v33.fHashed, .own 3 g35 0 v33.fHeads.length, .own 4 g36 0 v33.fSlots.length, .int .i64 v33.fNext, .int .i64 v33.fCount], rfl, one_set rfl, ?_⟩⟩
 obtain rfl := si h
 exact ⟨rfl, _, rfl, (en [0, 1, 3, 4] ⟨rfl, rfl⟩ (.agg_l ⟨.b, .o, .o, .i, .i, ⟨⟩⟩) ⟨dd, dd, nw, nw, ⟨⟩⟩)⟩
end Go.Am
