/- Models of Go functions, and their walks. (Printed by tools/mg.py.) -/
import Derived.Test.YtgkniabpdgaoiaaGreatDoorK1
import Derived.Test.YtgkniabpdgaoiaaGreatDoorF4
set_option linter.unusedVariables false
set_option linter.unusedSimpArgs false
set_option maxRecDepth 100000
namespace Go.Am
open Go Go.RowKit Go.Proofs
def m_s_l7Find_L2 (a0 : TTable) (a1 : TKey) (y20 : Int) : Option ((Unit) ⊕ Int) :=
 (if y20 ≥ 0 then
 idx a0.fSlots y20 >>= fun x24 =>
 (if x24.fLive = true then
 idx a0.fSlots y20 >>= fun x27 =>
 (if x27.fKey = a1 then
 some (.inr y20)
 else
 idx a0.fSlots y20 >>= fun x30 =>
 m_s_l7Find_L2 a0 a1 x30.fLink)
 else
 idx a0.fSlots y20 >>= fun x32 =>
 m_s_l7Find_L2 a0 a1 x32.fLink)
 else
 some (.inl ()))
partial_fixpoint
def m_s_l7Find (a0 : TTable) (a1 : TKey) : Option (Int) :=
 (if a0.fHashed = true then
 ((
 m_s_KeyHash a1 >>= fun v15 =>
 must ((a0.fHeads.length : Int) ≠ 0) >>= fun _ =>
 idx a0.fHeads (v15.tmod (a0.fHeads.length : Int)) >>= fun x18 =>
 m_s_l7Find_L2 a0 a1 x18
 : Option ((Unit) ⊕ Int)) >>= fun o12 => match o12 with
 | .inr r => some r
 | .inl _ =>
 some (-1)
 )
 else
 (if a1.fText = true then
 some (-1)
 else
 m53 a1.fNum 0 (W64 ((a0.fSlots.length : Int) - 1)) >>= fun v3 =>
 (if v3 = true then
 idx a0.fSlots a1.fNum >>= fun x6 =>
 (if x6.fLive = true then
 idx a0.fSlots a1.fNum >>= fun x9 =>
 (if x9.fKey = a1 then
 some a1.fNum
 else
 some (-1))
 else
 some (-1))
 else
 some (-1))))
theorem ok_s_l7Find {a0 : TTable} {a1 : TKey} {r : Int} (h : m_s_l7Find a0 a1 = some r) : ACall Tryz.prog 127 [.agg a0.lit, .agg a1.lit] [] (fun res h => res = .int .i64 r ∧ h = []) := by
 refine vc1 Tryz.func127 ?_
 unfold m_s_l7Find at h
 refine .d (.d (.d ⟨rfl, ⟨rfl, _, rfl, (sVn h (fun hb1 h => ?_) (fun hb1 h => ?_))⟩⟩))
 refine .d (.d (.float [(0, true), (1, true), (2, true), (3, true), (4, true), (5, true), (6, true), (7, true), (8, true), (9, true), (10, false), (11, true), (12, true), (13, true), (14, true), (15, true), (16, true), (17, true), (18, true), (19, true), (20, true), (21, true), (22, true), (23, true), (24, true), (25, true), (26, true), (27, true), (28, true), (29, true), (30, true), (31, true)] (by kernel_rfl) ?_))
 refine ⟨rfl, ⟨rfl, _, rfl, (sVn h (fun hb2 h => ?_) (fun hb2 h => ?_))⟩⟩
 refine ⟨rfl, (.t ⟨rfl, _, rfl, (.t ⟨rfl, (.t ⟨rfl, _, rfl, (.t (.t (.t (bk h fun v3 hv4 h => (pcP (ok53 hv4) (.t (sV h (fun hb5 h => ?_) (fun hb5 h => ?_))))))))⟩)⟩)⟩)⟩
 refine ⟨rfl, (.t ⟨rfl, _, rfl, (.t ⟨rfl, (.t ⟨rfl, _, rfl, (.t (bk h fun x6 hx7 h => ⟨idx_bd hx7, _, (idx_row hx7).trans (TSlot.cells_eq x6), (.t (.t (.t (sV h (fun hb8 h => ?_) (fun hb8 h => ?_)))))⟩))⟩)⟩)⟩)⟩
 refine ⟨rfl, (.t ⟨rfl, _, rfl, (.t ⟨rfl, (.t ⟨rfl, _, rfl, (.t (bk h fun x9 hx10 h => ⟨idx_bd hx10, _, (idx_row hx10).trans (TSlot.cells_eq x9), (.t (.t (.t ⟨rfl, _, rfl, (.t ?_)⟩)))⟩))⟩)⟩)⟩)⟩
 refine ⟨_, TKey.eq_cells x9.fKey a1, (.t (sD h (fun hb11 h => ?_) (fun hb11 h => ?_)))⟩
 exact .d ⟨rfl, ⟨rfl, _, rfl, (eI h)⟩⟩
 exact .d (eI h)
 exact .f (.f (.f (.f (.f (.f (.f (.f (.f (.f (.d (eI h)))))))))))
 refine .f (.f (.f (.f (.f (.f (.f (.f (.f (.f (.f (.f (.f (.f (.f ?_))))))))))))))
 exact .f (.f (.f (.d (eI h))))
 refine .f (.f (.f (.f (.f (.f (.f (.f (.f (.f (.f (.f (.f (.f (.f ?_))))))))))))))
 exact .f (.f (.f (.f (.f (.f (.f (.f (.f (.f (.f (.d (eI h))))))))))))
 obtain ⟨o12, ho13, hk14⟩ := bd h
 replace h := ho13
 refine .cut (fun σ η => .inl () = o12 ∧ σ = [] ∧ η = []) ?_ ?_
 refine .d (.float [(0, true), (1, true), (2, true), (4, true), (5, true), (6, true), (3, false), (7, true), (8, true), (9, true), (10, true)] (by kernel_rfl) ?_)
 refine ⟨rfl, ⟨rfl, _, rfl, ⟨rfl, _, rfl, ⟨rfl, ⟨rfl, _, rfl, (bk h fun v15 hv16 h => (pcP (ok_s_KeyHash hv16) ⟨rfl, ⟨rfl, ⟨rfl, ⟨rfl, ?_⟩⟩⟩⟩))⟩⟩⟩⟩⟩
 obtain ⟨_, hm17, h⟩ := bd h
 refine ⟨must_some hm17, (bk h fun x18 hx19 h => ⟨idx_bd hx19, _, (idx_row hx19).trans rfl, ?_⟩)⟩
 refine le (m_s_l7Find_L2.partial_correctness a0 a1 (motive := fun y20 o34 => o12 = o34 → LoopAt _ _ [(2, .optr 0 0 0 0), (3, .optr 1 0 0 0), (5, .int .i64 y20)] [.row 0 5 1 27 (fun _ => a0.lit), .row 0 3 1 29 (fun _ => a1.lit)]) ?_ x18 o12 h rfl) (tk [0, 1] ⟨.p, .p, .i, ⟨⟩⟩ ⟨(nbp rfl), (nbp rfl), ⟨⟩⟩)
 intro F22 ih21 y20 o34 h hr35
 subst hr35
 refine LoopAt.round (.d (.d (sD h (fun hb23 h => ?_) (fun hb23 h => ?_))))
 refine .d (.d ⟨rfl, ⟨rfl, _, rfl, (bk h fun x24 hx25 h => ⟨idx_bd hx25, _, (idx_row hx25).trans (TSlot.cells_eq x24), (sV h (fun hb26 h => ?_) (fun hb26 h => ?_))⟩)⟩⟩)
 refine ⟨rfl, (.t ⟨rfl, _, rfl, (.t (.t (bk h fun x27 hx28 h => ⟨idx_bd hx28, _, (idx_row hx28).trans (TSlot.cells_eq x27), (.t (.t (.t ⟨rfl, _, rfl, (.t ⟨_, TKey.eq_cells x27.fKey a1, (.t (sD h (fun hb29 h => ?_) (fun hb29 h => ?_)))⟩)⟩)))⟩)))⟩)⟩
 refine .d ?_
 obtain rfl := si h
 replace h := hk14
 exact eI h
 exact ⟨rfl, ⟨rfl, _, rfl, (bk h fun x30 hx31 h => ⟨idx_bd hx31, _, (idx_row hx31).trans (TSlot.cells_eq x30), (lg (ih21 _ _ h rfl) (tk [0, 1] ⟨.p, .p, .i, ⟨⟩⟩ ⟨(nbp rfl), (nbp rfl), ⟨⟩⟩))⟩)⟩⟩
 exact .f (.f (.f (.f (.f (.f (.f (.f (.f ⟨rfl, ⟨rfl, _, rfl, (bk h fun x32 hx33 h => ⟨idx_bd hx33, _, (idx_row hx33).trans (TSlot.cells_eq x32), (lg (ih21 _ _ h rfl) (tk [0, 1] ⟨.p, .p, .i, ⟨⟩⟩ ⟨(nbp rfl), (nbp rfl), ⟨⟩⟩))⟩)⟩⟩))))))))
 exact ct ⟨si h, rfl, rfl⟩ (tk [] ⟨⟩ ⟨⟩)
 rintro _ _ ⟨rfl, rfl, rfl⟩
 replace h := hk14
 exact .d (eI h)
def m_s_l7Push (a0 : TTable) (a1 : TKey) (a2 : TValue) : Option (TTable) :=
 (
 (if a0.fHashed = true then
 m_s_KeyHash a1 >>= fun v7 =>
 must ((a0.fHeads.length : Int) ≠ 0) >>= fun _ =>
 idx a0.fHeads (v7.tmod (a0.fHeads.length : Int)) >>= fun x10 =>
 idx a0.fHeads (v7.tmod (a0.fHeads.length : Int)) >>= fun x12 =>
 some ((a0.fHeads.set ((v7.tmod (a0.fHeads.length : Int)).toNat) (a0.fSlots.length : Int)), x10)
 else
 some (a0.fHeads, (-1)))
 : Option ((List Int) × Int)) >>= fun (l1, y2) =>
 lapp 112 a0.fSlots ([(TSlot.mk a1 a2 true y2)] : List TSlot) >>= fun l14 =>
 (if a1.fText = true then
 some (TTable.mk a0.fHashed l1 l14 a0.fNext (W64 (a0.fCount + 1)))
 else
 m91 a0.fNext (W64 (a1.fNum + 1)) >>= fun v17 =>
 some (TTable.mk a0.fHashed l1 l14 v17 (W64 (a0.fCount + 1))))
theorem ok_s_l7Push {a0 : TTable} {a1 : TKey} {a2 : TValue} {r : TTable} {g1000 : Nat} {g1001 : Nat} (h : m_s_l7Push a0 a1 a2 = some r) : ACall Tryz.prog 130 [.agg [.bool a0.fHashed, .own 0 g1000 0 a0.fHeads.length, .own 1 g1001 0 a0.fSlots.length, .int .i64 a0.fNext, .int .i64 a0.fCount], .agg a1.lit, .agg a2.lit] [.row g1000 1 a0.fHeads.length 3 (row cI a0.fHeads), .row g1001 10 a0.fSlots.length 80 (row TSlot.cells a0.fSlots)] (fun res h => res = .agg [.bool r.fHashed, .own 2 0 0 r.fHeads.length, .own 3 0 0 r.fSlots.length, .int .i64 r.fNext, .int .i64 r.fCount] ∧ h = [.dead, .dead, .row 0 1 r.fHeads.length 3 (row cI r.fHeads), .row 0 10 r.fSlots.length 80 (row TSlot.cells r.fSlots)]) := by
 refine vc1 Tryz.func130 ?_
 unfold m_s_l7Push at h
 refine .d (.d ⟨rfl, _, rfl, ⟨rfl, _, rfl, ⟨rfl, _, fun _ => [.bool a1.fText, .int .i64 a1.fNum, .str a1.fStr, .int .i64 a2.fKind, .int .i64 a2.fNum, .str a2.fStr, .int .i64 a2.fNext, sl 8 TEntry.cells a2.fItems, .bool true, .int .i64 (-1)], rfl, one_set rfl, ?_⟩⟩⟩)
 obtain ⟨o3, ho4, hk5⟩ := bd h
 replace h := ho4
 refine .cut (fun σ η => ∃ l1, ∃ y2, (l1, y2) = o3 ∧ σ = [(3, .optr 2 0 0 0), (4, .optr 5 0 0 0), (6, .optr 6 0 0 0), (7, .optr 7 0 0 0)] ∧ η = [.dead, .dead, .row 0 5 1 27 (fun _ => [.bool a0.fHashed, .own 3 0 0 l1.length, .own 4 0 0 a0.fSlots.length, .int .i64 a0.fNext, .int .i64 a0.fCount]), .row 0 1 l1.length 3 (row cI l1), .row 0 10 a0.fSlots.length 80 (row TSlot.cells a0.fSlots), .row 0 3 1 29 (fun _ => a1.lit), .row 0 5 1 27 (fun _ => [.bool false, .nils, .nils, .int .i64 0, .int .i64 0]), .row 0 10 1 80 (fun _ => [.bool a1.fText, .int .i64 a1.fNum, .str a1.fStr, .int .i64 a2.fKind, .int .i64 a2.fNum, .str a2.fStr, .int .i64 a2.fNext, sl 8 TEntry.cells a2.fItems, .bool true, .int .i64 y2])]) ?_ ?_
 refine .d ⟨rfl, ⟨rfl, _, rfl, (sV h (fun hb6 h => ?_) (fun hb6 h => ?_))⟩⟩
 refine .d (.float [(0, true), (2, true), (3, true), (4, true), (1, false), (5, true), (6, true)] (by kernel_rfl) ?_)
 refine ⟨rfl, _, rfl, ⟨rfl, ⟨rfl, _, rfl, ⟨rfl, (bk h fun v7 hv8 h => (pcP (ok_s_KeyHash hv8) ⟨rfl, ⟨rfl, ⟨rfl, ?_⟩⟩⟩))⟩⟩⟩⟩
 obtain ⟨_, hm9, h⟩ := bd h
 refine ⟨must_some hm9, (.d ⟨rfl, ⟨rfl, _, rfl, (bk h fun x10 hx11 h => ⟨rfl, idx_bd hx11, _, Nat.zero_add _, ⟨rfl, _, ((idx_row hx11).trans rfl), ⟨rfl, ⟨rfl, _, fun _ => [.bool a1.fText, .int .i64 a1.fNum, .str a1.fStr, .int .i64 a2.fKind, .int .i64 a2.fNum, .str a2.fStr, .int .i64 a2.fNext, sl 8 TEntry.cells a2.fItems, .bool true, .int .i64 x10], rfl, one_set rfl, ⟨rfl, ⟨rfl, _, rfl, ⟨rfl, ⟨rfl, _, rfl, ⟨rfl, (bk h fun x12 hx13 h => ?_)⟩⟩⟩⟩⟩⟩⟩⟩⟩)⟩⟩)⟩
 exact ⟨rfl, idx_bd hx13, _, Nat.zero_add _, ⟨rfl, _, row cI (a0.fHeads.set ((v7.tmod (a0.fHeads.length : Int)).toNat) (a0.fSlots.length : Int)), ((idx_row hx13).trans rfl), row_set (idx_lt hx13) rfl ⟨.same _, trivial⟩, (ct ⟨_, _, si h, rfl, rfl⟩ (tk [0, 1, 2, 0, 1, 3, 5, 6] ⟨.p, .p, .p, .p, ⟨⟩⟩ ⟨dd, dd, (nb rfl ⟨.b, (.ox ln), .o, .i, .i, ⟨⟩⟩), (nwx rfl ln), nw, (nbp rfl), (nb rfl ⟨.b, .nils, .nils, .i, .i, ⟨⟩⟩), (nbp rfl), ⟨⟩⟩))⟩⟩
 exact ct ⟨_, _, si h, rfl, rfl⟩ (tk [0, 1, 2, 0, 1, 3, 5, 6] ⟨.p, .p, .p, .p, ⟨⟩⟩ ⟨dd, dd, (nb rfl ⟨.b, .o, .o, .i, .i, ⟨⟩⟩), nw, nw, (nbp rfl), (nb rfl ⟨.b, .nils, .nils, .i, .i, ⟨⟩⟩), (nbp rfl), ⟨⟩⟩)
 rintro _ _ ⟨l1, y2, rfl, rfl, rfl⟩
 replace h := hk5
 refine .d ⟨rfl, ⟨rfl, _, rfl, ⟨rfl, _, rfl, ⟨row TSlot.cells ([(TSlot.mk a1 a2 true y2)] : List TSlot), row_lit TSlot.cells ([(TSlot.mk a1 a2 true y2)] : List TSlot) rfl (cll_refl rfl), (bk h fun l14 hx15 h => ⟨rfl, rfl, lapp_bd hx15, l14.length, row TSlot.cells l14, lapp_len hx15, lapp_row hx15 shows_all (src_own shows_all), ⟨rfl, ⟨rfl, _, fun _ => [.bool a0.fHashed, .own 3 0 0 l1.length, .own 4 (0 + 1) 0 l14.length, .int .i64 a0.fNext, .int .i64 a0.fCount], rfl, one_set rfl, (.d ⟨rfl, ⟨rfl, _, rfl, ⟨rfl, ⟨rfl, _, fun _ => [.bool a0.fHashed, .own 3 0 0 l1.length, .own 4 (0 + 1) 0 l14.length, .int .i64 a0.fNext, .int .i64 (W64 (a0.fCount + 1))], rfl, one_set rfl, (.d ?_)⟩⟩⟩⟩)⟩⟩⟩)⟩⟩⟩⟩
 refine .d ⟨rfl, ⟨rfl, _, rfl, (sVn h (fun hb16 h => ?_) (fun hb16 h => ?_))⟩⟩
 refine ⟨rfl, ⟨rfl, _, rfl, ⟨rfl, ⟨rfl, _, rfl, (bk h fun v17 hv18 h => (pcP (ok91 hv18) ⟨rfl, ⟨rfl, _, fun _ => [.bool a0.fHashed, .own 3 0 0 l1.length, .own 4 (0 + 1) 0 l14.length, .int .i64 v17, .int .i64 (W64 (a0.fCount + 1))], rfl, one_set rfl, (.d ⟨rfl, _, rfl, ⟨rfl, _, fun _ => [.bool a0.fHashed, .own 3 0 0 l1.length, .own 4 (0 + 1) 0 l14.length, .int .i64 v17, .int .i64 (W64 (a0.fCount + 1))], rfl, one_set rfl, ?_⟩⟩)⟩⟩))⟩⟩⟩⟩
 obtain rfl := si h
 exact ⟨rfl, _, rfl, (en [0, 1, 3, 4] ⟨rfl, rfl⟩ (.agg_l ⟨.b, .o, .o, .i, .i, ⟨⟩⟩) ⟨dd, dd, nw, nw, ⟨⟩⟩)⟩
 refine .d ⟨rfl, _, rfl, ⟨rfl, _, fun _ => [.bool a0.fHashed, .own 3 0 0 l1.length, .own 4 (0 + 1) 0 l14.length, .int .i64 a0.fNext, .int .i64 (W64 (a0.fCount + 1))], rfl, one_set rfl, ?_⟩⟩
 obtain rfl := si h
 exact ⟨rfl, _, rfl, (en [0, 1, 3, 4] ⟨rfl, rfl⟩ (.agg_l ⟨.b, .o, .o, .i, .i, ⟨⟩⟩) ⟨dd, dd, nw, nw, ⟨⟩⟩)⟩
def m_s_l7Room_L2 (a0 : TTable) (y5 : Int) : Option (Int) :=
 (if y5 ≤ a0.fCount then
 m_s_l7Room_L2 a0 (W64 (2 * y5))
 else
 some y5)
partial_fixpoint
def m_s_l7Room (a0 : TTable) : Option (Int) :=
 (
 m_s_l7Room_L2 a0 8
 : Option (Int)) >>= fun y1 =>
 some y1
theorem ok_s_l7Room {a0 : TTable} {r : Int} (h : m_s_l7Room a0 = some r) : ACall Tryz.prog 129 [.agg a0.lit] [] (fun res h => res = .int .i64 r ∧ h = []) := by
 refine vc1 Tryz.func129 ?_
 unfold m_s_l7Room at h
 refine .d (.d ?_)
 obtain ⟨o2, ho3, hk4⟩ := bd h
 replace h := ho3
 refine .cut (fun σ η => ∃ y1, y1 = o2 ∧ σ = [(3, .int .i64 y1)] ∧ η = []) ?_ ?_
 refine le (m_s_l7Room_L2.partial_correctness a0 (motive := fun y5 o9 => o2 = o9 → LoopAt _ _ [(1, .optr 0 0 0 0), (3, .int .i64 y5)] [.row 0 5 1 27 (fun _ => a0.lit)]) ?_ 8 o2 h rfl) (tk [0] ⟨.p, .i, ⟨⟩⟩ ⟨(nbp rfl), ⟨⟩⟩)
 intro F7 ih6 y5 o9 h hr10
 subst hr10
 refine LoopAt.round (.d (.d ⟨rfl, ⟨rfl, _, rfl, (sD h (fun hb8 h => ?_) (fun hb8 h => ?_))⟩⟩))
 exact lg (ih6 _ _ h rfl) (tk [0] ⟨.p, .i, ⟨⟩⟩ ⟨(nbp rfl), ⟨⟩⟩)
 exact ct ⟨_, si h, rfl, rfl⟩ (tk [] ⟨.i, ⟨⟩⟩ ⟨⟩)
 rintro _ _ ⟨y1, rfl, rfl, rfl⟩
 replace h := hk4
 exact .d (eI h)
def m_s_l7Build_L2 (a1 : Int) (l8 : List Int) (l9 : List TSlot) (l10 : List Int) (l11 : List TSlot) (y12 : Int) : Option ((List Int) × (List TSlot) × (List Int) × (List TSlot)) :=
 (if y12 < a1 then
 lapp 8 l10 ([(-1)] : List Int) >>= fun l16 =>
 m_s_l7Build_L2 a1 l8 l9 l16 l11 (W64 (y12 + 1))
 else
 some (l8, l9, l10, l11))
partial_fixpoint
def m_s_l7Build_L4 (a0 : TTable) (b28 : Bool) (y29 : Int) (y30 : Int) (l31 : List Int) (l32 : List TSlot) (y33 : Int) : Option (Bool × Int × Int × (List Int) × (List TSlot)) :=
 (if y33 < (a0.fSlots.length : Int) then
 idx a0.fSlots y33 >>= fun x37 =>
 (if x37.fLive = true then
 idx a0.fSlots y33 >>= fun x40 =>
 idx a0.fSlots y33 >>= fun x42 =>
 m_s_l7Push (TTable.mk b28 l31 l32 y29 y30) x40.fKey x42.fVal >>= fun v44 =>
 m_s_l7Build_L4 a0 v44.fHashed v44.fNext v44.fCount v44.fHeads v44.fSlots (W64 (y33 + 1))
 else
 m_s_l7Build_L4 a0 b28 y29 y30 l31 l32 (W64 (y33 + 1)))
 else
 some (b28, y29, y30, l31, l32))
partial_fixpoint
def m_s_l7Build (a0 : TTable) (a1 : Int) : Option (TTable) :=
 (
 m_s_l7Build_L2 a1 ([] : List Int) ([] : List TSlot) ([] : List Int) ([] : List TSlot) 0
 : Option ((List Int) × (List TSlot) × (List Int) × (List TSlot))) >>= fun (l1, l2, l3, l4) =>
 (
 m_s_l7Build_L4 a0 true a0.fNext 0 l3 l4 0
 : Option (Bool × Int × Int × (List Int) × (List TSlot))) >>= fun (b20, y21, y22, l23, l24) =>
 some (TTable.mk b20 l23 l24 y21 y22)
theorem ok_s_l7Build {a0 : TTable} {a1 : Int} {r : TTable} {g1000 : Nat} {g1001 : Nat} (h : m_s_l7Build a0 a1 = some r) : ACall Tryz.prog 128 [.agg [.bool a0.fHashed, .own 0 g1000 0 a0.fHeads.length, .own 1 g1001 0 a0.fSlots.length, .int .i64 a0.fNext, .int .i64 a0.fCount], .int .i64 a1] [.row g1000 1 a0.fHeads.length 3 (row cI a0.fHeads), .row g1001 10 a0.fSlots.length 80 (row TSlot.cells a0.fSlots)] (fun res h => res = .agg [.bool r.fHashed, .own 2 0 0 r.fHeads.length, .own 3 0 0 r.fSlots.length, .int .i64 r.fNext, .int .i64 r.fCount] ∧ h = [.dead, .dead, .row 0 1 r.fHeads.length 3 (row cI r.fHeads), .row 0 10 r.fSlots.length 80 (row TSlot.cells r.fSlots)]) := by
 refine vc1 Tryz.func128 ?_
 unfold m_s_l7Build at h
 refine .d (.d ⟨rfl, ⟨rfl, _, rfl, ⟨rfl, _, fun _ => [.bool true, .nils, .nils, .int .i64 a0.fNext, .int .i64 0], rfl, one_set rfl, ?_⟩⟩⟩)
 obtain ⟨o5, ho6, hk7⟩ := bd h
 replace h := ho6
 refine .cut (fun σ η => ∃ l1, ∃ l2, ∃ l3, ∃ l4, (l1, l2, l3, l4) = o5 ∧ σ = [(2, .optr 2 0 0 0), (4, .optr 5 0 0 0), (5, .optr 8 0 0 0)] ∧ η = [.dead, .dead, .row 0 5 1 27 (fun _ => [.bool a0.fHashed, .own 3 0 0 a0.fHeads.length, .own 4 0 0 a0.fSlots.length, .int .i64 a0.fNext, .int .i64 a0.fCount]), .row 0 1 a0.fHeads.length 3 (row cI a0.fHeads), .row 0 10 a0.fSlots.length 80 (row TSlot.cells a0.fSlots), .row 0 5 1 27 (fun _ => [.bool false, .own 6 0 0 l1.length, .own 7 0 0 l2.length, .int .i64 0, .int .i64 0]), .row 0 1 l1.length 3 (row cI l1), .row 0 10 l2.length 80 (row TSlot.cells l2), .row 0 5 1 27 (fun _ => [.bool true, .own 9 0 0 l3.length, .own 10 0 0 l4.length, .int .i64 a0.fNext, .int .i64 0]), .row 0 1 l3.length 3 (row cI l3), .row 0 10 l4.length 80 (row TSlot.cells l4)]) ?_ ?_
 refine .d ?_
 refine le (m_s_l7Build_L2.partial_correctness a1 ([] : List Int) ([] : List TSlot) ([] : List TSlot) (motive := fun l10 y12 o18 => o5 = o18 → LoopAt _ _ [(1, .int .i64 a1), (2, .optr 2 0 0 0), (4, .optr 5 0 0 0), (5, .optr 8 0 0 0), (6, .int .i64 y12)] [.dead, .dead, .row 0 5 1 27 (fun _ => [.bool a0.fHashed, .own 3 0 0 a0.fHeads.length, .own 4 0 0 a0.fSlots.length, .int .i64 a0.fNext, .int .i64 a0.fCount]), .row 0 1 a0.fHeads.length 3 (row cI a0.fHeads), .row 0 10 a0.fSlots.length 80 (row TSlot.cells a0.fSlots), .row 0 5 1 27 (fun _ => [.bool false, .own 6 0 0 ([] : List Int).length, .own 7 0 0 ([] : List TSlot).length, .int .i64 0, .int .i64 0]), .row 0 1 ([] : List Int).length 3 (row cI ([] : List Int)), .row 0 10 ([] : List TSlot).length 80 (row TSlot.cells ([] : List TSlot)), .row 0 5 1 27 (fun _ => [.bool true, .own 9 0 0 l10.length, .own 10 0 0 ([] : List TSlot).length, .int .i64 a0.fNext, .int .i64 0]), .row 0 1 l10.length 3 (row cI l10), .row 0 10 ([] : List TSlot).length 80 (row TSlot.cells ([] : List TSlot))]) ?_ ([] : List Int) 0 o5 h rfl) (tk [0, 1, 2, 0, 1, 3, 11, 12, 4, 14, 15] ⟨.i, .p, .p, .p, .i, ⟨⟩⟩ ⟨dd, dd, (nb rfl ⟨.b, .o, .o, .i, .i, ⟨⟩⟩), nw, nw, (nb rfl ⟨.b, .g, .g, .i, .i, ⟨⟩⟩), gh, gh, (nb rfl ⟨.b, .g, .g, .i, .i, ⟨⟩⟩), gh, gh, ⟨⟩⟩)
 intro F14 ih13 l10 y12 o18 h hr19
 subst hr19
 refine LoopAt.round (.d (.d (sD h (fun hb15 h => ?_) (fun hb15 h => ?_))))
 exact .d ⟨rfl, ⟨rfl, _, rfl, ⟨row cI ([(-1)] : List Int), row_lit cI ([(-1)] : List Int) rfl (cll_refl rfl), (bk h fun l16 hx17 h => ⟨rfl, rfl, lapp_bd hx17, l16.length, row cI l16, lapp_len hx17, lapp_row hx17 shows_all (src_own shows_all), ⟨rfl, ⟨rfl, _, fun _ => [.bool true, .own 9 (0 + 1) 0 l16.length, .own 10 0 0 ([] : List TSlot).length, .int .i64 a0.fNext, .int .i64 0], rfl, one_set rfl, (lg (ih13 _ _ _ h rfl) (tk [0, 1, 2, 3, 4, 5, 6, 7, 8, 9, 10] ⟨.i, .p, .p, .p, .i, ⟨⟩⟩ ⟨dd, dd, (nb rfl ⟨.b, .o, .o, .i, .i, ⟨⟩⟩), nw, nw, (nb rfl ⟨.b, .o, .o, .i, .i, ⟨⟩⟩), nw, nw, (nb rfl ⟨.b, .o, .o, .i, .i, ⟨⟩⟩), nw, nw, ⟨⟩⟩))⟩⟩⟩)⟩⟩⟩
 exact ct ⟨_, _, _, _, si h, rfl, rfl⟩ (tk [0, 1, 2, 3, 4, 5, 6, 7, 8, 9, 10] ⟨.p, .p, .p, ⟨⟩⟩ ⟨dd, dd, (nb rfl ⟨.b, .o, .o, .i, .i, ⟨⟩⟩), nw, nw, (nb rfl ⟨.b, .o, .o, .i, .i, ⟨⟩⟩), nw, nw, (nb rfl ⟨.b, .o, .o, .i, .i, ⟨⟩⟩), nw, nw, ⟨⟩⟩)
 rintro _ _ ⟨l1, l2, l3, l4, rfl, rfl, rfl⟩
 replace h := hk7
 obtain ⟨o25, ho26, hk27⟩ := bd h
 replace h := ho26
 refine .cut (fun σ η => ∃ b20, ∃ y21, ∃ y22, ∃ l23, ∃ l24, (b20, y21, y22, l23, l24) = o25 ∧ σ = [(4, .optr 2 0 0 0), (5, .optr 5 0 0 0)] ∧ η = [.dead, .dead, .row 0 5 1 27 (fun _ => [.bool false, .own 3 0 0 l1.length, .own 4 0 0 l2.length, .int .i64 0, .int .i64 0]), .row 0 1 l1.length 3 (row cI l1), .row 0 10 l2.length 80 (row TSlot.cells l2), .row 0 5 1 27 (fun _ => [.bool b20, .own 6 0 0 l23.length, .own 7 0 0 l24.length, .int .i64 y21, .int .i64 y22]), .row 0 1 l23.length 3 (row cI l23), .row 0 10 l24.length 80 (row TSlot.cells l24)]) ?_ ?_
 refine .d ?_
 refine le (m_s_l7Build_L4.partial_correctness a0 (motive := fun b28 y29 y30 l31 l32 y33 o46 => o25 = o46 → LoopAt _ _ [(2, .optr 2 0 0 0), (4, .optr 5 0 0 0), (5, .optr 8 0 0 0), (7, .int .i64 y33)] [.dead, .dead, .row 0 5 1 27 (fun _ => [.bool a0.fHashed, .own 3 0 0 a0.fHeads.length, .own 4 0 0 a0.fSlots.length, .int .i64 a0.fNext, .int .i64 a0.fCount]), .row 0 1 a0.fHeads.length 3 (row cI a0.fHeads), .row 0 10 a0.fSlots.length 80 (row TSlot.cells a0.fSlots), .row 0 5 1 27 (fun _ => [.bool false, .own 6 0 0 l1.length, .own 7 0 0 l2.length, .int .i64 0, .int .i64 0]), .row 0 1 l1.length 3 (row cI l1), .row 0 10 l2.length 80 (row TSlot.cells l2), .row 0 5 1 27 (fun _ => [.bool b28, .own 9 0 0 l31.length, .own 10 0 0 l32.length, .int .i64 y29, .int .i64 y30]), .row 0 1 l31.length 3 (row cI l31), .row 0 10 l32.length 80 (row TSlot.cells l32)]) ?_ true a0.fNext 0 l3 l4 0 o25 h rfl) (tk [0, 1, 2, 3, 4, 5, 6, 7, 8, 9, 10] ⟨.p, .p, .p, .i, ⟨⟩⟩ ⟨dd, dd, (nb rfl ⟨.b, .o, .o, .i, .i, ⟨⟩⟩), nw, nw, (nb rfl ⟨.b, .o, .o, .i, .i, ⟨⟩⟩), nw, nw, (nb rfl ⟨.b, .o, .o, .i, .i, ⟨⟩⟩), nw, nw, ⟨⟩⟩)
 intro F35 ih34 b28 y29 y30 l31 l32 y33 o46 h hr47
 subst hr47
 refine LoopAt.round (.d (.d ⟨rfl, ⟨rfl, _, rfl, ⟨rfl, (sD h (fun hb36 h => ?_) (fun hb36 h => ?_))⟩⟩⟩))
 refine .d (.d ⟨rfl, ⟨rfl, _, rfl, (bk h fun x37 hx38 h => ⟨rfl, idx_bd hx38, _, Nat.zero_add _, ⟨rfl, ⟨rfl, _, ((idx_row hx38).trans (TSlot.cells_eq x37)), (sV h (fun hb39 h => ?_) (fun hb39 h => ?_))⟩⟩⟩)⟩⟩)
 refine .float [(0, true), (1, true), (2, true), (3, true), (4, true), (5, true), (6, true), (7, true), (8, true), (9, true), (10, true), (11, true), (12, true), (13, false), (14, false)] (by kernel_rfl) ?_
 refine ⟨rfl, _, rfl, ⟨rfl, ⟨rfl, _, rfl, (bk h fun x40 hx41 h => ⟨rfl, idx_bd hx41, _, Nat.zero_add _, ⟨rfl, ⟨rfl, _, ((idx_row hx41).trans (TSlot.cells_eq x40)), ⟨rfl, ⟨rfl, _, rfl, (bk h fun x42 hx43 h => ⟨rfl, idx_bd hx43, _, Nat.zero_add _, ⟨rfl, ⟨rfl, _, ((idx_row hx43).trans (TSlot.cells_eq x42)), (bk h fun v44 hv45 h => (pcO (ok_s_l7Push (g1000 := 0) (g1001 := 0) hv45) [9, 10] ⟨ov, ov, ⟨⟩⟩ (.agg [.bool v44.fHashed, .own 11 0 0 v44.fHeads.length, .own 12 0 0 v44.fSlots.length, .int .i64 v44.fNext, .int .i64 v44.fCount]) [.dead, .dead, .row 0 5 1 27 (fun _ => [.bool a0.fHashed, .own 3 0 0 a0.fHeads.length, .own 4 0 0 a0.fSlots.length, .int .i64 a0.fNext, .int .i64 a0.fCount]), .row 0 1 a0.fHeads.length 3 (row cI a0.fHeads), .row 0 10 a0.fSlots.length 80 (row TSlot.cells a0.fSlots), .row 0 5 1 27 (fun _ => [.bool false, .own 6 0 0 l1.length, .own 7 0 0 l2.length, .int .i64 0, .int .i64 0]), .row 0 1 l1.length 3 (row cI l1), .row 0 10 l2.length 80 (row TSlot.cells l2), .row 0 5 1 27 (fun _ => [.bool b28, .own 9 0 0 l31.length, .own 10 0 0 l32.length, .int .i64 y29, .int .i64 y30]), .dead, .dead, .row 0 1 v44.fHeads.length 3 (row cI v44.fHeads), .row 0 10 v44.fSlots.length 80 (row TSlot.cells v44.fSlots)] ?_))⟩⟩⟩)⟩⟩⟩⟩⟩)⟩⟩⟩
 exact ⟨rfl, _, fun _ => [.bool v44.fHashed, .own 11 0 0 v44.fHeads.length, .own 12 0 0 v44.fSlots.length, .int .i64 v44.fNext, .int .i64 v44.fCount], rfl, one_set rfl, (lg (ih34 _ _ _ _ _ _ _ h rfl) (tk [0, 1, 2, 3, 4, 5, 6, 7, 8, 11, 12] ⟨.p, .p, .p, .i, ⟨⟩⟩ ⟨dd, dd, (nb rfl ⟨.b, .o, .o, .i, .i, ⟨⟩⟩), nw, nw, (nb rfl ⟨.b, .o, .o, .i, .i, ⟨⟩⟩), nw, nw, (nb rfl ⟨.b, .o, .o, .i, .i, ⟨⟩⟩), nw, nw, ⟨⟩⟩))⟩
 exact lg (ih34 _ _ _ _ _ _ _ h rfl) (tk [0, 1, 2, 3, 4, 5, 6, 7, 8, 9, 10] ⟨.p, .p, .p, .i, ⟨⟩⟩ ⟨dd, dd, (nb rfl ⟨.b, .o, .o, .i, .i, ⟨⟩⟩), nw, nw, (nb rfl ⟨.b, .o, .o, .i, .i, ⟨⟩⟩), nw, nw, (nb rfl ⟨.b, .o, .o, .i, .i, ⟨⟩⟩), nw, nw, ⟨⟩⟩)
 exact ct ⟨_, _, _, _, _, si h, rfl, rfl⟩ (tk [0, 1, 5, 6, 7, 8, 9, 10] ⟨.p, .p, ⟨⟩⟩ ⟨dd, dd, (nb rfl ⟨.b, .o, .o, .i, .i, ⟨⟩⟩), nw, nw, (nb rfl ⟨.b, .o, .o, .i, .i, ⟨⟩⟩), nw, nw, ⟨⟩⟩)
 rintro _ _ ⟨b20, y21, y22, l23, l24, rfl, rfl, rfl⟩
 replace h := hk27
 refine .d ⟨rfl, _, rfl, ⟨rfl, _, fun _ => [.bool b20, .own 6 0 0 l23.length, .own 7 0 0 l24.length, .int .i64 y21, .int .i64 y22], rfl, one_set rfl, ?_⟩⟩
 obtain rfl := si h
 exact ⟨rfl, _, rfl, (en [0, 1, 6, 7] ⟨rfl, rfl⟩ (.agg_l ⟨.b, .o, .o, .i, .i, ⟨⟩⟩) ⟨dd, dd, nw, nw, ⟨⟩⟩)⟩
def m_s_l7Set (a0 : TTable) (a1 : TKey) (a2 : TValue) : Option (TTable × Bool) :=
 m_s_l7Find a0 a1 >>= fun v1 =>
 (if v1 ≥ 0 then
 idx a0.fSlots v1 >>= fun x4 =>
 some ((TTable.mk a0.fHashed a0.fHeads (a0.fSlots.set v1.toNat (TSlot.mk x4.fKey a2 x4.fLive x4.fLink)) a0.fNext a0.fCount), true)
 else
 (if a0.fCount ≥ 1024 then
 some (a0, false)
 else
 (
 (if a0.fHashed = true then
 some (a0.fHashed, a0.fNext, a0.fCount, a0.fHeads, a0.fSlots)
 else
 (if a1 = (TKey.mk false (a0.fSlots.length : Int) []) then
 (if (a0.fSlots.length : Int) = 1024 then
 m_s_l7Room a0 >>= fun v22 =>
 m_s_l7Build a0 v22 >>= fun v24 =>
 some (v24.fHashed, v24.fNext, v24.fCount, v24.fHeads, v24.fSlots)
 else
 some (a0.fHashed, a0.fNext, a0.fCount, a0.fHeads, a0.fSlots))
 else
 m_s_l7Room a0 >>= fun v17 =>
 m_s_l7Build a0 v17 >>= fun v19 =>
 some (v19.fHashed, v19.fNext, v19.fCount, v19.fHeads, v19.fSlots)))
 : Option (Bool × Int × Int × (List Int) × (List TSlot))) >>= fun (b7, y8, y9, l10, l11) =>
 (if b7 = true then
 (if (l11.length : Int) = (l10.length : Int) then
 m_s_l7Room (TTable.mk b7 l10 l11 y8 y9) >>= fun v28 =>
 m_s_l7Build (TTable.mk b7 l10 l11 y8 y9) v28 >>= fun v30 =>
 m_s_l7Push v30 a1 a2 >>= fun v32 =>
 some (v32, true)
 else
 m_s_l7Push (TTable.mk b7 l10 l11 y8 y9) a1 a2 >>= fun v34 =>
 some (v34, true))
 else
 m_s_l7Push (TTable.mk b7 l10 l11 y8 y9) a1 a2 >>= fun v36 =>
 some (v36, true))))
theorem ok_s_l7Set {a0 : TTable} {a1 : TKey} {a2 : TValue} {r : TTable × Bool} {g1000 : Nat} {g1001 : Nat} (h : m_s_l7Set a0 a1 a2 = some r) : ACall Tryz.prog 112 [.agg [.bool a0.fHashed, .own 0 g1000 0 a0.fHeads.length, .own 1 g1001 0 a0.fSlots.length, .int .i64 a0.fNext, .int .i64 a0.fCount], .agg a1.lit, .agg a2.lit] [.row g1000 1 a0.fHeads.length 3 (row cI a0.fHeads), .row g1001 10 a0.fSlots.length 80 (row TSlot.cells a0.fSlots)] (fun res h => res = .tup [.agg [.bool r.1.fHashed, .own 2 0 0 r.1.fHeads.length, .own 3 0 0 r.1.fSlots.length, .int .i64 r.1.fNext, .int .i64 r.1.fCount], .bool r.2] ∧ h = [.dead, .dead, .row 0 1 r.1.fHeads.length 3 (row cI r.1.fHeads), .row 0 10 r.1.fSlots.length 80 (row TSlot.cells r.1.fSlots)]) := by
 refine vc1 Tryz.func112 ?_
 unfold m_s_l7Set at h
 refine .d (.d ⟨rfl, _, rfl, ⟨rfl, _, rfl, (bk h fun v1 hv2 h => (pcS (ok_s_l7Find hv2) ⟨.agg_l ⟨.b, .r, .r, .i, .i, ⟨⟩⟩, .agg_l ⟨.b, .i, .s, ⟨⟩⟩, ⟨⟩⟩ (.d (.d (sD h (fun hb3 h => ?_) (fun hb3 h => ?_))))))⟩⟩)
 refine .d ⟨rfl, ⟨rfl, _, rfl, ⟨rfl, _, rfl, (bk h fun x4 hx5 h => ⟨rfl, idx_bd hx5, _, Nat.zero_add _, ⟨rfl, ⟨rfl, _, row TSlot.cells (a0.fSlots.set v1.toNat (TSlot.mk x4.fKey a2 x4.fLive x4.fLink)), ((idx_row hx5).trans (TSlot.cells_eq x4)), row_set (idx_lt hx5) (TSlot.cells_eq (TSlot.mk x4.fKey a2 x4.fLive x4.fLink)) ⟨.same _, .same _, .same _, .same _, .same _, .same _, .same _, .same _, .same _, .same _, trivial⟩, (.d ⟨rfl, _, rfl, ⟨rfl, _, fun _ => [.bool a0.fHashed, .own 0 g1000 0 a0.fHeads.length, .own 1 g1001 0 a0.fSlots.length, .int .i64 a0.fNext, .int .i64 a0.fCount], rfl, one_set rfl, ?_⟩⟩)⟩⟩⟩)⟩⟩⟩
 obtain rfl := si h
 exact ⟨rfl, _, rfl, (en [0, 1, 0, 1] ⟨rfl, rfl⟩ (.tup_l ⟨.agg_l ⟨.b, .o, (.ox ln), .i, .i, ⟨⟩⟩, .b, ⟨⟩⟩) ⟨dd, dd, nw, (nwx rfl ln), ⟨⟩⟩)⟩
 refine .d (.d ⟨rfl, ⟨rfl, _, rfl, (sD h (fun hb6 h => ?_) (fun hb6 h => ?_))⟩⟩)
 refine .d ⟨rfl, _, rfl, ⟨rfl, _, fun _ => [.bool a0.fHashed, .own 0 g1000 0 a0.fHeads.length, .own 1 g1001 0 a0.fSlots.length, .int .i64 a0.fNext, .int .i64 a0.fCount], rfl, one_set rfl, ?_⟩⟩
 obtain rfl := si h
 exact ⟨rfl, _, rfl, (en [0, 1, 0, 1] ⟨rfl, rfl⟩ (.tup_l ⟨.agg_l ⟨.b, .o, .o, .i, .i, ⟨⟩⟩, .b, ⟨⟩⟩) ⟨dd, dd, nw, nw, ⟨⟩⟩)⟩
 obtain ⟨o12, ho13, hk14⟩ := bd h
 replace h := ho13
 refine .cut (fun σ η => ∃ b7, ∃ y8, ∃ y9, ∃ l10, ∃ l11, (b7, y8, y9, l10, l11) = o12 ∧ σ = [(3, .optr 2 0 0 0), (4, .optr 5 0 0 0), (5, .optr 6 0 0 0), (6, .optr 7 0 0 0)] ∧ η = [.dead, .dead, .row 0 5 1 27 (fun _ => [.bool b7, .own 3 0 0 l10.length, .own 4 0 0 l11.length, .int .i64 y8, .int .i64 y9]), .row 0 1 l10.length 3 (row cI l10), .row 0 10 l11.length 80 (row TSlot.cells l11), .row 0 3 1 29 (fun _ => a1.lit), .row 0 5 1 32 (fun _ => a2.lit), .row 0 5 1 27 (fun _ => [.bool false, .nils, .nils, .int .i64 0, .int .i64 0])]) ?_ ?_
 refine .d ⟨rfl, ⟨rfl, _, rfl, (sVn h (fun hb15 h => ?_) (fun hb15 h => ?_))⟩⟩
 refine ⟨rfl, _, rfl, (.t ⟨rfl, (.t ⟨rfl, _, rfl, (.t ⟨rfl, (.t (.t ⟨_, TKey.eq_cells a1 (TKey.mk false (a0.fSlots.length : Int) []), (.t (sDn h (fun hb16 h => ?_) (fun hb16 h => ?_)))⟩))⟩)⟩)⟩)⟩
 refine .t (.t (.t (.t (.t (.t (.t (.float [(0, true), (1, true), (2, false), (3, false), (4, false)] (by kernel_rfl) ?_)))))))
 exact ⟨rfl, _, rfl, ⟨rfl, _, rfl, (bk h fun v17 hv18 h => (pcS (ok_s_l7Room hv18) ⟨.agg_l ⟨.b, .r, .r, .i, .i, ⟨⟩⟩, ⟨⟩⟩ ⟨rfl, (bk h fun v19 hv20 h => (pcO (ok_s_l7Build (g1000 := g1000) (g1001 := g1001) hv20) [0, 1] ⟨ov, ov, ⟨⟩⟩ (.agg [.bool v19.fHashed, .own 6 0 0 v19.fHeads.length, .own 7 0 0 v19.fSlots.length, .int .i64 v19.fNext, .int .i64 v19.fCount]) [.dead, .dead, .row 0 5 1 27 (fun _ => [.bool a0.fHashed, .own 0 g1000 0 a0.fHeads.length, .own 1 g1001 0 a0.fSlots.length, .int .i64 a0.fNext, .int .i64 a0.fCount]), .row 0 3 1 29 (fun _ => a1.lit), .row 0 5 1 32 (fun _ => a2.lit), .row 0 5 1 27 (fun _ => [.bool false, .nils, .nils, .int .i64 0, .int .i64 0]), .row 0 1 v19.fHeads.length 3 (row cI v19.fHeads), .row 0 10 v19.fSlots.length 80 (row TSlot.cells v19.fSlots)] ⟨rfl, _, fun _ => [.bool v19.fHashed, .own 6 0 0 v19.fHeads.length, .own 7 0 0 v19.fSlots.length, .int .i64 v19.fNext, .int .i64 v19.fCount], rfl, one_set rfl, (ct ⟨_, _, _, _, _, si h, rfl, rfl⟩ (tk [0, 1, 2, 6, 7, 3, 4, 5] ⟨.p, .p, .p, .p, ⟨⟩⟩ ⟨dd, dd, (nb rfl ⟨.b, .o, .o, .i, .i, ⟨⟩⟩), nw, nw, (nbp rfl), (nbp rfl), (nb rfl ⟨.b, .nils, .nils, .i, .i, ⟨⟩⟩), ⟨⟩⟩))⟩))⟩))⟩⟩
 refine ⟨rfl, (.f ⟨rfl, _, rfl, (.f ⟨rfl, (.f (.t (.f (.t (sE h (fun hb21 h => ?_) (fun hb21 h => ?_))))))⟩)⟩)⟩
 refine .float [(0, true), (1, true), (2, false), (3, false), (4, false)] (by kernel_rfl) ?_
 exact ⟨rfl, _, rfl, ⟨rfl, _, rfl, (bk h fun v22 hv23 h => (pcS (ok_s_l7Room hv23) ⟨.agg_l ⟨.b, .r, .r, .i, .i, ⟨⟩⟩, ⟨⟩⟩ ⟨rfl, (bk h fun v24 hv25 h => (pcO (ok_s_l7Build (g1000 := g1000) (g1001 := g1001) hv25) [0, 1] ⟨ov, ov, ⟨⟩⟩ (.agg [.bool v24.fHashed, .own 6 0 0 v24.fHeads.length, .own 7 0 0 v24.fSlots.length, .int .i64 v24.fNext, .int .i64 v24.fCount]) [.dead, .dead, .row 0 5 1 27 (fun _ => [.bool a0.fHashed, .own 0 g1000 0 a0.fHeads.length, .own 1 g1001 0 a0.fSlots.length, .int .i64 a0.fNext, .int .i64 a0.fCount]), .row 0 3 1 29 (fun _ => a1.lit), .row 0 5 1 32 (fun _ => a2.lit), .row 0 5 1 27 (fun _ => [.bool false, .nils, .nils, .int .i64 0, .int .i64 0]), .row 0 1 v24.fHeads.length 3 (row cI v24.fHeads), .row 0 10 v24.fSlots.length 80 (row TSlot.cells v24.fSlots)] ⟨rfl, _, fun _ => [.bool v24.fHashed, .own 6 0 0 v24.fHeads.length, .own 7 0 0 v24.fSlots.length, .int .i64 v24.fNext, .int .i64 v24.fCount], rfl, one_set rfl, (ct ⟨_, _, _, _, _, si h, rfl, rfl⟩ (tk [0, 1, 2, 6, 7, 3, 4, 5] ⟨.p, .p, .p, .p, ⟨⟩⟩ ⟨dd, dd, (nb rfl ⟨.b, .o, .o, .i, .i, ⟨⟩⟩), nw, nw, (nbp rfl), (nbp rfl), (nb rfl ⟨.b, .nils, .nils, .i, .i, ⟨⟩⟩), ⟨⟩⟩))⟩))⟩))⟩⟩
 exact ct ⟨_, _, _, _, _, si h, rfl, rfl⟩ (tk [0, 1, 2, 0, 1, 3, 4, 5] ⟨.p, .p, .p, .p, ⟨⟩⟩ ⟨dd, dd, (nb rfl ⟨.b, .o, .o, .i, .i, ⟨⟩⟩), nw, nw, (nbp rfl), (nbp rfl), (nb rfl ⟨.b, .nils, .nils, .i, .i, ⟨⟩⟩), ⟨⟩⟩)
 exact .f (.f (.f (.f (.f (.f (.f (.f (.f (ct ⟨_, _, _, _, _, si h, rfl, rfl⟩ (tk [0, 1, 2, 0, 1, 3, 4, 5] ⟨.p, .p, .p, .p, ⟨⟩⟩ ⟨dd, dd, (nb rfl ⟨.b, .o, .o, .i, .i, ⟨⟩⟩), nw, nw, (nbp rfl), (nbp rfl), (nb rfl ⟨.b, .nils, .nils, .i, .i, ⟨⟩⟩), ⟨⟩⟩))))))))))
 rintro _ _ ⟨b7, y8, y9, l10, l11, rfl, rfl, rfl⟩
 replace h := hk14
 refine .d (.d ⟨rfl, ⟨rfl, _, rfl, (sV h (fun hb26 h => ?_) (fun hb26 h => ?_))⟩⟩)
 refine ⟨rfl, (.t ⟨rfl, _, rfl, (.t ⟨rfl, (.t ⟨rfl, (.t ⟨rfl, _, rfl, (.t ⟨rfl, (.t (.t (sE h (fun hb27 h => ?_) (fun hb27 h => ?_))))⟩)⟩)⟩)⟩)⟩)⟩
 refine .float [(0, true), (1, true), (2, false), (3, false), (4, false)] (by kernel_rfl) ?_
 refine ⟨rfl, _, rfl, ⟨rfl, _, rfl, (bk h fun v28 hv29 h => (pcS (ok_s_l7Room hv29) ⟨.agg_l ⟨.b, .r, .r, .i, .i, ⟨⟩⟩, ⟨⟩⟩ ⟨rfl, (bk h fun v30 hv31 h => (pcO (ok_s_l7Build (g1000 := 0) (g1001 := 0) hv31) [3, 4] ⟨ov, ov, ⟨⟩⟩ (.agg [.bool v30.fHashed, .own 8 0 0 v30.fHeads.length, .own 9 0 0 v30.fSlots.length, .int .i64 v30.fNext, .int .i64 v30.fCount]) [.dead, .dead, .row 0 5 1 27 (fun _ => [.bool b7, .own 3 0 0 l10.length, .own 4 0 0 l11.length, .int .i64 y8, .int .i64 y9]), .dead, .dead, .row 0 3 1 29 (fun _ => a1.lit), .row 0 5 1 32 (fun _ => a2.lit), .row 0 5 1 27 (fun _ => [.bool false, .nils, .nils, .int .i64 0, .int .i64 0]), .row 0 1 v30.fHeads.length 3 (row cI v30.fHeads), .row 0 10 v30.fSlots.length 80 (row TSlot.cells v30.fSlots)] ⟨rfl, _, fun _ => [.bool v30.fHashed, .own 8 0 0 v30.fHeads.length, .own 9 0 0 v30.fSlots.length, .int .i64 v30.fNext, .int .i64 v30.fCount], rfl, one_set rfl, (.d ⟨rfl, _, rfl, ⟨rfl, _, rfl, ⟨rfl, _, rfl, (bk h fun v32 hv33 h => (pcO (ok_s_l7Push (g1000 := 0) (g1001 := 0) hv33) [8, 9] ⟨ov, ov, ⟨⟩⟩ (.agg [.bool v32.fHashed, .own 10 0 0 v32.fHeads.length, .own 11 0 0 v32.fSlots.length, .int .i64 v32.fNext, .int .i64 v32.fCount]) [.dead, .dead, .row 0 5 1 27 (fun _ => [.bool v30.fHashed, .own 8 0 0 v30.fHeads.length, .own 9 0 0 v30.fSlots.length, .int .i64 v30.fNext, .int .i64 v30.fCount]), .dead, .dead, .row 0 3 1 29 (fun _ => a1.lit), .row 0 5 1 32 (fun _ => a2.lit), .row 0 5 1 27 (fun _ => [.bool false, .nils, .nils, .int .i64 0, .int .i64 0]), .dead, .dead, .row 0 1 v32.fHeads.length 3 (row cI v32.fHeads), .row 0 10 v32.fSlots.length 80 (row TSlot.cells v32.fSlots)] ⟨rfl, _, fun _ => [.bool v32.fHashed, .own 10 0 0 v32.fHeads.length, .own 11 0 0 v32.fSlots.length, .int .i64 v32.fNext, .int .i64 v32.fCount], rfl, one_set rfl, ?_⟩))⟩⟩⟩)⟩))⟩))⟩⟩
 obtain rfl := si h
 exact ⟨rfl, _, rfl, (en [0, 1, 10, 11] ⟨rfl, rfl⟩ (.tup_l ⟨.agg_l ⟨.b, .o, .o, .i, .i, ⟨⟩⟩, .b, ⟨⟩⟩) ⟨dd, dd, nw, nw, ⟨⟩⟩)⟩
 refine .d ⟨rfl, _, rfl, ⟨rfl, _, rfl, ⟨rfl, _, rfl, (bk h fun v34 hv35 h => (pcO (ok_s_l7Push (g1000 := 0) (g1001 := 0) hv35) [3, 4] ⟨ov, ov, ⟨⟩⟩ (.agg [.bool v34.fHashed, .own 8 0 0 v34.fHeads.length, .own 9 0 0 v34.fSlots.length, .int .i64 v34.fNext, .int .i64 v34.fCount]) [.dead, .dead, .row 0 5 1 27 (fun _ => [.bool b7, .own 3 0 0 l10.length, .own 4 0 0 l11.length, .int .i64 y8, .int .i64 y9]), .dead, .dead, .row 0 3 1 29 (fun _ => a1.lit), .row 0 5 1 32 (fun _ => a2.lit), .row 0 5 1 27 (fun _ => [.bool false, .nils, .nils, .int .i64 0, .int .i64 0]), .row 0 1 v34.fHeads.length 3 (row cI v34.fHeads), .row 0 10 v34.fSlots.length 80 (row TSlot.cells v34.fSlots)] ⟨rfl, _, fun _ => [.bool v34.fHashed, .own 8 0 0 v34.fHeads.length, .own 9 0 0 v34.fSlots.length, .int .i64 v34.fNext, .int .i64 v34.fCount], rfl, one_set rfl, ?_⟩))⟩⟩⟩
 obtain rfl := si h
 exact ⟨rfl, _, rfl, (en [0, 1, 8, 9] ⟨rfl, rfl⟩ (.tup_l ⟨.agg_l ⟨.b, .o, .o, .i, .i, ⟨⟩⟩, .b, ⟨⟩⟩) ⟨dd, dd, nw, nw, ⟨⟩⟩)⟩
 refine .f (.f (.f (.f (.f (.f (.f (.f (.d ⟨rfl, _, rfl, ⟨rfl, _, rfl, ⟨rfl, _, rfl, (bk h fun v36 hv37 h => (pcO (ok_s_l7Push (g1000 := 0) (g1001 := 0) hv37) [3, 4] ⟨ov, ov, ⟨⟩⟩ (.agg [.bool v36.fHashed, .own 8 0 0 v36.fHeads.length, .own 9 0 0 v36.fSlots.length, .int .i64 v36.fNext, .int .i64 v36.fCount]) [.dead, .dead, .row 0 5 1 27 (fun _ => [.bool b7, .own 3 0 0 l10.length, .own 4 0 0 l11.length, .int .i64 y8, .int .i64 y9]), .dead, .dead, .row 0 3 1 29 (fun _ => a1.lit), .row 0 5 1 32 (fun _ => a2.lit), .row 0 5 1 27 (fun _ => [.bool false, .nils, .nils, .int .i64 0, .int .i64 0]), .row 0 1 v36.fHeads.length 3 (row cI v36.fHeads), .row 0 10 v36.fSlots.length 80 (row TSlot.cells v36.fSlots)] ⟨rfl, _, fun _ => [.bool v36.fHashed, .own 8 0 0 v36.fHeads.length, .own 9 0 0 v36.fSlots.length, .int .i64 v36.fNext, .int .i64 v36.fCount], rfl, one_set rfl, ?_⟩))⟩⟩⟩))))))))
 obtain rfl := si h
 exact ⟨rfl, _, rfl, (en [0, 1, 8, 9] ⟨rfl, rfl⟩ (.tup_l ⟨.agg_l ⟨.b, .o, .o, .i, .i, ⟨⟩⟩, .b, ⟨⟩⟩) ⟨dd, dd, nw, nw, ⟨⟩⟩)⟩
def m_s_l7Drop (a0 : TTable) (a1 : TKey) : Option (TTable) :=
 m_s_l7Find a0 a1 >>= fun v1 =>
 (if v1 ≥ 0 then
 idx a0.fSlots v1 >>= fun x4 =>
 idx (a0.fSlots.set v1.toNat (TSlot.mk x4.fKey x4.fVal false x4.fLink)) v1 >>= fun x6 =>
 some (TTable.mk a0.fHashed a0.fHeads ((a0.fSlots.set v1.toNat (TSlot.mk x4.fKey x4.fVal false x4.fLink)).set v1.toNat (TSlot.mk x6.fKey (TValue.mk 0 0 [] 0 []) x6.fLive x6.fLink)) a0.fNext (W64 (a0.fCount - 1)))
 else
 some a0)
theorem ok_s_l7Drop {a0 : TTable} {a1 : TKey} {r : TTable} {g1000 : Nat} {g1001 : Nat} (h : m_s_l7Drop a0 a1 = some r) : ACall Tryz.prog 111 [.agg [.bool a0.fHashed, .own 0 g1000 0 a0.fHeads.length, .own 1 g1001 0 a0.fSlots.length, .int .i64 a0.fNext, .int .i64 a0.fCount], .agg a1.lit] [.row g1000 1 a0.fHeads.length 3 (row cI a0.fHeads), .row g1001 10 a0.fSlots.length 80 (row TSlot.cells a0.fSlots)] (fun res h => res = .agg [.bool r.fHashed, .own 2 0 0 r.fHeads.length, .own 3 0 0 r.fSlots.length, .int .i64 r.fNext, .int .i64 r.fCount] ∧ h = [.dead, .dead, .row 0 1 r.fHeads.length 3 (row cI r.fHeads), .row 0 10 r.fSlots.length 80 (row TSlot.cells r.fSlots)]) := by
 refine vc1 Tryz.func111 ?_
 unfold m_s_l7Drop at h
 refine .d (.d ⟨rfl, _, rfl, ⟨rfl, _, rfl, (bk h fun v1 hv2 h => (pcS (ok_s_l7Find hv2) ⟨.agg_l ⟨.b, .r, .r, .i, .i, ⟨⟩⟩, .agg_l ⟨.b, .i, .s, ⟨⟩⟩, ⟨⟩⟩ (.d (.d (sD h (fun hb3 h => ?_) (fun hb3 h => ?_))))))⟩⟩)
 refine .d ⟨rfl, ⟨rfl, _, rfl, (bk h fun x4 hx5 h => ⟨rfl, idx_bd hx5, _, Nat.zero_add _, ⟨rfl, ⟨rfl, _, row TSlot.cells (a0.fSlots.set v1.toNat (TSlot.mk x4.fKey x4.fVal false x4.fLink)), ((idx_row hx5).trans (TSlot.cells_eq x4)), row_set (idx_lt hx5) (TSlot.cells_eq (TSlot.mk x4.fKey x4.fVal false x4.fLink)) ⟨.same _, .same _, .same _, .same _, .same _, .same _, .same _, .same _, .same _, .same _, trivial⟩, (.d ⟨rfl, ⟨rfl, _, rfl, (bk h fun x6 hx7 h => ⟨rfl, (by have hq := idx_bd hx7; simp only [List.length_set] at hq; exact hq), _, Nat.zero_add _, ⟨rfl, ⟨rfl, _, row TSlot.cells ((a0.fSlots.set v1.toNat (TSlot.mk x4.fKey x4.fVal false x4.fLink)).set v1.toNat (TSlot.mk x6.fKey (TValue.mk 0 0 [] 0 []) x6.fLive x6.fLink)), ((idx_row hx7).trans (TSlot.cells_eq x6)), row_set (idx_lt hx7) (TSlot.cells_eq (TSlot.mk x6.fKey (TValue.mk 0 0 [] 0 []) x6.fLive x6.fLink)) ⟨.same _, .same _, .same _, .same _, .same _, .same _, .same _, .nil _ _, .same _, .same _, trivial⟩, ⟨rfl, ?_⟩⟩⟩⟩)⟩⟩)⟩⟩⟩)⟩⟩
 refine ⟨rfl, _, rfl, ⟨rfl, ⟨rfl, _, fun _ => [.bool a0.fHashed, .own 0 g1000 0 a0.fHeads.length, .own 1 g1001 0 a0.fSlots.length, .int .i64 a0.fNext, .int .i64 (W64 (a0.fCount - 1))], rfl, one_set rfl, (.d ⟨rfl, _, rfl, ⟨rfl, _, fun _ => [.bool a0.fHashed, .own 0 g1000 0 a0.fHeads.length, .own 1 g1001 0 a0.fSlots.length, .int .i64 a0.fNext, .int .i64 (W64 (a0.fCount - 1))], rfl, one_set rfl, ?_⟩⟩)⟩⟩⟩
 obtain rfl := si h
 exact ⟨rfl, _, rfl, (en [0, 1, 0, 1] ⟨rfl, rfl⟩ (.agg_l ⟨.b, .o, (.ox ln), .i, .i, ⟨⟩⟩) ⟨dd, dd, nw, (nwx rfl ln), ⟨⟩⟩)⟩
 refine .d ⟨rfl, _, rfl, ⟨rfl, _, fun _ => [.bool a0.fHashed, .own 0 g1000 0 a0.fHeads.length, .own 1 g1001 0 a0.fSlots.length, .int .i64 a0.fNext, .int .i64 a0.fCount], rfl, one_set rfl, ?_⟩⟩
 obtain rfl := si h
 exact ⟨rfl, _, rfl, (en [0, 1, 0, 1] ⟨rfl, rfl⟩ (.agg_l ⟨.b, .o, .o, .i, .i, ⟨⟩⟩) ⟨dd, dd, nw, nw, ⟨⟩⟩)⟩
end Go.Am
