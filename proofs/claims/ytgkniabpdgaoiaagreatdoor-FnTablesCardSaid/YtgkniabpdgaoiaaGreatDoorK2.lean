/- Models of Go functions, and their walks. (Printed by tools/mg.py.) -/
import Derived.Test.YtgkniabpdgaoiaaGreatDoorK1
set_option linter.unusedVariables false
set_option linter.unusedSimpArgs false
set_option maxRecDepth 100000
namespace Go.Am
open Go Go.RowKit Go.Proofs
def m_i_noHeads_L2 (l1 : List Int) (l7 : List Int) (y8 : Int) : Option ((List Int)) :=
 (if y8 < (l1.length : Int) then
 idx l7 y8 >>= fun x12 =>
 m_i_noHeads_L2 l1 (l7.set y8.toNat (-1)) (W64 (y8 + 1))
 else
 some l7)
partial_fixpoint
def m_i_noHeads (a0 : Int) : Option ((List Int)) :=
 (lmake 8 a0 a0 : Option (List Int)) >>= fun l1 =>
 (
 m_i_noHeads_L2 l1 l1 0
 : Option ((List Int))) >>= fun l3 =>
 some l3
theorem ok_i_noHeads {a0 : Int} {r : (List Int)} (h : m_i_noHeads a0 = some r) : ACall Tryz.prog 88 [.int .i64 a0] [] (fun res h => res = sl 1 cI r ∧ h = []) := by
 refine vc1 Tryz.func88 ?_
 unfold m_i_noHeads at h
 refine .d (.d (bk h fun l1 hx2 h => ⟨lmake_bd hx2, l1.length, row cI l1, lmake_len hx2, lmake_row hx2 rfl ⟨.same _, trivial⟩, ?_⟩))
 obtain ⟨o4, ho5, hk6⟩ := bd h
 replace h := ho5
 refine .cut (fun σ η => ∃ l3, l3 = o4 ∧ σ = [(3, .own 0 0 0 l3.length)] ∧ η = [.row 0 1 l3.length 3 (row cI l3)]) ?_ ?_
 refine .d ⟨rfl, ?_⟩
 refine le (m_i_noHeads_L2.partial_correctness l1 (motive := fun l7 y8 o14 => o4 = o14 → LoopAt _ _ [(3, .own 0 0 0 l7.length), (8, .int .i64 (l1.length : Int)), (9, .int .i64 y8)] [.row 0 1 l7.length 3 (row cI l7)]) ?_ l1 0 o4 h rfl) (tk [0] ⟨.o, .i, .i, ⟨⟩⟩ ⟨nw, ⟨⟩⟩)
 intro F10 ih9 l7 y8 o14 h hr15
 subst hr15
 refine LoopAt.round (.d (.d (sD h (fun hb11 h => ?_) (fun hb11 h => ?_))))
 exact .d (.d (bk h fun x12 hx13 h => ⟨rfl, idx_bd hx13, _, Nat.zero_add _, ⟨rfl, _, row cI (l7.set y8.toNat (-1)), ((idx_row hx13).trans rfl), row_set (idx_lt hx13) rfl ⟨.same _, trivial⟩, (lg (ih9 _ _ _ h rfl) (tk [0] ⟨(.ox ln), .i, .i, ⟨⟩⟩ ⟨(nwx rfl ln), ⟨⟩⟩))⟩⟩))
 exact ct ⟨_, si h, rfl, rfl⟩ (tk [0] ⟨.o, ⟨⟩⟩ ⟨nw, ⟨⟩⟩)
 rintro _ _ ⟨l3, rfl, rfl, rfl⟩
 replace h := hk6
 refine .d ?_
 obtain rfl := si h
 exact en [] ⟨rfl, rfl⟩ .r ⟨⟩
theorem own_i_noHeads {a0 : Int} {r : (List Int)} (h : m_i_noHeads a0 = some r) : ACall Tryz.prog 88 [.int .i64 a0] [] (fun res h => res = .own 0 0 0 r.length ∧ h = [.row 0 1 r.length 3 (row cI r)]) := by
 refine vc1 Tryz.func88 ?_
 unfold m_i_noHeads at h
 refine .d (.d (bk h fun l1 hx2 h => ⟨lmake_bd hx2, l1.length, row cI l1, lmake_len hx2, lmake_row hx2 rfl ⟨.same _, trivial⟩, ?_⟩))
 obtain ⟨o4, ho5, hk6⟩ := bd h
 replace h := ho5
 refine .cut (fun σ η => ∃ l3, l3 = o4 ∧ σ = [(3, .own 0 0 0 l3.length)] ∧ η = [.row 0 1 l3.length 3 (row cI l3)]) ?_ ?_
 refine .d ⟨rfl, ?_⟩
 refine le (m_i_noHeads_L2.partial_correctness l1 (motive := fun l7 y8 o14 => o4 = o14 → LoopAt _ _ [(3, .own 0 0 0 l7.length), (8, .int .i64 (l1.length : Int)), (9, .int .i64 y8)] [.row 0 1 l7.length 3 (row cI l7)]) ?_ l1 0 o4 h rfl) (tk [0] ⟨.o, .i, .i, ⟨⟩⟩ ⟨nw, ⟨⟩⟩)
 intro F10 ih9 l7 y8 o14 h hr15
 subst hr15
 refine LoopAt.round (.d (.d (sD h (fun hb11 h => ?_) (fun hb11 h => ?_))))
 exact .d (.d (bk h fun x12 hx13 h => ⟨rfl, idx_bd hx13, _, Nat.zero_add _, ⟨rfl, _, row cI (l7.set y8.toNat (-1)), ((idx_row hx13).trans rfl), row_set (idx_lt hx13) rfl ⟨.same _, trivial⟩, (lg (ih9 _ _ _ h rfl) (tk [0] ⟨(.ox ln), .i, .i, ⟨⟩⟩ ⟨(nwx rfl ln), ⟨⟩⟩))⟩⟩))
 exact ct ⟨_, si h, rfl, rfl⟩ (tk [0] ⟨.o, ⟨⟩⟩ ⟨nw, ⟨⟩⟩)
 rintro _ _ ⟨l3, rfl, rfl, rfl⟩
 replace h := hk6
 refine .d ?_
 obtain rfl := si h
 exact en [0] ⟨rfl, rfl⟩ .o ⟨nw, ⟨⟩⟩
def m_i_slotOf_L2 (a0 : TTable) (a1 : TKey) (y18 : Int) : Option ((Unit) ⊕ Int) :=
 (if y18 ≥ 0 then
 idx a0.fSlots y18 >>= fun x22 =>
 (if x22.fLive = true then
 idx a0.fSlots y18 >>= fun x25 =>
 (if x25.fKey = a1 then
 some (.inr y18)
 else
 idx a0.fSlots y18 >>= fun x28 =>
 m_i_slotOf_L2 a0 a1 x28.fLink)
 else
 idx a0.fSlots y18 >>= fun x30 =>
 m_i_slotOf_L2 a0 a1 x30.fLink)
 else
 some (.inl ()))
partial_fixpoint
def m_i_slotOf (a0 : TTable) (a1 : TKey) : Option (Int) :=
 (if a0.fHashed = true then
 ((
 m_i_KeyHash a1 >>= fun v12 =>
 m_i_Mod v12 (a0.fHeads.length : Int) >>= fun v14 =>
 idx a0.fHeads v14 >>= fun x16 =>
 m_i_slotOf_L2 a0 a1 x16
 : Option ((Unit) ⊕ Int)) >>= fun o9 => match o9 with
 | .inr r => some r
 | .inl _ =>
 some (-1)
 )
 else
 (if a1.fText = true then
 some (-1)
 else
 (if a1.fStr = ([] : Str) then
 (if a1.fNum < 0 then
 some (-1)
 else
 (if a1.fNum ≥ (a0.fSlots.length : Int) then
 some (-1)
 else
 idx a0.fSlots a1.fNum >>= fun x6 =>
 (if x6.fLive = true then
 some a1.fNum
 else
 some (-1))))
 else
 some (-1))))
theorem ok_i_slotOf {a0 : TTable} {a1 : TKey} {r : Int} (h : m_i_slotOf a0 a1 = some r) : ACall Tryz.prog 39 [.agg a0.lit, .agg a1.lit] [] (fun res h => res = .int .i64 r ∧ h = []) := by
 refine vc1 Tryz.func39 ?_
 unfold m_i_slotOf at h
 refine .d (.d (.d ⟨rfl, ⟨rfl, _, rfl, (sVn h (fun hb1 h => ?_) (fun hb1 h => ?_))⟩⟩))
 refine .d (.d ⟨rfl, ⟨rfl, _, rfl, (sV h (fun hb2 h => ?_) (fun hb2 h => ?_))⟩⟩)
 refine .t (.t (.t (.t (.t (.t (.t (.t (.t (.t (.t (.t (.t (.t (.t ?_))))))))))))))
 exact .t (.t (.t (.t (.t (.t (.t (.t (.t (.d (eI h))))))))))
 refine ⟨rfl, (.f ⟨rfl, _, rfl, (.f (.f (sEn h (fun hb3 h => ?_) (fun hb3 h => ?_))))⟩)⟩
 refine .t (.t (.t (.t (.t (.t (.t (.t (.t (.t (.t (.t (.t (.t (.t ?_))))))))))))))
 exact .t (.t (.t (.t (.t (.d (eI h))))))
 refine ⟨rfl, (.f ⟨rfl, _, rfl, (.f (.f (sD h (fun hb4 h => ?_) (fun hb4 h => ?_))))⟩)⟩
 refine .t (.t (.t (.t (.t (.t (.t (.t (.t (.t (.t (.t (.t (.t (.t ?_))))))))))))))
 exact .t (.d (eI h))
 refine ⟨rfl, (.f ⟨rfl, _, rfl, (.f ⟨rfl, (.f ⟨rfl, _, rfl, (.f (.f (.f (sD h (fun hb5 h => ?_) (fun hb5 h => ?_)))))⟩)⟩)⟩)⟩
 exact .t (.t (.t (.t (.t (.t (.t (.t (.t (.d (eI h))))))))))
 refine ⟨rfl, (.f ⟨rfl, _, rfl, (.f ⟨rfl, (.f ⟨rfl, _, rfl, (.f (bk h fun x6 hx7 h => ⟨idx_bd hx7, _, (idx_row hx7).trans (TSlot.cells_eq x6), (.f (.f (.f (.f (sVn h (fun hb8 h => ?_) (fun hb8 h => ?_))))))⟩))⟩)⟩)⟩)⟩
 exact .d (eI h)
 exact .d ⟨rfl, ⟨rfl, _, rfl, (eI h)⟩⟩
 obtain ⟨o9, ho10, hk11⟩ := bd h
 replace h := ho10
 refine .cut (fun σ η => .inl () = o9 ∧ σ = [] ∧ η = []) ?_ ?_
 refine .d (.float [(0, true), (1, true), (2, true), (4, true), (5, true), (6, true), (3, false), (7, false), (8, true), (9, true), (10, true)] (by kernel_rfl) ?_)
 refine ⟨rfl, ⟨rfl, _, rfl, ⟨rfl, _, rfl, ⟨rfl, ⟨rfl, _, rfl, (bk h fun v12 hv13 h => (pcP (ok_i_KeyHash hv13) ⟨rfl, ⟨rfl, ⟨rfl, ⟨rfl, (bk h fun v14 hv15 h => (pcP (ok_i_Mod hv15) ⟨rfl, ⟨rfl, ?_⟩⟩))⟩⟩⟩⟩))⟩⟩⟩⟩⟩
 refine bk h fun x16 hx17 h => ⟨idx_bd hx17, _, (idx_row hx17).trans rfl, ?_⟩
 refine le (m_i_slotOf_L2.partial_correctness a0 a1 (motive := fun y18 o32 => o9 = o32 → LoopAt _ _ [(2, .optr 0 0 0 0), (3, .optr 1 0 0 0), (5, .int .i64 y18)] [.row 0 5 1 27 (fun _ => a0.lit), .row 0 3 1 29 (fun _ => a1.lit)]) ?_ x16 o9 h rfl) (tk [0, 1] ⟨.p, .p, .i, ⟨⟩⟩ ⟨(nbp rfl), (nbp rfl), ⟨⟩⟩)
 intro F20 ih19 y18 o32 h hr33
 subst hr33
 refine LoopAt.round (.d (.d (sD h (fun hb21 h => ?_) (fun hb21 h => ?_))))
 refine .d (.d ⟨rfl, ⟨rfl, _, rfl, (bk h fun x22 hx23 h => ⟨idx_bd hx23, _, (idx_row hx23).trans (TSlot.cells_eq x22), (sV h (fun hb24 h => ?_) (fun hb24 h => ?_))⟩)⟩⟩)
 refine ⟨rfl, (.t ⟨rfl, _, rfl, (.t (.t (bk h fun x25 hx26 h => ⟨idx_bd hx26, _, (idx_row hx26).trans (TSlot.cells_eq x25), (.t (.t (.t ⟨rfl, _, rfl, (.t ⟨_, TKey.eq_cells x25.fKey a1, (.t (sD h (fun hb27 h => ?_) (fun hb27 h => ?_)))⟩)⟩)))⟩)))⟩)⟩
 refine .d ?_
 obtain rfl := si h
 replace h := hk11
 exact eI h
 exact ⟨rfl, ⟨rfl, _, rfl, (bk h fun x28 hx29 h => ⟨idx_bd hx29, _, (idx_row hx29).trans (TSlot.cells_eq x28), (lg (ih19 _ _ h rfl) (tk [0, 1] ⟨.p, .p, .i, ⟨⟩⟩ ⟨(nbp rfl), (nbp rfl), ⟨⟩⟩))⟩)⟩⟩
 exact .f (.f (.f (.f (.f (.f (.f (.f (.f ⟨rfl, ⟨rfl, _, rfl, (bk h fun x30 hx31 h => ⟨idx_bd hx31, _, (idx_row hx31).trans (TSlot.cells_eq x30), (lg (ih19 _ _ h rfl) (tk [0, 1] ⟨.p, .p, .i, ⟨⟩⟩ ⟨(nbp rfl), (nbp rfl), ⟨⟩⟩))⟩)⟩⟩))))))))
 exact ct ⟨si h, rfl, rfl⟩ (tk [] ⟨⟩ ⟨⟩)
 rintro _ _ ⟨rfl, rfl, rfl⟩
 replace h := hk11
 exact .d (eI h)
def m_i_addSlot (a0 : TTable) (a1 : TKey) (a2 : TValue) : Option (TTable) :=
 (
 (if a0.fHashed = true then
 m_i_KeyHash a1 >>= fun v7 =>
 m_i_Mod v7 (a0.fHeads.length : Int) >>= fun v9 =>
 idx a0.fHeads v9 >>= fun x11 =>
 idx a0.fHeads v9 >>= fun x13 =>
 some ((a0.fHeads.set v9.toNat (a0.fSlots.length : Int)), x11)
 else
 some (a0.fHeads, (-1)))
 : Option ((List Int) × Int)) >>= fun (l1, y2) =>
 lapp 112 a0.fSlots ([(TSlot.mk a1 a2 true y2)] : List TSlot) >>= fun l15 =>
 some (TTable.mk a0.fHashed l1 l15 a0.fNext (W64 (a0.fCount + 1)))
theorem ok_i_addSlot {a0 : TTable} {a1 : TKey} {a2 : TValue} {r : TTable} {g1000 : Nat} {g1001 : Nat} {g1002 : Nat} (h : m_i_addSlot a0 a1 a2 = some r) : ACall Tryz.prog 93 [.optr 0 g1000 0 0, .agg a1.lit, .agg a2.lit] [.row g1000 5 1 27 (fun _ => [.bool a0.fHashed, .own 1 g1001 0 a0.fHeads.length, .own 2 g1002 0 a0.fSlots.length, .int .i64 a0.fNext, .int .i64 a0.fCount]), .row g1001 1 a0.fHeads.length 3 (row cI a0.fHeads), .row g1002 10 a0.fSlots.length 80 (row TSlot.cells a0.fSlots)] (fun res h => ∃ G1 : Nat, ∃ G2 : Nat, res = .tup [] ∧ h = [.row g1000 5 1 27 (fun _ => [.bool r.fHashed, .own 1 G1 0 r.fHeads.length, .own 2 G2 0 r.fSlots.length, .int .i64 r.fNext, .int .i64 r.fCount]), .row G1 1 r.fHeads.length 3 (row cI r.fHeads), .row G2 10 r.fSlots.length 80 (row TSlot.cells r.fSlots)]) := by
 refine vc1 Tryz.func93 ?_
 unfold m_i_addSlot at h
 refine .d (.d ⟨rfl, _, rfl, ⟨rfl, _, rfl, ⟨rfl, _, fun _ => [.bool a1.fText, .int .i64 a1.fNum, .str a1.fStr, .int .i64 a2.fKind, .int .i64 a2.fNum, .str a2.fStr, .int .i64 a2.fNext, sl 8 TEntry.cells a2.fItems, .bool true, .int .i64 (-1)], rfl, one_set rfl, ?_⟩⟩⟩)
 obtain ⟨o3, ho4, hk5⟩ := bd h
 replace h := ho4
 refine .cut (fun σ η => ∃ l1, ∃ y2, (l1, y2) = o3 ∧ σ = [(0, .optr 0 g1000 0 0), (6, .optr 3 0 0 0)] ∧ η = [.row g1000 5 1 27 (fun _ => [.bool a0.fHashed, .own 1 g1001 0 l1.length, .own 2 g1002 0 a0.fSlots.length, .int .i64 a0.fNext, .int .i64 a0.fCount]), .row g1001 1 l1.length 3 (row cI l1), .row g1002 10 a0.fSlots.length 80 (row TSlot.cells a0.fSlots), .row 0 10 1 80 (fun _ => [.bool a1.fText, .int .i64 a1.fNum, .str a1.fStr, .int .i64 a2.fKind, .int .i64 a2.fNum, .str a2.fStr, .int .i64 a2.fNext, sl 8 TEntry.cells a2.fItems, .bool true, .int .i64 y2])]) ?_ ?_
 refine .d ⟨rfl, ⟨rfl, ⟨rfl, _, rfl, (sV h (fun hb6 h => ?_) (fun hb6 h => ?_))⟩⟩⟩
 refine .d (.float [(0, true), (2, true), (3, true), (4, true), (5, true), (6, true), (1, false), (7, false), (8, true)] (by kernel_rfl) ?_)
 refine ⟨rfl, _, rfl, ⟨rfl, ⟨rfl, ⟨rfl, _, rfl, ⟨rfl, (bk h fun v7 hv8 h => (pcP (ok_i_KeyHash hv8) ⟨rfl, ⟨rfl, ⟨rfl, ⟨rfl, (bk h fun v9 hv10 h => (pcP (ok_i_Mod hv10) (.d ⟨rfl, ?_⟩)))⟩⟩⟩⟩))⟩⟩⟩⟩⟩
 refine ⟨rfl, ⟨rfl, _, rfl, (bk h fun x11 hx12 h => ⟨rfl, idx_bd hx12, _, Nat.zero_add _, ⟨rfl, _, ((idx_row hx12).trans rfl), ⟨rfl, ⟨rfl, _, fun _ => [.bool a1.fText, .int .i64 a1.fNum, .str a1.fStr, .int .i64 a2.fKind, .int .i64 a2.fNum, .str a2.fStr, .int .i64 a2.fNext, sl 8 TEntry.cells a2.fItems, .bool true, .int .i64 x11], rfl, one_set rfl, (.float [(0, true), (1, true), (2, true), (3, true), (4, true), (5, true), (6, true), (7, true), (8, true), (9, true), (10, true), (11, false)] (by kernel_rfl) ?_)⟩⟩⟩⟩)⟩⟩
 exact ⟨rfl, ⟨rfl, ⟨rfl, _, rfl, ⟨rfl, ⟨rfl, ⟨rfl, _, rfl, ⟨rfl, (bk h fun x13 hx14 h => ⟨rfl, idx_bd hx14, _, Nat.zero_add _, ⟨rfl, _, row cI (a0.fHeads.set v9.toNat (a0.fSlots.length : Int)), ((idx_row hx14).trans rfl), row_set (idx_lt hx14) rfl ⟨.same _, trivial⟩, (ct ⟨_, _, si h, rfl, rfl⟩ (tk [0, 1, 2, 5] ⟨.p, .p, ⟨⟩⟩ ⟨(ob rfl ⟨.b, (.ox ln), .o, .i, .i, ⟨⟩⟩), (odx rfl ln), od, (nbp rfl), ⟨⟩⟩))⟩⟩)⟩⟩⟩⟩⟩⟩⟩
 exact ct ⟨_, _, si h, rfl, rfl⟩ (tk [0, 1, 2, 5] ⟨.p, .p, ⟨⟩⟩ ⟨(ob rfl ⟨.b, .o, .o, .i, .i, ⟨⟩⟩), od, od, (nbp rfl), ⟨⟩⟩)
 rintro _ _ ⟨l1, y2, rfl, rfl, rfl⟩
 replace h := hk5
 refine .d (.float [(0, true), (1, true), (2, true), (3, true), (4, true), (5, true), (6, false), (7, false), (8, true), (9, true), (10, false)] (by kernel_rfl) ?_)
 refine ⟨rfl, ⟨rfl, ⟨rfl, _, rfl, ⟨rfl, _, rfl, ⟨row TSlot.cells ([(TSlot.mk a1 a2 true y2)] : List TSlot), row_lit TSlot.cells ([(TSlot.mk a1 a2 true y2)] : List TSlot) rfl (cll_refl rfl), ⟨rfl, ⟨rfl, ⟨rfl, (bk h fun l15 hx16 h => ⟨rfl, rfl, lapp_bd hx16, l15.length, row TSlot.cells l15, lapp_len hx16, lapp_row hx16 shows_all (src_own shows_all), ⟨rfl, ⟨rfl, ⟨rfl, _, fun _ => [.bool a0.fHashed, .own 1 g1001 0 l1.length, .own 2 (g1002 + 1) 0 l15.length, .int .i64 a0.fNext, .int .i64 a0.fCount], rfl, one_set rfl, ⟨rfl, ⟨rfl, ?_⟩⟩⟩⟩⟩⟩)⟩⟩⟩⟩⟩⟩⟩⟩
 refine ⟨rfl, _, rfl, ⟨rfl, ⟨rfl, ⟨rfl, _, fun _ => [.bool a0.fHashed, .own 1 g1001 0 l1.length, .own 2 (g1002 + 1) 0 l15.length, .int .i64 a0.fNext, .int .i64 (W64 (a0.fCount + 1))], rfl, one_set rfl, ?_⟩⟩⟩⟩
 obtain rfl := si h
 exact en [0, 1, 2] ⟨g1001, (g1002 + 1), rfl, rfl⟩ (.tup_l ⟨⟩) ⟨(ob rfl ⟨.b, .o, .o, .i, .i, ⟨⟩⟩), od, od, ⟨⟩⟩
def m_i_rebuilt_L2 (a0 : TTable) (y5 : Int) : Option (Int) :=
 (if y5 ≤ a0.fCount then
 m_i_rebuilt_L2 a0 (W64 (y5 * 2))
 else
 some y5)
partial_fixpoint
def m_i_rebuilt_L4 (a0 : TTable) (b25 : Bool) (y26 : Int) (y27 : Int) (l28 : List Int) (l29 : List TSlot) (y30 : Int) : Option (Bool × Int × Int × (List Int) × (List TSlot)) :=
 (if y30 < (a0.fSlots.length : Int) then
 idx a0.fSlots y30 >>= fun x34 =>
 (if x34.fLive = true then
 m_i_addSlot (TTable.mk b25 l28 l29 y26 y27) x34.fKey x34.fVal >>= fun v37 =>
 m_i_rebuilt_L4 a0 v37.fHashed v37.fNext v37.fCount v37.fHeads v37.fSlots (W64 (y30 + 1))
 else
 m_i_rebuilt_L4 a0 b25 y26 y27 l28 l29 (W64 (y30 + 1)))
 else
 some (b25, y26, y27, l28, l29))
partial_fixpoint
def m_i_rebuilt (a0 : TTable) : Option (TTable) :=
 (
 m_i_rebuilt_L2 a0 8
 : Option (Int)) >>= fun y1 =>
 (
 m_i_noHeads y1 >>= fun v15 =>
 some v15
 : Option ((List Int))) >>= fun l11 =>
 (
 m_i_rebuilt_L4 a0 true a0.fNext 0 l11 ([] : List TSlot) 0
 : Option (Bool × Int × Int × (List Int) × (List TSlot))) >>= fun (b17, y18, y19, l20, l21) =>
 some (TTable.mk b17 l20 l21 y18 y19)
theorem ok_i_rebuilt {a0 : TTable} {r : TTable} {g1000 : Nat} {g1001 : Nat} (h : m_i_rebuilt a0 = some r) : ACall Tryz.prog 50 [.agg [.bool a0.fHashed, .own 0 g1000 0 a0.fHeads.length, .own 1 g1001 0 a0.fSlots.length, .int .i64 a0.fNext, .int .i64 a0.fCount]] [.row g1000 1 a0.fHeads.length 3 (row cI a0.fHeads), .row g1001 10 a0.fSlots.length 80 (row TSlot.cells a0.fSlots)] (fun res h => res = .agg [.bool r.fHashed, .own 2 0 0 r.fHeads.length, .own 3 0 0 r.fSlots.length, .int .i64 r.fNext, .int .i64 r.fCount] ∧ h = [.dead, .dead, .row 0 1 r.fHeads.length 3 (row cI r.fHeads), .row 0 10 r.fSlots.length 80 (row TSlot.cells r.fSlots)]) := by
 refine vc1 Tryz.func50 ?_
 unfold m_i_rebuilt at h
 refine .d (.d ?_)
 obtain ⟨o2, ho3, hk4⟩ := bd h
 replace h := ho3
 refine .cut (fun σ η => ∃ y1, y1 = o2 ∧ σ = [(1, .optr 2 0 0 0), (2, .optr 5 0 0 0), (3, .int .i64 y1)] ∧ η = [.dead, .dead, .row 0 5 1 27 (fun _ => [.bool a0.fHashed, .own 3 0 0 a0.fHeads.length, .own 4 0 0 a0.fSlots.length, .int .i64 a0.fNext, .int .i64 a0.fCount]), .row 0 1 a0.fHeads.length 3 (row cI a0.fHeads), .row 0 10 a0.fSlots.length 80 (row TSlot.cells a0.fSlots), .row 0 5 1 27 (fun _ => [.bool false, .own 6 0 0 ([] : List Int).length, .own 7 0 0 ([] : List TSlot).length, .int .i64 0, .int .i64 0]), .row 0 1 ([] : List Int).length 3 (row cI ([] : List Int)), .row 0 10 ([] : List TSlot).length 80 (row TSlot.cells ([] : List TSlot))]) ?_ ?_
 refine le (m_i_rebuilt_L2.partial_correctness a0 (motive := fun y5 o9 => o2 = o9 → LoopAt _ _ [(1, .optr 2 0 0 0), (2, .optr 5 0 0 0), (3, .int .i64 y5)] [.dead, .dead, .row 0 5 1 27 (fun _ => [.bool a0.fHashed, .own 3 0 0 a0.fHeads.length, .own 4 0 0 a0.fSlots.length, .int .i64 a0.fNext, .int .i64 a0.fCount]), .row 0 1 a0.fHeads.length 3 (row cI a0.fHeads), .row 0 10 a0.fSlots.length 80 (row TSlot.cells a0.fSlots), .row 0 5 1 27 (fun _ => [.bool false, .own 6 0 0 ([] : List Int).length, .own 7 0 0 ([] : List TSlot).length, .int .i64 0, .int .i64 0]), .row 0 1 ([] : List Int).length 3 (row cI ([] : List Int)), .row 0 10 ([] : List TSlot).length 80 (row TSlot.cells ([] : List TSlot))]) ?_ 8 o2 h rfl) (tk [0, 1, 2, 0, 1, 3, 10, 11] ⟨.p, .p, .i, ⟨⟩⟩ ⟨dd, dd, (nb rfl ⟨.b, .o, .o, .i, .i, ⟨⟩⟩), nw, nw, (nb rfl ⟨.b, .g, .g, .i, .i, ⟨⟩⟩), gh, gh, ⟨⟩⟩)
 intro F7 ih6 y5 o9 h hr10
 subst hr10
 refine LoopAt.round (.d (.d ⟨rfl, ⟨rfl, _, rfl, (sD h (fun hb8 h => ?_) (fun hb8 h => ?_))⟩⟩))
 exact lg (ih6 _ _ h rfl) (tk [0, 1, 2, 3, 4, 5, 6, 7] ⟨.p, .p, .i, ⟨⟩⟩ ⟨dd, dd, (nb rfl ⟨.b, .o, .o, .i, .i, ⟨⟩⟩), nw, nw, (nb rfl ⟨.b, .o, .o, .i, .i, ⟨⟩⟩), nw, nw, ⟨⟩⟩)
 exact ct ⟨_, si h, rfl, rfl⟩ (tk [0, 1, 2, 3, 4, 5, 6, 7] ⟨.p, .p, .i, ⟨⟩⟩ ⟨dd, dd, (nb rfl ⟨.b, .o, .o, .i, .i, ⟨⟩⟩), nw, nw, (nb rfl ⟨.b, .o, .o, .i, .i, ⟨⟩⟩), nw, nw, ⟨⟩⟩)
 rintro _ _ ⟨y1, rfl, rfl, rfl⟩
 replace h := hk4
 obtain ⟨o12, ho13, hk14⟩ := bd h
 replace h := ho13
 refine .cut (fun σ η => ∃ l11, l11 = o12 ∧ σ = [(1, .optr 2 0 0 0), (2, .optr 5 0 0 0), (4, .optr 8 0 0 0)] ∧ η = [.dead, .dead, .row 0 5 1 27 (fun _ => [.bool a0.fHashed, .own 3 0 0 a0.fHeads.length, .own 4 0 0 a0.fSlots.length, .int .i64 a0.fNext, .int .i64 a0.fCount]), .row 0 1 a0.fHeads.length 3 (row cI a0.fHeads), .row 0 10 a0.fSlots.length 80 (row TSlot.cells a0.fSlots), .row 0 5 1 27 (fun _ => [.bool false, .own 6 0 0 ([] : List Int).length, .own 7 0 0 ([] : List TSlot).length, .int .i64 0, .int .i64 0]), .row 0 1 ([] : List Int).length 3 (row cI ([] : List Int)), .row 0 10 ([] : List TSlot).length 80 (row TSlot.cells ([] : List TSlot)), .row 0 5 1 27 (fun _ => [.bool true, .own 9 0 0 l11.length, .own 10 0 0 ([] : List TSlot).length, .int .i64 a0.fNext, .int .i64 0]), .row 0 1 l11.length 3 (row cI l11), .row 0 10 ([] : List TSlot).length 80 (row TSlot.cells ([] : List TSlot))]) ?_ ?_
 refine .float2 [(0, true), (2, true), (3, true)] 1 [(4, true), (5, false), (6, false)] 5 [(1, false), (4, true), (6, false)] (by kernel_rfl) ?_
 refine ⟨rfl, ⟨rfl, _, rfl, ⟨?_, ?_⟩⟩⟩
 exact bk h fun v15 hv16 h => (pcF (own_i_noHeads hv16) (.own 8 0 0 v15.length) [.dead, .dead, .row 0 5 1 27 (fun _ => [.bool a0.fHashed, .own 3 0 0 a0.fHeads.length, .own 4 0 0 a0.fSlots.length, .int .i64 a0.fNext, .int .i64 a0.fCount]), .row 0 1 a0.fHeads.length 3 (row cI a0.fHeads), .row 0 10 a0.fSlots.length 80 (row TSlot.cells a0.fSlots), .row 0 5 1 27 (fun _ => [.bool false, .own 6 0 0 ([] : List Int).length, .own 7 0 0 ([] : List TSlot).length, .int .i64 0, .int .i64 0]), .row 0 1 ([] : List Int).length 3 (row cI ([] : List Int)), .row 0 10 ([] : List TSlot).length 80 (row TSlot.cells ([] : List TSlot)), .row 0 1 v15.length 3 (row cI v15)] ⟨rfl, ⟨rfl, ⟨rfl, ⟨rfl, ⟨rfl, ⟨rfl, _, fun _ => [.bool true, .own 8 0 0 v15.length, .nils, .int .i64 a0.fNext, .int .i64 0], rfl, one_set rfl, (ct ⟨_, si h, rfl, rfl⟩ (tk [0, 1, 2, 3, 4, 5, 6, 7, 9, 8, 20] ⟨.p, .p, .p, ⟨⟩⟩ ⟨dd, dd, (nb rfl ⟨.b, .o, .o, .i, .i, ⟨⟩⟩), nw, nw, (nb rfl ⟨.b, .o, .o, .i, .i, ⟨⟩⟩), nw, nw, (nb rfl ⟨.b, .o, .g, .i, .i, ⟨⟩⟩), nw, gh, ⟨⟩⟩))⟩⟩⟩⟩⟩⟩)
 exact ⟨rfl, ⟨rfl, (bk h fun v15 hv16 h => (pcF (own_i_noHeads hv16) (.own 9 0 0 v15.length) [.dead, .dead, .row 0 5 1 27 (fun _ => [.bool a0.fHashed, .own 3 0 0 a0.fHeads.length, .own 4 0 0 a0.fSlots.length, .int .i64 a0.fNext, .int .i64 a0.fCount]), .row 0 1 a0.fHeads.length 3 (row cI a0.fHeads), .row 0 10 a0.fSlots.length 80 (row TSlot.cells a0.fSlots), .row 0 5 1 27 (fun _ => [.bool false, .own 6 0 0 ([] : List Int).length, .own 7 0 0 ([] : List TSlot).length, .int .i64 0, .int .i64 0]), .row 0 1 ([] : List Int).length 3 (row cI ([] : List Int)), .row 0 10 ([] : List TSlot).length 80 (row TSlot.cells ([] : List TSlot)), .row 0 5 1 27 (fun _ => [.bool false, .nils, .nils, .int .i64 0, .int .i64 0]), .row 0 1 v15.length 3 (row cI v15)] ⟨rfl, ⟨rfl, ⟨rfl, _, fun _ => [.bool true, .own 9 0 0 v15.length, .nils, .int .i64 a0.fNext, .int .i64 0], rfl, one_set rfl, (ct ⟨_, si h, rfl, rfl⟩ (tk [0, 1, 2, 3, 4, 5, 6, 7, 8, 9, 20] ⟨.p, .p, .p, ⟨⟩⟩ ⟨dd, dd, (nb rfl ⟨.b, .o, .o, .i, .i, ⟨⟩⟩), nw, nw, (nb rfl ⟨.b, .o, .o, .i, .i, ⟨⟩⟩), nw, nw, (nb rfl ⟨.b, .o, .g, .i, .i, ⟨⟩⟩), nw, gh, ⟨⟩⟩))⟩⟩⟩))⟩⟩
 rintro _ _ ⟨l11, rfl, rfl, rfl⟩
 replace h := hk14
 obtain ⟨o22, ho23, hk24⟩ := bd h
 replace h := ho23
 refine .cut (fun σ η => ∃ b17, ∃ y18, ∃ y19, ∃ l20, ∃ l21, (b17, y18, y19, l20, l21) = o22 ∧ σ = [(2, .optr 2 0 0 0), (4, .optr 5 0 0 0)] ∧ η = [.dead, .dead, .row 0 5 1 27 (fun _ => [.bool false, .own 3 0 0 ([] : List Int).length, .own 4 0 0 ([] : List TSlot).length, .int .i64 0, .int .i64 0]), .row 0 1 ([] : List Int).length 3 (row cI ([] : List Int)), .row 0 10 ([] : List TSlot).length 80 (row TSlot.cells ([] : List TSlot)), .row 0 5 1 27 (fun _ => [.bool b17, .own 6 0 0 l20.length, .own 7 0 0 l21.length, .int .i64 y18, .int .i64 y19]), .row 0 1 l20.length 3 (row cI l20), .row 0 10 l21.length 80 (row TSlot.cells l21)]) ?_ ?_
 refine .d ⟨rfl, ⟨rfl, _, rfl, ⟨rfl, ?_⟩⟩⟩
 refine le (m_i_rebuilt_L4.partial_correctness a0 (motive := fun b25 y26 y27 l28 l29 y30 o41 => o22 = o41 → LoopAt _ _ [(2, .optr 2 0 0 0), (4, .optr 5 0 0 0), (19, .own 8 0 0 a0.fSlots.length), (20, .int .i64 (a0.fSlots.length : Int)), (21, .int .i64 y30)] [.dead, .dead, .row 0 5 1 27 (fun _ => [.bool false, .own 3 0 0 ([] : List Int).length, .own 4 0 0 ([] : List TSlot).length, .int .i64 0, .int .i64 0]), .row 0 1 ([] : List Int).length 3 (row cI ([] : List Int)), .row 0 10 ([] : List TSlot).length 80 (row TSlot.cells ([] : List TSlot)), .row 0 5 1 27 (fun _ => [.bool b25, .own 6 0 0 l28.length, .own 7 0 0 l29.length, .int .i64 y26, .int .i64 y27]), .row 0 1 l28.length 3 (row cI l28), .row 0 10 l29.length 80 (row TSlot.cells l29), .row 0 10 a0.fSlots.length 80 (row TSlot.cells a0.fSlots)]) ?_ true a0.fNext 0 l11 ([] : List TSlot) 0 o22 h rfl) (tk [0, 1, 5, 6, 7, 8, 9, 10, 4] ⟨.p, .p, .o, .i, .i, ⟨⟩⟩ ⟨dd, dd, (nb rfl ⟨.b, .o, .o, .i, .i, ⟨⟩⟩), nw, nw, (nb rfl ⟨.b, .o, .o, .i, .i, ⟨⟩⟩), nw, nw, nw, ⟨⟩⟩)
 intro F32 ih31 b25 y26 y27 l28 l29 y30 o41 h hr42
 subst hr42
 refine LoopAt.round (.d (.d (sD h (fun hb33 h => ?_) (fun hb33 h => ?_))))
 refine .d (.d (bk h fun x34 hx35 h => ⟨rfl, idx_bd hx35, _, Nat.zero_add _, ⟨rfl, _, ((idx_row hx35).trans (TSlot.cells_eq x34)), ⟨rfl, _, fun _ => [.bool x34.fKey.fText, .int .i64 x34.fKey.fNum, .str x34.fKey.fStr, .int .i64 x34.fVal.fKind, .int .i64 x34.fVal.fNum, .str x34.fVal.fStr, .int .i64 x34.fVal.fNext, sl 8 TEntry.cells x34.fVal.fItems, .bool x34.fLive, .int .i64 x34.fLink], rfl, one_set rfl, (.d ⟨rfl, ⟨rfl, _, rfl, (sV h (fun hb36 h => ?_) (fun hb36 h => ?_))⟩⟩)⟩⟩⟩))
 refine ⟨rfl, ⟨rfl, _, rfl, ⟨rfl, ⟨rfl, _, rfl, (bk h fun v37 hv38 h => ⟨fun res h' => ∃ g39 : Nat, ∃ g40 : Nat, res = .tup [] ∧ h' = [.dead, .dead, .row 0 5 1 27 (fun _ => [.bool false, .own 3 0 0 ([] : List Int).length, .own 4 0 0 ([] : List TSlot).length, .int .i64 0, .int .i64 0]), .row 0 1 ([] : List Int).length 3 (row cI ([] : List Int)), .row 0 10 ([] : List TSlot).length 80 (row TSlot.cells ([] : List TSlot)), .row 0 5 1 27 (fun _ => [.bool v37.fHashed, .own 6 g39 0 v37.fHeads.length, .own 7 g40 0 v37.fSlots.length, .int .i64 v37.fNext, .int .i64 v37.fCount]), .row g39 1 v37.fHeads.length 3 (row cI v37.fHeads), .row g40 10 v37.fSlots.length 80 (row TSlot.cells v37.fSlots), .row 0 10 a0.fSlots.length 80 (row TSlot.cells a0.fSlots), .row 0 10 1 80 (fun _ => x34.lit)], (ACall.over (ok_i_addSlot (g1000 := 0) (g1001 := 0) (g1002 := 0) hv38) [5, 6, 7] [.dead, .dead, .row 0 5 1 27 (fun _ => [.bool false, .own 3 0 0 ([] : List Int).length, .own 4 0 0 ([] : List TSlot).length, .int .i64 0, .int .i64 0]), .row 0 1 ([] : List Int).length 3 (row cI ([] : List Int)), .row 0 10 ([] : List TSlot).length 80 (row TSlot.cells ([] : List TSlot)), .row 0 5 1 27 (fun _ => [.bool b25, .own 6 0 0 l28.length, .own 7 0 0 l29.length, .int .i64 y26, .int .i64 y27]), .row 0 1 l28.length 3 (row cI l28), .row 0 10 l29.length 80 (row TSlot.cells l29), .row 0 10 a0.fSlots.length 80 (row TSlot.cells a0.fSlots), .row 0 10 1 80 (fun _ => x34.lit)] rfl (by decide) (by simp) (by intro j o hj; exact match j, hj with | 0, hj => by cases hj; rfl | 1, hj => by cases hj; exact (congrArg some (renO_row cI_pure _ _ _ _ _ _)).symm | 2, hj => by cases hj; exact (congrArg some (renO_row TSlot.cells_pure _ _ _ _ _ _)).symm | j + 3, hj => by cases hj) rfl).mono (by rintro _ _ ⟨_, _, ⟨g39, g40, rfl, rfl⟩, rfl, rfl⟩; exact ⟨g39, g40, rfl, (by simp only [nxtL, putSel, List.map_cons, List.map_nil, List.drop, List.length_cons, List.length_nil, renO_row TSlot.cells_pure, renO_row cI_pure]; rfl)⟩), ?_⟩)⟩⟩⟩⟩
 rintro _ _ ⟨g39, g40, rfl, rfl⟩
 exact lg (ih31 _ _ _ _ _ _ _ h rfl) (tk [0, 1, 2, 3, 4, 5, 6, 7, 8] ⟨.p, .p, .o, .i, .i, ⟨⟩⟩ ⟨dd, dd, (nb rfl ⟨.b, .o, .o, .i, .i, ⟨⟩⟩), nw, nw, (nb rfl ⟨.b, .o, .o, .i, .i, ⟨⟩⟩), nw, nw, nw, ⟨⟩⟩)
 exact lg (ih31 _ _ _ _ _ _ _ h rfl) (tk [0, 1, 2, 3, 4, 5, 6, 7, 8] ⟨.p, .p, .o, .i, .i, ⟨⟩⟩ ⟨dd, dd, (nb rfl ⟨.b, .o, .o, .i, .i, ⟨⟩⟩), nw, nw, (nb rfl ⟨.b, .o, .o, .i, .i, ⟨⟩⟩), nw, nw, nw, ⟨⟩⟩)
 exact ct ⟨_, _, _, _, _, si h, rfl, rfl⟩ (tk [0, 1, 2, 3, 4, 5, 6, 7] ⟨.p, .p, ⟨⟩⟩ ⟨dd, dd, (nb rfl ⟨.b, .o, .o, .i, .i, ⟨⟩⟩), nw, nw, (nb rfl ⟨.b, .o, .o, .i, .i, ⟨⟩⟩), nw, nw, ⟨⟩⟩)
 rintro _ _ ⟨b17, y18, y19, l20, l21, rfl, rfl, rfl⟩
 replace h := hk24
 refine .d ⟨rfl, _, rfl, ⟨rfl, _, fun _ => [.bool b17, .own 6 0 0 l20.length, .own 7 0 0 l21.length, .int .i64 y18, .int .i64 y19], rfl, one_set rfl, ?_⟩⟩
 obtain rfl := si h
 exact ⟨rfl, _, rfl, (en [0, 1, 6, 7] ⟨rfl, rfl⟩ (.agg_l ⟨.b, .o, .o, .i, .i, ⟨⟩⟩) ⟨dd, dd, nw, nw, ⟨⟩⟩)⟩
end Go.Am
