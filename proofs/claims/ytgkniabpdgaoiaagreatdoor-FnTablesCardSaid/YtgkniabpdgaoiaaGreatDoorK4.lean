/- Models of Go functions, and their walks. (Printed by tools/mg.py.) -/
import Derived.Test.YtgkniabpdgaoiaaGreatDoorK3
set_option linter.unusedVariables false
set_option linter.unusedSimpArgs false
set_option maxRecDepth 100000
namespace Go.Am
open Go Go.RowKit Go.Proofs
def m_i_isZeroValue (a0 : TValue) : Option (Bool) :=
 (if a0.fKind = 0 then
 (if a0.fNum = 0 then
 (if a0.fStr = ([] : Str) then
 (if a0.fNext = 0 then
 some ((a0.fItems.length : Int) == 0)
 else
 some false)
 else
 some false)
 else
 some false)
 else
 some false)
theorem ok_i_isZeroValue {a0 : TValue} {r : Bool} (h : m_i_isZeroValue a0 = some r) : ACall Tryz.prog 85 [.agg a0.lit] [] (fun res h => res = .bool r ∧ h = []) := by
 refine vc1 Tryz.func85 ?_
 unfold m_i_isZeroValue at h
 refine .d (.d ⟨rfl, ⟨rfl, _, rfl, (sE h (fun hb1 h => ?_) (fun hb1 h => ?_))⟩⟩)
 refine ⟨rfl, (.t ⟨rfl, _, rfl, (.t (.t (sE h (fun hb2 h => ?_) (fun hb2 h => ?_))))⟩)⟩
 refine ⟨rfl, (.t ⟨rfl, _, rfl, (.t (.t (sE h (fun hb3 h => ?_) (fun hb3 h => ?_))))⟩)⟩
 refine ⟨rfl, (.t ⟨rfl, _, rfl, (.t (.t (sE h (fun hb4 h => ?_) (fun hb4 h => ?_))))⟩)⟩
 exact ⟨rfl, (.t ⟨rfl, _, rfl, (.t (.t (.t (eB h))))⟩)⟩
 exact .f (.f (.f (.f (eB h))))
 exact .f (.f (.f (.f (.f (.f (.f (.f (eB h))))))))
 exact .f (.f (.f (.f (.f (.f (.f (.f (.f (.f (.f (.f (eB h))))))))))))
 refine .f (.f (.f (.f (.f (.f (.f (.f (.f (.f (.f (.f (.f (.f (.f ?_))))))))))))))
 exact .f (eB h)
def m_slicesEqualintint_L2 (a0 : List Int) (a1 : List Int) (y5 : Int) : Option ((Unit) ⊕ Bool) :=
 (if y5 < (a0.length : Int) then
 idx a0 y5 >>= fun x9 =>
 idx a1 y5 >>= fun x11 =>
 (if x9 = x11 then
 m_slicesEqualintint_L2 a0 a1 (W64 (y5 + 1))
 else
 some (.inr false))
 else
 some (.inl ()))
partial_fixpoint
def m_slicesEqualintint (a0 : List Int) (a1 : List Int) : Option (Bool) :=
 (if (a0.length : Int) = (a1.length : Int) then
 ((
 m_slicesEqualintint_L2 a0 a1 0
 : Option ((Unit) ⊕ Bool)) >>= fun o2 => match o2 with
 | .inr r => some r
 | .inl _ =>
 some true
 )
 else
 some false)
theorem ok_slicesEqualintint {a0 : List Int} {a1 : List Int} {r : Bool} (h : m_slicesEqualintint a0 a1 = some r) : ACall Tryz.prog 91 [sl 1 cI a0, sl 1 cI a1] [] (fun res h => res = .bool r ∧ h = []) := by
 refine vc1 Tryz.func91 ?_
 unfold m_slicesEqualintint at h
 refine .d (.d (.d (sN h (fun hb1 h => ?_) (fun hb1 h => ?_))))
 exact .d (eB h)
 obtain ⟨o2, ho3, hk4⟩ := bd h
 replace h := ho3
 refine .cut (fun σ η => .inl () = o2 ∧ σ = [] ∧ η = []) ?_ ?_
 refine .d ?_
 refine le (m_slicesEqualintint_L2.partial_correctness a0 a1 (motive := fun y5 o14 => o2 = o14 → LoopAt _ _ [(0, sl 1 cI a0), (1, sl 1 cI a1), (12, .int .i64 (a0.length : Int)), (13, .int .i64 y5)] []) ?_ 0 o2 h rfl) (tk [] ⟨.l, .l, .i, .i, ⟨⟩⟩ ⟨⟩)
 intro F7 ih6 y5 o14 h hr15
 subst hr15
 refine LoopAt.round (.d (.d (sD h (fun hb8 h => ?_) (fun hb8 h => ?_))))
 refine .d (.d (.d (bk h fun x9 hx10 h => ⟨idx_bd hx10, _, (idx_row hx10).trans rfl, (bk h fun x11 hx12 h => ⟨idx_bd hx12, _, (idx_row hx12).trans rfl, (sN h (fun hb13 h => ?_) (fun hb13 h => ?_))⟩)⟩)))
 refine .d ?_
 obtain rfl := si h
 replace h := hk4
 exact eB h
 exact lg (ih6 _ _ h rfl) (tk [] ⟨.l, .l, .i, .i, ⟨⟩⟩ ⟨⟩)
 exact ct ⟨si h, rfl, rfl⟩ (tk [] ⟨⟩ ⟨⟩)
 rintro _ _ ⟨rfl, rfl, rfl⟩
 replace h := hk4
 exact .d (eB h)
def m_i_IsTable_L2 (a0 : TTable) (l8 : List (TKey × Bool)) (y9 : Int) : Option (((List (TKey × Bool))) ⊕ Bool) :=
 (if y9 < (a0.fSlots.length : Int) then
 idx a0.fSlots y9 >>= fun x13 =>
 m55 x13.fKey >>= fun v15 =>
 (if v15 = true then
 (if x13.fKey.fText = true then
 (if x13.fLive = true then
 (if (mgd l8 x13.fKey false) = true then
 some (.inr false)
 else
 (if x13.fLive = true then
 m_i_IsTable_L2 a0 (mput l8 x13.fKey true) (W64 (y9 + 1))
 else
 m_i_isZeroValue x13.fVal >>= fun v33 =>
 (if v33 = true then
 m_i_IsTable_L2 a0 (mput l8 x13.fKey true) (W64 (y9 + 1))
 else
 some (.inr false))))
 else
 (if x13.fLive = true then
 m_i_IsTable_L2 a0 l8 (W64 (y9 + 1))
 else
 m_i_isZeroValue x13.fVal >>= fun v37 =>
 (if v37 = true then
 m_i_IsTable_L2 a0 l8 (W64 (y9 + 1))
 else
 some (.inr false))))
 else
 (if x13.fKey.fNum ≥ a0.fNext then
 some (.inr false)
 else
 (if x13.fLive = true then
 (if (mgd l8 x13.fKey false) = true then
 some (.inr false)
 else
 (if x13.fLive = true then
 m_i_IsTable_L2 a0 (mput l8 x13.fKey true) (W64 (y9 + 1))
 else
 m_i_isZeroValue x13.fVal >>= fun v23 =>
 (if v23 = true then
 m_i_IsTable_L2 a0 (mput l8 x13.fKey true) (W64 (y9 + 1))
 else
 some (.inr false))))
 else
 (if x13.fLive = true then
 m_i_IsTable_L2 a0 l8 (W64 (y9 + 1))
 else
 m_i_isZeroValue x13.fVal >>= fun v27 =>
 (if v27 = true then
 m_i_IsTable_L2 a0 l8 (W64 (y9 + 1))
 else
 some (.inr false))))))
 else
 some (.inr false))
 else
 some (.inl l8))
partial_fixpoint
def m_i_IsTable_L6 (a0 : TTable) (y54 : Int) : Option ((Unit) ⊕ ((Unit) ⊕ Bool)) :=
 (if y54 < (a0.fSlots.length : Int) then
 idx a0.fSlots y54 >>= fun x58 =>
 (if x58.fKey = (TKey.mk false y54 []) then
 (if x58.fLink = (-1) then
 m_i_IsTable_L6 a0 (W64 (y54 + 1))
 else
 some (.inr (.inr false)))
 else
 some (.inr (.inr false)))
 else
 some (.inl ()))
partial_fixpoint
def m_i_IsTable_L8 (a0 : TTable) (l74 : List Int) (y75 : Int) : Option (((List Int)) ⊕ Bool) :=
 (if y75 < (a0.fSlots.length : Int) then
 idx a0.fSlots y75 >>= fun x79 =>
 m_i_KeyHash x79.fKey >>= fun v81 =>
 m_i_Mod v81 (a0.fHeads.length : Int) >>= fun v83 =>
 idx l74 v83 >>= fun x85 =>
 (if x79.fLink = x85 then
 idx l74 v83 >>= fun x88 =>
 m_i_IsTable_L8 a0 (l74.set v83.toNat y75) (W64 (y75 + 1))
 else
 some (.inr false))
 else
 some (.inl l74))
partial_fixpoint
def m_i_IsTable (a0 : TTable) : Option (Bool) :=
 m92 a0.fNext 0 1000000001 >>= fun v1 =>
 (if v1 = true then
 ((
 m_i_IsTable_L2 a0 ([] : List (TKey × Bool)) 0
 : Option (((List (TKey × Bool))) ⊕ Bool)) >>= fun o5 => match o5 with
 | .inr r => some r
 | .inl l4 =>
 (if a0.fCount = (l4.length : Int) then
 ((
 (if a0.fHashed = true then
 some (.inl ())
 else
 (if (a0.fHeads.length : Int) > 0 then
 some (.inr false)
 else
 m_i_Min a0.fNext 1024 >>= fun v48 =>
 (if (a0.fSlots.length : Int) > v48 then
 some (.inr false)
 else
 ((
 m_i_IsTable_L6 a0 0
 : Option ((Unit) ⊕ ((Unit) ⊕ Bool))) >>= fun o51 => match o51 with
 | .inr r => some r
 | .inl _ =>
 some (.inr true)
 ))))
 : Option ((Unit) ⊕ Bool)) >>= fun o43 => match o43 with
 | .inr r => some r
 | .inl _ =>
 (if (a0.fHeads.length : Int) < 8 then
 some false
 else
 (if (a0.fHeads.length : Int) > 1024 then
 some false
 else
 (if (bits .and .i64 (a0.fHeads.length : Int) (W64 ((a0.fHeads.length : Int) - 1))) = 0 then
 (if (a0.fSlots.length : Int) > (a0.fHeads.length : Int) then
 some false
 else
 m_i_noHeads (a0.fHeads.length : Int) >>= fun v68 =>
 ((
 m_i_IsTable_L8 a0 v68 0
 : Option (((List Int)) ⊕ Bool)) >>= fun o71 => match o71 with
 | .inr r => some r
 | .inl l70 =>
 m_slicesEqualintint l70 a0.fHeads >>= fun v92 =>
 some v92
 ))
 else
 some false)))
 )
 else
 some false)
 )
 else
 some false)
theorem ok_i_IsTable {a0 : TTable} {r : Bool} (h : m_i_IsTable a0 = some r) : ACall Tryz.prog 37 [.agg a0.lit] [] (fun res h => res = .bool r ∧ h = []) := by
 refine vc1 Tryz.func37 ?_
 unfold m_i_IsTable at h
 refine .d (.d (.d ⟨rfl, ⟨rfl, _, rfl, (bk h fun v1 hv2 h => (pcP (ok92 hv2) (sVn h (fun hb3 h => ?_) (fun hb3 h => ?_))))⟩⟩))
 exact .d (eB h)
 refine .d ⟨row (mc (fun x : TKey => PV.agg x.lit) (PV.bool)) ([] : List (TKey × Bool)), ?_⟩
 obtain ⟨o5, ho6, hk7⟩ := bd h
 replace h := ho6
 refine .cut (fun σ η => ∃ l4, .inl l4 = o5 ∧ σ = [(1, .optr 0 0 0 0), (3, .omp 1)] ∧ η = [.row 0 5 1 27 (fun _ => a0.lit), .row 0 2 l4.length 111 (row (mc (fun x : TKey => PV.agg x.lit) (PV.bool)) l4)]) ?_ ?_
 refine .d ⟨rfl, ⟨rfl, _, rfl, ?_⟩⟩
 refine le (m_i_IsTable_L2.partial_correctness a0 (motive := fun l8 y9 o40 => o5 = o40 → LoopAt _ _ [(1, .optr 0 0 0 0), (3, .omp 1), (19, sl 10 TSlot.cells a0.fSlots), (20, .int .i64 (a0.fSlots.length : Int)), (21, .int .i64 y9)] [.row 0 5 1 27 (fun _ => a0.lit), .row 0 2 l8.length 111 (row (mc (fun x : TKey => PV.agg x.lit) (PV.bool)) l8)]) ?_ ([] : List (TKey × Bool)) 0 o5 h rfl) (tk [0, 1] ⟨.p, .m, .l, .i, .i, ⟨⟩⟩ ⟨(nbp rfl), ⟨fun h0 => absurd (show 1 < 0 from h0) (by decide), rfl, .inl rfl, rfl, fz_mrow (fun _ => rfl) (fun _ => rfl)⟩, ⟨⟩⟩)
 intro F11 ih10 l8 y9 o40 h hr41
 subst hr41
 refine LoopAt.round (.d (.d (sD h (fun hb12 h => ?_) (fun hb12 h => ?_))))
 refine .d (.d (bk h fun x13 hx14 h => ⟨idx_bd hx14, _, (idx_row hx14).trans (TSlot.cells_eq x13), ⟨rfl, _, fun _ => [.bool x13.fKey.fText, .int .i64 x13.fKey.fNum, .str x13.fKey.fStr, .int .i64 x13.fVal.fKind, .int .i64 x13.fVal.fNum, .str x13.fVal.fStr, .int .i64 x13.fVal.fNext, sl 8 TEntry.cells x13.fVal.fItems, .bool x13.fLive, .int .i64 x13.fLink], rfl, one_set rfl, (.d (.d ⟨rfl, ⟨rfl, _, rfl, (bk h fun v15 hv16 h => (pcP (ok55 hv16) (sVn h (fun hb17 h => ?_) (fun hb17 h => ?_))))⟩⟩))⟩⟩))
 refine .t (.t (.t (.t (.t (.t (.t (.t (.t (.t (.t (.t (.t (.t (.t ?_))))))))))))))
 refine .t (.t (.t (.d ?_)))
 obtain rfl := si h
 replace h := hk7
 exact eB h
 refine ⟨rfl, (.f ⟨rfl, (.f ⟨rfl, _, rfl, (.f (.f (sVn h (fun hb18 h => ?_) (fun hb18 h => ?_))))⟩)⟩)⟩
 refine ⟨rfl, (.t ⟨rfl, (.t ⟨rfl, _, rfl, (.t ⟨rfl, (.t ⟨rfl, _, rfl, (.t (.f (.t (.f (sD h (fun hb19 h => ?_) (fun hb19 h => ?_))))))⟩)⟩)⟩)⟩)⟩
 refine .t (.t (.t (.t (.t (.t (.t (.t (.t (.t (.t (.d ?_)))))))))))
 obtain rfl := si h
 replace h := hk7
 exact eB h
 refine ⟨rfl, (.f ⟨rfl, _, rfl, (.f (sV h (fun hb20 h => ?_) (fun hb20 h => ?_)))⟩)⟩
 refine .t ⟨rfl, (.t ⟨rfl, _, rfl, (.t ⟨.bool (mgd l8 x13.fKey false), mhas l8 x13.fKey, mlook_of (ti := tabT.get 29) (c := fun x : TKey => PV.agg x.lit) (d := PV.bool) (fun x y => congrArg some (TKey.eq_cells x y)) l8 x13.fKey false, (.f (.t (.f (sV h (fun hb21 h => ?_) (fun hb21 h => ?_)))))⟩)⟩)⟩
 refine .t (.t (.t (.t (.t (.t (.d ?_))))))
 obtain rfl := si h
 replace h := hk7
 exact eB h
 refine ⟨rfl, (.f ⟨rfl, _, rfl, (.f (.f (sVn h (fun hb22 h => ?_) (fun hb22 h => ?_))))⟩)⟩
 refine ⟨rfl, (.t ⟨rfl, _, rfl, (.t (bk h fun v23 hv24 h => (pcP (ok_i_isZeroValue hv24) (.t (.f (.t (.f (sVn h (fun hb25 h => ?_) (fun hb25 h => ?_)))))))))⟩)⟩
 refine .d ?_
 obtain rfl := si h
 replace h := hk7
 exact eB h
 exact .d ⟨rfl, ⟨rfl, _, rfl, (.kt hb20 ⟨rfl, ⟨rfl, _, rfl, ⟨(mput l8 x13.fKey true).length, row (mc (fun x : TKey => PV.agg x.lit) (PV.bool)) (mput l8 x13.fKey true), mupd_of (ti := tabT.get 29) (c := fun x : TKey => PV.agg x.lit) (d := PV.bool) (fun x y => congrArg some (TKey.eq_cells x y)) l8 x13.fKey true, (lg (ih10 _ _ _ h rfl) (tk [0, 1] ⟨.p, .m, .l, .i, .i, ⟨⟩⟩ ⟨(nbp rfl), ⟨fun h0 => absurd (show 1 < 0 from h0) (by decide), rfl, .inl rfl, rfl, fz_mrow (fun _ => rfl) (fun _ => rfl)⟩, ⟨⟩⟩))⟩⟩⟩)⟩⟩
 exact .f (.f (.f (.f (.f (.f (.f (.d ⟨rfl, ⟨rfl, _, rfl, (.kt hb20 ⟨rfl, ⟨rfl, _, rfl, ⟨(mput l8 x13.fKey true).length, row (mc (fun x : TKey => PV.agg x.lit) (PV.bool)) (mput l8 x13.fKey true), mupd_of (ti := tabT.get 29) (c := fun x : TKey => PV.agg x.lit) (d := PV.bool) (fun x y => congrArg some (TKey.eq_cells x y)) l8 x13.fKey true, (lg (ih10 _ _ _ h rfl) (tk [0, 1] ⟨.p, .m, .l, .i, .i, ⟨⟩⟩ ⟨(nbp rfl), ⟨fun h0 => absurd (show 1 < 0 from h0) (by decide), rfl, .inl rfl, rfl, fz_mrow (fun _ => rfl) (fun _ => rfl)⟩, ⟨⟩⟩))⟩⟩⟩)⟩⟩)))))))
 refine .f (.f (.f (.f (.f (.f (.f ⟨rfl, (.f ⟨rfl, _, rfl, (.f (.f (sVn h (fun hb26 h => ?_) (fun hb26 h => ?_))))⟩)⟩))))))
 refine ⟨rfl, (.t ⟨rfl, _, rfl, (.t (bk h fun v27 hv28 h => (pcP (ok_i_isZeroValue hv28) (.t (.f (.t (.f (sVn h (fun hb29 h => ?_) (fun hb29 h => ?_)))))))))⟩)⟩
 refine .d ?_
 obtain rfl := si h
 replace h := hk7
 exact eB h
 exact .d ⟨rfl, ⟨rfl, _, rfl, (.kf hb20 (lg (ih10 _ _ _ h rfl) (tk [0, 1] ⟨.p, .m, .l, .i, .i, ⟨⟩⟩ ⟨(nbp rfl), ⟨fun h0 => absurd (show 1 < 0 from h0) (by decide), rfl, .inl rfl, rfl, fz_mrow (fun _ => rfl) (fun _ => rfl)⟩, ⟨⟩⟩)))⟩⟩
 exact .f (.f (.f (.f (.f (.f (.f (.d ⟨rfl, ⟨rfl, _, rfl, (.kf hb20 (lg (ih10 _ _ _ h rfl) (tk [0, 1] ⟨.p, .m, .l, .i, .i, ⟨⟩⟩ ⟨(nbp rfl), ⟨fun h0 => absurd (show 1 < 0 from h0) (by decide), rfl, .inl rfl, rfl, fz_mrow (fun _ => rfl) (fun _ => rfl)⟩, ⟨⟩⟩)))⟩⟩)))))))
 refine .f (.f (.f (.f (.f (.f (.f (.f (.f ⟨rfl, (.f ⟨rfl, _, rfl, (.f (sV h (fun hb30 h => ?_) (fun hb30 h => ?_)))⟩)⟩))))))))
 refine .t ⟨rfl, (.t ⟨rfl, _, rfl, (.t ⟨.bool (mgd l8 x13.fKey false), mhas l8 x13.fKey, mlook_of (ti := tabT.get 29) (c := fun x : TKey => PV.agg x.lit) (d := PV.bool) (fun x y => congrArg some (TKey.eq_cells x y)) l8 x13.fKey false, (.f (.t (.f (sV h (fun hb31 h => ?_) (fun hb31 h => ?_)))))⟩)⟩)⟩
 refine .t (.t (.t (.t (.t (.t (.d ?_))))))
 obtain rfl := si h
 replace h := hk7
 exact eB h
 refine ⟨rfl, (.f ⟨rfl, _, rfl, (.f (.f (sVn h (fun hb32 h => ?_) (fun hb32 h => ?_))))⟩)⟩
 refine ⟨rfl, (.t ⟨rfl, _, rfl, (.t (bk h fun v33 hv34 h => (pcP (ok_i_isZeroValue hv34) (.t (.f (.t (.f (sVn h (fun hb35 h => ?_) (fun hb35 h => ?_)))))))))⟩)⟩
 refine .d ?_
 obtain rfl := si h
 replace h := hk7
 exact eB h
 exact .d ⟨rfl, ⟨rfl, _, rfl, (.kt hb30 ⟨rfl, ⟨rfl, _, rfl, ⟨(mput l8 x13.fKey true).length, row (mc (fun x : TKey => PV.agg x.lit) (PV.bool)) (mput l8 x13.fKey true), mupd_of (ti := tabT.get 29) (c := fun x : TKey => PV.agg x.lit) (d := PV.bool) (fun x y => congrArg some (TKey.eq_cells x y)) l8 x13.fKey true, (lg (ih10 _ _ _ h rfl) (tk [0, 1] ⟨.p, .m, .l, .i, .i, ⟨⟩⟩ ⟨(nbp rfl), ⟨fun h0 => absurd (show 1 < 0 from h0) (by decide), rfl, .inl rfl, rfl, fz_mrow (fun _ => rfl) (fun _ => rfl)⟩, ⟨⟩⟩))⟩⟩⟩)⟩⟩
 exact .f (.f (.f (.f (.f (.f (.f (.d ⟨rfl, ⟨rfl, _, rfl, (.kt hb30 ⟨rfl, ⟨rfl, _, rfl, ⟨(mput l8 x13.fKey true).length, row (mc (fun x : TKey => PV.agg x.lit) (PV.bool)) (mput l8 x13.fKey true), mupd_of (ti := tabT.get 29) (c := fun x : TKey => PV.agg x.lit) (d := PV.bool) (fun x y => congrArg some (TKey.eq_cells x y)) l8 x13.fKey true, (lg (ih10 _ _ _ h rfl) (tk [0, 1] ⟨.p, .m, .l, .i, .i, ⟨⟩⟩ ⟨(nbp rfl), ⟨fun h0 => absurd (show 1 < 0 from h0) (by decide), rfl, .inl rfl, rfl, fz_mrow (fun _ => rfl) (fun _ => rfl)⟩, ⟨⟩⟩))⟩⟩⟩)⟩⟩)))))))
 refine .f (.f (.f (.f (.f (.f (.f ⟨rfl, (.f ⟨rfl, _, rfl, (.f (.f (sVn h (fun hb36 h => ?_) (fun hb36 h => ?_))))⟩)⟩))))))
 refine ⟨rfl, (.t ⟨rfl, _, rfl, (.t (bk h fun v37 hv38 h => (pcP (ok_i_isZeroValue hv38) (.t (.f (.t (.f (sVn h (fun hb39 h => ?_) (fun hb39 h => ?_)))))))))⟩)⟩
 refine .d ?_
 obtain rfl := si h
 replace h := hk7
 exact eB h
 exact .d ⟨rfl, ⟨rfl, _, rfl, (.kf hb30 (lg (ih10 _ _ _ h rfl) (tk [0, 1] ⟨.p, .m, .l, .i, .i, ⟨⟩⟩ ⟨(nbp rfl), ⟨fun h0 => absurd (show 1 < 0 from h0) (by decide), rfl, .inl rfl, rfl, fz_mrow (fun _ => rfl) (fun _ => rfl)⟩, ⟨⟩⟩)))⟩⟩
 exact .f (.f (.f (.f (.f (.f (.f (.d ⟨rfl, ⟨rfl, _, rfl, (.kf hb30 (lg (ih10 _ _ _ h rfl) (tk [0, 1] ⟨.p, .m, .l, .i, .i, ⟨⟩⟩ ⟨(nbp rfl), ⟨fun h0 => absurd (show 1 < 0 from h0) (by decide), rfl, .inl rfl, rfl, fz_mrow (fun _ => rfl) (fun _ => rfl)⟩, ⟨⟩⟩)))⟩⟩)))))))
 exact ct ⟨_, si h, rfl, rfl⟩ (tk [0, 1] ⟨.p, .m, ⟨⟩⟩ ⟨(nbp rfl), ⟨fun h0 => absurd (show 1 < 0 from h0) (by decide), rfl, .inl rfl, rfl, fz_mrow (fun _ => rfl) (fun _ => rfl)⟩, ⟨⟩⟩)
 rintro _ _ ⟨l4, rfl, rfl, rfl⟩
 replace h := hk7
 refine .d (.d ⟨rfl, ⟨rfl, _, rfl, (sN h (fun hb42 h => ?_) (fun hb42 h => ?_))⟩⟩)
 exact .d (eB h)
 obtain ⟨o43, ho44, hk45⟩ := bd h
 replace h := ho44
 refine .cut (fun σ η => .inl () = o43 ∧ σ = [(1, .optr 0 0 0 0)] ∧ η = [.row 0 5 1 27 (fun _ => a0.lit)]) ?_ ?_
 refine .d ⟨rfl, ⟨rfl, _, rfl, (sVn h (fun hb46 h => ?_) (fun hb46 h => ?_))⟩⟩
 refine .d (.d (.float [(0, true), (1, true), (2, true), (3, true), (4, true), (5, true), (6, true), (7, true), (8, true), (9, true), (10, false), (11, true), (12, true)] (by kernel_rfl) ?_))
 refine ⟨rfl, ⟨rfl, _, rfl, (sD h (fun hb47 h => ?_) (fun hb47 h => ?_))⟩⟩
 refine .t (.t (.t (.t (.t ⟨rfl, (.t (.t (.t (.d ?_))))⟩))))
 obtain rfl := si h
 replace h := hk45
 exact eB h
 refine ⟨rfl, (.f ⟨rfl, _, rfl, (.f (.f ⟨rfl, (.f ⟨rfl, _, rfl, (.f (bk h fun v48 hv49 h => (pcP (ok_i_Min hv49) ⟨rfl, ⟨rfl, (.f (.f ?_))⟩⟩)))⟩)⟩))⟩)⟩
 refine sD h (fun hb50 h => ?_) (fun hb50 h => ?_)
 refine .d ?_
 obtain rfl := si h
 replace h := hk45
 exact eB h
 obtain ⟨o51, ho52, hk53⟩ := bd h
 replace h := ho52
 refine .cut (fun σ η => .inl () = o51 ∧ σ = [] ∧ η = []) ?_ ?_
 refine .d ⟨rfl, ⟨rfl, _, rfl, ?_⟩⟩
 refine le (m_i_IsTable_L6.partial_correctness a0 (motive := fun y54 o62 => o51 = o62 → LoopAt _ _ [(92, sl 10 TSlot.cells a0.fSlots), (93, .int .i64 (a0.fSlots.length : Int)), (94, .int .i64 y54)] []) ?_ 0 o51 h rfl) (tk [] ⟨.l, .i, .i, ⟨⟩⟩ ⟨⟩)
 intro F56 ih55 y54 o62 h hr63
 subst hr63
 refine LoopAt.round (.d (.d (sD h (fun hb57 h => ?_) (fun hb57 h => ?_))))
 refine .d (.d (bk h fun x58 hx59 h => ⟨idx_bd hx59, _, (idx_row hx59).trans (TSlot.cells_eq x58), ⟨rfl, _, fun _ => [.bool x58.fKey.fText, .int .i64 x58.fKey.fNum, .str x58.fKey.fStr, .int .i64 x58.fVal.fKind, .int .i64 x58.fVal.fNum, .str x58.fVal.fStr, .int .i64 x58.fVal.fNext, sl 8 TEntry.cells x58.fVal.fItems, .bool x58.fLive, .int .i64 x58.fLink], rfl, one_set rfl, (.d (.float [(0, true), (1, true), (2, true), (3, false), (4, true), (5, true), (6, true), (7, true), (8, true), (9, true)] (by kernel_rfl) ?_))⟩⟩))
 refine ⟨rfl, ⟨rfl, _, rfl, (pcP (ok_i_intKeyx y54) ⟨rfl, ⟨rfl, ⟨_, TKey.eq_cells x58.fKey (TKey.mk false y54 []), (sDn h (fun hb60 h => ?_) (fun hb60 h => ?_))⟩⟩⟩)⟩⟩
 refine .t (.t (.t (.t (.d ?_))))
 obtain rfl := si h
 replace h := hk53
 obtain rfl := si h
 replace h := hk45
 exact eB h
 refine ⟨rfl, (.f ⟨rfl, _, rfl, (.f (.f (sN h (fun hb61 h => ?_) (fun hb61 h => ?_))))⟩)⟩
 refine .d ?_
 obtain rfl := si h
 replace h := hk53
 obtain rfl := si h
 replace h := hk45
 exact eB h
 exact lg (ih55 _ _ h rfl) (tk [] ⟨.l, .i, .i, ⟨⟩⟩ ⟨⟩)
 exact ct ⟨si h, rfl, rfl⟩ (tk [] ⟨⟩ ⟨⟩)
 rintro _ _ ⟨rfl, rfl, rfl⟩
 replace h := hk53
 refine .d ?_
 obtain rfl := si h
 replace h := hk45
 exact eB h
 exact ct ⟨si h, rfl, rfl⟩ (tk [0] ⟨.p, ⟨⟩⟩ ⟨(nbp rfl), ⟨⟩⟩)
 rintro _ _ ⟨rfl, rfl, rfl⟩
 replace h := hk45
 refine .d ⟨rfl, ⟨rfl, _, rfl, (.d (.d (sD h (fun hb64 h => ?_) (fun hb64 h => ?_))))⟩⟩
 refine .t (.t (.t (.t (.t (.t (.t (.t (.t (.t (.t (.t (.t (.t (.t ?_))))))))))))))
 exact .d (eB h)
 refine .f (.f (sD h (fun hb65 h => ?_) (fun hb65 h => ?_)))
 exact .t (.t (.t (.t (.t (.t (.t (.t (.t (.t (.t (.t (.d (eB h)))))))))))))
 refine .f (.f (.f (.f (.f (sN h (fun hb66 h => ?_) (fun hb66 h => ?_))))))
 exact .t (.t (.t (.t (.t (.t (.d (eB h)))))))
 refine ⟨rfl, (.f ⟨rfl, _, rfl, (.f (.f (.f (.f (sD h (fun hb67 h => ?_) (fun hb67 h => ?_))))))⟩)⟩
 exact .d (eB h)
 refine .d (bk h fun v68 hv69 h => (pcF (own_i_noHeads hv69) (.own 1 0 0 v68.length) [.row 0 5 1 27 (fun _ => a0.lit), .row 0 1 v68.length 3 (row cI v68)] ?_))
 obtain ⟨o71, ho72, hk73⟩ := bd h
 replace h := ho72
 refine .cut (fun σ η => ∃ l70, .inl l70 = o71 ∧ σ = [(1, .optr 0 0 0 0), (9, .own 1 0 0 l70.length)] ∧ η = [.row 0 5 1 27 (fun _ => a0.lit), .row 0 1 l70.length 3 (row cI l70)]) ?_ ?_
 refine .d ⟨rfl, ⟨rfl, _, rfl, ?_⟩⟩
 refine le (m_i_IsTable_L8.partial_correctness a0 (motive := fun l74 y75 o90 => o71 = o90 → LoopAt _ _ [(1, .optr 0 0 0 0), (8, .int .i64 (a0.fHeads.length : Int)), (9, .own 1 0 0 l74.length), (136, sl 10 TSlot.cells a0.fSlots), (137, .int .i64 (a0.fSlots.length : Int)), (138, .int .i64 y75)] [.row 0 5 1 27 (fun _ => a0.lit), .row 0 1 l74.length 3 (row cI l74)]) ?_ v68 0 o71 h rfl) (tk [0, 1] ⟨.p, .i, .o, .l, .i, .i, ⟨⟩⟩ ⟨(nbp rfl), nw, ⟨⟩⟩)
 intro F77 ih76 l74 y75 o90 h hr91
 subst hr91
 refine LoopAt.round (.d (.d (sD h (fun hb78 h => ?_) (fun hb78 h => ?_))))
 refine .d (.d (bk h fun x79 hx80 h => ⟨idx_bd hx80, _, (idx_row hx80).trans (TSlot.cells_eq x79), ⟨rfl, _, fun _ => [.bool x79.fKey.fText, .int .i64 x79.fKey.fNum, .str x79.fKey.fStr, .int .i64 x79.fVal.fKind, .int .i64 x79.fVal.fNum, .str x79.fVal.fStr, .int .i64 x79.fVal.fNext, sl 8 TEntry.cells x79.fVal.fItems, .bool x79.fLive, .int .i64 x79.fLink], rfl, one_set rfl, (.d ⟨rfl, ⟨rfl, _, rfl, (bk h fun v81 hv82 h => (pcP (ok_i_KeyHash hv82) (bk h fun v83 hv84 h => (pcP (ok_i_Mod hv84) (.d (.d ⟨rfl, ?_⟩))))))⟩⟩)⟩⟩))
 refine ⟨rfl, _, rfl, (bk h fun x85 hx86 h => ⟨rfl, idx_bd hx86, _, Nat.zero_add _, ⟨rfl, _, ((idx_row hx86).trans rfl), (sN h (fun hb87 h => ?_) (fun hb87 h => ?_))⟩⟩)⟩
 refine .d ?_
 obtain rfl := si h
 replace h := hk73
 exact eB h
 exact bk h fun x88 hx89 h => ⟨rfl, idx_bd hx89, _, Nat.zero_add _, ⟨rfl, _, row cI (l74.set v83.toNat y75), ((idx_row hx89).trans rfl), row_set (idx_lt hx89) rfl ⟨.same _, trivial⟩, (lg (ih76 _ _ _ h rfl) (tk [0, 1] ⟨.p, .i, (.ox ln), .l, .i, .i, ⟨⟩⟩ ⟨(nbp rfl), (nwx rfl ln), ⟨⟩⟩))⟩⟩
 exact ct ⟨_, si h, rfl, rfl⟩ (tk [0, 1] ⟨.p, .o, ⟨⟩⟩ ⟨(nbp rfl), nw, ⟨⟩⟩)
 rintro _ _ ⟨l70, rfl, rfl, rfl⟩
 replace h := hk73
 exact .d ⟨rfl, ⟨rfl, _, rfl, (bk h fun v92 hv93 h => (pcS (ok_slicesEqualintint hv93) ⟨.r, .l, ⟨⟩⟩ (eB h)))⟩⟩
def m_i_FindSlot (a0 : TTable) (a1 : TKey) : Option (Int) :=
 m_i_IsTable a0 >>= fun v1 =>
 (if v1 = true then
 m_i_slotOf a0 a1 >>= fun v4 =>
 some v4
 else
 some (-1))
theorem ok_i_FindSlot {a0 : TTable} {a1 : TKey} {r : Int} (h : m_i_FindSlot a0 a1 = some r) : ACall Tryz.prog 18 [.agg a0.lit, .agg a1.lit] [] (fun res h => res = .int .i64 r ∧ h = []) := by
 refine vc1 Tryz.func18 ?_
 unfold m_i_FindSlot at h
 refine .d (.d (.d ⟨rfl, _, rfl, (bk h fun v1 hv2 h => (pcP (ok_i_IsTable hv2) (sVn h (fun hb3 h => ?_) (fun hb3 h => ?_))))⟩))
 exact .d (eI h)
 exact .d ⟨rfl, _, rfl, ⟨rfl, _, rfl, (bk h fun v4 hv5 h => (pcP (ok_i_slotOf hv5) (eI h)))⟩⟩
def m_i_TableValue_L2 (a0 : TTable) (l5 : List TEntry) (y6 : Int) : Option ((List TEntry)) :=
 (if y6 < (a0.fSlots.length : Int) then
 idx a0.fSlots y6 >>= fun x10 =>
 (if x10.fLive = true then
 m46 x10.fVal >>= fun v13 =>
 lapp 96 l5 ([(TEntry.mk x10.fKey v13)] : List TEntry) >>= fun l15 =>
 m_i_TableValue_L2 a0 l15 (W64 (y6 + 1))
 else
 m_i_TableValue_L2 a0 l5 (W64 (y6 + 1)))
 else
 some l5)
partial_fixpoint
def m_i_TableValue (a0 : TTable) : Option (TValue) :=
 (
 m_i_TableValue_L2 a0 ([] : List TEntry) 0
 : Option ((List TEntry))) >>= fun l1 =>
 some (TValue.mk 4 0 [] a0.fNext l1)
theorem ok_i_TableValue {a0 : TTable} {r : TValue} (h : m_i_TableValue a0 = some r) : ACall Tryz.prog 9 [.agg a0.lit] [] (fun res h => res = .agg r.lit ∧ h = []) := by
 refine vc1 Tryz.func9 ?_
 unfold m_i_TableValue at h
 refine .d (.d (pcP (ok_i_ArrayValuex) ⟨rfl, _, fun _ => [.int .i64 4, .int .i64 0, .str [], .int .i64 0, .nils], rfl, one_set rfl, (.d ⟨rfl, ⟨rfl, _, rfl, ⟨rfl, ⟨rfl, _, fun _ => [.int .i64 4, .int .i64 0, .str [], .int .i64 a0.fNext, .nils], rfl, one_set rfl, ?_⟩⟩⟩⟩)⟩))
 obtain ⟨o2, ho3, hk4⟩ := bd h
 replace h := ho3
 refine .cut (fun σ η => ∃ l1, l1 = o2 ∧ σ = [(2, .optr 0 0 0 0), (3, .optr 1 0 0 0)] ∧ η = [.row 0 5 1 32 (fun _ => [.int .i64 0, .int .i64 0, .str [], .int .i64 0, .nils]), .row 0 5 1 32 (fun _ => [.int .i64 4, .int .i64 0, .str [], .int .i64 a0.fNext, .own 2 0 0 l1.length]), .row 0 8 l1.length 82 (row TEntry.cells l1)]) ?_ ?_
 refine .d ⟨rfl, ⟨rfl, _, rfl, ?_⟩⟩
 refine le (m_i_TableValue_L2.partial_correctness a0 (motive := fun l5 y6 o17 => o2 = o17 → LoopAt _ _ [(2, .optr 0 0 0 0), (3, .optr 1 0 0 0), (11, sl 10 TSlot.cells a0.fSlots), (12, .int .i64 (a0.fSlots.length : Int)), (13, .int .i64 y6)] [.row 0 5 1 32 (fun _ => [.int .i64 0, .int .i64 0, .str [], .int .i64 0, .nils]), .row 0 5 1 32 (fun _ => [.int .i64 4, .int .i64 0, .str [], .int .i64 a0.fNext, .own 2 0 0 l5.length]), .row 0 8 l5.length 82 (row TEntry.cells l5)]) ?_ ([] : List TEntry) 0 o2 h rfl) (tk [1, 2, 5] ⟨.p, .p, .l, .i, .i, ⟨⟩⟩ ⟨(nb rfl ⟨.i, .i, .s, .i, .nils, ⟨⟩⟩), (nb rfl ⟨.i, .i, .s, .i, .g, ⟨⟩⟩), gh, ⟨⟩⟩)
 intro F8 ih7 l5 y6 o17 h hr18
 subst hr18
 refine LoopAt.round (.d (.d (sD h (fun hb9 h => ?_) (fun hb9 h => ?_))))
 refine .d (.d (bk h fun x10 hx11 h => ⟨idx_bd hx11, _, (idx_row hx11).trans (TSlot.cells_eq x10), ⟨rfl, _, fun _ => [.bool x10.fKey.fText, .int .i64 x10.fKey.fNum, .str x10.fKey.fStr, .int .i64 x10.fVal.fKind, .int .i64 x10.fVal.fNum, .str x10.fVal.fStr, .int .i64 x10.fVal.fNext, sl 8 TEntry.cells x10.fVal.fItems, .bool x10.fLive, .int .i64 x10.fLink], rfl, one_set rfl, (.d ⟨rfl, ⟨rfl, _, rfl, (sV h (fun hb12 h => ?_) (fun hb12 h => ?_))⟩⟩)⟩⟩))
 refine .float [(0, true), (1, true), (2, true), (3, true), (4, true), (5, true), (6, false), (7, true), (8, false), (9, false), (10, true), (11, false)] (by kernel_rfl) ?_
 refine ⟨rfl, ⟨rfl, _, rfl, ⟨rfl, ⟨rfl, _, rfl, ⟨rfl, ⟨rfl, _, rfl, (bk h fun v13 hv14 h => (pcP (ok46 hv14) ⟨rfl, ⟨rfl, ⟨rfl, ⟨rfl, ⟨row TEntry.cells ([(TEntry.mk x10.fKey v13)] : List TEntry), row_lit TEntry.cells ([(TEntry.mk x10.fKey v13)] : List TEntry) rfl (cll_cons (TEntry.cells_eq _) ⟨.same _, .same _, .same _, .same _, .same _, .same _, .same _, .same _, trivial⟩ trivial), ⟨rfl, ⟨rfl, ?_⟩⟩⟩⟩⟩⟩⟩))⟩⟩⟩⟩⟩⟩
 exact bk h fun l15 hx16 h => ⟨rfl, rfl, lapp_bd hx16, l15.length, row TEntry.cells l15, lapp_len hx16, lapp_row hx16 shows_all (src_own shows_all), ⟨rfl, ⟨rfl, _, fun _ => [.int .i64 4, .int .i64 0, .str [], .int .i64 a0.fNext, .own 2 (0 + 1) 0 l15.length], rfl, one_set rfl, (lg (ih7 _ _ _ h rfl) (tk [0, 1, 2] ⟨.p, .p, .l, .i, .i, ⟨⟩⟩ ⟨(nb rfl ⟨.i, .i, .s, .i, .nils, ⟨⟩⟩), (nb rfl ⟨.i, .i, .s, .i, .o, ⟨⟩⟩), nw, ⟨⟩⟩))⟩⟩⟩
 exact lg (ih7 _ _ _ h rfl) (tk [0, 1, 2] ⟨.p, .p, .l, .i, .i, ⟨⟩⟩ ⟨(nb rfl ⟨.i, .i, .s, .i, .nils, ⟨⟩⟩), (nb rfl ⟨.i, .i, .s, .i, .o, ⟨⟩⟩), nw, ⟨⟩⟩)
 exact ct ⟨_, si h, rfl, rfl⟩ (tk [0, 1, 2] ⟨.p, .p, ⟨⟩⟩ ⟨(nb rfl ⟨.i, .i, .s, .i, .nils, ⟨⟩⟩), (nb rfl ⟨.i, .i, .s, .i, .o, ⟨⟩⟩), nw, ⟨⟩⟩)
 rintro _ _ ⟨l1, rfl, rfl, rfl⟩
 replace h := hk4
 refine .d ⟨rfl, _, rfl, ⟨rfl, _, fun _ => [.int .i64 4, .int .i64 0, .str [], .int .i64 a0.fNext, .own 2 0 0 l1.length], rfl, one_set rfl, ?_⟩⟩
 obtain rfl := si h
 exact ⟨rfl, _, rfl, (en [] ⟨rfl, rfl⟩ (.agg_l ⟨.i, .i, .s, .i, .r, ⟨⟩⟩) ⟨⟩)⟩
def m_i_copyTable_L2 (a0 : TTable) (l11 : List TSlot) (y12 : Int) : Option ((List TSlot)) :=
 (if y12 < (a0.fSlots.length : Int) then
 idx a0.fSlots y12 >>= fun x16 =>
 m46 x16.fVal >>= fun v18 =>
 lapp 112 l11 ([(TSlot.mk x16.fKey v18 x16.fLive x16.fLink)] : List TSlot) >>= fun l20 =>
 m_i_copyTable_L2 a0 l20 (W64 (y12 + 1))
 else
 some l11)
partial_fixpoint
def m_i_copyTable (a0 : TTable) : Option (TTable) :=
 (
 lapp 8 ([] : List Int) a0.fHeads >>= fun l5 =>
 some l5
 : Option ((List Int))) >>= fun l1 =>
 (
 m_i_copyTable_L2 a0 ([] : List TSlot) 0
 : Option ((List TSlot))) >>= fun l7 =>
 some (TTable.mk a0.fHashed l1 l7 a0.fNext a0.fCount)
theorem ok_i_copyTable {a0 : TTable} {r : TTable} (h : m_i_copyTable a0 = some r) : ACall Tryz.prog 36 [.agg a0.lit] [] (fun res h => res = .agg [.bool r.fHashed, .own 0 0 0 r.fHeads.length, .own 1 0 0 r.fSlots.length, .int .i64 r.fNext, .int .i64 r.fCount] ∧ h = [.row 0 1 r.fHeads.length 3 (row cI r.fHeads), .row 0 10 r.fSlots.length 80 (row TSlot.cells r.fSlots)]) := by
 refine vc1 Tryz.func36 ?_
 unfold m_i_copyTable at h
 refine .d ?_
 obtain ⟨o2, ho3, hk4⟩ := bd h
 replace h := ho3
 refine .cut (fun σ η => ∃ l1, l1 = o2 ∧ σ = [(1, .optr 0 0 0 0), (2, .optr 1 0 0 0), (3, .optr 4 0 0 0)] ∧ η = [.row 0 5 1 27 (fun _ => a0.lit), .row 0 5 1 27 (fun _ => [.bool false, .own 2 0 0 ([] : List Int).length, .own 3 0 0 ([] : List TSlot).length, .int .i64 0, .int .i64 0]), .row 0 1 ([] : List Int).length 3 (row cI ([] : List Int)), .row 0 10 ([] : List TSlot).length 80 (row TSlot.cells ([] : List TSlot)), .row 0 5 1 27 (fun _ => [.bool a0.fHashed, .own 5 0 0 l1.length, .own 6 0 0 ([] : List TSlot).length, .int .i64 a0.fNext, .int .i64 a0.fCount]), .row 0 1 l1.length 3 (row cI l1), .row 0 10 ([] : List TSlot).length 80 (row TSlot.cells ([] : List TSlot))]) ?_ ?_
 refine .float3 [(0, true), (1, true), (3, true), (4, true), (6, true), (7, true), (8, true), (9, true)] 2 [] 5 [(10, true), (11, false), (12, false)] 11 [(5, false), (10, true), (12, false)] 11 [(2, false), (5, false), (10, true), (12, false)] (by kernel_rfl) ?_
 refine ⟨rfl, ⟨rfl, _, rfl, ⟨rfl, ⟨rfl, _, rfl, ⟨rfl, ⟨rfl, _, rfl, ⟨rfl, ⟨rfl, _, rfl, ⟨?_, ?_⟩⟩⟩⟩⟩⟩⟩⟩⟩
 refine ⟨row cI ([] : List Int), row_lit cI ([] : List Int) rfl (cll_refl rfl), ⟨rfl, ⟨rfl, ⟨rfl, ⟨rfl, ⟨rfl, ⟨rfl, ⟨rfl, ⟨rfl, ⟨?_, ?_⟩⟩⟩⟩⟩⟩⟩⟩⟩⟩
 refine bk h fun l5 hx6 h => ⟨rfl, lapp_bd hx6, l5.length, row cI l5, lapp_len hx6, lapp_row hx6 shows_all src_slc, ⟨rfl, ⟨rfl, ⟨rfl, ⟨rfl, ⟨rfl, ⟨rfl, ⟨rfl, ⟨rfl, ⟨rfl, ⟨rfl, ⟨rfl, ⟨rfl, ⟨rfl, ?_⟩⟩⟩⟩⟩⟩⟩⟩⟩⟩⟩⟩⟩⟩
 exact ⟨rfl, ⟨rfl, ⟨rfl, _, fun _ => [.bool a0.fHashed, .own 2 (0 + 1) 0 l5.length, .nils, .int .i64 a0.fNext, .int .i64 a0.fCount], rfl, one_set rfl, (ct ⟨_, si h, rfl, rfl⟩ (tk [0, 1, 6, 7, 3, 2, 10] ⟨.p, .p, .p, ⟨⟩⟩ ⟨(nbp rfl), (nb rfl ⟨.b, .g, .g, .i, .i, ⟨⟩⟩), gh, gh, (nb rfl ⟨.b, .o, .g, .i, .i, ⟨⟩⟩), nw, gh, ⟨⟩⟩))⟩⟩⟩
 refine ⟨rfl, ⟨rfl, ⟨rfl, ⟨rfl, ⟨rfl, ⟨rfl, ⟨rfl, ⟨rfl, (bk h fun l5 hx6 h => ⟨rfl, lapp_bd hx6, l5.length, row cI l5, lapp_len hx6, lapp_row hx6 shows_all src_slc, ⟨rfl, ⟨rfl, ⟨rfl, ⟨rfl, ⟨rfl, ?_⟩⟩⟩⟩⟩⟩)⟩⟩⟩⟩⟩⟩⟩⟩
 exact ⟨rfl, ⟨rfl, _, fun _ => [.bool a0.fHashed, .own 2 (0 + 1) 0 l5.length, .nils, .int .i64 a0.fNext, .int .i64 a0.fCount], rfl, one_set rfl, (ct ⟨_, si h, rfl, rfl⟩ (tk [0, 1, 6, 7, 3, 2, 10] ⟨.p, .p, .p, ⟨⟩⟩ ⟨(nbp rfl), (nb rfl ⟨.b, .g, .g, .i, .i, ⟨⟩⟩), gh, gh, (nb rfl ⟨.b, .o, .g, .i, .i, ⟨⟩⟩), nw, gh, ⟨⟩⟩))⟩⟩
 refine ⟨rfl, ⟨rfl, ⟨rfl, ⟨rfl, ⟨rfl, ⟨rfl, ⟨rfl, ⟨rfl, ⟨row cI ([] : List Int), row_lit cI ([] : List Int) rfl (cll_refl rfl), ⟨rfl, ⟨rfl, ⟨rfl, ⟨rfl, ⟨rfl, ⟨rfl, ?_⟩⟩⟩⟩⟩⟩⟩⟩⟩⟩⟩⟩⟩⟩⟩
 exact ⟨rfl, ⟨rfl, (bk h fun l5 hx6 h => ⟨rfl, lapp_bd hx6, l5.length, row cI l5, lapp_len hx6, lapp_row hx6 shows_all src_slc, ⟨rfl, ⟨rfl, ⟨rfl, ⟨rfl, ⟨rfl, ⟨rfl, ⟨rfl, _, fun _ => [.bool a0.fHashed, .own 3 (0 + 1) 0 l5.length, .nils, .int .i64 a0.fNext, .int .i64 a0.fCount], rfl, one_set rfl, (ct ⟨_, si h, rfl, rfl⟩ (tk [0, 1, 6, 7, 2, 3, 10] ⟨.p, .p, .p, ⟨⟩⟩ ⟨(nbp rfl), (nb rfl ⟨.b, .g, .g, .i, .i, ⟨⟩⟩), gh, gh, (nb rfl ⟨.b, .o, .g, .i, .i, ⟨⟩⟩), nw, gh, ⟨⟩⟩))⟩⟩⟩⟩⟩⟩⟩⟩)⟩⟩
 rintro _ _ ⟨l1, rfl, rfl, rfl⟩
 replace h := hk4
 obtain ⟨o8, ho9, hk10⟩ := bd h
 replace h := ho9
 refine .cut (fun σ η => ∃ l7, l7 = o8 ∧ σ = [(2, .optr 0 0 0 0), (3, .optr 3 0 0 0)] ∧ η = [.row 0 5 1 27 (fun _ => [.bool false, .own 1 0 0 ([] : List Int).length, .own 2 0 0 ([] : List TSlot).length, .int .i64 0, .int .i64 0]), .row 0 1 ([] : List Int).length 3 (row cI ([] : List Int)), .row 0 10 ([] : List TSlot).length 80 (row TSlot.cells ([] : List TSlot)), .row 0 5 1 27 (fun _ => [.bool a0.fHashed, .own 4 0 0 l1.length, .own 5 0 0 l7.length, .int .i64 a0.fNext, .int .i64 a0.fCount]), .row 0 1 l1.length 3 (row cI l1), .row 0 10 l7.length 80 (row TSlot.cells l7)]) ?_ ?_
 refine .d ⟨rfl, ⟨rfl, _, rfl, ?_⟩⟩
 refine le (m_i_copyTable_L2.partial_correctness a0 (motive := fun l11 y12 o22 => o8 = o22 → LoopAt _ _ [(2, .optr 0 0 0 0), (3, .optr 3 0 0 0), (18, sl 10 TSlot.cells a0.fSlots), (19, .int .i64 (a0.fSlots.length : Int)), (20, .int .i64 y12)] [.row 0 5 1 27 (fun _ => [.bool false, .own 1 0 0 ([] : List Int).length, .own 2 0 0 ([] : List TSlot).length, .int .i64 0, .int .i64 0]), .row 0 1 ([] : List Int).length 3 (row cI ([] : List Int)), .row 0 10 ([] : List TSlot).length 80 (row TSlot.cells ([] : List TSlot)), .row 0 5 1 27 (fun _ => [.bool a0.fHashed, .own 4 0 0 l1.length, .own 5 0 0 l11.length, .int .i64 a0.fNext, .int .i64 a0.fCount]), .row 0 1 l1.length 3 (row cI l1), .row 0 10 l11.length 80 (row TSlot.cells l11)]) ?_ ([] : List TSlot) 0 o8 h rfl) (tk [1, 2, 3, 4, 5, 6] ⟨.p, .p, .l, .i, .i, ⟨⟩⟩ ⟨(nb rfl ⟨.b, .o, .o, .i, .i, ⟨⟩⟩), nw, nw, (nb rfl ⟨.b, .o, .o, .i, .i, ⟨⟩⟩), nw, nw, ⟨⟩⟩)
 intro F14 ih13 l11 y12 o22 h hr23
 subst hr23
 refine LoopAt.round (.d (.d (sD h (fun hb15 h => ?_) (fun hb15 h => ?_))))
 refine .d (.d (bk h fun x16 hx17 h => ⟨idx_bd hx17, _, (idx_row hx17).trans (TSlot.cells_eq x16), ⟨rfl, _, fun _ => [.bool x16.fKey.fText, .int .i64 x16.fKey.fNum, .str x16.fKey.fStr, .int .i64 x16.fVal.fKind, .int .i64 x16.fVal.fNum, .str x16.fVal.fStr, .int .i64 x16.fVal.fNext, sl 8 TEntry.cells x16.fVal.fItems, .bool x16.fLive, .int .i64 x16.fLink], rfl, one_set rfl, (.d ⟨rfl, ⟨rfl, _, rfl, (bk h fun v18 hv19 h => (pcP (ok46 hv19) ⟨rfl, ⟨rfl, _, fun _ => [.bool x16.fKey.fText, .int .i64 x16.fKey.fNum, .str x16.fKey.fStr, .int .i64 v18.fKind, .int .i64 v18.fNum, .str v18.fStr, .int .i64 v18.fNext, sl 8 TEntry.cells v18.fItems, .bool x16.fLive, .int .i64 x16.fLink], rfl, one_set rfl, ⟨rfl, ⟨rfl, _, rfl, ⟨rfl, _, rfl, ?_⟩⟩⟩⟩⟩))⟩⟩)⟩⟩))
 exact ⟨row TSlot.cells ([(TSlot.mk x16.fKey v18 x16.fLive x16.fLink)] : List TSlot), row_lit TSlot.cells ([(TSlot.mk x16.fKey v18 x16.fLive x16.fLink)] : List TSlot) rfl (cll_refl rfl), (bk h fun l20 hx21 h => ⟨rfl, rfl, lapp_bd hx21, l20.length, row TSlot.cells l20, lapp_len hx21, lapp_row hx21 shows_all (src_own shows_all), ⟨rfl, ⟨rfl, _, fun _ => [.bool a0.fHashed, .own 4 0 0 l1.length, .own 5 (0 + 1) 0 l20.length, .int .i64 a0.fNext, .int .i64 a0.fCount], rfl, one_set rfl, (lg (ih13 _ _ _ h rfl) (tk [0, 1, 2, 3, 4, 5] ⟨.p, .p, .l, .i, .i, ⟨⟩⟩ ⟨(nb rfl ⟨.b, .o, .o, .i, .i, ⟨⟩⟩), nw, nw, (nb rfl ⟨.b, .o, .o, .i, .i, ⟨⟩⟩), nw, nw, ⟨⟩⟩))⟩⟩⟩)⟩
 exact ct ⟨_, si h, rfl, rfl⟩ (tk [0, 1, 2, 3, 4, 5] ⟨.p, .p, ⟨⟩⟩ ⟨(nb rfl ⟨.b, .o, .o, .i, .i, ⟨⟩⟩), nw, nw, (nb rfl ⟨.b, .o, .o, .i, .i, ⟨⟩⟩), nw, nw, ⟨⟩⟩)
 rintro _ _ ⟨l7, rfl, rfl, rfl⟩
 replace h := hk10
 refine .d ⟨rfl, _, rfl, ⟨rfl, _, fun _ => [.bool a0.fHashed, .own 4 0 0 l1.length, .own 5 0 0 l7.length, .int .i64 a0.fNext, .int .i64 a0.fCount], rfl, one_set rfl, ?_⟩⟩
 obtain rfl := si h
 exact ⟨rfl, _, rfl, (en [4, 5] ⟨rfl, rfl⟩ (.agg_l ⟨.b, .o, .o, .i, .i, ⟨⟩⟩) ⟨nw, nw, ⟨⟩⟩)⟩
def m_i_TableSet (a0 : TTable) (a1 : TKey) (a2 : TValue) : Option (TTable × Bool) :=
 m_i_copyTable a0 >>= fun v1 =>
 m_i_IsTable a0 >>= fun v3 =>
 (if v3 = true then
 m55 a1 >>= fun v6 =>
 (if v6 = true then
 m_i_slotOf v1 a1 >>= fun v9 =>
 (if v9 < 0 then
 (if v1.fCount = 1024 then
 some (v1, false)
 else
 m46 a2 >>= fun v13 =>
 m_i_putSlot v1 a1 v13 >>= fun v15 =>
 some (v15, true))
 else
 m46 a2 >>= fun v17 =>
 m_i_putSlot v1 a1 v17 >>= fun v19 =>
 some (v19, true))
 else
 some (v1, false))
 else
 some (v1, false))
theorem ok_i_TableSet {a0 : TTable} {a1 : TKey} {a2 : TValue} {r : TTable × Bool} (h : m_i_TableSet a0 a1 a2 = some r) : ACall Tryz.prog 8 [.agg a0.lit, .agg a1.lit, .agg a2.lit] [] (fun res h => res = .tup [.agg r.1.lit, .bool r.2] ∧ h = []) := by
 refine vc1 Tryz.func8 ?_
 unfold m_i_TableSet at h
 refine .d (.d ⟨rfl, _, rfl, (bk h fun v1 hv2 h => (pcF (ok_i_copyTable hv2) (.agg [.bool v1.fHashed, .own 4 0 0 v1.fHeads.length, .own 5 0 0 v1.fSlots.length, .int .i64 v1.fNext, .int .i64 v1.fCount]) [.row 0 5 1 27 (fun _ => a0.lit), .row 0 3 1 29 (fun _ => a1.lit), .row 0 5 1 32 (fun _ => a2.lit), .row 0 5 1 27 (fun _ => [.bool false, .nils, .nils, .int .i64 0, .int .i64 0]), .row 0 1 v1.fHeads.length 3 (row cI v1.fHeads), .row 0 10 v1.fSlots.length 80 (row TSlot.cells v1.fSlots)] ⟨rfl, _, fun _ => [.bool v1.fHashed, .own 4 0 0 v1.fHeads.length, .own 5 0 0 v1.fSlots.length, .int .i64 v1.fNext, .int .i64 v1.fCount], rfl, one_set rfl, (.d (.d ⟨rfl, _, rfl, (bk h fun v3 hv4 h => (pcP (ok_i_IsTable hv4) (sVn h (fun hb5 h => ?_) (fun hb5 h => ?_))))⟩))⟩))⟩)
 refine .t (.t (.t (.t (.d ⟨rfl, _, rfl, ⟨rfl, _, fun _ => [.bool v1.fHashed, .own 4 0 0 v1.fHeads.length, .own 5 0 0 v1.fSlots.length, .int .i64 v1.fNext, .int .i64 v1.fCount], rfl, one_set rfl, ?_⟩⟩))))
 obtain rfl := si h
 exact ⟨rfl, _, rfl, (en [] ⟨rfl, rfl⟩ (.tup_l ⟨.agg_l ⟨.b, .r, .r, .i, .i, ⟨⟩⟩, .b, ⟨⟩⟩) ⟨⟩)⟩
 refine ⟨rfl, _, rfl, (.f (bk h fun v6 hv7 h => (pcP (ok55 hv7) (.f (.f (sVn h (fun hb8 h => ?_) (fun hb8 h => ?_)))))))⟩
 refine .d ⟨rfl, _, rfl, ⟨rfl, _, fun _ => [.bool v1.fHashed, .own 4 0 0 v1.fHeads.length, .own 5 0 0 v1.fSlots.length, .int .i64 v1.fNext, .int .i64 v1.fCount], rfl, one_set rfl, ?_⟩⟩
 obtain rfl := si h
 exact ⟨rfl, _, rfl, (en [] ⟨rfl, rfl⟩ (.tup_l ⟨.agg_l ⟨.b, .r, .r, .i, .i, ⟨⟩⟩, .b, ⟨⟩⟩) ⟨⟩)⟩
 refine .d ⟨rfl, _, rfl, ⟨rfl, _, rfl, (bk h fun v9 hv10 h => (pcS (ok_i_slotOf hv10) ⟨.agg_l ⟨.b, .r, .r, .i, .i, ⟨⟩⟩, .agg_l ⟨.b, .i, .s, ⟨⟩⟩, ⟨⟩⟩ (.d (.d (sD h (fun hb11 h => ?_) (fun hb11 h => ?_))))))⟩⟩
 refine ⟨rfl, (.t ⟨rfl, _, rfl, (.t (.t (sE h (fun hb12 h => ?_) (fun hb12 h => ?_))))⟩)⟩
 refine .d ⟨rfl, _, rfl, ⟨rfl, _, fun _ => [.bool v1.fHashed, .own 4 0 0 v1.fHeads.length, .own 5 0 0 v1.fSlots.length, .int .i64 v1.fNext, .int .i64 v1.fCount], rfl, one_set rfl, ?_⟩⟩
 obtain rfl := si h
 exact ⟨rfl, _, rfl, (en [] ⟨rfl, rfl⟩ (.tup_l ⟨.agg_l ⟨.b, .r, .r, .i, .i, ⟨⟩⟩, .b, ⟨⟩⟩) ⟨⟩)⟩
 refine .d (.float [(0, true), (1, true), (2, true), (3, false), (4, false), (5, false), (6, true)] (by kernel_rfl) ?_)
 refine ⟨rfl, _, rfl, ⟨rfl, _, rfl, ⟨rfl, _, rfl, (bk h fun v13 hv14 h => (pcP (ok46 hv14) ⟨rfl, ⟨rfl, (bk h fun v15 hv16 h => (pcO (ok_i_putSlot (g1000 := 0) (g1001 := 0) hv16) [4, 5] ⟨ov, ov, ⟨⟩⟩ (.agg [.bool v15.fHashed, .own 7 0 0 v15.fHeads.length, .own 8 0 0 v15.fSlots.length, .int .i64 v15.fNext, .int .i64 v15.fCount]) [.row 0 5 1 27 (fun _ => a0.lit), .row 0 3 1 29 (fun _ => a1.lit), .row 0 5 1 32 (fun _ => a2.lit), .row 0 5 1 27 (fun _ => [.bool false, .nils, .nils, .int .i64 0, .int .i64 0]), .dead, .dead, .row 0 5 1 27 (fun _ => [.bool v1.fHashed, .own 4 0 0 v1.fHeads.length, .own 5 0 0 v1.fSlots.length, .int .i64 v1.fNext, .int .i64 v1.fCount]), .row 0 1 v15.fHeads.length 3 (row cI v15.fHeads), .row 0 10 v15.fSlots.length 80 (row TSlot.cells v15.fSlots)] ⟨rfl, _, fun _ => [.bool v15.fHashed, .own 7 0 0 v15.fHeads.length, .own 8 0 0 v15.fSlots.length, .int .i64 v15.fNext, .int .i64 v15.fCount], rfl, one_set rfl, ?_⟩))⟩⟩))⟩⟩⟩
 obtain rfl := si h
 exact ⟨rfl, _, rfl, (en [] ⟨rfl, rfl⟩ (.tup_l ⟨.agg_l ⟨.b, .r, .r, .i, .i, ⟨⟩⟩, .b, ⟨⟩⟩) ⟨⟩)⟩
 refine .f (.f (.f (.f (.d (.float [(0, true), (1, true), (2, true), (3, false), (4, false), (5, false), (6, true)] (by kernel_rfl) ?_)))))
 refine ⟨rfl, _, rfl, ⟨rfl, _, rfl, ⟨rfl, _, rfl, (bk h fun v17 hv18 h => (pcP (ok46 hv18) ⟨rfl, ⟨rfl, (bk h fun v19 hv20 h => (pcO (ok_i_putSlot (g1000 := 0) (g1001 := 0) hv20) [4, 5] ⟨ov, ov, ⟨⟩⟩ (.agg [.bool v19.fHashed, .own 7 0 0 v19.fHeads.length, .own 8 0 0 v19.fSlots.length, .int .i64 v19.fNext, .int .i64 v19.fCount]) [.row 0 5 1 27 (fun _ => a0.lit), .row 0 3 1 29 (fun _ => a1.lit), .row 0 5 1 32 (fun _ => a2.lit), .row 0 5 1 27 (fun _ => [.bool false, .nils, .nils, .int .i64 0, .int .i64 0]), .dead, .dead, .row 0 5 1 27 (fun _ => [.bool v1.fHashed, .own 4 0 0 v1.fHeads.length, .own 5 0 0 v1.fSlots.length, .int .i64 v1.fNext, .int .i64 v1.fCount]), .row 0 1 v19.fHeads.length 3 (row cI v19.fHeads), .row 0 10 v19.fSlots.length 80 (row TSlot.cells v19.fSlots)] ⟨rfl, _, fun _ => [.bool v19.fHashed, .own 7 0 0 v19.fHeads.length, .own 8 0 0 v19.fSlots.length, .int .i64 v19.fNext, .int .i64 v19.fCount], rfl, one_set rfl, ?_⟩))⟩⟩))⟩⟩⟩
 obtain rfl := si h
 exact ⟨rfl, _, rfl, (en [] ⟨rfl, rfl⟩ (.tup_l ⟨.agg_l ⟨.b, .r, .r, .i, .i, ⟨⟩⟩, .b, ⟨⟩⟩) ⟨⟩)⟩
def m_i_TableDelete (a0 : TTable) (a1 : TKey) : Option (TTable) :=
 m_i_copyTable a0 >>= fun v1 =>
 m_i_IsTable a0 >>= fun v3 =>
 (if v3 = true then
 m_i_slotOf v1 a1 >>= fun v6 =>
 (if v6 ≥ 0 then
 idx v1.fSlots v6 >>= fun x9 =>
 idx (v1.fSlots.set v6.toNat (TSlot.mk x9.fKey x9.fVal false x9.fLink)) v6 >>= fun x11 =>
 some (TTable.mk v1.fHashed v1.fHeads ((v1.fSlots.set v6.toNat (TSlot.mk x9.fKey x9.fVal false x9.fLink)).set v6.toNat (TSlot.mk x11.fKey (TValue.mk 0 0 [] 0 []) x11.fLive x11.fLink)) v1.fNext (W64 (v1.fCount - 1)))
 else
 some v1)
 else
 some v1)
theorem ok_i_TableDelete {a0 : TTable} {a1 : TKey} {r : TTable} (h : m_i_TableDelete a0 a1 = some r) : ACall Tryz.prog 15 [.agg a0.lit, .agg a1.lit] [] (fun res h => res = .agg r.lit ∧ h = []) := by
 refine vc1 Tryz.func15 ?_
 unfold m_i_TableDelete at h
 refine .d (.d ⟨rfl, _, rfl, (bk h fun v1 hv2 h => (pcF (ok_i_copyTable hv2) (.agg [.bool v1.fHashed, .own 3 0 0 v1.fHeads.length, .own 4 0 0 v1.fSlots.length, .int .i64 v1.fNext, .int .i64 v1.fCount]) [.row 0 5 1 27 (fun _ => a0.lit), .row 0 3 1 29 (fun _ => a1.lit), .row 0 5 1 27 (fun _ => [.bool false, .nils, .nils, .int .i64 0, .int .i64 0]), .row 0 1 v1.fHeads.length 3 (row cI v1.fHeads), .row 0 10 v1.fSlots.length 80 (row TSlot.cells v1.fSlots)] ⟨rfl, _, fun _ => [.bool v1.fHashed, .own 3 0 0 v1.fHeads.length, .own 4 0 0 v1.fSlots.length, .int .i64 v1.fNext, .int .i64 v1.fCount], rfl, one_set rfl, (.d (.d ⟨rfl, _, rfl, (bk h fun v3 hv4 h => (pcP (ok_i_IsTable hv4) (sVn h (fun hb5 h => ?_) (fun hb5 h => ?_))))⟩))⟩))⟩)
 refine .d ⟨rfl, _, rfl, ⟨rfl, _, fun _ => [.bool v1.fHashed, .own 3 0 0 v1.fHeads.length, .own 4 0 0 v1.fSlots.length, .int .i64 v1.fNext, .int .i64 v1.fCount], rfl, one_set rfl, ?_⟩⟩
 obtain rfl := si h
 exact ⟨rfl, _, rfl, (en [] ⟨rfl, rfl⟩ (.agg_l ⟨.b, .r, .r, .i, .i, ⟨⟩⟩) ⟨⟩)⟩
 refine .d ⟨rfl, _, rfl, ⟨rfl, _, rfl, (bk h fun v6 hv7 h => (pcS (ok_i_slotOf hv7) ⟨.agg_l ⟨.b, .r, .r, .i, .i, ⟨⟩⟩, .agg_l ⟨.b, .i, .s, ⟨⟩⟩, ⟨⟩⟩ (.d (.d (sD h (fun hb8 h => ?_) (fun hb8 h => ?_))))))⟩⟩
 refine .d ⟨rfl, ⟨rfl, _, rfl, (bk h fun x9 hx10 h => ⟨rfl, idx_bd hx10, _, Nat.zero_add _, ⟨rfl, ⟨rfl, _, row TSlot.cells (v1.fSlots.set v6.toNat (TSlot.mk x9.fKey x9.fVal false x9.fLink)), ((idx_row hx10).trans (TSlot.cells_eq x9)), row_set (idx_lt hx10) (TSlot.cells_eq (TSlot.mk x9.fKey x9.fVal false x9.fLink)) ⟨.same _, .same _, .same _, .same _, .same _, .same _, .same _, .same _, .same _, .same _, trivial⟩, (.d ⟨rfl, ⟨rfl, _, rfl, (bk h fun x11 hx12 h => ⟨rfl, (by have hq := idx_bd hx12; simp only [List.length_set] at hq; exact hq), _, Nat.zero_add _, ⟨rfl, ⟨rfl, _, row TSlot.cells ((v1.fSlots.set v6.toNat (TSlot.mk x9.fKey x9.fVal false x9.fLink)).set v6.toNat (TSlot.mk x11.fKey (TValue.mk 0 0 [] 0 []) x11.fLive x11.fLink)), ((idx_row hx12).trans (TSlot.cells_eq x11)), row_set (idx_lt hx12) (TSlot.cells_eq (TSlot.mk x11.fKey (TValue.mk 0 0 [] 0 []) x11.fLive x11.fLink)) ⟨.same _, .same _, .same _, .same _, .same _, .same _, .same _, .nil _ _, .same _, .same _, trivial⟩, ⟨rfl, ?_⟩⟩⟩⟩)⟩⟩)⟩⟩⟩)⟩⟩
 refine ⟨rfl, _, rfl, ⟨rfl, ⟨rfl, _, fun _ => [.bool v1.fHashed, .own 3 0 0 v1.fHeads.length, .own 4 0 0 v1.fSlots.length, .int .i64 v1.fNext, .int .i64 (W64 (v1.fCount - 1))], rfl, one_set rfl, (.d ⟨rfl, _, rfl, ⟨rfl, _, fun _ => [.bool v1.fHashed, .own 3 0 0 v1.fHeads.length, .own 4 0 0 v1.fSlots.length, .int .i64 v1.fNext, .int .i64 (W64 (v1.fCount - 1))], rfl, one_set rfl, ?_⟩⟩)⟩⟩⟩
 obtain rfl := si h
 exact ⟨rfl, _, rfl, (en [] ⟨rfl, rfl⟩ (.agg_l ⟨.b, .r, (.rx ln), .i, .i, ⟨⟩⟩) ⟨⟩)⟩
 refine .d ⟨rfl, _, rfl, ⟨rfl, _, fun _ => [.bool v1.fHashed, .own 3 0 0 v1.fHeads.length, .own 4 0 0 v1.fSlots.length, .int .i64 v1.fNext, .int .i64 v1.fCount], rfl, one_set rfl, ?_⟩⟩
 obtain rfl := si h
 exact ⟨rfl, _, rfl, (en [] ⟨rfl, rfl⟩ (.agg_l ⟨.b, .r, .r, .i, .i, ⟨⟩⟩) ⟨⟩)⟩
def m_i_Rebuild (a0 : TTable) : Option (TTable) :=
 m_i_copyTable a0 >>= fun v1 =>
 m_i_IsTable a0 >>= fun v3 =>
 (if v3 = true then
 (if a0.fCount ≥ 1024 then
 some v1
 else
 m_i_rebuilt v1 >>= fun v7 =>
 some v7)
 else
 some v1)
theorem ok_i_Rebuild {a0 : TTable} {r : TTable} (h : m_i_Rebuild a0 = some r) : ACall Tryz.prog 16 [.agg a0.lit] [] (fun res h => res = .agg r.lit ∧ h = []) := by
 refine vc1 Tryz.func16 ?_
 unfold m_i_Rebuild at h
 refine .d (.d ⟨rfl, _, rfl, (bk h fun v1 hv2 h => (pcF (ok_i_copyTable hv2) (.agg [.bool v1.fHashed, .own 2 0 0 v1.fHeads.length, .own 3 0 0 v1.fSlots.length, .int .i64 v1.fNext, .int .i64 v1.fCount]) [.row 0 5 1 27 (fun _ => a0.lit), .row 0 5 1 27 (fun _ => [.bool false, .nils, .nils, .int .i64 0, .int .i64 0]), .row 0 1 v1.fHeads.length 3 (row cI v1.fHeads), .row 0 10 v1.fSlots.length 80 (row TSlot.cells v1.fSlots)] ⟨rfl, _, fun _ => [.bool v1.fHashed, .own 2 0 0 v1.fHeads.length, .own 3 0 0 v1.fSlots.length, .int .i64 v1.fNext, .int .i64 v1.fCount], rfl, one_set rfl, (.d (.d ⟨rfl, _, rfl, (bk h fun v3 hv4 h => (pcP (ok_i_IsTable hv4) (sVn h (fun hb5 h => ?_) (fun hb5 h => ?_))))⟩))⟩))⟩)
 refine .t (.t (.t (.t (.d ⟨rfl, _, rfl, ⟨rfl, _, fun _ => [.bool v1.fHashed, .own 2 0 0 v1.fHeads.length, .own 3 0 0 v1.fSlots.length, .int .i64 v1.fNext, .int .i64 v1.fCount], rfl, one_set rfl, ?_⟩⟩))))
 obtain rfl := si h
 exact ⟨rfl, _, rfl, (en [] ⟨rfl, rfl⟩ (.agg_l ⟨.b, .r, .r, .i, .i, ⟨⟩⟩) ⟨⟩)⟩
 refine ⟨rfl, (.f ⟨rfl, _, rfl, (.f (.f (sD h (fun hb6 h => ?_) (fun hb6 h => ?_))))⟩)⟩
 refine .d ⟨rfl, _, rfl, ⟨rfl, _, fun _ => [.bool v1.fHashed, .own 2 0 0 v1.fHeads.length, .own 3 0 0 v1.fSlots.length, .int .i64 v1.fNext, .int .i64 v1.fCount], rfl, one_set rfl, ?_⟩⟩
 obtain rfl := si h
 exact ⟨rfl, _, rfl, (en [] ⟨rfl, rfl⟩ (.agg_l ⟨.b, .r, .r, .i, .i, ⟨⟩⟩) ⟨⟩)⟩
 refine .d ⟨rfl, _, rfl, (bk h fun v7 hv8 h => (pcO (ok_i_rebuilt (g1000 := 0) (g1001 := 0) hv8) [2, 3] ⟨ov, ov, ⟨⟩⟩ (.agg [.bool v7.fHashed, .own 5 0 0 v7.fHeads.length, .own 6 0 0 v7.fSlots.length, .int .i64 v7.fNext, .int .i64 v7.fCount]) [.row 0 5 1 27 (fun _ => a0.lit), .row 0 5 1 27 (fun _ => [.bool false, .nils, .nils, .int .i64 0, .int .i64 0]), .dead, .dead, .row 0 5 1 27 (fun _ => [.bool v1.fHashed, .own 2 0 0 v1.fHeads.length, .own 3 0 0 v1.fSlots.length, .int .i64 v1.fNext, .int .i64 v1.fCount]), .row 0 1 v7.fHeads.length 3 (row cI v7.fHeads), .row 0 10 v7.fSlots.length 80 (row TSlot.cells v7.fSlots)] ⟨rfl, _, fun _ => [.bool v7.fHashed, .own 5 0 0 v7.fHeads.length, .own 6 0 0 v7.fSlots.length, .int .i64 v7.fNext, .int .i64 v7.fCount], rfl, one_set rfl, ?_⟩))⟩
 obtain rfl := si h
 exact ⟨rfl, _, rfl, (en [] ⟨rfl, rfl⟩ (.agg_l ⟨.b, .r, .r, .i, .i, ⟨⟩⟩) ⟨⟩)⟩
end Go.Am
