/- Models of Go functions, and their walks. (Printed by tools/mg.py.) -/
import Derived.Test.YtgkniabpdgaoiaaGreatDoorF3
set_option linter.unusedVariables false
set_option linter.unusedSimpArgs false
set_option maxRecDepth 100000
namespace Go.Am
open Go Go.RowKit Go.Proofs
def m_s_HashText_L2 (a0 : Str) (y5 : Int) (y6 : Int) : Option (Int) :=
 (if y6 < (a0.length : Int) then
 sidx a0 y6 >>= fun c10 =>
 m_s_HashText_L2 a0 ((W64 ((W64 ((W64 (y5 * 1000003)) + (W64 ((c10.toNat : Int))))) + 13)).tmod 2147483647) (W64 (y6 + 1))
 else
 some y5)
partial_fixpoint
def m_s_HashText (a0 : Str) : Option (Int) :=
 (
 m_s_HashText_L2 a0 11 0
 : Option (Int)) >>= fun y1 =>
 some y1
theorem ok_s_HashText {a0 : Str} {r : Int} (h : m_s_HashText a0 = some r) : ACall Tryz.prog 95 [.str a0] [] (fun res h => res = .int .i64 r ∧ h = []) := by
 refine vc1 Tryz.func95 ?_
 unfold m_s_HashText at h
 refine .d (.d ?_)
 obtain ⟨o2, ho3, hk4⟩ := bd h
 replace h := ho3
 refine .cut (fun σ η => ∃ y1, y1 = o2 ∧ σ = [(3, .int .i64 y1)] ∧ η = []) ?_ ?_
 refine .d ?_
 refine le (m_s_HashText_L2.partial_correctness a0 (motive := fun y5 y6 o12 => o2 = o12 → LoopAt _ _ [(0, .str a0), (3, .int .i64 y5), (4, .int .i64 y6)] []) ?_ 11 0 o2 h rfl) (tk [] ⟨.s, .i, .i, ⟨⟩⟩ ⟨⟩)
 intro F8 ih7 y5 y6 o12 h hr13
 subst hr13
 refine LoopAt.round (.d (.d (sD h (fun hb9 h => ?_) (fun hb9 h => ?_))))
 exact .d (bk h fun c10 hx11 h => ⟨sidx_bd hx11, c10, sidx_at hx11, ⟨by decide, (lg (ih7 _ _ _ h rfl) (tk [] ⟨.s, .i, .i, ⟨⟩⟩ ⟨⟩))⟩⟩)
 exact ct ⟨_, si h, rfl, rfl⟩ (tk [] ⟨.i, ⟨⟩⟩ ⟨⟩)
 rintro _ _ ⟨y1, rfl, rfl, rfl⟩
 replace h := hk4
 exact .d (eI h)
def m_s_Mod (a0 : Int) (a1 : Int) : Option (Int) :=
 m53 a1 1 1000000000000 >>= fun v1 =>
 (if v1 = true then
 must (a1 ≠ 0) >>= fun _ =>
 must (a1 ≠ 0) >>= fun _ =>
 some ((W64 ((a0.tmod a1) + a1)).tmod a1)
 else
 some 0)
theorem ok_s_Mod {a0 : Int} {a1 : Int} {r : Int} (h : m_s_Mod a0 a1 = some r) : ACall Tryz.prog 96 [.int .i64 a0, .int .i64 a1] [] (fun res h => res = .int .i64 r ∧ h = []) := by
 refine vc1 Tryz.func96 ?_
 unfold m_s_Mod at h
 refine .d (.d (.d (bk h fun v1 hv2 h => (pcP (ok53 hv2) (sVn h (fun hb3 h => ?_) (fun hb3 h => ?_))))))
 exact .d (eI h)
 refine .d ?_
 obtain ⟨_, hm4, h⟩ := bd h
 refine ⟨must_some hm4, ?_⟩
 obtain ⟨_, hm5, h⟩ := bd h
 exact ⟨must_some hm5, (eI h)⟩
def m_s_KeyHash (a0 : TKey) : Option (Int) :=
 (if a0.fText = true then
 m_s_HashText a0.fStr >>= fun v2 =>
 some v2
 else
 m_s_Mod a0.fNum 2147483647 >>= fun v4 =>
 some v4)
theorem ok_s_KeyHash {a0 : TKey} {r : Int} (h : m_s_KeyHash a0 = some r) : ACall Tryz.prog 44 [.agg a0.lit] [] (fun res h => res = .int .i64 r ∧ h = []) := by
 refine vc1 Tryz.func44 ?_
 unfold m_s_KeyHash at h
 refine .d (.d (.d ⟨rfl, ⟨rfl, _, rfl, (sV h (fun hb1 h => ?_) (fun hb1 h => ?_))⟩⟩))
 exact .d ⟨rfl, ⟨rfl, _, rfl, (bk h fun v2 hv3 h => (pcP (ok_s_HashText hv3) (eI h)))⟩⟩
 exact .d ⟨rfl, ⟨rfl, _, rfl, (bk h fun v4 hv5 h => (pcP (ok_s_Mod hv5) (eI h)))⟩⟩
def m_s_l7Zero (a0 : TValue) : Option (Bool) :=
 (if a0.fKind = 0 then
 (if a0.fNum = 0 then
 (if a0.fStr = ([] : Str) then
 (if a0.fNext = 0 then
 some ((a0.fItems.length : Int) == 0)
 else
 some false)
 else
 some false)
 else
 some false)
 else
 some false)
theorem ok_s_l7Zero {a0 : TValue} {r : Bool} (h : m_s_l7Zero a0 = some r) : ACall Tryz.prog 45 [.agg a0.lit] [] (fun res h => res = .bool r ∧ h = []) := by
 refine vc1 Tryz.func45 ?_
 unfold m_s_l7Zero at h
 refine .d (.d ⟨rfl, ⟨rfl, _, rfl, (sE h (fun hb1 h => ?_) (fun hb1 h => ?_))⟩⟩)
 refine ⟨rfl, (.t ⟨rfl, _, rfl, (.t (.t (sE h (fun hb2 h => ?_) (fun hb2 h => ?_))))⟩)⟩
 refine ⟨rfl, (.t ⟨rfl, _, rfl, (.t (.t (sE h (fun hb3 h => ?_) (fun hb3 h => ?_))))⟩)⟩
 refine ⟨rfl, (.t ⟨rfl, _, rfl, (.t (.t (sE h (fun hb4 h => ?_) (fun hb4 h => ?_))))⟩)⟩
 exact ⟨rfl, (.t ⟨rfl, _, rfl, (.t (.t (.t (eB h))))⟩)⟩
 exact .f (.f (.f (.f (eB h))))
 exact .f (.f (.f (.f (.f (.f (.f (.f (eB h))))))))
 exact .f (.f (.f (.f (.f (.f (.f (.f (.f (.f (.f (.f (eB h))))))))))))
 refine .f (.f (.f (.f (.f (.f (.f (.f (.f (.f (.f (.f (.f (.f (.f ?_))))))))))))))
 exact .f (eB h)
def m_i_HashText_L2 (a0 : Str) (y5 : Int) (y6 : Int) : Option (Int) :=
 (if y6 < (a0.length : Int) then
 sidx a0 y6 >>= fun c10 =>
 m_i_HashText_L2 a0 ((W64 ((W64 ((W64 (y5 * 1000003)) + (W64 ((c10.toNat : Int))))) + 13)).tmod 2147483647) (W64 (y6 + 1))
 else
 some y5)
partial_fixpoint
def m_i_HashText (a0 : Str) : Option (Int) :=
 (
 m_i_HashText_L2 a0 11 0
 : Option (Int)) >>= fun y1 =>
 some y1
theorem ok_i_HashText {a0 : Str} {r : Int} (h : m_i_HashText a0 = some r) : ACall Tryz.prog 117 [.str a0] [] (fun res h => res = .int .i64 r ∧ h = []) := by
 refine vc1 Tryz.func117 ?_
 unfold m_i_HashText at h
 refine .d (.d ?_)
 obtain ⟨o2, ho3, hk4⟩ := bd h
 replace h := ho3
 refine .cut (fun σ η => ∃ y1, y1 = o2 ∧ σ = [(3, .int .i64 y1)] ∧ η = []) ?_ ?_
 refine .d ?_
 refine le (m_i_HashText_L2.partial_correctness a0 (motive := fun y5 y6 o12 => o2 = o12 → LoopAt _ _ [(0, .str a0), (3, .int .i64 y5), (4, .int .i64 y6)] []) ?_ 11 0 o2 h rfl) (tk [] ⟨.s, .i, .i, ⟨⟩⟩ ⟨⟩)
 intro F8 ih7 y5 y6 o12 h hr13
 subst hr13
 refine LoopAt.round (.d (.d (sD h (fun hb9 h => ?_) (fun hb9 h => ?_))))
 exact .d (bk h fun c10 hx11 h => ⟨sidx_bd hx11, c10, sidx_at hx11, ⟨by decide, (lg (ih7 _ _ _ h rfl) (tk [] ⟨.s, .i, .i, ⟨⟩⟩ ⟨⟩))⟩⟩)
 exact ct ⟨_, si h, rfl, rfl⟩ (tk [] ⟨.i, ⟨⟩⟩ ⟨⟩)
 rintro _ _ ⟨y1, rfl, rfl, rfl⟩
 replace h := hk4
 exact .d (eI h)
def m_i_Mod (a0 : Int) (a1 : Int) : Option (Int) :=
 (if a1 < 1 then
 some 0
 else
 (if a1 > 1000000000000 then
 some 0
 else
 must (a1 ≠ 0) >>= fun _ =>
 (if (a0.tmod a1) < 0 then
 some (W64 ((a0.tmod a1) + a1))
 else
 some (a0.tmod a1))))
theorem ok_i_Mod {a0 : Int} {a1 : Int} {r : Int} (h : m_i_Mod a0 a1 = some r) : ACall Tryz.prog 89 [.int .i64 a0, .int .i64 a1] [] (fun res h => res = .int .i64 r ∧ h = []) := by
 refine vc1 Tryz.func89 ?_
 unfold m_i_Mod at h
 refine .d (.d (.d (sD h (fun hb1 h => ?_) (fun hb1 h => ?_))))
 exact .t (.t (.t (.d (eI h))))
 refine .f (.f (sD h (fun hb2 h => ?_) (fun hb2 h => ?_)))
 exact .d (eI h)
 refine .d ?_
 obtain ⟨_, hm3, h⟩ := bd h
 refine ⟨must_some hm3, (.d (.d (sD h (fun hb4 h => ?_) (fun hb4 h => ?_))))⟩
 exact .d (eI h)
 exact .d (eI h)
def m_i_KeyHash (a0 : TKey) : Option (Int) :=
 (if a0.fText = true then
 m_i_HashText a0.fStr >>= fun v2 =>
 some v2
 else
 m_i_Mod a0.fNum 2147483647 >>= fun v4 =>
 some v4)
theorem ok_i_KeyHash {a0 : TKey} {r : Int} (h : m_i_KeyHash a0 = some r) : ACall Tryz.prog 90 [.agg a0.lit] [] (fun res h => res = .int .i64 r ∧ h = []) := by
 refine vc1 Tryz.func90 ?_
 unfold m_i_KeyHash at h
 refine .d (.d (.d ⟨rfl, ⟨rfl, _, rfl, (sV h (fun hb1 h => ?_) (fun hb1 h => ?_))⟩⟩))
 exact .d ⟨rfl, ⟨rfl, _, rfl, (bk h fun v2 hv3 h => (pcP (ok_i_HashText hv3) (eI h)))⟩⟩
 exact .d ⟨rfl, ⟨rfl, _, rfl, (bk h fun v4 hv5 h => (pcP (ok_i_Mod hv5) (eI h)))⟩⟩
def m_i_NewTable : Option (TTable) :=
 some (TTable.mk false [] [] 0 0)
theorem ok_i_NewTable {r : TTable} (h : m_i_NewTable  = some r) : ACall Tryz.prog 102 [] [] (fun res h => res = .agg r.lit ∧ h = []) := by
 refine vc1 Tryz.func102 ?_
 unfold m_i_NewTable at h
 refine .d (.d ⟨rfl, _, fun _ => [.bool false, .nils, .nils, .int .i64 0, .int .i64 0], rfl, one_set rfl, ?_⟩)
 obtain rfl := si h
 exact ⟨rfl, _, rfl, (en [] ⟨rfl, rfl⟩ (.agg_l ⟨.b, .z, .z, .i, .i, ⟨⟩⟩) ⟨⟩)⟩
theorem ok_i_NewTablex : ACall Tryz.prog 102 [] [] (fun res h => res = .agg [.bool false, .nils, .nils, .int .i64 0, .int .i64 0] ∧ h = []) := by
 refine vc1 Tryz.func102 ?_
 exact .d (.d ⟨rfl, _, fun _ => [.bool false, .nils, .nils, .int .i64 0, .int .i64 0], rfl, one_set rfl, ⟨rfl, _, rfl, (en [] ⟨rfl, rfl⟩ (.agg_l ⟨.b, .nils, .nils, .i, .i, ⟨⟩⟩) ⟨⟩)⟩⟩)
def m_s_IsTable_L2 (a0 : TTable) (l29 : List Int) (y30 : Int) : Option ((List Int)) :=
 (if y30 < (a0.fHeads.length : Int) then
 idx l29 y30 >>= fun x34 =>
 m_s_IsTable_L2 a0 (l29.set y30.toNat (-1)) (W64 (y30 + 1))
 else
 some l29)
partial_fixpoint
def m_s_IsTable_L28 (a0 : TTable) (x75 : TSlot) (y45 : Int) (y115 : Int) : Option ((Unit) ⊕ ((Int × (List Int) × Bool × Int × Str × Int × Int × Str × Int × (List TEntry) × Bool × Int × Int × Int × Bool × Bool × Bool × Bool × Bool × Bool × Bool × Bool × Bool) ⊕ ((Int × (List Int)) ⊕ Bool))) :=
 (if a0.fHashed = true then
 (if x75.fLive = true then
 (if y115 < y45 then
 idx a0.fSlots y115 >>= fun x121 =>
 (if x121.fLive = true then
 idx a0.fSlots y115 >>= fun x124 =>
 (if x124.fKey = x75.fKey then
 some (.inr (.inr (.inr false)))
 else
 m_s_IsTable_L28 a0 x75 y45 (W64 (y115 + 1)))
 else
 m_s_IsTable_L28 a0 x75 y45 (W64 (y115 + 1)))
 else
 some (.inl ()))
 else
 some (.inl ()))
 else
 some (.inl ()))
partial_fixpoint
def m_s_IsTable_L24 (a0 : TTable) (y43 : Int) (l44 : List Int) (y45 : Int) : Option ((Int × (List Int)) ⊕ Bool) :=
 (if y45 < (a0.fSlots.length : Int) then
 ((
 idx a0.fSlots y45 >>= fun x75 =>
 ((
 (if a0.fHashed = true then
 m_s_KeyHash x75.fKey >>= fun v83 =>
 must ((a0.fHeads.length : Int) ≠ 0) >>= fun _ =>
 idx l44 (v83.tmod (a0.fHeads.length : Int)) >>= fun x86 =>
 idx l44 (v83.tmod (a0.fHeads.length : Int)) >>= fun x88 =>
 some (.inl ((l44.set ((v83.tmod (a0.fHeads.length : Int)).toNat) y45), x86))
 else
 (if x75.fKey = (TKey.mk false y45 []) then
 some (.inl (l44, (-1)))
 else
 some (.inr (.inr (.inr false)))))
 : Option (((List Int) × Int) ⊕ ((Int × (List Int) × Bool × Int × Str × Int × Int × Str × Int × (List TEntry) × Bool × Int × Int × Int × Bool × Bool × Bool × Bool × Bool × Bool × Bool × Bool × Bool) ⊕ ((Int × (List Int)) ⊕ Bool)))) >>= fun o79 => match o79 with
 | .inr r => some r
 | .inl (l77, y78) =>
 ((
 m23 x75.fKey >>= fun v98 =>
 (if v98 = true then
 (if x75.fLink = y78 then
 (if x75.fKey.fText = true then
 (if x75.fLive = true then
 some (.inl (false, false, false, false))
 else
 m_s_l7Zero x75.fVal >>= fun v109 =>
 (if v109 = true then
 some (.inl (false, false, true, (!v109)))
 else
 some (.inr (.inr (.inr false)))))
 else
 (if x75.fKey.fNum ≥ a0.fNext then
 some (.inr (.inr (.inr false)))
 else
 (if x75.fLive = true then
 some (.inl (true, (decide (x75.fKey.fNum ≥ a0.fNext)), false, false))
 else
 m_s_l7Zero x75.fVal >>= fun v105 =>
 (if v105 = true then
 some (.inl (true, (decide (x75.fKey.fNum ≥ a0.fNext)), true, (!v105)))
 else
 some (.inr (.inr (.inr false)))))))
 else
 some (.inr (.inr (.inr false))))
 else
 some (.inr (.inr (.inr false))))
 : Option ((Bool × Bool × Bool × Bool) ⊕ ((Int × (List Int) × Bool × Int × Str × Int × Int × Str × Int × (List TEntry) × Bool × Int × Int × Int × Bool × Bool × Bool × Bool × Bool × Bool × Bool × Bool × Bool) ⊕ ((Int × (List Int)) ⊕ Bool)))) >>= fun o95 => match o95 with
 | .inr r => some r
 | .inl (b91, b92, b93, b94) =>
 ((
 m_s_IsTable_L28 a0 x75 y45 0
 : Option ((Unit) ⊕ ((Int × (List Int) × Bool × Int × Str × Int × Int × Str × Int × (List TEntry) × Bool × Int × Int × Int × Bool × Bool × Bool × Bool × Bool × Bool × Bool × Bool × Bool) ⊕ ((Int × (List Int)) ⊕ Bool)))) >>= fun o112 => match o112 with
 | .inr r => some r
 | .inl _ =>
 (if x75.fLive = true then
 some (.inl (W64 (y43 + 1), l77, x75.fKey.fText, x75.fKey.fNum, x75.fKey.fStr, x75.fVal.fKind, x75.fVal.fNum, x75.fVal.fStr, x75.fVal.fNext, x75.fVal.fItems, x75.fLive, x75.fLink, x75.fLink, y78, (x75.fLink != y78), x75.fKey.fText, (!x75.fKey.fText), b91, b92, x75.fLive, (!x75.fLive), b93, b94))
 else
 some (.inl (y43, l77, x75.fKey.fText, x75.fKey.fNum, x75.fKey.fStr, x75.fVal.fKind, x75.fVal.fNum, x75.fVal.fStr, x75.fVal.fNext, x75.fVal.fItems, x75.fLive, x75.fLink, x75.fLink, y78, (x75.fLink != y78), x75.fKey.fText, (!x75.fKey.fText), b91, b92, x75.fLive, (!x75.fLive), b93, b94)))
 )
 )
 )
 : Option ((Int × (List Int) × Bool × Int × Str × Int × Int × Str × Int × (List TEntry) × Bool × Int × Int × Int × Bool × Bool × Bool × Bool × Bool × Bool × Bool × Bool × Bool) ⊕ ((Int × (List Int)) ⊕ Bool))) >>= fun o72 => match o72 with
 | .inr r => some r
 | .inl (y49, l50, b51, y52, s53, y54, y55, s56, y57, l58, b59, y60, y61, y62, b63, b64, b65, b66, b67, b68, b69, b70, b71) =>
 m_s_IsTable_L24 a0 y49 l50 (W64 (y45 + 1))
 )
 else
 some (.inl (y43, l44)))
partial_fixpoint
def m_s_IsTable_L30 (a0 : TTable) (l39 : List Int) (y135 : Int) : Option ((Unit) ⊕ Bool) :=
 (if y135 < (a0.fHeads.length : Int) then
 idx a0.fHeads y135 >>= fun x139 =>
 idx l39 y135 >>= fun x141 =>
 (if x139 = x141 then
 m_s_IsTable_L30 a0 l39 (W64 (y135 + 1))
 else
 some (.inr false))
 else
 some (.inl ()))
partial_fixpoint
def m_s_IsTable (a0 : TTable) : Option (Bool) :=
 ((
 m53 a0.fNext 0 1000000001 >>= fun v4 =>
 (if v4 = true then
 (if (a0.fSlots.length : Int) > 1024 then
 some (.inr false)
 else
 (if a0.fHashed = true then
 (if a0.fHashed = true then
 m53 (a0.fHeads.length : Int) 8 1024 >>= fun v18 =>
 (if v18 = true then
 (if (bits .and .i64 (a0.fHeads.length : Int) (W64 ((a0.fHeads.length : Int) - 1))) = 0 then
 (if (a0.fSlots.length : Int) > (a0.fHeads.length : Int) then
 some (.inr false)
 else
 some (.inl ()))
 else
 some (.inr false))
 else
 some (.inr false))
 else
 some (.inl ()))
 else
 (if (a0.fHeads.length : Int) > 0 then
 some (.inr false)
 else
 (if (a0.fSlots.length : Int) > a0.fNext then
 some (.inr false)
 else
 (if a0.fHashed = true then
 m53 (a0.fHeads.length : Int) 8 1024 >>= fun v12 =>
 (if v12 = true then
 (if (bits .and .i64 (a0.fHeads.length : Int) (W64 ((a0.fHeads.length : Int) - 1))) = 0 then
 (if (a0.fSlots.length : Int) > (a0.fHeads.length : Int) then
 some (.inr false)
 else
 some (.inl ()))
 else
 some (.inr false))
 else
 some (.inr false))
 else
 some (.inl ()))))))
 else
 some (.inr false))
 : Option ((Unit) ⊕ Bool)) >>= fun o1 => match o1 with
 | .inr r => some r
 | .inl _ =>
 (lmake 8 (a0.fHeads.length : Int) (a0.fHeads.length : Int) : Option (List Int)) >>= fun l23 =>
 (
 m_s_IsTable_L2 a0 l23 0
 : Option ((List Int))) >>= fun l25 =>
 ((
 m_s_IsTable_L24 a0 0 l25 0
 : Option ((Int × (List Int)) ⊕ Bool)) >>= fun o40 => match o40 with
 | .inr r => some r
 | .inl (y38, l39) =>
 ((
 m_s_IsTable_L30 a0 l39 0
 : Option ((Unit) ⊕ Bool)) >>= fun o132 => match o132 with
 | .inr r => some r
 | .inl _ =>
 some (y38 == a0.fCount)
 )
 )
 )
theorem ok_s_IsTable {a0 : TTable} {r : Bool} (h : m_s_IsTable a0 = some r) : ACall Tryz.prog 10 [.agg a0.lit] [] (fun res h => res = .bool r ∧ h = []) := by
 refine vc1 Tryz.func10 ?_
 unfold m_s_IsTable at h
 refine .d (.d ⟨rfl, ⟨rfl, _, rfl, (.d ?_)⟩⟩)
 obtain ⟨o1, ho2, hk3⟩ := bd h
 replace h := ho2
 refine .cut (fun σ η => .inl () = o1 ∧ σ = [(1, .optr 0 0 0 0), (3, .int .i64 (a0.fHeads.length : Int)), (4, .int .i64 0)] ∧ η = [.row 0 5 1 27 (fun _ => a0.lit)]) ?_ ?_
 refine .d ⟨rfl, ⟨rfl, _, rfl, (bk h fun v4 hv5 h => (pcP (ok53 hv5) (sVn h (fun hb6 h => ?_) (fun hb6 h => ?_))))⟩⟩
 refine .t (.t (.t (.t (.t (.t (.t (.t (.t (.t (.t (.t (.t (.t (.t ?_))))))))))))))
 refine .t (.d ?_)
 obtain rfl := si h
 replace h := hk3
 exact eB h
 refine ⟨rfl, (.f ⟨rfl, _, rfl, (.f (.f (.f (sD h (fun hb7 h => ?_) (fun hb7 h => ?_)))))⟩)⟩
 refine .t (.t (.t (.t (.t (.t (.t (.t (.t (.t (.t (.d ?_)))))))))))
 obtain rfl := si h
 replace h := hk3
 exact eB h
 refine ⟨rfl, (.f ⟨rfl, _, rfl, (.f (.f (sVn h (fun hb8 h => ?_) (fun hb8 h => ?_))))⟩)⟩
 refine .t (.t (sD h (fun hb9 h => ?_) (fun hb9 h => ?_)))
 refine .t (.t (.t (.t (.t (.t (.t (.f (.t (.f (.t (.t (.t (.t (.t ?_))))))))))))))
 refine .t (.d ?_)
 obtain rfl := si h
 replace h := hk3
 exact eB h
 refine ⟨rfl, (.f ⟨rfl, _, rfl, (.f (.f ⟨rfl, (.f ⟨rfl, _, rfl, (.f (.t (.f (.f (.t (.f (sD h (fun hb10 h => ?_) (fun hb10 h => ?_))))))))⟩)⟩))⟩)⟩
 refine .t (.t (.t (.t (.t (.d ?_)))))
 obtain rfl := si h
 replace h := hk3
 exact eB h
 refine ⟨rfl, (.f ⟨rfl, _, rfl, (.f (sV h (fun hb11 h => ?_) (fun hb11 h => ?_)))⟩)⟩
 refine .t (bk h fun v12 hv13 h => (pcP (ok53 hv13) (.t (.t (sVn h (fun hb14 h => ?_) (fun hb14 h => ?_))))))
 refine .t (.t (.t (.t (.t (.t (.t (.t (.t (.t (.t (.t (.t (.t (.f ?_))))))))))))))
 refine .t (.f (.t (.d ?_)))
 obtain rfl := si h
 replace h := hk3
 exact eB h
 refine .f (.f (.f (.f (.t (.f (.t (sN h (fun hb15 h => ?_) (fun hb15 h => ?_))))))))
 refine .t (.t (.t (.t (.t (.t (.f (.t (.f (.t (.d ?_))))))))))
 obtain rfl := si h
 replace h := hk3
 exact eB h
 refine ⟨rfl, (.f ⟨rfl, _, rfl, (.f (.f (.f (.t (.f (.f (.t (.f (sD h (fun hb16 h => ?_) (fun hb16 h => ?_))))))))))⟩)⟩
 refine .d ?_
 obtain rfl := si h
 replace h := hk3
 exact eB h
 exact ct ⟨si h, rfl, rfl⟩ (tk [0] ⟨.p, .i, .i, ⟨⟩⟩ ⟨(nbp rfl), ⟨⟩⟩)
 exact .f (.f (.f (.f (.f (.f (.f (.f (.f (.f (ct ⟨si h, rfl, rfl⟩ (tk [0] ⟨.p, .i, .i, ⟨⟩⟩ ⟨(nbp rfl), ⟨⟩⟩)))))))))))
 refine .f (.f (.f (.f (.f (.f (.f ⟨rfl, (.f ⟨rfl, _, rfl, (.f (sV h (fun hb17 h => ?_) (fun hb17 h => ?_)))⟩)⟩))))))
 refine .t (bk h fun v18 hv19 h => (pcP (ok53 hv19) (.t (.t (sVn h (fun hb20 h => ?_) (fun hb20 h => ?_))))))
 refine .t (.t (.t (.t (.t (.t (.t (.t (.t (.t (.t (.t (.t (.t (.f ?_))))))))))))))
 refine .t (.f (.t (.d ?_)))
 obtain rfl := si h
 replace h := hk3
 exact eB h
 refine .f (.f (.f (.f (.t (.f (.t (sN h (fun hb21 h => ?_) (fun hb21 h => ?_))))))))
 refine .t (.t (.t (.t (.t (.t (.f (.t (.f (.t (.d ?_))))))))))
 obtain rfl := si h
 replace h := hk3
 exact eB h
 refine ⟨rfl, (.f ⟨rfl, _, rfl, (.f (.f (.f (.t (.f (.f (.t (.f (sD h (fun hb22 h => ?_) (fun hb22 h => ?_))))))))))⟩)⟩
 refine .d ?_
 obtain rfl := si h
 replace h := hk3
 exact eB h
 exact ct ⟨si h, rfl, rfl⟩ (tk [0] ⟨.p, .i, .i, ⟨⟩⟩ ⟨(nbp rfl), ⟨⟩⟩)
 exact .f (.f (.f (.f (.f (.f (.f (.f (.f (.f (ct ⟨si h, rfl, rfl⟩ (tk [0] ⟨.p, .i, .i, ⟨⟩⟩ ⟨(nbp rfl), ⟨⟩⟩)))))))))))
 rintro _ _ ⟨rfl, rfl, rfl⟩
 replace h := hk3
 refine .d (bk h fun l23 hx24 h => ⟨lmake_bd hx24, l23.length, row cI l23, lmake_len hx24, lmake_row hx24 rfl ⟨.same _, trivial⟩, ?_⟩)
 obtain ⟨o26, ho27, hk28⟩ := bd h
 replace h := ho27
 refine .cut (fun σ η => ∃ l25, l25 = o26 ∧ σ = [(1, .optr 0 0 0 0), (3, .int .i64 (a0.fHeads.length : Int)), (4, .int .i64 0), (5, .own 1 0 0 l25.length)] ∧ η = [.row 0 5 1 27 (fun _ => a0.lit), .row 0 1 l25.length 3 (row cI l25)]) ?_ ?_
 refine .d ?_
 refine le (m_s_IsTable_L2.partial_correctness a0 (motive := fun l29 y30 o36 => o26 = o36 → LoopAt _ _ [(1, .optr 0 0 0 0), (3, .int .i64 (a0.fHeads.length : Int)), (4, .int .i64 0), (5, .own 1 0 0 l29.length), (6, .int .i64 y30)] [.row 0 5 1 27 (fun _ => a0.lit), .row 0 1 l29.length 3 (row cI l29)]) ?_ l23 0 o26 h rfl) (tk [0, 1] ⟨.p, .i, .i, .o, .i, ⟨⟩⟩ ⟨(nbp rfl), nw, ⟨⟩⟩)
 intro F32 ih31 l29 y30 o36 h hr37
 subst hr37
 refine LoopAt.round (.d (.d (sD h (fun hb33 h => ?_) (fun hb33 h => ?_))))
 exact .d (bk h fun x34 hx35 h => ⟨rfl, idx_bd hx35, _, Nat.zero_add _, ⟨rfl, _, row cI (l29.set y30.toNat (-1)), ((idx_row hx35).trans rfl), row_set (idx_lt hx35) rfl ⟨.same _, trivial⟩, (lg (ih31 _ _ _ h rfl) (tk [0, 1] ⟨.p, .i, .i, (.ox ln), .i, ⟨⟩⟩ ⟨(nbp rfl), (nwx rfl ln), ⟨⟩⟩))⟩⟩)
 exact ct ⟨_, si h, rfl, rfl⟩ (tk [0, 1] ⟨.p, .i, .i, .o, ⟨⟩⟩ ⟨(nbp rfl), nw, ⟨⟩⟩)
 rintro _ _ ⟨l25, rfl, rfl, rfl⟩
 replace h := hk28
 obtain ⟨o40, ho41, hk42⟩ := bd h
 replace h := ho41
 refine .cut (fun σ η => ∃ y38, ∃ l39, .inl (y38, l39) = o40 ∧ σ = [(1, .optr 0 0 0 0), (3, .int .i64 (a0.fHeads.length : Int)), (4, .int .i64 y38), (5, .own 1 0 0 l39.length)] ∧ η = [.row 0 5 1 27 (fun _ => a0.lit), .row 0 1 l39.length 3 (row cI l39)]) ?_ ?_
 refine .d ?_
 refine le (m_s_IsTable_L24.partial_correctness a0 (motive := fun y43 l44 y45 o130 => o40 = o130 → LoopAt _ _ [(1, .optr 0 0 0 0), (3, .int .i64 (a0.fHeads.length : Int)), (4, .int .i64 y43), (5, .own 1 0 0 l44.length), (7, .int .i64 y45)] [.row 0 5 1 27 (fun _ => a0.lit), .row 0 1 l44.length 3 (row cI l44)]) ?_ 0 l25 0 o40 h rfl) (tk [0, 1] ⟨.p, .i, .i, .o, .i, ⟨⟩⟩ ⟨(nbp rfl), nw, ⟨⟩⟩)
 intro F47 ih46 y43 l44 y45 o130 h hr131
 subst hr131
 refine LoopAt.round (.d (.d ⟨rfl, ⟨rfl, _, rfl, (sD h (fun hb48 h => ?_) (fun hb48 h => ?_))⟩⟩))
 obtain ⟨o72, ho73, hk74⟩ := bd h
 replace h := ho73
 refine .cut (fun σ η => ∃ y49, ∃ l50, ∃ b51, ∃ y52, ∃ s53, ∃ y54, ∃ y55, ∃ s56, ∃ y57, ∃ l58, ∃ b59, ∃ y60, ∃ y61, ∃ y62, ∃ b63, ∃ b64, ∃ b65, ∃ b66, ∃ b67, ∃ b68, ∃ b69, ∃ b70, ∃ b71, .inl (y49, l50, b51, y52, s53, y54, y55, s56, y57, l58, b59, y60, y61, y62, b63, b64, b65, b66, b67, b68, b69, b70, b71) = o72 ∧ σ = [(1, .optr 0 0 0 0), (3, .int .i64 (a0.fHeads.length : Int)), (4, .int .i64 y49), (5, .own 1 0 0 l50.length), (7, .int .i64 y45), (113, .optr 2 0 0 9), (114, .int .i64 y61), (115, .int .i64 y62), (116, .bool b63), (119, .optr 2 0 0 0), (120, .optr 2 0 0 0), (121, .bool b64), (122, .bool b65), (123, .bool b66), (130, .bool b67), (133, .optr 2 0 0 8), (134, .bool b68), (135, .bool b69), (136, .bool b70), (141, .bool b71)] ∧ η = [.row 0 5 1 27 (fun _ => a0.lit), .row 0 1 l50.length 3 (row cI l50), .row 0 10 1 80 (fun _ => [.bool b51, .int .i64 y52, .str s53, .int .i64 y54, .int .i64 y55, .str s56, .int .i64 y57, sl 8 TEntry.cells l58, .bool b59, .int .i64 y60])]) ?_ ?_
 refine .d ⟨rfl, ⟨rfl, _, rfl, (bk h fun x75 hx76 h => ⟨idx_bd hx76, _, (idx_row hx76).trans (TSlot.cells_eq x75), ⟨rfl, _, fun _ => [.bool x75.fKey.fText, .int .i64 x75.fKey.fNum, .str x75.fKey.fStr, .int .i64 x75.fVal.fKind, .int .i64 x75.fVal.fNum, .str x75.fVal.fStr, .int .i64 x75.fVal.fNext, sl 8 TEntry.cells x75.fVal.fItems, .bool x75.fLive, .int .i64 x75.fLink], rfl, one_set rfl, (.d ?_)⟩⟩)⟩⟩
 obtain ⟨o79, ho80, hk81⟩ := bd h
 replace h := ho80
 refine .cut (fun σ η => ∃ l77, ∃ y78, .inl (l77, y78) = o79 ∧ σ = [(1, .optr 0 0 0 0), (3, .int .i64 (a0.fHeads.length : Int)), (4, .int .i64 y43), (5, .own 1 0 0 l77.length), (7, .int .i64 y45), (8, .optr 2 0 0 0), (9, .int .i64 y78)] ∧ η = [.row 0 5 1 27 (fun _ => a0.lit), .row 0 1 l77.length 3 (row cI l77), .row 0 10 1 80 (fun _ => x75.lit)]) ?_ ?_
 refine .d ⟨rfl, ⟨rfl, _, rfl, (sV h (fun hb82 h => ?_) (fun hb82 h => ?_))⟩⟩
 refine .d ⟨rfl, ⟨rfl, _, rfl, (bk h fun v83 hv84 h => (pcP (ok_s_KeyHash hv84) ?_))⟩⟩
 obtain ⟨_, hm85, h⟩ := bd h
 exact ⟨must_some hm85, (.d (bk h fun x86 hx87 h => ⟨rfl, idx_bd hx87, _, Nat.zero_add _, ⟨rfl, _, ((idx_row hx87).trans rfl), (bk h fun x88 hx89 h => ⟨rfl, idx_bd hx89, _, Nat.zero_add _, ⟨rfl, _, row cI (l44.set ((v83.tmod (a0.fHeads.length : Int)).toNat) y45), ((idx_row hx89).trans rfl), row_set (idx_lt hx89) rfl ⟨.same _, trivial⟩, (ct ⟨_, _, si h, rfl, rfl⟩ (tk [0, 1, 2] ⟨.p, .i, .i, (.ox ln), .i, .p, .i, ⟨⟩⟩ ⟨(nbp rfl), (nwx rfl ln), (nbp rfl), ⟨⟩⟩))⟩⟩)⟩⟩))⟩
 refine .d ⟨rfl, ⟨rfl, _, rfl, ⟨_, TKey.eq_cells x75.fKey (TKey.mk false y45 []), (sDn h (fun hb90 h => ?_) (fun hb90 h => ?_))⟩⟩⟩
 refine .d ?_
 obtain rfl := si h
 replace h := hk81
 obtain rfl := si h
 replace h := hk74
 obtain rfl := si h
 replace h := hk42
 exact eB h
 exact ct ⟨_, _, si h, rfl, rfl⟩ (tk [0, 1, 2] ⟨.p, .i, .i, .o, .i, .p, .i, ⟨⟩⟩ ⟨(nbp rfl), nw, (nbp rfl), ⟨⟩⟩)
 rintro _ _ ⟨l77, y78, rfl, rfl, rfl⟩
 replace h := hk81
 obtain ⟨o95, ho96, hk97⟩ := bd h
 replace h := ho96
 refine .cut (fun σ η => ∃ b91, ∃ b92, ∃ b93, ∃ b94, .inl (b91, b92, b93, b94) = o95 ∧ σ = [(1, .optr 0 0 0 0), (3, .int .i64 (a0.fHeads.length : Int)), (4, .int .i64 y43), (5, .own 1 0 0 l77.length), (7, .int .i64 y45), (8, .optr 2 0 0 0), (113, .optr 2 0 0 9), (114, .int .i64 x75.fLink), (115, .int .i64 y78), (116, .bool (x75.fLink != y78)), (119, .optr 2 0 0 0), (120, .optr 2 0 0 0), (121, .bool x75.fKey.fText), (122, .bool (!x75.fKey.fText)), (123, .bool b91), (130, .bool b92), (133, .optr 2 0 0 8), (134, .bool x75.fLive), (135, .bool (!x75.fLive)), (136, .bool b93), (141, .bool b94)] ∧ η = [.row 0 5 1 27 (fun _ => a0.lit), .row 0 1 l77.length 3 (row cI l77), .row 0 10 1 80 (fun _ => x75.lit)]) ?_ ?_
 refine .d ⟨rfl, ⟨rfl, _, rfl, (bk h fun v98 hv99 h => (pcP (ok23 hv99) (sVn h (fun hb100 h => ?_) (fun hb100 h => ?_))))⟩⟩
 refine .t (.t (.t (.t (.t (.t (.t (.t (.t (.t (.t (.t (.t (.t (.t ?_))))))))))))))
 refine .t (.t (.t (.d ?_)))
 obtain rfl := si h
 replace h := hk97
 obtain rfl := si h
 replace h := hk74
 obtain rfl := si h
 replace h := hk42
 exact eB h
 refine ⟨rfl, (.f ⟨rfl, _, rfl, (.f (.f (.f (sN h (fun hb101 h => ?_) (fun hb101 h => ?_)))))⟩)⟩
 refine .t (.t (.t (.t (.t (.t (.t (.t (.t (.t (.t (.t (.t (.d ?_)))))))))))))
 obtain rfl := si h
 replace h := hk97
 obtain rfl := si h
 replace h := hk74
 obtain rfl := si h
 replace h := hk42
 exact eB h
 refine ⟨rfl, (.f ⟨rfl, (.f ⟨rfl, _, rfl, (.f (.f (sVn h (fun hb102 h => ?_) (fun hb102 h => ?_))))⟩)⟩)⟩
 refine ⟨rfl, (.t ⟨rfl, (.t ⟨rfl, _, rfl, (.t ⟨rfl, (.t ⟨rfl, _, rfl, (.t (.f (.t (.f (sD h (fun hb103 h => ?_) (fun hb103 h => ?_))))))⟩)⟩)⟩)⟩)⟩
 refine .t (.t (.t (.t (.t (.t (.d ?_))))))
 obtain rfl := si h
 replace h := hk97
 obtain rfl := si h
 replace h := hk74
 obtain rfl := si h
 replace h := hk42
 exact eB h
 refine ⟨rfl, (.f ⟨rfl, _, rfl, (.f (.f (sVn h (fun hb104 h => ?_) (fun hb104 h => ?_))))⟩)⟩
 refine ⟨rfl, (.t ⟨rfl, _, rfl, (.t (bk h fun v105 hv106 h => (pcP (ok_s_l7Zero hv106) (.t (.f (.t (.f (sVn h (fun hb107 h => ?_) (fun hb107 h => ?_)))))))))⟩)⟩
 refine .d ?_
 obtain rfl := si h
 replace h := hk97
 obtain rfl := si h
 replace h := hk74
 obtain rfl := si h
 replace h := hk42
 exact eB h
 exact ct ⟨_, _, _, _, si h, rfl, rfl⟩ (tk [0, 1, 2] ⟨.p, .i, .i, .o, .i, .p, .p, .i, .i, .b, .p, .p, .b, .b, .b, .b, .p, .b, .b, .b, .b, ⟨⟩⟩ ⟨(nbp rfl), nw, (nbp rfl), ⟨⟩⟩)
 exact .f (.f (.f (.f (.f (.f (.f (ct ⟨_, _, _, _, si h, rfl, rfl⟩ (tk [0, 1, 2] ⟨.p, .i, .i, .o, .i, .p, .p, .i, .i, .b, .p, .p, .b, .b, .b, .b, .p, .b, .b, .b, .b, ⟨⟩⟩ ⟨(nbp rfl), nw, (nbp rfl), ⟨⟩⟩))))))))
 refine .f (.f (.f (.f (.f (.f (.f (.f (.f ⟨rfl, (.f ⟨rfl, _, rfl, (.f (.f (sVn h (fun hb108 h => ?_) (fun hb108 h => ?_))))⟩)⟩))))))))
 refine ⟨rfl, (.t ⟨rfl, _, rfl, (.t (bk h fun v109 hv110 h => (pcP (ok_s_l7Zero hv110) (.t (.f (.t (.f (sVn h (fun hb111 h => ?_) (fun hb111 h => ?_)))))))))⟩)⟩
 refine .d ?_
 obtain rfl := si h
 replace h := hk97
 obtain rfl := si h
 replace h := hk74
 obtain rfl := si h
 replace h := hk42
 exact eB h
 exact ct ⟨_, _, _, _, si h, rfl, rfl⟩ (tk [0, 1, 2] ⟨.p, .i, .i, .o, .i, .p, .p, .i, .i, .b, .p, .p, .b, .b, .b, .b, .p, .b, .b, .b, .b, ⟨⟩⟩ ⟨(nbp rfl), nw, (nbp rfl), ⟨⟩⟩)
 exact .f (.f (.f (.f (.f (.f (.f (ct ⟨_, _, _, _, si h, rfl, rfl⟩ (tk [0, 1, 2] ⟨.p, .i, .i, .o, .i, .p, .p, .i, .i, .b, .p, .p, .b, .b, .b, .b, .p, .b, .b, .b, .b, ⟨⟩⟩ ⟨(nbp rfl), nw, (nbp rfl), ⟨⟩⟩))))))))
 rintro _ _ ⟨b91, b92, b93, b94, rfl, rfl, rfl⟩
 replace h := hk97
 obtain ⟨o112, ho113, hk114⟩ := bd h
 replace h := ho113
 refine .cut (fun σ η => .inl () = o112 ∧ σ = [(1, .optr 0 0 0 0), (3, .int .i64 (a0.fHeads.length : Int)), (4, .int .i64 y43), (5, .own 1 0 0 l77.length), (7, .int .i64 y45), (8, .optr 2 0 0 0), (113, .optr 2 0 0 9), (114, .int .i64 x75.fLink), (115, .int .i64 y78), (116, .bool (x75.fLink != y78)), (119, .optr 2 0 0 0), (120, .optr 2 0 0 0), (121, .bool x75.fKey.fText), (122, .bool (!x75.fKey.fText)), (123, .bool b91), (130, .bool b92), (133, .optr 2 0 0 8), (134, .bool x75.fLive), (135, .bool (!x75.fLive)), (136, .bool b93), (141, .bool b94)] ∧ η = [.row 0 5 1 27 (fun _ => a0.lit), .row 0 1 l77.length 3 (row cI l77), .row 0 10 1 80 (fun _ => x75.lit)]) ?_ ?_
 refine .d ?_
 refine le (m_s_IsTable_L28.partial_correctness a0 x75 y45 (motive := fun y115 o127 => o112 = o127 → LoopAt _ _ [(1, .optr 0 0 0 0), (3, .int .i64 (a0.fHeads.length : Int)), (4, .int .i64 y43), (5, .own 1 0 0 l77.length), (7, .int .i64 y45), (8, .optr 2 0 0 0), (11, .int .i64 y115), (113, .optr 2 0 0 9), (114, .int .i64 x75.fLink), (115, .int .i64 y78), (116, .bool (x75.fLink != y78)), (119, .optr 2 0 0 0), (120, .optr 2 0 0 0), (121, .bool x75.fKey.fText), (122, .bool (!x75.fKey.fText)), (123, .bool b91), (130, .bool b92), (133, .optr 2 0 0 8), (134, .bool x75.fLive), (135, .bool (!x75.fLive)), (136, .bool b93), (141, .bool b94)] [.row 0 5 1 27 (fun _ => a0.lit), .row 0 1 l77.length 3 (row cI l77), .row 0 10 1 80 (fun _ => x75.lit)]) ?_ 0 o112 h rfl) (tk [0, 1, 2] ⟨.p, .i, .i, .o, .i, .p, .i, .p, .i, .i, .b, .p, .p, .b, .b, .b, .b, .p, .b, .b, .b, .b, ⟨⟩⟩ ⟨(nbp rfl), nw, (nbp rfl), ⟨⟩⟩)
 intro F117 ih116 y115 o127 h hr128
 subst hr128
 refine LoopAt.round (.d (.d ⟨rfl, ⟨rfl, _, rfl, (sV h (fun hb118 h => ?_) (fun hb118 h => ?_))⟩⟩))
 refine ⟨rfl, (.t ⟨rfl, _, rfl, (.t (sV h (fun hb119 h => ?_) (fun hb119 h => ?_)))⟩)⟩
 refine .t (.t (.t (sD h (fun hb120 h => ?_) (fun hb120 h => ?_))))
 refine .d (.d ⟨rfl, ⟨rfl, _, rfl, (bk h fun x121 hx122 h => ⟨idx_bd hx122, _, (idx_row hx122).trans (TSlot.cells_eq x121), (sV h (fun hb123 h => ?_) (fun hb123 h => ?_))⟩)⟩⟩)
 refine ⟨rfl, (.t ⟨rfl, _, rfl, (.t (.t (bk h fun x124 hx125 h => ⟨idx_bd hx125, _, (idx_row hx125).trans (TSlot.cells_eq x124), (.t (.t (.t ⟨rfl, (.t ⟨rfl, _, rfl, (.t ⟨_, TKey.eq_cells x124.fKey x75.fKey, ?_⟩)⟩)⟩)))⟩)))⟩)⟩
 refine .t (sD h (fun hb126 h => ?_) (fun hb126 h => ?_))
 refine .d ?_
 obtain rfl := si h
 replace h := hk114
 obtain rfl := si h
 replace h := hk74
 obtain rfl := si h
 replace h := hk42
 exact eB h
 exact lg (ih116 _ _ h rfl) (tk [0, 1, 2] ⟨.p, .i, .i, .o, .i, .p, .i, .p, .i, .i, .b, .p, .p, .b, .b, .b, .b, .p, .b, .b, .b, .b, ⟨⟩⟩ ⟨(nbp rfl), nw, (nbp rfl), ⟨⟩⟩)
 exact .f (.f (.f (.f (.f (.f (.f (.f (.f (.f (lg (ih116 _ _ h rfl) (tk [0, 1, 2] ⟨.p, .i, .i, .o, .i, .p, .i, .p, .i, .i, .b, .p, .p, .b, .b, .b, .b, .p, .b, .b, .b, .b, ⟨⟩⟩ ⟨(nbp rfl), nw, (nbp rfl), ⟨⟩⟩)))))))))))
 exact ct ⟨si h, rfl, rfl⟩ (tk [0, 1, 2] ⟨.p, .i, .i, .o, .i, .p, .p, .i, .i, .b, .p, .p, .b, .b, .b, .b, .p, .b, .b, .b, .b, ⟨⟩⟩ ⟨(nbp rfl), nw, (nbp rfl), ⟨⟩⟩)
 exact .f (.f (.f (.f (ct ⟨si h, rfl, rfl⟩ (tk [0, 1, 2] ⟨.p, .i, .i, .o, .i, .p, .p, .i, .i, .b, .p, .p, .b, .b, .b, .b, .p, .b, .b, .b, .b, ⟨⟩⟩ ⟨(nbp rfl), nw, (nbp rfl), ⟨⟩⟩)))))
 exact .f (.f (.f (.f (.f (.f (.f (ct ⟨si h, rfl, rfl⟩ (tk [0, 1, 2] ⟨.p, .i, .i, .o, .i, .p, .p, .i, .i, .b, .p, .p, .b, .b, .b, .b, .p, .b, .b, .b, .b, ⟨⟩⟩ ⟨(nbp rfl), nw, (nbp rfl), ⟨⟩⟩))))))))
 rintro _ _ ⟨rfl, rfl, rfl⟩
 replace h := hk114
 refine .d ⟨rfl, ⟨rfl, _, rfl, (sV h (fun hb129 h => ?_) (fun hb129 h => ?_))⟩⟩
 exact ct ⟨_, _, _, _, _, _, _, _, _, _, _, _, _, _, _, _, _, _, _, _, _, _, _, si h, rfl, rfl⟩ (tk [0, 1, 2] ⟨.p, .i, .i, .o, .i, .p, .i, .i, .b, .p, .p, .b, .b, .b, .b, .p, .b, .b, .b, .b, ⟨⟩⟩ ⟨(nbp rfl), nw, (nbp rfl), ⟨⟩⟩)
 exact ct ⟨_, _, _, _, _, _, _, _, _, _, _, _, _, _, _, _, _, _, _, _, _, _, _, si h, rfl, rfl⟩ (tk [0, 1, 2] ⟨.p, .i, .i, .o, .i, .p, .i, .i, .b, .p, .p, .b, .b, .b, .b, .p, .b, .b, .b, .b, ⟨⟩⟩ ⟨(nbp rfl), nw, (nbp rfl), ⟨⟩⟩)
 rintro _ _ ⟨y49, l50, b51, y52, s53, y54, y55, s56, y57, l58, b59, y60, y61, y62, b63, b64, b65, b66, b67, b68, b69, b70, b71, rfl, rfl, rfl⟩
 replace h := hk74
 exact lg (ih46 _ _ _ _ h rfl) (tk [0, 1] ⟨.p, .i, .i, .o, .i, ⟨⟩⟩ ⟨(nbp rfl), nw, ⟨⟩⟩)
 exact ct ⟨_, _, si h, rfl, rfl⟩ (tk [0, 1] ⟨.p, .i, .i, .o, ⟨⟩⟩ ⟨(nbp rfl), nw, ⟨⟩⟩)
 rintro _ _ ⟨y38, l39, rfl, rfl, rfl⟩
 replace h := hk42
 obtain ⟨o132, ho133, hk134⟩ := bd h
 replace h := ho133
 refine .cut (fun σ η => .inl () = o132 ∧ σ = [(1, .optr 0 0 0 0), (4, .int .i64 y38)] ∧ η = [.row 0 5 1 27 (fun _ => a0.lit)]) ?_ ?_
 refine .d ?_
 refine le (m_s_IsTable_L30.partial_correctness a0 l39 (motive := fun y135 o144 => o132 = o144 → LoopAt _ _ [(1, .optr 0 0 0 0), (3, .int .i64 (a0.fHeads.length : Int)), (4, .int .i64 y38), (5, .own 1 0 0 l39.length), (12, .int .i64 y135)] [.row 0 5 1 27 (fun _ => a0.lit), .row 0 1 l39.length 3 (row cI l39)]) ?_ 0 o132 h rfl) (tk [0, 1] ⟨.p, .i, .i, .o, .i, ⟨⟩⟩ ⟨(nbp rfl), nw, ⟨⟩⟩)
 intro F137 ih136 y135 o144 h hr145
 subst hr145
 refine LoopAt.round (.d (.d (sD h (fun hb138 h => ?_) (fun hb138 h => ?_))))
 refine .d (.d ⟨rfl, ⟨rfl, _, rfl, (bk h fun x139 hx140 h => ⟨idx_bd hx140, _, (idx_row hx140).trans rfl, (bk h fun x141 hx142 h => ⟨rfl, idx_bd hx142, _, Nat.zero_add _, ⟨rfl, _, ((idx_row hx142).trans rfl), (sN h (fun hb143 h => ?_) (fun hb143 h => ?_))⟩⟩)⟩)⟩⟩)
 refine .d ?_
 obtain rfl := si h
 replace h := hk134
 exact eB h
 exact lg (ih136 _ _ h rfl) (tk [0, 1] ⟨.p, .i, .i, .o, .i, ⟨⟩⟩ ⟨(nbp rfl), nw, ⟨⟩⟩)
 exact ct ⟨si h, rfl, rfl⟩ (tk [0] ⟨.p, .i, ⟨⟩⟩ ⟨(nbp rfl), ⟨⟩⟩)
 rintro _ _ ⟨rfl, rfl, rfl⟩
 replace h := hk134
 exact .d ⟨rfl, ⟨rfl, _, rfl, (eB h)⟩⟩
end Go.Am
