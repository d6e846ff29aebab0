/- Models of Go functions, and their walks. (Printed by tools/mg.py.) -/
import Derived.Test.YtginnmdpdgeinaaGreatDoorA2
set_option linter.unusedVariables false
set_option linter.unusedSimpArgs false
set_option maxRecDepth 100000
namespace Go.Am
open Go Go.RowKit Go.Proofs
def m_CloneP (a0 : List TParam) : Option ((List TParam)) :=
 lapp 24 ([] : List TParam) a0 >>= fun l1 =>
 some l1
theorem ok_CloneP {a0 : List TParam} {r : (List TParam)} (h : m_CloneP a0 = some r) : ACall Tryz.prog 66 [sl 2 TParam.cells a0] [] (fun res h => res = .own 0 0 0 r.length ∧ h = [.row 0 2 r.length 70 (row TParam.cells r)]) := by
 refine vc1 Tryz.func66 ?_
 unfold m_CloneP at h
 refine .d (.d (.d ⟨fun hn4 => ?_, ?_⟩))
 have hz3 := List.eq_nil_of_length_eq_zero hn4
 rw [hz3] at h
 change some [] = _ at h
 refine .t (.d ?_)
 obtain rfl := si h
 exact en [0] ⟨rfl, rfl⟩ .g ⟨gh, ⟨⟩⟩
 refine .f (.d ⟨row TParam.cells ([] : List TParam), row_lit TParam.cells ([] : List TParam) rfl (cll_refl rfl), (bk h fun l1 hx2 h => ⟨rfl, lapp_bd hx2, l1.length, row TParam.cells l1, lapp_len hx2, lapp_row hx2 shows_all src_slc, ?_⟩)⟩)
 obtain rfl := si h
 exact en [0] ⟨rfl, rfl⟩ .o ⟨nw, ⟨⟩⟩
def m_CloneS (a0 : List Str) : Option ((List Str)) :=
 lapp 16 ([] : List Str) a0 >>= fun l1 =>
 some l1
theorem ok_CloneS {a0 : List Str} {r : (List Str)} (h : m_CloneS a0 = some r) : ACall Tryz.prog 80 [sl 1 cS a0] [] (fun res h => res = .own 0 0 0 r.length ∧ h = [.row 0 1 r.length 9 (row cS r)]) := by
 refine vc1 Tryz.func80 ?_
 unfold m_CloneS at h
 refine .d (.d (.d ⟨fun hn4 => ?_, ?_⟩))
 have hz3 := List.eq_nil_of_length_eq_zero hn4
 rw [hz3] at h
 change some [] = _ at h
 refine .t (.d ?_)
 obtain rfl := si h
 exact en [0] ⟨rfl, rfl⟩ .g ⟨gh, ⟨⟩⟩
 refine .f (.d ⟨row cS ([] : List Str), row_lit cS ([] : List Str) rfl (cll_refl rfl), (bk h fun l1 hx2 h => ⟨rfl, lapp_bd hx2, l1.length, row cS l1, lapp_len hx2, lapp_row hx2 shows_all src_slc, ?_⟩)⟩)
 obtain rfl := si h
 exact en [0] ⟨rfl, rfl⟩ .o ⟨nw, ⟨⟩⟩
def m_CloneI (a0 : List TIns) : Option ((List TIns)) :=
 lapp 56 ([] : List TIns) a0 >>= fun l1 =>
 some l1
theorem ok_CloneI {a0 : List TIns} {r : (List TIns)} (h : m_CloneI a0 = some r) : ACall Tryz.prog 81 [sl 5 TIns.cells a0] [] (fun res h => res = .own 0 0 0 r.length ∧ h = [.row 0 5 r.length 46 (row TIns.cells r)]) := by
 refine vc1 Tryz.func81 ?_
 unfold m_CloneI at h
 refine .d (.d (.d ⟨fun hn4 => ?_, ?_⟩))
 have hz3 := List.eq_nil_of_length_eq_zero hn4
 rw [hz3] at h
 change some [] = _ at h
 refine .t (.d ?_)
 obtain rfl := si h
 exact en [0] ⟨rfl, rfl⟩ .g ⟨gh, ⟨⟩⟩
 refine .f (.d ⟨row TIns.cells ([] : List TIns), row_lit TIns.cells ([] : List TIns) rfl (cll_refl rfl), (bk h fun l1 hx2 h => ⟨rfl, lapp_bd hx2, l1.length, row TIns.cells l1, lapp_len hx2, lapp_row hx2 shows_all src_slc, ?_⟩)⟩)
 obtain rfl := si h
 exact en [0] ⟨rfl, rfl⟩ .o ⟨nw, ⟨⟩⟩
def m_EqualP_L2 (a0 : List TParam) (a1 : List TParam) (y5 : Int) : Option ((Unit) ⊕ Bool) :=
 (if y5 < (a0.length : Int) then
 idx a0 y5 >>= fun x9 =>
 idx a1 y5 >>= fun x11 =>
 (if x9 = x11 then
 m_EqualP_L2 a0 a1 (W64 (y5 + 1))
 else
 some (.inr false))
 else
 some (.inl ()))
partial_fixpoint
def m_EqualP (a0 : List TParam) (a1 : List TParam) : Option (Bool) :=
 (if (a0.length : Int) = (a1.length : Int) then
 ((
 m_EqualP_L2 a0 a1 0
 : Option ((Unit) ⊕ Bool)) >>= fun o2 => match o2 with
 | .inr r => some r
 | .inl _ =>
 some true
 )
 else
 some false)
theorem ok_EqualP {a0 : List TParam} {a1 : List TParam} {r : Bool} (h : m_EqualP a0 a1 = some r) : ACall Tryz.prog 69 [sl 2 TParam.cells a0, sl 2 TParam.cells a1] [] (fun res h => res = .bool r ∧ h = []) := by
 refine vc1 Tryz.func69 ?_
 unfold m_EqualP at h
 refine .d (.d (.d (sN h (fun hb1 h => ?_) (fun hb1 h => ?_))))
 exact .d (eB h)
 obtain ⟨o2, ho3, hk4⟩ := bd h
 replace h := ho3
 refine .cut (fun σ η => .inl () = o2 ∧ σ = [] ∧ η = []) ?_ ?_
 refine .d ?_
 refine le (m_EqualP_L2.partial_correctness a0 a1 (motive := fun y5 o14 => o2 = o14 → LoopAt _ _ [(0, sl 2 TParam.cells a0), (1, sl 2 TParam.cells a1), (12, .int .i64 (a0.length : Int)), (13, .int .i64 y5)] []) ?_ 0 o2 h rfl) (tk [] ⟨.l, .l, .i, .i, ⟨⟩⟩ ⟨⟩)
 intro F7 ih6 y5 o14 h hr15
 subst hr15
 refine LoopAt.round (.d (.d (sD h (fun hb8 h => ?_) (fun hb8 h => ?_))))
 refine .d (.d (.d (bk h fun x9 hx10 h => ⟨idx_bd hx10, _, (idx_row hx10).trans (TParam.cells_eq x9), (bk h fun x11 hx12 h => ⟨idx_bd hx12, _, (idx_row hx12).trans (TParam.cells_eq x11), ⟨_, TParam.eq_cells x9 x11, (sDn h (fun hb13 h => ?_) (fun hb13 h => ?_))⟩⟩)⟩)))
 refine .d ?_
 obtain rfl := si h
 replace h := hk4
 exact eB h
 exact lg (ih6 _ _ h rfl) (tk [] ⟨.l, .l, .i, .i, ⟨⟩⟩ ⟨⟩)
 exact ct ⟨si h, rfl, rfl⟩ (tk [] ⟨⟩ ⟨⟩)
 rintro _ _ ⟨rfl, rfl, rfl⟩
 replace h := hk4
 exact .d (eB h)
def m_EqualS_L2 (a0 : List Str) (a1 : List Str) (y5 : Int) : Option ((Unit) ⊕ Bool) :=
 (if y5 < (a0.length : Int) then
 idx a0 y5 >>= fun x9 =>
 idx a1 y5 >>= fun x11 =>
 (if x9 = x11 then
 m_EqualS_L2 a0 a1 (W64 (y5 + 1))
 else
 some (.inr false))
 else
 some (.inl ()))
partial_fixpoint
def m_EqualS (a0 : List Str) (a1 : List Str) : Option (Bool) :=
 (if (a0.length : Int) = (a1.length : Int) then
 ((
 m_EqualS_L2 a0 a1 0
 : Option ((Unit) ⊕ Bool)) >>= fun o2 => match o2 with
 | .inr r => some r
 | .inl _ =>
 some true
 )
 else
 some false)
theorem ok_EqualS {a0 : List Str} {a1 : List Str} {r : Bool} (h : m_EqualS a0 a1 = some r) : ACall Tryz.prog 70 [sl 1 cS a0, sl 1 cS a1] [] (fun res h => res = .bool r ∧ h = []) := by
 refine vc1 Tryz.func70 ?_
 unfold m_EqualS at h
 refine .d (.d (.d (sN h (fun hb1 h => ?_) (fun hb1 h => ?_))))
 exact .d (eB h)
 obtain ⟨o2, ho3, hk4⟩ := bd h
 replace h := ho3
 refine .cut (fun σ η => .inl () = o2 ∧ σ = [] ∧ η = []) ?_ ?_
 refine .d ?_
 refine le (m_EqualS_L2.partial_correctness a0 a1 (motive := fun y5 o14 => o2 = o14 → LoopAt _ _ [(0, sl 1 cS a0), (1, sl 1 cS a1), (12, .int .i64 (a0.length : Int)), (13, .int .i64 y5)] []) ?_ 0 o2 h rfl) (tk [] ⟨.l, .l, .i, .i, ⟨⟩⟩ ⟨⟩)
 intro F7 ih6 y5 o14 h hr15
 subst hr15
 refine LoopAt.round (.d (.d (sD h (fun hb8 h => ?_) (fun hb8 h => ?_))))
 refine .d (.d (.d (bk h fun x9 hx10 h => ⟨idx_bd hx10, _, (idx_row hx10).trans rfl, (bk h fun x11 hx12 h => ⟨idx_bd hx12, _, (idx_row hx12).trans rfl, (sEn h (fun hb13 h => ?_) (fun hb13 h => ?_))⟩)⟩)))
 refine .d ?_
 obtain rfl := si h
 replace h := hk4
 exact eB h
 exact lg (ih6 _ _ h rfl) (tk [] ⟨.l, .l, .i, .i, ⟨⟩⟩ ⟨⟩)
 exact ct ⟨si h, rfl, rfl⟩ (tk [] ⟨⟩ ⟨⟩)
 rintro _ _ ⟨rfl, rfl, rfl⟩
 replace h := hk4
 exact .d (eB h)
def m_EqualI_L2 (a0 : List TIns) (a1 : List TIns) (y5 : Int) : Option ((Unit) ⊕ Bool) :=
 (if y5 < (a0.length : Int) then
 idx a0 y5 >>= fun x9 =>
 idx a1 y5 >>= fun x11 =>
 (if x9 = x11 then
 m_EqualI_L2 a0 a1 (W64 (y5 + 1))
 else
 some (.inr false))
 else
 some (.inl ()))
partial_fixpoint
def m_EqualI (a0 : List TIns) (a1 : List TIns) : Option (Bool) :=
 (if (a0.length : Int) = (a1.length : Int) then
 ((
 m_EqualI_L2 a0 a1 0
 : Option ((Unit) ⊕ Bool)) >>= fun o2 => match o2 with
 | .inr r => some r
 | .inl _ =>
 some true
 )
 else
 some false)
theorem ok_EqualI {a0 : List TIns} {a1 : List TIns} {r : Bool} (h : m_EqualI a0 a1 = some r) : ACall Tryz.prog 31 [sl 5 TIns.cells a0, sl 5 TIns.cells a1] [] (fun res h => res = .bool r ∧ h = []) := by
 refine vc1 Tryz.func31 ?_
 unfold m_EqualI at h
 refine .d (.d (.d (sN h (fun hb1 h => ?_) (fun hb1 h => ?_))))
 exact .d (eB h)
 obtain ⟨o2, ho3, hk4⟩ := bd h
 replace h := ho3
 refine .cut (fun σ η => .inl () = o2 ∧ σ = [] ∧ η = []) ?_ ?_
 refine .d ?_
 refine le (m_EqualI_L2.partial_correctness a0 a1 (motive := fun y5 o14 => o2 = o14 → LoopAt _ _ [(0, sl 5 TIns.cells a0), (1, sl 5 TIns.cells a1), (12, .int .i64 (a0.length : Int)), (13, .int .i64 y5)] []) ?_ 0 o2 h rfl) (tk [] ⟨.l, .l, .i, .i, ⟨⟩⟩ ⟨⟩)
 intro F7 ih6 y5 o14 h hr15
 subst hr15
 refine LoopAt.round (.d (.d (sD h (fun hb8 h => ?_) (fun hb8 h => ?_))))
 refine .d (.d (.d (bk h fun x9 hx10 h => ⟨idx_bd hx10, _, (idx_row hx10).trans (TIns.cells_eq x9), (bk h fun x11 hx12 h => ⟨idx_bd hx12, _, (idx_row hx12).trans (TIns.cells_eq x11), ⟨_, TIns.eq_cells x9 x11, (sDn h (fun hb13 h => ?_) (fun hb13 h => ?_))⟩⟩)⟩)))
 refine .d ?_
 obtain rfl := si h
 replace h := hk4
 exact eB h
 exact lg (ih6 _ _ h rfl) (tk [] ⟨.l, .l, .i, .i, ⟨⟩⟩ ⟨⟩)
 exact ct ⟨si h, rfl, rfl⟩ (tk [] ⟨⟩ ⟨⟩)
 rintro _ _ ⟨rfl, rfl, rfl⟩
 replace h := hk4
 exact .d (eB h)
def m_internalstringsliteHasPrefix (a0 : Str) (a1 : Str) : Option (Bool) :=
 (if (a0.length : Int) ≥ (a1.length : Int) then
 sto a0 (a1.length : Int) >>= fun s2 =>
 some (s2 == a1)
 else
 some false)
theorem ok_internalstringsliteHasPrefix {a0 : Str} {a1 : Str} {r : Bool} (h : m_internalstringsliteHasPrefix a0 a1 = some r) : ACall Tryz.prog 144 [.str a0, .str a1] [] (fun res h => res = .bool r ∧ h = []) := by
 refine vc1 Tryz.func144 ?_
 unfold m_internalstringsliteHasPrefix at h
 refine .d (.d (sD h (fun hb1 h => ?_) (fun hb1 h => ?_)))
 exact .t (.t (.t (bk h fun s2 hx3 h => ⟨sto_bd hx3, s2, sto_at hx3, (.t (.t (.t (eB h))))⟩)))
 exact .f (.f (.f (.f (.f (.f (eB h))))))
def m_stringsHasPrefix (a0 : Str) (a1 : Str) : Option (Bool) :=
 m_internalstringsliteHasPrefix a0 a1 >>= fun v1 =>
 some v1
theorem ok_stringsHasPrefix {a0 : Str} {a1 : Str} {r : Bool} (h : m_stringsHasPrefix a0 a1 = some r) : ACall Tryz.prog 108 [.str a0, .str a1] [] (fun res h => res = .bool r ∧ h = []) := by
 refine vc1 Tryz.func108 ?_
 unfold m_stringsHasPrefix at h
 exact .d (.d (bk h fun v1 hv2 h => (pcP (ok_internalstringsliteHasPrefix hv2) (eB h))))
def m_i_isFile (a0 : TFunc) : Option (Bool) :=
 m_stringsHasPrefix a0.fName [47] >>= fun v1 =>
 some v1
theorem ok_i_isFile {a0 : TFunc} {r : Bool} (h : m_i_isFile a0 = some r) : ACall Tryz.prog 67 [.agg a0.lit] [] (fun res h => res = .bool r ∧ h = []) := by
 refine vc1 Tryz.func67 ?_
 unfold m_i_isFile at h
 exact .d (.d ⟨rfl, ⟨rfl, _, rfl, (bk h fun v1 hv2 h => (pcP (ok_stringsHasPrefix hv2) (eB h)))⟩⟩)
def m_i_agree (a0 : TFunc) (a1 : TFunc) : Option (Bool) :=
 (if a0.fName = a1.fName then
 (if a0.fGen = a1.fGen then
 m_EqualP a0.fParams a1.fParams >>= fun v3 =>
 (if v3 = true then
 m_EqualP a0.fUses a1.fUses >>= fun v6 =>
 (if v6 = true then
 m_EqualS a0.fSlots a1.fSlots >>= fun v9 =>
 some v9
 else
 some false)
 else
 some false)
 else
 some false)
 else
 some false)
theorem ok_i_agree {a0 : TFunc} {a1 : TFunc} {r : Bool} (h : m_i_agree a0 a1 = some r) : ACall Tryz.prog 28 [.agg a0.lit, .agg a1.lit] [] (fun res h => res = .bool r ∧ h = []) := by
 refine vc1 Tryz.func28 ?_
 unfold m_i_agree at h
 refine .d (.d ⟨rfl, ⟨rfl, _, rfl, ⟨rfl, ⟨rfl, _, rfl, (sE h (fun hb1 h => ?_) (fun hb1 h => ?_))⟩⟩⟩⟩)
 refine ⟨rfl, (.t ⟨rfl, _, rfl, (.t ⟨rfl, (.t ⟨rfl, _, rfl, (.t (.t (sE h (fun hb2 h => ?_) (fun hb2 h => ?_))))⟩)⟩)⟩)⟩
 refine ⟨rfl, (.t ⟨rfl, _, rfl, (.t ⟨rfl, (.t ⟨rfl, _, rfl, (.t (bk h fun v3 hv4 h => (pcP (ok_EqualP hv4) (.t (sV h (fun hb5 h => ?_) (fun hb5 h => ?_))))))⟩)⟩)⟩)⟩
 refine ⟨rfl, (.t ⟨rfl, _, rfl, (.t ⟨rfl, (.t ⟨rfl, _, rfl, (.t (bk h fun v6 hv7 h => (pcP (ok_EqualP hv7) (.t (sV h (fun hb8 h => ?_) (fun hb8 h => ?_))))))⟩)⟩)⟩)⟩
 exact ⟨rfl, (.t ⟨rfl, _, rfl, (.t ⟨rfl, (.t ⟨rfl, _, rfl, (.t (bk h fun v9 hv10 h => (pcP (ok_EqualS hv10) (.t (eB h)))))⟩)⟩)⟩)⟩
 exact .f (.f (.f (.f (.f (eB h)))))
 exact .f (.f (.f (.f (.f (.f (.f (.f (.f (.f (.f (eB h)))))))))))
 refine .f (.f (.f (.f (.f (.f (.f (.f (.f (.f (.f (.f (.f (.f (.f ?_))))))))))))))
 exact .f (.f (eB h))
 refine .f (.f (.f (.f (.f (.f (.f (.f (.f (.f (.f (.f (.f (.f (.f ?_))))))))))))))
 exact .f (.f (.f (.f (.f (.f (.f (.f (eB h))))))))
def m_i_copyFunc (a0 : TFunc) : Option (TFunc) :=
 m_CloneP a0.fParams >>= fun v1 =>
 m_CloneP a0.fUses >>= fun v3 =>
 m_CloneS a0.fSlots >>= fun v5 =>
 m_CloneI a0.fCode >>= fun v7 =>
 some (TFunc.mk a0.fName v1 v3 v5 a0.fGen v7)
def m_s_l25Top (a0 : TFunc) : Option (Bool) :=
 (if (a0.fName.length : Int) > 0 then
 sidx a0.fName 0 >>= fun c2 =>
 some ((c2.toNat : Int) == 47)
 else
 some false)
theorem ok_s_l25Top {a0 : TFunc} {r : Bool} (h : m_s_l25Top a0 = some r) : ACall Tryz.prog 53 [.agg a0.lit] [] (fun res h => res = .bool r ∧ h = []) := by
 refine vc1 Tryz.func53 ?_
 unfold m_s_l25Top at h
 refine .d (.d ⟨rfl, ⟨rfl, _, rfl, (sD h (fun hb1 h => ?_) (fun hb1 h => ?_))⟩⟩)
 exact ⟨rfl, (.t ⟨rfl, _, rfl, (.t (bk h fun c2 hx3 h => ⟨sidx_bd hx3, c2, sidx_at hx3, (.t (.t (eB h)))⟩))⟩)⟩
 exact .f (.f (.f (.f (eB h))))
def m_s_SlotOf_L2 (a0 : TFunc) (a1 : Str) (y4 : Int) : Option ((Unit) ⊕ Int) :=
 (if y4 < (a0.fSlots.length : Int) then
 idx a0.fSlots y4 >>= fun x8 =>
 (if x8 = a1 then
 some (.inr y4)
 else
 m_s_SlotOf_L2 a0 a1 (W64 (y4 + 1)))
 else
 some (.inl ()))
partial_fixpoint
def m_s_SlotOf (a0 : TFunc) (a1 : Str) : Option (Int) :=
 ((
 m_s_SlotOf_L2 a0 a1 0
 : Option ((Unit) ⊕ Int)) >>= fun o1 => match o1 with
 | .inr r => some r
 | .inl _ =>
 some (-1)
 )
theorem ok_s_SlotOf {a0 : TFunc} {a1 : Str} {r : Int} (h : m_s_SlotOf a0 a1 = some r) : ACall Tryz.prog 88 [.agg a0.lit, .str a1] [] (fun res h => res = .int .i64 r ∧ h = []) := by
 refine vc1 Tryz.func88 ?_
 unfold m_s_SlotOf at h
 refine .d ?_
 obtain ⟨o1, ho2, hk3⟩ := bd h
 replace h := ho2
 refine .cut (fun σ η => .inl () = o1 ∧ σ = [] ∧ η = []) ?_ ?_
 refine .d ?_
 refine le (m_s_SlotOf_L2.partial_correctness a0 a1 (motive := fun y4 o11 => o1 = o11 → LoopAt _ _ [(1, .str a1), (2, .optr 0 0 0 0), (5, .int .i64 y4)] [.row 0 6 1 32 (fun _ => a0.lit)]) ?_ 0 o1 h rfl) (tk [0] ⟨.s, .p, .i, ⟨⟩⟩ ⟨(nbp rfl), ⟨⟩⟩)
 intro F6 ih5 y4 o11 h hr12
 subst hr12
 refine LoopAt.round (.d (.d ⟨rfl, ⟨rfl, _, rfl, (sD h (fun hb7 h => ?_) (fun hb7 h => ?_))⟩⟩))
 refine .d (.d ⟨rfl, ⟨rfl, _, rfl, (bk h fun x8 hx9 h => ⟨idx_bd hx9, _, (idx_row hx9).trans rfl, (sE h (fun hb10 h => ?_) (fun hb10 h => ?_))⟩)⟩⟩)
 refine .d ?_
 obtain rfl := si h
 replace h := hk3
 exact eI h
 exact lg (ih5 _ _ h rfl) (tk [0] ⟨.s, .p, .i, ⟨⟩⟩ ⟨(nbp rfl), ⟨⟩⟩)
 exact ct ⟨si h, rfl, rfl⟩ (tk [] ⟨⟩ ⟨⟩)
 rintro _ _ ⟨rfl, rfl, rfl⟩
 replace h := hk3
 exact .d (eI h)
def m_s_l27Names_L2 (a0 : TFunc) (y6 : Int) : Option ((Unit) ⊕ Bool) :=
 (if y6 < (a0.fSlots.length : Int) then
 idx a0.fSlots y6 >>= fun x10 =>
 m_s_l15Name x10 >>= fun v12 =>
 (if v12 = true then
 (if x10 = ([116, 104, 105, 115] : Str) then
 some (.inr false)
 else
 m_s_SlotOf a0 x10 >>= fun v16 =>
 (if v16 = y6 then
 (if y6 < (a0.fParams.length : Int) then
 idx a0.fParams y6 >>= fun x20 =>
 (if x20.fName = x10 then
 (if y6 ≥ (a0.fParams.length : Int) then
 (if (W64 (y6 - (a0.fParams.length : Int))) < (a0.fUses.length : Int) then
 idx a0.fUses (W64 (y6 - (a0.fParams.length : Int))) >>= fun x25 =>
 (if x25.fName = x10 then
 m_s_l27Names_L2 a0 (W64 (y6 + 1))
 else
 some (.inr false))
 else
 m_s_l27Names_L2 a0 (W64 (y6 + 1)))
 else
 m_s_l27Names_L2 a0 (W64 (y6 + 1)))
 else
 some (.inr false))
 else
 (if y6 ≥ (a0.fParams.length : Int) then
 (if (W64 (y6 - (a0.fParams.length : Int))) < (a0.fUses.length : Int) then
 idx a0.fUses (W64 (y6 - (a0.fParams.length : Int))) >>= fun x30 =>
 (if x30.fName = x10 then
 m_s_l27Names_L2 a0 (W64 (y6 + 1))
 else
 some (.inr false))
 else
 m_s_l27Names_L2 a0 (W64 (y6 + 1)))
 else
 m_s_l27Names_L2 a0 (W64 (y6 + 1))))
 else
 some (.inr false)))
 else
 some (.inr false))
 else
 some (.inl ()))
partial_fixpoint
def m_s_l27Names (a0 : TFunc) : Option (Bool) :=
 (if (a0.fSlots.length : Int) > 600 then
 some false
 else
 (if (W64 ((a0.fParams.length : Int) + (a0.fUses.length : Int))) > (a0.fSlots.length : Int) then
 some false
 else
 ((
 m_s_l27Names_L2 a0 0
 : Option ((Unit) ⊕ Bool)) >>= fun o3 => match o3 with
 | .inr r => some r
 | .inl _ =>
 some true
 )))
theorem ok_s_l27Names {a0 : TFunc} {r : Bool} (h : m_s_l27Names a0 = some r) : ACall Tryz.prog 52 [.agg a0.lit] [] (fun res h => res = .bool r ∧ h = []) := by
 refine vc1 Tryz.func52 ?_
 unfold m_s_l27Names at h
 refine .d (.d ⟨rfl, ⟨rfl, _, rfl, (.d (.d ⟨rfl, ⟨rfl, _, rfl, (sD h (fun hb1 h => ?_) (fun hb1 h => ?_))⟩⟩))⟩⟩)
 exact .t (.t (.t (.t (.t (.t (.t (.t (.t (.t (.d (eB h)))))))))))
 refine .f ⟨rfl, (.f ⟨rfl, _, rfl, (.f (.f (.f ⟨rfl, (.f ⟨rfl, _, rfl, (.f (.f (.f (sD h (fun hb2 h => ?_) (fun hb2 h => ?_)))))⟩)⟩)))⟩)⟩
 exact .d (eB h)
 obtain ⟨o3, ho4, hk5⟩ := bd h
 replace h := ho4
 refine .cut (fun σ η => .inl () = o3 ∧ σ = [] ∧ η = []) ?_ ?_
 refine .d ?_
 refine le (m_s_l27Names_L2.partial_correctness a0 (motive := fun y6 o33 => o3 = o33 → LoopAt _ _ [(1, .optr 0 0 0 0), (3, .int .i64 (a0.fParams.length : Int)), (4, .int .i64 y6)] [.row 0 6 1 32 (fun _ => a0.lit)]) ?_ 0 o3 h rfl) (tk [0] ⟨.p, .i, .i, ⟨⟩⟩ ⟨(nbp rfl), ⟨⟩⟩)
 intro F8 ih7 y6 o33 h hr34
 subst hr34
 refine LoopAt.round (.d (.d ⟨rfl, ⟨rfl, _, rfl, (sD h (fun hb9 h => ?_) (fun hb9 h => ?_))⟩⟩))
 refine .d (.d ⟨rfl, ⟨rfl, _, rfl, (bk h fun x10 hx11 h => ⟨idx_bd hx11, _, (idx_row hx11).trans rfl, (.d (bk h fun v12 hv13 h => (pcP (ok_s_l15Name hv13) (sVn h (fun hb14 h => ?_) (fun hb14 h => ?_)))))⟩)⟩⟩)
 refine .t (.t (.t (.t (.t (.t (.t (.t (.t (.t (.t (.t (.t (.t (.t ?_))))))))))))))
 refine .t (.t (.t (.t (.t (.t (.t (.t (.d ?_))))))))
 obtain rfl := si h
 replace h := hk5
 exact eB h
 refine .f (.f (sE h (fun hb15 h => ?_) (fun hb15 h => ?_)))
 refine .t (.t (.t (.t (.t (.t (.t (.t (.t (.t (.t (.t (.t (.t (.t ?_))))))))))))))
 refine .t (.t (.t (.t (.t (.d ?_)))))
 obtain rfl := si h
 replace h := hk5
 exact eB h
 refine ⟨rfl, _, rfl, (.f (.f (bk h fun v16 hv17 h => (pcP (ok_s_SlotOf hv17) (.f (.f (.f (sN h (fun hb18 h => ?_) (fun hb18 h => ?_)))))))))⟩
 refine .t (.t (.t (.t (.t (.t (.t (.t (.t (.t (.t (.t (.t (.t (.d ?_))))))))))))))
 obtain rfl := si h
 replace h := hk5
 exact eB h
 refine .f (.f (.f (sD h (fun hb19 h => ?_) (fun hb19 h => ?_))))
 refine ⟨rfl, (.t ⟨rfl, _, rfl, (.t (.t (bk h fun x20 hx21 h => ⟨idx_bd hx21, _, (idx_row hx21).trans (TParam.cells_eq x20), (.t (.t (.t (.t (.f (.t (.f (sEn h (fun hb22 h => ?_) (fun hb22 h => ?_)))))))))⟩)))⟩)⟩
 refine .t (.t (.t (.t (.t (.t (.t (.t (.d ?_))))))))
 obtain rfl := si h
 replace h := hk5
 exact eB h
 refine .f (.f (.f (sD h (fun hb23 h => ?_) (fun hb23 h => ?_))))
 refine .t (.t (.t ⟨rfl, (.t ⟨rfl, _, rfl, (.t (.t (.f (.t (.f (sD h (fun hb24 h => ?_) (fun hb24 h => ?_)))))))⟩)⟩))
 refine ⟨rfl, (.t ⟨rfl, _, rfl, (.t (.t (.t (.t (bk h fun x25 hx26 h => ⟨idx_bd hx26, _, (idx_row hx26).trans (TParam.cells_eq x25), (.t (.t (.t (.t (.f (.t ?_))))))⟩)))))⟩)⟩
 refine .f (sEn h (fun hb27 h => ?_) (fun hb27 h => ?_))
 refine .d ?_
 obtain rfl := si h
 replace h := hk5
 exact eB h
 exact lg (ih7 _ _ h rfl) (tk [0] ⟨.p, .i, .i, ⟨⟩⟩ ⟨(nbp rfl), ⟨⟩⟩)
 exact .f (.f (.f (.f (.f (.f (.f (.f (.f (.f (.f (.f (.f (lg (ih7 _ _ h rfl) (tk [0] ⟨.p, .i, .i, ⟨⟩⟩ ⟨(nbp rfl), ⟨⟩⟩))))))))))))))
 refine .f (.f (.f (.f (.f (.f (.f (.f (.f (.f (.f (.f (.f (.f (.f ?_))))))))))))))
 exact .f (.f (.f (.f (.f (.f (.f (.f (lg (ih7 _ _ h rfl) (tk [0] ⟨.p, .i, .i, ⟨⟩⟩ ⟨(nbp rfl), ⟨⟩⟩)))))))))
 refine .f (.f (.f (.f (.f (.f (.f (.f (.f (.f (.f (.f (.f (.f (sD h (fun hb28 h => ?_) (fun hb28 h => ?_)))))))))))))))
 refine .t (.t (.t ⟨rfl, (.t ⟨rfl, _, rfl, (.t (.t (.f (.t (.f (sD h (fun hb29 h => ?_) (fun hb29 h => ?_)))))))⟩)⟩))
 refine ⟨rfl, (.t ⟨rfl, _, rfl, (.t (.t (.t (.t (bk h fun x30 hx31 h => ⟨idx_bd hx31, _, (idx_row hx31).trans (TParam.cells_eq x30), (.t (.t (.t (.t (.f (.t ?_))))))⟩)))))⟩)⟩
 refine .f (sEn h (fun hb32 h => ?_) (fun hb32 h => ?_))
 refine .d ?_
 obtain rfl := si h
 replace h := hk5
 exact eB h
 exact lg (ih7 _ _ h rfl) (tk [0] ⟨.p, .i, .i, ⟨⟩⟩ ⟨(nbp rfl), ⟨⟩⟩)
 exact .f (.f (.f (.f (.f (.f (.f (.f (.f (.f (.f (.f (.f (lg (ih7 _ _ h rfl) (tk [0] ⟨.p, .i, .i, ⟨⟩⟩ ⟨(nbp rfl), ⟨⟩⟩))))))))))))))
 refine .f (.f (.f (.f (.f (.f (.f (.f (.f (.f (.f (.f (.f (.f (.f ?_))))))))))))))
 exact .f (.f (.f (.f (.f (.f (.f (.f (lg (ih7 _ _ h rfl) (tk [0] ⟨.p, .i, .i, ⟨⟩⟩ ⟨(nbp rfl), ⟨⟩⟩)))))))))
 exact ct ⟨si h, rfl, rfl⟩ (tk [] ⟨⟩ ⟨⟩)
 rintro _ _ ⟨rfl, rfl, rfl⟩
 replace h := hk5
 exact .d (eB h)
def m_s_l30Same_L2 (a0 : TFunc) (a1 : TFunc) (y9 : Int) : Option ((Unit) ⊕ Bool) :=
 (if y9 < (a0.fParams.length : Int) then
 idx a0.fParams y9 >>= fun x13 =>
 idx a1.fParams y9 >>= fun x15 =>
 (if x13 = x15 then
 m_s_l30Same_L2 a0 a1 (W64 (y9 + 1))
 else
 some (.inr false))
 else
 some (.inl ()))
partial_fixpoint
def m_s_l30Same_L4 (a0 : TFunc) (a1 : TFunc) (y23 : Int) : Option ((Unit) ⊕ Bool) :=
 (if y23 < (a0.fUses.length : Int) then
 idx a0.fUses y23 >>= fun x27 =>
 idx a1.fUses y23 >>= fun x29 =>
 (if x27 = x29 then
 m_s_l30Same_L4 a0 a1 (W64 (y23 + 1))
 else
 some (.inr false))
 else
 some (.inl ()))
partial_fixpoint
def m_s_l30Same_L6 (a0 : TFunc) (a1 : TFunc) (y37 : Int) : Option ((Unit) ⊕ Bool) :=
 (if y37 < (a0.fSlots.length : Int) then
 idx a0.fSlots y37 >>= fun x41 =>
 idx a1.fSlots y37 >>= fun x43 =>
 (if x41 = x43 then
 m_s_l30Same_L6 a0 a1 (W64 (y37 + 1))
 else
 some (.inr false))
 else
 some (.inl ()))
partial_fixpoint
def m_s_l30Same (a0 : TFunc) (a1 : TFunc) : Option (Bool) :=
 (if a0.fName = a1.fName then
 (if a0.fGen = a1.fGen then
 (if (a0.fParams.length : Int) = (a1.fParams.length : Int) then
 (if (a0.fUses.length : Int) = (a1.fUses.length : Int) then
 (if (a0.fSlots.length : Int) = (a1.fSlots.length : Int) then
 ((
 m_s_l30Same_L2 a0 a1 0
 : Option ((Unit) ⊕ Bool)) >>= fun o6 => match o6 with
 | .inr r => some r
 | .inl _ =>
 ((
 m_s_l30Same_L4 a0 a1 0
 : Option ((Unit) ⊕ Bool)) >>= fun o20 => match o20 with
 | .inr r => some r
 | .inl _ =>
 ((
 m_s_l30Same_L6 a0 a1 0
 : Option ((Unit) ⊕ Bool)) >>= fun o34 => match o34 with
 | .inr r => some r
 | .inl _ =>
 some true
 )
 )
 )
 else
 some false)
 else
 some false)
 else
 some false)
 else
 some false)
 else
 some false)
theorem ok_s_l30Same {a0 : TFunc} {a1 : TFunc} {r : Bool} (h : m_s_l30Same a0 a1 = some r) : ACall Tryz.prog 21 [.agg a0.lit, .agg a1.lit] [] (fun res h => res = .bool r ∧ h = []) := by
 refine vc1 Tryz.func21 ?_
 unfold m_s_l30Same at h
 refine .d (.d (.d ⟨rfl, ⟨rfl, _, rfl, ⟨rfl, ⟨rfl, _, rfl, (sEn h (fun hb1 h => ?_) (fun hb1 h => ?_))⟩⟩⟩⟩))
 refine .t (.t (.t (.t (.t (.t (.t (.t (.t (.t (.t (.t (.t (.t (.t ?_))))))))))))))
 refine .t (.t (.t (.t (.t (.t (.t (.t (.t (.t (.t (.t (.t (.t (.t ?_))))))))))))))
 exact .d (eB h)
 refine ⟨rfl, (.f ⟨rfl, _, rfl, (.f ⟨rfl, (.f ⟨rfl, _, rfl, (.f (.f (sEn h (fun hb2 h => ?_) (fun hb2 h => ?_))))⟩)⟩)⟩)⟩
 refine .t (.t (.t (.t (.t (.t (.t (.t (.t (.t (.t (.t (.t (.t (.t ?_))))))))))))))
 exact .t (.t (.t (.t (.t (.t (.t (.t (.t (.d (eB h))))))))))
 refine ⟨rfl, (.f ⟨rfl, _, rfl, (.f (.f ⟨rfl, (.f ⟨rfl, _, rfl, (.f (.f (.f (sN h (fun hb3 h => ?_) (fun hb3 h => ?_)))))⟩)⟩))⟩)⟩
 refine .t (.t (.t (.t (.t (.t (.t (.t (.t (.t (.t (.t (.t (.t (.t ?_))))))))))))))
 exact .t (.d (eB h))
 refine ⟨rfl, (.f ⟨rfl, _, rfl, (.f (.f ⟨rfl, (.f ⟨rfl, _, rfl, (.f (.f (.f (sN h (fun hb4 h => ?_) (fun hb4 h => ?_)))))⟩)⟩))⟩)⟩
 exact .t (.t (.t (.t (.t (.t (.t (.t (.d (eB h)))))))))
 refine ⟨rfl, (.f ⟨rfl, _, rfl, (.f (.f ⟨rfl, (.f ⟨rfl, _, rfl, (.f (.f (.f (sN h (fun hb5 h => ?_) (fun hb5 h => ?_)))))⟩)⟩))⟩)⟩
 exact .d (eB h)
 obtain ⟨o6, ho7, hk8⟩ := bd h
 replace h := ho7
 refine .cut (fun σ η => .inl () = o6 ∧ σ = [(2, .optr 0 0 0 0), (3, .optr 1 0 0 0)] ∧ η = [.row 0 6 1 32 (fun _ => a0.lit), .row 0 6 1 32 (fun _ => a1.lit)]) ?_ ?_
 refine .d ?_
 refine le (m_s_l30Same_L2.partial_correctness a0 a1 (motive := fun y9 o18 => o6 = o18 → LoopAt _ _ [(2, .optr 0 0 0 0), (3, .optr 1 0 0 0), (5, .int .i64 y9)] [.row 0 6 1 32 (fun _ => a0.lit), .row 0 6 1 32 (fun _ => a1.lit)]) ?_ 0 o6 h rfl) (tk [0, 1] ⟨.p, .p, .i, ⟨⟩⟩ ⟨(nbp rfl), (nbp rfl), ⟨⟩⟩)
 intro F11 ih10 y9 o18 h hr19
 subst hr19
 refine LoopAt.round (.d (.d ⟨rfl, ⟨rfl, _, rfl, (sD h (fun hb12 h => ?_) (fun hb12 h => ?_))⟩⟩))
 refine .d (.d ⟨rfl, ⟨rfl, _, rfl, (bk h fun x13 hx14 h => ⟨idx_bd hx14, _, (idx_row hx14).trans (TParam.cells_eq x13), ⟨rfl, ⟨rfl, _, rfl, (bk h fun x15 hx16 h => ⟨idx_bd hx16, _, (idx_row hx16).trans (TParam.cells_eq x15), ⟨_, TParam.eq_cells x13 x15, (sDn h (fun hb17 h => ?_) (fun hb17 h => ?_))⟩⟩)⟩⟩⟩)⟩⟩)
 refine .d ?_
 obtain rfl := si h
 replace h := hk8
 exact eB h
 exact lg (ih10 _ _ h rfl) (tk [0, 1] ⟨.p, .p, .i, ⟨⟩⟩ ⟨(nbp rfl), (nbp rfl), ⟨⟩⟩)
 exact ct ⟨si h, rfl, rfl⟩ (tk [0, 1] ⟨.p, .p, ⟨⟩⟩ ⟨(nbp rfl), (nbp rfl), ⟨⟩⟩)
 rintro _ _ ⟨rfl, rfl, rfl⟩
 replace h := hk8
 obtain ⟨o20, ho21, hk22⟩ := bd h
 replace h := ho21
 refine .cut (fun σ η => .inl () = o20 ∧ σ = [(2, .optr 0 0 0 0), (3, .optr 1 0 0 0)] ∧ η = [.row 0 6 1 32 (fun _ => a0.lit), .row 0 6 1 32 (fun _ => a1.lit)]) ?_ ?_
 refine .d ?_
 refine le (m_s_l30Same_L4.partial_correctness a0 a1 (motive := fun y23 o32 => o20 = o32 → LoopAt _ _ [(2, .optr 0 0 0 0), (3, .optr 1 0 0 0), (6, .int .i64 y23)] [.row 0 6 1 32 (fun _ => a0.lit), .row 0 6 1 32 (fun _ => a1.lit)]) ?_ 0 o20 h rfl) (tk [0, 1] ⟨.p, .p, .i, ⟨⟩⟩ ⟨(nbp rfl), (nbp rfl), ⟨⟩⟩)
 intro F25 ih24 y23 o32 h hr33
 subst hr33
 refine LoopAt.round (.d (.d ⟨rfl, ⟨rfl, _, rfl, (sD h (fun hb26 h => ?_) (fun hb26 h => ?_))⟩⟩))
 refine .d (.d ⟨rfl, ⟨rfl, _, rfl, (bk h fun x27 hx28 h => ⟨idx_bd hx28, _, (idx_row hx28).trans (TParam.cells_eq x27), ⟨rfl, ⟨rfl, _, rfl, (bk h fun x29 hx30 h => ⟨idx_bd hx30, _, (idx_row hx30).trans (TParam.cells_eq x29), ⟨_, TParam.eq_cells x27 x29, (sDn h (fun hb31 h => ?_) (fun hb31 h => ?_))⟩⟩)⟩⟩⟩)⟩⟩)
 refine .d ?_
 obtain rfl := si h
 replace h := hk22
 exact eB h
 exact lg (ih24 _ _ h rfl) (tk [0, 1] ⟨.p, .p, .i, ⟨⟩⟩ ⟨(nbp rfl), (nbp rfl), ⟨⟩⟩)
 exact ct ⟨si h, rfl, rfl⟩ (tk [0, 1] ⟨.p, .p, ⟨⟩⟩ ⟨(nbp rfl), (nbp rfl), ⟨⟩⟩)
 rintro _ _ ⟨rfl, rfl, rfl⟩
 replace h := hk22
 obtain ⟨o34, ho35, hk36⟩ := bd h
 replace h := ho35
 refine .cut (fun σ η => .inl () = o34 ∧ σ = [] ∧ η = []) ?_ ?_
 refine .d ?_
 refine le (m_s_l30Same_L6.partial_correctness a0 a1 (motive := fun y37 o46 => o34 = o46 → LoopAt _ _ [(2, .optr 0 0 0 0), (3, .optr 1 0 0 0), (7, .int .i64 y37)] [.row 0 6 1 32 (fun _ => a0.lit), .row 0 6 1 32 (fun _ => a1.lit)]) ?_ 0 o34 h rfl) (tk [0, 1] ⟨.p, .p, .i, ⟨⟩⟩ ⟨(nbp rfl), (nbp rfl), ⟨⟩⟩)
 intro F39 ih38 y37 o46 h hr47
 subst hr47
 refine LoopAt.round (.d (.d ⟨rfl, ⟨rfl, _, rfl, (sD h (fun hb40 h => ?_) (fun hb40 h => ?_))⟩⟩))
 refine .d (.d ⟨rfl, ⟨rfl, _, rfl, (bk h fun x41 hx42 h => ⟨idx_bd hx42, _, (idx_row hx42).trans rfl, ⟨rfl, ⟨rfl, _, rfl, (bk h fun x43 hx44 h => ⟨idx_bd hx44, _, (idx_row hx44).trans rfl, (sEn h (fun hb45 h => ?_) (fun hb45 h => ?_))⟩)⟩⟩⟩)⟩⟩)
 refine .d ?_
 obtain rfl := si h
 replace h := hk36
 exact eB h
 exact lg (ih38 _ _ h rfl) (tk [0, 1] ⟨.p, .p, .i, ⟨⟩⟩ ⟨(nbp rfl), (nbp rfl), ⟨⟩⟩)
 exact ct ⟨si h, rfl, rfl⟩ (tk [] ⟨⟩ ⟨⟩)
 rintro _ _ ⟨rfl, rfl, rfl⟩
 replace h := hk36
 exact .d (eB h)
def m_s_l30Copy (a0 : TFunc) : Option (TFunc) :=
 (
 lapp 24 ([] : List TParam) a0.fParams >>= fun l5 =>
 some l5
 : Option ((List TParam))) >>= fun l1 =>
 (
 lapp 24 ([] : List TParam) a0.fUses >>= fun l11 =>
 some l11
 : Option ((List TParam))) >>= fun l7 =>
 (
 lapp 16 ([] : List Str) a0.fSlots >>= fun l17 =>
 some l17
 : Option ((List Str))) >>= fun l13 =>
 lapp 56 ([] : List TIns) a0.fCode >>= fun l19 =>
 some (TFunc.mk a0.fName l1 l7 l13 a0.fGen l19)
end Go.Am
