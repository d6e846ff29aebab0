/- Models of Go functions, and their walks. (Printed by tools/mg.py.) -/
import Derived.Test.YtginnmdpdgeinaaGreatDoorA4b
set_option linter.unusedVariables false
set_option linter.unusedSimpArgs false
set_option maxRecDepth 100000
namespace Go.Am
open Go Go.RowKit Go.Proofs
def m_s_IsFunc_L2 (a0 : TFunc) (y19 : Int) : Option ((Unit) ⊕ Bool) :=
 (if y19 < (a0.fCode.length : Int) then
 idx a0.fCode y19 >>= fun x23 =>
 (if x23.fOp = 54 then
 (if a0.fGen = true then
 m_s_IsFunc_L2 a0 (W64 (y19 + 1))
 else
 some (.inr false))
 else
 m_s_IsFunc_L2 a0 (W64 (y19 + 1)))
 else
 some (.inl ()))
partial_fixpoint
def m_s_IsFunc (a0 : TFunc) : Option (Bool) :=
 ((
 m_s_l1In (a0.fName.length : Int) 1 100 >>= fun v4 =>
 (if v4 = true then
 (if (a0.fCode.length : Int) > 8000 then
 some (.inr false)
 else
 m_s_l27Names a0 >>= fun v8 =>
 (if v8 = true then
 m_s_l25Top a0 >>= fun v11 =>
 (if v11 = true then
 (if (a0.fSlots.length : Int) > 0 then
 some (.inr false)
 else
 (if a0.fGen = true then
 some (.inr false)
 else
 some (.inl ())))
 else
 some (.inl ()))
 else
 some (.inr false)))
 else
 some (.inr false))
 : Option ((Unit) ⊕ Bool)) >>= fun o1 => match o1 with
 | .inr r => some r
 | .inl _ =>
 ((
 m_s_IsFunc_L2 a0 0
 : Option ((Unit) ⊕ Bool)) >>= fun o16 => match o16 with
 | .inr r => some r
 | .inl _ =>
 m_s_HeightsOf a0 >>= fun (v29, v30) =>
 some v30
 )
 )
theorem ok_s_IsFunc {a0 : TFunc} {r : Bool} (h : m_s_IsFunc a0 = some r) : ACall Tryz.prog 20 [.agg a0.lit] [] (fun res h => res = .bool r ∧ h = []) := by
 refine vc1 Tryz.func20 ?_
 unfold m_s_IsFunc at h
 refine .d ?_
 obtain ⟨o1, ho2, hk3⟩ := bd h
 replace h := ho2
 refine .cut (fun σ η => .inl () = o1 ∧ σ = [(1, .optr 0 0 0 0)] ∧ η = [.row 0 6 1 32 (fun _ => a0.lit)]) ?_ ?_
 refine .d ⟨rfl, ⟨rfl, _, rfl, (bk h fun v4 hv5 h => (pcP (ok_s_l1In hv5) (sVn h (fun hb6 h => ?_) (fun hb6 h => ?_))))⟩⟩
 refine .t (.t (.t (.t (.t (.t (.t (.t (.t (.t (.t (.t (.t (.t (.d ?_))))))))))))))
 obtain rfl := si h
 replace h := hk3
 exact eB h
 refine ⟨rfl, (.f ⟨rfl, _, rfl, (.f (.f (.f (sD h (fun hb7 h => ?_) (fun hb7 h => ?_)))))⟩)⟩
 refine .t (.t (.t (.t (.t (.t (.t (.t (.t (.d ?_)))))))))
 obtain rfl := si h
 replace h := hk3
 exact eB h
 refine ⟨rfl, _, rfl, (.f (bk h fun v8 hv9 h => (pcP (ok_s_l27Names hv9) (.f (.f (sVn h (fun hb10 h => ?_) (fun hb10 h => ?_)))))))⟩
 refine .t (.t (.t (.t (.t (.d ?_)))))
 obtain rfl := si h
 replace h := hk3
 exact eB h
 refine ⟨rfl, _, rfl, (.f (bk h fun v11 hv12 h => (pcP (ok_s_l25Top hv12) (.f (sV h (fun hb13 h => ?_) (fun hb13 h => ?_))))))⟩
 refine ⟨rfl, (.t ⟨rfl, _, rfl, (.t (.t (.t (sD h (fun hb14 h => ?_) (fun hb14 h => ?_)))))⟩)⟩
 refine .t (.t (.t (.f (.t (.f (.t (.d ?_)))))))
 obtain rfl := si h
 replace h := hk3
 exact eB h
 refine ⟨rfl, (.f ⟨rfl, _, rfl, (.t (.f (.f (.t (.f (sV h (fun hb15 h => ?_) (fun hb15 h => ?_)))))))⟩)⟩
 refine .d ?_
 obtain rfl := si h
 replace h := hk3
 exact eB h
 exact ct ⟨si h, rfl, rfl⟩ (tk [0] ⟨.p, ⟨⟩⟩ ⟨(nbp rfl), ⟨⟩⟩)
 exact .f (.f (.f (.f (.f (.f (.f (.f (.f (ct ⟨si h, rfl, rfl⟩ (tk [0] ⟨.p, ⟨⟩⟩ ⟨(nbp rfl), ⟨⟩⟩))))))))))
 rintro _ _ ⟨rfl, rfl, rfl⟩
 replace h := hk3
 obtain ⟨o16, ho17, hk18⟩ := bd h
 replace h := ho17
 refine .cut (fun σ η => .inl () = o16 ∧ σ = [(1, .optr 0 0 0 0)] ∧ η = [.row 0 6 1 32 (fun _ => a0.lit)]) ?_ ?_
 refine .d ?_
 refine le (m_s_IsFunc_L2.partial_correctness a0 (motive := fun y19 o27 => o16 = o27 → LoopAt _ _ [(1, .optr 0 0 0 0), (3, .int .i64 y19)] [.row 0 6 1 32 (fun _ => a0.lit)]) ?_ 0 o16 h rfl) (tk [0] ⟨.p, .i, ⟨⟩⟩ ⟨(nbp rfl), ⟨⟩⟩)
 intro F21 ih20 y19 o27 h hr28
 subst hr28
 refine LoopAt.round (.d (.d ⟨rfl, ⟨rfl, _, rfl, (sD h (fun hb22 h => ?_) (fun hb22 h => ?_))⟩⟩))
 refine .d (.d ⟨rfl, ⟨rfl, _, rfl, (bk h fun x23 hx24 h => ⟨idx_bd hx24, _, (idx_row hx24).trans (TIns.cells_eq x23), (sE h (fun hb25 h => ?_) (fun hb25 h => ?_))⟩)⟩⟩)
 refine ⟨rfl, (.t ⟨rfl, _, rfl, (.t (.t (sVn h (fun hb26 h => ?_) (fun hb26 h => ?_))))⟩)⟩
 refine .d ?_
 obtain rfl := si h
 replace h := hk18
 exact eB h
 exact lg (ih20 _ _ h rfl) (tk [0] ⟨.p, .i, ⟨⟩⟩ ⟨(nbp rfl), ⟨⟩⟩)
 exact .f (.f (.f (.f (lg (ih20 _ _ h rfl) (tk [0] ⟨.p, .i, ⟨⟩⟩ ⟨(nbp rfl), ⟨⟩⟩)))))
 exact ct ⟨si h, rfl, rfl⟩ (tk [0] ⟨.p, ⟨⟩⟩ ⟨(nbp rfl), ⟨⟩⟩)
 rintro _ _ ⟨rfl, rfl, rfl⟩
 replace h := hk18
 refine .d ⟨rfl, _, rfl, ?_⟩
 obtain ⟨⟨v29, v30⟩, hv31, h⟩ := bd h
 exact pcP (ok_s_HeightsOf hv31) (.d (eB h))
def m_i_IsFunc_L2 (a0 : TFunc) (l10 : List (Str × Bool)) (y11 : Int) : Option ((Unit) ⊕ Bool) :=
 (if y11 < (a0.fSlots.length : Int) then
 idx a0.fSlots y11 >>= fun x15 =>
 (if (mgd l10 x15 false) = true then
 some (.inr false)
 else
 m_i_goodName x15 >>= fun v18 =>
 (if v18 = true then
 (if x15 = ([116, 104, 105, 115] : Str) then
 some (.inr false)
 else
 m_i_IsFunc_L2 a0 (mput l10 x15 true) (W64 (y11 + 1)))
 else
 some (.inr false)))
 else
 some (.inl ()))
partial_fixpoint
def m_i_IsFunc_L4 (a0 : TFunc) (l29 : List TParam) (y31 : Int) : Option ((Unit) ⊕ Bool) :=
 (if y31 < (l29.length : Int) then
 idx l29 y31 >>= fun x35 =>
 idx a0.fSlots y31 >>= fun x37 =>
 (if x37 = x35.fName then
 m_i_IsFunc_L4 a0 l29 (W64 (y31 + 1))
 else
 some (.inr false))
 else
 some (.inl ()))
partial_fixpoint
def m_i_IsFunc_L6 (a0 : TFunc) (y45 : Int) : Option ((Unit) ⊕ Bool) :=
 (if y45 < (a0.fCode.length : Int) then
 idx a0.fCode y45 >>= fun x49 =>
 (if x49.fOp = 54 then
 (if a0.fGen = true then
 m_i_IsFunc_L6 a0 (W64 (y45 + 1))
 else
 some (.inr false))
 else
 m_i_IsFunc_L6 a0 (W64 (y45 + 1)))
 else
 some (.inl ()))
partial_fixpoint
def m_i_IsFunc (a0 : TFunc) : Option (Bool) :=
 m_i_InRange (a0.fName.length : Int) 1 100 >>= fun v1 =>
 (if v1 = true then
 (if (a0.fSlots.length : Int) > 600 then
 some false
 else
 (if (a0.fCode.length : Int) > 8000 then
 some false
 else
 (if (W64 ((a0.fParams.length : Int) + (a0.fUses.length : Int))) > (a0.fSlots.length : Int) then
 some false
 else
 ((
 m_i_IsFunc_L2 a0 ([] : List (Str × Bool)) 0
 : Option ((Unit) ⊕ Bool)) >>= fun o7 => match o7 with
 | .inr r => some r
 | .inl _ =>
 ((
 m_CloneP a0.fParams >>= fun v27 =>
 lapp 24 v27 a0.fUses >>= fun l29 =>
 m_i_IsFunc_L4 a0 l29 0
 : Option ((Unit) ⊕ Bool)) >>= fun o24 => match o24 with
 | .inr r => some r
 | .inl _ =>
 ((
 m_i_IsFunc_L6 a0 0
 : Option ((Unit) ⊕ Bool)) >>= fun o42 => match o42 with
 | .inr r => some r
 | .inl _ =>
 m_i_isFile a0 >>= fun v55 =>
 (if v55 = true then
 (if (a0.fSlots.length : Int) > 0 then
 some false
 else
 (if a0.fGen = true then
 some false
 else
 m_i_HeightsOf a0 >>= fun (v60, v61) =>
 some v61))
 else
 m_i_HeightsOf a0 >>= fun (v63, v64) =>
 some v64)
 )
 )
 ))))
 else
 some false)
theorem ok_i_IsFunc {a0 : TFunc} {r : Bool} (h : m_i_IsFunc a0 = some r) : ACall Tryz.prog 27 [.agg a0.lit] [] (fun res h => res = .bool r ∧ h = []) := by
 refine vc1 Tryz.func27 ?_
 unfold m_i_IsFunc at h
 refine .d (.d (.d ⟨rfl, ⟨rfl, _, rfl, (bk h fun v1 hv2 h => (pcP (ok_i_InRange hv2) (sVn h (fun hb3 h => ?_) (fun hb3 h => ?_))))⟩⟩))
 refine .t (.t (.t (.t (.t (.t (.t (.t (.t (.t (.t (.t (.t (.t (.t ?_))))))))))))))
 exact .t (.t (.t (.t (.t (.t (.t (.d (eB h))))))))
 refine ⟨rfl, (.f ⟨rfl, _, rfl, (.f (.f (.f (sD h (fun hb4 h => ?_) (fun hb4 h => ?_)))))⟩)⟩
 refine .t (.t (.t (.t (.t (.t (.t (.t (.t (.t (.t (.t (.t (.t (.t ?_))))))))))))))
 exact .t (.t (.d (eB h)))
 refine ⟨rfl, (.f ⟨rfl, _, rfl, (.f (.f (.f (sD h (fun hb5 h => ?_) (fun hb5 h => ?_)))))⟩)⟩
 exact .t (.t (.t (.t (.t (.t (.t (.t (.t (.t (.t (.t (.d (eB h)))))))))))))
 refine ⟨rfl, (.f ⟨rfl, _, rfl, (.f (.f ⟨rfl, (.f ⟨rfl, _, rfl, (.f (.f (.f ⟨rfl, (.f ⟨rfl, _, rfl, (.f ?_)⟩)⟩)))⟩)⟩))⟩)⟩
 refine .f (.f (sD h (fun hb6 h => ?_) (fun hb6 h => ?_)))
 exact .d (eB h)
 refine .d ⟨row (mc (PV.str) (PV.bool)) ([] : List (Str × Bool)), ?_⟩
 obtain ⟨o7, ho8, hk9⟩ := bd h
 replace h := ho8
 refine .cut (fun σ η => .inl () = o7 ∧ σ = [(1, .optr 0 0 0 0)] ∧ η = [.row 0 6 1 32 (fun _ => a0.lit)]) ?_ ?_
 refine .d ⟨rfl, ⟨rfl, _, rfl, ?_⟩⟩
 refine le (m_i_IsFunc_L2.partial_correctness a0 (motive := fun l10 y11 o22 => o7 = o22 → LoopAt _ _ [(1, .optr 0 0 0 0), (3, .omp 1), (44, sl 1 cS a0.fSlots), (45, .int .i64 (a0.fSlots.length : Int)), (46, .int .i64 y11)] [.row 0 6 1 32 (fun _ => a0.lit), .row 0 2 l10.length 86 (row (mc (PV.str) (PV.bool)) l10)]) ?_ ([] : List (Str × Bool)) 0 o7 h rfl) (tk [0, 1] ⟨.p, .m, .l, .i, .i, ⟨⟩⟩ ⟨(nbp rfl), nw, ⟨⟩⟩)
 intro F13 ih12 l10 y11 o22 h hr23
 subst hr23
 refine LoopAt.round (.d (.d (sD h (fun hb14 h => ?_) (fun hb14 h => ?_))))
 refine .d (.d (bk h fun x15 hx16 h => ⟨idx_bd hx16, _, (idx_row hx16).trans rfl, (.d (.d ⟨.bool (mgd l10 x15 false), mhas l10 x15, mlook_of (ti := tabT.get 9) (c := PV.str) (d := PV.bool) key_str l10 x15 false, (sV h (fun hb17 h => ?_) (fun hb17 h => ?_))⟩))⟩))
 refine .t (.t (.t (.t (.t (.t (.t (.d ?_)))))))
 obtain rfl := si h
 replace h := hk9
 exact eB h
 refine .f (bk h fun v18 hv19 h => (pcP (ok_i_goodName hv19) (.f (.f (sVn h (fun hb20 h => ?_) (fun hb20 h => ?_))))))
 refine .t (.t (.t (.d ?_)))
 obtain rfl := si h
 replace h := hk9
 exact eB h
 refine .f (.f (sE h (fun hb21 h => ?_) (fun hb21 h => ?_)))
 refine .d ?_
 obtain rfl := si h
 replace h := hk9
 exact eB h
 exact ⟨(mput l10 x15 true).length, row (mc (PV.str) (PV.bool)) (mput l10 x15 true), mupd_of (ti := tabT.get 9) (c := PV.str) (d := PV.bool) key_str l10 x15 true, (lg (ih12 _ _ _ h rfl) (tk [0, 1] ⟨.p, .m, .l, .i, .i, ⟨⟩⟩ ⟨(nbp rfl), nw, ⟨⟩⟩))⟩
 exact ct ⟨si h, rfl, rfl⟩ (tk [0] ⟨.p, ⟨⟩⟩ ⟨(nbp rfl), ⟨⟩⟩)
 rintro _ _ ⟨rfl, rfl, rfl⟩
 replace h := hk9
 obtain ⟨o24, ho25, hk26⟩ := bd h
 replace h := ho25
 refine .cut (fun σ η => .inl () = o24 ∧ σ = [(1, .optr 0 0 0 0)] ∧ η = [.row 0 6 1 32 (fun _ => a0.lit)]) ?_ ?_
 refine .d (.float [(0, true), (1, true), (3, true), (4, true), (7, true), (2, false), (5, false), (6, true)] (by kernel_rfl) ?_)
 refine ⟨rfl, ⟨rfl, _, rfl, ⟨rfl, ⟨rfl, _, rfl, (bk h fun v27 hv28 h => (pcF (ok_CloneP hv28) (.own 1 0 0 v27.length) [.row 0 6 1 32 (fun _ => a0.lit), .row 0 2 v27.length 70 (row TParam.cells v27)] ⟨rfl, ⟨rfl, (bk h fun l29 hx30 h => ⟨rfl, lapp_bd hx30, l29.length, row TParam.cells l29, lapp_len hx30, lapp_row hx30 shows_all src_slc, ⟨rfl, ?_⟩⟩)⟩⟩))⟩⟩⟩⟩
 refine le (m_i_IsFunc_L4.partial_correctness a0 l29 (motive := fun y31 o40 => o24 = o40 → LoopAt _ _ [(1, .optr 0 0 0 0), (70, .own 1 0 0 l29.length), (71, .int .i64 (l29.length : Int)), (72, .int .i64 y31)] [.row 0 6 1 32 (fun _ => a0.lit), .row 0 2 l29.length 70 (row TParam.cells l29)]) ?_ 0 o24 h rfl) (tk [0, 1] ⟨.p, .o, .i, .i, ⟨⟩⟩ ⟨(nbp rfl), nw, ⟨⟩⟩)
 intro F33 ih32 y31 o40 h hr41
 subst hr41
 refine LoopAt.round (.d (.d (sD h (fun hb34 h => ?_) (fun hb34 h => ?_))))
 refine .d (.d (bk h fun x35 hx36 h => ⟨rfl, idx_bd hx36, _, Nat.zero_add _, ⟨rfl, _, ((idx_row hx36).trans (TParam.cells_eq x35)), ⟨rfl, _, fun _ => [.str x35.fName, .bool x35.fRef], rfl, one_set rfl, (.d ⟨rfl, ⟨rfl, _, rfl, (bk h fun x37 hx38 h => ⟨idx_bd hx38, _, (idx_row hx38).trans rfl, ⟨rfl, ⟨rfl, _, rfl, (sEn h (fun hb39 h => ?_) (fun hb39 h => ?_))⟩⟩⟩)⟩⟩)⟩⟩⟩))
 refine .d ?_
 obtain rfl := si h
 replace h := hk26
 exact eB h
 exact lg (ih32 _ _ h rfl) (tk [0, 1] ⟨.p, .o, .i, .i, ⟨⟩⟩ ⟨(nbp rfl), nw, ⟨⟩⟩)
 exact ct ⟨si h, rfl, rfl⟩ (tk [0] ⟨.p, ⟨⟩⟩ ⟨(nbp rfl), ⟨⟩⟩)
 rintro _ _ ⟨rfl, rfl, rfl⟩
 replace h := hk26
 obtain ⟨o42, ho43, hk44⟩ := bd h
 replace h := ho43
 refine .cut (fun σ η => .inl () = o42 ∧ σ = [(1, .optr 0 0 0 0)] ∧ η = [.row 0 6 1 32 (fun _ => a0.lit)]) ?_ ?_
 refine .d ⟨rfl, ⟨rfl, _, rfl, ?_⟩⟩
 refine le (m_i_IsFunc_L6.partial_correctness a0 (motive := fun y45 o53 => o42 = o53 → LoopAt _ _ [(1, .optr 0 0 0 0), (87, sl 5 TIns.cells a0.fCode), (88, .int .i64 (a0.fCode.length : Int)), (89, .int .i64 y45)] [.row 0 6 1 32 (fun _ => a0.lit)]) ?_ 0 o42 h rfl) (tk [0] ⟨.p, .l, .i, .i, ⟨⟩⟩ ⟨(nbp rfl), ⟨⟩⟩)
 intro F47 ih46 y45 o53 h hr54
 subst hr54
 refine LoopAt.round (.d (.d (sD h (fun hb48 h => ?_) (fun hb48 h => ?_))))
 refine .d (.d (bk h fun x49 hx50 h => ⟨idx_bd hx50, _, (idx_row hx50).trans (TIns.cells_eq x49), ⟨rfl, _, fun _ => [.int .i64 x49.fOp, .int .i64 x49.fA, .int .i64 x49.fB, .str x49.fS, .str x49.fT], rfl, one_set rfl, (.d ⟨rfl, ⟨rfl, _, rfl, (sE h (fun hb51 h => ?_) (fun hb51 h => ?_))⟩⟩)⟩⟩))
 refine ⟨rfl, (.t ⟨rfl, _, rfl, (.t (.t (sVn h (fun hb52 h => ?_) (fun hb52 h => ?_))))⟩)⟩
 refine .d ?_
 obtain rfl := si h
 replace h := hk44
 exact eB h
 exact lg (ih46 _ _ h rfl) (tk [0] ⟨.p, .l, .i, .i, ⟨⟩⟩ ⟨(nbp rfl), ⟨⟩⟩)
 exact .f (.f (.f (.f (lg (ih46 _ _ h rfl) (tk [0] ⟨.p, .l, .i, .i, ⟨⟩⟩ ⟨(nbp rfl), ⟨⟩⟩)))))
 exact ct ⟨si h, rfl, rfl⟩ (tk [0] ⟨.p, ⟨⟩⟩ ⟨(nbp rfl), ⟨⟩⟩)
 rintro _ _ ⟨rfl, rfl, rfl⟩
 replace h := hk44
 refine .d (.d ⟨rfl, _, rfl, (bk h fun v55 hv56 h => (pcP (ok_i_isFile hv56) (sV h (fun hb57 h => ?_) (fun hb57 h => ?_))))⟩)
 refine ⟨rfl, (.t ⟨rfl, _, rfl, (.t (.t (.t (sD h (fun hb58 h => ?_) (fun hb58 h => ?_)))))⟩)⟩
 exact .t (.t (.t (.t (.t (.d (eB h))))))
 refine ⟨rfl, (.f ⟨rfl, _, rfl, (.t (.f (.t (sV h (fun hb59 h => ?_) (fun hb59 h => ?_)))))⟩)⟩
 exact .d (eB h)
 refine .d ⟨rfl, _, rfl, ?_⟩
 obtain ⟨⟨v60, v61⟩, hv62, h⟩ := bd h
 exact pcP (ok_i_HeightsOf hv62) (.d (eB h))
 refine .f (.f (.f (.f (.f (.f (.f (.d ⟨rfl, _, rfl, ?_⟩)))))))
 obtain ⟨⟨v63, v64⟩, hv65, h⟩ := bd h
 exact pcP (ok_i_HeightsOf hv65) (.d (eB h))
end Go.Am
