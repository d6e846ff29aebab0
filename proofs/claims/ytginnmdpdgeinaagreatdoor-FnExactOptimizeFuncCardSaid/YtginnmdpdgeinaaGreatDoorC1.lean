/- Models of Go functions, and their walks. (Printed by tools/mg.py.) -/
import Derived.Test.YtginnmdpdgeinaaGreatDoorB4
import Derived.Test.YtginnmdpdgeinaaGreatDoorL2
import Derived.Test.YtginnmdpdgeinaaGreatDoorA5
set_option linter.unusedVariables false
set_option linter.unusedSimpArgs false
set_option maxRecDepth 100000
namespace Go.Am
open Go Go.RowKit Go.Proofs
def m_i_TargetsOf_L2 (a0 : TFunc) (l5 : List Int) (y6 : Int) : Option ((List Int)) :=
 (if y6 < (a0.fCode.length : Int) then
 idx a0.fCode y6 >>= fun x10 =>
 m_i_HasTarget x10.fOp >>= fun v12 =>
 (if v12 = true then
 (if x10.fA ≥ 0 then
 (if x10.fA < (a0.fCode.length : Int) then
 lapp 8 l5 ([x10.fA] : List Int) >>= fun l17 =>
 m_i_TargetsOf_L2 a0 l17 (W64 (y6 + 1))
 else
 m_i_TargetsOf_L2 a0 l5 (W64 (y6 + 1)))
 else
 m_i_TargetsOf_L2 a0 l5 (W64 (y6 + 1)))
 else
 m_i_TargetsOf_L2 a0 l5 (W64 (y6 + 1)))
 else
 some l5)
partial_fixpoint
def m_i_TargetsOf (a0 : TFunc) : Option ((List Int)) :=
 (
 m_i_TargetsOf_L2 a0 ([] : List Int) 0
 : Option ((List Int))) >>= fun l1 =>
 (
 m_SortN l1 >>= fun v25 =>
 some v25
 : Option ((List Int))) >>= fun l21 =>
 m_CompactN l21 >>= fun v28 =>
 some v28
theorem ok_i_TargetsOf {a0 : TFunc} {r : (List Int)} (h : m_i_TargetsOf a0 = some r) : ACall Tryz.prog 71 [.agg a0.lit] [] (fun res h => res = .own 0 0 0 r.length ∧ h = [.row 0 1 r.length 3 (row cI r)]) := by
 refine vc1 Tryz.func71 ?_
 unfold m_i_TargetsOf at h
 refine .d (.d ⟨row cI ([] : List Int), row_lit cI ([] : List Int) rfl (cll_refl rfl), ?_⟩)
 obtain ⟨o2, ho3, hk4⟩ := bd h
 replace h := ho3
 refine .cut (fun σ η => ∃ l1, l1 = o2 ∧ σ = [(3, .own 0 0 0 l1.length)] ∧ η = [.row 0 1 l1.length 3 (row cI l1)]) ?_ ?_
 refine .d ⟨rfl, ⟨rfl, _, rfl, ?_⟩⟩
 refine le (m_i_TargetsOf_L2.partial_correctness a0 (motive := fun l5 y6 o19 => o2 = o19 → LoopAt _ _ [(1, .optr 0 0 0 0), (3, .own 1 0 0 l5.length), (8, sl 5 TIns.cells a0.fCode), (9, .int .i64 (a0.fCode.length : Int)), (10, .int .i64 y6)] [.row 0 6 1 32 (fun _ => a0.lit), .row 0 1 l5.length 3 (row cI l5)]) ?_ ([] : List Int) 0 o2 h rfl) (tk [0, 1] ⟨.p, .o, .l, .i, .i, ⟨⟩⟩ ⟨(nbp rfl), nw, ⟨⟩⟩)
 intro F8 ih7 l5 y6 o19 h hr20
 subst hr20
 refine LoopAt.round (.d (.d (sD h (fun hb9 h => ?_) (fun hb9 h => ?_))))
 refine .d (.d (bk h fun x10 hx11 h => ⟨idx_bd hx11, _, (idx_row hx11).trans (TIns.cells_eq x10), ⟨rfl, _, fun _ => [.int .i64 x10.fOp, .int .i64 x10.fA, .int .i64 x10.fB, .str x10.fS, .str x10.fT], rfl, one_set rfl, (.d ⟨rfl, ⟨rfl, _, rfl, (bk h fun v12 hv13 h => (pcP (ok_i_HasTarget hv13) (sV h (fun hb14 h => ?_) (fun hb14 h => ?_))))⟩⟩)⟩⟩))
 refine ⟨rfl, (.t ⟨rfl, _, rfl, (.t (.t (sD h (fun hb15 h => ?_) (fun hb15 h => ?_))))⟩)⟩
 refine ⟨rfl, (.t ⟨rfl, _, rfl, (.t ⟨rfl, (.t ⟨rfl, _, rfl, (.t (.t (.t (sD h (fun hb16 h => ?_) (fun hb16 h => ?_)))))⟩)⟩)⟩)⟩
 exact ⟨rfl, ⟨rfl, _, rfl, ⟨row cI ([x10.fA] : List Int), row_lit cI ([x10.fA] : List Int) rfl (cll_refl rfl), (bk h fun l17 hx18 h => ⟨rfl, rfl, lapp_bd hx18, l17.length, row cI l17, lapp_len hx18, lapp_row hx18 shows_all (src_own shows_all), (lg (ih7 _ _ _ h rfl) (tk [0, 1] ⟨.p, .o, .l, .i, .i, ⟨⟩⟩ ⟨(nbp rfl), nw, ⟨⟩⟩))⟩)⟩⟩⟩
 exact lg (ih7 _ _ _ h rfl) (tk [0, 1] ⟨.p, .o, .l, .i, .i, ⟨⟩⟩ ⟨(nbp rfl), nw, ⟨⟩⟩)
 exact .f (.f (.f (.f (.f (.f (.f (lg (ih7 _ _ _ h rfl) (tk [0, 1] ⟨.p, .o, .l, .i, .i, ⟨⟩⟩ ⟨(nbp rfl), nw, ⟨⟩⟩))))))))
 exact .f (.f (.f (.f (.f (.f (.f (.f (.f (.f (.f (lg (ih7 _ _ _ h rfl) (tk [0, 1] ⟨.p, .o, .l, .i, .i, ⟨⟩⟩ ⟨(nbp rfl), nw, ⟨⟩⟩))))))))))))
 exact ct ⟨_, si h, rfl, rfl⟩ (tk [1] ⟨.o, ⟨⟩⟩ ⟨nw, ⟨⟩⟩)
 rintro _ _ ⟨l1, rfl, rfl, rfl⟩
 replace h := hk4
 obtain ⟨o22, ho23, hk24⟩ := bd h
 replace h := ho23
 refine .cut (fun σ η => ∃ l21, l21 = o22 ∧ σ = [(3, .own 0 0 0 l21.length)] ∧ η = [.row 0 1 l21.length 3 (row cI l21)]) ?_ ?_
 refine bk h fun v25 hv26 h => ?_
 obtain hl27 := m_SortN_len hv26
 exact pcO (ok_SortN (g1000 := 0) hv26) [0] ⟨ov, ⟨⟩⟩ (.tup []) [.row 0 1 v25.length 3 (row cI v25)] (ct ⟨_, si h, rfl, rfl⟩ (tk [0] ⟨(.ox (by first | rfl | simp [hl27])), ⟨⟩⟩ ⟨nw, ⟨⟩⟩))
 rintro _ _ ⟨l21, rfl, rfl, rfl⟩
 replace h := hk24
 refine .d (bk h fun v28 hv29 h => (pcO (ok_CompactN (g1000 := 0) hv29) [0] ⟨ov, ⟨⟩⟩ (.own 1 0 0 v28.length) [.dead, .row 0 1 v28.length 3 (row cI v28)] ?_))
 obtain rfl := si h
 exact en [1] ⟨rfl, rfl⟩ .o ⟨nw, ⟨⟩⟩
def m_i_targetSet_L2 (v5 : List Int) (l7 : List (Int × Bool)) (y8 : Int) : Option ((List (Int × Bool))) :=
 (if y8 < (v5.length : Int) then
 idx v5 y8 >>= fun x12 =>
 m_i_targetSet_L2 v5 (mput l7 x12 true) (W64 (y8 + 1))
 else
 some l7)
partial_fixpoint
def m_i_targetSet (a0 : TFunc) : Option ((List (Int × Bool))) :=
 (
 m_i_TargetsOf a0 >>= fun v5 =>
 m_i_targetSet_L2 v5 ([] : List (Int × Bool)) 0
 : Option ((List (Int × Bool)))) >>= fun l1 =>
 some l1
theorem ok_i_targetSet {a0 : TFunc} {r : (List (Int × Bool))} (h : m_i_targetSet a0 = some r) : ACall Tryz.prog 29 [.agg a0.lit] [] (fun res h => res = .omp 0 ∧ h = [.row 0 2 r.length 50 (row (mc (PV.int .i64) (PV.bool)) r)]) := by
 refine vc1 Tryz.func29 ?_
 unfold m_i_targetSet at h
 refine .d (.d ⟨row (mc (PV.int .i64) (PV.bool)) ([] : List (Int × Bool)), ?_⟩)
 obtain ⟨o2, ho3, hk4⟩ := bd h
 replace h := ho3
 refine .cut (fun σ η => ∃ l1, l1 = o2 ∧ σ = [(3, .omp 0)] ∧ η = [.row 0 2 l1.length 50 (row (mc (PV.int .i64) (PV.bool)) l1)]) ?_ ?_
 refine .d ⟨rfl, _, rfl, (bk h fun v5 hv6 h => (pcF (ok_i_TargetsOf hv6) (.own 2 0 0 v5.length) [.row 0 6 1 32 (fun _ => a0.lit), .row 0 2 ([] : List (Int × Bool)).length 50 (row (mc (PV.int .i64) (PV.bool)) ([] : List (Int × Bool))), .row 0 1 v5.length 3 (row cI v5)] ⟨rfl, ?_⟩))⟩
 refine le (m_i_targetSet_L2.partial_correctness v5 (motive := fun l7 y8 o14 => o2 = o14 → LoopAt _ _ [(3, .omp 0), (8, .own 1 0 0 v5.length), (9, .int .i64 (v5.length : Int)), (10, .int .i64 y8)] [.row 0 2 l7.length 50 (row (mc (PV.int .i64) (PV.bool)) l7), .row 0 1 v5.length 3 (row cI v5)]) ?_ ([] : List (Int × Bool)) 0 o2 h rfl) (tk [1, 2] ⟨.m, .o, .i, .i, ⟨⟩⟩ ⟨nw, nw, ⟨⟩⟩)
 intro F10 ih9 l7 y8 o14 h hr15
 subst hr15
 refine LoopAt.round (.d (.d (sD h (fun hb11 h => ?_) (fun hb11 h => ?_))))
 exact .d (.d (bk h fun x12 hx13 h => ⟨rfl, idx_bd hx13, _, Nat.zero_add _, ⟨rfl, _, ((idx_row hx13).trans rfl), ⟨(mput l7 x12 true).length, row (mc (PV.int .i64) (PV.bool)) (mput l7 x12 true), mupd_of (ti := tabT.get 3) (c := PV.int .i64) (d := PV.bool) (key_int .i64) l7 x12 true, (lg (ih9 _ _ _ h rfl) (tk [0, 1] ⟨.m, .o, .i, .i, ⟨⟩⟩ ⟨nw, nw, ⟨⟩⟩))⟩⟩⟩))
 exact ct ⟨_, si h, rfl, rfl⟩ (tk [0] ⟨.m, ⟨⟩⟩ ⟨nw, ⟨⟩⟩)
 rintro _ _ ⟨l1, rfl, rfl, rfl⟩
 replace h := hk4
 refine .d ?_
 obtain rfl := si h
 exact en [0] ⟨rfl, rfl⟩ .m ⟨nw, ⟨⟩⟩
def m_i_windowAt (a0 : List TIns) (a1 : List (Int × Bool)) (a2 : Int) : Option ((List TIns)) :=
 idx a0 a2 >>= fun x1 =>
 m_i_PushValue x1 >>= fun (v3, v4) =>
 ((
 (if v4 = true then
 (if (W64 (a2 + 1)) ≥ (a0.length : Int) then
 some (.inr [])
 else
 (if (mgd a1 (W64 (a2 + 1)) false) = true then
 some (.inr [])
 else
 some (.inl ())))
 else
 some (.inr []))
 : Option ((Unit) ⊕ (List TIns))) >>= fun o6 => match o6 with
 | .inr r => some r
 | .inl _ =>
 idx a0 (W64 (a2 + 1)) >>= fun x12 =>
 ((
 (
 some ()
 : Option (Unit)) >>= fun _ =>
 (if x12.fOp = 11 then
 m_i_UnaryOp x12.fA v3 >>= fun (v21, v22) =>
 (
 m_i_PushOf v21 >>= fun (v33, v34) =>
 some (v33.fOp, v33.fA, v33.fB, v33.fS, v33.fT, v34)
 : Option (Int × Int × Int × Str × Str × Bool)) >>= fun (y24, y25, y26, s27, s28, b29) =>
 (if b29 = true then
 (if v22 = 0 then
 some (.inr ([(TIns.mk 1 0 0 [] []), (TIns.mk y24 y25 y26 s27 s28)] : List TIns))
 else
 some (.inl ()))
 else
 some (.inl ()))
 else
 (if x12.fOp = 13 then
 m_i_ToBool v3 >>= fun v39 =>
 m_i_BoolValue v39 >>= fun v41 =>
 m_i_PushOf v41 >>= fun (v43, v44) =>
 some (.inr ([(TIns.mk 1 0 0 [] []), v43] : List TIns))
 else
 (if x12.fOp = 28 then
 m_i_ToBool v3 >>= fun v47 =>
 (if v47 = true then
 some (.inr ([(TIns.mk 1 0 0 [] []), (TIns.mk 1 0 0 [] [])] : List TIns))
 else
 some (.inr ([(TIns.mk 1 0 0 [] []), (TIns.mk 27 x12.fA 0 [] [])] : List TIns)))
 else
 (if x12.fOp = 29 then
 ((
 (if v3.fKind = 0 then
 some (.inr (.inr ([(TIns.mk 1 0 0 [] []), (TIns.mk 1 0 0 [] [])] : List TIns)))
 else
 some (.inl ()))
 : Option ((Unit) ⊕ ((Unit) ⊕ (List TIns)))) >>= fun o51 => match o51 with
 | .inr r => some r
 | .inl _ =>
 idx a0 a2 >>= fun x55 =>
 some (.inr ([x55, (TIns.mk 27 x12.fA 0 [] [])] : List TIns))
 )
 else
 (if x12.fOp = 10 then
 some (.inr ([(TIns.mk 1 0 0 [] []), (TIns.mk 1 0 0 [] [])] : List TIns))
 else
 some (.inl ()))))))
 : Option ((Unit) ⊕ (List TIns))) >>= fun o14 => match o14 with
 | .inr r => some r
 | .inl _ =>
 m_i_PushValue x12 >>= fun (v58, v59) =>
 ((
 (if v59 = true then
 (if (W64 (a2 + 2)) ≥ (a0.length : Int) then
 some (.inr [])
 else
 (if (mgd a1 (W64 (a2 + 2)) false) = true then
 some (.inr [])
 else
 idx a0 (W64 (a2 + 2)) >>= fun x67 =>
 (if x67.fOp = 12 then
 some (.inl ())
 else
 some (.inr []))))
 else
 some (.inr []))
 : Option ((Unit) ⊕ (List TIns))) >>= fun o61 => match o61 with
 | .inr r => some r
 | .inl _ =>
 (
 idx a0 (W64 (a2 + 2)) >>= fun x79 =>
 m_i_BinaryOp x79.fA v3 v58 >>= fun (v81, v82) =>
 some (v81.fKind, v81.fNum, v81.fStr, v81.fNext, v81.fItems, v82)
 : Option (Int × Int × Str × Int × (List TEntry) × Int)) >>= fun (y70, y71, s72, y73, l74, y75) =>
 m_i_PushOf (TValue.mk y70 y71 s72 y73 l74) >>= fun (v84, v85) =>
 (if v85 = true then
 (if y75 = 0 then
 some ([(TIns.mk 1 0 0 [] []), (TIns.mk 1 0 0 [] []), v84] : List TIns)
 else
 some [])
 else
 some [])
 )
 )
 )
theorem ok_i_windowAt {a0 : List TIns} {a1 : List (Int × Bool)} {a2 : Int} {r : (List TIns)} {g1000 : Nat} (h : m_i_windowAt a0 a1 a2 = some r) : ACall Tryz.prog 30 [sl 5 TIns.cells a0, .omp 0, .int .i64 a2] [.row g1000 2 a1.length 50 (row (mc (PV.int .i64) (PV.bool)) a1)] (fun res h => res = sl 5 TIns.cells r ∧ h = [.row g1000 2 a1.length 50 (row (mc (PV.int .i64) (PV.bool)) a1)]) := by
 refine vc1 Tryz.func30 ?_
 unfold m_i_windowAt at h
 refine .d (.d (bk h fun x1 hx2 h => ⟨idx_bd hx2, _, (idx_row hx2).trans (TIns.cells_eq x1), ?_⟩))
 obtain ⟨⟨v3, v4⟩, hv5, h⟩ := bd h
 refine pcP (ok_i_PushValue hv5) ⟨rfl, _, fun _ => [.int .i64 v3.fKind, .int .i64 v3.fNum, .str v3.fStr, .int .i64 v3.fNext, sl 8 TEntry.cells v3.fItems], rfl, one_set rfl, ?_⟩
 obtain ⟨o6, ho7, hk8⟩ := bd h
 replace h := ho7
 refine .cut (fun σ η => .inl () = o6 ∧ σ = [(0, sl 5 TIns.cells a0), (1, .omp 0), (2, .int .i64 a2), (7, .optr 1 0 0 0)] ∧ η = [.row g1000 2 a1.length 50 (row (mc (PV.int .i64) (PV.bool)) a1), .row 0 5 1 74 (fun _ => v3.lit)]) ?_ ?_
 refine .d (sVn h (fun hb9 h => ?_) (fun hb9 h => ?_))
 refine .t (.t (.t (.t (.t (.t (.t (.t (.t (.t (.t (.d ?_)))))))))))
 obtain rfl := si h
 replace h := hk8
 obtain rfl := si h
 exact en [0] ⟨rfl, rfl⟩ .z ⟨od, ⟨⟩⟩
 refine .f (.f (.f (.f (.f (sD h (fun hb10 h => ?_) (fun hb10 h => ?_))))))
 refine .t (.t (.t (.t (.t (.d ?_)))))
 obtain rfl := si h
 replace h := hk8
 obtain rfl := si h
 exact en [0] ⟨rfl, rfl⟩ .z ⟨od, ⟨⟩⟩
 refine .f (.f (.f ⟨.bool (mgd a1 (W64 (a2 + 1)) false), mhas a1 (W64 (a2 + 1)), mlook_of (ti := tabT.get 3) (c := PV.int .i64) (d := PV.bool) (key_int .i64) a1 (W64 (a2 + 1)) false, (.f (sV h (fun hb11 h => ?_) (fun hb11 h => ?_)))⟩))
 refine .d ?_
 obtain rfl := si h
 replace h := hk8
 obtain rfl := si h
 exact en [0] ⟨rfl, rfl⟩ .z ⟨od, ⟨⟩⟩
 exact ct ⟨si h, rfl, rfl⟩ (tk [0, 1] ⟨.l, .m, .i, .p, ⟨⟩⟩ ⟨od, (nbp rfl), ⟨⟩⟩)
 rintro _ _ ⟨rfl, rfl, rfl⟩
 replace h := hk8
 refine .d ⟨rfl, _, fun _ => [.int .i64 1, .int .i64 0, .int .i64 0, .str [], .str []], rfl, one_set rfl, (.d (bk h fun x12 hx13 h => ⟨idx_bd hx13, _, (idx_row hx13).trans (TIns.cells_eq x12), ⟨rfl, _, fun _ => [.int .i64 x12.fOp, .int .i64 x12.fA, .int .i64 x12.fB, .str x12.fS, .str x12.fT], rfl, one_set rfl, ?_⟩⟩))⟩
 obtain ⟨o14, ho15, hk16⟩ := bd h
 replace h := ho15
 refine .cut (fun σ η => .inl () = o14 ∧ σ = [(0, sl 5 TIns.cells a0), (1, .omp 0), (2, .int .i64 a2), (7, .optr 1 0 0 0), (9, .optr 2 0 0 0), (10, .optr 3 0 0 0)] ∧ η = [.row g1000 2 a1.length 50 (row (mc (PV.int .i64) (PV.bool)) a1), .row 0 5 1 74 (fun _ => v3.lit), .row 0 5 1 46 (fun _ => [.int .i64 1, .int .i64 0, .int .i64 0, .str [], .str []]), .row 0 5 1 46 (fun _ => x12.lit)]) ?_ ?_
 refine .d ⟨rfl, ⟨rfl, _, rfl, ?_⟩⟩
 obtain ⟨o17, ho18, hk19⟩ := bd h
 replace h := ho18
 refine .cut (fun σ η => () = o17 ∧ σ = [(0, sl 5 TIns.cells a0), (1, .omp 0), (2, .int .i64 a2), (7, .optr 1 0 0 0), (9, .optr 2 0 0 0), (10, .optr 3 0 0 0), (52, .int .i64 x12.fOp), (53, .bool (x12.fOp == 11))] ∧ η = [.row g1000 2 a1.length 50 (row (mc (PV.int .i64) (PV.bool)) a1), .row 0 5 1 74 (fun _ => v3.lit), .row 0 5 1 46 (fun _ => [.int .i64 1, .int .i64 0, .int .i64 0, .str [], .str []]), .row 0 5 1 46 (fun _ => x12.lit)]) ?_ ?_
 exact ct ⟨si h, rfl, rfl⟩ (tk [0, 1, 2, 3] ⟨.l, .m, .i, .p, .p, .p, .i, .b, ⟨⟩⟩ ⟨od, (nbp rfl), (nbp rfl), (nbp rfl), ⟨⟩⟩)
 rintro _ _ ⟨rfl, rfl, rfl⟩
 replace h := hk19
 refine sE h (fun hb20 h => ?_) (fun hb20 h => ?_)
 refine .d ⟨rfl, ⟨rfl, _, rfl, ⟨rfl, _, rfl, ?_⟩⟩⟩
 obtain ⟨⟨v21, v22⟩, hv23, h⟩ := bd h
 refine pcP (ok_i_UnaryOp hv23) ⟨rfl, _, fun _ => [.int .i64 v21.fKind, .int .i64 v21.fNum, .str v21.fStr, .int .i64 v21.fNext, sl 8 TEntry.cells v21.fItems], rfl, one_set rfl, ?_⟩
 obtain ⟨o30, ho31, hk32⟩ := bd h
 replace h := ho31
 refine .cut (fun σ η => ∃ y24, ∃ y25, ∃ y26, ∃ s27, ∃ s28, ∃ b29, (y24, y25, y26, s27, s28, b29) = o30 ∧ σ = [(0, sl 5 TIns.cells a0), (1, .omp 0), (2, .int .i64 a2), (7, .optr 1 0 0 0), (9, .optr 2 0 0 0), (10, .optr 3 0 0 0), (12, .int .i64 v22), (13, .optr 4 0 0 0), (14, .bool b29)] ∧ η = [.row g1000 2 a1.length 50 (row (mc (PV.int .i64) (PV.bool)) a1), .row 0 5 1 74 (fun _ => v3.lit), .row 0 5 1 46 (fun _ => [.int .i64 1, .int .i64 0, .int .i64 0, .str [], .str []]), .row 0 5 1 46 (fun _ => x12.lit), .row 0 5 1 46 (fun _ => [.int .i64 y24, .int .i64 y25, .int .i64 y26, .str s27, .str s28])]) ?_ ?_
 refine ⟨rfl, _, rfl, ?_⟩
 obtain ⟨⟨v33, v34⟩, hv35, h⟩ := bd h
 exact pcP (ok_i_PushOf hv35) ⟨rfl, _, fun _ => [.int .i64 v33.fOp, .int .i64 v33.fA, .int .i64 v33.fB, .str v33.fS, .str v33.fT], rfl, one_set rfl, (ct ⟨_, _, _, _, _, _, si h, rfl, rfl⟩ (tk [0, 1, 2, 3, 5] ⟨.l, .m, .i, .p, .p, .p, .i, .p, .b, ⟨⟩⟩ ⟨od, (nbp rfl), (nbp rfl), (nbp rfl), (nbp rfl), ⟨⟩⟩))⟩
 rintro _ _ ⟨y24, y25, y26, s27, s28, b29, rfl, rfl, rfl⟩
 replace h := hk32
 refine .d (sV h (fun hb36 h => ?_) (fun hb36 h => ?_))
 refine .t (.t (sE h (fun hb37 h => ?_) (fun hb37 h => ?_)))
 refine .d ⟨rfl, _, rfl, ⟨rfl, _, rfl, ⟨row TIns.cells ([(TIns.mk 1 0 0 [] []), (TIns.mk y24 y25 y26 s27 s28)] : List TIns), row_lit TIns.cells ([(TIns.mk 1 0 0 [] []), (TIns.mk y24 y25 y26 s27 s28)] : List TIns) rfl (cll_refl rfl), ?_⟩⟩⟩
 obtain rfl := si h
 replace h := hk16
 obtain rfl := si h
 exact en [0] ⟨rfl, rfl⟩ ((.rx rfl)) ⟨od, ⟨⟩⟩
 exact ct ⟨si h, rfl, rfl⟩ (tk [0, 1, 2, 3] ⟨.l, .m, .i, .p, .p, .p, ⟨⟩⟩ ⟨od, (nbp rfl), (nbp rfl), (nbp rfl), ⟨⟩⟩)
 exact .f (.f (.f (ct ⟨si h, rfl, rfl⟩ (tk [0, 1, 2, 3] ⟨.l, .m, .i, .p, .p, .p, ⟨⟩⟩ ⟨od, (nbp rfl), (nbp rfl), (nbp rfl), ⟨⟩⟩))))
 refine .d (sE h (fun hb38 h => ?_) (fun hb38 h => ?_))
 refine .d ⟨rfl, _, rfl, (bk h fun v39 hv40 h => (pcP (ok_i_ToBool hv40) (bk h fun v41 hv42 h => (pcP (ok_i_BoolValue hv42) ?_))))⟩
 obtain ⟨⟨v43, v44⟩, hv45, h⟩ := bd h
 refine pcP (ok_i_PushOf hv45) ⟨rfl, _, fun _ => [.int .i64 v43.fOp, .int .i64 v43.fA, .int .i64 v43.fB, .str v43.fS, .str v43.fT], rfl, one_set rfl, (.d ⟨rfl, _, rfl, ⟨rfl, _, rfl, ⟨row TIns.cells ([(TIns.mk 1 0 0 [] []), v43] : List TIns), row_lit TIns.cells ([(TIns.mk 1 0 0 [] []), v43] : List TIns) rfl (cll_refl rfl), ?_⟩⟩⟩)⟩
 obtain rfl := si h
 replace h := hk16
 obtain rfl := si h
 exact en [0] ⟨rfl, rfl⟩ ((.rx rfl)) ⟨od, ⟨⟩⟩
 refine .d (sE h (fun hb46 h => ?_) (fun hb46 h => ?_))
 refine .d (.d ⟨rfl, _, rfl, (bk h fun v47 hv48 h => (pcP (ok_i_ToBool hv48) (sV h (fun hb49 h => ?_) (fun hb49 h => ?_))))⟩)
 refine .d ⟨rfl, _, rfl, ⟨rfl, _, rfl, ⟨row TIns.cells ([(TIns.mk 1 0 0 [] []), (TIns.mk 1 0 0 [] [])] : List TIns), row_lit TIns.cells ([(TIns.mk 1 0 0 [] []), (TIns.mk 1 0 0 [] [])] : List TIns) rfl (cll_refl rfl), ?_⟩⟩⟩
 obtain rfl := si h
 replace h := hk16
 obtain rfl := si h
 exact en [0] ⟨rfl, rfl⟩ ((.rx rfl)) ⟨od, ⟨⟩⟩
 refine .d ⟨rfl, _, rfl, ⟨rfl, ⟨rfl, _, rfl, ⟨row TIns.cells ([(TIns.mk 1 0 0 [] []), (TIns.mk 27 x12.fA 0 [] [])] : List TIns), row_lit TIns.cells ([(TIns.mk 1 0 0 [] []), (TIns.mk 27 x12.fA 0 [] [])] : List TIns) rfl (cll_refl rfl), ?_⟩⟩⟩⟩
 obtain rfl := si h
 replace h := hk16
 obtain rfl := si h
 exact en [0] ⟨rfl, rfl⟩ ((.rx rfl)) ⟨od, ⟨⟩⟩
 refine .d (sE h (fun hb50 h => ?_) (fun hb50 h => ?_))
 obtain ⟨o51, ho52, hk53⟩ := bd h
 replace h := ho52
 refine .cut (fun σ η => .inl () = o51 ∧ σ = [(0, sl 5 TIns.cells a0), (2, .int .i64 a2), (10, .optr 1 0 0 0)] ∧ η = [.row g1000 2 a1.length 50 (row (mc (PV.int .i64) (PV.bool)) a1), .row 0 5 1 46 (fun _ => x12.lit)]) ?_ ?_
 refine .d ⟨rfl, ⟨rfl, _, rfl, (sE h (fun hb54 h => ?_) (fun hb54 h => ?_))⟩⟩
 refine .d ⟨rfl, _, rfl, ⟨rfl, _, rfl, ⟨row TIns.cells ([(TIns.mk 1 0 0 [] []), (TIns.mk 1 0 0 [] [])] : List TIns), row_lit TIns.cells ([(TIns.mk 1 0 0 [] []), (TIns.mk 1 0 0 [] [])] : List TIns) rfl (cll_refl rfl), ?_⟩⟩⟩
 obtain rfl := si h
 replace h := hk53
 obtain rfl := si h
 replace h := hk16
 obtain rfl := si h
 exact en [0] ⟨rfl, rfl⟩ ((.rx rfl)) ⟨od, ⟨⟩⟩
 exact ct ⟨si h, rfl, rfl⟩ (tk [0, 3] ⟨.l, .i, .p, ⟨⟩⟩ ⟨od, (nbp rfl), ⟨⟩⟩)
 rintro _ _ ⟨rfl, rfl, rfl⟩
 replace h := hk53
 refine .d (.float [(0, true), (1, true), (2, true), (3, true), (4, true), (5, true), (6, true), (7, false), (8, true)] (by kernel_rfl) ?_)
 refine bk h fun x55 hx56 h => ⟨idx_bd hx56, _, (idx_row hx56).trans (TIns.cells_eq x55), ⟨rfl, ⟨rfl, _, rfl, ⟨row TIns.cells ([x55, (TIns.mk 27 x12.fA 0 [] [])] : List TIns), row_lit TIns.cells ([x55, (TIns.mk 27 x12.fA 0 [] [])] : List TIns) rfl (cll_refl rfl), ?_⟩⟩⟩⟩
 obtain rfl := si h
 replace h := hk16
 obtain rfl := si h
 exact en [0] ⟨rfl, rfl⟩ ((.rx rfl)) ⟨od, ⟨⟩⟩
 refine .d (sE h (fun hb57 h => ?_) (fun hb57 h => ?_))
 refine .d ⟨rfl, _, rfl, ⟨rfl, _, rfl, ⟨row TIns.cells ([(TIns.mk 1 0 0 [] []), (TIns.mk 1 0 0 [] [])] : List TIns), row_lit TIns.cells ([(TIns.mk 1 0 0 [] []), (TIns.mk 1 0 0 [] [])] : List TIns) rfl (cll_refl rfl), ?_⟩⟩⟩
 obtain rfl := si h
 replace h := hk16
 obtain rfl := si h
 exact en [0] ⟨rfl, rfl⟩ ((.rx rfl)) ⟨od, ⟨⟩⟩
 exact ct ⟨si h, rfl, rfl⟩ (tk [0, 1, 2, 3] ⟨.l, .m, .i, .p, .p, .p, ⟨⟩⟩ ⟨od, (nbp rfl), (nbp rfl), (nbp rfl), ⟨⟩⟩)
 rintro _ _ ⟨rfl, rfl, rfl⟩
 replace h := hk16
 refine .d ⟨rfl, _, rfl, ?_⟩
 obtain ⟨⟨v58, v59⟩, hv60, h⟩ := bd h
 refine pcP (ok_i_PushValue hv60) ⟨rfl, _, fun _ => [.int .i64 v58.fKind, .int .i64 v58.fNum, .str v58.fStr, .int .i64 v58.fNext, sl 8 TEntry.cells v58.fItems], rfl, one_set rfl, ?_⟩
 obtain ⟨o61, ho62, hk63⟩ := bd h
 replace h := ho62
 refine .cut (fun σ η => .inl () = o61 ∧ σ = [(0, sl 5 TIns.cells a0), (2, .int .i64 a2), (7, .optr 1 0 0 0), (9, .optr 2 0 0 0), (17, .optr 3 0 0 0)] ∧ η = [.row g1000 2 a1.length 50 (row (mc (PV.int .i64) (PV.bool)) a1), .row 0 5 1 74 (fun _ => v3.lit), .row 0 5 1 46 (fun _ => [.int .i64 1, .int .i64 0, .int .i64 0, .str [], .str []]), .row 0 5 1 74 (fun _ => v58.lit)]) ?_ ?_
 refine .d (sVn h (fun hb64 h => ?_) (fun hb64 h => ?_))
 refine .t (.t (.t (.t (.t (.t (.t (.t (.t (.t (.t (.t (.t (.t (.t ?_))))))))))))))
 refine .t (.t (.t (.t (.d ?_))))
 obtain rfl := si h
 replace h := hk63
 obtain rfl := si h
 exact en [0] ⟨rfl, rfl⟩ .z ⟨od, ⟨⟩⟩
 refine .f (.f (.f (.f (.f (sD h (fun hb65 h => ?_) (fun hb65 h => ?_))))))
 refine .t (.t (.t (.t (.t (.t (.t (.t (.t (.t (.t (.t (.t (.d ?_)))))))))))))
 obtain rfl := si h
 replace h := hk63
 obtain rfl := si h
 exact en [0] ⟨rfl, rfl⟩ .z ⟨od, ⟨⟩⟩
 refine .f (.f (.f ⟨.bool (mgd a1 (W64 (a2 + 2)) false), mhas a1 (W64 (a2 + 2)), mlook_of (ti := tabT.get 3) (c := PV.int .i64) (d := PV.bool) (key_int .i64) a1 (W64 (a2 + 2)) false, (.f (sV h (fun hb66 h => ?_) (fun hb66 h => ?_)))⟩))
 refine .t (.t (.t (.t (.t (.t (.t (.t (.d ?_))))))))
 obtain rfl := si h
 replace h := hk63
 obtain rfl := si h
 exact en [0] ⟨rfl, rfl⟩ .z ⟨od, ⟨⟩⟩
 refine .f (.f (.f (bk h fun x67 hx68 h => ⟨idx_bd hx68, _, (idx_row hx68).trans (TIns.cells_eq x67), (.f (.f (.f (.f (sN h (fun hb69 h => ?_) (fun hb69 h => ?_))))))⟩)))
 refine .d ?_
 obtain rfl := si h
 replace h := hk63
 obtain rfl := si h
 exact en [0] ⟨rfl, rfl⟩ .z ⟨od, ⟨⟩⟩
 exact ct ⟨si h, rfl, rfl⟩ (tk [0, 1, 2, 4] ⟨.l, .i, .p, .p, .p, ⟨⟩⟩ ⟨od, (nbp rfl), (nbp rfl), (nbp rfl), ⟨⟩⟩)
 rintro _ _ ⟨rfl, rfl, rfl⟩
 replace h := hk63
 obtain ⟨o76, ho77, hk78⟩ := bd h
 replace h := ho77
 refine .cut (fun σ η => ∃ y70, ∃ y71, ∃ s72, ∃ y73, ∃ l74, ∃ y75, (y70, y71, s72, y73, l74, y75) = o76 ∧ σ = [(9, .optr 1 0 0 0), (18, .optr 2 0 0 0), (19, .int .i64 y75)] ∧ η = [.row g1000 2 a1.length 50 (row (mc (PV.int .i64) (PV.bool)) a1), .row 0 5 1 46 (fun _ => [.int .i64 1, .int .i64 0, .int .i64 0, .str [], .str []]), .row 0 5 1 74 (fun _ => [.int .i64 y70, .int .i64 y71, .str s72, .int .i64 y73, sl 8 TEntry.cells l74])]) ?_ ?_
 refine .float2 [(0, true), (1, true), (2, true), (3, true), (4, true), (5, true), (6, true), (7, true)] 8 [(9, true), (10, true), (11, true), (12, false), (13, false), (14, true)] 12 [(8, false), (9, true), (10, true), (11, true), (13, false), (14, true)] (by kernel_rfl) ?_
 refine bk h fun x79 hx80 h => ⟨idx_bd hx80, _, (idx_row hx80).trans (TIns.cells_eq x79), ⟨rfl, _, rfl, ⟨rfl, _, rfl, ⟨?_, ?_⟩⟩⟩⟩
 obtain ⟨⟨v81, v82⟩, hv83, h⟩ := bd h
 exact pcP (ok_i_BinaryOp hv83) ⟨rfl, ⟨rfl, ⟨rfl, _, fun _ => [.int .i64 v81.fKind, .int .i64 v81.fNum, .str v81.fStr, .int .i64 v81.fNext, sl 8 TEntry.cells v81.fItems], rfl, one_set rfl, (ct ⟨_, _, _, _, _, _, si h, rfl, rfl⟩ (tk [0, 2, 4] ⟨.p, .p, .i, ⟨⟩⟩ ⟨od, (nbp rfl), (nbp rfl), ⟨⟩⟩))⟩⟩⟩
 refine ⟨rfl, ⟨rfl, ?_⟩⟩
 obtain ⟨⟨v81, v82⟩, hv83, h⟩ := bd h
 exact pcP (ok_i_BinaryOp hv83) ⟨rfl, _, fun _ => [.int .i64 v81.fKind, .int .i64 v81.fNum, .str v81.fStr, .int .i64 v81.fNext, sl 8 TEntry.cells v81.fItems], rfl, one_set rfl, (ct ⟨_, _, _, _, _, _, si h, rfl, rfl⟩ (tk [0, 2, 4] ⟨.p, .p, .i, ⟨⟩⟩ ⟨od, (nbp rfl), (nbp rfl), ⟨⟩⟩))⟩
 rintro _ _ ⟨y70, y71, s72, y73, l74, y75, rfl, rfl, rfl⟩
 replace h := hk78
 refine .d (.d ⟨rfl, _, rfl, ?_⟩)
 obtain ⟨⟨v84, v85⟩, hv86, h⟩ := bd h
 refine pcP (ok_i_PushOf hv86) ⟨rfl, _, fun _ => [.int .i64 v84.fOp, .int .i64 v84.fA, .int .i64 v84.fB, .str v84.fS, .str v84.fT], rfl, one_set rfl, (.d (sV h (fun hb87 h => ?_) (fun hb87 h => ?_)))⟩
 refine .t (.t (sE h (fun hb88 h => ?_) (fun hb88 h => ?_)))
 refine .d ⟨rfl, _, rfl, ⟨rfl, _, rfl, ⟨rfl, _, rfl, ⟨row TIns.cells ([(TIns.mk 1 0 0 [] []), (TIns.mk 1 0 0 [] []), v84] : List TIns), row_lit TIns.cells ([(TIns.mk 1 0 0 [] []), (TIns.mk 1 0 0 [] []), v84] : List TIns) rfl (cll_refl rfl), ?_⟩⟩⟩⟩
 obtain rfl := si h
 exact en [0] ⟨rfl, rfl⟩ ((.rx rfl)) ⟨od, ⟨⟩⟩
 refine .d ?_
 obtain rfl := si h
 exact en [0] ⟨rfl, rfl⟩ .z ⟨od, ⟨⟩⟩
 refine .f (.f (.f (.d ?_)))
 obtain rfl := si h
 exact en [0] ⟨rfl, rfl⟩ .z ⟨od, ⟨⟩⟩
def m_s_l30Hit_L2 (a0 : List TIns) (l7 : List Bool) (y8 : Int) : Option ((List Bool)) :=
 (if y8 < (a0.length : Int) then
 idx a0 y8 >>= fun x12 =>
 m_s_HasTarget x12.fOp >>= fun v14 =>
 (if v14 = true then
 idx a0 y8 >>= fun x17 =>
 m_s_l1In x17.fA 0 (a0.length : Int) >>= fun v19 =>
 (if v19 = true then
 idx a0 y8 >>= fun x22 =>
 idx l7 x22.fA >>= fun x24 =>
 m_s_l30Hit_L2 a0 (l7.set x22.fA.toNat true) (W64 (y8 + 1))
 else
 m_s_l30Hit_L2 a0 l7 (W64 (y8 + 1)))
 else
 m_s_l30Hit_L2 a0 l7 (W64 (y8 + 1)))
 else
 some l7)
partial_fixpoint
def m_s_l30Hit (a0 : List TIns) : Option ((List Bool)) :=
 (lmake 1 (W64 ((a0.length : Int) + 1)) (W64 ((a0.length : Int) + 1)) : Option (List Bool)) >>= fun l1 =>
 (
 m_s_l30Hit_L2 a0 l1 0
 : Option ((List Bool))) >>= fun l3 =>
 some l3
theorem ok_s_l30Hit {a0 : List TIns} {r : (List Bool)} (h : m_s_l30Hit a0 = some r) : ACall Tryz.prog 22 [sl 5 TIns.cells a0] [] (fun res h => res = sl 1 cT r ∧ h = []) := by
 refine vc1 Tryz.func22 ?_
 unfold m_s_l30Hit at h
 refine .d (.d (bk h fun l1 hx2 h => ⟨lmake_bd hx2, l1.length, row cT l1, lmake_len hx2, lmake_row hx2 rfl ⟨.same _, trivial⟩, ?_⟩))
 obtain ⟨o4, ho5, hk6⟩ := bd h
 replace h := ho5
 refine .cut (fun σ η => ∃ l3, l3 = o4 ∧ σ = [(3, .own 0 0 0 l3.length)] ∧ η = [.row 0 1 l3.length 4 (row cT l3)]) ?_ ?_
 refine .d ?_
 refine le (m_s_l30Hit_L2.partial_correctness a0 (motive := fun l7 y8 o26 => o4 = o26 → LoopAt _ _ [(0, sl 5 TIns.cells a0), (3, .own 0 0 0 l7.length), (4, .int .i64 y8)] [.row 0 1 l7.length 4 (row cT l7)]) ?_ l1 0 o4 h rfl) (tk [0] ⟨.l, .o, .i, ⟨⟩⟩ ⟨nw, ⟨⟩⟩)
 intro F10 ih9 l7 y8 o26 h hr27
 subst hr27
 refine LoopAt.round (.d (.d (sD h (fun hb11 h => ?_) (fun hb11 h => ?_))))
 refine .d (.d (bk h fun x12 hx13 h => ⟨idx_bd hx13, _, (idx_row hx13).trans (TIns.cells_eq x12), (bk h fun v14 hv15 h => (pcP (ok_s_HasTarget hv15) (sV h (fun hb16 h => ?_) (fun hb16 h => ?_))))⟩))
 refine .t (.t (bk h fun x17 hx18 h => ⟨idx_bd hx18, _, (idx_row hx18).trans (TIns.cells_eq x17), (.t (.t (.t (.t (.t (bk h fun v19 hv20 h => (pcP (ok_s_l1In hv20) (.t (sV h (fun hb21 h => ?_) (fun hb21 h => ?_))))))))))⟩))
 exact bk h fun x22 hx23 h => ⟨idx_bd hx23, _, (idx_row hx23).trans (TIns.cells_eq x22), (bk h fun x24 hx25 h => ⟨rfl, idx_bd hx25, _, Nat.zero_add _, ⟨rfl, _, row cT (l7.set x22.fA.toNat true), ((idx_row hx25).trans rfl), row_set (idx_lt hx25) rfl ⟨.same _, trivial⟩, (lg (ih9 _ _ _ h rfl) (tk [0] ⟨.l, (.ox ln), .i, ⟨⟩⟩ ⟨(nwx rfl ln), ⟨⟩⟩))⟩⟩)⟩
 exact lg (ih9 _ _ _ h rfl) (tk [0] ⟨.l, .o, .i, ⟨⟩⟩ ⟨nw, ⟨⟩⟩)
 exact .f (.f (.f (.f (.f (.f (.f (.f (.f (lg (ih9 _ _ _ h rfl) (tk [0] ⟨.l, .o, .i, ⟨⟩⟩ ⟨nw, ⟨⟩⟩))))))))))
 exact ct ⟨_, si h, rfl, rfl⟩ (tk [0] ⟨.o, ⟨⟩⟩ ⟨nw, ⟨⟩⟩)
 rintro _ _ ⟨l3, rfl, rfl, rfl⟩
 replace h := hk6
 refine .d ?_
 obtain rfl := si h
 exact en [] ⟨rfl, rfl⟩ .r ⟨⟩
def m_s_l30Window (a0 : List TIns) (a1 : List Bool) (a2 : Int) : Option ((List TIns)) :=
 (
 idx a0 a2 >>= fun x10 =>
 m_s_PushValue x10 >>= fun (v12, v13) =>
 some (v12.fKind, v12.fNum, v12.fStr, v12.fNext, v12.fItems, v13)
 : Option (Int × Int × Str × Int × (List TEntry) × Bool)) >>= fun (y1, y2, s3, y4, l5, b6) =>
 ((
 (if b6 = true then
 (if (W64 (a2 + 1)) ≥ (a0.length : Int) then
 some (.inr [])
 else
 idx a1 (W64 (a2 + 1)) >>= fun x20 =>
 (if x20 = true then
 some (.inr [])
 else
 some (.inl ())))
 else
 some (.inr []))
 : Option ((Unit) ⊕ (List TIns))) >>= fun o15 => match o15 with
 | .inr r => some r
 | .inl _ =>
 idx a0 (W64 (a2 + 1)) >>= fun x23 =>
 ((
 (
 some ()
 : Option (Unit)) >>= fun _ =>
 (if x23.fOp = 10 then
 some (.inr ([(TIns.mk 1 0 0 [] []), (TIns.mk 1 0 0 [] [])] : List TIns))
 else
 (if x23.fOp = 28 then
 m_s_ToBool (TValue.mk y1 y2 s3 y4 l5) >>= fun v39 =>
 (if v39 = true then
 some (.inr ([(TIns.mk 1 0 0 [] []), (TIns.mk 1 0 0 [] [])] : List TIns))
 else
 some (.inr ([(TIns.mk 1 0 0 [] []), (TIns.mk 27 x23.fA 0 [] [])] : List TIns)))
 else
 (if x23.fOp = 29 then
 (if y1 = 0 then
 some (.inr ([(TIns.mk 1 0 0 [] []), (TIns.mk 1 0 0 [] [])] : List TIns))
 else
 idx a0 a2 >>= fun x44 =>
 some (.inr ([x44, (TIns.mk 27 x23.fA 0 [] [])] : List TIns)))
 else
 (if x23.fOp = 13 then
 m_s_ToBool (TValue.mk y1 y2 s3 y4 l5) >>= fun v47 =>
 m_s_BoolValue v47 >>= fun v49 =>
 some (.inl (v49.fKind, v49.fNum, v49.fStr, v49.fNext, v49.fItems, 0))
 else
 (if x23.fOp = 11 then
 m_s_UnaryOp x23.fA (TValue.mk y1 y2 s3 y4 l5) >>= fun (v52, v53) =>
 some (.inl (v52.fKind, v52.fNum, v52.fStr, v52.fNext, v52.fItems, v53))
 else
 (
 m_s_PushValue x23 >>= fun (v64, v65) =>
 some (v64.fKind, v64.fNum, v64.fStr, v64.fNext, v64.fItems, v65)
 : Option (Int × Int × Str × Int × (List TEntry) × Bool)) >>= fun (y55, y56, s57, y58, l59, b60) =>
 ((
 (if b60 = true then
 (if (W64 (a2 + 2)) ≥ (a0.length : Int) then
 some (.inr (.inr []))
 else
 idx a1 (W64 (a2 + 2)) >>= fun x72 =>
 (if x72 = true then
 some (.inr (.inr []))
 else
 idx a0 (W64 (a2 + 2)) >>= fun x75 =>
 (if x75.fOp = 12 then
 some (.inl ())
 else
 some (.inr (.inr [])))))
 else
 some (.inr (.inr [])))
 : Option ((Unit) ⊕ ((Int × Int × Str × Int × (List TEntry) × Int) ⊕ (List TIns)))) >>= fun o67 => match o67 with
 | .inr r => some r
 | .inl _ =>
 (
 idx a0 (W64 (a2 + 2)) >>= fun x87 =>
 m_s_BinaryOp x87.fA (TValue.mk y1 y2 s3 y4 l5) (TValue.mk y55 y56 s57 y58 l59) >>= fun (v89, v90) =>
 some (v89.fKind, v89.fNum, v89.fStr, v89.fNext, v89.fItems, v90)
 : Option (Int × Int × Str × Int × (List TEntry) × Int)) >>= fun (y78, y79, s80, y81, l82, y83) =>
 m_s_PushOf (TValue.mk y78 y79 s80 y81 l82) >>= fun (v92, v93) =>
 ((
 (if y83 = 0 then
 (if v93 = true then
 some (.inl ())
 else
 some (.inr (.inr [])))
 else
 some (.inr (.inr [])))
 : Option ((Unit) ⊕ ((Int × Int × Str × Int × (List TEntry) × Int) ⊕ (List TIns)))) >>= fun o95 => match o95 with
 | .inr r => some r
 | .inl _ =>
 some (.inr ([(TIns.mk 1 0 0 [] []), (TIns.mk 1 0 0 [] []), v92] : List TIns))
 )
 ))))))
 : Option ((Int × Int × Str × Int × (List TEntry) × Int) ⊕ (List TIns))) >>= fun o31 => match o31 with
 | .inr r => some r
 | .inl (y25, y26, s27, y28, l29, y30) =>
 m_s_PushOf (TValue.mk y25 y26 s27 y28 l29) >>= fun (v100, v101) =>
 ((
 (if y30 = 0 then
 (if v101 = true then
 some (.inl ())
 else
 some (.inr []))
 else
 some (.inr []))
 : Option ((Unit) ⊕ (List TIns))) >>= fun o103 => match o103 with
 | .inr r => some r
 | .inl _ =>
 some ([(TIns.mk 1 0 0 [] []), v100] : List TIns)
 )
 )
 )
theorem ok_s_l30Window {a0 : List TIns} {a1 : List Bool} {a2 : Int} {r : (List TIns)} (h : m_s_l30Window a0 a1 a2 = some r) : ACall Tryz.prog 23 [sl 5 TIns.cells a0, sl 1 cT a1, .int .i64 a2] [] (fun res h => res = sl 5 TIns.cells r ∧ h = []) := by
 refine vc1 Tryz.func23 ?_
 unfold m_s_l30Window at h
 refine .d (.d ⟨rfl, _, fun _ => [.int .i64 1, .int .i64 0, .int .i64 0, .str [], .str []], rfl, one_set rfl, ?_⟩)
 obtain ⟨o7, ho8, hk9⟩ := bd h
 replace h := ho8
 refine .cut (fun σ η => ∃ y1, ∃ y2, ∃ s3, ∃ y4, ∃ l5, ∃ b6, (y1, y2, s3, y4, l5, b6) = o7 ∧ σ = [(0, sl 5 TIns.cells a0), (1, sl 1 cT a1), (2, .int .i64 a2), (7, .optr 0 0 0 0), (8, .optr 1 0 0 0), (9, .bool b6)] ∧ η = [.row 0 5 1 46 (fun _ => [.int .i64 1, .int .i64 0, .int .i64 0, .str [], .str []]), .row 0 5 1 74 (fun _ => [.int .i64 y1, .int .i64 y2, .str s3, .int .i64 y4, sl 8 TEntry.cells l5])]) ?_ ?_
 refine bk h fun x10 hx11 h => ⟨idx_bd hx11, _, (idx_row hx11).trans (TIns.cells_eq x10), ?_⟩
 obtain ⟨⟨v12, v13⟩, hv14, h⟩ := bd h
 exact pcP (ok_s_PushValue hv14) ⟨rfl, _, fun _ => [.int .i64 v12.fKind, .int .i64 v12.fNum, .str v12.fStr, .int .i64 v12.fNext, sl 8 TEntry.cells v12.fItems], rfl, one_set rfl, (ct ⟨_, _, _, _, _, _, si h, rfl, rfl⟩ (tk [0, 1] ⟨.l, .l, .i, .p, .p, .b, ⟨⟩⟩ ⟨(nbp rfl), (nbp rfl), ⟨⟩⟩))⟩
 rintro _ _ ⟨y1, y2, s3, y4, l5, b6, rfl, rfl, rfl⟩
 replace h := hk9
 obtain ⟨o15, ho16, hk17⟩ := bd h
 replace h := ho16
 refine .cut (fun σ η => .inl () = o15 ∧ σ = [(0, sl 5 TIns.cells a0), (1, sl 1 cT a1), (2, .int .i64 a2), (7, .optr 0 0 0 0), (8, .optr 1 0 0 0)] ∧ η = [.row 0 5 1 46 (fun _ => [.int .i64 1, .int .i64 0, .int .i64 0, .str [], .str []]), .row 0 5 1 74 (fun _ => [.int .i64 y1, .int .i64 y2, .str s3, .int .i64 y4, sl 8 TEntry.cells l5])]) ?_ ?_
 refine .d (sVn h (fun hb18 h => ?_) (fun hb18 h => ?_))
 refine .t (.t (.t (.t (.t (.t (.t (.t (.t (.t (.t (.t (.d ?_))))))))))))
 obtain rfl := si h
 replace h := hk17
 obtain rfl := si h
 exact en [] ⟨rfl, rfl⟩ .z ⟨⟩
 refine .f (.f (.f (.f (.f (sD h (fun hb19 h => ?_) (fun hb19 h => ?_))))))
 refine .t (.t (.t (.t (.t (.t (.d ?_))))))
 obtain rfl := si h
 replace h := hk17
 obtain rfl := si h
 exact en [] ⟨rfl, rfl⟩ .z ⟨⟩
 refine .f (.f (.f (bk h fun x20 hx21 h => ⟨idx_bd hx21, _, (idx_row hx21).trans rfl, (.f (.f (sV h (fun hb22 h => ?_) (fun hb22 h => ?_))))⟩)))
 refine .d ?_
 obtain rfl := si h
 replace h := hk17
 obtain rfl := si h
 exact en [] ⟨rfl, rfl⟩ .z ⟨⟩
 exact ct ⟨si h, rfl, rfl⟩ (tk [0, 1] ⟨.l, .l, .i, .p, .p, ⟨⟩⟩ ⟨(nbp rfl), (nbp rfl), ⟨⟩⟩)
 rintro _ _ ⟨rfl, rfl, rfl⟩
 replace h := hk17
 refine .d (bk h fun x23 hx24 h => ⟨idx_bd hx24, _, (idx_row hx24).trans (TIns.cells_eq x23), ⟨rfl, _, fun _ => [.int .i64 x23.fOp, .int .i64 x23.fA, .int .i64 x23.fB, .str x23.fS, .str x23.fT], rfl, one_set rfl, (.d ⟨rfl, _, fun _ => [.int .i64 0, .int .i64 0, .str [], .int .i64 0, .nils], rfl, one_set rfl, (.d ?_)⟩)⟩⟩)
 obtain ⟨o31, ho32, hk33⟩ := bd h
 replace h := ho32
 refine .cut (fun σ η => ∃ y25, ∃ y26, ∃ s27, ∃ y28, ∃ l29, ∃ y30, .inl (y25, y26, s27, y28, l29, y30) = o31 ∧ σ = [(7, .optr 0 0 0 0), (11, .optr 1 0 0 0), (12, .int .i64 y30)] ∧ η = [.row 0 5 1 46 (fun _ => [.int .i64 1, .int .i64 0, .int .i64 0, .str [], .str []]), .row 0 5 1 74 (fun _ => [.int .i64 y25, .int .i64 y26, .str s27, .int .i64 y28, sl 8 TEntry.cells l29])]) ?_ ?_
 refine .d ⟨rfl, ⟨rfl, _, rfl, ?_⟩⟩
 obtain ⟨o34, ho35, hk36⟩ := bd h
 replace h := ho35
 refine .cut (fun σ η => () = o34 ∧ σ = [(0, sl 5 TIns.cells a0), (1, sl 1 cT a1), (2, .int .i64 a2), (7, .optr 0 0 0 0), (8, .optr 1 0 0 0), (10, .optr 2 0 0 0), (11, .optr 3 0 0 0), (12, .int .i64 0), (51, .int .i64 x23.fOp), (109, .bool (x23.fOp == 10))] ∧ η = [.row 0 5 1 46 (fun _ => [.int .i64 1, .int .i64 0, .int .i64 0, .str [], .str []]), .row 0 5 1 74 (fun _ => [.int .i64 y1, .int .i64 y2, .str s3, .int .i64 y4, sl 8 TEntry.cells l5]), .row 0 5 1 46 (fun _ => x23.lit), .row 0 5 1 74 (fun _ => [.int .i64 0, .int .i64 0, .str [], .int .i64 0, .nils])]) ?_ ?_
 exact ct ⟨si h, rfl, rfl⟩ (tk [0, 1, 2, 3] ⟨.l, .l, .i, .p, .p, .p, .p, .i, .i, .b, ⟨⟩⟩ ⟨(nbp rfl), (nbp rfl), (nbp rfl), (nb rfl ⟨.i, .i, .s, .i, .nils, ⟨⟩⟩), ⟨⟩⟩)
 rintro _ _ ⟨rfl, rfl, rfl⟩
 replace h := hk36
 refine sE h (fun hb37 h => ?_) (fun hb37 h => ?_)
 refine .d ⟨rfl, _, rfl, ⟨rfl, _, rfl, ⟨row TIns.cells ([(TIns.mk 1 0 0 [] []), (TIns.mk 1 0 0 [] [])] : List TIns), row_lit TIns.cells ([(TIns.mk 1 0 0 [] []), (TIns.mk 1 0 0 [] [])] : List TIns) rfl (cll_refl rfl), ?_⟩⟩⟩
 obtain rfl := si h
 replace h := hk33
 obtain rfl := si h
 exact en [] ⟨rfl, rfl⟩ ((.rx rfl)) ⟨⟩
 refine .d (sE h (fun hb38 h => ?_) (fun hb38 h => ?_))
 refine .d (.d ⟨rfl, _, rfl, (bk h fun v39 hv40 h => (pcP (ok_s_ToBool hv40) (sV h (fun hb41 h => ?_) (fun hb41 h => ?_))))⟩)
 refine .d ⟨rfl, _, rfl, ⟨rfl, _, rfl, ⟨row TIns.cells ([(TIns.mk 1 0 0 [] []), (TIns.mk 1 0 0 [] [])] : List TIns), row_lit TIns.cells ([(TIns.mk 1 0 0 [] []), (TIns.mk 1 0 0 [] [])] : List TIns) rfl (cll_refl rfl), ?_⟩⟩⟩
 obtain rfl := si h
 replace h := hk33
 obtain rfl := si h
 exact en [] ⟨rfl, rfl⟩ ((.rx rfl)) ⟨⟩
 refine .d ⟨rfl, _, rfl, ⟨rfl, ⟨rfl, _, rfl, ⟨row TIns.cells ([(TIns.mk 1 0 0 [] []), (TIns.mk 27 x23.fA 0 [] [])] : List TIns), row_lit TIns.cells ([(TIns.mk 1 0 0 [] []), (TIns.mk 27 x23.fA 0 [] [])] : List TIns) rfl (cll_refl rfl), ?_⟩⟩⟩⟩
 obtain rfl := si h
 replace h := hk33
 obtain rfl := si h
 exact en [] ⟨rfl, rfl⟩ ((.rx rfl)) ⟨⟩
 refine .d (sE h (fun hb42 h => ?_) (fun hb42 h => ?_))
 refine .d (.d ⟨rfl, ⟨rfl, _, rfl, (sE h (fun hb43 h => ?_) (fun hb43 h => ?_))⟩⟩)
 refine .d ⟨rfl, _, rfl, ⟨rfl, _, rfl, ⟨row TIns.cells ([(TIns.mk 1 0 0 [] []), (TIns.mk 1 0 0 [] [])] : List TIns), row_lit TIns.cells ([(TIns.mk 1 0 0 [] []), (TIns.mk 1 0 0 [] [])] : List TIns) rfl (cll_refl rfl), ?_⟩⟩⟩
 obtain rfl := si h
 replace h := hk33
 obtain rfl := si h
 exact en [] ⟨rfl, rfl⟩ ((.rx rfl)) ⟨⟩
 refine .d (.float [(0, true), (1, true), (2, true), (3, true), (4, true), (5, true), (6, true), (7, false), (8, true)] (by kernel_rfl) ?_)
 refine bk h fun x44 hx45 h => ⟨idx_bd hx45, _, (idx_row hx45).trans (TIns.cells_eq x44), ⟨rfl, ⟨rfl, _, rfl, ⟨row TIns.cells ([x44, (TIns.mk 27 x23.fA 0 [] [])] : List TIns), row_lit TIns.cells ([x44, (TIns.mk 27 x23.fA 0 [] [])] : List TIns) rfl (cll_refl rfl), ?_⟩⟩⟩⟩
 obtain rfl := si h
 replace h := hk33
 obtain rfl := si h
 exact en [] ⟨rfl, rfl⟩ ((.rx rfl)) ⟨⟩
 refine .d (sE h (fun hb46 h => ?_) (fun hb46 h => ?_))
 exact ⟨rfl, _, rfl, (bk h fun v47 hv48 h => (pcP (ok_s_ToBool hv48) (bk h fun v49 hv50 h => (pcP (ok_s_BoolValue hv50) ⟨rfl, _, fun _ => [.int .i64 v49.fKind, .int .i64 v49.fNum, .str v49.fStr, .int .i64 v49.fNext, sl 8 TEntry.cells v49.fItems], rfl, one_set rfl, (ct ⟨_, _, _, _, _, _, si h, rfl, rfl⟩ (tk [0, 3] ⟨.p, .p, .i, ⟨⟩⟩ ⟨(nbp rfl), (nbp rfl), ⟨⟩⟩))⟩))))⟩
 refine .d (sE h (fun hb51 h => ?_) (fun hb51 h => ?_))
 refine ⟨rfl, ⟨rfl, _, rfl, ⟨rfl, _, rfl, ?_⟩⟩⟩
 obtain ⟨⟨v52, v53⟩, hv54, h⟩ := bd h
 exact pcP (ok_s_UnaryOp hv54) ⟨rfl, _, fun _ => [.int .i64 v52.fKind, .int .i64 v52.fNum, .str v52.fStr, .int .i64 v52.fNext, sl 8 TEntry.cells v52.fItems], rfl, one_set rfl, (ct ⟨_, _, _, _, _, _, si h, rfl, rfl⟩ (tk [0, 3] ⟨.p, .p, .i, ⟨⟩⟩ ⟨(nbp rfl), (nbp rfl), ⟨⟩⟩))⟩
 obtain ⟨o61, ho62, hk63⟩ := bd h
 replace h := ho62
 refine .cut (fun σ η => ∃ y55, ∃ y56, ∃ s57, ∃ y58, ∃ l59, ∃ b60, (y55, y56, s57, y58, l59, b60) = o61 ∧ σ = [(0, sl 5 TIns.cells a0), (1, sl 1 cT a1), (2, .int .i64 a2), (7, .optr 0 0 0 0), (8, .optr 1 0 0 0), (11, .optr 2 0 0 0), (13, .optr 3 0 0 0), (14, .bool b60)] ∧ η = [.row 0 5 1 46 (fun _ => [.int .i64 1, .int .i64 0, .int .i64 0, .str [], .str []]), .row 0 5 1 74 (fun _ => [.int .i64 y1, .int .i64 y2, .str s3, .int .i64 y4, sl 8 TEntry.cells l5]), .row 0 5 1 74 (fun _ => [.int .i64 0, .int .i64 0, .str [], .int .i64 0, .nils]), .row 0 5 1 74 (fun _ => [.int .i64 y55, .int .i64 y56, .str s57, .int .i64 y58, sl 8 TEntry.cells l59])]) ?_ ?_
 refine ⟨rfl, _, rfl, ?_⟩
 obtain ⟨⟨v64, v65⟩, hv66, h⟩ := bd h
 exact pcP (ok_s_PushValue hv66) ⟨rfl, _, fun _ => [.int .i64 v64.fKind, .int .i64 v64.fNum, .str v64.fStr, .int .i64 v64.fNext, sl 8 TEntry.cells v64.fItems], rfl, one_set rfl, (ct ⟨_, _, _, _, _, _, si h, rfl, rfl⟩ (tk [0, 1, 3, 4] ⟨.l, .l, .i, .p, .p, .p, .p, .b, ⟨⟩⟩ ⟨(nbp rfl), (nbp rfl), (nb rfl ⟨.i, .i, .s, .i, .nils, ⟨⟩⟩), (nbp rfl), ⟨⟩⟩))⟩
 rintro _ _ ⟨y55, y56, s57, y58, l59, b60, rfl, rfl, rfl⟩
 replace h := hk63
 obtain ⟨o67, ho68, hk69⟩ := bd h
 replace h := ho68
 refine .cut (fun σ η => .inl () = o67 ∧ σ = [(0, sl 5 TIns.cells a0), (2, .int .i64 a2), (7, .optr 0 0 0 0), (8, .optr 1 0 0 0), (11, .optr 2 0 0 0), (13, .optr 3 0 0 0)] ∧ η = [.row 0 5 1 46 (fun _ => [.int .i64 1, .int .i64 0, .int .i64 0, .str [], .str []]), .row 0 5 1 74 (fun _ => [.int .i64 y1, .int .i64 y2, .str s3, .int .i64 y4, sl 8 TEntry.cells l5]), .row 0 5 1 74 (fun _ => [.int .i64 0, .int .i64 0, .str [], .int .i64 0, .nils]), .row 0 5 1 74 (fun _ => [.int .i64 y55, .int .i64 y56, .str s57, .int .i64 y58, sl 8 TEntry.cells l59])]) ?_ ?_
 refine .d (sVn h (fun hb70 h => ?_) (fun hb70 h => ?_))
 refine .t (.t (.t (.t (.t (.t (.t (.t (.t (.t (.t (.t (.t (.t (.t ?_))))))))))))))
 refine .t (.t (.t (.t (.t (.d ?_)))))
 obtain rfl := si h
 replace h := hk69
 obtain rfl := si h
 replace h := hk33
 obtain rfl := si h
 exact en [] ⟨rfl, rfl⟩ .z ⟨⟩
 refine .f (.f (.f (.f (.f (sD h (fun hb71 h => ?_) (fun hb71 h => ?_))))))
 refine .t (.t (.t (.t (.t (.t (.t (.t (.t (.t (.t (.t (.t (.t (.d ?_))))))))))))))
 obtain rfl := si h
 replace h := hk69
 obtain rfl := si h
 replace h := hk33
 obtain rfl := si h
 exact en [] ⟨rfl, rfl⟩ .z ⟨⟩
 refine .f (.f (.f (bk h fun x72 hx73 h => ⟨idx_bd hx73, _, (idx_row hx73).trans rfl, (.f (.f (sV h (fun hb74 h => ?_) (fun hb74 h => ?_))))⟩)))
 refine .t (.t (.t (.t (.t (.t (.t (.t (.d ?_))))))))
 obtain rfl := si h
 replace h := hk69
 obtain rfl := si h
 replace h := hk33
 obtain rfl := si h
 exact en [] ⟨rfl, rfl⟩ .z ⟨⟩
 refine .f (.f (.f (bk h fun x75 hx76 h => ⟨idx_bd hx76, _, (idx_row hx76).trans (TIns.cells_eq x75), (.f (.f (.f (.f (sN h (fun hb77 h => ?_) (fun hb77 h => ?_))))))⟩)))
 refine .d ?_
 obtain rfl := si h
 replace h := hk69
 obtain rfl := si h
 replace h := hk33
 obtain rfl := si h
 exact en [] ⟨rfl, rfl⟩ .z ⟨⟩
 exact ct ⟨si h, rfl, rfl⟩ (tk [0, 1, 2, 3] ⟨.l, .i, .p, .p, .p, .p, ⟨⟩⟩ ⟨(nbp rfl), (nbp rfl), (nb rfl ⟨.i, .i, .s, .i, .nils, ⟨⟩⟩), (nbp rfl), ⟨⟩⟩)
 rintro _ _ ⟨rfl, rfl, rfl⟩
 replace h := hk69
 obtain ⟨o84, ho85, hk86⟩ := bd h
 replace h := ho85
 refine .cut (fun σ η => ∃ y78, ∃ y79, ∃ s80, ∃ y81, ∃ l82, ∃ y83, (y78, y79, s80, y81, l82, y83) = o84 ∧ σ = [(7, .optr 0 0 0 0), (11, .optr 1 0 0 0), (12, .int .i64 y83)] ∧ η = [.row 0 5 1 46 (fun _ => [.int .i64 1, .int .i64 0, .int .i64 0, .str [], .str []]), .row 0 5 1 74 (fun _ => [.int .i64 y78, .int .i64 y79, .str s80, .int .i64 y81, sl 8 TEntry.cells l82])]) ?_ ?_
 refine .float [(0, true), (1, true), (2, true), (3, true), (4, true), (5, true), (6, true), (7, true), (8, false), (9, true), (10, true), (11, true), (12, false), (13, true)] (by kernel_rfl) ?_
 refine bk h fun x87 hx88 h => ⟨idx_bd hx88, _, (idx_row hx88).trans (TIns.cells_eq x87), ⟨rfl, _, rfl, ⟨rfl, _, rfl, ?_⟩⟩⟩
 obtain ⟨⟨v89, v90⟩, hv91, h⟩ := bd h
 exact pcP (ok_s_BinaryOp hv91) ⟨rfl, _, fun _ => [.int .i64 v89.fKind, .int .i64 v89.fNum, .str v89.fStr, .int .i64 v89.fNext, sl 8 TEntry.cells v89.fItems], rfl, one_set rfl, (ct ⟨_, _, _, _, _, _, si h, rfl, rfl⟩ (tk [0, 2] ⟨.p, .p, .i, ⟨⟩⟩ ⟨(nbp rfl), (nbp rfl), ⟨⟩⟩))⟩
 rintro _ _ ⟨y78, y79, s80, y81, l82, y83, rfl, rfl, rfl⟩
 replace h := hk86
 refine .d ⟨rfl, _, rfl, ?_⟩
 obtain ⟨⟨v92, v93⟩, hv94, h⟩ := bd h
 refine pcP (ok_s_PushOf hv94) ⟨rfl, _, fun _ => [.int .i64 v92.fOp, .int .i64 v92.fA, .int .i64 v92.fB, .str v92.fS, .str v92.fT], rfl, one_set rfl, ?_⟩
 obtain ⟨o95, ho96, hk97⟩ := bd h
 replace h := ho96
 refine .cut (fun σ η => .inl () = o95 ∧ σ = [(7, .optr 0 0 0 0), (15, .optr 1 0 0 0)] ∧ η = [.row 0 5 1 46 (fun _ => [.int .i64 1, .int .i64 0, .int .i64 0, .str [], .str []]), .row 0 5 1 46 (fun _ => v92.lit)]) ?_ ?_
 refine .d (sN h (fun hb98 h => ?_) (fun hb98 h => ?_))
 refine .t (.t (.t (.d ?_)))
 obtain rfl := si h
 replace h := hk97
 obtain rfl := si h
 replace h := hk33
 obtain rfl := si h
 exact en [] ⟨rfl, rfl⟩ .z ⟨⟩
 refine .f (.f (sVn h (fun hb99 h => ?_) (fun hb99 h => ?_)))
 refine .d ?_
 obtain rfl := si h
 replace h := hk97
 obtain rfl := si h
 replace h := hk33
 obtain rfl := si h
 exact en [] ⟨rfl, rfl⟩ .z ⟨⟩
 exact ct ⟨si h, rfl, rfl⟩ (tk [0, 2] ⟨.p, .p, ⟨⟩⟩ ⟨(nbp rfl), (nbp rfl), ⟨⟩⟩)
 rintro _ _ ⟨rfl, rfl, rfl⟩
 replace h := hk97
 refine .d ⟨rfl, _, rfl, ⟨rfl, _, rfl, ⟨rfl, _, rfl, ⟨row TIns.cells ([(TIns.mk 1 0 0 [] []), (TIns.mk 1 0 0 [] []), v92] : List TIns), row_lit TIns.cells ([(TIns.mk 1 0 0 [] []), (TIns.mk 1 0 0 [] []), v92] : List TIns) rfl (cll_refl rfl), ?_⟩⟩⟩⟩
 obtain rfl := si h
 replace h := hk33
 obtain rfl := si h
 exact en [] ⟨rfl, rfl⟩ ((.rx rfl)) ⟨⟩
 rintro _ _ ⟨y25, y26, s27, y28, l29, y30, rfl, rfl, rfl⟩
 replace h := hk33
 refine .d ⟨rfl, _, rfl, ?_⟩
 obtain ⟨⟨v100, v101⟩, hv102, h⟩ := bd h
 refine pcP (ok_s_PushOf hv102) ⟨rfl, _, fun _ => [.int .i64 v100.fOp, .int .i64 v100.fA, .int .i64 v100.fB, .str v100.fS, .str v100.fT], rfl, one_set rfl, ?_⟩
 obtain ⟨o103, ho104, hk105⟩ := bd h
 replace h := ho104
 refine .cut (fun σ η => .inl () = o103 ∧ σ = [(7, .optr 0 0 0 0), (17, .optr 1 0 0 0)] ∧ η = [.row 0 5 1 46 (fun _ => [.int .i64 1, .int .i64 0, .int .i64 0, .str [], .str []]), .row 0 5 1 46 (fun _ => v100.lit)]) ?_ ?_
 refine .d (sN h (fun hb106 h => ?_) (fun hb106 h => ?_))
 refine .t (.t (.t (.d ?_)))
 obtain rfl := si h
 replace h := hk105
 obtain rfl := si h
 exact en [] ⟨rfl, rfl⟩ .z ⟨⟩
 refine .f (.f (sVn h (fun hb107 h => ?_) (fun hb107 h => ?_)))
 refine .d ?_
 obtain rfl := si h
 replace h := hk105
 obtain rfl := si h
 exact en [] ⟨rfl, rfl⟩ .z ⟨⟩
 exact ct ⟨si h, rfl, rfl⟩ (tk [0, 2] ⟨.p, .p, ⟨⟩⟩ ⟨(nbp rfl), (nbp rfl), ⟨⟩⟩)
 rintro _ _ ⟨rfl, rfl, rfl⟩
 replace h := hk105
 refine .d ⟨rfl, _, rfl, ⟨rfl, _, rfl, ⟨row TIns.cells ([(TIns.mk 1 0 0 [] []), v100] : List TIns), row_lit TIns.cells ([(TIns.mk 1 0 0 [] []), v100] : List TIns) rfl (cll_refl rfl), ?_⟩⟩⟩
 obtain rfl := si h
 exact en [] ⟨rfl, rfl⟩ ((.rx rfl)) ⟨⟩
end Go.Am
