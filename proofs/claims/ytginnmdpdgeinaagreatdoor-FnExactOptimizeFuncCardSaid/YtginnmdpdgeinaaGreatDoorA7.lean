/- Models of Go functions, and their walks. (Printed by tools/mg.py.) -/
import Derived.Test.YtginnmdpdgeinaaGreatDoorA5
set_option linter.unusedVariables false
set_option linter.unusedSimpArgs false
set_option maxRecDepth 100000
namespace Go.Am
open Go Go.RowKit Go.Proofs
def m_l_szIns (a0 : TIns) (a1 : Int) : Option (Int) :=
 (if (W64 (a1 - (a0.fS.length : Int))) < 0 then
 some (-1)
 else
 (if (W64 ((W64 (a1 - (a0.fS.length : Int))) - (a0.fT.length : Int))) < 0 then
 some (-1)
 else
 some (W64 ((W64 (a1 - (a0.fS.length : Int))) - (a0.fT.length : Int)))))
theorem ok_l_szIns {a0 : TIns} {a1 : Int} {r : Int} (h : m_l_szIns a0 a1 = some r) : ACall Tryz.prog 50 [.agg a0.lit, .int .i64 a1] [] (fun res h => res = .int .i64 r ∧ h = []) := by
 refine vc1 Tryz.func50 ?_
 unfold m_l_szIns at h
 refine .d (.d ⟨rfl, ⟨rfl, _, rfl, (.d (.d (sD h (fun hb1 h => ?_) (fun hb1 h => ?_))))⟩⟩)
 exact .d (eI h)
 refine .d ⟨rfl, ⟨rfl, _, rfl, (.d (.d (sD h (fun hb2 h => ?_) (fun hb2 h => ?_))))⟩⟩
 exact .d (eI h)
 exact .d (eI h)
def m_l_szParam (a0 : TParam) (a1 : Int) : Option (Int) :=
 (if (W64 (a1 - (a0.fName.length : Int))) < 0 then
 some (-1)
 else
 some (W64 (a1 - (a0.fName.length : Int))))
theorem ok_l_szParam {a0 : TParam} {a1 : Int} {r : Int} (h : m_l_szParam a0 a1 = some r) : ACall Tryz.prog 49 [.agg a0.lit, .int .i64 a1] [] (fun res h => res = .int .i64 r ∧ h = []) := by
 refine vc1 Tryz.func49 ?_
 unfold m_l_szParam at h
 refine .d (.d ⟨rfl, ⟨rfl, _, rfl, (.d (.d (sD h (fun hb1 h => ?_) (fun hb1 h => ?_))))⟩⟩)
 exact .d (eI h)
 exact .d (eI h)
def m_l_szInsS_L2 (a0 : List TIns) (y6 : Int) (y7 : Int) : Option ((Int) ⊕ Int) :=
 (if y7 < (a0.length : Int) then
 idx a0 y7 >>= fun x11 =>
 m_l_szIns x11 y6 >>= fun v13 =>
 (if v13 < 0 then
 some (.inr (-1))
 else
 m_l_szInsS_L2 a0 v13 (W64 (y7 + 1)))
 else
 some (.inl y6))
partial_fixpoint
def m_l_szInsS (a0 : List TIns) (a1 : Int) : Option (Int) :=
 (if (W64 (a1 - (a0.length : Int))) < 0 then
 some (-1)
 else
 ((
 m_l_szInsS_L2 a0 (W64 (a1 - (a0.length : Int))) 0
 : Option ((Int) ⊕ Int)) >>= fun o3 => match o3 with
 | .inr r => some r
 | .inl y2 =>
 some y2
 ))
theorem ok_l_szInsS {a0 : List TIns} {a1 : Int} {r : Int} (h : m_l_szInsS a0 a1 = some r) : ACall Tryz.prog 19 [sl 5 TIns.cells a0, .int .i64 a1] [] (fun res h => res = .int .i64 r ∧ h = []) := by
 refine vc1 Tryz.func19 ?_
 unfold m_l_szInsS at h
 refine .d (.d (.d (.d (sD h (fun hb1 h => ?_) (fun hb1 h => ?_)))))
 exact .d (eI h)
 obtain ⟨o3, ho4, hk5⟩ := bd h
 replace h := ho4
 refine .cut (fun σ η => ∃ y2, .inl y2 = o3 ∧ σ = [(1, .int .i64 y2)] ∧ η = []) ?_ ?_
 refine .d ?_
 refine le (m_l_szInsS_L2.partial_correctness a0 (motive := fun y6 y7 o16 => o3 = o16 → LoopAt _ _ [(0, sl 5 TIns.cells a0), (1, .int .i64 y6), (5, .int .i64 y7)] []) ?_ (W64 (a1 - (a0.length : Int))) 0 o3 h rfl) (tk [] ⟨.l, .i, .i, ⟨⟩⟩ ⟨⟩)
 intro F9 ih8 y6 y7 o16 h hr17
 subst hr17
 refine LoopAt.round (.d (.d (sD h (fun hb10 h => ?_) (fun hb10 h => ?_))))
 refine .d (.d (bk h fun x11 hx12 h => ⟨idx_bd hx12, _, (idx_row hx12).trans (TIns.cells_eq x11), (bk h fun v13 hv14 h => (pcP (ok_l_szIns hv14) (.d (sD h (fun hb15 h => ?_) (fun hb15 h => ?_)))))⟩))
 refine .d ?_
 obtain rfl := si h
 replace h := hk5
 exact eI h
 exact lg (ih8 _ _ _ h rfl) (tk [] ⟨.l, .i, .i, ⟨⟩⟩ ⟨⟩)
 exact ct ⟨_, si h, rfl, rfl⟩ (tk [] ⟨.i, ⟨⟩⟩ ⟨⟩)
 rintro _ _ ⟨y2, rfl, rfl, rfl⟩
 replace h := hk5
 exact .d (eI h)
def m_l_szParamS_L2 (a0 : List TParam) (y6 : Int) (y7 : Int) : Option ((Int) ⊕ Int) :=
 (if y7 < (a0.length : Int) then
 idx a0 y7 >>= fun x11 =>
 m_l_szParam x11 y6 >>= fun v13 =>
 (if v13 < 0 then
 some (.inr (-1))
 else
 m_l_szParamS_L2 a0 v13 (W64 (y7 + 1)))
 else
 some (.inl y6))
partial_fixpoint
def m_l_szParamS (a0 : List TParam) (a1 : Int) : Option (Int) :=
 (if (W64 (a1 - (a0.length : Int))) < 0 then
 some (-1)
 else
 ((
 m_l_szParamS_L2 a0 (W64 (a1 - (a0.length : Int))) 0
 : Option ((Int) ⊕ Int)) >>= fun o3 => match o3 with
 | .inr r => some r
 | .inl y2 =>
 some y2
 ))
theorem ok_l_szParamS {a0 : List TParam} {a1 : Int} {r : Int} (h : m_l_szParamS a0 a1 = some r) : ACall Tryz.prog 17 [sl 2 TParam.cells a0, .int .i64 a1] [] (fun res h => res = .int .i64 r ∧ h = []) := by
 refine vc1 Tryz.func17 ?_
 unfold m_l_szParamS at h
 refine .d (.d (.d (.d (sD h (fun hb1 h => ?_) (fun hb1 h => ?_)))))
 exact .d (eI h)
 obtain ⟨o3, ho4, hk5⟩ := bd h
 replace h := ho4
 refine .cut (fun σ η => ∃ y2, .inl y2 = o3 ∧ σ = [(1, .int .i64 y2)] ∧ η = []) ?_ ?_
 refine .d ?_
 refine le (m_l_szParamS_L2.partial_correctness a0 (motive := fun y6 y7 o16 => o3 = o16 → LoopAt _ _ [(0, sl 2 TParam.cells a0), (1, .int .i64 y6), (5, .int .i64 y7)] []) ?_ (W64 (a1 - (a0.length : Int))) 0 o3 h rfl) (tk [] ⟨.l, .i, .i, ⟨⟩⟩ ⟨⟩)
 intro F9 ih8 y6 y7 o16 h hr17
 subst hr17
 refine LoopAt.round (.d (.d (sD h (fun hb10 h => ?_) (fun hb10 h => ?_))))
 refine .d (.d (bk h fun x11 hx12 h => ⟨idx_bd hx12, _, (idx_row hx12).trans (TParam.cells_eq x11), (bk h fun v13 hv14 h => (pcP (ok_l_szParam hv14) (.d (sD h (fun hb15 h => ?_) (fun hb15 h => ?_)))))⟩))
 refine .d ?_
 obtain rfl := si h
 replace h := hk5
 exact eI h
 exact lg (ih8 _ _ _ h rfl) (tk [] ⟨.l, .i, .i, ⟨⟩⟩ ⟨⟩)
 exact ct ⟨_, si h, rfl, rfl⟩ (tk [] ⟨.i, ⟨⟩⟩ ⟨⟩)
 rintro _ _ ⟨y2, rfl, rfl, rfl⟩
 replace h := hk5
 exact .d (eI h)
def m_l_szStringS_L2 (a0 : List Str) (y6 : Int) (y7 : Int) : Option ((Int) ⊕ Int) :=
 (if y7 < (a0.length : Int) then
 idx a0 y7 >>= fun x11 =>
 (if (W64 (y6 - (x11.length : Int))) < 0 then
 some (.inr (-1))
 else
 m_l_szStringS_L2 a0 (W64 (y6 - (x11.length : Int))) (W64 (y7 + 1)))
 else
 some (.inl y6))
partial_fixpoint
def m_l_szStringS (a0 : List Str) (a1 : Int) : Option (Int) :=
 (if (W64 (a1 - (a0.length : Int))) < 0 then
 some (-1)
 else
 ((
 m_l_szStringS_L2 a0 (W64 (a1 - (a0.length : Int))) 0
 : Option ((Int) ⊕ Int)) >>= fun o3 => match o3 with
 | .inr r => some r
 | .inl y2 =>
 some y2
 ))
theorem ok_l_szStringS {a0 : List Str} {a1 : Int} {r : Int} (h : m_l_szStringS a0 a1 = some r) : ACall Tryz.prog 18 [sl 1 cS a0, .int .i64 a1] [] (fun res h => res = .int .i64 r ∧ h = []) := by
 refine vc1 Tryz.func18 ?_
 unfold m_l_szStringS at h
 refine .d (.d (.d (.d (sD h (fun hb1 h => ?_) (fun hb1 h => ?_)))))
 exact .d (eI h)
 obtain ⟨o3, ho4, hk5⟩ := bd h
 replace h := ho4
 refine .cut (fun σ η => ∃ y2, .inl y2 = o3 ∧ σ = [(1, .int .i64 y2)] ∧ η = []) ?_ ?_
 refine .d ?_
 refine le (m_l_szStringS_L2.partial_correctness a0 (motive := fun y6 y7 o14 => o3 = o14 → LoopAt _ _ [(0, sl 1 cS a0), (1, .int .i64 y6), (5, .int .i64 y7)] []) ?_ (W64 (a1 - (a0.length : Int))) 0 o3 h rfl) (tk [] ⟨.l, .i, .i, ⟨⟩⟩ ⟨⟩)
 intro F9 ih8 y6 y7 o14 h hr15
 subst hr15
 refine LoopAt.round (.d (.d (sD h (fun hb10 h => ?_) (fun hb10 h => ?_))))
 refine .d (.d (bk h fun x11 hx12 h => ⟨idx_bd hx12, _, (idx_row hx12).trans rfl, (.d (sD h (fun hb13 h => ?_) (fun hb13 h => ?_)))⟩))
 refine .d ?_
 obtain rfl := si h
 replace h := hk5
 exact eI h
 exact lg (ih8 _ _ _ h rfl) (tk [] ⟨.l, .i, .i, ⟨⟩⟩ ⟨⟩)
 exact ct ⟨_, si h, rfl, rfl⟩ (tk [] ⟨.i, ⟨⟩⟩ ⟨⟩)
 rintro _ _ ⟨y2, rfl, rfl, rfl⟩
 replace h := hk5
 exact .d (eI h)
def m_l_szFunc (a0 : TFunc) (a1 : Int) : Option (Int) :=
 (if (W64 (a1 - (a0.fName.length : Int))) < 0 then
 some (-1)
 else
 m_l_szParamS a0.fParams (W64 (a1 - (a0.fName.length : Int))) >>= fun v2 =>
 (if v2 < 0 then
 some (-1)
 else
 m_l_szParamS a0.fUses v2 >>= fun v5 =>
 (if v5 < 0 then
 some (-1)
 else
 m_l_szStringS a0.fSlots v5 >>= fun v8 =>
 (if v8 < 0 then
 some (-1)
 else
 m_l_szInsS a0.fCode v8 >>= fun v11 =>
 (if v11 < 0 then
 some (-1)
 else
 some v11)))))
theorem ok_l_szFunc {a0 : TFunc} {a1 : Int} {r : Int} (h : m_l_szFunc a0 a1 = some r) : ACall Tryz.prog 6 [.agg a0.lit, .int .i64 a1] [] (fun res h => res = .int .i64 r ∧ h = []) := by
 refine vc1 Tryz.func6 ?_
 unfold m_l_szFunc at h
 refine .d (.d ⟨rfl, ⟨rfl, _, rfl, (.d (.d (sD h (fun hb1 h => ?_) (fun hb1 h => ?_))))⟩⟩)
 exact .d (eI h)
 refine .d ⟨rfl, ⟨rfl, _, rfl, (bk h fun v2 hv3 h => (pcP (ok_l_szParamS hv3) (.d (.d (sD h (fun hb4 h => ?_) (fun hb4 h => ?_))))))⟩⟩
 exact .d (eI h)
 refine .d ⟨rfl, ⟨rfl, _, rfl, (bk h fun v5 hv6 h => (pcP (ok_l_szParamS hv6) (.d (.d (sD h (fun hb7 h => ?_) (fun hb7 h => ?_))))))⟩⟩
 exact .d (eI h)
 refine .d ⟨rfl, ⟨rfl, _, rfl, (bk h fun v8 hv9 h => (pcP (ok_l_szStringS hv9) (.d (.d (sD h (fun hb10 h => ?_) (fun hb10 h => ?_))))))⟩⟩
 exact .d (eI h)
 refine .d ⟨rfl, ⟨rfl, _, rfl, (bk h fun v11 hv12 h => (pcP (ok_l_szInsS hv12) (.d (.d (sD h (fun hb13 h => ?_) (fun hb13 h => ?_))))))⟩⟩
 exact .d (eI h)
 exact .d (eI h)
theorem ok_l_toInsx (a0 : TIns) : ACall Tryz.prog 63 [.agg a0.lit] [] (fun res h => res = .agg a0.lit ∧ h = []) := by
 refine vc1 Tryz.func63 ?_
 refine .d (.d (.d ⟨rfl, ⟨rfl, _, rfl, ⟨rfl, ⟨rfl, _, fun _ => [.int .i64 a0.fOp, .int .i64 0, .int .i64 0, .str [], .str []], rfl, one_set rfl, (.d ⟨rfl, ⟨rfl, _, rfl, ⟨rfl, ⟨rfl, _, fun _ => [.int .i64 a0.fOp, .int .i64 a0.fA, .int .i64 0, .str [], .str []], rfl, one_set rfl, (.d ⟨rfl, ⟨rfl, _, rfl, ?_⟩⟩)⟩⟩⟩⟩)⟩⟩⟩⟩))
 refine ⟨rfl, ⟨rfl, _, fun _ => [.int .i64 a0.fOp, .int .i64 a0.fA, .int .i64 a0.fB, .str [], .str []], rfl, one_set rfl, (.d ⟨rfl, ⟨rfl, _, rfl, ⟨rfl, ⟨rfl, _, fun _ => [.int .i64 a0.fOp, .int .i64 a0.fA, .int .i64 a0.fB, .str a0.fS, .str []], rfl, one_set rfl, (.d ⟨rfl, ⟨rfl, _, rfl, ⟨rfl, ⟨rfl, _, fun _ => [.int .i64 a0.fOp, .int .i64 a0.fA, .int .i64 a0.fB, .str a0.fS, .str a0.fT], rfl, one_set rfl, (.d ⟨rfl, _, rfl, ⟨rfl, _, fun _ => [.int .i64 a0.fOp, .int .i64 a0.fA, .int .i64 a0.fB, .str a0.fS, .str a0.fT], rfl, one_set rfl, ?_⟩⟩)⟩⟩⟩⟩)⟩⟩⟩⟩)⟩⟩
 exact ⟨rfl, _, rfl, (en [] ⟨rfl, rfl⟩ (.agg_l ⟨.i, .i, .i, .s, .s, ⟨⟩⟩) ⟨⟩)⟩
theorem ok_l_toParamx (a0 : TParam) : ACall Tryz.prog 62 [.agg a0.lit] [] (fun res h => res = .agg a0.lit ∧ h = []) := by
 refine vc1 Tryz.func62 ?_
 refine .d (.d (.d ⟨rfl, ⟨rfl, _, rfl, ⟨rfl, ⟨rfl, _, fun _ => [.str a0.fName, .bool false], rfl, one_set rfl, (.d ⟨rfl, ⟨rfl, _, rfl, ⟨rfl, ⟨rfl, _, fun _ => [.str a0.fName, .bool a0.fRef], rfl, one_set rfl, (.d ⟨rfl, _, rfl, ⟨rfl, _, fun _ => [.str a0.fName, .bool a0.fRef], rfl, one_set rfl, ?_⟩⟩)⟩⟩⟩⟩)⟩⟩⟩⟩))
 exact ⟨rfl, _, rfl, (en [] ⟨rfl, rfl⟩ (.agg_l ⟨.s, .b, ⟨⟩⟩) ⟨⟩)⟩
def m_l_toInsS_L2 (a0 : List TIns) (l7 : List TIns) (y8 : Int) : Option ((List TIns)) :=
 (if y8 < (a0.length : Int) then
 idx a0 y8 >>= fun x12 =>
 idx l7 y8 >>= fun x14 =>
 m_l_toInsS_L2 a0 (l7.set y8.toNat x12) (W64 (y8 + 1))
 else
 some l7)
partial_fixpoint
def m_l_toInsS (a0 : List TIns) : Option ((List TIns)) :=
 (lmake 56 (a0.length : Int) (a0.length : Int) : Option (List TIns)) >>= fun l1 =>
 (
 m_l_toInsS_L2 a0 l1 0
 : Option ((List TIns))) >>= fun l3 =>
 some l3
theorem ok_l_toInsS {a0 : List TIns} {r : (List TIns)} (h : m_l_toInsS a0 = some r) : ACall Tryz.prog 26 [sl 5 TIns.cells a0] [] (fun res h => res = sl 5 TIns.cells r ∧ h = []) := by
 refine vc1 Tryz.func26 ?_
 unfold m_l_toInsS at h
 refine .d (.d (bk h fun l1 hx2 h => ⟨lmake_bd hx2, l1.length, row TIns.cells l1, lmake_len hx2, lmake_row hx2 (TIns.cells_eq default) ⟨.same _, .same _, .same _, .same _, .same _, trivial⟩, ?_⟩))
 obtain ⟨o4, ho5, hk6⟩ := bd h
 replace h := ho5
 refine .cut (fun σ η => ∃ l3, l3 = o4 ∧ σ = [(3, .own 0 0 0 l3.length)] ∧ η = [.row 0 5 l3.length 46 (row TIns.cells l3)]) ?_ ?_
 refine .d ?_
 refine le (m_l_toInsS_L2.partial_correctness a0 (motive := fun l7 y8 o16 => o4 = o16 → LoopAt _ _ [(0, sl 5 TIns.cells a0), (3, .own 0 0 0 l7.length), (4, .int .i64 y8)] [.row 0 5 l7.length 46 (row TIns.cells l7)]) ?_ l1 0 o4 h rfl) (tk [0] ⟨.l, .o, .i, ⟨⟩⟩ ⟨nw, ⟨⟩⟩)
 intro F10 ih9 l7 y8 o16 h hr17
 subst hr17
 refine LoopAt.round (.d (.d (sD h (fun hb11 h => ?_) (fun hb11 h => ?_))))
 exact .d (bk h fun x12 hx13 h => ⟨idx_bd hx13, _, (idx_row hx13).trans (TIns.cells_eq x12), (pcP (ok_l_toInsx x12) (bk h fun x14 hx15 h => ⟨rfl, idx_bd hx15, _, Nat.zero_add _, ⟨rfl, _, row TIns.cells (l7.set y8.toNat x12), ((idx_row hx15).trans (TIns.cells_eq x14)), row_set (idx_lt hx15) (TIns.cells_eq x12) ⟨.same _, .same _, .same _, .same _, .same _, trivial⟩, (lg (ih9 _ _ _ h rfl) (tk [0] ⟨.l, (.ox ln), .i, ⟨⟩⟩ ⟨(nwx rfl ln), ⟨⟩⟩))⟩⟩))⟩)
 exact ct ⟨_, si h, rfl, rfl⟩ (tk [0] ⟨.o, ⟨⟩⟩ ⟨nw, ⟨⟩⟩)
 rintro _ _ ⟨l3, rfl, rfl, rfl⟩
 replace h := hk6
 refine .d ?_
 obtain rfl := si h
 exact en [] ⟨rfl, rfl⟩ .r ⟨⟩
def m_l_toParamS_L2 (a0 : List TParam) (l7 : List TParam) (y8 : Int) : Option ((List TParam)) :=
 (if y8 < (a0.length : Int) then
 idx a0 y8 >>= fun x12 =>
 idx l7 y8 >>= fun x14 =>
 m_l_toParamS_L2 a0 (l7.set y8.toNat x12) (W64 (y8 + 1))
 else
 some l7)
partial_fixpoint
def m_l_toParamS (a0 : List TParam) : Option ((List TParam)) :=
 (lmake 24 (a0.length : Int) (a0.length : Int) : Option (List TParam)) >>= fun l1 =>
 (
 m_l_toParamS_L2 a0 l1 0
 : Option ((List TParam))) >>= fun l3 =>
 some l3
theorem ok_l_toParamS {a0 : List TParam} {r : (List TParam)} (h : m_l_toParamS a0 = some r) : ACall Tryz.prog 24 [sl 2 TParam.cells a0] [] (fun res h => res = sl 2 TParam.cells r ∧ h = []) := by
 refine vc1 Tryz.func24 ?_
 unfold m_l_toParamS at h
 refine .d (.d (bk h fun l1 hx2 h => ⟨lmake_bd hx2, l1.length, row TParam.cells l1, lmake_len hx2, lmake_row hx2 (TParam.cells_eq default) ⟨.same _, .same _, trivial⟩, ?_⟩))
 obtain ⟨o4, ho5, hk6⟩ := bd h
 replace h := ho5
 refine .cut (fun σ η => ∃ l3, l3 = o4 ∧ σ = [(3, .own 0 0 0 l3.length)] ∧ η = [.row 0 2 l3.length 70 (row TParam.cells l3)]) ?_ ?_
 refine .d ?_
 refine le (m_l_toParamS_L2.partial_correctness a0 (motive := fun l7 y8 o16 => o4 = o16 → LoopAt _ _ [(0, sl 2 TParam.cells a0), (3, .own 0 0 0 l7.length), (4, .int .i64 y8)] [.row 0 2 l7.length 70 (row TParam.cells l7)]) ?_ l1 0 o4 h rfl) (tk [0] ⟨.l, .o, .i, ⟨⟩⟩ ⟨nw, ⟨⟩⟩)
 intro F10 ih9 l7 y8 o16 h hr17
 subst hr17
 refine LoopAt.round (.d (.d (sD h (fun hb11 h => ?_) (fun hb11 h => ?_))))
 exact .d (bk h fun x12 hx13 h => ⟨idx_bd hx13, _, (idx_row hx13).trans (TParam.cells_eq x12), (pcP (ok_l_toParamx x12) (bk h fun x14 hx15 h => ⟨rfl, idx_bd hx15, _, Nat.zero_add _, ⟨rfl, _, row TParam.cells (l7.set y8.toNat x12), ((idx_row hx15).trans (TParam.cells_eq x14)), row_set (idx_lt hx15) (TParam.cells_eq x12) ⟨.same _, .same _, trivial⟩, (lg (ih9 _ _ _ h rfl) (tk [0] ⟨.l, (.ox ln), .i, ⟨⟩⟩ ⟨(nwx rfl ln), ⟨⟩⟩))⟩⟩))⟩)
 exact ct ⟨_, si h, rfl, rfl⟩ (tk [0] ⟨.o, ⟨⟩⟩ ⟨nw, ⟨⟩⟩)
 rintro _ _ ⟨l3, rfl, rfl, rfl⟩
 replace h := hk6
 refine .d ?_
 obtain rfl := si h
 exact en [] ⟨rfl, rfl⟩ .r ⟨⟩
def m_l_toStringS_L2 (a0 : List Str) (l7 : List Str) (y8 : Int) : Option ((List Str)) :=
 (if y8 < (a0.length : Int) then
 idx a0 y8 >>= fun x12 =>
 idx l7 y8 >>= fun x14 =>
 m_l_toStringS_L2 a0 (l7.set y8.toNat x12) (W64 (y8 + 1))
 else
 some l7)
partial_fixpoint
def m_l_toStringS (a0 : List Str) : Option ((List Str)) :=
 (lmake 16 (a0.length : Int) (a0.length : Int) : Option (List Str)) >>= fun l1 =>
 (
 m_l_toStringS_L2 a0 l1 0
 : Option ((List Str))) >>= fun l3 =>
 some l3
theorem ok_l_toStringS {a0 : List Str} {r : (List Str)} (h : m_l_toStringS a0 = some r) : ACall Tryz.prog 25 [sl 1 cS a0] [] (fun res h => res = sl 1 cS r ∧ h = []) := by
 refine vc1 Tryz.func25 ?_
 unfold m_l_toStringS at h
 refine .d (.d (bk h fun l1 hx2 h => ⟨lmake_bd hx2, l1.length, row cS l1, lmake_len hx2, lmake_row hx2 rfl ⟨.same _, trivial⟩, ?_⟩))
 obtain ⟨o4, ho5, hk6⟩ := bd h
 replace h := ho5
 refine .cut (fun σ η => ∃ l3, l3 = o4 ∧ σ = [(3, .own 0 0 0 l3.length)] ∧ η = [.row 0 1 l3.length 9 (row cS l3)]) ?_ ?_
 refine .d ?_
 refine le (m_l_toStringS_L2.partial_correctness a0 (motive := fun l7 y8 o16 => o4 = o16 → LoopAt _ _ [(0, sl 1 cS a0), (3, .own 0 0 0 l7.length), (4, .int .i64 y8)] [.row 0 1 l7.length 9 (row cS l7)]) ?_ l1 0 o4 h rfl) (tk [0] ⟨.l, .o, .i, ⟨⟩⟩ ⟨nw, ⟨⟩⟩)
 intro F10 ih9 l7 y8 o16 h hr17
 subst hr17
 refine LoopAt.round (.d (.d (sD h (fun hb11 h => ?_) (fun hb11 h => ?_))))
 exact .d (bk h fun x12 hx13 h => ⟨idx_bd hx13, _, (idx_row hx13).trans rfl, (bk h fun x14 hx15 h => ⟨rfl, idx_bd hx15, _, Nat.zero_add _, ⟨rfl, _, row cS (l7.set y8.toNat x12), ((idx_row hx15).trans rfl), row_set (idx_lt hx15) rfl ⟨.same _, trivial⟩, (lg (ih9 _ _ _ h rfl) (tk [0] ⟨.l, (.ox ln), .i, ⟨⟩⟩ ⟨(nwx rfl ln), ⟨⟩⟩))⟩⟩)⟩)
 exact ct ⟨_, si h, rfl, rfl⟩ (tk [0] ⟨.o, ⟨⟩⟩ ⟨nw, ⟨⟩⟩)
 rintro _ _ ⟨l3, rfl, rfl, rfl⟩
 replace h := hk6
 refine .d ?_
 obtain rfl := si h
 exact en [] ⟨rfl, rfl⟩ .r ⟨⟩
def m_l_toFunc (a0 : TFunc) : Option (TFunc) :=
 m_l_toParamS a0.fParams >>= fun v1 =>
 m_l_toParamS a0.fUses >>= fun v3 =>
 m_l_toStringS a0.fSlots >>= fun v5 =>
 m_l_toInsS a0.fCode >>= fun v7 =>
 some (TFunc.mk a0.fName v1 v3 v5 a0.fGen v7)
theorem ok_l_toFunc {a0 : TFunc} {r : TFunc} (h : m_l_toFunc a0 = some r) : ACall Tryz.prog 8 [.agg a0.lit] [] (fun res h => res = .agg r.lit ∧ h = []) := by
 refine vc1 Tryz.func8 ?_
 unfold m_l_toFunc at h
 refine .d (.d (.d ⟨rfl, ⟨rfl, _, rfl, ⟨rfl, ⟨rfl, _, fun _ => [.str a0.fName, .nils, .nils, .nils, .bool false, .nils], rfl, one_set rfl, (.d ⟨rfl, ⟨rfl, _, rfl, (bk h fun v1 hv2 h => (pcP (ok_l_toParamS hv2) ⟨rfl, ⟨rfl, _, fun _ => [.str a0.fName, sl 2 TParam.cells v1, .nils, .nils, .bool false, .nils], rfl, one_set rfl, (.d ?_)⟩⟩))⟩⟩)⟩⟩⟩⟩))
 refine ⟨rfl, ⟨rfl, _, rfl, (bk h fun v3 hv4 h => (pcP (ok_l_toParamS hv4) ⟨rfl, ⟨rfl, _, fun _ => [.str a0.fName, sl 2 TParam.cells v1, sl 2 TParam.cells v3, .nils, .bool false, .nils], rfl, one_set rfl, (.d ⟨rfl, ⟨rfl, _, rfl, (bk h fun v5 hv6 h => (pcP (ok_l_toStringS hv6) ⟨rfl, ⟨rfl, _, fun _ => [.str a0.fName, sl 2 TParam.cells v1, sl 2 TParam.cells v3, sl 1 cS v5, .bool false, .nils], rfl, one_set rfl, (.d ⟨rfl, ?_⟩)⟩⟩))⟩⟩)⟩⟩))⟩⟩
 refine ⟨rfl, _, rfl, ⟨rfl, ⟨rfl, _, fun _ => [.str a0.fName, sl 2 TParam.cells v1, sl 2 TParam.cells v3, sl 1 cS v5, .bool a0.fGen, .nils], rfl, one_set rfl, (.d ⟨rfl, ⟨rfl, _, rfl, (bk h fun v7 hv8 h => (pcP (ok_l_toInsS hv8) ⟨rfl, ⟨rfl, _, fun _ => [.str a0.fName, sl 2 TParam.cells v1, sl 2 TParam.cells v3, sl 1 cS v5, .bool a0.fGen, sl 5 TIns.cells v7], rfl, one_set rfl, (.d ⟨rfl, _, rfl, ⟨rfl, _, fun _ => [.str a0.fName, sl 2 TParam.cells v1, sl 2 TParam.cells v3, sl 1 cS v5, .bool a0.fGen, sl 5 TIns.cells v7], rfl, one_set rfl, ?_⟩⟩)⟩⟩))⟩⟩)⟩⟩⟩
 obtain rfl := si h
 exact ⟨rfl, _, rfl, (en [] ⟨rfl, rfl⟩ (.agg_l ⟨.s, .l, .l, .l, .b, .l, ⟨⟩⟩) ⟨⟩)⟩
def m_l_eqIns (a0 : TIns) (a1 : TIns) : Option (Bool) :=
 (if a0.fOp = a1.fOp then
 (if a0.fA = a1.fA then
 (if a0.fB = a1.fB then
 (if a0.fS = a1.fS then
 (if a0.fT = a1.fT then
 some true
 else
 some false)
 else
 some false)
 else
 some false)
 else
 some false)
 else
 some false)
theorem ok_l_eqIns {a0 : TIns} {a1 : TIns} {r : Bool} (h : m_l_eqIns a0 a1 = some r) : ACall Tryz.prog 79 [.agg a0.lit, .agg a1.lit] [] (fun res h => res = .bool r ∧ h = []) := by
 refine vc1 Tryz.func79 ?_
 unfold m_l_eqIns at h
 refine .d (.d (.d ⟨rfl, ⟨rfl, _, rfl, ⟨rfl, ⟨rfl, _, rfl, (sN h (fun hb1 h => ?_) (fun hb1 h => ?_))⟩⟩⟩⟩))
 exact .d (eB h)
 refine .d (.d ⟨rfl, ⟨rfl, _, rfl, ⟨rfl, ⟨rfl, _, rfl, (sN h (fun hb2 h => ?_) (fun hb2 h => ?_))⟩⟩⟩⟩)
 exact .d (eB h)
 refine .d (.d ⟨rfl, ⟨rfl, _, rfl, ⟨rfl, ⟨rfl, _, rfl, (sN h (fun hb3 h => ?_) (fun hb3 h => ?_))⟩⟩⟩⟩)
 exact .d (eB h)
 refine .d (.d ⟨rfl, ⟨rfl, _, rfl, ⟨rfl, ⟨rfl, _, rfl, (sEn h (fun hb4 h => ?_) (fun hb4 h => ?_))⟩⟩⟩⟩)
 exact .d (eB h)
 refine .d (.d ⟨rfl, ⟨rfl, _, rfl, ⟨rfl, ⟨rfl, _, rfl, (sEn h (fun hb5 h => ?_) (fun hb5 h => ?_))⟩⟩⟩⟩)
 exact .d (eB h)
 exact .d (eB h)
def m_l_eqParam (a0 : TParam) (a1 : TParam) : Option (Bool) :=
 (if a0.fName = a1.fName then
 (if a0.fRef = a1.fRef then
 some true
 else
 some false)
 else
 some false)
theorem ok_l_eqParam {a0 : TParam} {a1 : TParam} {r : Bool} (h : m_l_eqParam a0 a1 = some r) : ACall Tryz.prog 78 [.agg a0.lit, .agg a1.lit] [] (fun res h => res = .bool r ∧ h = []) := by
 refine vc1 Tryz.func78 ?_
 unfold m_l_eqParam at h
 refine .d (.d (.d ⟨rfl, ⟨rfl, _, rfl, ⟨rfl, ⟨rfl, _, rfl, (sEn h (fun hb1 h => ?_) (fun hb1 h => ?_))⟩⟩⟩⟩))
 exact .d (eB h)
 refine .d (.d ⟨rfl, ⟨rfl, _, rfl, ⟨rfl, ⟨rfl, _, rfl, (sEn h (fun hb2 h => ?_) (fun hb2 h => ?_))⟩⟩⟩⟩)
 exact .d (eB h)
 exact .d (eB h)
def m_l_eqInsS_L2 (a0 : List TIns) (a1 : List TIns) (y5 : Int) : Option ((Unit) ⊕ Bool) :=
 (if y5 < (a0.length : Int) then
 idx a0 y5 >>= fun x9 =>
 idx a1 y5 >>= fun x11 =>
 m_l_eqIns x9 x11 >>= fun v13 =>
 (if v13 = true then
 m_l_eqInsS_L2 a0 a1 (W64 (y5 + 1))
 else
 some (.inr false))
 else
 some (.inl ()))
partial_fixpoint
def m_l_eqInsS (a0 : List TIns) (a1 : List TIns) : Option (Bool) :=
 (if (a0.length : Int) = (a1.length : Int) then
 ((
 m_l_eqInsS_L2 a0 a1 0
 : Option ((Unit) ⊕ Bool)) >>= fun o2 => match o2 with
 | .inr r => some r
 | .inl _ =>
 some true
 )
 else
 some false)
theorem ok_l_eqInsS {a0 : List TIns} {a1 : List TIns} {r : Bool} (h : m_l_eqInsS a0 a1 = some r) : ACall Tryz.prog 34 [sl 5 TIns.cells a0, sl 5 TIns.cells a1] [] (fun res h => res = .bool r ∧ h = []) := by
 refine vc1 Tryz.func34 ?_
 unfold m_l_eqInsS at h
 refine .d (.d (.d (sN h (fun hb1 h => ?_) (fun hb1 h => ?_))))
 exact .d (eB h)
 obtain ⟨o2, ho3, hk4⟩ := bd h
 replace h := ho3
 refine .cut (fun σ η => .inl () = o2 ∧ σ = [] ∧ η = []) ?_ ?_
 refine .d ?_
 refine le (m_l_eqInsS_L2.partial_correctness a0 a1 (motive := fun y5 o16 => o2 = o16 → LoopAt _ _ [(0, sl 5 TIns.cells a0), (1, sl 5 TIns.cells a1), (5, .int .i64 y5)] []) ?_ 0 o2 h rfl) (tk [] ⟨.l, .l, .i, ⟨⟩⟩ ⟨⟩)
 intro F7 ih6 y5 o16 h hr17
 subst hr17
 refine LoopAt.round (.d (.d (sD h (fun hb8 h => ?_) (fun hb8 h => ?_))))
 refine .d (.d (.float [(0, true), (1, true), (2, true), (3, true), (4, true), (5, true), (6, true), (7, true), (8, false), (9, true)] (by kernel_rfl) ?_))
 refine bk h fun x9 hx10 h => ⟨idx_bd hx10, _, (idx_row hx10).trans (TIns.cells_eq x9), (bk h fun x11 hx12 h => ⟨idx_bd hx12, _, (idx_row hx12).trans (TIns.cells_eq x11), (bk h fun v13 hv14 h => (pcP (ok_l_eqIns hv14) (sVn h (fun hb15 h => ?_) (fun hb15 h => ?_))))⟩)⟩
 refine .d ?_
 obtain rfl := si h
 replace h := hk4
 exact eB h
 exact lg (ih6 _ _ h rfl) (tk [] ⟨.l, .l, .i, ⟨⟩⟩ ⟨⟩)
 exact ct ⟨si h, rfl, rfl⟩ (tk [] ⟨⟩ ⟨⟩)
 rintro _ _ ⟨rfl, rfl, rfl⟩
 replace h := hk4
 exact .d (eB h)
def m_l_eqParamS_L2 (a0 : List TParam) (a1 : List TParam) (y5 : Int) : Option ((Unit) ⊕ Bool) :=
 (if y5 < (a0.length : Int) then
 idx a0 y5 >>= fun x9 =>
 idx a1 y5 >>= fun x11 =>
 m_l_eqParam x9 x11 >>= fun v13 =>
 (if v13 = true then
 m_l_eqParamS_L2 a0 a1 (W64 (y5 + 1))
 else
 some (.inr false))
 else
 some (.inl ()))
partial_fixpoint
def m_l_eqParamS (a0 : List TParam) (a1 : List TParam) : Option (Bool) :=
 (if (a0.length : Int) = (a1.length : Int) then
 ((
 m_l_eqParamS_L2 a0 a1 0
 : Option ((Unit) ⊕ Bool)) >>= fun o2 => match o2 with
 | .inr r => some r
 | .inl _ =>
 some true
 )
 else
 some false)
theorem ok_l_eqParamS {a0 : List TParam} {a1 : List TParam} {r : Bool} (h : m_l_eqParamS a0 a1 = some r) : ACall Tryz.prog 32 [sl 2 TParam.cells a0, sl 2 TParam.cells a1] [] (fun res h => res = .bool r ∧ h = []) := by
 refine vc1 Tryz.func32 ?_
 unfold m_l_eqParamS at h
 refine .d (.d (.d (sN h (fun hb1 h => ?_) (fun hb1 h => ?_))))
 exact .d (eB h)
 obtain ⟨o2, ho3, hk4⟩ := bd h
 replace h := ho3
 refine .cut (fun σ η => .inl () = o2 ∧ σ = [] ∧ η = []) ?_ ?_
 refine .d ?_
 refine le (m_l_eqParamS_L2.partial_correctness a0 a1 (motive := fun y5 o16 => o2 = o16 → LoopAt _ _ [(0, sl 2 TParam.cells a0), (1, sl 2 TParam.cells a1), (5, .int .i64 y5)] []) ?_ 0 o2 h rfl) (tk [] ⟨.l, .l, .i, ⟨⟩⟩ ⟨⟩)
 intro F7 ih6 y5 o16 h hr17
 subst hr17
 refine LoopAt.round (.d (.d (sD h (fun hb8 h => ?_) (fun hb8 h => ?_))))
 refine .d (.d (.float [(0, true), (1, true), (2, true), (3, true), (4, true), (5, true), (6, true), (7, true), (8, false), (9, true)] (by kernel_rfl) ?_))
 refine bk h fun x9 hx10 h => ⟨idx_bd hx10, _, (idx_row hx10).trans (TParam.cells_eq x9), (bk h fun x11 hx12 h => ⟨idx_bd hx12, _, (idx_row hx12).trans (TParam.cells_eq x11), (bk h fun v13 hv14 h => (pcP (ok_l_eqParam hv14) (sVn h (fun hb15 h => ?_) (fun hb15 h => ?_))))⟩)⟩
 refine .d ?_
 obtain rfl := si h
 replace h := hk4
 exact eB h
 exact lg (ih6 _ _ h rfl) (tk [] ⟨.l, .l, .i, ⟨⟩⟩ ⟨⟩)
 exact ct ⟨si h, rfl, rfl⟩ (tk [] ⟨⟩ ⟨⟩)
 rintro _ _ ⟨rfl, rfl, rfl⟩
 replace h := hk4
 exact .d (eB h)
def m_l_eqStringS_L2 (a0 : List Str) (a1 : List Str) (y5 : Int) : Option ((Unit) ⊕ Bool) :=
 (if y5 < (a0.length : Int) then
 idx a0 y5 >>= fun x9 =>
 idx a1 y5 >>= fun x11 =>
 (if x9 = x11 then
 m_l_eqStringS_L2 a0 a1 (W64 (y5 + 1))
 else
 some (.inr false))
 else
 some (.inl ()))
partial_fixpoint
def m_l_eqStringS (a0 : List Str) (a1 : List Str) : Option (Bool) :=
 (if (a0.length : Int) = (a1.length : Int) then
 ((
 m_l_eqStringS_L2 a0 a1 0
 : Option ((Unit) ⊕ Bool)) >>= fun o2 => match o2 with
 | .inr r => some r
 | .inl _ =>
 some true
 )
 else
 some false)
theorem ok_l_eqStringS {a0 : List Str} {a1 : List Str} {r : Bool} (h : m_l_eqStringS a0 a1 = some r) : ACall Tryz.prog 33 [sl 1 cS a0, sl 1 cS a1] [] (fun res h => res = .bool r ∧ h = []) := by
 refine vc1 Tryz.func33 ?_
 unfold m_l_eqStringS at h
 refine .d (.d (.d (sN h (fun hb1 h => ?_) (fun hb1 h => ?_))))
 exact .d (eB h)
 obtain ⟨o2, ho3, hk4⟩ := bd h
 replace h := ho3
 refine .cut (fun σ η => .inl () = o2 ∧ σ = [] ∧ η = []) ?_ ?_
 refine .d ?_
 refine le (m_l_eqStringS_L2.partial_correctness a0 a1 (motive := fun y5 o14 => o2 = o14 → LoopAt _ _ [(0, sl 1 cS a0), (1, sl 1 cS a1), (5, .int .i64 y5)] []) ?_ 0 o2 h rfl) (tk [] ⟨.l, .l, .i, ⟨⟩⟩ ⟨⟩)
 intro F7 ih6 y5 o14 h hr15
 subst hr15
 refine LoopAt.round (.d (.d (sD h (fun hb8 h => ?_) (fun hb8 h => ?_))))
 refine .d (.d (bk h fun x9 hx10 h => ⟨idx_bd hx10, _, (idx_row hx10).trans rfl, (bk h fun x11 hx12 h => ⟨idx_bd hx12, _, (idx_row hx12).trans rfl, (sEn h (fun hb13 h => ?_) (fun hb13 h => ?_))⟩)⟩))
 refine .d ?_
 obtain rfl := si h
 replace h := hk4
 exact eB h
 exact lg (ih6 _ _ h rfl) (tk [] ⟨.l, .l, .i, ⟨⟩⟩ ⟨⟩)
 exact ct ⟨si h, rfl, rfl⟩ (tk [] ⟨⟩ ⟨⟩)
 rintro _ _ ⟨rfl, rfl, rfl⟩
 replace h := hk4
 exact .d (eB h)
def m_l_eqFunc (a0 : TFunc) (a1 : TFunc) : Option (Bool) :=
 (if a0.fName = a1.fName then
 m_l_eqParamS a0.fParams a1.fParams >>= fun v2 =>
 (if v2 = true then
 m_l_eqParamS a0.fUses a1.fUses >>= fun v5 =>
 (if v5 = true then
 m_l_eqStringS a0.fSlots a1.fSlots >>= fun v8 =>
 (if v8 = true then
 (if a0.fGen = a1.fGen then
 m_l_eqInsS a0.fCode a1.fCode >>= fun v12 =>
 (if v12 = true then
 some true
 else
 some false)
 else
 some false)
 else
 some false)
 else
 some false)
 else
 some false)
 else
 some false)
theorem ok_l_eqFunc {a0 : TFunc} {a1 : TFunc} {r : Bool} (h : m_l_eqFunc a0 a1 = some r) : ACall Tryz.prog 10 [.agg a0.lit, .agg a1.lit] [] (fun res h => res = .bool r ∧ h = []) := by
 refine vc1 Tryz.func10 ?_
 unfold m_l_eqFunc at h
 refine .d (.d (.d ⟨rfl, ⟨rfl, _, rfl, ⟨rfl, ⟨rfl, _, rfl, (sEn h (fun hb1 h => ?_) (fun hb1 h => ?_))⟩⟩⟩⟩))
 exact .d (eB h)
 refine .d (.d ⟨rfl, ⟨rfl, _, rfl, ⟨rfl, ⟨rfl, _, rfl, (bk h fun v2 hv3 h => (pcP (ok_l_eqParamS hv3) (sVn h (fun hb4 h => ?_) (fun hb4 h => ?_))))⟩⟩⟩⟩)
 exact .d (eB h)
 refine .d (.d ⟨rfl, ⟨rfl, _, rfl, ⟨rfl, ⟨rfl, _, rfl, (bk h fun v5 hv6 h => (pcP (ok_l_eqParamS hv6) (sVn h (fun hb7 h => ?_) (fun hb7 h => ?_))))⟩⟩⟩⟩)
 exact .d (eB h)
 refine .d (.d ⟨rfl, ⟨rfl, _, rfl, ⟨rfl, ⟨rfl, _, rfl, (bk h fun v8 hv9 h => (pcP (ok_l_eqStringS hv9) (sVn h (fun hb10 h => ?_) (fun hb10 h => ?_))))⟩⟩⟩⟩)
 exact .d (eB h)
 refine .d (.d ⟨rfl, ⟨rfl, _, rfl, ⟨rfl, ⟨rfl, _, rfl, (sEn h (fun hb11 h => ?_) (fun hb11 h => ?_))⟩⟩⟩⟩)
 exact .d (eB h)
 refine .d (.d ⟨rfl, ⟨rfl, _, rfl, ⟨rfl, ⟨rfl, _, rfl, (bk h fun v12 hv13 h => (pcP (ok_l_eqInsS hv13) (sVn h (fun hb14 h => ?_) (fun hb14 h => ?_))))⟩⟩⟩⟩)
 exact .d (eB h)
 exact .d (eB h)
theorem own_l_toParamS {a0 : List TParam} {r : (List TParam)} (h : m_l_toParamS a0 = some r) : ACall Tryz.prog 24 [sl 2 TParam.cells a0] [] (fun res h => res = .own 0 0 0 r.length ∧ h = [.row 0 2 r.length 70 (row TParam.cells r)]) := by
 refine vc1 Tryz.func24 ?_
 unfold m_l_toParamS at h
 refine .d (.d (bk h fun l1 hx2 h => ⟨lmake_bd hx2, l1.length, row TParam.cells l1, lmake_len hx2, lmake_row hx2 (TParam.cells_eq default) ⟨.same _, .same _, trivial⟩, ?_⟩))
 obtain ⟨o4, ho5, hk6⟩ := bd h
 replace h := ho5
 refine .cut (fun σ η => ∃ l3, l3 = o4 ∧ σ = [(3, .own 0 0 0 l3.length)] ∧ η = [.row 0 2 l3.length 70 (row TParam.cells l3)]) ?_ ?_
 refine .d ?_
 refine le (m_l_toParamS_L2.partial_correctness a0 (motive := fun l7 y8 o16 => o4 = o16 → LoopAt _ _ [(0, sl 2 TParam.cells a0), (3, .own 0 0 0 l7.length), (4, .int .i64 y8)] [.row 0 2 l7.length 70 (row TParam.cells l7)]) ?_ l1 0 o4 h rfl) (tk [0] ⟨.l, .o, .i, ⟨⟩⟩ ⟨nw, ⟨⟩⟩)
 intro F10 ih9 l7 y8 o16 h hr17
 subst hr17
 refine LoopAt.round (.d (.d (sD h (fun hb11 h => ?_) (fun hb11 h => ?_))))
 exact .d (bk h fun x12 hx13 h => ⟨idx_bd hx13, _, (idx_row hx13).trans (TParam.cells_eq x12), (pcP (ok_l_toParamx x12) (bk h fun x14 hx15 h => ⟨rfl, idx_bd hx15, _, Nat.zero_add _, ⟨rfl, _, row TParam.cells (l7.set y8.toNat x12), ((idx_row hx15).trans (TParam.cells_eq x14)), row_set (idx_lt hx15) (TParam.cells_eq x12) ⟨.same _, .same _, trivial⟩, (lg (ih9 _ _ _ h rfl) (tk [0] ⟨.l, (.ox ln), .i, ⟨⟩⟩ ⟨(nwx rfl ln), ⟨⟩⟩))⟩⟩))⟩)
 exact ct ⟨_, si h, rfl, rfl⟩ (tk [0] ⟨.o, ⟨⟩⟩ ⟨nw, ⟨⟩⟩)
 rintro _ _ ⟨l3, rfl, rfl, rfl⟩
 replace h := hk6
 refine .d ?_
 obtain rfl := si h
 exact en [0] ⟨rfl, rfl⟩ .o ⟨nw, ⟨⟩⟩
theorem own_l_toStringS {a0 : List Str} {r : (List Str)} (h : m_l_toStringS a0 = some r) : ACall Tryz.prog 25 [sl 1 cS a0] [] (fun res h => res = .own 0 0 0 r.length ∧ h = [.row 0 1 r.length 9 (row cS r)]) := by
 refine vc1 Tryz.func25 ?_
 unfold m_l_toStringS at h
 refine .d (.d (bk h fun l1 hx2 h => ⟨lmake_bd hx2, l1.length, row cS l1, lmake_len hx2, lmake_row hx2 rfl ⟨.same _, trivial⟩, ?_⟩))
 obtain ⟨o4, ho5, hk6⟩ := bd h
 replace h := ho5
 refine .cut (fun σ η => ∃ l3, l3 = o4 ∧ σ = [(3, .own 0 0 0 l3.length)] ∧ η = [.row 0 1 l3.length 9 (row cS l3)]) ?_ ?_
 refine .d ?_
 refine le (m_l_toStringS_L2.partial_correctness a0 (motive := fun l7 y8 o16 => o4 = o16 → LoopAt _ _ [(0, sl 1 cS a0), (3, .own 0 0 0 l7.length), (4, .int .i64 y8)] [.row 0 1 l7.length 9 (row cS l7)]) ?_ l1 0 o4 h rfl) (tk [0] ⟨.l, .o, .i, ⟨⟩⟩ ⟨nw, ⟨⟩⟩)
 intro F10 ih9 l7 y8 o16 h hr17
 subst hr17
 refine LoopAt.round (.d (.d (sD h (fun hb11 h => ?_) (fun hb11 h => ?_))))
 exact .d (bk h fun x12 hx13 h => ⟨idx_bd hx13, _, (idx_row hx13).trans rfl, (bk h fun x14 hx15 h => ⟨rfl, idx_bd hx15, _, Nat.zero_add _, ⟨rfl, _, row cS (l7.set y8.toNat x12), ((idx_row hx15).trans rfl), row_set (idx_lt hx15) rfl ⟨.same _, trivial⟩, (lg (ih9 _ _ _ h rfl) (tk [0] ⟨.l, (.ox ln), .i, ⟨⟩⟩ ⟨(nwx rfl ln), ⟨⟩⟩))⟩⟩)⟩)
 exact ct ⟨_, si h, rfl, rfl⟩ (tk [0] ⟨.o, ⟨⟩⟩ ⟨nw, ⟨⟩⟩)
 rintro _ _ ⟨l3, rfl, rfl, rfl⟩
 replace h := hk6
 refine .d ?_
 obtain rfl := si h
 exact en [0] ⟨rfl, rfl⟩ .o ⟨nw, ⟨⟩⟩
theorem own_l_toInsS {a0 : List TIns} {r : (List TIns)} (h : m_l_toInsS a0 = some r) : ACall Tryz.prog 26 [sl 5 TIns.cells a0] [] (fun res h => res = .own 0 0 0 r.length ∧ h = [.row 0 5 r.length 46 (row TIns.cells r)]) := by
 refine vc1 Tryz.func26 ?_
 unfold m_l_toInsS at h
 refine .d (.d (bk h fun l1 hx2 h => ⟨lmake_bd hx2, l1.length, row TIns.cells l1, lmake_len hx2, lmake_row hx2 (TIns.cells_eq default) ⟨.same _, .same _, .same _, .same _, .same _, trivial⟩, ?_⟩))
 obtain ⟨o4, ho5, hk6⟩ := bd h
 replace h := ho5
 refine .cut (fun σ η => ∃ l3, l3 = o4 ∧ σ = [(3, .own 0 0 0 l3.length)] ∧ η = [.row 0 5 l3.length 46 (row TIns.cells l3)]) ?_ ?_
 refine .d ?_
 refine le (m_l_toInsS_L2.partial_correctness a0 (motive := fun l7 y8 o16 => o4 = o16 → LoopAt _ _ [(0, sl 5 TIns.cells a0), (3, .own 0 0 0 l7.length), (4, .int .i64 y8)] [.row 0 5 l7.length 46 (row TIns.cells l7)]) ?_ l1 0 o4 h rfl) (tk [0] ⟨.l, .o, .i, ⟨⟩⟩ ⟨nw, ⟨⟩⟩)
 intro F10 ih9 l7 y8 o16 h hr17
 subst hr17
 refine LoopAt.round (.d (.d (sD h (fun hb11 h => ?_) (fun hb11 h => ?_))))
 exact .d (bk h fun x12 hx13 h => ⟨idx_bd hx13, _, (idx_row hx13).trans (TIns.cells_eq x12), (pcP (ok_l_toInsx x12) (bk h fun x14 hx15 h => ⟨rfl, idx_bd hx15, _, Nat.zero_add _, ⟨rfl, _, row TIns.cells (l7.set y8.toNat x12), ((idx_row hx15).trans (TIns.cells_eq x14)), row_set (idx_lt hx15) (TIns.cells_eq x12) ⟨.same _, .same _, .same _, .same _, .same _, trivial⟩, (lg (ih9 _ _ _ h rfl) (tk [0] ⟨.l, (.ox ln), .i, ⟨⟩⟩ ⟨(nwx rfl ln), ⟨⟩⟩))⟩⟩))⟩)
 exact ct ⟨_, si h, rfl, rfl⟩ (tk [0] ⟨.o, ⟨⟩⟩ ⟨nw, ⟨⟩⟩)
 rintro _ _ ⟨l3, rfl, rfl, rfl⟩
 replace h := hk6
 refine .d ?_
 obtain rfl := si h
 exact en [0] ⟨rfl, rfl⟩ .o ⟨nw, ⟨⟩⟩
theorem own_l_toFunc {a0 : TFunc} {r : TFunc} (h : m_l_toFunc a0 = some r) : ACall Tryz.prog 8 [.agg a0.lit] [] (fun res h => res = .agg [.str r.fName, .own 0 0 0 r.fParams.length, .own 1 0 0 r.fUses.length, .own 2 0 0 r.fSlots.length, .bool r.fGen, .own 3 0 0 r.fCode.length] ∧ h = [.row 0 2 r.fParams.length 70 (row TParam.cells r.fParams), .row 0 2 r.fUses.length 70 (row TParam.cells r.fUses), .row 0 1 r.fSlots.length 9 (row cS r.fSlots), .row 0 5 r.fCode.length 46 (row TIns.cells r.fCode)]) := by
 refine vc1 Tryz.func8 ?_
 unfold m_l_toFunc at h
 refine .d (.d (.d ⟨rfl, ⟨rfl, _, rfl, ⟨rfl, ⟨rfl, _, fun _ => [.str a0.fName, .nils, .nils, .nils, .bool false, .nils], rfl, one_set rfl, (.d ⟨rfl, ⟨rfl, _, rfl, (bk h fun v1 hv2 h => (pcF (own_l_toParamS hv2) (.own 3 0 0 v1.length) [.row 0 6 1 26 (fun _ => a0.lit), .row 0 6 1 32 (fun _ => [.str [], .nils, .nils, .nils, .bool false, .nils]), .row 0 6 1 32 (fun _ => [.str a0.fName, .nils, .nils, .nils, .bool false, .nils]), .row 0 2 v1.length 70 (row TParam.cells v1)] ⟨rfl, ⟨rfl, _, fun _ => [.str a0.fName, .own 3 0 0 v1.length, .nils, .nils, .bool false, .nils], rfl, one_set rfl, (.d ?_)⟩⟩))⟩⟩)⟩⟩⟩⟩))
 refine ⟨rfl, ⟨rfl, _, rfl, (bk h fun v3 hv4 h => (pcF (own_l_toParamS hv4) (.own 4 0 0 v3.length) [.row 0 6 1 26 (fun _ => a0.lit), .row 0 6 1 32 (fun _ => [.str [], .nils, .nils, .nils, .bool false, .nils]), .row 0 6 1 32 (fun _ => [.str a0.fName, .own 3 0 0 v1.length, .nils, .nils, .bool false, .nils]), .row 0 2 v1.length 70 (row TParam.cells v1), .row 0 2 v3.length 70 (row TParam.cells v3)] ⟨rfl, ⟨rfl, _, fun _ => [.str a0.fName, .own 3 0 0 v1.length, .own 4 0 0 v3.length, .nils, .bool false, .nils], rfl, one_set rfl, (.d ⟨rfl, ⟨rfl, _, rfl, (bk h fun v5 hv6 h => (pcF (own_l_toStringS hv6) (.own 5 0 0 v5.length) [.row 0 6 1 26 (fun _ => a0.lit), .row 0 6 1 32 (fun _ => [.str [], .nils, .nils, .nils, .bool false, .nils]), .row 0 6 1 32 (fun _ => [.str a0.fName, .own 3 0 0 v1.length, .own 4 0 0 v3.length, .nils, .bool false, .nils]), .row 0 2 v1.length 70 (row TParam.cells v1), .row 0 2 v3.length 70 (row TParam.cells v3), .row 0 1 v5.length 9 (row cS v5)] ⟨rfl, ⟨rfl, _, fun _ => [.str a0.fName, .own 3 0 0 v1.length, .own 4 0 0 v3.length, .own 5 0 0 v5.length, .bool false, .nils], rfl, one_set rfl, (.d ⟨rfl, ?_⟩)⟩⟩))⟩⟩)⟩⟩))⟩⟩
 refine ⟨rfl, _, rfl, ⟨rfl, ⟨rfl, _, fun _ => [.str a0.fName, .own 3 0 0 v1.length, .own 4 0 0 v3.length, .own 5 0 0 v5.length, .bool a0.fGen, .nils], rfl, one_set rfl, (.d ⟨rfl, ⟨rfl, _, rfl, (bk h fun v7 hv8 h => (pcF (own_l_toInsS hv8) (.own 6 0 0 v7.length) [.row 0 6 1 26 (fun _ => a0.lit), .row 0 6 1 32 (fun _ => [.str [], .nils, .nils, .nils, .bool false, .nils]), .row 0 6 1 32 (fun _ => [.str a0.fName, .own 3 0 0 v1.length, .own 4 0 0 v3.length, .own 5 0 0 v5.length, .bool a0.fGen, .nils]), .row 0 2 v1.length 70 (row TParam.cells v1), .row 0 2 v3.length 70 (row TParam.cells v3), .row 0 1 v5.length 9 (row cS v5), .row 0 5 v7.length 46 (row TIns.cells v7)] ⟨rfl, ⟨rfl, _, fun _ => [.str a0.fName, .own 3 0 0 v1.length, .own 4 0 0 v3.length, .own 5 0 0 v5.length, .bool a0.fGen, .own 6 0 0 v7.length], rfl, one_set rfl, (.d ⟨rfl, _, rfl, ⟨rfl, _, fun _ => [.str a0.fName, .own 3 0 0 v1.length, .own 4 0 0 v3.length, .own 5 0 0 v5.length, .bool a0.fGen, .own 6 0 0 v7.length], rfl, one_set rfl, ?_⟩⟩)⟩⟩))⟩⟩)⟩⟩⟩
 obtain rfl := si h
 exact ⟨rfl, _, rfl, (en [3, 4, 5, 6] ⟨rfl, rfl⟩ (.agg_l ⟨.s, .o, .o, .o, .b, .o, ⟨⟩⟩) ⟨nw, nw, nw, nw, ⟨⟩⟩)⟩
def m_l_markText_L2 (y6 : Int) (s7 : Str) : Option (Str) :=
 (if y6 > 0 then
 scat ([UInt8.ofNat (IntKind.u8.wrap (W64 (48 + (y6.tmod 10)))).toNat] : List UInt8) s7 >>= fun s11 =>
 m_l_markText_L2 (W64 (y6.tdiv 10)) s11
 else
 some s7)
partial_fixpoint
def m_l_markText (a0 : Int) : Option (Str) :=
 (if a0 ≤ 0 then
 some [109, 48]
 else
 (
 m_l_markText_L2 a0 []
 : Option (Str)) >>= fun s2 =>
 scat [109] s2 >>= fun s15 =>
 some s15)
theorem ok_l_markText {a0 : Int} {r : Str} (h : m_l_markText a0 = some r) : ACall Tryz.prog 82 [.int .i64 a0] [] (fun res h => res = .str r ∧ h = []) := by
 refine vc1 Tryz.func82 ?_
 unfold m_l_markText at h
 refine .d (.d (.d (sD h (fun hb1 h => ?_) (fun hb1 h => ?_))))
 exact .d (eS h)
 refine .d ?_
 obtain ⟨o3, ho4, hk5⟩ := bd h
 replace h := ho4
 refine .cut (fun σ η => ∃ s2, s2 = o3 ∧ σ = [(3, .str s2)] ∧ η = []) ?_ ?_
 refine le (m_l_markText_L2.partial_correctness  (motive := fun y6 s7 o13 => o3 = o13 → LoopAt _ _ [(0, .int .i64 y6), (3, .str s7)] []) ?_ a0 [] o3 h rfl) (tk [] ⟨.i, .s, ⟨⟩⟩ ⟨⟩)
 intro F9 ih8 y6 s7 o13 h hr14
 subst hr14
 refine LoopAt.round (.d (.d (sD h (fun hb10 h => ?_) (fun hb10 h => ?_))))
 exact .d ⟨by decide, ⟨row cB ([UInt8.ofNat (IntKind.u8.wrap (W64 (48 + (y6.tmod 10)))).toNat] : List UInt8), row_lit cB ([UInt8.ofNat (IntKind.u8.wrap (W64 (48 + (y6.tmod 10)))).toNat] : List UInt8) rfl (cll_cons (cB_wrap _) ⟨.same _, trivial⟩ trivial), ⟨rfl, ([UInt8.ofNat (IntKind.u8.wrap (W64 (48 + (y6.tmod 10)))).toNat] : List UInt8), rfl, bytes_shows shows_all rfl, (bk h fun s11 hx12 h => ⟨scat_bd hx12, s11, scat_at hx12, ⟨by decide, (lg (ih8 _ _ _ h rfl) (tk [] ⟨.i, .s, ⟨⟩⟩ ⟨⟩))⟩⟩)⟩⟩⟩
 exact ct ⟨_, si h, rfl, rfl⟩ (tk [] ⟨.s, ⟨⟩⟩ ⟨⟩)
 rintro _ _ ⟨s2, rfl, rfl, rfl⟩
 replace h := hk5
 exact .d (bk h fun s15 hx16 h => ⟨scat_bd hx16, s15, scat_at hx16, (eS h)⟩)
def m_l_markParamS_L2 (l6 : List TParam) (y7 : Int) (y8 : Int) : Option (Int × (List TParam)) :=
 (if y8 < (l6.length : Int) then
 m_l_markText y7 >>= fun v12 =>
 idx l6 y8 >>= fun x14 =>
 idx (l6.set y8.toNat (TParam.mk v12 x14.fRef)) y8 >>= fun x16 =>
 m_l_markParamS_L2 ((l6.set y8.toNat (TParam.mk v12 x14.fRef)).set y8.toNat (TParam.mk x16.fName (((W64 (y7 + 1)).tmod 3) == 0))) (W64 ((W64 (y7 + 1)) + 1)) (W64 (y8 + 1))
 else
 some (y7, l6))
partial_fixpoint
def m_l_markParamS (a0 : List TParam) (a1 : Int) : Option (Int × (List TParam)) :=
 (
 m_l_markParamS_L2 a0 a1 0
 : Option (Int × (List TParam))) >>= fun (y1, l2) =>
 some (y1, l2)
theorem ok_l_markParamS {a0 : List TParam} {a1 : Int} {r : Int × (List TParam)} {g1000 : Nat} (h : m_l_markParamS a0 a1 = some r) : ACall Tryz.prog 39 [.own 0 g1000 0 a0.length, .int .i64 a1] [.row g1000 2 a0.length 70 (row TParam.cells a0)] (fun res h => res = .int .i64 r.1 ∧ h = [.row g1000 2 r.2.length 70 (row TParam.cells r.2)]) := by
 refine vc1 Tryz.func39 ?_
 unfold m_l_markParamS at h
 refine .d ?_
 obtain ⟨o3, ho4, hk5⟩ := bd h
 replace h := ho4
 refine .cut (fun σ η => ∃ y1, ∃ l2, (y1, l2) = o3 ∧ σ = [(1, .int .i64 y1)] ∧ η = [.row g1000 2 l2.length 70 (row TParam.cells l2)]) ?_ ?_
 refine .d ?_
 refine le (m_l_markParamS_L2.partial_correctness  (motive := fun l6 y7 y8 o18 => o3 = o18 → LoopAt _ _ [(0, .own 0 g1000 0 l6.length), (1, .int .i64 y7), (5, .int .i64 y8)] [.row g1000 2 l6.length 70 (row TParam.cells l6)]) ?_ a0 a1 0 o3 h rfl) (tk [0] ⟨.o, .i, .i, ⟨⟩⟩ ⟨od, ⟨⟩⟩)
 intro F10 ih9 l6 y7 y8 o18 h hr19
 subst hr19
 refine LoopAt.round (.d (.d ⟨rfl, (sD h (fun hb11 h => ?_) (fun hb11 h => ?_))⟩))
 refine .d (.d (bk h fun v12 hv13 h => (pcP (ok_l_markText hv13) (bk h fun x14 hx15 h => ⟨rfl, idx_bd hx15, _, Nat.zero_add _, ⟨rfl, ⟨rfl, _, row TParam.cells (l6.set y8.toNat (TParam.mk v12 x14.fRef)), ((idx_row hx15).trans (TParam.cells_eq x14)), row_set (idx_lt hx15) (TParam.cells_eq (TParam.mk v12 x14.fRef)) ⟨.same _, .same _, trivial⟩, (.d (.d ⟨by decide, (bk h fun x16 hx17 h => ⟨rfl, (by have hq := idx_bd hx17; simp only [List.length_set] at hq; exact hq), _, Nat.zero_add _, ⟨rfl, ⟨rfl, _, row TParam.cells ((l6.set y8.toNat (TParam.mk v12 x14.fRef)).set y8.toNat (TParam.mk x16.fName (((W64 (y7 + 1)).tmod 3) == 0))), ((idx_row hx17).trans (TParam.cells_eq x16)), row_set (idx_lt hx17) (TParam.cells_eq (TParam.mk x16.fName (((W64 (y7 + 1)).tmod 3) == 0))) ⟨.same _, .same _, trivial⟩, ?_⟩⟩⟩)⟩))⟩⟩⟩))))
 exact lg (ih9 _ _ _ _ h rfl) (tk [0] ⟨(.ox ln), .i, .i, ⟨⟩⟩ ⟨(odx rfl ln), ⟨⟩⟩)
 exact ct ⟨_, _, si h, rfl, rfl⟩ (tk [0] ⟨.i, ⟨⟩⟩ ⟨od, ⟨⟩⟩)
 rintro _ _ ⟨y1, l2, rfl, rfl, rfl⟩
 replace h := hk5
 refine .d ?_
 obtain rfl := si h
 exact en [0] ⟨rfl, rfl⟩ .i ⟨od, ⟨⟩⟩
def m_l_markStringS_L2 (l6 : List Str) (y7 : Int) (y8 : Int) : Option (Int × (List Str)) :=
 (if y8 < (l6.length : Int) then
 m_l_markText y7 >>= fun v12 =>
 idx l6 y8 >>= fun x14 =>
 m_l_markStringS_L2 (l6.set y8.toNat v12) (W64 (y7 + 1)) (W64 (y8 + 1))
 else
 some (y7, l6))
partial_fixpoint
def m_l_markStringS (a0 : List Str) (a1 : Int) : Option (Int × (List Str)) :=
 (
 m_l_markStringS_L2 a0 a1 0
 : Option (Int × (List Str))) >>= fun (y1, l2) =>
 some (y1, l2)
theorem ok_l_markStringS {a0 : List Str} {a1 : Int} {r : Int × (List Str)} {g1000 : Nat} (h : m_l_markStringS a0 a1 = some r) : ACall Tryz.prog 40 [.own 0 g1000 0 a0.length, .int .i64 a1] [.row g1000 1 a0.length 9 (row cS a0)] (fun res h => res = .int .i64 r.1 ∧ h = [.row g1000 1 r.2.length 9 (row cS r.2)]) := by
 refine vc1 Tryz.func40 ?_
 unfold m_l_markStringS at h
 refine .d ?_
 obtain ⟨o3, ho4, hk5⟩ := bd h
 replace h := ho4
 refine .cut (fun σ η => ∃ y1, ∃ l2, (y1, l2) = o3 ∧ σ = [(1, .int .i64 y1)] ∧ η = [.row g1000 1 l2.length 9 (row cS l2)]) ?_ ?_
 refine .d ?_
 refine le (m_l_markStringS_L2.partial_correctness  (motive := fun l6 y7 y8 o16 => o3 = o16 → LoopAt _ _ [(0, .own 0 g1000 0 l6.length), (1, .int .i64 y7), (5, .int .i64 y8)] [.row g1000 1 l6.length 9 (row cS l6)]) ?_ a0 a1 0 o3 h rfl) (tk [0] ⟨.o, .i, .i, ⟨⟩⟩ ⟨od, ⟨⟩⟩)
 intro F10 ih9 l6 y7 y8 o16 h hr17
 subst hr17
 refine LoopAt.round (.d (.d ⟨rfl, (sD h (fun hb11 h => ?_) (fun hb11 h => ?_))⟩))
 exact .d (.d (bk h fun v12 hv13 h => (pcP (ok_l_markText hv13) (bk h fun x14 hx15 h => ⟨rfl, idx_bd hx15, _, Nat.zero_add _, ⟨rfl, _, row cS (l6.set y8.toNat v12), ((idx_row hx15).trans rfl), row_set (idx_lt hx15) rfl ⟨.same _, trivial⟩, (lg (ih9 _ _ _ _ h rfl) (tk [0] ⟨(.ox ln), .i, .i, ⟨⟩⟩ ⟨(odx rfl ln), ⟨⟩⟩))⟩⟩))))
 exact ct ⟨_, _, si h, rfl, rfl⟩ (tk [0] ⟨.i, ⟨⟩⟩ ⟨od, ⟨⟩⟩)
 rintro _ _ ⟨y1, l2, rfl, rfl, rfl⟩
 replace h := hk5
 refine .d ?_
 obtain rfl := si h
 exact en [0] ⟨rfl, rfl⟩ .i ⟨od, ⟨⟩⟩
def m_l_markInsS_L2 (l6 : List TIns) (y7 : Int) (y8 : Int) : Option (Int × (List TIns)) :=
 (if y8 < (l6.length : Int) then
 idx l6 y8 >>= fun x12 =>
 idx (l6.set y8.toNat (TIns.mk y7 x12.fA x12.fB x12.fS x12.fT)) y8 >>= fun x14 =>
 idx ((l6.set y8.toNat (TIns.mk y7 x12.fA x12.fB x12.fS x12.fT)).set y8.toNat (TIns.mk x14.fOp (W64 (y7 + 1)) x14.fB x14.fS x14.fT)) y8 >>= fun x16 =>
 m_l_markText (W64 ((W64 ((W64 (y7 + 1)) + 1)) + 1)) >>= fun v18 =>
 idx (((l6.set y8.toNat (TIns.mk y7 x12.fA x12.fB x12.fS x12.fT)).set y8.toNat (TIns.mk x14.fOp (W64 (y7 + 1)) x14.fB x14.fS x14.fT)).set y8.toNat (TIns.mk x16.fOp x16.fA (W64 ((W64 (y7 + 1)) + 1)) x16.fS x16.fT)) y8 >>= fun x20 =>
 m_l_markText (W64 ((W64 ((W64 ((W64 (y7 + 1)) + 1)) + 1)) + 1)) >>= fun v22 =>
 idx ((((l6.set y8.toNat (TIns.mk y7 x12.fA x12.fB x12.fS x12.fT)).set y8.toNat (TIns.mk x14.fOp (W64 (y7 + 1)) x14.fB x14.fS x14.fT)).set y8.toNat (TIns.mk x16.fOp x16.fA (W64 ((W64 (y7 + 1)) + 1)) x16.fS x16.fT)).set y8.toNat (TIns.mk x20.fOp x20.fA x20.fB v18 x20.fT)) y8 >>= fun x24 =>
 m_l_markInsS_L2 (((((l6.set y8.toNat (TIns.mk y7 x12.fA x12.fB x12.fS x12.fT)).set y8.toNat (TIns.mk x14.fOp (W64 (y7 + 1)) x14.fB x14.fS x14.fT)).set y8.toNat (TIns.mk x16.fOp x16.fA (W64 ((W64 (y7 + 1)) + 1)) x16.fS x16.fT)).set y8.toNat (TIns.mk x20.fOp x20.fA x20.fB v18 x20.fT)).set y8.toNat (TIns.mk x24.fOp x24.fA x24.fB x24.fS v22)) (W64 ((W64 ((W64 ((W64 ((W64 (y7 + 1)) + 1)) + 1)) + 1)) + 1)) (W64 (y8 + 1))
 else
 some (y7, l6))
partial_fixpoint
def m_l_markInsS (a0 : List TIns) (a1 : Int) : Option (Int × (List TIns)) :=
 (
 m_l_markInsS_L2 a0 a1 0
 : Option (Int × (List TIns))) >>= fun (y1, l2) =>
 some (y1, l2)
theorem ok_l_markInsS {a0 : List TIns} {a1 : Int} {r : Int × (List TIns)} {g1000 : Nat} (h : m_l_markInsS a0 a1 = some r) : ACall Tryz.prog 41 [.own 0 g1000 0 a0.length, .int .i64 a1] [.row g1000 5 a0.length 46 (row TIns.cells a0)] (fun res h => res = .int .i64 r.1 ∧ h = [.row g1000 5 r.2.length 46 (row TIns.cells r.2)]) := by
 refine vc1 Tryz.func41 ?_
 unfold m_l_markInsS at h
 refine .d ?_
 obtain ⟨o3, ho4, hk5⟩ := bd h
 replace h := ho4
 refine .cut (fun σ η => ∃ y1, ∃ l2, (y1, l2) = o3 ∧ σ = [(1, .int .i64 y1)] ∧ η = [.row g1000 5 l2.length 46 (row TIns.cells l2)]) ?_ ?_
 refine .d ?_
 refine le (m_l_markInsS_L2.partial_correctness  (motive := fun l6 y7 y8 o26 => o3 = o26 → LoopAt _ _ [(0, .own 0 g1000 0 l6.length), (1, .int .i64 y7), (5, .int .i64 y8)] [.row g1000 5 l6.length 46 (row TIns.cells l6)]) ?_ a0 a1 0 o3 h rfl) (tk [0] ⟨.o, .i, .i, ⟨⟩⟩ ⟨od, ⟨⟩⟩)
 intro F10 ih9 l6 y7 y8 o26 h hr27
 subst hr27
 refine LoopAt.round (.d (.d ⟨rfl, (sD h (fun hb11 h => ?_) (fun hb11 h => ?_))⟩))
 refine .d (.d (bk h fun x12 hx13 h => ⟨rfl, idx_bd hx13, _, Nat.zero_add _, ⟨rfl, ⟨rfl, _, row TIns.cells (l6.set y8.toNat (TIns.mk y7 x12.fA x12.fB x12.fS x12.fT)), ((idx_row hx13).trans (TIns.cells_eq x12)), row_set (idx_lt hx13) (TIns.cells_eq (TIns.mk y7 x12.fA x12.fB x12.fS x12.fT)) ⟨.same _, .same _, .same _, .same _, .same _, trivial⟩, (.d (.d (bk h fun x14 hx15 h => ⟨rfl, (by have hq := idx_bd hx15; simp only [List.length_set] at hq; exact hq), _, Nat.zero_add _, ⟨rfl, ⟨rfl, _, row TIns.cells ((l6.set y8.toNat (TIns.mk y7 x12.fA x12.fB x12.fS x12.fT)).set y8.toNat (TIns.mk x14.fOp (W64 (y7 + 1)) x14.fB x14.fS x14.fT)), ((idx_row hx15).trans (TIns.cells_eq x14)), row_set (idx_lt hx15) (TIns.cells_eq (TIns.mk x14.fOp (W64 (y7 + 1)) x14.fB x14.fS x14.fT)) ⟨.same _, .same _, .same _, .same _, .same _, trivial⟩, (.d (.d (bk h fun x16 hx17 h => ?_)))⟩⟩⟩)))⟩⟩⟩))
 refine ⟨rfl, (by have hq := idx_bd hx17; simp only [List.length_set] at hq; exact hq), _, Nat.zero_add _, ⟨rfl, ⟨rfl, _, row TIns.cells (((l6.set y8.toNat (TIns.mk y7 x12.fA x12.fB x12.fS x12.fT)).set y8.toNat (TIns.mk x14.fOp (W64 (y7 + 1)) x14.fB x14.fS x14.fT)).set y8.toNat (TIns.mk x16.fOp x16.fA (W64 ((W64 (y7 + 1)) + 1)) x16.fS x16.fT)), ((idx_row hx17).trans (TIns.cells_eq x16)), row_set (idx_lt hx17) (TIns.cells_eq (TIns.mk x16.fOp x16.fA (W64 ((W64 (y7 + 1)) + 1)) x16.fS x16.fT)) ⟨.same _, .same _, .same _, .same _, .same _, trivial⟩, (.d (.d (bk h fun v18 hv19 h => (pcP (ok_l_markText hv19) (bk h fun x20 hx21 h => ⟨rfl, (by have hq := idx_bd hx21; simp only [List.length_set] at hq; exact hq), _, Nat.zero_add _, ⟨rfl, ⟨rfl, _, row TIns.cells ((((l6.set y8.toNat (TIns.mk y7 x12.fA x12.fB x12.fS x12.fT)).set y8.toNat (TIns.mk x14.fOp (W64 (y7 + 1)) x14.fB x14.fS x14.fT)).set y8.toNat (TIns.mk x16.fOp x16.fA (W64 ((W64 (y7 + 1)) + 1)) x16.fS x16.fT)).set y8.toNat (TIns.mk x20.fOp x20.fA x20.fB v18 x20.fT)), ((idx_row hx21).trans (TIns.cells_eq x20)), row_set (idx_lt hx21) (TIns.cells_eq (TIns.mk x20.fOp x20.fA x20.fB v18 x20.fT)) ⟨.same _, .same _, .same _, .same _, .same _, trivial⟩, (.d (.d (bk h fun v22 hv23 h => (pcP (ok_l_markText hv23) ?_))))⟩⟩⟩)))))⟩⟩⟩
 exact bk h fun x24 hx25 h => ⟨rfl, (by have hq := idx_bd hx25; simp only [List.length_set] at hq; exact hq), _, Nat.zero_add _, ⟨rfl, ⟨rfl, _, row TIns.cells (((((l6.set y8.toNat (TIns.mk y7 x12.fA x12.fB x12.fS x12.fT)).set y8.toNat (TIns.mk x14.fOp (W64 (y7 + 1)) x14.fB x14.fS x14.fT)).set y8.toNat (TIns.mk x16.fOp x16.fA (W64 ((W64 (y7 + 1)) + 1)) x16.fS x16.fT)).set y8.toNat (TIns.mk x20.fOp x20.fA x20.fB v18 x20.fT)).set y8.toNat (TIns.mk x24.fOp x24.fA x24.fB x24.fS v22)), ((idx_row hx25).trans (TIns.cells_eq x24)), row_set (idx_lt hx25) (TIns.cells_eq (TIns.mk x24.fOp x24.fA x24.fB x24.fS v22)) ⟨.same _, .same _, .same _, .same _, .same _, trivial⟩, (lg (ih9 _ _ _ _ h rfl) (tk [0] ⟨(.ox ln), .i, .i, ⟨⟩⟩ ⟨(odx rfl ln), ⟨⟩⟩))⟩⟩⟩
 exact ct ⟨_, _, si h, rfl, rfl⟩ (tk [0] ⟨.i, ⟨⟩⟩ ⟨od, ⟨⟩⟩)
 rintro _ _ ⟨y1, l2, rfl, rfl, rfl⟩
 replace h := hk5
 refine .d ?_
 obtain rfl := si h
 exact en [0] ⟨rfl, rfl⟩ .i ⟨od, ⟨⟩⟩
def m_l_heldParamS_L2 (a0 : List TParam) (y5 : Int) (y6 : Int) : Option ((Int) ⊕ Int) :=
 (if y6 < (a0.length : Int) then
 idx a0 y6 >>= fun x10 =>
 m_l_markText y5 >>= fun v12 =>
 (if x10.fName = v12 then
 idx a0 y6 >>= fun x15 =>
 (if x15.fRef = (((W64 (y5 + 1)).tmod 3) == 0) then
 m_l_heldParamS_L2 a0 (W64 ((W64 (y5 + 1)) + 1)) (W64 (y6 + 1))
 else
 some (.inr (-1)))
 else
 some (.inr (-1)))
 else
 some (.inl y5))
partial_fixpoint
def m_l_heldParamS (a0 : List TParam) (a1 : Int) : Option (Int) :=
 ((
 m_l_heldParamS_L2 a0 a1 0
 : Option ((Int) ⊕ Int)) >>= fun o2 => match o2 with
 | .inr r => some r
 | .inl y1 =>
 some y1
 )
theorem ok_l_heldParamS {a0 : List TParam} {a1 : Int} {r : Int} (h : m_l_heldParamS a0 a1 = some r) : ACall Tryz.prog 42 [sl 2 TParam.cells a0, .int .i64 a1] [] (fun res h => res = .int .i64 r ∧ h = []) := by
 refine vc1 Tryz.func42 ?_
 unfold m_l_heldParamS at h
 refine .d ?_
 obtain ⟨o2, ho3, hk4⟩ := bd h
 replace h := ho3
 refine .cut (fun σ η => ∃ y1, .inl y1 = o2 ∧ σ = [(1, .int .i64 y1)] ∧ η = []) ?_ ?_
 refine .d ?_
 refine le (m_l_heldParamS_L2.partial_correctness a0 (motive := fun y5 y6 o18 => o2 = o18 → LoopAt _ _ [(0, sl 2 TParam.cells a0), (1, .int .i64 y5), (5, .int .i64 y6)] []) ?_ a1 0 o2 h rfl) (tk [] ⟨.l, .i, .i, ⟨⟩⟩ ⟨⟩)
 intro F8 ih7 y5 y6 o18 h hr19
 subst hr19
 refine LoopAt.round (.d (.d (sD h (fun hb9 h => ?_) (fun hb9 h => ?_))))
 refine .d (.d (.d (.float [(0, true), (1, true), (2, true), (3, true), (4, true), (5, true), (6, false), (7, true)] (by kernel_rfl) ?_)))
 refine bk h fun x10 hx11 h => ⟨idx_bd hx11, _, (idx_row hx11).trans (TParam.cells_eq x10), (bk h fun v12 hv13 h => (pcP (ok_l_markText hv13) (sEn h (fun hb14 h => ?_) (fun hb14 h => ?_))))⟩
 refine .d ?_
 obtain rfl := si h
 replace h := hk4
 exact eI h
 refine .d (.d (.d (bk h fun x15 hx16 h => ⟨idx_bd hx16, _, (idx_row hx16).trans (TParam.cells_eq x15), ⟨by decide, (sEn h (fun hb17 h => ?_) (fun hb17 h => ?_))⟩⟩)))
 refine .d ?_
 obtain rfl := si h
 replace h := hk4
 exact eI h
 exact lg (ih7 _ _ _ h rfl) (tk [] ⟨.l, .i, .i, ⟨⟩⟩ ⟨⟩)
 exact ct ⟨_, si h, rfl, rfl⟩ (tk [] ⟨.i, ⟨⟩⟩ ⟨⟩)
 rintro _ _ ⟨y1, rfl, rfl, rfl⟩
 replace h := hk4
 exact .d (eI h)
def m_l_heldStringS_L2 (a0 : List Str) (y5 : Int) (y6 : Int) : Option ((Int) ⊕ Int) :=
 (if y6 < (a0.length : Int) then
 idx a0 y6 >>= fun x10 =>
 m_l_markText y5 >>= fun v12 =>
 (if x10 = v12 then
 m_l_heldStringS_L2 a0 (W64 (y5 + 1)) (W64 (y6 + 1))
 else
 some (.inr (-1)))
 else
 some (.inl y5))
partial_fixpoint
def m_l_heldStringS (a0 : List Str) (a1 : Int) : Option (Int) :=
 ((
 m_l_heldStringS_L2 a0 a1 0
 : Option ((Int) ⊕ Int)) >>= fun o2 => match o2 with
 | .inr r => some r
 | .inl y1 =>
 some y1
 )
theorem ok_l_heldStringS {a0 : List Str} {a1 : Int} {r : Int} (h : m_l_heldStringS a0 a1 = some r) : ACall Tryz.prog 43 [sl 1 cS a0, .int .i64 a1] [] (fun res h => res = .int .i64 r ∧ h = []) := by
 refine vc1 Tryz.func43 ?_
 unfold m_l_heldStringS at h
 refine .d ?_
 obtain ⟨o2, ho3, hk4⟩ := bd h
 replace h := ho3
 refine .cut (fun σ η => ∃ y1, .inl y1 = o2 ∧ σ = [(1, .int .i64 y1)] ∧ η = []) ?_ ?_
 refine .d ?_
 refine le (m_l_heldStringS_L2.partial_correctness a0 (motive := fun y5 y6 o15 => o2 = o15 → LoopAt _ _ [(0, sl 1 cS a0), (1, .int .i64 y5), (5, .int .i64 y6)] []) ?_ a1 0 o2 h rfl) (tk [] ⟨.l, .i, .i, ⟨⟩⟩ ⟨⟩)
 intro F8 ih7 y5 y6 o15 h hr16
 subst hr16
 refine LoopAt.round (.d (.d (sD h (fun hb9 h => ?_) (fun hb9 h => ?_))))
 refine .d (.d (.d (.float [(0, true), (1, true), (2, true), (3, true), (4, true), (5, false), (6, true)] (by kernel_rfl) ?_)))
 refine bk h fun x10 hx11 h => ⟨idx_bd hx11, _, (idx_row hx11).trans rfl, (bk h fun v12 hv13 h => (pcP (ok_l_markText hv13) (sEn h (fun hb14 h => ?_) (fun hb14 h => ?_))))⟩
 refine .d ?_
 obtain rfl := si h
 replace h := hk4
 exact eI h
 exact lg (ih7 _ _ _ h rfl) (tk [] ⟨.l, .i, .i, ⟨⟩⟩ ⟨⟩)
 exact ct ⟨_, si h, rfl, rfl⟩ (tk [] ⟨.i, ⟨⟩⟩ ⟨⟩)
 rintro _ _ ⟨y1, rfl, rfl, rfl⟩
 replace h := hk4
 exact .d (eI h)
def m_l_heldInsS_L2 (a0 : List TIns) (y5 : Int) (y6 : Int) : Option ((Int) ⊕ Int) :=
 (if y6 < (a0.length : Int) then
 idx a0 y6 >>= fun x10 =>
 (if x10.fOp = y5 then
 idx a0 y6 >>= fun x13 =>
 (if x13.fA = (W64 (y5 + 1)) then
 idx a0 y6 >>= fun x16 =>
 (if x16.fB = (W64 ((W64 (y5 + 1)) + 1)) then
 idx a0 y6 >>= fun x19 =>
 m_l_markText (W64 ((W64 ((W64 (y5 + 1)) + 1)) + 1)) >>= fun v21 =>
 (if x19.fS = v21 then
 idx a0 y6 >>= fun x24 =>
 m_l_markText (W64 ((W64 ((W64 ((W64 (y5 + 1)) + 1)) + 1)) + 1)) >>= fun v26 =>
 (if x24.fT = v26 then
 m_l_heldInsS_L2 a0 (W64 ((W64 ((W64 ((W64 ((W64 (y5 + 1)) + 1)) + 1)) + 1)) + 1)) (W64 (y6 + 1))
 else
 some (.inr (-1)))
 else
 some (.inr (-1)))
 else
 some (.inr (-1)))
 else
 some (.inr (-1)))
 else
 some (.inr (-1)))
 else
 some (.inl y5))
partial_fixpoint
def m_l_heldInsS (a0 : List TIns) (a1 : Int) : Option (Int) :=
 ((
 m_l_heldInsS_L2 a0 a1 0
 : Option ((Int) ⊕ Int)) >>= fun o2 => match o2 with
 | .inr r => some r
 | .inl y1 =>
 some y1
 )
theorem ok_l_heldInsS {a0 : List TIns} {a1 : Int} {r : Int} (h : m_l_heldInsS a0 a1 = some r) : ACall Tryz.prog 44 [sl 5 TIns.cells a0, .int .i64 a1] [] (fun res h => res = .int .i64 r ∧ h = []) := by
 refine vc1 Tryz.func44 ?_
 unfold m_l_heldInsS at h
 refine .d ?_
 obtain ⟨o2, ho3, hk4⟩ := bd h
 replace h := ho3
 refine .cut (fun σ η => ∃ y1, .inl y1 = o2 ∧ σ = [(1, .int .i64 y1)] ∧ η = []) ?_ ?_
 refine .d ?_
 refine le (m_l_heldInsS_L2.partial_correctness a0 (motive := fun y5 y6 o29 => o2 = o29 → LoopAt _ _ [(0, sl 5 TIns.cells a0), (1, .int .i64 y5), (5, .int .i64 y6)] []) ?_ a1 0 o2 h rfl) (tk [] ⟨.l, .i, .i, ⟨⟩⟩ ⟨⟩)
 intro F8 ih7 y5 y6 o29 h hr30
 subst hr30
 refine LoopAt.round (.d (.d (sD h (fun hb9 h => ?_) (fun hb9 h => ?_))))
 refine .d (.d (.d (bk h fun x10 hx11 h => ⟨idx_bd hx11, _, (idx_row hx11).trans (TIns.cells_eq x10), (sN h (fun hb12 h => ?_) (fun hb12 h => ?_))⟩)))
 refine .d ?_
 obtain rfl := si h
 replace h := hk4
 exact eI h
 refine .d (.d (.d (bk h fun x13 hx14 h => ⟨idx_bd hx14, _, (idx_row hx14).trans (TIns.cells_eq x13), (sN h (fun hb15 h => ?_) (fun hb15 h => ?_))⟩)))
 refine .d ?_
 obtain rfl := si h
 replace h := hk4
 exact eI h
 refine .d (.d (.d (bk h fun x16 hx17 h => ⟨idx_bd hx17, _, (idx_row hx17).trans (TIns.cells_eq x16), (sN h (fun hb18 h => ?_) (fun hb18 h => ?_))⟩)))
 refine .d ?_
 obtain rfl := si h
 replace h := hk4
 exact eI h
 refine .d (.d (.d (.float [(0, true), (1, true), (2, true), (3, true), (4, true), (5, true), (6, false), (7, true)] (by kernel_rfl) ?_)))
 refine bk h fun x19 hx20 h => ⟨idx_bd hx20, _, (idx_row hx20).trans (TIns.cells_eq x19), (bk h fun v21 hv22 h => (pcP (ok_l_markText hv22) (sEn h (fun hb23 h => ?_) (fun hb23 h => ?_))))⟩
 refine .d ?_
 obtain rfl := si h
 replace h := hk4
 exact eI h
 refine .d (.d (.d (.float [(0, true), (1, true), (2, true), (3, true), (4, true), (5, true), (6, false), (7, true)] (by kernel_rfl) ?_)))
 refine bk h fun x24 hx25 h => ⟨idx_bd hx25, _, (idx_row hx25).trans (TIns.cells_eq x24), (bk h fun v26 hv27 h => (pcP (ok_l_markText hv27) (sEn h (fun hb28 h => ?_) (fun hb28 h => ?_))))⟩
 refine .d ?_
 obtain rfl := si h
 replace h := hk4
 exact eI h
 exact lg (ih7 _ _ _ h rfl) (tk [] ⟨.l, .i, .i, ⟨⟩⟩ ⟨⟩)
 exact ct ⟨_, si h, rfl, rfl⟩ (tk [] ⟨.i, ⟨⟩⟩ ⟨⟩)
 rintro _ _ ⟨y1, rfl, rfl, rfl⟩
 replace h := hk4
 exact .d (eI h)
def m_l_heldFunc (a0 : TFunc) (a1 : Int) : Option (Int) :=
 m_l_heldParamS a0.fParams a1 >>= fun v1 =>
 (if v1 < 0 then
 some (-1)
 else
 m_l_heldParamS a0.fUses v1 >>= fun v4 =>
 (if v4 < 0 then
 some (-1)
 else
 m_l_heldStringS a0.fSlots v4 >>= fun v7 =>
 (if v7 < 0 then
 some (-1)
 else
 m_l_heldInsS a0.fCode v7 >>= fun v10 =>
 (if v10 < 0 then
 some (-1)
 else
 some v10))))
theorem ok_l_heldFunc {a0 : TFunc} {a1 : Int} {r : Int} (h : m_l_heldFunc a0 a1 = some r) : ACall Tryz.prog 14 [.agg a0.lit, .int .i64 a1] [] (fun res h => res = .int .i64 r ∧ h = []) := by
 refine vc1 Tryz.func14 ?_
 unfold m_l_heldFunc at h
 refine .d (.d ⟨rfl, ⟨rfl, _, rfl, (bk h fun v1 hv2 h => (pcP (ok_l_heldParamS hv2) (.d (.d (sD h (fun hb3 h => ?_) (fun hb3 h => ?_))))))⟩⟩)
 exact .d (eI h)
 refine .d ⟨rfl, ⟨rfl, _, rfl, (bk h fun v4 hv5 h => (pcP (ok_l_heldParamS hv5) (.d (.d (sD h (fun hb6 h => ?_) (fun hb6 h => ?_))))))⟩⟩
 exact .d (eI h)
 refine .d ⟨rfl, ⟨rfl, _, rfl, (bk h fun v7 hv8 h => (pcP (ok_l_heldStringS hv8) (.d (.d (sD h (fun hb9 h => ?_) (fun hb9 h => ?_))))))⟩⟩
 exact .d (eI h)
 refine .d ⟨rfl, ⟨rfl, _, rfl, (bk h fun v10 hv11 h => (pcP (ok_l_heldInsS hv11) (.d (.d (sD h (fun hb12 h => ?_) (fun hb12 h => ?_))))))⟩⟩
 exact .d (eI h)
 exact .d (eI h)
end Go.Am
