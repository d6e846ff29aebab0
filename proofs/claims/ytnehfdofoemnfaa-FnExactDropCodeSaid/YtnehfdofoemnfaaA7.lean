/- Models of Go functions, and their walks. (Printed by tools/mg.py.) -/
import Derived.Test.YtnehfdofoemnfaaA6
set_option linter.unusedVariables false
set_option linter.unusedSimpArgs false
set_option maxRecDepth 100000
namespace Go.Am
open Go Go.RowKit Go.Proofs
def m_l_szIns (a0 : TIns) (a1 : Int) : Option (Int) :=
 (if (W64 (a1 - (a0.fS.length : Int))) < 0 then
 some (-1)
 else
 (if (W64 ((W64 (a1 - (a0.fS.length : Int))) - (a0.fT.length : Int))) < 0 then
 some (-1)
 else
 some (W64 ((W64 (a1 - (a0.fS.length : Int))) - (a0.fT.length : Int)))))
theorem ok_l_szIns {a0 : TIns} {a1 : Int} {r : Int} (h : m_l_szIns a0 a1 = some r) : ACall Try.prog 55 [.agg a0.lit, .int .i64 a1] [] (fun res h => res = .int .i64 r ∧ h = []) := by
 refine vc1 Try.func55 ?_
 unfold m_l_szIns at h
 refine .d (.d ⟨rfl, ⟨rfl, _, rfl, (.d (.d (sD h (fun hb1 h => ?_) (fun hb1 h => ?_))))⟩⟩)
 exact .d (eI h)
 refine .d ⟨rfl, ⟨rfl, _, rfl, (.d (.d (sD h (fun hb2 h => ?_) (fun hb2 h => ?_))))⟩⟩
 exact .d (eI h)
 exact .d (eI h)
def m_l_szParam (a0 : TParam) (a1 : Int) : Option (Int) :=
 (if (W64 (a1 - (a0.fName.length : Int))) < 0 then
 some (-1)
 else
 some (W64 (a1 - (a0.fName.length : Int))))
theorem ok_l_szParam {a0 : TParam} {a1 : Int} {r : Int} (h : m_l_szParam a0 a1 = some r) : ACall Try.prog 54 [.agg a0.lit, .int .i64 a1] [] (fun res h => res = .int .i64 r ∧ h = []) := by
 refine vc1 Try.func54 ?_
 unfold m_l_szParam at h
 refine .d (.d ⟨rfl, ⟨rfl, _, rfl, (.d (.d (sD h (fun hb1 h => ?_) (fun hb1 h => ?_))))⟩⟩)
 exact .d (eI h)
 exact .d (eI h)
def m_l_szInsS_L2 (a0 : List TIns) (y6 : Int) (y7 : Int) : Option ((Int) ⊕ Int) :=
 (if y7 < (a0.length : Int) then
 idx a0 y7 >>= fun x11 =>
 m_l_szIns x11 y6 >>= fun v13 =>
 (if v13 < 0 then
 some (.inr (-1))
 else
 m_l_szInsS_L2 a0 v13 (W64 (y7 + 1)))
 else
 some (.inl y6))
partial_fixpoint
def m_l_szInsS (a0 : List TIns) (a1 : Int) : Option (Int) :=
 (if (W64 (a1 - (a0.length : Int))) < 0 then
 some (-1)
 else
 ((
 m_l_szInsS_L2 a0 (W64 (a1 - (a0.length : Int))) 0
 : Option ((Int) ⊕ Int)) >>= fun o3 => match o3 with
 | .inr r => some r
 | .inl y2 =>
 some y2
 ))
theorem ok_l_szInsS {a0 : List TIns} {a1 : Int} {r : Int} (h : m_l_szInsS a0 a1 = some r) : ACall Try.prog 26 [sl 5 TIns.cells a0, .int .i64 a1] [] (fun res h => res = .int .i64 r ∧ h = []) := by
 refine vc1 Try.func26 ?_
 unfold m_l_szInsS at h
 refine .d (.d (.d (.d (sD h (fun hb1 h => ?_) (fun hb1 h => ?_)))))
 exact .d (eI h)
 obtain ⟨o3, ho4, hk5⟩ := bd h
 replace h := ho4
 refine .cut (fun σ η => ∃ y2, .inl y2 = o3 ∧ σ = [(1, .int .i64 y2)] ∧ η = []) ?_ ?_
 refine .d ?_
 refine le (m_l_szInsS_L2.partial_correctness a0 (motive := fun y6 y7 o16 => o3 = o16 → LoopAt _ _ [(0, sl 5 TIns.cells a0), (1, .int .i64 y6), (5, .int .i64 y7)] []) ?_ (W64 (a1 - (a0.length : Int))) 0 o3 h rfl) (tk [] ⟨.l, .i, .i, ⟨⟩⟩ ⟨⟩)
 intro F9 ih8 y6 y7 o16 h hr17
 subst hr17
 refine LoopAt.round (.d (.d (sD h (fun hb10 h => ?_) (fun hb10 h => ?_))))
 refine .d (.d (bk h fun x11 hx12 h => ⟨idx_bd hx12, _, (idx_row hx12).trans (TIns.cells_eq x11), (bk h fun v13 hv14 h => (pcP (ok_l_szIns hv14) (.d (sD h (fun hb15 h => ?_) (fun hb15 h => ?_)))))⟩))
 refine .d ?_
 obtain rfl := si h
 replace h := hk5
 exact eI h
 exact lg (ih8 _ _ _ h rfl) (tk [] ⟨.l, .i, .i, ⟨⟩⟩ ⟨⟩)
 exact ct ⟨_, si h, rfl, rfl⟩ (tk [] ⟨.i, ⟨⟩⟩ ⟨⟩)
 rintro _ _ ⟨y2, rfl, rfl, rfl⟩
 replace h := hk5
 exact .d (eI h)
def m_l_szParamS_L2 (a0 : List TParam) (y6 : Int) (y7 : Int) : Option ((Int) ⊕ Int) :=
 (if y7 < (a0.length : Int) then
 idx a0 y7 >>= fun x11 =>
 m_l_szParam x11 y6 >>= fun v13 =>
 (if v13 < 0 then
 some (.inr (-1))
 else
 m_l_szParamS_L2 a0 v13 (W64 (y7 + 1)))
 else
 some (.inl y6))
partial_fixpoint
def m_l_szParamS (a0 : List TParam) (a1 : Int) : Option (Int) :=
 (if (W64 (a1 - (a0.length : Int))) < 0 then
 some (-1)
 else
 ((
 m_l_szParamS_L2 a0 (W64 (a1 - (a0.length : Int))) 0
 : Option ((Int) ⊕ Int)) >>= fun o3 => match o3 with
 | .inr r => some r
 | .inl y2 =>
 some y2
 ))
theorem ok_l_szParamS {a0 : List TParam} {a1 : Int} {r : Int} (h : m_l_szParamS a0 a1 = some r) : ACall Try.prog 24 [sl 2 TParam.cells a0, .int .i64 a1] [] (fun res h => res = .int .i64 r ∧ h = []) := by
 refine vc1 Try.func24 ?_
 unfold m_l_szParamS at h
 refine .d (.d (.d (.d (sD h (fun hb1 h => ?_) (fun hb1 h => ?_)))))
 exact .d (eI h)
 obtain ⟨o3, ho4, hk5⟩ := bd h
 replace h := ho4
 refine .cut (fun σ η => ∃ y2, .inl y2 = o3 ∧ σ = [(1, .int .i64 y2)] ∧ η = []) ?_ ?_
 refine .d ?_
 refine le (m_l_szParamS_L2.partial_correctness a0 (motive := fun y6 y7 o16 => o3 = o16 → LoopAt _ _ [(0, sl 2 TParam.cells a0), (1, .int .i64 y6), (5, .int .i64 y7)] []) ?_ (W64 (a1 - (a0.length : Int))) 0 o3 h rfl) (tk [] ⟨.l, .i, .i, ⟨⟩⟩ ⟨⟩)
 intro F9 ih8 y6 y7 o16 h hr17
 subst hr17
 refine LoopAt.round (.d (.d (sD h (fun hb10 h => ?_) (fun hb10 h => ?_))))
 refine .d (.d (bk h fun x11 hx12 h => ⟨idx_bd hx12, _, (idx_row hx12).trans (TParam.cells_eq x11), (bk h fun v13 hv14 h => (pcP (ok_l_szParam hv14) (.d (sD h (fun hb15 h => ?_) (fun hb15 h => ?_)))))⟩))
 refine .d ?_
 obtain rfl := si h
 replace h := hk5
 exact eI h
 exact lg (ih8 _ _ _ h rfl) (tk [] ⟨.l, .i, .i, ⟨⟩⟩ ⟨⟩)
 exact ct ⟨_, si h, rfl, rfl⟩ (tk [] ⟨.i, ⟨⟩⟩ ⟨⟩)
 rintro _ _ ⟨y2, rfl, rfl, rfl⟩
 replace h := hk5
 exact .d (eI h)
def m_l_szStringS_L2 (a0 : List Str) (y6 : Int) (y7 : Int) : Option ((Int) ⊕ Int) :=
 (if y7 < (a0.length : Int) then
 idx a0 y7 >>= fun x11 =>
 (if (W64 (y6 - (x11.length : Int))) < 0 then
 some (.inr (-1))
 else
 m_l_szStringS_L2 a0 (W64 (y6 - (x11.length : Int))) (W64 (y7 + 1)))
 else
 some (.inl y6))
partial_fixpoint
def m_l_szStringS (a0 : List Str) (a1 : Int) : Option (Int) :=
 (if (W64 (a1 - (a0.length : Int))) < 0 then
 some (-1)
 else
 ((
 m_l_szStringS_L2 a0 (W64 (a1 - (a0.length : Int))) 0
 : Option ((Int) ⊕ Int)) >>= fun o3 => match o3 with
 | .inr r => some r
 | .inl y2 =>
 some y2
 ))
theorem ok_l_szStringS {a0 : List Str} {a1 : Int} {r : Int} (h : m_l_szStringS a0 a1 = some r) : ACall Try.prog 25 [sl 1 cS a0, .int .i64 a1] [] (fun res h => res = .int .i64 r ∧ h = []) := by
 refine vc1 Try.func25 ?_
 unfold m_l_szStringS at h
 refine .d (.d (.d (.d (sD h (fun hb1 h => ?_) (fun hb1 h => ?_)))))
 exact .d (eI h)
 obtain ⟨o3, ho4, hk5⟩ := bd h
 replace h := ho4
 refine .cut (fun σ η => ∃ y2, .inl y2 = o3 ∧ σ = [(1, .int .i64 y2)] ∧ η = []) ?_ ?_
 refine .d ?_
 refine le (m_l_szStringS_L2.partial_correctness a0 (motive := fun y6 y7 o14 => o3 = o14 → LoopAt _ _ [(0, sl 1 cS a0), (1, .int .i64 y6), (5, .int .i64 y7)] []) ?_ (W64 (a1 - (a0.length : Int))) 0 o3 h rfl) (tk [] ⟨.l, .i, .i, ⟨⟩⟩ ⟨⟩)
 intro F9 ih8 y6 y7 o14 h hr15
 subst hr15
 refine LoopAt.round (.d (.d (sD h (fun hb10 h => ?_) (fun hb10 h => ?_))))
 refine .d (.d (bk h fun x11 hx12 h => ⟨idx_bd hx12, _, (idx_row hx12).trans rfl, (.d (sD h (fun hb13 h => ?_) (fun hb13 h => ?_)))⟩))
 refine .d ?_
 obtain rfl := si h
 replace h := hk5
 exact eI h
 exact lg (ih8 _ _ _ h rfl) (tk [] ⟨.l, .i, .i, ⟨⟩⟩ ⟨⟩)
 exact ct ⟨_, si h, rfl, rfl⟩ (tk [] ⟨.i, ⟨⟩⟩ ⟨⟩)
 rintro _ _ ⟨y2, rfl, rfl, rfl⟩
 replace h := hk5
 exact .d (eI h)
def m_l_szFunc (a0 : TFunc) (a1 : Int) : Option (Int) :=
 (if (W64 (a1 - (a0.fName.length : Int))) < 0 then
 some (-1)
 else
 m_l_szParamS a0.fParams (W64 (a1 - (a0.fName.length : Int))) >>= fun v2 =>
 (if v2 < 0 then
 some (-1)
 else
 m_l_szParamS a0.fUses v2 >>= fun v5 =>
 (if v5 < 0 then
 some (-1)
 else
 m_l_szStringS a0.fSlots v5 >>= fun v8 =>
 (if v8 < 0 then
 some (-1)
 else
 m_l_szInsS a0.fCode v8 >>= fun v11 =>
 (if v11 < 0 then
 some (-1)
 else
 some v11)))))
theorem ok_l_szFunc {a0 : TFunc} {a1 : Int} {r : Int} (h : m_l_szFunc a0 a1 = some r) : ACall Try.prog 7 [.agg a0.lit, .int .i64 a1] [] (fun res h => res = .int .i64 r ∧ h = []) := by
 refine vc1 Try.func7 ?_
 unfold m_l_szFunc at h
 refine .d (.d ⟨rfl, ⟨rfl, _, rfl, (.d (.d (sD h (fun hb1 h => ?_) (fun hb1 h => ?_))))⟩⟩)
 exact .d (eI h)
 refine .d ⟨rfl, ⟨rfl, _, rfl, (bk h fun v2 hv3 h => (pcP (ok_l_szParamS hv3) (.d (.d (sD h (fun hb4 h => ?_) (fun hb4 h => ?_))))))⟩⟩
 exact .d (eI h)
 refine .d ⟨rfl, ⟨rfl, _, rfl, (bk h fun v5 hv6 h => (pcP (ok_l_szParamS hv6) (.d (.d (sD h (fun hb7 h => ?_) (fun hb7 h => ?_))))))⟩⟩
 exact .d (eI h)
 refine .d ⟨rfl, ⟨rfl, _, rfl, (bk h fun v8 hv9 h => (pcP (ok_l_szStringS hv9) (.d (.d (sD h (fun hb10 h => ?_) (fun hb10 h => ?_))))))⟩⟩
 exact .d (eI h)
 refine .d ⟨rfl, ⟨rfl, _, rfl, (bk h fun v11 hv12 h => (pcP (ok_l_szInsS hv12) (.d (.d (sD h (fun hb13 h => ?_) (fun hb13 h => ?_))))))⟩⟩
 exact .d (eI h)
 exact .d (eI h)
def m_l_toIns (a0 : TIns) : Option (TIns) :=
 some a0
theorem ok_l_toIns {a0 : TIns} {r : TIns} (h : m_l_toIns a0 = some r) : ACall Try.prog 66 [.agg a0.lit] [] (fun res h => res = .agg r.lit ∧ h = []) := by
 refine vc1 Try.func66 ?_
 unfold m_l_toIns at h
 refine .d (.d (.d ⟨rfl, ⟨rfl, _, rfl, ⟨rfl, ⟨rfl, _, fun _ => [.int .i64 a0.fOp, .int .i64 0, .int .i64 0, .str [], .str []], rfl, one_set rfl, (.d ⟨rfl, ⟨rfl, _, rfl, ⟨rfl, ⟨rfl, _, fun _ => [.int .i64 a0.fOp, .int .i64 a0.fA, .int .i64 0, .str [], .str []], rfl, one_set rfl, (.d ⟨rfl, ⟨rfl, _, rfl, ?_⟩⟩)⟩⟩⟩⟩)⟩⟩⟩⟩))
 refine ⟨rfl, ⟨rfl, _, fun _ => [.int .i64 a0.fOp, .int .i64 a0.fA, .int .i64 a0.fB, .str [], .str []], rfl, one_set rfl, (.d ⟨rfl, ⟨rfl, _, rfl, ⟨rfl, ⟨rfl, _, fun _ => [.int .i64 a0.fOp, .int .i64 a0.fA, .int .i64 a0.fB, .str a0.fS, .str []], rfl, one_set rfl, (.d ⟨rfl, ⟨rfl, _, rfl, ⟨rfl, ⟨rfl, _, fun _ => [.int .i64 a0.fOp, .int .i64 a0.fA, .int .i64 a0.fB, .str a0.fS, .str a0.fT], rfl, one_set rfl, (.d ⟨rfl, _, rfl, ⟨rfl, _, fun _ => [.int .i64 a0.fOp, .int .i64 a0.fA, .int .i64 a0.fB, .str a0.fS, .str a0.fT], rfl, one_set rfl, ?_⟩⟩)⟩⟩⟩⟩)⟩⟩⟩⟩)⟩⟩
 obtain rfl := si h
 exact ⟨rfl, _, rfl, (en [] ⟨rfl, rfl⟩ (.agg_l ⟨.i, .i, .i, .s, .s, ⟨⟩⟩) ⟨⟩)⟩
theorem ok_l_toInsx (a0 : TIns) : ACall Try.prog 66 [.agg a0.lit] [] (fun res h => res = .agg a0.lit ∧ h = []) := by
 refine vc1 Try.func66 ?_
 refine .d (.d (.d ⟨rfl, ⟨rfl, _, rfl, ⟨rfl, ⟨rfl, _, fun _ => [.int .i64 a0.fOp, .int .i64 0, .int .i64 0, .str [], .str []], rfl, one_set rfl, (.d ⟨rfl, ⟨rfl, _, rfl, ⟨rfl, ⟨rfl, _, fun _ => [.int .i64 a0.fOp, .int .i64 a0.fA, .int .i64 0, .str [], .str []], rfl, one_set rfl, (.d ⟨rfl, ⟨rfl, _, rfl, ?_⟩⟩)⟩⟩⟩⟩)⟩⟩⟩⟩))
 refine ⟨rfl, ⟨rfl, _, fun _ => [.int .i64 a0.fOp, .int .i64 a0.fA, .int .i64 a0.fB, .str [], .str []], rfl, one_set rfl, (.d ⟨rfl, ⟨rfl, _, rfl, ⟨rfl, ⟨rfl, _, fun _ => [.int .i64 a0.fOp, .int .i64 a0.fA, .int .i64 a0.fB, .str a0.fS, .str []], rfl, one_set rfl, (.d ⟨rfl, ⟨rfl, _, rfl, ⟨rfl, ⟨rfl, _, fun _ => [.int .i64 a0.fOp, .int .i64 a0.fA, .int .i64 a0.fB, .str a0.fS, .str a0.fT], rfl, one_set rfl, (.d ⟨rfl, _, rfl, ⟨rfl, _, fun _ => [.int .i64 a0.fOp, .int .i64 a0.fA, .int .i64 a0.fB, .str a0.fS, .str a0.fT], rfl, one_set rfl, ?_⟩⟩)⟩⟩⟩⟩)⟩⟩⟩⟩)⟩⟩
 exact ⟨rfl, _, rfl, (en [] ⟨rfl, rfl⟩ (.agg_l ⟨.i, .i, .i, .s, .s, ⟨⟩⟩) ⟨⟩)⟩
def m_l_toParam (a0 : TParam) : Option (TParam) :=
 some a0
theorem ok_l_toParam {a0 : TParam} {r : TParam} (h : m_l_toParam a0 = some r) : ACall Try.prog 65 [.agg a0.lit] [] (fun res h => res = .agg r.lit ∧ h = []) := by
 refine vc1 Try.func65 ?_
 unfold m_l_toParam at h
 refine .d (.d (.d ⟨rfl, ⟨rfl, _, rfl, ⟨rfl, ⟨rfl, _, fun _ => [.str a0.fName, .bool false], rfl, one_set rfl, (.d ⟨rfl, ⟨rfl, _, rfl, ⟨rfl, ⟨rfl, _, fun _ => [.str a0.fName, .bool a0.fRef], rfl, one_set rfl, (.d ⟨rfl, _, rfl, ⟨rfl, _, fun _ => [.str a0.fName, .bool a0.fRef], rfl, one_set rfl, ?_⟩⟩)⟩⟩⟩⟩)⟩⟩⟩⟩))
 obtain rfl := si h
 exact ⟨rfl, _, rfl, (en [] ⟨rfl, rfl⟩ (.agg_l ⟨.s, .b, ⟨⟩⟩) ⟨⟩)⟩
theorem ok_l_toParamx (a0 : TParam) : ACall Try.prog 65 [.agg a0.lit] [] (fun res h => res = .agg a0.lit ∧ h = []) := by
 refine vc1 Try.func65 ?_
 refine .d (.d (.d ⟨rfl, ⟨rfl, _, rfl, ⟨rfl, ⟨rfl, _, fun _ => [.str a0.fName, .bool false], rfl, one_set rfl, (.d ⟨rfl, ⟨rfl, _, rfl, ⟨rfl, ⟨rfl, _, fun _ => [.str a0.fName, .bool a0.fRef], rfl, one_set rfl, (.d ⟨rfl, _, rfl, ⟨rfl, _, fun _ => [.str a0.fName, .bool a0.fRef], rfl, one_set rfl, ?_⟩⟩)⟩⟩⟩⟩)⟩⟩⟩⟩))
 exact ⟨rfl, _, rfl, (en [] ⟨rfl, rfl⟩ (.agg_l ⟨.s, .b, ⟨⟩⟩) ⟨⟩)⟩
def m_l_toInsS_L2 (a0 : List TIns) (l7 : List TIns) (y8 : Int) : Option ((List TIns)) :=
 (if y8 < (a0.length : Int) then
 idx a0 y8 >>= fun x12 =>
 idx l7 y8 >>= fun x14 =>
 m_l_toInsS_L2 a0 (l7.set y8.toNat x12) (W64 (y8 + 1))
 else
 some l7)
partial_fixpoint
def m_l_toInsS (a0 : List TIns) : Option ((List TIns)) :=
 (lmake 56 (a0.length : Int) (a0.length : Int) : Option (List TIns)) >>= fun l1 =>
 (
 m_l_toInsS_L2 a0 l1 0
 : Option ((List TIns))) >>= fun l3 =>
 some l3
theorem ok_l_toInsS {a0 : List TIns} {r : (List TIns)} (h : m_l_toInsS a0 = some r) : ACall Try.prog 33 [sl 5 TIns.cells a0] [] (fun res h => res = sl 5 TIns.cells r ∧ h = []) := by
 refine vc1 Try.func33 ?_
 unfold m_l_toInsS at h
 refine .d (.d (bk h fun l1 hx2 h => ⟨lmake_bd hx2, l1.length, row TIns.cells l1, lmake_len hx2, lmake_row hx2 (TIns.cells_eq default) ⟨.same _, .same _, .same _, .same _, .same _, trivial⟩, ?_⟩))
 obtain ⟨o4, ho5, hk6⟩ := bd h
 replace h := ho5
 refine .cut (fun σ η => ∃ l3, l3 = o4 ∧ σ = [(3, .own 0 0 0 l3.length)] ∧ η = [.row 0 5 l3.length 53 (row TIns.cells l3)]) ?_ ?_
 refine .d ?_
 refine le (m_l_toInsS_L2.partial_correctness a0 (motive := fun l7 y8 o16 => o4 = o16 → LoopAt _ _ [(0, sl 5 TIns.cells a0), (3, .own 0 0 0 l7.length), (4, .int .i64 y8)] [.row 0 5 l7.length 53 (row TIns.cells l7)]) ?_ l1 0 o4 h rfl) (tk [0] ⟨.l, .o, .i, ⟨⟩⟩ ⟨nw, ⟨⟩⟩)
 intro F10 ih9 l7 y8 o16 h hr17
 subst hr17
 refine LoopAt.round (.d (.d (sD h (fun hb11 h => ?_) (fun hb11 h => ?_))))
 exact .d (bk h fun x12 hx13 h => ⟨idx_bd hx13, _, (idx_row hx13).trans (TIns.cells_eq x12), (pcP (ok_l_toInsx x12) (bk h fun x14 hx15 h => ⟨rfl, idx_bd hx15, _, Nat.zero_add _, ⟨rfl, _, row TIns.cells (l7.set y8.toNat x12), ((idx_row hx15).trans (TIns.cells_eq x14)), row_set (idx_lt hx15) (TIns.cells_eq x12) ⟨.same _, .same _, .same _, .same _, .same _, trivial⟩, (lg (ih9 _ _ _ h rfl) (tk [0] ⟨.l, (.ox ln), .i, ⟨⟩⟩ ⟨(nwx rfl ln), ⟨⟩⟩))⟩⟩))⟩)
 exact ct ⟨_, si h, rfl, rfl⟩ (tk [0] ⟨.o, ⟨⟩⟩ ⟨nw, ⟨⟩⟩)
 rintro _ _ ⟨l3, rfl, rfl, rfl⟩
 replace h := hk6
 refine .d ?_
 obtain rfl := si h
 exact en [] ⟨rfl, rfl⟩ .r ⟨⟩
def m_l_toParamS_L2 (a0 : List TParam) (l7 : List TParam) (y8 : Int) : Option ((List TParam)) :=
 (if y8 < (a0.length : Int) then
 idx a0 y8 >>= fun x12 =>
 idx l7 y8 >>= fun x14 =>
 m_l_toParamS_L2 a0 (l7.set y8.toNat x12) (W64 (y8 + 1))
 else
 some l7)
partial_fixpoint
def m_l_toParamS (a0 : List TParam) : Option ((List TParam)) :=
 (lmake 24 (a0.length : Int) (a0.length : Int) : Option (List TParam)) >>= fun l1 =>
 (
 m_l_toParamS_L2 a0 l1 0
 : Option ((List TParam))) >>= fun l3 =>
 some l3
theorem ok_l_toParamS {a0 : List TParam} {r : (List TParam)} (h : m_l_toParamS a0 = some r) : ACall Try.prog 31 [sl 2 TParam.cells a0] [] (fun res h => res = sl 2 TParam.cells r ∧ h = []) := by
 refine vc1 Try.func31 ?_
 unfold m_l_toParamS at h
 refine .d (.d (bk h fun l1 hx2 h => ⟨lmake_bd hx2, l1.length, row TParam.cells l1, lmake_len hx2, lmake_row hx2 (TParam.cells_eq default) ⟨.same _, .same _, trivial⟩, ?_⟩))
 obtain ⟨o4, ho5, hk6⟩ := bd h
 replace h := ho5
 refine .cut (fun σ η => ∃ l3, l3 = o4 ∧ σ = [(3, .own 0 0 0 l3.length)] ∧ η = [.row 0 2 l3.length 75 (row TParam.cells l3)]) ?_ ?_
 refine .d ?_
 refine le (m_l_toParamS_L2.partial_correctness a0 (motive := fun l7 y8 o16 => o4 = o16 → LoopAt _ _ [(0, sl 2 TParam.cells a0), (3, .own 0 0 0 l7.length), (4, .int .i64 y8)] [.row 0 2 l7.length 75 (row TParam.cells l7)]) ?_ l1 0 o4 h rfl) (tk [0] ⟨.l, .o, .i, ⟨⟩⟩ ⟨nw, ⟨⟩⟩)
 intro F10 ih9 l7 y8 o16 h hr17
 subst hr17
 refine LoopAt.round (.d (.d (sD h (fun hb11 h => ?_) (fun hb11 h => ?_))))
 exact .d (bk h fun x12 hx13 h => ⟨idx_bd hx13, _, (idx_row hx13).trans (TParam.cells_eq x12), (pcP (ok_l_toParamx x12) (bk h fun x14 hx15 h => ⟨rfl, idx_bd hx15, _, Nat.zero_add _, ⟨rfl, _, row TParam.cells (l7.set y8.toNat x12), ((idx_row hx15).trans (TParam.cells_eq x14)), row_set (idx_lt hx15) (TParam.cells_eq x12) ⟨.same _, .same _, trivial⟩, (lg (ih9 _ _ _ h rfl) (tk [0] ⟨.l, (.ox ln), .i, ⟨⟩⟩ ⟨(nwx rfl ln), ⟨⟩⟩))⟩⟩))⟩)
 exact ct ⟨_, si h, rfl, rfl⟩ (tk [0] ⟨.o, ⟨⟩⟩ ⟨nw, ⟨⟩⟩)
 rintro _ _ ⟨l3, rfl, rfl, rfl⟩
 replace h := hk6
 refine .d ?_
 obtain rfl := si h
 exact en [] ⟨rfl, rfl⟩ .r ⟨⟩
def m_l_toStringS_L2 (a0 : List Str) (l7 : List Str) (y8 : Int) : Option ((List Str)) :=
 (if y8 < (a0.length : Int) then
 idx a0 y8 >>= fun x12 =>
 idx l7 y8 >>= fun x14 =>
 m_l_toStringS_L2 a0 (l7.set y8.toNat x12) (W64 (y8 + 1))
 else
 some l7)
partial_fixpoint
def m_l_toStringS (a0 : List Str) : Option ((List Str)) :=
 (lmake 16 (a0.length : Int) (a0.length : Int) : Option (List Str)) >>= fun l1 =>
 (
 m_l_toStringS_L2 a0 l1 0
 : Option ((List Str))) >>= fun l3 =>
 some l3
theorem ok_l_toStringS {a0 : List Str} {r : (List Str)} (h : m_l_toStringS a0 = some r) : ACall Try.prog 32 [sl 1 cS a0] [] (fun res h => res = sl 1 cS r ∧ h = []) := by
 refine vc1 Try.func32 ?_
 unfold m_l_toStringS at h
 refine .d (.d (bk h fun l1 hx2 h => ⟨lmake_bd hx2, l1.length, row cS l1, lmake_len hx2, lmake_row hx2 rfl ⟨.same _, trivial⟩, ?_⟩))
 obtain ⟨o4, ho5, hk6⟩ := bd h
 replace h := ho5
 refine .cut (fun σ η => ∃ l3, l3 = o4 ∧ σ = [(3, .own 0 0 0 l3.length)] ∧ η = [.row 0 1 l3.length 9 (row cS l3)]) ?_ ?_
 refine .d ?_
 refine le (m_l_toStringS_L2.partial_correctness a0 (motive := fun l7 y8 o16 => o4 = o16 → LoopAt _ _ [(0, sl 1 cS a0), (3, .own 0 0 0 l7.length), (4, .int .i64 y8)] [.row 0 1 l7.length 9 (row cS l7)]) ?_ l1 0 o4 h rfl) (tk [0] ⟨.l, .o, .i, ⟨⟩⟩ ⟨nw, ⟨⟩⟩)
 intro F10 ih9 l7 y8 o16 h hr17
 subst hr17
 refine LoopAt.round (.d (.d (sD h (fun hb11 h => ?_) (fun hb11 h => ?_))))
 exact .d (bk h fun x12 hx13 h => ⟨idx_bd hx13, _, (idx_row hx13).trans rfl, (bk h fun x14 hx15 h => ⟨rfl, idx_bd hx15, _, Nat.zero_add _, ⟨rfl, _, row cS (l7.set y8.toNat x12), ((idx_row hx15).trans rfl), row_set (idx_lt hx15) rfl ⟨.same _, trivial⟩, (lg (ih9 _ _ _ h rfl) (tk [0] ⟨.l, (.ox ln), .i, ⟨⟩⟩ ⟨(nwx rfl ln), ⟨⟩⟩))⟩⟩)⟩)
 exact ct ⟨_, si h, rfl, rfl⟩ (tk [0] ⟨.o, ⟨⟩⟩ ⟨nw, ⟨⟩⟩)
 rintro _ _ ⟨l3, rfl, rfl, rfl⟩
 replace h := hk6
 refine .d ?_
 obtain rfl := si h
 exact en [] ⟨rfl, rfl⟩ .r ⟨⟩
def m_l_toFunc (a0 : TFunc) : Option (TFunc) :=
 m_l_toParamS a0.fParams >>= fun v1 =>
 m_l_toParamS a0.fUses >>= fun v3 =>
 m_l_toStringS a0.fSlots >>= fun v5 =>
 m_l_toInsS a0.fCode >>= fun v7 =>
 some (TFunc.mk a0.fName v1 v3 v5 a0.fGen v7)
theorem ok_l_toFunc {a0 : TFunc} {r : TFunc} (h : m_l_toFunc a0 = some r) : ACall Try.prog 9 [.agg a0.lit] [] (fun res h => res = .agg r.lit ∧ h = []) := by
 refine vc1 Try.func9 ?_
 unfold m_l_toFunc at h
 refine .d (.d (.d ⟨rfl, ⟨rfl, _, rfl, ⟨rfl, ⟨rfl, _, fun _ => [.str a0.fName, .nils, .nils, .nils, .bool false, .nils], rfl, one_set rfl, (.d ⟨rfl, ⟨rfl, _, rfl, (bk h fun v1 hv2 h => (pcP (ok_l_toParamS hv2) ⟨rfl, ⟨rfl, _, fun _ => [.str a0.fName, sl 2 TParam.cells v1, .nils, .nils, .bool false, .nils], rfl, one_set rfl, (.d ?_)⟩⟩))⟩⟩)⟩⟩⟩⟩))
 refine ⟨rfl, ⟨rfl, _, rfl, (bk h fun v3 hv4 h => (pcP (ok_l_toParamS hv4) ⟨rfl, ⟨rfl, _, fun _ => [.str a0.fName, sl 2 TParam.cells v1, sl 2 TParam.cells v3, .nils, .bool false, .nils], rfl, one_set rfl, (.d ⟨rfl, ⟨rfl, _, rfl, (bk h fun v5 hv6 h => (pcP (ok_l_toStringS hv6) ⟨rfl, ⟨rfl, _, fun _ => [.str a0.fName, sl 2 TParam.cells v1, sl 2 TParam.cells v3, sl 1 cS v5, .bool false, .nils], rfl, one_set rfl, (.d ⟨rfl, ?_⟩)⟩⟩))⟩⟩)⟩⟩))⟩⟩
 refine ⟨rfl, _, rfl, ⟨rfl, ⟨rfl, _, fun _ => [.str a0.fName, sl 2 TParam.cells v1, sl 2 TParam.cells v3, sl 1 cS v5, .bool a0.fGen, .nils], rfl, one_set rfl, (.d ⟨rfl, ⟨rfl, _, rfl, (bk h fun v7 hv8 h => (pcP (ok_l_toInsS hv8) ⟨rfl, ⟨rfl, _, fun _ => [.str a0.fName, sl 2 TParam.cells v1, sl 2 TParam.cells v3, sl 1 cS v5, .bool a0.fGen, sl 5 TIns.cells v7], rfl, one_set rfl, (.d ⟨rfl, _, rfl, ⟨rfl, _, fun _ => [.str a0.fName, sl 2 TParam.cells v1, sl 2 TParam.cells v3, sl 1 cS v5, .bool a0.fGen, sl 5 TIns.cells v7], rfl, one_set rfl, ?_⟩⟩)⟩⟩))⟩⟩)⟩⟩⟩
 obtain rfl := si h
 exact ⟨rfl, _, rfl, (en [] ⟨rfl, rfl⟩ (.agg_l ⟨.s, .l, .l, .l, .b, .l, ⟨⟩⟩) ⟨⟩)⟩
def m_l_toIntS_L2 (a0 : List Int) (l7 : List Int) (y8 : Int) : Option ((List Int)) :=
 (if y8 < (a0.length : Int) then
 idx a0 y8 >>= fun x12 =>
 idx l7 y8 >>= fun x14 =>
 m_l_toIntS_L2 a0 (l7.set y8.toNat x12) (W64 (y8 + 1))
 else
 some l7)
partial_fixpoint
def m_l_toIntS (a0 : List Int) : Option ((List Int)) :=
 (lmake 8 (a0.length : Int) (a0.length : Int) : Option (List Int)) >>= fun l1 =>
 (
 m_l_toIntS_L2 a0 l1 0
 : Option ((List Int))) >>= fun l3 =>
 some l3
theorem ok_l_toIntS {a0 : List Int} {r : (List Int)} (h : m_l_toIntS a0 = some r) : ACall Try.prog 10 [sl 1 cI a0] [] (fun res h => res = sl 1 cI r ∧ h = []) := by
 refine vc1 Try.func10 ?_
 unfold m_l_toIntS at h
 refine .d (.d (bk h fun l1 hx2 h => ⟨lmake_bd hx2, l1.length, row cI l1, lmake_len hx2, lmake_row hx2 rfl ⟨.same _, trivial⟩, ?_⟩))
 obtain ⟨o4, ho5, hk6⟩ := bd h
 replace h := ho5
 refine .cut (fun σ η => ∃ l3, l3 = o4 ∧ σ = [(3, .own 0 0 0 l3.length)] ∧ η = [.row 0 1 l3.length 3 (row cI l3)]) ?_ ?_
 refine .d ?_
 refine le (m_l_toIntS_L2.partial_correctness a0 (motive := fun l7 y8 o16 => o4 = o16 → LoopAt _ _ [(0, sl 1 cI a0), (3, .own 0 0 0 l7.length), (4, .int .i64 y8)] [.row 0 1 l7.length 3 (row cI l7)]) ?_ l1 0 o4 h rfl) (tk [0] ⟨.l, .o, .i, ⟨⟩⟩ ⟨nw, ⟨⟩⟩)
 intro F10 ih9 l7 y8 o16 h hr17
 subst hr17
 refine LoopAt.round (.d (.d (sD h (fun hb11 h => ?_) (fun hb11 h => ?_))))
 exact .d (bk h fun x12 hx13 h => ⟨idx_bd hx13, _, (idx_row hx13).trans rfl, (bk h fun x14 hx15 h => ⟨rfl, idx_bd hx15, _, Nat.zero_add _, ⟨rfl, _, row cI (l7.set y8.toNat x12), ((idx_row hx15).trans rfl), row_set (idx_lt hx15) rfl ⟨.same _, trivial⟩, (lg (ih9 _ _ _ h rfl) (tk [0] ⟨.l, (.ox ln), .i, ⟨⟩⟩ ⟨(nwx rfl ln), ⟨⟩⟩))⟩⟩)⟩)
 exact ct ⟨_, si h, rfl, rfl⟩ (tk [0] ⟨.o, ⟨⟩⟩ ⟨nw, ⟨⟩⟩)
 rintro _ _ ⟨l3, rfl, rfl, rfl⟩
 replace h := hk6
 refine .d ?_
 obtain rfl := si h
 exact en [] ⟨rfl, rfl⟩ .r ⟨⟩
def m_l_eqIns (a0 : TIns) (a1 : TIns) : Option (Bool) :=
 (if a0.fOp = a1.fOp then
 (if a0.fA = a1.fA then
 (if a0.fB = a1.fB then
 (if a0.fS = a1.fS then
 (if a0.fT = a1.fT then
 some true
 else
 some false)
 else
 some false)
 else
 some false)
 else
 some false)
 else
 some false)
theorem ok_l_eqIns {a0 : TIns} {a1 : TIns} {r : Bool} (h : m_l_eqIns a0 a1 = some r) : ACall Try.prog 79 [.agg a0.lit, .agg a1.lit] [] (fun res h => res = .bool r ∧ h = []) := by
 refine vc1 Try.func79 ?_
 unfold m_l_eqIns at h
 refine .d (.d (.d ⟨rfl, ⟨rfl, _, rfl, ⟨rfl, ⟨rfl, _, rfl, (sN h (fun hb1 h => ?_) (fun hb1 h => ?_))⟩⟩⟩⟩))
 exact .d (eB h)
 refine .d (.d ⟨rfl, ⟨rfl, _, rfl, ⟨rfl, ⟨rfl, _, rfl, (sN h (fun hb2 h => ?_) (fun hb2 h => ?_))⟩⟩⟩⟩)
 exact .d (eB h)
 refine .d (.d ⟨rfl, ⟨rfl, _, rfl, ⟨rfl, ⟨rfl, _, rfl, (sN h (fun hb3 h => ?_) (fun hb3 h => ?_))⟩⟩⟩⟩)
 exact .d (eB h)
 refine .d (.d ⟨rfl, ⟨rfl, _, rfl, ⟨rfl, ⟨rfl, _, rfl, (sEn h (fun hb4 h => ?_) (fun hb4 h => ?_))⟩⟩⟩⟩)
 exact .d (eB h)
 refine .d (.d ⟨rfl, ⟨rfl, _, rfl, ⟨rfl, ⟨rfl, _, rfl, (sEn h (fun hb5 h => ?_) (fun hb5 h => ?_))⟩⟩⟩⟩)
 exact .d (eB h)
 exact .d (eB h)
def m_l_eqParam (a0 : TParam) (a1 : TParam) : Option (Bool) :=
 (if a0.fName = a1.fName then
 (if a0.fRef = a1.fRef then
 some true
 else
 some false)
 else
 some false)
theorem ok_l_eqParam {a0 : TParam} {a1 : TParam} {r : Bool} (h : m_l_eqParam a0 a1 = some r) : ACall Try.prog 78 [.agg a0.lit, .agg a1.lit] [] (fun res h => res = .bool r ∧ h = []) := by
 refine vc1 Try.func78 ?_
 unfold m_l_eqParam at h
 refine .d (.d (.d ⟨rfl, ⟨rfl, _, rfl, ⟨rfl, ⟨rfl, _, rfl, (sEn h (fun hb1 h => ?_) (fun hb1 h => ?_))⟩⟩⟩⟩))
 exact .d (eB h)
 refine .d (.d ⟨rfl, ⟨rfl, _, rfl, ⟨rfl, ⟨rfl, _, rfl, (sEn h (fun hb2 h => ?_) (fun hb2 h => ?_))⟩⟩⟩⟩)
 exact .d (eB h)
 exact .d (eB h)
def m_l_eqInsS_L2 (a0 : List TIns) (a1 : List TIns) (y5 : Int) : Option ((Unit) ⊕ Bool) :=
 (if y5 < (a0.length : Int) then
 idx a0 y5 >>= fun x9 =>
 idx a1 y5 >>= fun x11 =>
 m_l_eqIns x9 x11 >>= fun v13 =>
 (if v13 = true then
 m_l_eqInsS_L2 a0 a1 (W64 (y5 + 1))
 else
 some (.inr false))
 else
 some (.inl ()))
partial_fixpoint
def m_l_eqInsS (a0 : List TIns) (a1 : List TIns) : Option (Bool) :=
 (if (a0.length : Int) = (a1.length : Int) then
 ((
 m_l_eqInsS_L2 a0 a1 0
 : Option ((Unit) ⊕ Bool)) >>= fun o2 => match o2 with
 | .inr r => some r
 | .inl _ =>
 some true
 )
 else
 some false)
theorem ok_l_eqInsS {a0 : List TIns} {a1 : List TIns} {r : Bool} (h : m_l_eqInsS a0 a1 = some r) : ACall Try.prog 41 [sl 5 TIns.cells a0, sl 5 TIns.cells a1] [] (fun res h => res = .bool r ∧ h = []) := by
 refine vc1 Try.func41 ?_
 unfold m_l_eqInsS at h
 refine .d (.d (.d (sN h (fun hb1 h => ?_) (fun hb1 h => ?_))))
 exact .d (eB h)
 obtain ⟨o2, ho3, hk4⟩ := bd h
 replace h := ho3
 refine .cut (fun σ η => .inl () = o2 ∧ σ = [] ∧ η = []) ?_ ?_
 refine .d ?_
 refine le (m_l_eqInsS_L2.partial_correctness a0 a1 (motive := fun y5 o16 => o2 = o16 → LoopAt _ _ [(0, sl 5 TIns.cells a0), (1, sl 5 TIns.cells a1), (5, .int .i64 y5)] []) ?_ 0 o2 h rfl) (tk [] ⟨.l, .l, .i, ⟨⟩⟩ ⟨⟩)
 intro F7 ih6 y5 o16 h hr17
 subst hr17
 refine LoopAt.round (.d (.d (sD h (fun hb8 h => ?_) (fun hb8 h => ?_))))
 refine .d (.d (.float [(0, true), (1, true), (2, true), (3, true), (4, true), (5, true), (6, true), (7, true), (8, false), (9, true)] (by kernel_rfl) ?_))
 refine bk h fun x9 hx10 h => ⟨idx_bd hx10, _, (idx_row hx10).trans (TIns.cells_eq x9), (bk h fun x11 hx12 h => ⟨idx_bd hx12, _, (idx_row hx12).trans (TIns.cells_eq x11), (bk h fun v13 hv14 h => (pcP (ok_l_eqIns hv14) (sVn h (fun hb15 h => ?_) (fun hb15 h => ?_))))⟩)⟩
 refine .d ?_
 obtain rfl := si h
 replace h := hk4
 exact eB h
 exact lg (ih6 _ _ h rfl) (tk [] ⟨.l, .l, .i, ⟨⟩⟩ ⟨⟩)
 exact ct ⟨si h, rfl, rfl⟩ (tk [] ⟨⟩ ⟨⟩)
 rintro _ _ ⟨rfl, rfl, rfl⟩
 replace h := hk4
 exact .d (eB h)
def m_l_eqParamS_L2 (a0 : List TParam) (a1 : List TParam) (y5 : Int) : Option ((Unit) ⊕ Bool) :=
 (if y5 < (a0.length : Int) then
 idx a0 y5 >>= fun x9 =>
 idx a1 y5 >>= fun x11 =>
 m_l_eqParam x9 x11 >>= fun v13 =>
 (if v13 = true then
 m_l_eqParamS_L2 a0 a1 (W64 (y5 + 1))
 else
 some (.inr false))
 else
 some (.inl ()))
partial_fixpoint
def m_l_eqParamS (a0 : List TParam) (a1 : List TParam) : Option (Bool) :=
 (if (a0.length : Int) = (a1.length : Int) then
 ((
 m_l_eqParamS_L2 a0 a1 0
 : Option ((Unit) ⊕ Bool)) >>= fun o2 => match o2 with
 | .inr r => some r
 | .inl _ =>
 some true
 )
 else
 some false)
theorem ok_l_eqParamS {a0 : List TParam} {a1 : List TParam} {r : Bool} (h : m_l_eqParamS a0 a1 = some r) : ACall Try.prog 39 [sl 2 TParam.cells a0, sl 2 TParam.cells a1] [] (fun res h => res = .bool r ∧ h = []) := by
 refine vc1 Try.func39 ?_
 unfold m_l_eqParamS at h
 refine .d (.d (.d (sN h (fun hb1 h => ?_) (fun hb1 h => ?_))))
 exact .d (eB h)
 obtain ⟨o2, ho3, hk4⟩ := bd h
 replace h := ho3
 refine .cut (fun σ η => .inl () = o2 ∧ σ = [] ∧ η = []) ?_ ?_
 refine .d ?_
 refine le (m_l_eqParamS_L2.partial_correctness a0 a1 (motive := fun y5 o16 => o2 = o16 → LoopAt _ _ [(0, sl 2 TParam.cells a0), (1, sl 2 TParam.cells a1), (5, .int .i64 y5)] []) ?_ 0 o2 h rfl) (tk [] ⟨.l, .l, .i, ⟨⟩⟩ ⟨⟩)
 intro F7 ih6 y5 o16 h hr17
 subst hr17
 refine LoopAt.round (.d (.d (sD h (fun hb8 h => ?_) (fun hb8 h => ?_))))
 refine .d (.d (.float [(0, true), (1, true), (2, true), (3, true), (4, true), (5, true), (6, true), (7, true), (8, false), (9, true)] (by kernel_rfl) ?_))
 refine bk h fun x9 hx10 h => ⟨idx_bd hx10, _, (idx_row hx10).trans (TParam.cells_eq x9), (bk h fun x11 hx12 h => ⟨idx_bd hx12, _, (idx_row hx12).trans (TParam.cells_eq x11), (bk h fun v13 hv14 h => (pcP (ok_l_eqParam hv14) (sVn h (fun hb15 h => ?_) (fun hb15 h => ?_))))⟩)⟩
 refine .d ?_
 obtain rfl := si h
 replace h := hk4
 exact eB h
 exact lg (ih6 _ _ h rfl) (tk [] ⟨.l, .l, .i, ⟨⟩⟩ ⟨⟩)
 exact ct ⟨si h, rfl, rfl⟩ (tk [] ⟨⟩ ⟨⟩)
 rintro _ _ ⟨rfl, rfl, rfl⟩
 replace h := hk4
 exact .d (eB h)
def m_l_eqStringS_L2 (a0 : List Str) (a1 : List Str) (y5 : Int) : Option ((Unit) ⊕ Bool) :=
 (if y5 < (a0.length : Int) then
 idx a0 y5 >>= fun x9 =>
 idx a1 y5 >>= fun x11 =>
 (if x9 = x11 then
 m_l_eqStringS_L2 a0 a1 (W64 (y5 + 1))
 else
 some (.inr false))
 else
 some (.inl ()))
partial_fixpoint
def m_l_eqStringS (a0 : List Str) (a1 : List Str) : Option (Bool) :=
 (if (a0.length : Int) = (a1.length : Int) then
 ((
 m_l_eqStringS_L2 a0 a1 0
 : Option ((Unit) ⊕ Bool)) >>= fun o2 => match o2 with
 | .inr r => some r
 | .inl _ =>
 some true
 )
 else
 some false)
theorem ok_l_eqStringS {a0 : List Str} {a1 : List Str} {r : Bool} (h : m_l_eqStringS a0 a1 = some r) : ACall Try.prog 40 [sl 1 cS a0, sl 1 cS a1] [] (fun res h => res = .bool r ∧ h = []) := by
 refine vc1 Try.func40 ?_
 unfold m_l_eqStringS at h
 refine .d (.d (.d (sN h (fun hb1 h => ?_) (fun hb1 h => ?_))))
 exact .d (eB h)
 obtain ⟨o2, ho3, hk4⟩ := bd h
 replace h := ho3
 refine .cut (fun σ η => .inl () = o2 ∧ σ = [] ∧ η = []) ?_ ?_
 refine .d ?_
 refine le (m_l_eqStringS_L2.partial_correctness a0 a1 (motive := fun y5 o14 => o2 = o14 → LoopAt _ _ [(0, sl 1 cS a0), (1, sl 1 cS a1), (5, .int .i64 y5)] []) ?_ 0 o2 h rfl) (tk [] ⟨.l, .l, .i, ⟨⟩⟩ ⟨⟩)
 intro F7 ih6 y5 o14 h hr15
 subst hr15
 refine LoopAt.round (.d (.d (sD h (fun hb8 h => ?_) (fun hb8 h => ?_))))
 refine .d (.d (bk h fun x9 hx10 h => ⟨idx_bd hx10, _, (idx_row hx10).trans rfl, (bk h fun x11 hx12 h => ⟨idx_bd hx12, _, (idx_row hx12).trans rfl, (sEn h (fun hb13 h => ?_) (fun hb13 h => ?_))⟩)⟩))
 refine .d ?_
 obtain rfl := si h
 replace h := hk4
 exact eB h
 exact lg (ih6 _ _ h rfl) (tk [] ⟨.l, .l, .i, ⟨⟩⟩ ⟨⟩)
 exact ct ⟨si h, rfl, rfl⟩ (tk [] ⟨⟩ ⟨⟩)
 rintro _ _ ⟨rfl, rfl, rfl⟩
 replace h := hk4
 exact .d (eB h)
def m_l_eqFunc (a0 : TFunc) (a1 : TFunc) : Option (Bool) :=
 (if a0.fName = a1.fName then
 m_l_eqParamS a0.fParams a1.fParams >>= fun v2 =>
 (if v2 = true then
 m_l_eqParamS a0.fUses a1.fUses >>= fun v5 =>
 (if v5 = true then
 m_l_eqStringS a0.fSlots a1.fSlots >>= fun v8 =>
 (if v8 = true then
 (if a0.fGen = a1.fGen then
 m_l_eqInsS a0.fCode a1.fCode >>= fun v12 =>
 (if v12 = true then
 some true
 else
 some false)
 else
 some false)
 else
 some false)
 else
 some false)
 else
 some false)
 else
 some false)
theorem ok_l_eqFunc {a0 : TFunc} {a1 : TFunc} {r : Bool} (h : m_l_eqFunc a0 a1 = some r) : ACall Try.prog 12 [.agg a0.lit, .agg a1.lit] [] (fun res h => res = .bool r ∧ h = []) := by
 refine vc1 Try.func12 ?_
 unfold m_l_eqFunc at h
 refine .d (.d (.d ⟨rfl, ⟨rfl, _, rfl, ⟨rfl, ⟨rfl, _, rfl, (sEn h (fun hb1 h => ?_) (fun hb1 h => ?_))⟩⟩⟩⟩))
 exact .d (eB h)
 refine .d (.d ⟨rfl, ⟨rfl, _, rfl, ⟨rfl, ⟨rfl, _, rfl, (bk h fun v2 hv3 h => (pcP (ok_l_eqParamS hv3) (sVn h (fun hb4 h => ?_) (fun hb4 h => ?_))))⟩⟩⟩⟩)
 exact .d (eB h)
 refine .d (.d ⟨rfl, ⟨rfl, _, rfl, ⟨rfl, ⟨rfl, _, rfl, (bk h fun v5 hv6 h => (pcP (ok_l_eqParamS hv6) (sVn h (fun hb7 h => ?_) (fun hb7 h => ?_))))⟩⟩⟩⟩)
 exact .d (eB h)
 refine .d (.d ⟨rfl, ⟨rfl, _, rfl, ⟨rfl, ⟨rfl, _, rfl, (bk h fun v8 hv9 h => (pcP (ok_l_eqStringS hv9) (sVn h (fun hb10 h => ?_) (fun hb10 h => ?_))))⟩⟩⟩⟩)
 exact .d (eB h)
 refine .d (.d ⟨rfl, ⟨rfl, _, rfl, ⟨rfl, ⟨rfl, _, rfl, (sEn h (fun hb11 h => ?_) (fun hb11 h => ?_))⟩⟩⟩⟩)
 exact .d (eB h)
 refine .d (.d ⟨rfl, ⟨rfl, _, rfl, ⟨rfl, ⟨rfl, _, rfl, (bk h fun v12 hv13 h => (pcP (ok_l_eqInsS hv13) (sVn h (fun hb14 h => ?_) (fun hb14 h => ?_))))⟩⟩⟩⟩)
 exact .d (eB h)
 exact .d (eB h)
def m_l_eqIntS_L2 (a0 : List Int) (a1 : List Int) (y5 : Int) : Option ((Unit) ⊕ Bool) :=
 (if y5 < (a0.length : Int) then
 idx a0 y5 >>= fun x9 =>
 idx a1 y5 >>= fun x11 =>
 (if x9 = x11 then
 m_l_eqIntS_L2 a0 a1 (W64 (y5 + 1))
 else
 some (.inr false))
 else
 some (.inl ()))
partial_fixpoint
def m_l_eqIntS (a0 : List Int) (a1 : List Int) : Option (Bool) :=
 (if (a0.length : Int) = (a1.length : Int) then
 ((
 m_l_eqIntS_L2 a0 a1 0
 : Option ((Unit) ⊕ Bool)) >>= fun o2 => match o2 with
 | .inr r => some r
 | .inl _ =>
 some true
 )
 else
 some false)
theorem ok_l_eqIntS {a0 : List Int} {a1 : List Int} {r : Bool} (h : m_l_eqIntS a0 a1 = some r) : ACall Try.prog 13 [sl 1 cI a0, sl 1 cI a1] [] (fun res h => res = .bool r ∧ h = []) := by
 refine vc1 Try.func13 ?_
 unfold m_l_eqIntS at h
 refine .d (.d (.d (sN h (fun hb1 h => ?_) (fun hb1 h => ?_))))
 exact .d (eB h)
 obtain ⟨o2, ho3, hk4⟩ := bd h
 replace h := ho3
 refine .cut (fun σ η => .inl () = o2 ∧ σ = [] ∧ η = []) ?_ ?_
 refine .d ?_
 refine le (m_l_eqIntS_L2.partial_correctness a0 a1 (motive := fun y5 o14 => o2 = o14 → LoopAt _ _ [(0, sl 1 cI a0), (1, sl 1 cI a1), (5, .int .i64 y5)] []) ?_ 0 o2 h rfl) (tk [] ⟨.l, .l, .i, ⟨⟩⟩ ⟨⟩)
 intro F7 ih6 y5 o14 h hr15
 subst hr15
 refine LoopAt.round (.d (.d (sD h (fun hb8 h => ?_) (fun hb8 h => ?_))))
 refine .d (.d (bk h fun x9 hx10 h => ⟨idx_bd hx10, _, (idx_row hx10).trans rfl, (bk h fun x11 hx12 h => ⟨idx_bd hx12, _, (idx_row hx12).trans rfl, (sN h (fun hb13 h => ?_) (fun hb13 h => ?_))⟩)⟩))
 refine .d ?_
 obtain rfl := si h
 replace h := hk4
 exact eB h
 exact lg (ih6 _ _ h rfl) (tk [] ⟨.l, .l, .i, ⟨⟩⟩ ⟨⟩)
 exact ct ⟨si h, rfl, rfl⟩ (tk [] ⟨⟩ ⟨⟩)
 rintro _ _ ⟨rfl, rfl, rfl⟩
 replace h := hk4
 exact .d (eB h)
def m_l_FnExactCheckDrop (a0 : TFunc) (a1 : TFunc) (a2 : List Int) : Option (Bool) :=
 (if (a2.length : Int) > 1048576 then
 some true
 else
 m_l_szFunc a0 1048576 >>= fun v2 =>
 (if v2 < 0 then
 some true
 else
 m_l_szFunc a1 v2 >>= fun v5 =>
 (if v5 < 0 then
 some true
 else
 m_l_toFunc a0 >>= fun v8 =>
 m_l_toFunc a1 >>= fun v10 =>
 m_l_toIntS a2 >>= fun v12 =>
 m_s_CheckDrop v8 v10 v12 >>= fun v14 =>
 m_l_toFunc a0 >>= fun v16 =>
 m_l_toFunc a1 >>= fun v18 =>
 m_l_toIntS a2 >>= fun v20 =>
 m_i_CheckDrop v16 v18 v20 >>= fun v22 =>
 (if v22 = v14 then
 m_l_toFunc a0 >>= fun v25 =>
 m_l_eqFunc v16 v25 >>= fun v27 =>
 (if v27 = true then
 m_l_toFunc a1 >>= fun v30 =>
 m_l_eqFunc v18 v30 >>= fun v32 =>
 (if v32 = true then
 m_l_toIntS a2 >>= fun v35 =>
 m_l_eqIntS v20 v35 >>= fun v37 =>
 (if v37 = true then
 some true
 else
 some false)
 else
 some false)
 else
 some false)
 else
 some false))))
theorem ok_l_FnExactCheckDrop {a0 : TFunc} {a1 : TFunc} {a2 : List Int} {r : Bool} (h : m_l_FnExactCheckDrop a0 a1 a2 = some r) : ACall Try.prog 3 [.agg a0.lit, .agg a1.lit, sl 1 cI a2] [] (fun res h => res = .bool r ∧ h = []) := by
 refine vc1 Try.func3 ?_
 unfold m_l_FnExactCheckDrop at h
 refine .d (.d (.d (sD h (fun hb1 h => ?_) (fun hb1 h => ?_))))
 exact .d (eB h)
 refine .d (.d ⟨rfl, _, rfl, (bk h fun v2 hv3 h => (pcP (ok_l_szFunc hv3) (.d (.d (sD h (fun hb4 h => ?_) (fun hb4 h => ?_))))))⟩)
 exact .d (eB h)
 refine .d ⟨rfl, _, rfl, (bk h fun v5 hv6 h => (pcP (ok_l_szFunc hv6) (.d (.d (sD h (fun hb7 h => ?_) (fun hb7 h => ?_))))))⟩
 exact .d (eB h)
 refine .d (.float [(0, true), (2, true), (4, true), (1, false), (3, false), (5, false), (6, false), (7, true)] (by kernel_rfl) ?_)
 refine ⟨rfl, _, rfl, ⟨rfl, _, rfl, (bk h fun v8 hv9 h => (pcP (ok_l_toFunc hv9) ⟨rfl, (bk h fun v10 hv11 h => (pcP (ok_l_toFunc hv11) (bk h fun v12 hv13 h => (pcP (ok_l_toIntS hv13) (bk h fun v14 hv15 h => (pcP (ok_s_CheckDrop hv15) (.d ⟨rfl, _, rfl, (bk h fun v16 hv17 h => (pcP (ok_l_toFunc hv17) ?_))⟩)))))))⟩))⟩⟩
 refine ⟨rfl, _, fun _ => [.str v16.fName, sl 2 TParam.cells v16.fParams, sl 2 TParam.cells v16.fUses, sl 1 cS v16.fSlots, .bool v16.fGen, sl 5 TIns.cells v16.fCode], rfl, one_set rfl, (.d ⟨rfl, _, rfl, (bk h fun v18 hv19 h => (pcP (ok_l_toFunc hv19) ⟨rfl, _, fun _ => [.str v18.fName, sl 2 TParam.cells v18.fParams, sl 2 TParam.cells v18.fUses, sl 1 cS v18.fSlots, .bool v18.fGen, sl 5 TIns.cells v18.fCode], rfl, one_set rfl, (.d (bk h fun v20 hv21 h => (pcP (ok_l_toIntS hv21) (.d ⟨rfl, _, rfl, ⟨rfl, _, rfl, (bk h fun v22 hv23 h => (pcP (ok_i_CheckDrop hv23) (.d ?_)))⟩⟩))))⟩))⟩)⟩
 refine .d (sEn h (fun hb24 h => ?_) (fun hb24 h => ?_))
 exact .d (eB h)
 refine .d (.d (.float [(0, true), (1, true), (2, false), (3, false), (4, true)] (by kernel_rfl) ?_))
 refine ⟨rfl, _, rfl, ⟨rfl, _, rfl, (bk h fun v25 hv26 h => (pcP (ok_l_toFunc hv26) ⟨rfl, (bk h fun v27 hv28 h => (pcP (ok_l_eqFunc hv28) (sVn h (fun hb29 h => ?_) (fun hb29 h => ?_))))⟩))⟩⟩
 exact .d (eB h)
 refine .d (.d (.float [(0, true), (1, true), (2, false), (3, false), (4, true)] (by kernel_rfl) ?_))
 refine ⟨rfl, _, rfl, ⟨rfl, _, rfl, (bk h fun v30 hv31 h => (pcP (ok_l_toFunc hv31) ⟨rfl, (bk h fun v32 hv33 h => (pcP (ok_l_eqFunc hv33) (sVn h (fun hb34 h => ?_) (fun hb34 h => ?_))))⟩))⟩⟩
 exact .d (eB h)
 refine .d (.d (bk h fun v35 hv36 h => (pcP (ok_l_toIntS hv36) (bk h fun v37 hv38 h => (pcP (ok_l_eqIntS hv38) (sVn h (fun hb39 h => ?_) (fun hb39 h => ?_)))))))
 exact .d (eB h)
 exact .d (eB h)
def m_l_FnExactCheckThread (a0 : TFunc) (a1 : TFunc) : Option (Bool) :=
 m_l_szFunc a0 1048576 >>= fun v1 =>
 (if v1 < 0 then
 some true
 else
 m_l_szFunc a1 v1 >>= fun v4 =>
 (if v4 < 0 then
 some true
 else
 m_l_toFunc a0 >>= fun v7 =>
 m_l_toFunc a1 >>= fun v9 =>
 m_s_CheckThread v7 v9 >>= fun v11 =>
 m_l_toFunc a0 >>= fun v13 =>
 m_l_toFunc a1 >>= fun v15 =>
 m_i_CheckThread v13 v15 >>= fun v17 =>
 (if v17 = v11 then
 m_l_toFunc a0 >>= fun v20 =>
 m_l_eqFunc v13 v20 >>= fun v22 =>
 (if v22 = true then
 m_l_toFunc a1 >>= fun v25 =>
 m_l_eqFunc v15 v25 >>= fun v27 =>
 (if v27 = true then
 some true
 else
 some false)
 else
 some false)
 else
 some false)))
theorem ok_l_FnExactCheckThread {a0 : TFunc} {a1 : TFunc} {r : Bool} (h : m_l_FnExactCheckThread a0 a1 = some r) : ACall Try.prog 4 [.agg a0.lit, .agg a1.lit] [] (fun res h => res = .bool r ∧ h = []) := by
 refine vc1 Try.func4 ?_
 unfold m_l_FnExactCheckThread at h
 refine .d (.d (.d ⟨rfl, _, rfl, (bk h fun v1 hv2 h => (pcP (ok_l_szFunc hv2) (.d (.d (sD h (fun hb3 h => ?_) (fun hb3 h => ?_))))))⟩))
 exact .d (eB h)
 refine .d ⟨rfl, _, rfl, (bk h fun v4 hv5 h => (pcP (ok_l_szFunc hv5) (.d (.d (sD h (fun hb6 h => ?_) (fun hb6 h => ?_))))))⟩
 exact .d (eB h)
 refine .d (.float [(0, true), (2, true), (1, false), (3, false), (4, false), (5, true)] (by kernel_rfl) ?_)
 refine ⟨rfl, _, rfl, ⟨rfl, _, rfl, (bk h fun v7 hv8 h => (pcP (ok_l_toFunc hv8) ⟨rfl, (bk h fun v9 hv10 h => (pcP (ok_l_toFunc hv10) (bk h fun v11 hv12 h => (pcP (ok_s_CheckThread hv12) (.d ⟨rfl, _, rfl, (bk h fun v13 hv14 h => (pcP (ok_l_toFunc hv14) ⟨rfl, _, fun _ => [.str v13.fName, sl 2 TParam.cells v13.fParams, sl 2 TParam.cells v13.fUses, sl 1 cS v13.fSlots, .bool v13.fGen, sl 5 TIns.cells v13.fCode], rfl, one_set rfl, (.d ?_)⟩))⟩)))))⟩))⟩⟩
 refine ⟨rfl, _, rfl, (bk h fun v15 hv16 h => (pcP (ok_l_toFunc hv16) ⟨rfl, _, fun _ => [.str v15.fName, sl 2 TParam.cells v15.fParams, sl 2 TParam.cells v15.fUses, sl 1 cS v15.fSlots, .bool v15.fGen, sl 5 TIns.cells v15.fCode], rfl, one_set rfl, (.d ⟨rfl, _, rfl, ⟨rfl, _, rfl, (bk h fun v17 hv18 h => (pcP (ok_i_CheckThread hv18) (.d (.d (sEn h (fun hb19 h => ?_) (fun hb19 h => ?_))))))⟩⟩)⟩))⟩
 exact .d (eB h)
 refine .d (.d (.float [(0, true), (1, true), (2, false), (3, false), (4, true)] (by kernel_rfl) ?_))
 refine ⟨rfl, _, rfl, ⟨rfl, _, rfl, (bk h fun v20 hv21 h => (pcP (ok_l_toFunc hv21) ⟨rfl, (bk h fun v22 hv23 h => (pcP (ok_l_eqFunc hv23) (sVn h (fun hb24 h => ?_) (fun hb24 h => ?_))))⟩))⟩⟩
 exact .d (eB h)
 refine .d (.d (.float [(0, true), (1, true), (2, false), (3, false), (4, true)] (by kernel_rfl) ?_))
 refine ⟨rfl, _, rfl, ⟨rfl, _, rfl, (bk h fun v25 hv26 h => (pcP (ok_l_toFunc hv26) ⟨rfl, (bk h fun v27 hv28 h => (pcP (ok_l_eqFunc hv28) (sVn h (fun hb29 h => ?_) (fun hb29 h => ?_))))⟩))⟩⟩
 exact .d (eB h)
 exact .d (eB h)
end Go.Am
