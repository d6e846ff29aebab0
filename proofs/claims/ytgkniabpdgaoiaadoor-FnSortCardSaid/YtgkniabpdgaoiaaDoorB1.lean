/- Models of Go functions, and their walks. (Printed by tools/mg.py.) -/
import Derived.Test.YtgkniabpdgaoiaaDoorF3
set_option linter.unusedVariables false
set_option linter.unusedSimpArgs false
namespace Go.Am
open Go Go.RowKit Go.Proofs
def m_i_isDigit (a0 : Int) : Option (Bool) :=
 (if a0 ≥ 48 then
 some (decide (a0 ≤ 57))
 else
 some false)
theorem ok_i_isDigit {a0 : Int} {r : Bool} (h : m_i_isDigit a0 = some r) : ACall Tryd.prog 83 [.int .u8 a0] [] (fun res h => res = .bool r ∧ h = []) := by
 refine vc1 Tryd.func83 ?_
 unfold m_i_isDigit at h
 refine .d (.d (sD h (fun hb1 h => ?_) (fun hb1 h => ?_)))
 exact .t (.t (eB h))
 exact .f (.f (eB h))
def m_i_boolNum (a0 : Bool) : Option (Int) :=
 (if a0 = true then
 some 1
 else
 some 0)
theorem ok_i_boolNum {a0 : Bool} {r : Int} (h : m_i_boolNum a0 = some r) : ACall Tryd.prog 37 [.bool a0] [] (fun res h => res = .int .i64 r ∧ h = []) := by
 refine vc1 Tryd.func37 ?_
 unfold m_i_boolNum at h
 refine .d (.d (.d (sV h (fun hb1 h => ?_) (fun hb1 h => ?_))))
 exact .d (eI h)
 exact .d (eI h)
def m_i_orderOf (a0 : Int) (a1 : Int) : Option (Int) :=
 (if a0 < a1 then
 some (-1)
 else
 (if a0 > a1 then
 some 1
 else
 some 0))
theorem ok_i_orderOf {a0 : Int} {a1 : Int} {r : Int} (h : m_i_orderOf a0 a1 = some r) : ACall Tryd.prog 36 [.int .i64 a0, .int .i64 a1] [] (fun res h => res = .int .i64 r ∧ h = []) := by
 refine vc1 Tryd.func36 ?_
 unfold m_i_orderOf at h
 refine .d (.d (.d (sD h (fun hb1 h => ?_) (fun hb1 h => ?_))))
 exact .d (eI h)
 refine .d (sD h (fun hb2 h => ?_) (fun hb2 h => ?_))
 exact .d (eI h)
 exact .d (eI h)
def m_i_isScalarText (a0 : TValue) : Option (Bool) :=
 (if a0.fKind = 2 then
 some true
 else
 some (a0.fKind == 3))
theorem ok_i_isScalarText {a0 : TValue} {r : Bool} (h : m_i_isScalarText a0 = some r) : ACall Tryd.prog 40 [.agg a0.lit] [] (fun res h => res = .bool r ∧ h = []) := by
 refine vc1 Tryd.func40 ?_
 unfold m_i_isScalarText at h
 refine .d (.d ⟨rfl, ⟨rfl, _, rfl, (sE h (fun hb1 h => ?_) (fun hb1 h => ?_))⟩⟩)
 exact .t (.t (.t (eB h)))
 exact ⟨rfl, (.f ⟨rfl, _, rfl, (.f (.f (eB h)))⟩)⟩
def m_i_FormatInt (a0 : Int) : Option (Str) :=
 m73 a0 >>= fun v1 =>
 some v1
theorem ok_i_FormatInt {a0 : Int} {r : Str} (h : m_i_FormatInt a0 = some r) : ACall Tryd.prog 67 [.int .i64 a0] [] (fun res h => res = .str r ∧ h = []) := by
 refine vc1 Tryd.func67 ?_
 unfold m_i_FormatInt at h
 exact .d (.d (bk h fun v1 hv2 h => (pcP (ok73 hv2) (eS h))))
def m_i_LeadingInt_L2 (a0 : Str) (y17 : Int) (y18 : Int) : Option (Int) :=
 (if y17 < (a0.length : Int) then
 sidx a0 y17 >>= fun c22 =>
 m_i_isDigit (c22.toNat : Int) >>= fun v24 =>
 (if v24 = true then
 sidx a0 y17 >>= fun c27 =>
 m_i_Min (W64 ((W64 (y18 * 10)) + (W64 (IntKind.u8.wrap ((c27.toNat : Int) - 48))))) 1000000000 >>= fun v29 =>
 m_i_LeadingInt_L2 a0 (W64 (y17 + 1)) v29
 else
 some y18)
 else
 some y18)
partial_fixpoint
def m_i_LeadingInt (a0 : Str) : Option (Int) :=
 (
 (if a0 = ([] : Str) then
 some false
 else
 sidx a0 0 >>= fun c6 =>
 some ((c6.toNat : Int) == 45))
 : Option (Bool)) >>= fun b1 =>
 (
 (if b1 = true then
 some 1
 else
 some 0)
 : Option (Int)) >>= fun y8 =>
 (
 m_i_LeadingInt_L2 a0 y8 0
 : Option (Int)) >>= fun y13 =>
 (if b1 = true then
 some (W64 (0 - y13))
 else
 some y13)
theorem ok_i_LeadingInt {a0 : Str} {r : Int} (h : m_i_LeadingInt a0 = some r) : ACall Tryd.prog 66 [.str a0] [] (fun res h => res = .int .i64 r ∧ h = []) := by
 refine vc1 Tryd.func66 ?_
 unfold m_i_LeadingInt at h
 refine .d ?_
 obtain ⟨o2, ho3, hk4⟩ := bd h
 replace h := ho3
 refine .cut (fun σ η => ∃ b1, b1 = o2 ∧ σ = [(0, .str a0), (3, .bool b1)] ∧ η = []) ?_ ?_
 refine sEn h (fun hb5 h => ?_) (fun hb5 h => ?_)
 exact .t (bk h fun c6 hx7 h => ⟨sidx_bd hx7, c6, sidx_at hx7, (.t (.t (ct ⟨_, si h, rfl, rfl⟩ (tk [] ⟨.s, .b, ⟨⟩⟩ ⟨⟩))))⟩)
 exact .f (.f (.f (ct ⟨_, si h, rfl, rfl⟩ (tk [] ⟨.s, .b, ⟨⟩⟩ ⟨⟩))))
 rintro _ _ ⟨b1, rfl, rfl, rfl⟩
 replace h := hk4
 refine .d ?_
 obtain ⟨o9, ho10, hk11⟩ := bd h
 replace h := ho10
 refine .cut (fun σ η => ∃ y8, y8 = o9 ∧ σ = [(0, .str a0), (3, .bool b1), (4, .int .i64 y8)] ∧ η = []) ?_ ?_
 refine .d (sV h (fun hb12 h => ?_) (fun hb12 h => ?_))
 exact ct ⟨_, si h, rfl, rfl⟩ (tk [] ⟨.s, .b, .i, ⟨⟩⟩ ⟨⟩)
 exact ct ⟨_, si h, rfl, rfl⟩ (tk [] ⟨.s, .b, .i, ⟨⟩⟩ ⟨⟩)
 rintro _ _ ⟨y8, rfl, rfl, rfl⟩
 replace h := hk11
 refine .d ?_
 obtain ⟨o14, ho15, hk16⟩ := bd h
 replace h := ho15
 refine .cut (fun σ η => ∃ y13, y13 = o14 ∧ σ = [(3, .bool b1), (5, .int .i64 y13)] ∧ η = []) ?_ ?_
 refine le (m_i_LeadingInt_L2.partial_correctness a0 (motive := fun y17 y18 o31 => o14 = o31 → LoopAt _ _ [(0, .str a0), (3, .bool b1), (4, .int .i64 y17), (5, .int .i64 y18)] []) ?_ y8 0 o14 h rfl) (tk [] ⟨.s, .b, .i, .i, ⟨⟩⟩ ⟨⟩)
 intro F20 ih19 y17 y18 o31 h hr32
 subst hr32
 refine LoopAt.round (.d (.d (sD h (fun hb21 h => ?_) (fun hb21 h => ?_))))
 refine .t (.t (bk h fun c22 hx23 h => ⟨sidx_bd hx23, c22, sidx_at hx23, (.t (bk h fun v24 hv25 h => (pcP (ok_i_isDigit hv25) (.t (sV h (fun hb26 h => ?_) (fun hb26 h => ?_))))))⟩))
 exact .d (bk h fun c27 hx28 h => ⟨sidx_bd hx28, c27, sidx_at hx28, (bk h fun v29 hv30 h => (pcP (ok_i_Min hv30) (lg (ih19 _ _ _ h rfl) (tk [] ⟨.s, .b, .i, .i, ⟨⟩⟩ ⟨⟩))))⟩)
 exact ct ⟨_, si h, rfl, rfl⟩ (tk [] ⟨.b, .i, ⟨⟩⟩ ⟨⟩)
 exact .f (.f (.f (.f (.f (ct ⟨_, si h, rfl, rfl⟩ (tk [] ⟨.b, .i, ⟨⟩⟩ ⟨⟩))))))
 rintro _ _ ⟨y13, rfl, rfl, rfl⟩
 replace h := hk16
 refine .d (.d (sV h (fun hb33 h => ?_) (fun hb33 h => ?_)))
 exact .d (eI h)
 exact .d (eI h)
def m_i_IsNumeric_L2 (s1 : Str) (y17 : Int) (y18 : Int) : Option ((Int) ⊕ Bool) :=
 (if y18 < (s1.length : Int) then
 sidx s1 y18 >>= fun c22 =>
 m_i_isDigit (c22.toNat : Int) >>= fun v24 =>
 (if v24 = true then
 sidx s1 y18 >>= fun c27 =>
 m_i_IsNumeric_L2 s1 (W64 ((W64 (y17 * 10)) + (W64 (IntKind.u8.wrap ((c27.toNat : Int) - 48))))) (W64 (y18 + 1))
 else
 some (.inr false))
 else
 some (.inl y17))
partial_fixpoint
def m_i_IsNumeric (a0 : Str) : Option (Bool) :=
 (
 (if a0 = ([] : Str) then
 some a0
 else
 sidx a0 0 >>= fun c6 =>
 (if (c6.toNat : Int) = 45 then
 sfrom a0 1 >>= fun s9 =>
 some s9
 else
 some a0))
 : Option (Str)) >>= fun s1 =>
 (if (s1.length : Int) < 1 then
 some false
 else
 (if (s1.length : Int) > 10 then
 some false
 else
 ((
 m_i_IsNumeric_L2 s1 0 0
 : Option ((Int) ⊕ Bool)) >>= fun o14 => match o14 with
 | .inr r => some r
 | .inl y13 =>
 some (decide (y13 ≤ 1000000000))
 )))
theorem ok_i_IsNumeric {a0 : Str} {r : Bool} (h : m_i_IsNumeric a0 = some r) : ACall Tryd.prog 65 [.str a0] [] (fun res h => res = .bool r ∧ h = []) := by
 refine vc1 Tryd.func65 ?_
 unfold m_i_IsNumeric at h
 refine .d (.d ?_)
 obtain ⟨o2, ho3, hk4⟩ := bd h
 replace h := ho3
 refine .cut (fun σ η => ∃ s1, s1 = o2 ∧ σ = [(3, .str s1)] ∧ η = []) ?_ ?_
 refine .d (sEn h (fun hb5 h => ?_) (fun hb5 h => ?_))
 refine .t (bk h fun c6 hx7 h => ⟨sidx_bd hx7, c6, sidx_at hx7, (.t (.t (sE h (fun hb8 h => ?_) (fun hb8 h => ?_))))⟩)
 exact bk h fun s9 hx10 h => ⟨sfrom_bd hx10, s9, sfrom_at hx10, (ct ⟨_, si h, rfl, rfl⟩ (tk [] ⟨.s, ⟨⟩⟩ ⟨⟩))⟩
 exact ct ⟨_, si h, rfl, rfl⟩ (tk [] ⟨.s, ⟨⟩⟩ ⟨⟩)
 exact .f (.f (.f (.f (ct ⟨_, si h, rfl, rfl⟩ (tk [] ⟨.s, ⟨⟩⟩ ⟨⟩)))))
 rintro _ _ ⟨s1, rfl, rfl, rfl⟩
 replace h := hk4
 refine .d (.d (sD h (fun hb11 h => ?_) (fun hb11 h => ?_)))
 exact .t (.t (.t (.t (.d (eB h)))))
 refine .f (.f (.f (sD h (fun hb12 h => ?_) (fun hb12 h => ?_))))
 exact .d (eB h)
 refine .d ?_
 obtain ⟨o14, ho15, hk16⟩ := bd h
 replace h := ho15
 refine .cut (fun σ η => ∃ y13, .inl y13 = o14 ∧ σ = [(4, .int .i64 y13)] ∧ η = []) ?_ ?_
 refine .d ?_
 refine le (m_i_IsNumeric_L2.partial_correctness s1 (motive := fun y17 y18 o29 => o14 = o29 → LoopAt _ _ [(3, .str s1), (4, .int .i64 y17), (5, .int .i64 y18)] []) ?_ 0 0 o14 h rfl) (tk [] ⟨.s, .i, .i, ⟨⟩⟩ ⟨⟩)
 intro F20 ih19 y17 y18 o29 h hr30
 subst hr30
 refine LoopAt.round (.d (.d (sD h (fun hb21 h => ?_) (fun hb21 h => ?_))))
 refine .d (.d (.d (bk h fun c22 hx23 h => ⟨sidx_bd hx23, c22, sidx_at hx23, (bk h fun v24 hv25 h => (pcP (ok_i_isDigit hv25) (sVn h (fun hb26 h => ?_) (fun hb26 h => ?_))))⟩)))
 refine .d ?_
 obtain rfl := si h
 replace h := hk16
 exact eB h
 exact bk h fun c27 hx28 h => ⟨sidx_bd hx28, c27, sidx_at hx28, (lg (ih19 _ _ _ h rfl) (tk [] ⟨.s, .i, .i, ⟨⟩⟩ ⟨⟩))⟩
 exact ct ⟨_, si h, rfl, rfl⟩ (tk [] ⟨.i, ⟨⟩⟩ ⟨⟩)
 rintro _ _ ⟨y13, rfl, rfl, rfl⟩
 replace h := hk16
 exact .d (eB h)
def m_i_ToBool (a0 : TValue) : Option (Bool) :=
 (if a0.fKind = 0 then
 some false
 else
 (
 (if a0.fKind = 1 then
 some (a0.fKind == 1)
 else
 some (a0.fKind == 2))
 : Option (Bool)) >>= fun b2 =>
 (if b2 = true then
 some (a0.fNum != 0)
 else
 (if a0.fKind = 3 then
 (if a0.fStr = ([] : Str) then
 some false
 else
 some (!(a0.fStr == ([48] : Str))))
 else
 (if a0.fKind = 4 then
 some (decide ((a0.fItems.length : Int) > 0))
 else
 some true))))
theorem ok_i_ToBool {a0 : TValue} {r : Bool} (h : m_i_ToBool a0 = some r) : ACall Tryd.prog 38 [.agg a0.lit] [] (fun res h => res = .bool r ∧ h = []) := by
 refine vc1 Tryd.func38 ?_
 unfold m_i_ToBool at h
 refine .d (.d (.d ⟨rfl, ⟨rfl, _, rfl, (.d (sE h (fun hb1 h => ?_) (fun hb1 h => ?_)))⟩⟩))
 exact .d (eB h)
 obtain ⟨o3, ho4, hk5⟩ := bd h
 replace h := ho4
 refine .cut (fun σ η => ∃ b2, b2 = o3 ∧ σ = [(1, .optr 0 0 0 0), (4, .int .i64 a0.fKind), (7, .bool b2)] ∧ η = [.row 0 5 1 29 (fun _ => a0.lit)]) ?_ ?_
 refine .d (sE h (fun hb6 h => ?_) (fun hb6 h => ?_))
 exact ct ⟨_, si h, rfl, rfl⟩ (tk [0] ⟨.p, .i, .b, ⟨⟩⟩ ⟨(nbp rfl), ⟨⟩⟩)
 exact ct ⟨_, si h, rfl, rfl⟩ (tk [0] ⟨.p, .i, .b, ⟨⟩⟩ ⟨(nbp rfl), ⟨⟩⟩)
 rintro _ _ ⟨b2, rfl, rfl, rfl⟩
 replace h := hk5
 refine sV h (fun hb7 h => ?_) (fun hb7 h => ?_)
 exact .d ⟨rfl, ⟨rfl, _, rfl, (eB h)⟩⟩
 refine .d (sE h (fun hb8 h => ?_) (fun hb8 h => ?_))
 refine .d ⟨rfl, ⟨rfl, _, rfl, (sEn h (fun hb9 h => ?_) (fun hb9 h => ?_))⟩⟩
 exact ⟨rfl, (.t ⟨rfl, _, rfl, (.t (.t (eB h)))⟩)⟩
 exact .f (.f (.f (eB h)))
 refine .d (sE h (fun hb10 h => ?_) (fun hb10 h => ?_))
 exact .d ⟨rfl, ⟨rfl, _, rfl, (eB h)⟩⟩
 exact .d (eB h)
def m_i_ToInt (a0 : TValue) : Option (Int) :=
 (if a0.fKind = 2 then
 some a0.fNum
 else
 (if a0.fKind = 3 then
 m_i_LeadingInt a0.fStr >>= fun v3 =>
 some v3
 else
 m_i_ToBool a0 >>= fun v5 =>
 (if v5 = true then
 some 1
 else
 some 0)))
theorem ok_i_ToInt {a0 : TValue} {r : Int} (h : m_i_ToInt a0 = some r) : ACall Tryd.prog 64 [.agg a0.lit] [] (fun res h => res = .int .i64 r ∧ h = []) := by
 refine vc1 Tryd.func64 ?_
 unfold m_i_ToInt at h
 refine .d (.d (.d ⟨rfl, ⟨rfl, _, rfl, (.d (sE h (fun hb1 h => ?_) (fun hb1 h => ?_)))⟩⟩))
 exact .d ⟨rfl, ⟨rfl, _, rfl, (eI h)⟩⟩
 refine .d (sE h (fun hb2 h => ?_) (fun hb2 h => ?_))
 exact .d ⟨rfl, ⟨rfl, _, rfl, (bk h fun v3 hv4 h => (pcP (ok_i_LeadingInt hv4) (eI h)))⟩⟩
 refine .d (.d ⟨rfl, _, rfl, (bk h fun v5 hv6 h => (pcP (ok_i_ToBool hv6) (sV h (fun hb7 h => ?_) (fun hb7 h => ?_))))⟩)
 exact .d (eI h)
 exact .d (eI h)
def m_i_ToText (a0 : TValue) : Option (Str × Int) :=
 (if a0.fKind = 0 then
 some ([], 0)
 else
 (if a0.fKind = 1 then
 (if a0.fNum = 0 then
 some ([], 0)
 else
 some ([49], 0))
 else
 (if a0.fKind = 2 then
 m_i_FormatInt a0.fNum >>= fun v5 =>
 some (v5, 0)
 else
 (if a0.fKind = 3 then
 some (a0.fStr, 0)
 else
 some ([], 1)))))
theorem ok_i_ToText {a0 : TValue} {r : Str × Int} (h : m_i_ToText a0 = some r) : ACall Tryd.prog 41 [.agg a0.lit] [] (fun res h => res = .tup [.str r.1, .int .i64 r.2] ∧ h = []) := by
 refine vc1 Tryd.func41 ?_
 unfold m_i_ToText at h
 refine .d (.d (.d ⟨rfl, ⟨rfl, _, rfl, (.d (sE h (fun hb1 h => ?_) (fun hb1 h => ?_)))⟩⟩))
 refine .d ?_
 obtain rfl := si h
 exact en [] ⟨rfl, rfl⟩ (.tup_l ⟨.s, .i, ⟨⟩⟩) ⟨⟩
 refine .d (sE h (fun hb2 h => ?_) (fun hb2 h => ?_))
 refine .d (.d ⟨rfl, ⟨rfl, _, rfl, (sN h (fun hb3 h => ?_) (fun hb3 h => ?_))⟩⟩)
 refine .d ?_
 obtain rfl := si h
 exact en [] ⟨rfl, rfl⟩ (.tup_l ⟨.s, .i, ⟨⟩⟩) ⟨⟩
 refine .d ?_
 obtain rfl := si h
 exact en [] ⟨rfl, rfl⟩ (.tup_l ⟨.s, .i, ⟨⟩⟩) ⟨⟩
 refine .d (sE h (fun hb4 h => ?_) (fun hb4 h => ?_))
 refine .d ⟨rfl, ⟨rfl, _, rfl, (bk h fun v5 hv6 h => (pcP (ok_i_FormatInt hv6) ?_))⟩⟩
 obtain rfl := si h
 exact en [] ⟨rfl, rfl⟩ (.tup_l ⟨.s, .i, ⟨⟩⟩) ⟨⟩
 refine .d (sE h (fun hb7 h => ?_) (fun hb7 h => ?_))
 refine .d ⟨rfl, ⟨rfl, _, rfl, ?_⟩⟩
 obtain rfl := si h
 exact en [] ⟨rfl, rfl⟩ (.tup_l ⟨.s, .i, ⟨⟩⟩) ⟨⟩
 refine .d ?_
 obtain rfl := si h
 exact en [] ⟨rfl, rfl⟩ (.tup_l ⟨.s, .i, ⟨⟩⟩) ⟨⟩
def m_i_ToNumber (a0 : TValue) : Option (Int × Int) :=
 (
 (if a0.fKind = 0 then
 some (a0.fKind == 0)
 else
 (if a0.fKind = 1 then
 some (a0.fKind == 1)
 else
 some (a0.fKind == 2)))
 : Option (Bool)) >>= fun b1 =>
 (if b1 = true then
 m_i_ToInt a0 >>= fun v8 =>
 some (v8, 0)
 else
 (if a0.fKind = 3 then
 m_i_IsNumeric a0.fStr >>= fun v11 =>
 (if v11 = true then
 m_i_LeadingInt a0.fStr >>= fun v14 =>
 some (v14, 0)
 else
 some (0, 2))
 else
 some (0, 2)))
theorem ok_i_ToNumber {a0 : TValue} {r : Int × Int} (h : m_i_ToNumber a0 = some r) : ACall Tryd.prog 39 [.agg a0.lit] [] (fun res h => res = .tup [.int .i64 r.1, .int .i64 r.2] ∧ h = []) := by
 refine vc1 Tryd.func39 ?_
 unfold m_i_ToNumber at h
 refine .d (.d (.d ⟨rfl, ⟨rfl, _, rfl, ?_⟩⟩))
 obtain ⟨o2, ho3, hk4⟩ := bd h
 replace h := ho3
 refine .cut (fun σ η => ∃ b1, b1 = o2 ∧ σ = [(1, .optr 0 0 0 0), (5, .int .i64 a0.fKind), (6, .bool b1)] ∧ η = [.row 0 5 1 29 (fun _ => a0.lit)]) ?_ ?_
 refine .d (sE h (fun hb5 h => ?_) (fun hb5 h => ?_))
 exact ct ⟨_, si h, rfl, rfl⟩ (tk [0] ⟨.p, .i, .b, ⟨⟩⟩ ⟨(nbp rfl), ⟨⟩⟩)
 refine .d (sE h (fun hb6 h => ?_) (fun hb6 h => ?_))
 exact ct ⟨_, si h, rfl, rfl⟩ (tk [0] ⟨.p, .i, .b, ⟨⟩⟩ ⟨(nbp rfl), ⟨⟩⟩)
 exact ct ⟨_, si h, rfl, rfl⟩ (tk [0] ⟨.p, .i, .b, ⟨⟩⟩ ⟨(nbp rfl), ⟨⟩⟩)
 rintro _ _ ⟨b1, rfl, rfl, rfl⟩
 replace h := hk4
 refine sV h (fun hb7 h => ?_) (fun hb7 h => ?_)
 refine .d ⟨rfl, _, rfl, (bk h fun v8 hv9 h => (pcP (ok_i_ToInt hv9) ?_))⟩
 obtain rfl := si h
 exact en [] ⟨rfl, rfl⟩ (.tup_l ⟨.i, .i, ⟨⟩⟩) ⟨⟩
 refine .d (sE h (fun hb10 h => ?_) (fun hb10 h => ?_))
 refine .d ⟨rfl, ⟨rfl, _, rfl, (bk h fun v11 hv12 h => (pcP (ok_i_IsNumeric hv12) (sV h (fun hb13 h => ?_) (fun hb13 h => ?_))))⟩⟩
 refine .d ⟨rfl, ⟨rfl, _, rfl, (bk h fun v14 hv15 h => (pcP (ok_i_LeadingInt hv15) ?_))⟩⟩
 obtain rfl := si h
 exact en [] ⟨rfl, rfl⟩ (.tup_l ⟨.i, .i, ⟨⟩⟩) ⟨⟩
 refine .d ?_
 obtain rfl := si h
 exact en [] ⟨rfl, rfl⟩ (.tup_l ⟨.i, .i, ⟨⟩⟩) ⟨⟩
 refine .d ?_
 obtain rfl := si h
 exact en [] ⟨rfl, rfl⟩ (.tup_l ⟨.i, .i, ⟨⟩⟩) ⟨⟩
end Go.Am
