/- Models of Go functions, and their walks. (Printed by tools/mg.py.) -/
import Derived.Test.YtginnmdpdgeinaaGreatDoorA1
import Derived.Test.YtginnmdpdgeinaaGreatDoorL1
set_option linter.unusedVariables false
set_option linter.unusedSimpArgs false
namespace Go.Am
open Go Go.RowKit Go.Proofs
theorem ok_i_NullValuex : ACall Tryz.prog 119 [] [] (fun res h => res = .agg [.int .i64 0, .int .i64 0, .str [], .int .i64 0, .nils] ∧ h = []) := by
 refine vc1 Tryz.func119 ?_
 exact .d (.d ⟨rfl, _, fun _ => [.int .i64 0, .int .i64 0, .str [], .int .i64 0, .nils], rfl, one_set rfl, ⟨rfl, _, rfl, (en [] ⟨rfl, rfl⟩ (.agg_l ⟨.i, .i, .s, .i, .nils, ⟨⟩⟩) ⟨⟩)⟩⟩)
def m_i_BoolValue (a0 : Bool) : Option (TValue) :=
 (if a0 = true then
 some (TValue.mk 1 1 [] 0 [])
 else
 some (TValue.mk 1 0 [] 0 []))
theorem ok_i_BoolValue {a0 : Bool} {r : TValue} (h : m_i_BoolValue a0 = some r) : ACall Tryz.prog 75 [.bool a0] [] (fun res h => res = .agg r.lit ∧ h = []) := by
 refine vc1 Tryz.func75 ?_
 unfold m_i_BoolValue at h
 refine .d (.d (.d (sV h (fun hb1 h => ?_) (fun hb1 h => ?_))))
 refine .d ⟨rfl, _, fun _ => [.int .i64 1, .int .i64 1, .str [], .int .i64 0, .nils], rfl, one_set rfl, ?_⟩
 obtain rfl := si h
 exact ⟨rfl, _, rfl, (en [] ⟨rfl, rfl⟩ (.agg_l ⟨.i, .i, .s, .i, .z, ⟨⟩⟩) ⟨⟩)⟩
 refine .d ⟨rfl, _, fun _ => [.int .i64 1, .int .i64 0, .str [], .int .i64 0, .nils], rfl, one_set rfl, ?_⟩
 obtain rfl := si h
 exact ⟨rfl, _, rfl, (en [] ⟨rfl, rfl⟩ (.agg_l ⟨.i, .i, .s, .i, .z, ⟨⟩⟩) ⟨⟩)⟩
theorem ok_i_IntValuex (a0 : Int) : ACall Tryz.prog 117 [.int .i64 a0] [] (fun res h => res = .agg [.int .i64 2, .int .i64 a0, .str [], .int .i64 0, .nils] ∧ h = []) := by
 refine vc1 Tryz.func117 ?_
 exact .d (.d ⟨rfl, _, fun _ => [.int .i64 2, .int .i64 a0, .str [], .int .i64 0, .nils], rfl, one_set rfl, ⟨rfl, _, rfl, (en [] ⟨rfl, rfl⟩ (.agg_l ⟨.i, .i, .s, .i, .nils, ⟨⟩⟩) ⟨⟩)⟩⟩)
theorem ok_i_TextValuex (a0 : Str) : ACall Tryz.prog 118 [.str a0] [] (fun res h => res = .agg [.int .i64 3, .int .i64 0, .str a0, .int .i64 0, .nils] ∧ h = []) := by
 refine vc1 Tryz.func118 ?_
 exact .d (.d ⟨rfl, _, fun _ => [.int .i64 3, .int .i64 0, .str a0, .int .i64 0, .nils], rfl, one_set rfl, ⟨rfl, _, rfl, (en [] ⟨rfl, rfl⟩ (.agg_l ⟨.i, .i, .s, .i, .nils, ⟨⟩⟩) ⟨⟩)⟩⟩)
def m_i_Min (a0 : Int) (a1 : Int) : Option (Int) :=
 (if a1 < a0 then
 some a1
 else
 some a0)
theorem ok_i_Min {a0 : Int} {a1 : Int} {r : Int} (h : m_i_Min a0 a1 = some r) : ACall Tryz.prog 188 [.int .i64 a0, .int .i64 a1] [] (fun res h => res = .int .i64 r ∧ h = []) := by
 refine vc1 Tryz.func188 ?_
 unfold m_i_Min at h
 refine .d (.d (.d (sD h (fun hb1 h => ?_) (fun hb1 h => ?_))))
 exact .d (eI h)
 exact .d (eI h)
def m_i_Max (a0 : Int) (a1 : Int) : Option (Int) :=
 (if a1 > a0 then
 some a1
 else
 some a0)
theorem ok_i_Max {a0 : Int} {a1 : Int} {r : Int} (h : m_i_Max a0 a1 = some r) : ACall Tryz.prog 38 [.int .i64 a0, .int .i64 a1] [] (fun res h => res = .int .i64 r ∧ h = []) := by
 refine vc1 Tryz.func38 ?_
 unfold m_i_Max at h
 refine .d (.d (.d (sD h (fun hb1 h => ?_) (fun hb1 h => ?_))))
 exact .d (eI h)
 exact .d (eI h)
def m_s_Min (a0 : Int) (a1 : Int) : Option (Int) :=
 (if a1 < a0 then
 some a1
 else
 some a0)
theorem ok_s_Min {a0 : Int} {a1 : Int} {r : Int} (h : m_s_Min a0 a1 = some r) : ACall Tryz.prog 170 [.int .i64 a0, .int .i64 a1] [] (fun res h => res = .int .i64 r ∧ h = []) := by
 refine vc1 Tryz.func170 ?_
 unfold m_s_Min at h
 refine .d (.d (.d (sD h (fun hb1 h => ?_) (fun hb1 h => ?_))))
 exact .d (eI h)
 exact .d (eI h)
def m_s_Max (a0 : Int) (a1 : Int) : Option (Int) :=
 (if a1 > a0 then
 some a1
 else
 some a0)
theorem ok_s_Max {a0 : Int} {a1 : Int} {r : Int} (h : m_s_Max a0 a1 = some r) : ACall Tryz.prog 36 [.int .i64 a0, .int .i64 a1] [] (fun res h => res = .int .i64 r ∧ h = []) := by
 refine vc1 Tryz.func36 ?_
 unfold m_s_Max at h
 refine .d (.d (.d (sD h (fun hb1 h => ?_) (fun hb1 h => ?_))))
 exact .d (eI h)
 exact .d (eI h)
def m_s_BoolValue (a0 : Bool) : Option (TValue) :=
 (if a0 = true then
 some (TValue.mk 1 1 [] 0 [])
 else
 some (TValue.mk 1 0 [] 0 []))
theorem ok_s_BoolValue {a0 : Bool} {r : TValue} (h : m_s_BoolValue a0 = some r) : ACall Tryz.prog 58 [.bool a0] [] (fun res h => res = .agg r.lit ∧ h = []) := by
 refine vc1 Tryz.func58 ?_
 unfold m_s_BoolValue at h
 refine .d (.d (.d (sV h (fun hb1 h => ?_) (fun hb1 h => ?_))))
 refine .d ⟨rfl, _, fun _ => [.int .i64 1, .int .i64 1, .str [], .int .i64 0, .nils], rfl, one_set rfl, ?_⟩
 obtain rfl := si h
 exact ⟨rfl, _, rfl, (en [] ⟨rfl, rfl⟩ (.agg_l ⟨.i, .i, .s, .i, .z, ⟨⟩⟩) ⟨⟩)⟩
 refine .d ⟨rfl, _, fun _ => [.int .i64 1, .int .i64 0, .str [], .int .i64 0, .nils], rfl, one_set rfl, ?_⟩
 obtain rfl := si h
 exact ⟨rfl, _, rfl, (en [] ⟨rfl, rfl⟩ (.agg_l ⟨.i, .i, .s, .i, .z, ⟨⟩⟩) ⟨⟩)⟩
theorem ok_s_IntValuex (a0 : Int) : ACall Tryz.prog 95 [.int .i64 a0] [] (fun res h => res = .agg [.int .i64 2, .int .i64 a0, .str [], .int .i64 0, .nils] ∧ h = []) := by
 refine vc1 Tryz.func95 ?_
 exact .d (.d ⟨rfl, _, fun _ => [.int .i64 2, .int .i64 a0, .str [], .int .i64 0, .nils], rfl, one_set rfl, ⟨rfl, _, rfl, (en [] ⟨rfl, rfl⟩ (.agg_l ⟨.i, .i, .s, .i, .nils, ⟨⟩⟩) ⟨⟩)⟩⟩)
theorem ok_s_TextValuex (a0 : Str) : ACall Tryz.prog 96 [.str a0] [] (fun res h => res = .agg [.int .i64 3, .int .i64 0, .str a0, .int .i64 0, .nils] ∧ h = []) := by
 refine vc1 Tryz.func96 ?_
 exact .d (.d ⟨rfl, _, fun _ => [.int .i64 3, .int .i64 0, .str a0, .int .i64 0, .nils], rfl, one_set rfl, ⟨rfl, _, rfl, (en [] ⟨rfl, rfl⟩ (.agg_l ⟨.i, .i, .s, .i, .nils, ⟨⟩⟩) ⟨⟩)⟩⟩)
def m_i_boolNum (a0 : Bool) : Option (Int) :=
 (if a0 = true then
 some 1
 else
 some 0)
theorem ok_i_boolNum {a0 : Bool} {r : Int} (h : m_i_boolNum a0 = some r) : ACall Tryz.prog 120 [.bool a0] [] (fun res h => res = .int .i64 r ∧ h = []) := by
 refine vc1 Tryz.func120 ?_
 unfold m_i_boolNum at h
 refine .d (.d (.d (sV h (fun hb1 h => ?_) (fun hb1 h => ?_))))
 exact .d (eI h)
 exact .d (eI h)
def m_i_orderOf (a0 : Int) (a1 : Int) : Option (Int) :=
 (if a0 < a1 then
 some (-1)
 else
 (if a0 > a1 then
 some 1
 else
 some 0))
theorem ok_i_orderOf {a0 : Int} {a1 : Int} {r : Int} (h : m_i_orderOf a0 a1 = some r) : ACall Tryz.prog 157 [.int .i64 a0, .int .i64 a1] [] (fun res h => res = .int .i64 r ∧ h = []) := by
 refine vc1 Tryz.func157 ?_
 unfold m_i_orderOf at h
 refine .d (.d (.d (sD h (fun hb1 h => ?_) (fun hb1 h => ?_))))
 exact .d (eI h)
 refine .d (sD h (fun hb2 h => ?_) (fun hb2 h => ?_))
 exact .d (eI h)
 exact .d (eI h)
def m_i_isScalarText (a0 : TValue) : Option (Bool) :=
 (if a0.fKind = 2 then
 some true
 else
 some (a0.fKind == 3))
theorem ok_i_isScalarText {a0 : TValue} {r : Bool} (h : m_i_isScalarText a0 = some r) : ACall Tryz.prog 158 [.agg a0.lit] [] (fun res h => res = .bool r ∧ h = []) := by
 refine vc1 Tryz.func158 ?_
 unfold m_i_isScalarText at h
 refine .d (.d ⟨rfl, ⟨rfl, _, rfl, (sE h (fun hb1 h => ?_) (fun hb1 h => ?_))⟩⟩)
 exact .t (.t (.t (eB h)))
 exact ⟨rfl, (.f ⟨rfl, _, rfl, (.f (.f (eB h)))⟩)⟩
def m_s_l9Order (a0 : Int) (a1 : Int) : Option (Int) :=
 (if a0 < a1 then
 some (-1)
 else
 (if a0 > a1 then
 some 1
 else
 some 0))
theorem ok_s_l9Order {a0 : Int} {a1 : Int} {r : Int} (h : m_s_l9Order a0 a1 = some r) : ACall Tryz.prog 138 [.int .i64 a0, .int .i64 a1] [] (fun res h => res = .int .i64 r ∧ h = []) := by
 refine vc1 Tryz.func138 ?_
 unfold m_s_l9Order at h
 refine .d (.d (.d (sD h (fun hb1 h => ?_) (fun hb1 h => ?_))))
 exact .d (eI h)
 refine .d (.d (sD h (fun hb2 h => ?_) (fun hb2 h => ?_)))
 exact .d (eI h)
 exact .d (eI h)
def m_s_l9Bytes (a0 : Str) (a1 : Str) : Option (Int) :=
 (if (Op.bytesLess a0 a1) = true then
 some (-1)
 else
 (if (Op.bytesLess a0 a1 || a0 == a1) = true then
 some 0
 else
 some 1))
theorem ok_s_l9Bytes {a0 : Str} {a1 : Str} {r : Int} (h : m_s_l9Bytes a0 a1 = some r) : ACall Tryz.prog 137 [.str a0, .str a1] [] (fun res h => res = .int .i64 r ∧ h = []) := by
 refine vc1 Tryz.func137 ?_
 unfold m_s_l9Bytes at h
 refine .d (.d (.d (sV h (fun hb1 h => ?_) (fun hb1 h => ?_))))
 exact .d (eI h)
 refine .d (.d (sVn h (fun hb2 h => ?_) (fun hb2 h => ?_)))
 exact .d (eI h)
 exact .d (eI h)
def m_i_FormatInt (a0 : Int) : Option (Str) :=
 m73 a0 >>= fun v1 =>
 some v1
theorem ok_i_FormatInt {a0 : Int} {r : Str} (h : m_i_FormatInt a0 = some r) : ACall Tryz.prog 155 [.int .i64 a0] [] (fun res h => res = .str r ∧ h = []) := by
 refine vc1 Tryz.func155 ?_
 unfold m_i_FormatInt at h
 exact .d (.d (bk h fun v1 hv2 h => (pcP (ok73 hv2) (eS h))))
def m94_L2 (s6 : Str) (y7 : Int) : Option (Str) :=
 (if y7 = 0 then
 some s6
 else
 (if (y7.tmod 10) < 0 then
 scat ([UInt8.ofNat (IntKind.u8.wrap (W64 (48 + (W64 (0 - (y7.tmod 10)))))).toNat] : List UInt8) s6 >>= fun s12 =>
 m94_L2 s12 (W64 (y7.tdiv 10))
 else
 scat ([UInt8.ofNat (IntKind.u8.wrap (W64 (48 + (y7.tmod 10)))).toNat] : List UInt8) s6 >>= fun s14 =>
 m94_L2 s14 (W64 (y7.tdiv 10))))
partial_fixpoint
def m94 (a0 : Int) : Option (Str) :=
 (if a0 = 0 then
 some [48]
 else
 (
 m94_L2 [] a0
 : Option (Str)) >>= fun s2 =>
 (if a0 < 0 then
 scat [45] s2 >>= fun s19 =>
 some s19
 else
 some s2))
theorem ok94 {a0 : Int} {r : Str} (h : m94 a0 = some r) : ACall Tryz.prog 167 [.int .i64 a0] [] (fun res h => res = .str r ∧ h = []) := by
 refine vc1 Tryz.func167 ?_
 unfold m94 at h
 refine .d (.d (.d (sE h (fun hb1 h => ?_) (fun hb1 h => ?_))))
 exact .d (eS h)
 refine .d ?_
 obtain ⟨o3, ho4, hk5⟩ := bd h
 replace h := ho4
 refine .cut (fun σ η => ∃ s2, s2 = o3 ∧ σ = [(0, .int .i64 a0), (3, .str s2)] ∧ η = []) ?_ ?_
 refine .d ?_
 refine le (m94_L2.partial_correctness  (motive := fun s6 y7 o16 => o3 = o16 → LoopAt _ _ [(0, .int .i64 a0), (3, .str s6), (4, .int .i64 y7)] []) ?_ [] a0 o3 h rfl) (tk [] ⟨.i, .s, .i, ⟨⟩⟩ ⟨⟩)
 intro F9 ih8 s6 y7 o16 h hr17
 subst hr17
 refine LoopAt.round (.d (.d (sN h (fun hb10 h => ?_) (fun hb10 h => ?_))))
 refine .d (.d ⟨by decide, (.d (.d (sD h (fun hb11 h => ?_) (fun hb11 h => ?_))))⟩)
 exact ⟨row cB ([UInt8.ofNat (IntKind.u8.wrap (W64 (48 + (W64 (0 - (y7.tmod 10)))))).toNat] : List UInt8), row_lit cB ([UInt8.ofNat (IntKind.u8.wrap (W64 (48 + (W64 (0 - (y7.tmod 10)))))).toNat] : List UInt8) rfl (cll_cons (cB_wrap _) ⟨.same _, trivial⟩ trivial), ⟨rfl, ([UInt8.ofNat (IntKind.u8.wrap (W64 (48 + (W64 (0 - (y7.tmod 10)))))).toNat] : List UInt8), rfl, bytes_shows shows_all rfl, (bk h fun s12 hx13 h => ⟨scat_bd hx13, s12, scat_at hx13, ⟨by decide, (lg (ih8 _ _ _ h rfl) (tk [] ⟨.i, .s, .i, ⟨⟩⟩ ⟨⟩))⟩⟩)⟩⟩
 exact ⟨row cB ([UInt8.ofNat (IntKind.u8.wrap (W64 (48 + (y7.tmod 10)))).toNat] : List UInt8), row_lit cB ([UInt8.ofNat (IntKind.u8.wrap (W64 (48 + (y7.tmod 10)))).toNat] : List UInt8) rfl (cll_cons (cB_wrap _) ⟨.same _, trivial⟩ trivial), ⟨rfl, ([UInt8.ofNat (IntKind.u8.wrap (W64 (48 + (y7.tmod 10)))).toNat] : List UInt8), rfl, bytes_shows shows_all rfl, (bk h fun s14 hx15 h => ⟨scat_bd hx15, s14, scat_at hx15, ⟨by decide, (lg (ih8 _ _ _ h rfl) (tk [] ⟨.i, .s, .i, ⟨⟩⟩ ⟨⟩))⟩⟩)⟩⟩
 exact ct ⟨_, si h, rfl, rfl⟩ (tk [] ⟨.i, .s, ⟨⟩⟩ ⟨⟩)
 rintro _ _ ⟨s2, rfl, rfl, rfl⟩
 replace h := hk5
 refine .d (.d (sD h (fun hb18 h => ?_) (fun hb18 h => ?_)))
 exact .d (bk h fun s19 hx20 h => ⟨scat_bd hx20, s19, scat_at hx20, (eS h)⟩)
 exact .d (eS h)
def m_i_LeadingInt_L2 (a0 : Str) (y17 : Int) (y18 : Int) : Option (Int) :=
 (if y17 < (a0.length : Int) then
 sidx a0 y17 >>= fun c22 =>
 m_i_isDigit (c22.toNat : Int) >>= fun v24 =>
 (if v24 = true then
 sidx a0 y17 >>= fun c27 =>
 m_i_Min (W64 ((W64 (y18 * 10)) + (W64 (IntKind.u8.wrap ((c27.toNat : Int) - 48))))) 1000000000 >>= fun v29 =>
 m_i_LeadingInt_L2 a0 (W64 (y17 + 1)) v29
 else
 some y18)
 else
 some y18)
partial_fixpoint
def m_i_LeadingInt (a0 : Str) : Option (Int) :=
 (
 (if a0 = ([] : Str) then
 some false
 else
 sidx a0 0 >>= fun c6 =>
 some ((c6.toNat : Int) == 45))
 : Option (Bool)) >>= fun b1 =>
 (
 (if b1 = true then
 some 1
 else
 some 0)
 : Option (Int)) >>= fun y8 =>
 (
 m_i_LeadingInt_L2 a0 y8 0
 : Option (Int)) >>= fun y13 =>
 (if b1 = true then
 some (W64 (0 - y13))
 else
 some y13)
theorem ok_i_LeadingInt {a0 : Str} {r : Int} (h : m_i_LeadingInt a0 = some r) : ACall Tryz.prog 162 [.str a0] [] (fun res h => res = .int .i64 r ∧ h = []) := by
 refine vc1 Tryz.func162 ?_
 unfold m_i_LeadingInt at h
 refine .d ?_
 obtain ⟨o2, ho3, hk4⟩ := bd h
 replace h := ho3
 refine .cut (fun σ η => ∃ b1, b1 = o2 ∧ σ = [(0, .str a0), (3, .bool b1)] ∧ η = []) ?_ ?_
 refine sEn h (fun hb5 h => ?_) (fun hb5 h => ?_)
 exact .t (bk h fun c6 hx7 h => ⟨sidx_bd hx7, c6, sidx_at hx7, (.t (.t (ct ⟨_, si h, rfl, rfl⟩ (tk [] ⟨.s, .b, ⟨⟩⟩ ⟨⟩))))⟩)
 exact .f (.f (.f (ct ⟨_, si h, rfl, rfl⟩ (tk [] ⟨.s, .b, ⟨⟩⟩ ⟨⟩))))
 rintro _ _ ⟨b1, rfl, rfl, rfl⟩
 replace h := hk4
 refine .d ?_
 obtain ⟨o9, ho10, hk11⟩ := bd h
 replace h := ho10
 refine .cut (fun σ η => ∃ y8, y8 = o9 ∧ σ = [(0, .str a0), (3, .bool b1), (4, .int .i64 y8)] ∧ η = []) ?_ ?_
 refine .d (sV h (fun hb12 h => ?_) (fun hb12 h => ?_))
 exact ct ⟨_, si h, rfl, rfl⟩ (tk [] ⟨.s, .b, .i, ⟨⟩⟩ ⟨⟩)
 exact ct ⟨_, si h, rfl, rfl⟩ (tk [] ⟨.s, .b, .i, ⟨⟩⟩ ⟨⟩)
 rintro _ _ ⟨y8, rfl, rfl, rfl⟩
 replace h := hk11
 refine .d ?_
 obtain ⟨o14, ho15, hk16⟩ := bd h
 replace h := ho15
 refine .cut (fun σ η => ∃ y13, y13 = o14 ∧ σ = [(3, .bool b1), (5, .int .i64 y13)] ∧ η = []) ?_ ?_
 refine le (m_i_LeadingInt_L2.partial_correctness a0 (motive := fun y17 y18 o31 => o14 = o31 → LoopAt _ _ [(0, .str a0), (3, .bool b1), (4, .int .i64 y17), (5, .int .i64 y18)] []) ?_ y8 0 o14 h rfl) (tk [] ⟨.s, .b, .i, .i, ⟨⟩⟩ ⟨⟩)
 intro F20 ih19 y17 y18 o31 h hr32
 subst hr32
 refine LoopAt.round (.d (.d (sD h (fun hb21 h => ?_) (fun hb21 h => ?_))))
 refine .t (.t (bk h fun c22 hx23 h => ⟨sidx_bd hx23, c22, sidx_at hx23, (.t (bk h fun v24 hv25 h => (pcP (ok_i_isDigit hv25) (.t (sV h (fun hb26 h => ?_) (fun hb26 h => ?_))))))⟩))
 exact .d (bk h fun c27 hx28 h => ⟨sidx_bd hx28, c27, sidx_at hx28, (bk h fun v29 hv30 h => (pcP (ok_i_Min hv30) (lg (ih19 _ _ _ h rfl) (tk [] ⟨.s, .b, .i, .i, ⟨⟩⟩ ⟨⟩))))⟩)
 exact ct ⟨_, si h, rfl, rfl⟩ (tk [] ⟨.b, .i, ⟨⟩⟩ ⟨⟩)
 exact .f (.f (.f (.f (.f (ct ⟨_, si h, rfl, rfl⟩ (tk [] ⟨.b, .i, ⟨⟩⟩ ⟨⟩))))))
 rintro _ _ ⟨y13, rfl, rfl, rfl⟩
 replace h := hk16
 refine .d (.d (sV h (fun hb33 h => ?_) (fun hb33 h => ?_)))
 exact .d (eI h)
 exact .d (eI h)
def m_i_IsNumeric_L2 (s1 : Str) (y17 : Int) (y18 : Int) : Option ((Int) ⊕ Bool) :=
 (if y18 < (s1.length : Int) then
 sidx s1 y18 >>= fun c22 =>
 m_i_isDigit (c22.toNat : Int) >>= fun v24 =>
 (if v24 = true then
 sidx s1 y18 >>= fun c27 =>
 m_i_IsNumeric_L2 s1 (W64 ((W64 (y17 * 10)) + (W64 (IntKind.u8.wrap ((c27.toNat : Int) - 48))))) (W64 (y18 + 1))
 else
 some (.inr false))
 else
 some (.inl y17))
partial_fixpoint
def m_i_IsNumeric (a0 : Str) : Option (Bool) :=
 (
 (if a0 = ([] : Str) then
 some a0
 else
 sidx a0 0 >>= fun c6 =>
 (if (c6.toNat : Int) = 45 then
 sfrom a0 1 >>= fun s9 =>
 some s9
 else
 some a0))
 : Option (Str)) >>= fun s1 =>
 (if (s1.length : Int) < 1 then
 some false
 else
 (if (s1.length : Int) > 10 then
 some false
 else
 ((
 m_i_IsNumeric_L2 s1 0 0
 : Option ((Int) ⊕ Bool)) >>= fun o14 => match o14 with
 | .inr r => some r
 | .inl y13 =>
 some (decide (y13 ≤ 1000000000))
 )))
theorem ok_i_IsNumeric {a0 : Str} {r : Bool} (h : m_i_IsNumeric a0 = some r) : ACall Tryz.prog 161 [.str a0] [] (fun res h => res = .bool r ∧ h = []) := by
 refine vc1 Tryz.func161 ?_
 unfold m_i_IsNumeric at h
 refine .d (.d ?_)
 obtain ⟨o2, ho3, hk4⟩ := bd h
 replace h := ho3
 refine .cut (fun σ η => ∃ s1, s1 = o2 ∧ σ = [(3, .str s1)] ∧ η = []) ?_ ?_
 refine .d (sEn h (fun hb5 h => ?_) (fun hb5 h => ?_))
 refine .t (bk h fun c6 hx7 h => ⟨sidx_bd hx7, c6, sidx_at hx7, (.t (.t (sE h (fun hb8 h => ?_) (fun hb8 h => ?_))))⟩)
 exact bk h fun s9 hx10 h => ⟨sfrom_bd hx10, s9, sfrom_at hx10, (ct ⟨_, si h, rfl, rfl⟩ (tk [] ⟨.s, ⟨⟩⟩ ⟨⟩))⟩
 exact ct ⟨_, si h, rfl, rfl⟩ (tk [] ⟨.s, ⟨⟩⟩ ⟨⟩)
 exact .f (.f (.f (.f (ct ⟨_, si h, rfl, rfl⟩ (tk [] ⟨.s, ⟨⟩⟩ ⟨⟩)))))
 rintro _ _ ⟨s1, rfl, rfl, rfl⟩
 replace h := hk4
 refine .d (.d (sD h (fun hb11 h => ?_) (fun hb11 h => ?_)))
 exact .t (.t (.t (.t (.d (eB h)))))
 refine .f (.f (.f (sD h (fun hb12 h => ?_) (fun hb12 h => ?_))))
 exact .d (eB h)
 refine .d ?_
 obtain ⟨o14, ho15, hk16⟩ := bd h
 replace h := ho15
 refine .cut (fun σ η => ∃ y13, .inl y13 = o14 ∧ σ = [(4, .int .i64 y13)] ∧ η = []) ?_ ?_
 refine .d ?_
 refine le (m_i_IsNumeric_L2.partial_correctness s1 (motive := fun y17 y18 o29 => o14 = o29 → LoopAt _ _ [(3, .str s1), (4, .int .i64 y17), (5, .int .i64 y18)] []) ?_ 0 0 o14 h rfl) (tk [] ⟨.s, .i, .i, ⟨⟩⟩ ⟨⟩)
 intro F20 ih19 y17 y18 o29 h hr30
 subst hr30
 refine LoopAt.round (.d (.d (sD h (fun hb21 h => ?_) (fun hb21 h => ?_))))
 refine .d (.d (.d (bk h fun c22 hx23 h => ⟨sidx_bd hx23, c22, sidx_at hx23, (bk h fun v24 hv25 h => (pcP (ok_i_isDigit hv25) (sVn h (fun hb26 h => ?_) (fun hb26 h => ?_))))⟩)))
 refine .d ?_
 obtain rfl := si h
 replace h := hk16
 exact eB h
 exact bk h fun c27 hx28 h => ⟨sidx_bd hx28, c27, sidx_at hx28, (lg (ih19 _ _ _ h rfl) (tk [] ⟨.s, .i, .i, ⟨⟩⟩ ⟨⟩))⟩
 exact ct ⟨_, si h, rfl, rfl⟩ (tk [] ⟨.i, ⟨⟩⟩ ⟨⟩)
 rintro _ _ ⟨y13, rfl, rfl, rfl⟩
 replace h := hk16
 exact .d (eB h)
def m_i_ToBool (a0 : TValue) : Option (Bool) :=
 (if a0.fKind = 0 then
 some false
 else
 (
 (if a0.fKind = 1 then
 some (a0.fKind == 1)
 else
 some (a0.fKind == 2))
 : Option (Bool)) >>= fun b2 =>
 (if b2 = true then
 some (a0.fNum != 0)
 else
 (if a0.fKind = 3 then
 (if a0.fStr = ([] : Str) then
 some false
 else
 some (!(a0.fStr == ([48] : Str))))
 else
 (if a0.fKind = 4 then
 some (decide ((a0.fItems.length : Int) > 0))
 else
 some true))))
theorem ok_i_ToBool {a0 : TValue} {r : Bool} (h : m_i_ToBool a0 = some r) : ACall Tryz.prog 76 [.agg a0.lit] [] (fun res h => res = .bool r ∧ h = []) := by
 refine vc1 Tryz.func76 ?_
 unfold m_i_ToBool at h
 refine .d (.d (.d ⟨rfl, ⟨rfl, _, rfl, (.d (sE h (fun hb1 h => ?_) (fun hb1 h => ?_)))⟩⟩))
 exact .d (eB h)
 obtain ⟨o3, ho4, hk5⟩ := bd h
 replace h := ho4
 refine .cut (fun σ η => ∃ b2, b2 = o3 ∧ σ = [(1, .optr 0 0 0 0), (4, .int .i64 a0.fKind), (7, .bool b2)] ∧ η = [.row 0 5 1 74 (fun _ => a0.lit)]) ?_ ?_
 refine .d (sE h (fun hb6 h => ?_) (fun hb6 h => ?_))
 exact ct ⟨_, si h, rfl, rfl⟩ (tk [0] ⟨.p, .i, .b, ⟨⟩⟩ ⟨(nbp rfl), ⟨⟩⟩)
 exact ct ⟨_, si h, rfl, rfl⟩ (tk [0] ⟨.p, .i, .b, ⟨⟩⟩ ⟨(nbp rfl), ⟨⟩⟩)
 rintro _ _ ⟨b2, rfl, rfl, rfl⟩
 replace h := hk5
 refine sV h (fun hb7 h => ?_) (fun hb7 h => ?_)
 exact .d ⟨rfl, ⟨rfl, _, rfl, (eB h)⟩⟩
 refine .d (sE h (fun hb8 h => ?_) (fun hb8 h => ?_))
 refine .d ⟨rfl, ⟨rfl, _, rfl, (sEn h (fun hb9 h => ?_) (fun hb9 h => ?_))⟩⟩
 exact ⟨rfl, (.t ⟨rfl, _, rfl, (.t (.t (eB h)))⟩)⟩
 exact .f (.f (.f (eB h)))
 refine .d (sE h (fun hb10 h => ?_) (fun hb10 h => ?_))
 exact .d ⟨rfl, ⟨rfl, _, rfl, (eB h)⟩⟩
 exact .d (eB h)
def m_i_ToInt (a0 : TValue) : Option (Int) :=
 (if a0.fKind = 2 then
 some a0.fNum
 else
 (if a0.fKind = 3 then
 m_i_LeadingInt a0.fStr >>= fun v3 =>
 some v3
 else
 m_i_ToBool a0 >>= fun v5 =>
 (if v5 = true then
 some 1
 else
 some 0)))
theorem ok_i_ToInt {a0 : TValue} {r : Int} (h : m_i_ToInt a0 = some r) : ACall Tryz.prog 160 [.agg a0.lit] [] (fun res h => res = .int .i64 r ∧ h = []) := by
 refine vc1 Tryz.func160 ?_
 unfold m_i_ToInt at h
 refine .d (.d (.d ⟨rfl, ⟨rfl, _, rfl, (.d (sE h (fun hb1 h => ?_) (fun hb1 h => ?_)))⟩⟩))
 exact .d ⟨rfl, ⟨rfl, _, rfl, (eI h)⟩⟩
 refine .d (sE h (fun hb2 h => ?_) (fun hb2 h => ?_))
 exact .d ⟨rfl, ⟨rfl, _, rfl, (bk h fun v3 hv4 h => (pcP (ok_i_LeadingInt hv4) (eI h)))⟩⟩
 refine .d (.d ⟨rfl, _, rfl, (bk h fun v5 hv6 h => (pcP (ok_i_ToBool hv6) (sV h (fun hb7 h => ?_) (fun hb7 h => ?_))))⟩)
 exact .d (eI h)
 exact .d (eI h)
def m_i_ToText (a0 : TValue) : Option (Str × Int) :=
 (if a0.fKind = 0 then
 some ([], 0)
 else
 (if a0.fKind = 1 then
 (if a0.fNum = 0 then
 some ([], 0)
 else
 some ([49], 0))
 else
 (if a0.fKind = 2 then
 m_i_FormatInt a0.fNum >>= fun v5 =>
 some (v5, 0)
 else
 (if a0.fKind = 3 then
 some (a0.fStr, 0)
 else
 some ([], 1)))))
theorem ok_i_ToText {a0 : TValue} {r : Str × Int} (h : m_i_ToText a0 = some r) : ACall Tryz.prog 122 [.agg a0.lit] [] (fun res h => res = .tup [.str r.1, .int .i64 r.2] ∧ h = []) := by
 refine vc1 Tryz.func122 ?_
 unfold m_i_ToText at h
 refine .d (.d (.d ⟨rfl, ⟨rfl, _, rfl, (.d (sE h (fun hb1 h => ?_) (fun hb1 h => ?_)))⟩⟩))
 refine .d ?_
 obtain rfl := si h
 exact en [] ⟨rfl, rfl⟩ (.tup_l ⟨.s, .i, ⟨⟩⟩) ⟨⟩
 refine .d (sE h (fun hb2 h => ?_) (fun hb2 h => ?_))
 refine .d (.d ⟨rfl, ⟨rfl, _, rfl, (sN h (fun hb3 h => ?_) (fun hb3 h => ?_))⟩⟩)
 refine .d ?_
 obtain rfl := si h
 exact en [] ⟨rfl, rfl⟩ (.tup_l ⟨.s, .i, ⟨⟩⟩) ⟨⟩
 refine .d ?_
 obtain rfl := si h
 exact en [] ⟨rfl, rfl⟩ (.tup_l ⟨.s, .i, ⟨⟩⟩) ⟨⟩
 refine .d (sE h (fun hb4 h => ?_) (fun hb4 h => ?_))
 refine .d ⟨rfl, ⟨rfl, _, rfl, (bk h fun v5 hv6 h => (pcP (ok_i_FormatInt hv6) ?_))⟩⟩
 obtain rfl := si h
 exact en [] ⟨rfl, rfl⟩ (.tup_l ⟨.s, .i, ⟨⟩⟩) ⟨⟩
 refine .d (sE h (fun hb7 h => ?_) (fun hb7 h => ?_))
 refine .d ⟨rfl, ⟨rfl, _, rfl, ?_⟩⟩
 obtain rfl := si h
 exact en [] ⟨rfl, rfl⟩ (.tup_l ⟨.s, .i, ⟨⟩⟩) ⟨⟩
 refine .d ?_
 obtain rfl := si h
 exact en [] ⟨rfl, rfl⟩ (.tup_l ⟨.s, .i, ⟨⟩⟩) ⟨⟩
def m_i_ToNumber (a0 : TValue) : Option (Int × Int) :=
 (
 (if a0.fKind = 0 then
 some (a0.fKind == 0)
 else
 (if a0.fKind = 1 then
 some (a0.fKind == 1)
 else
 some (a0.fKind == 2)))
 : Option (Bool)) >>= fun b1 =>
 (if b1 = true then
 m_i_ToInt a0 >>= fun v8 =>
 some (v8, 0)
 else
 (if a0.fKind = 3 then
 m_i_IsNumeric a0.fStr >>= fun v11 =>
 (if v11 = true then
 m_i_LeadingInt a0.fStr >>= fun v14 =>
 some (v14, 0)
 else
 some (0, 2))
 else
 some (0, 2)))
theorem ok_i_ToNumber {a0 : TValue} {r : Int × Int} (h : m_i_ToNumber a0 = some r) : ACall Tryz.prog 126 [.agg a0.lit] [] (fun res h => res = .tup [.int .i64 r.1, .int .i64 r.2] ∧ h = []) := by
 refine vc1 Tryz.func126 ?_
 unfold m_i_ToNumber at h
 refine .d (.d (.d ⟨rfl, ⟨rfl, _, rfl, ?_⟩⟩))
 obtain ⟨o2, ho3, hk4⟩ := bd h
 replace h := ho3
 refine .cut (fun σ η => ∃ b1, b1 = o2 ∧ σ = [(1, .optr 0 0 0 0), (5, .int .i64 a0.fKind), (6, .bool b1)] ∧ η = [.row 0 5 1 74 (fun _ => a0.lit)]) ?_ ?_
 refine .d (sE h (fun hb5 h => ?_) (fun hb5 h => ?_))
 exact ct ⟨_, si h, rfl, rfl⟩ (tk [0] ⟨.p, .i, .b, ⟨⟩⟩ ⟨(nbp rfl), ⟨⟩⟩)
 refine .d (sE h (fun hb6 h => ?_) (fun hb6 h => ?_))
 exact ct ⟨_, si h, rfl, rfl⟩ (tk [0] ⟨.p, .i, .b, ⟨⟩⟩ ⟨(nbp rfl), ⟨⟩⟩)
 exact ct ⟨_, si h, rfl, rfl⟩ (tk [0] ⟨.p, .i, .b, ⟨⟩⟩ ⟨(nbp rfl), ⟨⟩⟩)
 rintro _ _ ⟨b1, rfl, rfl, rfl⟩
 replace h := hk4
 refine sV h (fun hb7 h => ?_) (fun hb7 h => ?_)
 refine .d ⟨rfl, _, rfl, (bk h fun v8 hv9 h => (pcP (ok_i_ToInt hv9) ?_))⟩
 obtain rfl := si h
 exact en [] ⟨rfl, rfl⟩ (.tup_l ⟨.i, .i, ⟨⟩⟩) ⟨⟩
 refine .d (sE h (fun hb10 h => ?_) (fun hb10 h => ?_))
 refine .d ⟨rfl, ⟨rfl, _, rfl, (bk h fun v11 hv12 h => (pcP (ok_i_IsNumeric hv12) (sV h (fun hb13 h => ?_) (fun hb13 h => ?_))))⟩⟩
 refine .d ⟨rfl, ⟨rfl, _, rfl, (bk h fun v14 hv15 h => (pcP (ok_i_LeadingInt hv15) ?_))⟩⟩
 obtain rfl := si h
 exact en [] ⟨rfl, rfl⟩ (.tup_l ⟨.i, .i, ⟨⟩⟩) ⟨⟩
 refine .d ?_
 obtain rfl := si h
 exact en [] ⟨rfl, rfl⟩ (.tup_l ⟨.i, .i, ⟨⟩⟩) ⟨⟩
 refine .d ?_
 obtain rfl := si h
 exact en [] ⟨rfl, rfl⟩ (.tup_l ⟨.i, .i, ⟨⟩⟩) ⟨⟩
def m_s_l8Scan_L2 (a0 : Str) (y14 : Int) (y15 : Int) : Option (Int × Int) :=
 (if y15 < (a0.length : Int) then
 sidx a0 y15 >>= fun c19 =>
 m_s_l1In (W64 ((c19.toNat : Int))) 48 57 >>= fun v21 =>
 (if v21 = true then
 sidx a0 y15 >>= fun c24 =>
 m_s_Min (W64 ((W64 (10 * y14)) + (W64 (IntKind.u8.wrap ((c24.toNat : Int) - 48))))) 1000000001 >>= fun v26 =>
 m_s_l8Scan_L2 a0 v26 (W64 (y15 + 1))
 else
 some (y14, y15))
 else
 some (y14, y15))
partial_fixpoint
def m_s_l8Scan (a0 : Str) : Option (Int × Int) :=
 (
 (if (a0.length : Int) > 0 then
 sidx a0 0 >>= fun c6 =>
 (if (c6.toNat : Int) = 45 then
 some 1
 else
 some 0)
 else
 some 0)
 : Option (Int)) >>= fun y1 =>
 (
 m_s_l8Scan_L2 a0 0 y1
 : Option (Int × Int)) >>= fun (y9, y10) =>
 (if y10 = y1 then
 some (0, 0)
 else
 (if y1 = 1 then
 some (W64 (0 - y9), y10)
 else
 some (y9, y10)))
theorem ok_s_l8Scan {a0 : Str} {r : Int × Int} (h : m_s_l8Scan a0 = some r) : ACall Tryz.prog 169 [.str a0] [] (fun res h => res = .tup [.int .i64 r.1, .int .i64 r.2] ∧ h = []) := by
 refine vc1 Tryz.func169 ?_
 unfold m_s_l8Scan at h
 refine .d (.d ?_)
 obtain ⟨o2, ho3, hk4⟩ := bd h
 replace h := ho3
 refine .cut (fun σ η => ∃ y1, y1 = o2 ∧ σ = [(0, .str a0), (4, .int .i64 y1)] ∧ η = []) ?_ ?_
 refine .d (sD h (fun hb5 h => ?_) (fun hb5 h => ?_))
 refine .t (bk h fun c6 hx7 h => ⟨sidx_bd hx7, c6, sidx_at hx7, (.t (.t (sE h (fun hb8 h => ?_) (fun hb8 h => ?_))))⟩)
 exact ct ⟨_, si h, rfl, rfl⟩ (tk [] ⟨.s, .i, ⟨⟩⟩ ⟨⟩)
 exact ct ⟨_, si h, rfl, rfl⟩ (tk [] ⟨.s, .i, ⟨⟩⟩ ⟨⟩)
 exact .f (.f (.f (.f (ct ⟨_, si h, rfl, rfl⟩ (tk [] ⟨.s, .i, ⟨⟩⟩ ⟨⟩)))))
 rintro _ _ ⟨y1, rfl, rfl, rfl⟩
 replace h := hk4
 refine .d (.d ?_)
 obtain ⟨o11, ho12, hk13⟩ := bd h
 replace h := ho12
 refine .cut (fun σ η => ∃ y9, ∃ y10, (y9, y10) = o11 ∧ σ = [(4, .int .i64 y1), (5, .int .i64 y9), (6, .int .i64 y10)] ∧ η = []) ?_ ?_
 refine le (m_s_l8Scan_L2.partial_correctness a0 (motive := fun y14 y15 o28 => o11 = o28 → LoopAt _ _ [(0, .str a0), (4, .int .i64 y1), (5, .int .i64 y14), (6, .int .i64 y15)] []) ?_ 0 y1 o11 h rfl) (tk [] ⟨.s, .i, .i, .i, ⟨⟩⟩ ⟨⟩)
 intro F17 ih16 y14 y15 o28 h hr29
 subst hr29
 refine LoopAt.round (.d (.d (sD h (fun hb18 h => ?_) (fun hb18 h => ?_))))
 refine .t (.t (bk h fun c19 hx20 h => ⟨sidx_bd hx20, c19, sidx_at hx20, (.t (.t (bk h fun v21 hv22 h => (pcP (ok_s_l1In hv22) (.t (sV h (fun hb23 h => ?_) (fun hb23 h => ?_)))))))⟩))
 exact .d (bk h fun c24 hx25 h => ⟨sidx_bd hx25, c24, sidx_at hx25, (bk h fun v26 hv27 h => (pcP (ok_s_Min hv27) (lg (ih16 _ _ _ h rfl) (tk [] ⟨.s, .i, .i, .i, ⟨⟩⟩ ⟨⟩))))⟩)
 exact ct ⟨_, _, si h, rfl, rfl⟩ (tk [] ⟨.i, .i, .i, ⟨⟩⟩ ⟨⟩)
 exact .f (.f (.f (.f (.f (.f (ct ⟨_, _, si h, rfl, rfl⟩ (tk [] ⟨.i, .i, .i, ⟨⟩⟩ ⟨⟩)))))))
 rintro _ _ ⟨y9, y10, rfl, rfl, rfl⟩
 replace h := hk13
 refine .d (.d (sE h (fun hb30 h => ?_) (fun hb30 h => ?_)))
 refine .d ?_
 obtain rfl := si h
 exact en [] ⟨rfl, rfl⟩ (.tup_l ⟨.i, .i, ⟨⟩⟩) ⟨⟩
 refine .d (.d (sE h (fun hb31 h => ?_) (fun hb31 h => ?_)))
 refine .d ?_
 obtain rfl := si h
 exact en [] ⟨rfl, rfl⟩ (.tup_l ⟨.i, .i, ⟨⟩⟩) ⟨⟩
 refine .d ?_
 obtain rfl := si h
 exact en [] ⟨rfl, rfl⟩ (.tup_l ⟨.i, .i, ⟨⟩⟩) ⟨⟩
def m_s_LeadingInt (a0 : Str) : Option (Int) :=
 m_s_l8Scan a0 >>= fun (v1, v2) =>
 m_s_Min 1000000000 v1 >>= fun v4 =>
 m_s_Max (-1000000000) v4 >>= fun v6 =>
 some v6
theorem ok_s_LeadingInt {a0 : Str} {r : Int} (h : m_s_LeadingInt a0 = some r) : ACall Tryz.prog 142 [.str a0] [] (fun res h => res = .int .i64 r ∧ h = []) := by
 refine vc1 Tryz.func142 ?_
 unfold m_s_LeadingInt at h
 refine .d (.d ?_)
 obtain ⟨⟨v1, v2⟩, hv3, h⟩ := bd h
 exact pcP (ok_s_l8Scan hv3) (.d (bk h fun v4 hv5 h => (pcP (ok_s_Min hv5) (bk h fun v6 hv7 h => (pcP (ok_s_Max hv7) (eI h))))))
def m_s_IsNumeric (a0 : Str) : Option (Bool) :=
 m_s_l8Scan a0 >>= fun (v1, v2) =>
 (if v2 > 0 then
 (if v2 = (a0.length : Int) then
 m_s_l1In v1 (-1000000000) 1000000000 >>= fun v6 =>
 (if v6 = true then
 (if v2 ≤ 10 then
 some true
 else
 (if v2 = 11 then
 sidx a0 0 >>= fun c11 =>
 some ((c11.toNat : Int) == 45)
 else
 some false))
 else
 some false)
 else
 some false)
 else
 some false)
theorem ok_s_IsNumeric {a0 : Str} {r : Bool} (h : m_s_IsNumeric a0 = some r) : ACall Tryz.prog 141 [.str a0] [] (fun res h => res = .bool r ∧ h = []) := by
 refine vc1 Tryz.func141 ?_
 unfold m_s_IsNumeric at h
 refine .d (.d ?_)
 obtain ⟨⟨v1, v2⟩, hv3, h⟩ := bd h
 refine pcP (ok_s_l8Scan hv3) (.d (sD h (fun hb4 h => ?_) (fun hb4 h => ?_)))
 refine .t (.t (.t (.t (sE h (fun hb5 h => ?_) (fun hb5 h => ?_)))))
 refine .t (bk h fun v6 hv7 h => (pcP (ok_s_l1In hv7) (.t (sV h (fun hb8 h => ?_) (fun hb8 h => ?_)))))
 refine .t (.t (sD h (fun hb9 h => ?_) (fun hb9 h => ?_)))
 exact .t (.t (.t (.t (.t (.t (eB h))))))
 refine .f (.f (sE h (fun hb10 h => ?_) (fun hb10 h => ?_)))
 exact .t (bk h fun c11 hx12 h => ⟨sidx_bd hx12, c11, sidx_at hx12, (.t (.f (.t (.t (.f (.t (eB h)))))))⟩)
 exact .f (.f (.f (.f (.t (.f (.t (eB h)))))))
 exact .f (.f (.f (.f (eB h))))
 exact .f (.f (.f (.f (.f (.f (.f (eB h)))))))
 exact .f (.f (.f (.f (.f (.f (.f (.f (.f (.f (.f (.f (eB h))))))))))))
def m_s_ToBool (a0 : TValue) : Option (Bool) :=
 (if a0.fKind = 0 then
 some false
 else
 (
 (if a0.fKind = 1 then
 some (a0.fKind == 1)
 else
 some (a0.fKind == 2))
 : Option (Bool)) >>= fun b2 =>
 (if b2 = true then
 some (a0.fNum != 0)
 else
 (if a0.fKind = 3 then
 (if a0.fStr = ([] : Str) then
 some false
 else
 some (!(a0.fStr == ([48] : Str))))
 else
 (if a0.fKind = 4 then
 some (decide ((a0.fItems.length : Int) > 0))
 else
 some true))))
theorem ok_s_ToBool {a0 : TValue} {r : Bool} (h : m_s_ToBool a0 = some r) : ACall Tryz.prog 57 [.agg a0.lit] [] (fun res h => res = .bool r ∧ h = []) := by
 refine vc1 Tryz.func57 ?_
 unfold m_s_ToBool at h
 refine .d (.d (.d ⟨rfl, ⟨rfl, _, rfl, (.d (sE h (fun hb1 h => ?_) (fun hb1 h => ?_)))⟩⟩))
 exact .d (eB h)
 obtain ⟨o3, ho4, hk5⟩ := bd h
 replace h := ho4
 refine .cut (fun σ η => ∃ b2, b2 = o3 ∧ σ = [(1, .optr 0 0 0 0), (4, .int .i64 a0.fKind), (7, .bool b2)] ∧ η = [.row 0 5 1 74 (fun _ => a0.lit)]) ?_ ?_
 refine .d (sE h (fun hb6 h => ?_) (fun hb6 h => ?_))
 exact ct ⟨_, si h, rfl, rfl⟩ (tk [0] ⟨.p, .i, .b, ⟨⟩⟩ ⟨(nbp rfl), ⟨⟩⟩)
 exact ct ⟨_, si h, rfl, rfl⟩ (tk [0] ⟨.p, .i, .b, ⟨⟩⟩ ⟨(nbp rfl), ⟨⟩⟩)
 rintro _ _ ⟨b2, rfl, rfl, rfl⟩
 replace h := hk5
 refine sV h (fun hb7 h => ?_) (fun hb7 h => ?_)
 exact .d ⟨rfl, ⟨rfl, _, rfl, (eB h)⟩⟩
 refine .d (sE h (fun hb8 h => ?_) (fun hb8 h => ?_))
 refine .d ⟨rfl, ⟨rfl, _, rfl, (sEn h (fun hb9 h => ?_) (fun hb9 h => ?_))⟩⟩
 exact ⟨rfl, (.t ⟨rfl, _, rfl, (.t (.t (eB h)))⟩)⟩
 exact .f (.f (.f (eB h)))
 refine .d (sE h (fun hb10 h => ?_) (fun hb10 h => ?_))
 exact .d ⟨rfl, ⟨rfl, _, rfl, (eB h)⟩⟩
 exact .d (eB h)
def m_s_ToInt (a0 : TValue) : Option (Int) :=
 (if a0.fKind = 2 then
 some a0.fNum
 else
 (if a0.fKind = 3 then
 m_s_LeadingInt a0.fStr >>= fun v3 =>
 some v3
 else
 m_s_ToBool a0 >>= fun v5 =>
 (if v5 = true then
 some 1
 else
 some 0)))
theorem ok_s_ToInt {a0 : TValue} {r : Int} (h : m_s_ToInt a0 = some r) : ACall Tryz.prog 140 [.agg a0.lit] [] (fun res h => res = .int .i64 r ∧ h = []) := by
 refine vc1 Tryz.func140 ?_
 unfold m_s_ToInt at h
 refine .d (.d (.d ⟨rfl, ⟨rfl, _, rfl, (.d (sE h (fun hb1 h => ?_) (fun hb1 h => ?_)))⟩⟩))
 exact .d ⟨rfl, ⟨rfl, _, rfl, (eI h)⟩⟩
 refine .d (sE h (fun hb2 h => ?_) (fun hb2 h => ?_))
 exact .d ⟨rfl, ⟨rfl, _, rfl, (bk h fun v3 hv4 h => (pcP (ok_s_LeadingInt hv4) (eI h)))⟩⟩
 refine .d (.d ⟨rfl, _, rfl, (bk h fun v5 hv6 h => (pcP (ok_s_ToBool hv6) (sV h (fun hb7 h => ?_) (fun hb7 h => ?_))))⟩)
 exact .d (eI h)
 exact .d (eI h)
def m_s_ToText (a0 : TValue) : Option (Str × Int) :=
 (if a0.fKind = 0 then
 some ([], 0)
 else
 (if a0.fKind = 1 then
 (if a0.fNum = 0 then
 some ([], 0)
 else
 some ([49], 0))
 else
 (if a0.fKind = 2 then
 m94 a0.fNum >>= fun v5 =>
 some (v5, 0)
 else
 (if a0.fKind = 3 then
 some (a0.fStr, 0)
 else
 some ([], 1)))))
theorem ok_s_ToText {a0 : TValue} {r : Str × Int} (h : m_s_ToText a0 = some r) : ACall Tryz.prog 136 [.agg a0.lit] [] (fun res h => res = .tup [.str r.1, .int .i64 r.2] ∧ h = []) := by
 refine vc1 Tryz.func136 ?_
 unfold m_s_ToText at h
 refine .d (.d (.d ⟨rfl, ⟨rfl, _, rfl, (.d (sE h (fun hb1 h => ?_) (fun hb1 h => ?_)))⟩⟩))
 refine .d ?_
 obtain rfl := si h
 exact en [] ⟨rfl, rfl⟩ (.tup_l ⟨.s, .i, ⟨⟩⟩) ⟨⟩
 refine .d (sE h (fun hb2 h => ?_) (fun hb2 h => ?_))
 refine .d (.d ⟨rfl, ⟨rfl, _, rfl, (sN h (fun hb3 h => ?_) (fun hb3 h => ?_))⟩⟩)
 refine .d ?_
 obtain rfl := si h
 exact en [] ⟨rfl, rfl⟩ (.tup_l ⟨.s, .i, ⟨⟩⟩) ⟨⟩
 refine .d ?_
 obtain rfl := si h
 exact en [] ⟨rfl, rfl⟩ (.tup_l ⟨.s, .i, ⟨⟩⟩) ⟨⟩
 refine .d (sE h (fun hb4 h => ?_) (fun hb4 h => ?_))
 refine .d ⟨rfl, ⟨rfl, _, rfl, (bk h fun v5 hv6 h => (pcP (ok94 hv6) ?_))⟩⟩
 obtain rfl := si h
 exact en [] ⟨rfl, rfl⟩ (.tup_l ⟨.s, .i, ⟨⟩⟩) ⟨⟩
 refine .d (sE h (fun hb7 h => ?_) (fun hb7 h => ?_))
 refine .d ⟨rfl, ⟨rfl, _, rfl, ?_⟩⟩
 obtain rfl := si h
 exact en [] ⟨rfl, rfl⟩ (.tup_l ⟨.s, .i, ⟨⟩⟩) ⟨⟩
 refine .d ?_
 obtain rfl := si h
 exact en [] ⟨rfl, rfl⟩ (.tup_l ⟨.s, .i, ⟨⟩⟩) ⟨⟩
def m_s_ToNumber (a0 : TValue) : Option (Int × Int) :=
 m_s_l1In a0.fKind 0 2 >>= fun v1 =>
 (if v1 = true then
 m_s_ToInt a0 >>= fun v4 =>
 some (v4, 0)
 else
 (if a0.fKind = 3 then
 m_s_IsNumeric a0.fStr >>= fun v7 =>
 (if v7 = true then
 m_s_LeadingInt a0.fStr >>= fun v10 =>
 some (v10, 0)
 else
 some (0, 2))
 else
 some (0, 2)))
theorem ok_s_ToNumber {a0 : TValue} {r : Int × Int} (h : m_s_ToNumber a0 = some r) : ACall Tryz.prog 103 [.agg a0.lit] [] (fun res h => res = .tup [.int .i64 r.1, .int .i64 r.2] ∧ h = []) := by
 refine vc1 Tryz.func103 ?_
 unfold m_s_ToNumber at h
 refine .d (.d (.d ⟨rfl, ⟨rfl, _, rfl, (bk h fun v1 hv2 h => (pcP (ok_s_l1In hv2) (sV h (fun hb3 h => ?_) (fun hb3 h => ?_))))⟩⟩))
 refine .d ⟨rfl, _, rfl, (bk h fun v4 hv5 h => (pcP (ok_s_ToInt hv5) ?_))⟩
 obtain rfl := si h
 exact en [] ⟨rfl, rfl⟩ (.tup_l ⟨.i, .i, ⟨⟩⟩) ⟨⟩
 refine .d ⟨rfl, ⟨rfl, _, rfl, (sE h (fun hb6 h => ?_) (fun hb6 h => ?_))⟩⟩
 refine ⟨rfl, (.t ⟨rfl, _, rfl, (.t (bk h fun v7 hv8 h => (pcP (ok_s_IsNumeric hv8) (.t (sV h (fun hb9 h => ?_) (fun hb9 h => ?_))))))⟩)⟩
 refine .d ⟨rfl, ⟨rfl, _, rfl, (bk h fun v10 hv11 h => (pcP (ok_s_LeadingInt hv11) ?_))⟩⟩
 obtain rfl := si h
 exact en [] ⟨rfl, rfl⟩ (.tup_l ⟨.i, .i, ⟨⟩⟩) ⟨⟩
 refine .d ?_
 obtain rfl := si h
 exact en [] ⟨rfl, rfl⟩ (.tup_l ⟨.i, .i, ⟨⟩⟩) ⟨⟩
 refine .f (.f (.f (.f (.d ?_))))
 obtain rfl := si h
 exact en [] ⟨rfl, rfl⟩ (.tup_l ⟨.i, .i, ⟨⟩⟩) ⟨⟩
def m_s_l9Bit (a0 : TValue) : Option (Int) :=
 m_s_ToBool a0 >>= fun v1 =>
 (if v1 = true then
 some 1
 else
 some 0)
theorem ok_s_l9Bit {a0 : TValue} {r : Int} (h : m_s_l9Bit a0 = some r) : ACall Tryz.prog 105 [.agg a0.lit] [] (fun res h => res = .int .i64 r ∧ h = []) := by
 refine vc1 Tryz.func105 ?_
 unfold m_s_l9Bit at h
 refine .d (.d (.d ⟨rfl, _, rfl, (bk h fun v1 hv2 h => (pcP (ok_s_ToBool hv2) (sV h (fun hb3 h => ?_) (fun hb3 h => ?_))))⟩))
 exact .d (eI h)
 exact .d (eI h)
def m_s_l5Find_L2 (a0 : TValue) (a1 : TKey) (y4 : Int) : Option ((Unit) ⊕ Int) :=
 (if a0.fKind = 4 then
 (if y4 < (a0.fItems.length : Int) then
 idx a0.fItems y4 >>= fun x9 =>
 (if x9.fKey = a1 then
 some (.inr y4)
 else
 m_s_l5Find_L2 a0 a1 (W64 (y4 + 1)))
 else
 some (.inl ()))
 else
 some (.inl ()))
partial_fixpoint
def m_s_l5Find (a0 : TValue) (a1 : TKey) : Option (Int) :=
 ((
 m_s_l5Find_L2 a0 a1 0
 : Option ((Unit) ⊕ Int)) >>= fun o1 => match o1 with
 | .inr r => some r
 | .inl _ =>
 some (-1)
 )
theorem ok_s_l5Find {a0 : TValue} {a1 : TKey} {r : Int} (h : m_s_l5Find a0 a1 = some r) : ACall Tryz.prog 165 [.agg a0.lit, .agg a1.lit] [] (fun res h => res = .int .i64 r ∧ h = []) := by
 refine vc1 Tryz.func165 ?_
 unfold m_s_l5Find at h
 refine .d ?_
 obtain ⟨o1, ho2, hk3⟩ := bd h
 replace h := ho2
 refine .cut (fun σ η => .inl () = o1 ∧ σ = [] ∧ η = []) ?_ ?_
 refine .d ?_
 refine le (m_s_l5Find_L2.partial_correctness a0 a1 (motive := fun y4 o12 => o1 = o12 → LoopAt _ _ [(2, .optr 0 0 0 0), (3, .optr 1 0 0 0), (5, .int .i64 y4)] [.row 0 5 1 74 (fun _ => a0.lit), .row 0 3 1 130 (fun _ => a1.lit)]) ?_ 0 o1 h rfl) (tk [0, 1] ⟨.p, .p, .i, ⟨⟩⟩ ⟨(nbp rfl), (nbp rfl), ⟨⟩⟩)
 intro F6 ih5 y4 o12 h hr13
 subst hr13
 refine LoopAt.round (.d (.d ⟨rfl, ⟨rfl, _, rfl, (sE h (fun hb7 h => ?_) (fun hb7 h => ?_))⟩⟩))
 refine .t ⟨rfl, (.t ⟨rfl, _, rfl, (.t (.t (.t (sD h (fun hb8 h => ?_) (fun hb8 h => ?_)))))⟩)⟩
 refine .d (.d ⟨rfl, ⟨rfl, _, rfl, (bk h fun x9 hx10 h => ⟨idx_bd hx10, _, (idx_row hx10).trans (TEntry.cells_eq x9), ⟨rfl, _, rfl, ⟨_, TKey.eq_cells x9.fKey a1, (sD h (fun hb11 h => ?_) (fun hb11 h => ?_))⟩⟩⟩)⟩⟩)
 refine .d ?_
 obtain rfl := si h
 replace h := hk3
 exact eI h
 exact lg (ih5 _ _ h rfl) (tk [0, 1] ⟨.p, .p, .i, ⟨⟩⟩ ⟨(nbp rfl), (nbp rfl), ⟨⟩⟩)
 exact ct ⟨si h, rfl, rfl⟩ (tk [] ⟨⟩ ⟨⟩)
 exact .f (.f (.f (.f (.f (.f (ct ⟨si h, rfl, rfl⟩ (tk [] ⟨⟩ ⟨⟩)))))))
 rintro _ _ ⟨rfl, rfl, rfl⟩
 replace h := hk3
 exact .d (eI h)
def m_i_FindKey_L2 (a0 : TValue) (a1 : TKey) (y5 : Int) : Option ((Unit) ⊕ Int) :=
 (if y5 < (a0.fItems.length : Int) then
 idx a0.fItems y5 >>= fun x9 =>
 (if x9.fKey = a1 then
 some (.inr y5)
 else
 m_i_FindKey_L2 a0 a1 (W64 (y5 + 1)))
 else
 some (.inl ()))
partial_fixpoint
def m_i_FindKey (a0 : TValue) (a1 : TKey) : Option (Int) :=
 (if a0.fKind = 4 then
 ((
 m_i_FindKey_L2 a0 a1 0
 : Option ((Unit) ⊕ Int)) >>= fun o2 => match o2 with
 | .inr r => some r
 | .inl _ =>
 some (-1)
 )
 else
 some (-1))
theorem ok_i_FindKey {a0 : TValue} {a1 : TKey} {r : Int} (h : m_i_FindKey a0 a1 = some r) : ACall Tryz.prog 152 [.agg a0.lit, .agg a1.lit] [] (fun res h => res = .int .i64 r ∧ h = []) := by
 refine vc1 Tryz.func152 ?_
 unfold m_i_FindKey at h
 refine .d (.d (.d ⟨rfl, ⟨rfl, _, rfl, (sN h (fun hb1 h => ?_) (fun hb1 h => ?_))⟩⟩))
 exact .d (eI h)
 obtain ⟨o2, ho3, hk4⟩ := bd h
 replace h := ho3
 refine .cut (fun σ η => .inl () = o2 ∧ σ = [] ∧ η = []) ?_ ?_
 refine .d ⟨rfl, ⟨rfl, _, rfl, ?_⟩⟩
 refine le (m_i_FindKey_L2.partial_correctness a0 a1 (motive := fun y5 o12 => o2 = o12 → LoopAt _ _ [(3, .optr 0 0 0 0), (11, sl 8 TEntry.cells a0.fItems), (12, .int .i64 (a0.fItems.length : Int)), (13, .int .i64 y5)] [.row 0 3 1 130 (fun _ => a1.lit)]) ?_ 0 o2 h rfl) (tk [1] ⟨.p, .l, .i, .i, ⟨⟩⟩ ⟨(nbp rfl), ⟨⟩⟩)
 intro F7 ih6 y5 o12 h hr13
 subst hr13
 refine LoopAt.round (.d (.d (sD h (fun hb8 h => ?_) (fun hb8 h => ?_))))
 refine .d (.d (bk h fun x9 hx10 h => ⟨idx_bd hx10, _, (idx_row hx10).trans (TEntry.cells_eq x9), ⟨rfl, _, fun _ => [.bool x9.fKey.fText, .int .i64 x9.fKey.fNum, .str x9.fKey.fStr, .int .i64 x9.fVal.fKind, .int .i64 x9.fVal.fNum, .str x9.fVal.fStr, .int .i64 x9.fVal.fNext, sl 8 TEntry.cells x9.fVal.fItems], rfl, one_set rfl, (.d ⟨rfl, ⟨rfl, _, rfl, ⟨rfl, _, rfl, ⟨_, TKey.eq_cells x9.fKey a1, (sD h (fun hb11 h => ?_) (fun hb11 h => ?_))⟩⟩⟩⟩)⟩⟩))
 refine .d ?_
 obtain rfl := si h
 replace h := hk4
 exact eI h
 exact lg (ih6 _ _ h rfl) (tk [0] ⟨.p, .l, .i, .i, ⟨⟩⟩ ⟨(nbp rfl), ⟨⟩⟩)
 exact ct ⟨si h, rfl, rfl⟩ (tk [] ⟨⟩ ⟨⟩)
 rintro _ _ ⟨rfl, rfl, rfl⟩
 replace h := hk4
 exact .d (eI h)
def m_s_l6Get (a0 : TValue) (a1 : TKey) : Option (TValue × Bool) :=
 m_s_l5Find a0 a1 >>= fun v1 =>
 (if v1 < 0 then
 some ((TValue.mk 0 0 [] 0 []), false)
 else
 idx a0.fItems v1 >>= fun x4 =>
 some (x4.fVal, true))
theorem ok_s_l6Get {a0 : TValue} {a1 : TKey} {r : TValue × Bool} (h : m_s_l6Get a0 a1 = some r) : ACall Tryz.prog 168 [.agg a0.lit, .agg a1.lit] [] (fun res h => res = .tup [.agg r.1.lit, .bool r.2] ∧ h = []) := by
 refine vc1 Tryz.func168 ?_
 unfold m_s_l6Get at h
 refine .d (.d ⟨rfl, _, rfl, ⟨rfl, _, rfl, (bk h fun v1 hv2 h => (pcP (ok_s_l5Find hv2) (.d (.d (sD h (fun hb3 h => ?_) (fun hb3 h => ?_))))))⟩⟩)
 refine .d ⟨rfl, _, fun _ => [.int .i64 0, .int .i64 0, .str [], .int .i64 0, .nils], rfl, one_set rfl, ?_⟩
 obtain rfl := si h
 exact ⟨rfl, _, rfl, (en [] ⟨rfl, rfl⟩ (.tup_l ⟨.agg_l ⟨.i, .i, .s, .i, .z, ⟨⟩⟩, .b, ⟨⟩⟩) ⟨⟩)⟩
 refine .d ⟨rfl, ⟨rfl, _, rfl, (bk h fun x4 hx5 h => ⟨idx_bd hx5, _, (idx_row hx5).trans (TEntry.cells_eq x4), ⟨rfl, _, fun _ => [.int .i64 x4.fVal.fKind, .int .i64 x4.fVal.fNum, .str x4.fVal.fStr, .int .i64 x4.fVal.fNext, sl 8 TEntry.cells x4.fVal.fItems], rfl, one_set rfl, ?_⟩⟩)⟩⟩
 obtain rfl := si h
 exact ⟨rfl, _, rfl, (en [] ⟨rfl, rfl⟩ (.tup_l ⟨.agg_l ⟨.i, .i, .s, .i, .l, ⟨⟩⟩, .b, ⟨⟩⟩) ⟨⟩)⟩
end Go.Am
