/- Models of Go functions, and their walks. (Printed by tools/mg.py.) -/
import Derived.Test.YtginnmdpdgeinaaGreatDoorTy
set_option linter.unusedVariables false
set_option linter.unusedSimpArgs false
namespace Go.Am
open Go Go.RowKit Go.Proofs
def m_i_InRange (a0 : Int) (a1 : Int) (a2 : Int) : Option (Bool) :=
 (if a1 ≤ a0 then
 some (decide (a0 ≤ a2))
 else
 some false)
theorem ok_i_InRange {a0 : Int} {a1 : Int} {a2 : Int} {r : Bool} (h : m_i_InRange a0 a1 a2 = some r) : ACall Tryz.prog 64 [.int .i64 a0, .int .i64 a1, .int .i64 a2] [] (fun res h => res = .bool r ∧ h = []) := by
 refine vc1 Tryz.func64 ?_
 unfold m_i_InRange at h
 refine .d (.d (sD h (fun hb1 h => ?_) (fun hb1 h => ?_)))
 exact .t (.t (.t (eB h)))
 exact .f (.f (.f (eB h)))
def m_i_isLetter (a0 : Int) : Option (Bool) :=
 (if a0 ≥ 65 then
 (if a0 ≤ 90 then
 some true
 else
 (if a0 ≥ 97 then
 some (decide (a0 ≤ 122))
 else
 some false))
 else
 (if a0 ≥ 97 then
 some (decide (a0 ≤ 122))
 else
 some false))
theorem ok_i_isLetter {a0 : Int} {r : Bool} (h : m_i_isLetter a0 = some r) : ACall Tryz.prog 171 [.int .u8 a0] [] (fun res h => res = .bool r ∧ h = []) := by
 refine vc1 Tryz.func171 ?_
 unfold m_i_isLetter at h
 refine .d (.d (sD h (fun hb1 h => ?_) (fun hb1 h => ?_)))
 refine .t (.t (sD h (fun hb2 h => ?_) (fun hb2 h => ?_)))
 exact .t (.t (.t (.t (eB h))))
 refine .f (.f (sD h (fun hb3 h => ?_) (fun hb3 h => ?_)))
 exact .t (.f (.t (.f (eB h))))
 exact .f (.f (.f (.f (eB h))))
 refine .f (.f (.f (.f (.f (sD h (fun hb4 h => ?_) (fun hb4 h => ?_))))))
 exact .t (.f (.t (.f (eB h))))
 exact .f (.f (.f (.f (eB h))))
def m_i_isDigit (a0 : Int) : Option (Bool) :=
 (if a0 ≥ 48 then
 some (decide (a0 ≤ 57))
 else
 some false)
theorem ok_i_isDigit {a0 : Int} {r : Bool} (h : m_i_isDigit a0 = some r) : ACall Tryz.prog 172 [.int .u8 a0] [] (fun res h => res = .bool r ∧ h = []) := by
 refine vc1 Tryz.func172 ?_
 unfold m_i_isDigit at h
 refine .d (.d (sD h (fun hb1 h => ?_) (fun hb1 h => ?_)))
 exact .t (.t (eB h))
 exact .f (.f (eB h))
def m_s_l1In (a0 : Int) (a1 : Int) (a2 : Int) : Option (Bool) :=
 (if a0 ≥ a1 then
 some (decide (a0 ≤ a2))
 else
 some false)
theorem ok_s_l1In {a0 : Int} {a1 : Int} {a2 : Int} {r : Bool} (h : m_s_l1In a0 a1 a2 = some r) : ACall Tryz.prog 51 [.int .i64 a0, .int .i64 a1, .int .i64 a2] [] (fun res h => res = .bool r ∧ h = []) := by
 refine vc1 Tryz.func51 ?_
 unfold m_s_l1In at h
 refine .d (.d (sD h (fun hb1 h => ?_) (fun hb1 h => ?_)))
 exact .t (.t (.t (eB h)))
 exact .f (.f (.f (eB h)))
def m_s_l14Letter (a0 : Int) : Option (Bool) :=
 m_s_l1In (W64 (a0)) 97 122 >>= fun v1 =>
 (if v1 = true then
 some true
 else
 m_s_l1In (W64 (a0)) 65 90 >>= fun v4 =>
 (if v4 = true then
 some true
 else
 some (a0 == 95)))
theorem ok_s_l14Letter {a0 : Int} {r : Bool} (h : m_s_l14Letter a0 = some r) : ACall Tryz.prog 189 [.int .u8 a0] [] (fun res h => res = .bool r ∧ h = []) := by
 refine vc1 Tryz.func189 ?_
 unfold m_s_l14Letter at h
 refine .d (.d (bk h fun v1 hv2 h => (pcP (ok_s_l1In hv2) (sV h (fun hb3 h => ?_) (fun hb3 h => ?_)))))
 exact .t (.t (.t (.t (.t (.t (eB h))))))
 refine .f (.f (bk h fun v4 hv5 h => (pcP (ok_s_l1In hv5) (.f (sV h (fun hb6 h => ?_) (fun hb6 h => ?_))))))
 exact .t (.t (eB h))
 exact .f (.f (eB h))
def m_s_l14Digit (a0 : Int) : Option (Bool) :=
 m_s_l1In (W64 (a0)) 48 57 >>= fun v1 =>
 some v1
theorem ok_s_l14Digit {a0 : Int} {r : Bool} (h : m_s_l14Digit a0 = some r) : ACall Tryz.prog 190 [.int .u8 a0] [] (fun res h => res = .bool r ∧ h = []) := by
 refine vc1 Tryz.func190 ?_
 unfold m_s_l14Digit at h
 exact .d (.d (bk h fun v1 hv2 h => (pcP (ok_s_l1In hv2) (eB h))))
def m_i_nameLength_L2 (a0 : Str) (y5 : Int) : Option (Int) :=
 (if y5 < (a0.length : Int) then
 sidx a0 y5 >>= fun c9 =>
 m_i_isLetter (c9.toNat : Int) >>= fun v11 =>
 (if v11 = true then
 m_i_nameLength_L2 a0 (W64 (y5 + 1))
 else
 sidx a0 y5 >>= fun c14 =>
 (if (c14.toNat : Int) = 95 then
 m_i_nameLength_L2 a0 (W64 (y5 + 1))
 else
 (if y5 > 0 then
 sidx a0 y5 >>= fun c18 =>
 m_i_isDigit (c18.toNat : Int) >>= fun v20 =>
 (if v20 = true then
 m_i_nameLength_L2 a0 (W64 (y5 + 1))
 else
 some y5)
 else
 some y5)))
 else
 some y5)
partial_fixpoint
def m_i_nameLength (a0 : Str) : Option (Int) :=
 (
 m_i_nameLength_L2 a0 0
 : Option (Int)) >>= fun y1 =>
 some y1
theorem ok_i_nameLength {a0 : Str} {r : Int} (h : m_i_nameLength a0 = some r) : ACall Tryz.prog 143 [.str a0] [] (fun res h => res = .int .i64 r ∧ h = []) := by
 refine vc1 Tryz.func143 ?_
 unfold m_i_nameLength at h
 refine .d (.d ?_)
 obtain ⟨o2, ho3, hk4⟩ := bd h
 replace h := ho3
 refine .cut (fun σ η => ∃ y1, y1 = o2 ∧ σ = [(3, .int .i64 y1)] ∧ η = []) ?_ ?_
 refine le (m_i_nameLength_L2.partial_correctness a0 (motive := fun y5 o23 => o2 = o23 → LoopAt _ _ [(0, .str a0), (3, .int .i64 y5)] []) ?_ 0 o2 h rfl) (tk [] ⟨.s, .i, ⟨⟩⟩ ⟨⟩)
 intro F7 ih6 y5 o23 h hr24
 subst hr24
 refine LoopAt.round (.d (.d (sD h (fun hb8 h => ?_) (fun hb8 h => ?_))))
 refine .t (.t (bk h fun c9 hx10 h => ⟨sidx_bd hx10, c9, sidx_at hx10, (.t (bk h fun v11 hv12 h => (pcP (ok_i_isLetter hv12) (.t (sV h (fun hb13 h => ?_) (fun hb13 h => ?_))))))⟩))
 exact .t (.t (.t (.t (.t (.t (.t (.t (.t (.t (.t (.t (.t (.t (lg (ih6 _ _ h rfl) (tk [] ⟨.s, .i, ⟨⟩⟩ ⟨⟩)))))))))))))))
 refine .f (.f (bk h fun c14 hx15 h => ⟨sidx_bd hx15, c14, sidx_at hx15, (.f (.t (.f (.t (sE h (fun hb16 h => ?_) (fun hb16 h => ?_))))))⟩))
 exact .t (.t (.t (.t (.t (.t (.t (lg (ih6 _ _ h rfl) (tk [] ⟨.s, .i, ⟨⟩⟩ ⟨⟩))))))))
 refine .f (.f (sD h (fun hb17 h => ?_) (fun hb17 h => ?_)))
 refine .t (.t (bk h fun c18 hx19 h => ⟨sidx_bd hx19, c18, sidx_at hx19, (.t (bk h fun v20 hv21 h => (pcP (ok_i_isDigit hv21) (.f (.t (.t (.f (.t (sV h (fun hb22 h => ?_) (fun hb22 h => ?_))))))))))⟩))
 exact lg (ih6 _ _ h rfl) (tk [] ⟨.s, .i, ⟨⟩⟩ ⟨⟩)
 exact ct ⟨_, si h, rfl, rfl⟩ (tk [] ⟨.i, ⟨⟩⟩ ⟨⟩)
 exact .f (.f (.f (.f (.f (.t (.f (.t (.f (ct ⟨_, si h, rfl, rfl⟩ (tk [] ⟨.i, ⟨⟩⟩ ⟨⟩))))))))))
 exact .f (.f (.f (.f (.f (.f (.f (.f (.f (ct ⟨_, si h, rfl, rfl⟩ (tk [] ⟨.i, ⟨⟩⟩ ⟨⟩))))))))))
 rintro _ _ ⟨y1, rfl, rfl, rfl⟩
 replace h := hk4
 exact .d (eI h)
def m_i_IsName (a0 : Str) : Option (Bool) :=
 (if (a0.length : Int) ≤ 20 then
 m_i_nameLength a0 >>= fun v2 =>
 (if v2 = (a0.length : Int) then
 some (!(a0 == ([] : Str)))
 else
 some false)
 else
 some false)
theorem ok_i_IsName {a0 : Str} {r : Bool} (h : m_i_IsName a0 = some r) : ACall Tryz.prog 106 [.str a0] [] (fun res h => res = .bool r ∧ h = []) := by
 refine vc1 Tryz.func106 ?_
 unfold m_i_IsName at h
 refine .d (.d (sD h (fun hb1 h => ?_) (fun hb1 h => ?_)))
 refine .t (bk h fun v2 hv3 h => (pcP (ok_i_nameLength hv3) (.t (.t (.t (.t (sE h (fun hb4 h => ?_) (fun hb4 h => ?_))))))))
 exact .t (.t (eB h))
 exact .f (.f (eB h))
 exact .f (.f (.f (.f (.f (.f (.f (.f (eB h))))))))
def m_i_IsReserved (a0 : Str) : Option (Bool) :=
 (if a0 = ([101, 99, 104, 111] : Str) then
 some true
 else
 (if a0 = ([105, 102] : Str) then
 some true
 else
 (if a0 = ([101, 108, 115, 101] : Str) then
 some true
 else
 (if a0 = ([119, 104, 105, 108, 101] : Str) then
 some true
 else
 (if a0 = ([102, 111, 114, 101, 97, 99, 104] : Str) then
 some true
 else
 (if a0 = ([97, 115] : Str) then
 some true
 else
 (if a0 = ([98, 114, 101, 97, 107] : Str) then
 some true
 else
 (if a0 = ([99, 111, 110, 116, 105, 110, 117, 101] : Str) then
 some true
 else
 (if a0 = ([114, 101, 116, 117, 114, 110] : Str) then
 some true
 else
 (if a0 = ([103, 108, 111, 98, 97, 108] : Str) then
 some true
 else
 (if a0 = ([117, 110, 115, 101, 116] : Str) then
 some true
 else
 (if a0 = ([116, 104, 114, 111, 119] : Str) then
 some true
 else
 (if a0 = ([116, 114, 121] : Str) then
 some true
 else
 (if a0 = ([99, 97, 116, 99, 104] : Str) then
 some true
 else
 (if a0 = ([102, 105, 110, 97, 108, 108, 121] : Str) then
 some true
 else
 (if a0 = ([121, 105, 101, 108, 100] : Str) then
 some true
 else
 (if a0 = ([105, 110, 99, 108, 117, 100, 101] : Str) then
 some true
 else
 (if a0 = ([102, 117, 110, 99, 116, 105, 111, 110] : Str) then
 some true
 else
 (if a0 = ([99, 108, 97, 115, 115] : Str) then
 some true
 else
 (if a0 = ([116, 114, 97, 105, 116] : Str) then
 some true
 else
 (if a0 = ([101, 120, 116, 101, 110, 100, 115] : Str) then
 some true
 else
 (if a0 = ([117, 115, 101] : Str) then
 some true
 else
 (if a0 = ([112, 114, 105, 118, 97, 116, 101] : Str) then
 some true
 else
 (if a0 = ([115, 116, 97, 116, 105, 99] : Str) then
 some true
 else
 (if a0 = ([110, 101, 119] : Str) then
 some true
 else
 (if a0 = ([116, 114, 117, 101] : Str) then
 some true
 else
 (if a0 = ([102, 97, 108, 115, 101] : Str) then
 some true
 else
 (if a0 = ([110, 117, 108, 108] : Str) then
 some true
 else
 some false))))))))))))))))))))))))))))
theorem ok_i_IsReserved {a0 : Str} {r : Bool} (h : m_i_IsReserved a0 = some r) : ACall Tryz.prog 107 [.str a0] [] (fun res h => res = .bool r ∧ h = []) := by
 refine vc1 Tryz.func107 ?_
 unfold m_i_IsReserved at h
 refine .d (.d (.d (.d (.d (sE h (fun hb1 h => ?_) (fun hb1 h => ?_))))))
 exact .kt hb1 (.d (eB h))
 refine .d (sE h (fun hb2 h => ?_) (fun hb2 h => ?_))
 exact .kt hb2 (.d (eB h))
 refine .d (sE h (fun hb3 h => ?_) (fun hb3 h => ?_))
 exact .kt hb3 (.d (eB h))
 refine .d (sE h (fun hb4 h => ?_) (fun hb4 h => ?_))
 exact .kt hb4 (.d (eB h))
 refine .d (sE h (fun hb5 h => ?_) (fun hb5 h => ?_))
 exact .kt hb5 (.d (eB h))
 refine .d (sE h (fun hb6 h => ?_) (fun hb6 h => ?_))
 exact .kt hb6 (.d (eB h))
 refine .d (sE h (fun hb7 h => ?_) (fun hb7 h => ?_))
 exact .kt hb7 (.d (eB h))
 refine .d (sE h (fun hb8 h => ?_) (fun hb8 h => ?_))
 exact .kt hb8 (.d (eB h))
 refine .d (sE h (fun hb9 h => ?_) (fun hb9 h => ?_))
 exact .kt hb9 (.d (eB h))
 refine .d (sE h (fun hb10 h => ?_) (fun hb10 h => ?_))
 exact .kt hb10 (.d (eB h))
 refine .d (sE h (fun hb11 h => ?_) (fun hb11 h => ?_))
 exact .kt hb11 (.d (eB h))
 refine .d (sE h (fun hb12 h => ?_) (fun hb12 h => ?_))
 exact .kt hb12 (.d (eB h))
 refine .d (sE h (fun hb13 h => ?_) (fun hb13 h => ?_))
 exact .kt hb13 (.d (eB h))
 refine .d (sE h (fun hb14 h => ?_) (fun hb14 h => ?_))
 exact .kt hb14 (.d (eB h))
 refine .d (sE h (fun hb15 h => ?_) (fun hb15 h => ?_))
 exact .kt hb15 (.d (eB h))
 refine .d (sE h (fun hb16 h => ?_) (fun hb16 h => ?_))
 exact .kt hb16 (.d (eB h))
 refine .d (sE h (fun hb17 h => ?_) (fun hb17 h => ?_))
 exact .kt hb17 (.d (eB h))
 refine .d (sE h (fun hb18 h => ?_) (fun hb18 h => ?_))
 exact .kt hb18 (.d (eB h))
 refine .d (sE h (fun hb19 h => ?_) (fun hb19 h => ?_))
 exact .kt hb19 (.d (eB h))
 refine .d (sE h (fun hb20 h => ?_) (fun hb20 h => ?_))
 exact .kt hb20 (.d (eB h))
 refine .d (sE h (fun hb21 h => ?_) (fun hb21 h => ?_))
 exact .kt hb21 (.d (eB h))
 refine .d (sE h (fun hb22 h => ?_) (fun hb22 h => ?_))
 exact .kt hb22 (.d (eB h))
 refine .d (sE h (fun hb23 h => ?_) (fun hb23 h => ?_))
 exact .kt hb23 (.d (eB h))
 refine .d (sE h (fun hb24 h => ?_) (fun hb24 h => ?_))
 exact .kt hb24 (.d (eB h))
 refine .d (sE h (fun hb25 h => ?_) (fun hb25 h => ?_))
 exact .kt hb25 (.d (eB h))
 refine .d (sE h (fun hb26 h => ?_) (fun hb26 h => ?_))
 exact .kt hb26 (.d (eB h))
 refine .d (sE h (fun hb27 h => ?_) (fun hb27 h => ?_))
 exact .kt hb27 (.d (eB h))
 refine sE h (fun hb28 h => ?_) (fun hb28 h => ?_)
 exact .d (eB h)
 exact .d (eB h)
def m_i_goodName (a0 : Str) : Option (Bool) :=
 m_i_IsName a0 >>= fun v1 =>
 (if v1 = true then
 m_i_IsReserved a0 >>= fun v4 =>
 some (!v4)
 else
 some false)
theorem ok_i_goodName {a0 : Str} {r : Bool} (h : m_i_goodName a0 = some r) : ACall Tryz.prog 65 [.str a0] [] (fun res h => res = .bool r ∧ h = []) := by
 refine vc1 Tryz.func65 ?_
 unfold m_i_goodName at h
 refine .d (.d (bk h fun v1 hv2 h => (pcP (ok_i_IsName hv2) (sV h (fun hb3 h => ?_) (fun hb3 h => ?_)))))
 exact .t (bk h fun v4 hv5 h => (pcP (ok_i_IsReserved hv5) (.t (.t (eB h)))))
 exact .f (.f (.f (eB h)))
def m_s_l14Name_L2 (a0 : Str) (a1 : Int) (y5 : Int) : Option (Int) :=
 (if y5 < (a0.length : Int) then
 sidx a0 y5 >>= fun c9 =>
 m_s_l14Letter (c9.toNat : Int) >>= fun v11 =>
 (if v11 = true then
 m_s_l14Name_L2 a0 a1 (W64 (y5 + 1))
 else
 (if y5 > a1 then
 sidx a0 y5 >>= fun c15 =>
 m_s_l14Digit (c15.toNat : Int) >>= fun v17 =>
 (if v17 = true then
 m_s_l14Name_L2 a0 a1 (W64 (y5 + 1))
 else
 some y5)
 else
 some y5))
 else
 some y5)
partial_fixpoint
def m_s_l14Name (a0 : Str) (a1 : Int) : Option (Int) :=
 (
 m_s_l14Name_L2 a0 a1 a1
 : Option (Int)) >>= fun y1 =>
 some y1
theorem ok_s_l14Name {a0 : Str} {a1 : Int} {r : Int} (h : m_s_l14Name a0 a1 = some r) : ACall Tryz.prog 163 [.str a0, .int .i64 a1] [] (fun res h => res = .int .i64 r ∧ h = []) := by
 refine vc1 Tryz.func163 ?_
 unfold m_s_l14Name at h
 refine .d (.d ?_)
 obtain ⟨o2, ho3, hk4⟩ := bd h
 replace h := ho3
 refine .cut (fun σ η => ∃ y1, y1 = o2 ∧ σ = [(5, .int .i64 y1)] ∧ η = []) ?_ ?_
 refine le (m_s_l14Name_L2.partial_correctness a0 a1 (motive := fun y5 o20 => o2 = o20 → LoopAt _ _ [(0, .str a0), (1, .int .i64 a1), (5, .int .i64 y5)] []) ?_ a1 o2 h rfl) (tk [] ⟨.s, .i, .i, ⟨⟩⟩ ⟨⟩)
 intro F7 ih6 y5 o20 h hr21
 subst hr21
 refine LoopAt.round (.d (.d (sD h (fun hb8 h => ?_) (fun hb8 h => ?_))))
 refine .t (.t (bk h fun c9 hx10 h => ⟨sidx_bd hx10, c9, sidx_at hx10, (.t (bk h fun v11 hv12 h => (pcP (ok_s_l14Letter hv12) (.t (sV h (fun hb13 h => ?_) (fun hb13 h => ?_))))))⟩))
 exact .t (.t (.t (.t (.t (.t (.t (.t (lg (ih6 _ _ h rfl) (tk [] ⟨.s, .i, .i, ⟨⟩⟩ ⟨⟩)))))))))
 refine .f (.f (.f (sD h (fun hb14 h => ?_) (fun hb14 h => ?_))))
 refine .t (.t (bk h fun c15 hx16 h => ⟨sidx_bd hx16, c15, sidx_at hx16, (.t (bk h fun v17 hv18 h => (pcP (ok_s_l14Digit hv18) (.f (.t (.t (.f (.t (sV h (fun hb19 h => ?_) (fun hb19 h => ?_))))))))))⟩))
 exact lg (ih6 _ _ h rfl) (tk [] ⟨.s, .i, .i, ⟨⟩⟩ ⟨⟩)
 exact ct ⟨_, si h, rfl, rfl⟩ (tk [] ⟨.i, ⟨⟩⟩ ⟨⟩)
 exact .f (.f (.f (.f (.f (.t (.f (.t (.f (ct ⟨_, si h, rfl, rfl⟩ (tk [] ⟨.i, ⟨⟩⟩ ⟨⟩))))))))))
 exact .f (.f (.f (.f (.f (.f (.f (ct ⟨_, si h, rfl, rfl⟩ (tk [] ⟨.i, ⟨⟩⟩ ⟨⟩))))))))
 rintro _ _ ⟨y1, rfl, rfl, rfl⟩
 replace h := hk4
 exact .d (eI h)
def m_s_IsName (a0 : Str) : Option (Bool) :=
 (if (a0.length : Int) ≥ 1 then
 (if (a0.length : Int) ≤ 20 then
 m_s_l14Name a0 0 >>= fun v3 =>
 some (v3 == (a0.length : Int))
 else
 some false)
 else
 some false)
theorem ok_s_IsName {a0 : Str} {r : Bool} (h : m_s_IsName a0 = some r) : ACall Tryz.prog 128 [.str a0] [] (fun res h => res = .bool r ∧ h = []) := by
 refine vc1 Tryz.func128 ?_
 unfold m_s_IsName at h
 refine .d (.d (sD h (fun hb1 h => ?_) (fun hb1 h => ?_)))
 refine .t (.t (.t (sD h (fun hb2 h => ?_) (fun hb2 h => ?_))))
 exact .t (bk h fun v3 hv4 h => (pcP (ok_s_l14Name hv4) (.t (.t (.t (.t (eB h)))))))
 exact .f (.f (.f (.f (.f (eB h)))))
 exact .f (.f (.f (.f (.f (.f (.f (.f (.f (eB h)))))))))
def m_s_IsReserved_L2 (a0 : Str) (y4 : Int) : Option ((Unit) ⊕ Bool) :=
 (if y4 < (([[101, 99, 104, 111], [105, 102], [101, 108, 115, 101], [119, 104, 105, 108, 101], [102, 111, 114, 101, 97, 99, 104], [97, 115], [98, 114, 101, 97, 107], [99, 111, 110, 116, 105, 110, 117, 101], [114, 101, 116, 117, 114, 110], [103, 108, 111, 98, 97, 108], [117, 110, 115, 101, 116], [116, 104, 114, 111, 119], [116, 114, 121], [99, 97, 116, 99, 104], [102, 105, 110, 97, 108, 108, 121], [121, 105, 101, 108, 100], [105, 110, 99, 108, 117, 100, 101], [102, 117, 110, 99, 116, 105, 111, 110], [99, 108, 97, 115, 115], [116, 114, 97, 105, 116], [101, 120, 116, 101, 110, 100, 115], [117, 115, 101], [112, 114, 105, 118, 97, 116, 101], [115, 116, 97, 116, 105, 99], [110, 101, 119], [116, 114, 117, 101], [102, 97, 108, 115, 101], [110, 117, 108, 108]] : List Str).length : Int) then
 idx ([[101, 99, 104, 111], [105, 102], [101, 108, 115, 101], [119, 104, 105, 108, 101], [102, 111, 114, 101, 97, 99, 104], [97, 115], [98, 114, 101, 97, 107], [99, 111, 110, 116, 105, 110, 117, 101], [114, 101, 116, 117, 114, 110], [103, 108, 111, 98, 97, 108], [117, 110, 115, 101, 116], [116, 104, 114, 111, 119], [116, 114, 121], [99, 97, 116, 99, 104], [102, 105, 110, 97, 108, 108, 121], [121, 105, 101, 108, 100], [105, 110, 99, 108, 117, 100, 101], [102, 117, 110, 99, 116, 105, 111, 110], [99, 108, 97, 115, 115], [116, 114, 97, 105, 116], [101, 120, 116, 101, 110, 100, 115], [117, 115, 101], [112, 114, 105, 118, 97, 116, 101], [115, 116, 97, 116, 105, 99], [110, 101, 119], [116, 114, 117, 101], [102, 97, 108, 115, 101], [110, 117, 108, 108]] : List Str) y4 >>= fun x8 =>
 (if x8 = a0 then
 some (.inr true)
 else
 m_s_IsReserved_L2 a0 (W64 (y4 + 1)))
 else
 some (.inl ()))
partial_fixpoint
def m_s_IsReserved (a0 : Str) : Option (Bool) :=
 ((
 m_s_IsReserved_L2 a0 0
 : Option ((Unit) ⊕ Bool)) >>= fun o1 => match o1 with
 | .inr r => some r
 | .inl _ =>
 some false
 )
theorem ok_s_IsReserved {a0 : Str} {r : Bool} (h : m_s_IsReserved a0 = some r) : ACall Tryz.prog 129 [.str a0] [] (fun res h => res = .bool r ∧ h = []) := by
 refine vc1 Tryz.func129 ?_
 unfold m_s_IsReserved at h
 refine .d (.d ⟨row cS ([[101, 99, 104, 111], [105, 102], [101, 108, 115, 101], [119, 104, 105, 108, 101], [102, 111, 114, 101, 97, 99, 104], [97, 115], [98, 114, 101, 97, 107], [99, 111, 110, 116, 105, 110, 117, 101], [114, 101, 116, 117, 114, 110], [103, 108, 111, 98, 97, 108], [117, 110, 115, 101, 116], [116, 104, 114, 111, 119], [116, 114, 121], [99, 97, 116, 99, 104], [102, 105, 110, 97, 108, 108, 121], [121, 105, 101, 108, 100], [105, 110, 99, 108, 117, 100, 101], [102, 117, 110, 99, 116, 105, 111, 110], [99, 108, 97, 115, 115], [116, 114, 97, 105, 116], [101, 120, 116, 101, 110, 100, 115], [117, 115, 101], [112, 114, 105, 118, 97, 116, 101], [115, 116, 97, 116, 105, 99], [110, 101, 119], [116, 114, 117, 101], [102, 97, 108, 115, 101], [110, 117, 108, 108]] : List Str), row_lit cS ([[101, 99, 104, 111], [105, 102], [101, 108, 115, 101], [119, 104, 105, 108, 101], [102, 111, 114, 101, 97, 99, 104], [97, 115], [98, 114, 101, 97, 107], [99, 111, 110, 116, 105, 110, 117, 101], [114, 101, 116, 117, 114, 110], [103, 108, 111, 98, 97, 108], [117, 110, 115, 101, 116], [116, 104, 114, 111, 119], [116, 114, 121], [99, 97, 116, 99, 104], [102, 105, 110, 97, 108, 108, 121], [121, 105, 101, 108, 100], [105, 110, 99, 108, 117, 100, 101], [102, 117, 110, 99, 116, 105, 111, 110], [99, 108, 97, 115, 115], [116, 114, 97, 105, 116], [101, 120, 116, 101, 110, 100, 115], [117, 115, 101], [112, 114, 105, 118, 97, 116, 101], [115, 116, 97, 116, 105, 99], [110, 101, 119], [116, 114, 117, 101], [102, 97, 108, 115, 101], [110, 117, 108, 108]] : List Str) rfl (cll_refl rfl), ?_⟩)
 obtain ⟨o1, ho2, hk3⟩ := bd h
 replace h := ho2
 refine .cut (fun σ η => .inl () = o1 ∧ σ = [] ∧ η = []) ?_ ?_
 refine .d ?_
 refine le (m_s_IsReserved_L2.partial_correctness a0 (motive := fun y4 o11 => o1 = o11 → LoopAt _ _ [(0, .str a0), (3, .own 0 0 0 ([[101, 99, 104, 111], [105, 102], [101, 108, 115, 101], [119, 104, 105, 108, 101], [102, 111, 114, 101, 97, 99, 104], [97, 115], [98, 114, 101, 97, 107], [99, 111, 110, 116, 105, 110, 117, 101], [114, 101, 116, 117, 114, 110], [103, 108, 111, 98, 97, 108], [117, 110, 115, 101, 116], [116, 104, 114, 111, 119], [116, 114, 121], [99, 97, 116, 99, 104], [102, 105, 110, 97, 108, 108, 121], [121, 105, 101, 108, 100], [105, 110, 99, 108, 117, 100, 101], [102, 117, 110, 99, 116, 105, 111, 110], [99, 108, 97, 115, 115], [116, 114, 97, 105, 116], [101, 120, 116, 101, 110, 100, 115], [117, 115, 101], [112, 114, 105, 118, 97, 116, 101], [115, 116, 97, 116, 105, 99], [110, 101, 119], [116, 114, 117, 101], [102, 97, 108, 115, 101], [110, 117, 108, 108]] : List Str).length), (4, .int .i64 y4)] [.row 0 1 ([[101, 99, 104, 111], [105, 102], [101, 108, 115, 101], [119, 104, 105, 108, 101], [102, 111, 114, 101, 97, 99, 104], [97, 115], [98, 114, 101, 97, 107], [99, 111, 110, 116, 105, 110, 117, 101], [114, 101, 116, 117, 114, 110], [103, 108, 111, 98, 97, 108], [117, 110, 115, 101, 116], [116, 104, 114, 111, 119], [116, 114, 121], [99, 97, 116, 99, 104], [102, 105, 110, 97, 108, 108, 121], [121, 105, 101, 108, 100], [105, 110, 99, 108, 117, 100, 101], [102, 117, 110, 99, 116, 105, 111, 110], [99, 108, 97, 115, 115], [116, 114, 97, 105, 116], [101, 120, 116, 101, 110, 100, 115], [117, 115, 101], [112, 114, 105, 118, 97, 116, 101], [115, 116, 97, 116, 105, 99], [110, 101, 119], [116, 114, 117, 101], [102, 97, 108, 115, 101], [110, 117, 108, 108]] : List Str).length 9 (row cS ([[101, 99, 104, 111], [105, 102], [101, 108, 115, 101], [119, 104, 105, 108, 101], [102, 111, 114, 101, 97, 99, 104], [97, 115], [98, 114, 101, 97, 107], [99, 111, 110, 116, 105, 110, 117, 101], [114, 101, 116, 117, 114, 110], [103, 108, 111, 98, 97, 108], [117, 110, 115, 101, 116], [116, 104, 114, 111, 119], [116, 114, 121], [99, 97, 116, 99, 104], [102, 105, 110, 97, 108, 108, 121], [121, 105, 101, 108, 100], [105, 110, 99, 108, 117, 100, 101], [102, 117, 110, 99, 116, 105, 111, 110], [99, 108, 97, 115, 115], [116, 114, 97, 105, 116], [101, 120, 116, 101, 110, 100, 115], [117, 115, 101], [112, 114, 105, 118, 97, 116, 101], [115, 116, 97, 116, 105, 99], [110, 101, 119], [116, 114, 117, 101], [102, 97, 108, 115, 101], [110, 117, 108, 108]] : List Str))]) ?_ 0 o1 h rfl) (tk [0] ⟨.s, .o, .i, ⟨⟩⟩ ⟨nw, ⟨⟩⟩)
 intro F6 ih5 y4 o11 h hr12
 subst hr12
 refine LoopAt.round (.d (.d ⟨rfl, (sD h (fun hb7 h => ?_) (fun hb7 h => ?_))⟩))
 refine .d (.d (bk h fun x8 hx9 h => ⟨rfl, idx_bd hx9, _, Nat.zero_add _, ⟨rfl, _, ((idx_row hx9).trans rfl), (sE h (fun hb10 h => ?_) (fun hb10 h => ?_))⟩⟩))
 refine .d ?_
 obtain rfl := si h
 replace h := hk3
 exact eB h
 exact lg (ih5 _ _ h rfl) (tk [0] ⟨.s, .o, .i, ⟨⟩⟩ ⟨nw, ⟨⟩⟩)
 exact ct ⟨si h, rfl, rfl⟩ (tk [] ⟨⟩ ⟨⟩)
 rintro _ _ ⟨rfl, rfl, rfl⟩
 replace h := hk3
 exact .d (eB h)
def m_s_l15Name (a0 : Str) : Option (Bool) :=
 m_s_IsName a0 >>= fun v1 =>
 (if v1 = true then
 m_s_IsReserved a0 >>= fun v4 =>
 some (!v4)
 else
 some false)
theorem ok_s_l15Name {a0 : Str} {r : Bool} (h : m_s_l15Name a0 = some r) : ACall Tryz.prog 87 [.str a0] [] (fun res h => res = .bool r ∧ h = []) := by
 refine vc1 Tryz.func87 ?_
 unfold m_s_l15Name at h
 refine .d (.d (bk h fun v1 hv2 h => (pcP (ok_s_IsName hv2) (sV h (fun hb3 h => ?_) (fun hb3 h => ?_)))))
 exact .t (bk h fun v4 hv5 h => (pcP (ok_s_IsReserved hv5) (.t (.t (eB h)))))
 exact .f (.f (.f (eB h)))
end Go.Am
