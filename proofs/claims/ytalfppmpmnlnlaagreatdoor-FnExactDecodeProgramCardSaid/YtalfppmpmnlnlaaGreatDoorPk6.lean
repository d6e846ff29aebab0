/- Texts of the proof, joined and shortened. -/
import Derived.Test.YtalfppmpmnlnlaaGreatDoorPk5
set_option linter.unusedVariables false
set_option linter.unusedSimpArgs false
namespace Go.Am
open Go Go.RowKit Go.Proofs
def mQ (a0 : Int) : Option (Bool) :=
 (if a0 ≥ 65 then
 (if a0 ≤ 90 then
 some true
 else
 (if a0 ≥ 97 then
 some (decide (a0 ≤ 122))
 else
 some false))
 else
 (if a0 ≥ 97 then
 some (decide (a0 ≤ 122))
 else
 some false))
theorem C1 {a0 : Int} {r : Bool} (h : mQ a0 = some r) : ACall Tryz.prog 186 [.int .u8 a0] [] (fun res h => res = .bool r ∧ h = []) := by
 refine dx Tryz.func186 ?_
 unfold mQ at h
 refine .d (.d (sD h (fun eD h => ?_) (fun eD h => ?_)))
 refine .t (.t (sD h (fun jo h => ?_) (fun jo h => ?_)))
 exact .t (.t (.t (.t (eB h))))
 refine .f (.f (sD h (fun lE h => ?_) (fun lE h => ?_)))
 exact .t (.f (.t (.f (eB h))))
 exact ahk
 refine .f (.f (.f (.f (.f (sD h (fun oN h => ?_) (fun oN h => ?_))))))
 exact .t (.f (.t (.f (eB h))))
 exact ahk
def n9 (a0 : Int) : Option (Bool) :=
 (if a0 ≥ 48 then
 some (decide (a0 ≤ 57))
 else
 some false)
theorem EK {a0 : Int} {r : Bool} (h : n9 a0 = some r) : ACall Tryz.prog 187 [.int .u8 a0] [] (fun res h => res = .bool r ∧ h = []) := by
 refine dx Tryz.func187 ?_
 unfold n9 at h
 refine .d (.d (sD h (fun eD h => ?_) (fun eD h => ?_)))
 exact .t (.t (eB h))
 exact ahl
def lQ (a0 : Int) : Option (Bool) :=
 wh (ai (a0)) 97 122 >>= fun v1 =>
 (if v1 = true then
 some true
 else
 wh (ai (a0)) 65 90 >>= fun v4 =>
 (if v4 = true then
 some true
 else
 some (a0 == 95)))
theorem Be {a0 : Int} {r : Bool} (h : lQ a0 = some r) : ACall Tryz.prog 180 [.int .u8 a0] [] (fun res h => res = .bool r ∧ h = []) := by
 refine dx Tryz.func180 ?_
 unfold lQ at h
 refine .d (.d (bk h fun v1 rq h => (bJ (qf rq) (sV h (fun lE h => ?_) (fun lE h => ?_)))))
 exact .t (.t (.t (.t (.t (.t (eB h))))))
 refine .f (.f (bk h fun v4 CU h => (bJ (qf CU) (.f (sV h (fun mJ h => ?_) (fun mJ h => ?_))))))
 exact .t (.t (eB h))
 exact ahl
def mR (a0 : Int) : Option (Bool) :=
 wh (ai (a0)) 48 57 >>= fun v1 =>
 some v1
theorem C2 {a0 : Int} {r : Bool} (h : mR a0 = some r) : ACall Tryz.prog 181 [.int .u8 a0] [] (fun res h => res = .bool r ∧ h = []) := by
 refine dx Tryz.func181 ?_
 unfold mR at h
 exact .d (.d (bk h fun v1 rq h => (bJ (qf rq) (eB h))))
def eX (a0 : aU) (y5 : Int) : Option (Int) :=
 (if y5 < (a0.length : Int) then
 oF a0 y5 >>= fun c9 =>
 mQ (c9.toNat : Int) >>= fun v11 =>
 (if v11 = true then
 eX a0 (ai (y5 + 1))
 else
 oF a0 y5 >>= fun W6 =>
 (if (W6.toNat : Int) = 95 then
 eX a0 (ai (y5 + 1))
 else
 (if y5 > 0 then
 oF a0 y5 >>= fun T0 =>
 n9 (T0.toNat : Int) >>= fun v20 =>
 (if v20 = true then
 eX a0 (ai (y5 + 1))
 else
 some y5)
 else
 some y5)))
 else
 some y5)
partial_fixpoint
def kV (a0 : aU) : Option (Int) :=
 (
 eX a0 0
 : Option (Int)) >>= fun y1 =>
 some y1
theorem Ao {a0 : aU} {r : Int} (h : kV a0 = some r) : ACall Tryz.prog 156 [.str a0] [] (fun res h => res = .int .i64 r ∧ h = []) := by
 refine dx Tryz.func156 ?_
 unfold kV at h
 refine .d (.d ?_)
 obtain ⟨o2, mD, ft⟩ := bd h
 replace h := mD
 refine .cut (fun σ η => ∃ y1, y1 = o2 ∧ σ = [(3, .int .i64 y1)] ∧ η = []) ?_ ?_
 refine le (eX.partial_correctness a0 (motive := fun y5 J2 => o2 = J2 → aB _ _ [(0, .str a0), (3, .int .i64 y5)] []) ?_ 0 o2 h rfl) (tk [] ⟨.s, .i, ⟨⟩⟩ ⟨⟩)
 intro F7 zo y5 J2 h MG
 subst MG
 refine aB.round (.d (.d (sD h (fun mI h => ?_) (fun mI h => ?_))))
 refine .t (.t (bk h fun c9 iN h => ⟨jQ iN, c9, jR iN, (.t (bk h fun v11 Ii h => (bJ (C1 Ii) (.t (sV h (fun kM h => ?_) (fun kM h => ?_))))))⟩))
 exact .t (.t (.t (.t (.t (.t (.t (.t (.t (.t (.t (.t (.t (.t (lg (zo _ _ h rfl) (tk [] ⟨.s, .i, ⟨⟩⟩ ⟨⟩)))))))))))))))
 refine .f (.f (bk h fun W6 qe h => ⟨jQ qe, W6, jR qe, (.f (.t (.f (.t (sE h (fun kz h => ?_) (fun kz h => ?_))))))⟩))
 exact .t (.t (.t (.t (.t (.t (.t (lg (zo _ _ h rfl) (tk [] ⟨.s, .i, ⟨⟩⟩ ⟨⟩))))))))
 refine .f (.f (sD h (fun jO h => ?_) (fun jO h => ?_)))
 refine .t (.t (bk h fun T0 dK h => ⟨jQ dK, T0, jR dK, (.t (bk h fun v20 Ez h => (bJ (EK Ez) (.f (.t (.t (.f (.t (sV h (fun kS h => ?_) (fun kS h => ?_))))))))))⟩))
 exact lg (zo _ _ h rfl) (tk [] ⟨.s, .i, ⟨⟩⟩ ⟨⟩)
 exact agW
 exact .f (.f (.f (.f (.f (.t (.f (.t (.f (ct ⟨_, si h, rfl, rfl⟩ (tk [] ⟨.i, ⟨⟩⟩ ⟨⟩))))))))))
 exact .f (.f (.f (.f (.f (.f (.f (.f (.f (ct ⟨_, si h, rfl, rfl⟩ (tk [] ⟨.i, ⟨⟩⟩ ⟨⟩))))))))))
 exact afY
def pG (a0 : aU) : Option (Bool) :=
 (if (a0.length : Int) ≤ 20 then
 kV a0 >>= fun v2 =>
 (if v2 = (a0.length : Int) then
 some (!(a0 == ([] : aU)))
 else
 some false)
 else
 some false)
theorem Gt {a0 : aU} {r : Bool} (h : pG a0 = some r) : ACall Tryz.prog 109 [.str a0] [] (fun res h => res = .bool r ∧ h = []) := by
 refine dx Tryz.func109 ?_
 unfold pG at h
 refine .d (.d (sD h (fun eD h => ?_) (fun eD h => ?_)))
 refine .t (bk h fun v2 qs h => (bJ (Ao qs) (.t (.t (.t (.t (sE h (fun oN h => ?_) (fun oN h => ?_))))))))
 exact .t (.t (eB h))
 exact ahl
 exact .f (.f (.f (.f (.f (.f (.f (.f (eB h))))))))
def kW (a0 : aU) : Option (Bool) :=
 (if a0 = ([101, 99, 104, 111] : aU) then
 some true
 else
 (if a0 = ([105, 102] : aU) then
 some true
 else
 (if a0 = ([101, 108, 115, 101] : aU) then
 some true
 else
 (if a0 = ([119, 104, 105, 108, 101] : aU) then
 some true
 else
 (if a0 = ([102, 111, 114, 101, 97, 99, 104] : aU) then
 some true
 else
 (if a0 = ([97, 115] : aU) then
 some true
 else
 (if a0 = ([98, 114, 101, 97, 107] : aU) then
 some true
 else
 (if a0 = ([99, 111, 110, 116, 105, 110, 117, 101] : aU) then
 some true
 else
 (if a0 = ([114, 101, 116, 117, 114, 110] : aU) then
 some true
 else
 (if a0 = ([103, 108, 111, 98, 97, 108] : aU) then
 some true
 else
 (if a0 = ([117, 110, 115, 101, 116] : aU) then
 some true
 else
 (if a0 = ([116, 104, 114, 111, 119] : aU) then
 some true
 else
 (if a0 = ([116, 114, 121] : aU) then
 some true
 else
 (if a0 = ([99, 97, 116, 99, 104] : aU) then
 some true
 else
 (if a0 = ([102, 105, 110, 97, 108, 108, 121] : aU) then
 some true
 else
 (if a0 = ([121, 105, 101, 108, 100] : aU) then
 some true
 else
 (if a0 = ([105, 110, 99, 108, 117, 100, 101] : aU) then
 some true
 else
 (if a0 = ([102, 117, 110, 99, 116, 105, 111, 110] : aU) then
 some true
 else
 (if a0 = ([99, 108, 97, 115, 115] : aU) then
 some true
 else
 (if a0 = ([116, 114, 97, 105, 116] : aU) then
 some true
 else
 (if a0 = ([101, 120, 116, 101, 110, 100, 115] : aU) then
 some true
 else
 (if a0 = ([117, 115, 101] : aU) then
 some true
 else
 (if a0 = ([112, 114, 105, 118, 97, 116, 101] : aU) then
 some true
 else
 (if a0 = ([115, 116, 97, 116, 105, 99] : aU) then
 some true
 else
 (if a0 = ([110, 101, 119] : aU) then
 some true
 else
 (if a0 = ([116, 114, 117, 101] : aU) then
 some true
 else
 (if a0 = ([102, 97, 108, 115, 101] : aU) then
 some true
 else
 (if a0 = ([110, 117, 108, 108] : aU) then
 some true
 else
 some false))))))))))))))))))))))))))))
theorem Ap {a0 : aU} {r : Bool} (h : kW a0 = some r) : ACall Tryz.prog 110 [.str a0] [] (fun res h => res = .bool r ∧ h = []) := by
 refine dx Tryz.func110 ?_
 unfold kW at h
 refine .d (.d (.d (.d (.d (sE h (fun eD h => ?_) (fun eD h => ?_))))))
 exact .kt eD (.d (eB h))
 refine .d (sE h (fun jo h => ?_) (fun jo h => ?_))
 exact .kt jo (.d (eB h))
 refine .d (sE h (fun lE h => ?_) (fun lE h => ?_))
 exact .kt lE (.d (eB h))
 refine .d (sE h (fun oN h => ?_) (fun oN h => ?_))
 exact .kt oN (.d (eB h))
 refine .d (sE h (fun lY h => ?_) (fun lY h => ?_))
 exact .kt lY (.d (eB h))
 refine .d (sE h (fun mJ h => ?_) (fun mJ h => ?_))
 exact .kt mJ (.d (eB h))
 refine .d (sE h (fun nr h => ?_) (fun nr h => ?_))
 exact .kt nr (.d (eB h))
 refine .d (sE h (fun mI h => ?_) (fun mI h => ?_))
 exact .kt mI (.d (eB h))
 refine .d (sE h (fun qu h => ?_) (fun qu h => ?_))
 exact .kt qu (.d (eB h))
 refine .d (sE h (fun iy h => ?_) (fun iy h => ?_))
 exact .kt iy (.d (eB h))
 refine .d (sE h (fun jt h => ?_) (fun jt h => ?_))
 exact .kt jt (.d (eB h))
 refine .d (sE h (fun me h => ?_) (fun me h => ?_))
 exact .kt me (.d (eB h))
 refine .d (sE h (fun kM h => ?_) (fun kM h => ?_))
 exact .kt kM (.d (eB h))
 refine .d (sE h (fun jd h => ?_) (fun jd h => ?_))
 exact .kt jd (.d (eB h))
 refine .d (sE h (fun eE h => ?_) (fun eE h => ?_))
 exact .kt eE (.d (eB h))
 refine .d (sE h (fun kz h => ?_) (fun kz h => ?_))
 exact .kt kz (.d (eB h))
 refine .d (sE h (fun jO h => ?_) (fun jO h => ?_))
 exact .kt jO (.d (eB h))
 refine .d (sE h (fun lG h => ?_) (fun lG h => ?_))
 exact .kt lG (.d (eB h))
 refine .d (sE h (fun lH h => ?_) (fun lH h => ?_))
 exact .kt lH (.d (eB h))
 refine .d (sE h (fun pH h => ?_) (fun pH h => ?_))
 exact .kt pH (.d (eB h))
 refine .d (sE h (fun pE h => ?_) (fun pE h => ?_))
 exact .kt pE (.d (eB h))
 refine .d (sE h (fun kS h => ?_) (fun kS h => ?_))
 exact .kt kS (.d (eB h))
 refine .d (sE h (fun oT h => ?_) (fun oT h => ?_))
 exact .kt oT (.d (eB h))
 refine .d (sE h (fun oU h => ?_) (fun oU h => ?_))
 exact .kt oU (.d (eB h))
 refine .d (sE h (fun ny h => ?_) (fun ny h => ?_))
 exact .kt ny (.d (eB h))
 refine .d (sE h (fun qg h => ?_) (fun qg h => ?_))
 exact .kt qg (.d (eB h))
 refine .d (sE h (fun n7 h => ?_) (fun n7 h => ?_))
 exact .kt n7 (.d (eB h))
 refine sE h (fun pD h => ?_) (fun pD h => ?_)
 exact agP
 exact agP
def eY (a0 : aU) : Option (Bool) :=
 pG a0 >>= fun v1 =>
 (if v1 = true then
 kW a0 >>= fun v4 =>
 some (!v4)
 else
 some false)
theorem nP {a0 : aU} {r : Bool} (h : eY a0 = some r) : ACall Tryz.prog 55 [.str a0] [] (fun res h => res = .bool r ∧ h = []) := by
 refine dx Tryz.func55 ?_
 unfold eY at h
 refine .d (.d (bk h fun v1 rq h => (bJ (Gt rq) (sV h (fun lE h => ?_) (fun lE h => ?_)))))
 exact .t (bk h fun v4 CU h => (bJ (Ap CU) (.t (.t (eB h)))))
 exact aho
def jA (a0 : aU) (a1 : Int) (y5 : Int) : Option (Int) :=
 (if y5 < (a0.length : Int) then
 oF a0 y5 >>= fun c9 =>
 lQ (c9.toNat : Int) >>= fun v11 =>
 (if v11 = true then
 jA a0 a1 (ai (y5 + 1))
 else
 (if y5 > a1 then
 oF a0 y5 >>= fun c15 =>
 mR (c15.toNat : Int) >>= fun rX =>
 (if rX = true then
 jA a0 a1 (ai (y5 + 1))
 else
 some y5)
 else
 some y5))
 else
 some y5)
partial_fixpoint
def oa (a0 : aU) (a1 : Int) : Option (Int) :=
 (
 jA a0 a1 a1
 : Option (Int)) >>= fun y1 =>
 some y1
theorem EL {a0 : aU} {a1 : Int} {r : Int} (h : oa a0 a1 = some r) : ACall Tryz.prog 142 [.str a0, .int .i64 a1] [] (fun res h => res = .int .i64 r ∧ h = []) := by
 refine dx Tryz.func142 ?_
 unfold oa at h
 refine .d (.d ?_)
 obtain ⟨o2, mD, ft⟩ := bd h
 replace h := mD
 refine .cut (fun σ η => ∃ y1, y1 = o2 ∧ σ = [(5, .int .i64 y1)] ∧ η = []) ?_ ?_
 refine le (jA.partial_correctness a0 a1 (motive := fun y5 Ij => o2 = Ij → aB _ _ [(0, .str a0), (1, .int .i64 a1), (5, .int .i64 y5)] []) ?_ a1 o2 h rfl) (tk [] ⟨.s, .i, .i, ⟨⟩⟩ ⟨⟩)
 intro F7 zo y5 Ij h Ik
 subst Ik
 refine aB.round (.d (.d (sD h (fun mI h => ?_) (fun mI h => ?_))))
 refine .t (.t (bk h fun c9 iN h => ⟨jQ iN, c9, jR iN, (.t (bk h fun v11 Ii h => (bJ (Be Ii) (.t (sV h (fun kM h => ?_) (fun kM h => ?_))))))⟩))
 exact .t (.t (.t (.t (.t (.t (.t (.t (lg (zo _ _ h rfl) (tk [] ⟨.s, .i, .i, ⟨⟩⟩ ⟨⟩)))))))))
 refine .f (.f (.f (sD h (fun jd h => ?_) (fun jd h => ?_))))
 refine .t (.t (bk h fun c15 nE h => ⟨jQ nE, c15, jR nE, (.t (bk h fun rX yv h => (bJ (C2 yv) (.f (.t (.t (.f (.t (sV h (fun lH h => ?_) (fun lH h => ?_))))))))))⟩))
 exact lg (zo _ _ h rfl) (tk [] ⟨.s, .i, .i, ⟨⟩⟩ ⟨⟩)
 exact agW
 exact .f (.f (.f (.f (.f (.t (.f (.t (.f (ct ⟨_, si h, rfl, rfl⟩ (tk [] ⟨.i, ⟨⟩⟩ ⟨⟩))))))))))
 exact .f (.f (.f (.f (.f (.f (.f (ct ⟨_, si h, rfl, rfl⟩ (tk [] ⟨.i, ⟨⟩⟩ ⟨⟩))))))))
 exact afY
def pI (a0 : aU) : Option (Bool) :=
 (if (a0.length : Int) ≥ 1 then
 (if (a0.length : Int) ≤ 20 then
 oa a0 0 >>= fun v3 =>
 some (v3 == (a0.length : Int))
 else
 some false)
 else
 some false)
theorem Gu {a0 : aU} {r : Bool} (h : pI a0 = some r) : ACall Tryz.prog 96 [.str a0] [] (fun res h => res = .bool r ∧ h = []) := by
 refine dx Tryz.func96 ?_
 unfold pI at h
 refine .d (.d (sD h (fun eD h => ?_) (fun eD h => ?_)))
 refine .t (.t (.t (sD h (fun jo h => ?_) (fun jo h => ?_))))
 exact .t (bk h fun v3 A6 h => (bJ (EL A6) (.t (.t (.t (.t (eB h)))))))
 exact .f (.f (.f (.f (.f (eB h)))))
 exact .f (.f (.f (.f (.f (.f (.f (.f (.f (eB h)))))))))
def iP (a0 : aU) (y4 : Int) : Option ((Unit) ⊕ Bool) :=
 (if y4 < (([[101, 99, 104, 111], [105, 102], [101, 108, 115, 101], [119, 104, 105, 108, 101], [102, 111, 114, 101, 97, 99, 104], [97, 115], [98, 114, 101, 97, 107], [99, 111, 110, 116, 105, 110, 117, 101], [114, 101, 116, 117, 114, 110], [103, 108, 111, 98, 97, 108], [117, 110, 115, 101, 116], [116, 104, 114, 111, 119], [116, 114, 121], [99, 97, 116, 99, 104], [102, 105, 110, 97, 108, 108, 121], [121, 105, 101, 108, 100], [105, 110, 99, 108, 117, 100, 101], [102, 117, 110, 99, 116, 105, 111, 110], [99, 108, 97, 115, 115], [116, 114, 97, 105, 116], [101, 120, 116, 101, 110, 100, 115], [117, 115, 101], [112, 114, 105, 118, 97, 116, 101], [115, 116, 97, 116, 105, 99], [110, 101, 119], [116, 114, 117, 101], [102, 97, 108, 115, 101], [110, 117, 108, 108]] : List aU).length : Int) then
 idx ([[101, 99, 104, 111], [105, 102], [101, 108, 115, 101], [119, 104, 105, 108, 101], [102, 111, 114, 101, 97, 99, 104], [97, 115], [98, 114, 101, 97, 107], [99, 111, 110, 116, 105, 110, 117, 101], [114, 101, 116, 117, 114, 110], [103, 108, 111, 98, 97, 108], [117, 110, 115, 101, 116], [116, 104, 114, 111, 119], [116, 114, 121], [99, 97, 116, 99, 104], [102, 105, 110, 97, 108, 108, 121], [121, 105, 101, 108, 100], [105, 110, 99, 108, 117, 100, 101], [102, 117, 110, 99, 116, 105, 111, 110], [99, 108, 97, 115, 115], [116, 114, 97, 105, 116], [101, 120, 116, 101, 110, 100, 115], [117, 115, 101], [112, 114, 105, 118, 97, 116, 101], [115, 116, 97, 116, 105, 99], [110, 101, 119], [116, 114, 117, 101], [102, 97, 108, 115, 101], [110, 117, 108, 108]] : List aU) y4 >>= fun x8 =>
 (if x8 = a0 then
 some (.inr true)
 else
 iP a0 (ai (y4 + 1)))
 else
 some (.inl ()))
partial_fixpoint
def kX (a0 : aU) : Option (Bool) :=
 ((
 iP a0 0
 : Option ((Unit) ⊕ Bool)) >>= fun o1 => match o1 with
 | .inr r => some r
 | .inl _ =>
 some false
 )
theorem Aq {a0 : aU} {r : Bool} (h : kX a0 = some r) : ACall Tryz.prog 97 [.str a0] [] (fun res h => res = .bool r ∧ h = []) := by
 refine dx Tryz.func97 ?_
 unfold kX at h
 refine .d (.d ⟨row cS ([[101, 99, 104, 111], [105, 102], [101, 108, 115, 101], [119, 104, 105, 108, 101], [102, 111, 114, 101, 97, 99, 104], [97, 115], [98, 114, 101, 97, 107], [99, 111, 110, 116, 105, 110, 117, 101], [114, 101, 116, 117, 114, 110], [103, 108, 111, 98, 97, 108], [117, 110, 115, 101, 116], [116, 104, 114, 111, 119], [116, 114, 121], [99, 97, 116, 99, 104], [102, 105, 110, 97, 108, 108, 121], [121, 105, 101, 108, 100], [105, 110, 99, 108, 117, 100, 101], [102, 117, 110, 99, 116, 105, 111, 110], [99, 108, 97, 115, 115], [116, 114, 97, 105, 116], [101, 120, 116, 101, 110, 100, 115], [117, 115, 101], [112, 114, 105, 118, 97, 116, 101], [115, 116, 97, 116, 105, 99], [110, 101, 119], [116, 114, 117, 101], [102, 97, 108, 115, 101], [110, 117, 108, 108]] : List aU), de cS ([[101, 99, 104, 111], [105, 102], [101, 108, 115, 101], [119, 104, 105, 108, 101], [102, 111, 114, 101, 97, 99, 104], [97, 115], [98, 114, 101, 97, 107], [99, 111, 110, 116, 105, 110, 117, 101], [114, 101, 116, 117, 114, 110], [103, 108, 111, 98, 97, 108], [117, 110, 115, 101, 116], [116, 104, 114, 111, 119], [116, 114, 121], [99, 97, 116, 99, 104], [102, 105, 110, 97, 108, 108, 121], [121, 105, 101, 108, 100], [105, 110, 99, 108, 117, 100, 101], [102, 117, 110, 99, 116, 105, 111, 110], [99, 108, 97, 115, 115], [116, 114, 97, 105, 116], [101, 120, 116, 101, 110, 100, 115], [117, 115, 101], [112, 114, 105, 118, 97, 116, 101], [115, 116, 97, 116, 105, 99], [110, 101, 119], [116, 114, 117, 101], [102, 97, 108, 115, 101], [110, 117, 108, 108]] : List aU) rfl (cD rfl), ?_⟩)
 obtain ⟨o1, yz, mE⟩ := bd h
 replace h := yz
 refine .cut (fun σ η => .inl () = o1 ∧ σ = [] ∧ η = []) ?_ ?_
 refine .d ?_
 refine le (iP.partial_correctness a0 (motive := fun y4 MT => o1 = MT → aB _ _ [(0, .str a0), (3, .own 0 0 0 ([[101, 99, 104, 111], [105, 102], [101, 108, 115, 101], [119, 104, 105, 108, 101], [102, 111, 114, 101, 97, 99, 104], [97, 115], [98, 114, 101, 97, 107], [99, 111, 110, 116, 105, 110, 117, 101], [114, 101, 116, 117, 114, 110], [103, 108, 111, 98, 97, 108], [117, 110, 115, 101, 116], [116, 104, 114, 111, 119], [116, 114, 121], [99, 97, 116, 99, 104], [102, 105, 110, 97, 108, 108, 121], [121, 105, 101, 108, 100], [105, 110, 99, 108, 117, 100, 101], [102, 117, 110, 99, 116, 105, 111, 110], [99, 108, 97, 115, 115], [116, 114, 97, 105, 116], [101, 120, 116, 101, 110, 100, 115], [117, 115, 101], [112, 114, 105, 118, 97, 116, 101], [115, 116, 97, 116, 105, 99], [110, 101, 119], [116, 114, 117, 101], [102, 97, 108, 115, 101], [110, 117, 108, 108]] : List aU).length), (4, .int .i64 y4)] [.row 0 1 ([[101, 99, 104, 111], [105, 102], [101, 108, 115, 101], [119, 104, 105, 108, 101], [102, 111, 114, 101, 97, 99, 104], [97, 115], [98, 114, 101, 97, 107], [99, 111, 110, 116, 105, 110, 117, 101], [114, 101, 116, 117, 114, 110], [103, 108, 111, 98, 97, 108], [117, 110, 115, 101, 116], [116, 104, 114, 111, 119], [116, 114, 121], [99, 97, 116, 99, 104], [102, 105, 110, 97, 108, 108, 121], [121, 105, 101, 108, 100], [105, 110, 99, 108, 117, 100, 101], [102, 117, 110, 99, 116, 105, 111, 110], [99, 108, 97, 115, 115], [116, 114, 97, 105, 116], [101, 120, 116, 101, 110, 100, 115], [117, 115, 101], [112, 114, 105, 118, 97, 116, 101], [115, 116, 97, 116, 105, 99], [110, 101, 119], [116, 114, 117, 101], [102, 97, 108, 115, 101], [110, 117, 108, 108]] : List aU).length 9 (row cS ([[101, 99, 104, 111], [105, 102], [101, 108, 115, 101], [119, 104, 105, 108, 101], [102, 111, 114, 101, 97, 99, 104], [97, 115], [98, 114, 101, 97, 107], [99, 111, 110, 116, 105, 110, 117, 101], [114, 101, 116, 117, 114, 110], [103, 108, 111, 98, 97, 108], [117, 110, 115, 101, 116], [116, 104, 114, 111, 119], [116, 114, 121], [99, 97, 116, 99, 104], [102, 105, 110, 97, 108, 108, 121], [121, 105, 101, 108, 100], [105, 110, 99, 108, 117, 100, 101], [102, 117, 110, 99, 116, 105, 111, 110], [99, 108, 97, 115, 115], [116, 114, 97, 105, 116], [101, 120, 116, 101, 110, 100, 115], [117, 115, 101], [112, 114, 105, 118, 97, 116, 101], [115, 116, 97, 116, 105, 99], [110, 101, 119], [116, 114, 117, 101], [102, 97, 108, 115, 101], [110, 117, 108, 108]] : List aU))]) ?_ 0 o1 h rfl) (tk [0] ⟨.s, .o, .i, ⟨⟩⟩ ⟨nw, ⟨⟩⟩)
 intro F6 MS y4 MT h Il
 subst Il
 refine aB.round (.d (.d ⟨rfl, (sD h (fun nr h => ?_) (fun nr h => ?_))⟩))
 refine .d (.d (bk h fun x8 Ar h => ⟨rfl, aK Ar, _, adX _, ⟨rfl, _, ((aD Ar).trans rfl), (sE h (fun iy h => ?_) (fun iy h => ?_))⟩⟩))
 refine .d ?_
 exact afX
 exact lg (MS _ _ h rfl) (tk [0] ⟨.s, .o, .i, ⟨⟩⟩ ⟨nw, ⟨⟩⟩)
 exact agQ
 rintro _ _ ⟨rfl, rfl, rfl⟩
 replace h := mE
 exact agP
def gT (a0 : aU) : Option (Bool) :=
 pI a0 >>= fun v1 =>
 (if v1 = true then
 kX a0 >>= fun v4 =>
 some (!v4)
 else
 some false)
theorem oV {a0 : aU} {r : Bool} (h : gT a0 = some r) : ACall Tryz.prog 47 [.str a0] [] (fun res h => res = .bool r ∧ h = []) := by
 refine dx Tryz.func47 ?_
 unfold gT at h
 refine .d (.d (bk h fun v1 rq h => (bJ (Gu rq) (sV h (fun lE h => ?_) (fun lE h => ?_)))))
 exact .t (bk h fun v4 CU h => (bJ (Aq CU) (.t (.t (eB h)))))
 exact aho
def cU (a0 : Int) : Option (Bool) :=
 (if a0 = 27 then
 some true
 else
 (if a0 = 28 then
 some true
 else
 (if a0 = 29 then
 some true
 else
 (if a0 = 44 then
 some true
 else
 (if a0 = 45 then
 some true
 else
 (if a0 = 49 then
 some true
 else
 (if a0 = 52 then
 some true
 else
 some false)))))))
theorem pJ {a0 : Int} {r : Bool} (h : cU a0 = some r) : ACall Tryz.prog 154 [.int .i64 a0] [] (fun res h => res = .bool r ∧ h = []) := by
 refine dx Tryz.func154 ?_
 unfold cU at h
 refine .d (.d (.d (.d (.d (sE h (fun eD h => ?_) (fun eD h => ?_))))))
 exact .kt eD (.d (eB h))
 refine .d (sE h (fun jo h => ?_) (fun jo h => ?_))
 exact .kt jo (.d (eB h))
 refine .d (sE h (fun lE h => ?_) (fun lE h => ?_))
 exact .kt lE (.d (eB h))
 refine .d (sE h (fun oN h => ?_) (fun oN h => ?_))
 exact .kt oN (.d (eB h))
 refine .d (sE h (fun lY h => ?_) (fun lY h => ?_))
 exact .kt lY (.d (eB h))
 refine .d (sE h (fun mJ h => ?_) (fun mJ h => ?_))
 exact .kt mJ (.d (eB h))
 refine sE h (fun nr h => ?_) (fun nr h => ?_)
 exact agP
 exact agP
def iQ (a0 : Int) : Option (Bool) :=
 (if a0 = 27 then
 some true
 else
 (if a0 = 42 then
 some true
 else
 (if a0 = 43 then
 some true
 else
 some (a0 == 49))))
theorem EM {a0 : Int} {r : Bool} (h : iQ a0 = some r) : ACall Tryz.prog 152 [.int .i64 a0] [] (fun res h => res = .bool r ∧ h = []) := by
 refine dx Tryz.func152 ?_
 unfold iQ at h
 refine .d (.d (sE h (fun eD h => ?_) (fun eD h => ?_)))
 exact .t (.t (.t (.t (.t (.t (.t (.t (eB h))))))))
 refine .f (.f (sE h (fun jo h => ?_) (fun jo h => ?_)))
 exact .t (.t (.t (.t (.t (eB h)))))
 refine .f (.f (sE h (fun lE h => ?_) (fun lE h => ?_)))
 exact .t (.t (eB h))
 exact ahl
def iR (a0 : aL) : Option (Int) :=
 (
 (if a0.a8 = 6 then
 some (a0.a8 == 6)
 else
 (if a0.a8 = 8 then
 some (a0.a8 == 8)
 else
 (if a0.a8 = 10 then
 some (a0.a8 == 10)
 else
 (if a0.a8 = 11 then
 some (a0.a8 == 11)
 else
 (if a0.a8 = 13 then
 some (a0.a8 == 13)
 else
 (if a0.a8 = 17 then
 some (a0.a8 == 17)
 else
 (if a0.a8 = 28 then
 some (a0.a8 == 28)
 else
 (if a0.a8 = 29 then
 some (a0.a8 == 29)
 else
 (if a0.a8 = 30 then
 some (a0.a8 == 30)
 else
 (if a0.a8 = 33 then
 some (a0.a8 == 33)
 else
 (if a0.a8 = 34 then
 some (a0.a8 == 34)
 else
 (if a0.a8 = 37 then
 some (a0.a8 == 37)
 else
 (if a0.a8 = 42 then
 some (a0.a8 == 42)
 else
 (if a0.a8 = 43 then
 some (a0.a8 == 43)
 else
 (if a0.a8 = 50 then
 some (a0.a8 == 50)
 else
 some (a0.a8 == 54))))))))))))))))
 : Option (Bool)) >>= fun b1 =>
 (if b1 = true then
 some 1
 else
 (
 (if a0.a8 = 12 then
 some (a0.a8 == 12)
 else
 (if a0.a8 = 16 then
 some (a0.a8 == 16)
 else
 (if a0.a8 = 41 then
 some (a0.a8 == 41)
 else
 (if a0.a8 = 51 then
 some (a0.a8 == 51)
 else
 (if a0.a8 = 52 then
 some (a0.a8 == 52)
 else
 some (a0.a8 == 53))))))
 : Option (Bool)) >>= fun Gv =>
 (if Gv = true then
 some 2
 else
 (if a0.a8 = 15 then
 some (ai (2 + a0.fB))
 else
 (
 (if a0.a8 = 18 then
 some (a0.a8 == 18)
 else
 some (a0.a8 == 19))
 : Option (Bool)) >>= fun MU =>
 (if MU = true then
 some (ai ((ai (a0.fB.tdiv 2)) + 1))
 else
 (if a0.a8 = 20 then
 some (ai ((ai (a0.fB.tdiv 2)) + 2))
 else
 (if a0.a8 = 21 then
 some a0.fB
 else
 (if a0.a8 = 22 then
 some a0.fB
 else
 (if a0.a8 = 23 then
 some (ai (a0.fB + 1))
 else
 some 0))))))))
theorem EN {a0 : aL} {r : Int} (h : iR a0 = some r) : ACall Tryz.prog 151 [.agg a0.lit] [] (fun res h => res = .int .i64 r ∧ h = []) := by
 refine dx Tryz.func151 ?_
 unfold iR at h
 refine .d (.d (.d ⟨rfl, ⟨rfl, _, rfl, ?_⟩⟩))
 obtain ⟨o2, mD, ft⟩ := bd h
 replace h := mD
 refine .cut (fun σ η => ∃ b1, b1 = o2 ∧ σ = [(1, .aG 0 0 0 0), (4, .int .i64 a0.a8), (5, .bool b1)] ∧ η = [.row 0 5 1 64 (fun _ => a0.lit)]) ?_ ?_
 refine .d (sE h (fun lY h => ?_) (fun lY h => ?_))
 exact agO
 refine .d (sE h (fun mJ h => ?_) (fun mJ h => ?_))
 exact agO
 refine .d (sE h (fun nr h => ?_) (fun nr h => ?_))
 exact agO
 refine .d (sE h (fun mI h => ?_) (fun mI h => ?_))
 exact agO
 refine .d (sE h (fun qu h => ?_) (fun qu h => ?_))
 exact agO
 refine .d (sE h (fun iy h => ?_) (fun iy h => ?_))
 exact agO
 refine .d (sE h (fun jt h => ?_) (fun jt h => ?_))
 exact agO
 refine .d (sE h (fun me h => ?_) (fun me h => ?_))
 exact agO
 refine .d (sE h (fun kM h => ?_) (fun kM h => ?_))
 exact agO
 refine .d (sE h (fun jd h => ?_) (fun jd h => ?_))
 exact agO
 refine .d (sE h (fun eE h => ?_) (fun eE h => ?_))
 exact agO
 refine .d (sE h (fun kz h => ?_) (fun kz h => ?_))
 exact agO
 refine .d (sE h (fun jO h => ?_) (fun jO h => ?_))
 exact agO
 refine .d (sE h (fun lG h => ?_) (fun lG h => ?_))
 exact agO
 refine .d (sE h (fun lH h => ?_) (fun lH h => ?_))
 exact agO
 exact agO
 rintro _ _ ⟨b1, rfl, rfl, rfl⟩
 replace h := ft
 refine sV h (fun pH h => ?_) (fun pH h => ?_)
 exact ahd
 obtain ⟨W7, T1, T2⟩ := bd h
 replace h := T1
 refine .cut (fun σ η => ∃ Gv, Gv = W7 ∧ σ = [(1, .aG 0 0 0 0), (4, .int .i64 a0.a8), (22, .bool Gv)] ∧ η = [.row 0 5 1 64 (fun _ => a0.lit)]) ?_ ?_
 refine .d (sE h (fun ny h => ?_) (fun ny h => ?_))
 exact agO
 refine .d (sE h (fun qg h => ?_) (fun qg h => ?_))
 exact agO
 refine .d (sE h (fun n7 h => ?_) (fun n7 h => ?_))
 exact agO
 refine .d (sE h (fun pD h => ?_) (fun pD h => ?_))
 exact agO
 refine .d (sE h (fun qV h => ?_) (fun qV h => ?_))
 exact agO
 exact agO
 rintro _ _ ⟨Gv, rfl, rfl, rfl⟩
 replace h := T2
 refine sV h (fun qU h => ?_) (fun qU h => ?_)
 exact ahd
 refine .d (sE h (fun yA h => ?_) (fun yA h => ?_))
 exact agY
 obtain ⟨J4, Im, wj⟩ := bd h
 replace h := Im
 refine .cut (fun σ η => ∃ MU, MU = J4 ∧ σ = [(1, .aG 0 0 0 0), (4, .int .i64 a0.a8), (34, .bool MU)] ∧ η = [.row 0 5 1 64 (fun _ => a0.lit)]) ?_ ?_
 refine .d (sE h (fun EI h => ?_) (fun EI h => ?_))
 exact agO
 exact agO
 rintro _ _ ⟨MU, rfl, rfl, rfl⟩
 replace h := wj
 refine sV h (fun wc h => ?_) (fun wc h => ?_)
 exact ahb
 refine .d (sE h (fun tV h => ?_) (fun tV h => ?_))
 exact ahb
 refine .d (.d (sE h (fun pK h => ?_) (fun pK h => ?_)))
 exact .kt pK (.d ⟨rfl, ⟨rfl, _, rfl, (eI h)⟩⟩)
 refine sE h (fun sr h => ?_) (fun sr h => ?_)
 exact agY
 refine .d (sE h (fun yx h => ?_) (fun yx h => ?_))
 exact agY
 exact ahd
def fO (a0 : aL) : Option (Int) :=
 (
 (if a0.a8 = 2 then
 some (a0.a8 == 2)
 else
 (if a0.a8 = 3 then
 some (a0.a8 == 3)
 else
 (if a0.a8 = 4 then
 some (a0.a8 == 4)
 else
 (if a0.a8 = 5 then
 some (a0.a8 == 5)
 else
 (if a0.a8 = 7 then
 some (a0.a8 == 7)
 else
 (if a0.a8 = 9 then
 some (a0.a8 == 9)
 else
 (if a0.a8 = 14 then
 some (a0.a8 == 14)
 else
 (if a0.a8 = 24 then
 some (a0.a8 == 24)
 else
 (if a0.a8 = 25 then
 some (a0.a8 == 25)
 else
 (if a0.a8 = 40 then
 some (a0.a8 == 40)
 else
 (if a0.a8 = 50 then
 some (a0.a8 == 50)
 else
 some (a0.a8 == 56))))))))))))
 : Option (Bool)) >>= fun b1 =>
 (if b1 = true then
 some 1
 else
 (
 (if a0.a8 = 10 then
 some (a0.a8 == 10)
 else
 (if a0.a8 = 12 then
 some (a0.a8 == 12)
 else
 (if a0.a8 = 16 then
 some (a0.a8 == 16)
 else
 (if a0.a8 = 28 then
 some (a0.a8 == 28)
 else
 (if a0.a8 = 29 then
 some (a0.a8 == 29)
 else
 (if a0.a8 = 30 then
 some (a0.a8 == 30)
 else
 (if a0.a8 = 33 then
 some (a0.a8 == 33)
 else
 (if a0.a8 = 34 then
 some (a0.a8 == 34)
 else
 (if a0.a8 = 37 then
 some (a0.a8 == 37)
 else
 (if a0.a8 = 41 then
 some (a0.a8 == 41)
 else
 (if a0.a8 = 42 then
 some (a0.a8 == 42)
 else
 some (a0.a8 == 43))))))))))))
 : Option (Bool)) >>= fun MV =>
 (if MV = true then
 some (-1)
 else
 (if a0.a8 = 15 then
 some (ai ((-1) - a0.fB))
 else
 (
 (if a0.a8 = 18 then
 some (a0.a8 == 18)
 else
 some (a0.a8 == 19))
 : Option (Bool)) >>= fun MW =>
 (if MW = true then
 some (ai (0 - (ai (a0.fB.tdiv 2))))
 else
 (if a0.a8 = 20 then
 some (ai ((ai (0 - (ai (a0.fB.tdiv 2)))) - 1))
 else
 (
 (if a0.a8 = 21 then
 some (a0.a8 == 21)
 else
 some (a0.a8 == 22))
 : Option (Bool)) >>= fun MX =>
 (if MX = true then
 some (ai (0 - a0.fB))
 else
 (if a0.a8 = 23 then
 some (ai ((ai (0 - a0.fB)) - 1))
 else
 (if a0.a8 = 52 then
 some (ai (1 + a0.fB))
 else
 (if a0.a8 = 53 then
 some (-2)
 else
 some 0)))))))))
theorem Bf {a0 : aL} {r : Int} (h : fO a0 = some r) : ACall Tryz.prog 153 [.agg a0.lit] [] (fun res h => res = .int .i64 r ∧ h = []) := by
 refine dx Tryz.func153 ?_
 unfold fO at h
 refine .d (.d (.d ⟨rfl, ⟨rfl, _, rfl, ?_⟩⟩))
 obtain ⟨o2, mD, ft⟩ := bd h
 replace h := mD
 refine .cut (fun σ η => ∃ b1, b1 = o2 ∧ σ = [(1, .aG 0 0 0 0), (4, .int .i64 a0.a8), (5, .bool b1)] ∧ η = [.row 0 5 1 64 (fun _ => a0.lit)]) ?_ ?_
 refine .d (sE h (fun lY h => ?_) (fun lY h => ?_))
 exact agO
 refine .d (sE h (fun mJ h => ?_) (fun mJ h => ?_))
 exact agO
 refine .d (sE h (fun nr h => ?_) (fun nr h => ?_))
 exact agO
 refine .d (sE h (fun mI h => ?_) (fun mI h => ?_))
 exact agO
 refine .d (sE h (fun qu h => ?_) (fun qu h => ?_))
 exact agO
 refine .d (sE h (fun iy h => ?_) (fun iy h => ?_))
 exact agO
 refine .d (sE h (fun jt h => ?_) (fun jt h => ?_))
 exact agO
 refine .d (sE h (fun me h => ?_) (fun me h => ?_))
 exact agO
 refine .d (sE h (fun kM h => ?_) (fun kM h => ?_))
 exact agO
 refine .d (sE h (fun jd h => ?_) (fun jd h => ?_))
 exact agO
 refine .d (sE h (fun eE h => ?_) (fun eE h => ?_))
 exact agO
 exact agO
 rintro _ _ ⟨b1, rfl, rfl, rfl⟩
 replace h := ft
 refine sV h (fun kz h => ?_) (fun kz h => ?_)
 exact ahd
 obtain ⟨HX, MY, MZ⟩ := bd h
 replace h := MY
 refine .cut (fun σ η => ∃ MV, MV = HX ∧ σ = [(1, .aG 0 0 0 0), (4, .int .i64 a0.a8), (18, .bool MV)] ∧ η = [.row 0 5 1 64 (fun _ => a0.lit)]) ?_ ?_
 refine .d (sE h (fun pE h => ?_) (fun pE h => ?_))
 exact agO
 refine .d (sE h (fun kS h => ?_) (fun kS h => ?_))
 exact agO
 refine .d (sE h (fun oT h => ?_) (fun oT h => ?_))
 exact agO
 refine .d (sE h (fun oU h => ?_) (fun oU h => ?_))
 exact agO
 refine .d (sE h (fun ny h => ?_) (fun ny h => ?_))
 exact agO
 refine .d (sE h (fun qg h => ?_) (fun qg h => ?_))
 exact agO
 refine .d (sE h (fun n7 h => ?_) (fun n7 h => ?_))
 exact agO
 refine .d (sE h (fun pD h => ?_) (fun pD h => ?_))
 exact agO
 refine .d (sE h (fun qV h => ?_) (fun qV h => ?_))
 exact agO
 refine .d (sE h (fun qU h => ?_) (fun qU h => ?_))
 exact agO
 refine .d (sE h (fun yA h => ?_) (fun yA h => ?_))
 exact agO
 exact agO
 rintro _ _ ⟨MV, rfl, rfl, rfl⟩
 replace h := MZ
 refine sV h (fun wg h => ?_) (fun wg h => ?_)
 exact ahd
 refine .d (sE h (fun yw h => ?_) (fun yw h => ?_))
 exact agY
 obtain ⟨W4, T3, T4⟩ := bd h
 replace h := T3
 refine .cut (fun σ η => ∃ MW, MW = W4 ∧ σ = [(1, .aG 0 0 0 0), (4, .int .i64 a0.a8), (36, .bool MW)] ∧ η = [.row 0 5 1 64 (fun _ => a0.lit)]) ?_ ?_
 refine .d (sE h (fun tV h => ?_) (fun tV h => ?_))
 exact agO
 exact agO
 rintro _ _ ⟨MW, rfl, rfl, rfl⟩
 replace h := T4
 refine sV h (fun pK h => ?_) (fun pK h => ?_)
 exact ahb
 refine .d (sE h (fun sr h => ?_) (fun sr h => ?_))
 exact ahb
 obtain ⟨Gd, Ip, Au⟩ := bd h
 replace h := Ip
 refine .cut (fun σ η => ∃ MX, MX = Gd ∧ σ = [(1, .aG 0 0 0 0), (4, .int .i64 a0.a8), (50, .bool MX)] ∧ η = [.row 0 5 1 64 (fun _ => a0.lit)]) ?_ ?_
 refine .d (sE h (fun EO h => ?_) (fun EO h => ?_))
 exact agO
 exact agO
 rintro _ _ ⟨MX, rfl, rfl, rfl⟩
 replace h := Au
 refine sV h (fun T5 h => ?_) (fun T5 h => ?_)
 exact agY
 refine .d (sE h (fun Iq h => ?_) (fun Iq h => ?_))
 exact agY
 refine .d (sE h (fun M0 h => ?_) (fun M0 h => ?_))
 exact agY
 refine .d (sE h (fun Bg h => ?_) (fun Bg h => ?_))
 exact ahd
 exact ahd
def dj (a0 : Int) : Option (Int) :=
 (if a0 = 28 then
 some (-1)
 else
 (if a0 = 44 then
 some 1
 else
 some 0))
theorem qv {a0 : Int} {r : Int} (h : dj a0 = some r) : ACall Tryz.prog 155 [.int .i64 a0] [] (fun res h => res = .int .i64 r ∧ h = []) := by
 refine dx Tryz.func155 ?_
 unfold dj at h
 refine .d (.d (.d (.d (sE h (fun eD h => ?_) (fun eD h => ?_)))))
 exact ahd
 refine .d (sE h (fun jo h => ?_) (fun jo h => ?_))
 exact ahd
 exact ahd
def pL (a0 : Int) : Option (Bool) :=
 (if a0 = 5 then
 some true
 else
 (if a0 = 6 then
 some true
 else
 (if a0 = 18 then
 some true
 else
 (if a0 = 21 then
 some true
 else
 (if a0 = 24 then
 some true
 else
 (if a0 = 26 then
 some true
 else
 (if a0 = 38 then
 some true
 else
 some false)))))))
theorem Gw {a0 : Int} {r : Bool} (h : pL a0 = some r) : ACall Tryz.prog 196 [.int .i64 a0] [] (fun res h => res = .bool r ∧ h = []) := by
 refine dx Tryz.func196 ?_
 unfold pL at h
 refine .d (.d (.d (.d (.d (sE h (fun eD h => ?_) (fun eD h => ?_))))))
 exact .kt eD (.d (eB h))
 refine .d (sE h (fun jo h => ?_) (fun jo h => ?_))
 exact .kt jo (.d (eB h))
 refine .d (sE h (fun lE h => ?_) (fun lE h => ?_))
 exact .kt lE (.d (eB h))
 refine .d (sE h (fun oN h => ?_) (fun oN h => ?_))
 exact .kt oN (.d (eB h))
 refine .d (sE h (fun lY h => ?_) (fun lY h => ?_))
 exact .kt lY (.d (eB h))
 refine .d (sE h (fun mJ h => ?_) (fun mJ h => ?_))
 exact .kt mJ (.d (eB h))
 refine sE h (fun nr h => ?_) (fun nr h => ?_)
 exact agP
 exact agP
def oc (a0 : Int) : Option (Bool) :=
 zu a0 1 56 >>= fun v1 =>
 some v1
theorem EP {a0 : Int} {r : Bool} (h : oc a0 = some r) : ACall Tryz.prog 183 [.int .i64 a0] [] (fun res h => res = .bool r ∧ h = []) := by
 refine dx Tryz.func183 ?_
 unfold oc at h
 exact .d (.d (bk h fun v1 rq h => (bJ (vw rq) (eB h))))
def mS (a0 : aL) (a1 : Int) (a2 : Int) : Option (Bool) :=
 (if a0.a8 = 2 then
 zu a0.fA 0 1000000000 >>= fun v2 =>
 some v2
 else
 (
 (if a0.a8 = 4 then
 some true
 else
 some (a0.a8 == 11))
 : Option (Bool)) >>= fun b4 =>
 (if b4 = true then
 zu a0.fA 0 2 >>= fun v10 =>
 some v10
 else
 (if a0.a8 = 12 then
 zu a0.fA 1 15 >>= fun lZ =>
 some lZ
 else
 pL a0.a8 >>= fun tW =>
 (if tW = true then
 (if a0.fA ≥ 0 then
 some (decide (a0.fA < a1))
 else
 some false)
 else
 cU a0.a8 >>= fun zt =>
 (if zt = true then
 (if a0.fA ≥ 0 then
 some (decide (a0.fA < a2))
 else
 some false)
 else
 some (a0.fA == 0))))))
theorem C3 {a0 : aL} {a1 : Int} {a2 : Int} {r : Bool} (h : mS a0 a1 a2 = some r) : ACall Tryz.prog 184 [.agg a0.lit, .int .i64 a1, .int .i64 a2] [] (fun res h => res = .bool r ∧ h = []) := by
 refine dx Tryz.func184 ?_
 unfold mS at h
 refine .d (.d (.d ⟨rfl, ⟨rfl, _, rfl, (sE h (fun eD h => ?_) (fun eD h => ?_))⟩⟩))
 exact .d ⟨rfl, ⟨rfl, _, rfl, (bk h fun v2 qs h => (bJ (vw qs) (eB h)))⟩⟩
 obtain ⟨o5, ym, wS⟩ := bd h
 replace h := ym
 refine .cut (fun σ η => ∃ b4, b4 = o5 ∧ σ = [(1, .int .i64 a1), (2, .int .i64 a2), (3, .aG 0 0 0 0), (14, .bool b4)] ∧ η = [.row 0 5 1 64 (fun _ => a0.lit)]) ?_ ?_
 refine ⟨rfl, ⟨rfl, _, rfl, (sE h (fun mI h => ?_) (fun mI h => ?_))⟩⟩
 exact .t (.t (.t (ct ⟨_, si h, rfl, rfl⟩ (tk [0] ⟨.i, .i, .p, .b, ⟨⟩⟩ ⟨(bn rfl), ⟨⟩⟩))))
 exact ⟨rfl, (.f ⟨rfl, _, rfl, (.f (.f (ct ⟨_, si h, rfl, rfl⟩ (tk [0] ⟨.i, .i, .p, .b, ⟨⟩⟩ ⟨(bn rfl), ⟨⟩⟩))))⟩)⟩
 rintro _ _ ⟨b4, rfl, rfl, rfl⟩
 replace h := wS
 refine sV h (fun qu h => ?_) (fun qu h => ?_)
 exact .d ⟨rfl, ⟨rfl, _, rfl, (bk h fun v10 aba h => (bJ (vw aba) (eB h)))⟩⟩
 refine .d ⟨rfl, ⟨rfl, _, rfl, (sE h (fun me h => ?_) (fun me h => ?_))⟩⟩
 exact .d ⟨rfl, ⟨rfl, _, rfl, (bk h fun lZ yl h => (bJ (vw yl) (eB h)))⟩⟩
 refine .d ⟨rfl, ⟨rfl, _, rfl, (bk h fun tW yB h => (bJ (Gw yB) (sV h (fun jO h => ?_) (fun jO h => ?_))))⟩⟩
 refine .d ⟨rfl, ⟨rfl, _, rfl, (sD h (fun lG h => ?_) (fun lG h => ?_))⟩⟩
 exact ahp
 exact ahk
 refine .d ⟨rfl, ⟨rfl, _, rfl, (bk h fun zt EF h => (bJ (pJ EF) (sV h (fun pE h => ?_) (fun pE h => ?_))))⟩⟩
 refine .d ⟨rfl, ⟨rfl, _, rfl, (sD h (fun kS h => ?_) (fun kS h => ?_))⟩⟩
 exact ahp
 exact ahk
 exact ahv
def oW (a0 : aL) (a1 : Int) : Option (Bool) :=
 (
 (if a0.a8 = 15 then
 some (a0.a8 == 15)
 else
 some (a0.a8 == 52))
 : Option (Bool)) >>= fun b1 =>
 (if b1 = true then
 zu a0.fB 0 1 >>= fun v7 =>
 some v7
 else
 (
 (if a0.a8 = 18 then
 some (a0.a8 == 18)
 else
 (if a0.a8 = 19 then
 some (a0.a8 == 19)
 else
 some (a0.a8 == 20)))
 : Option (Bool)) >>= fun b9 =>
 (if b9 = true then
 zu a0.fB 0 81 >>= fun du =>
 some du
 else
 (
 (if a0.a8 = 21 then
 some (a0.a8 == 21)
 else
 (if a0.a8 = 22 then
 some (a0.a8 == 22)
 else
 some (a0.a8 == 23)))
 : Option (Bool)) >>= fun XW =>
 (if XW = true then
 zu a0.fB 0 40 >>= fun mq =>
 some mq
 else
 (if a0.a8 = 24 then
 (if a0.fB ≥ 0 then
 some (decide (a0.fB < a1))
 else
 some false)
 else
 (if a0.a8 = 49 then
 zu a0.fB 0 100 >>= fun v30 =>
 some v30
 else
 some (a0.fB == 0))))))
theorem C4 {a0 : aL} {a1 : Int} {r : Bool} (h : oW a0 a1 = some r) : ACall Tryz.prog 185 [.agg a0.lit, .int .i64 a1] [] (fun res h => res = .bool r ∧ h = []) := by
 refine dx Tryz.func185 ?_
 unfold oW at h
 refine .d (.d (.d ⟨rfl, ⟨rfl, _, rfl, ?_⟩⟩))
 obtain ⟨o2, mD, ft⟩ := bd h
 replace h := mD
 refine .cut (fun σ η => ∃ b1, b1 = o2 ∧ σ = [(1, .int .i64 a1), (2, .aG 0 0 0 0), (6, .int .i64 a0.a8), (7, .bool b1)] ∧ η = [.row 0 5 1 64 (fun _ => a0.lit)]) ?_ ?_
 refine .d (sE h (fun lY h => ?_) (fun lY h => ?_))
 exact agX
 exact agX
 rintro _ _ ⟨b1, rfl, rfl, rfl⟩
 replace h := ft
 refine sV h (fun mJ h => ?_) (fun mJ h => ?_)
 exact .d ⟨rfl, ⟨rfl, _, rfl, (bk h fun v7 TS h => (bJ (vw TS) (eB h)))⟩⟩
 obtain ⟨Qw, M1, Gx⟩ := bd h
 replace h := M1
 refine .cut (fun σ η => ∃ b9, b9 = Qw ∧ σ = [(1, .int .i64 a1), (2, .aG 0 0 0 0), (6, .int .i64 a0.a8), (13, .bool b9)] ∧ η = [.row 0 5 1 64 (fun _ => a0.lit)]) ?_ ?_
 refine .d (sE h (fun kM h => ?_) (fun kM h => ?_))
 exact agX
 refine .d (sE h (fun jd h => ?_) (fun jd h => ?_))
 exact agX
 exact agX
 rintro _ _ ⟨b9, rfl, rfl, rfl⟩
 replace h := Gx
 refine sV h (fun eE h => ?_) (fun eE h => ?_)
 exact .d ⟨rfl, ⟨rfl, _, rfl, (bk h fun du tP h => (bJ (vw tP) (eB h)))⟩⟩
 obtain ⟨MH, T6, T7⟩ := bd h
 replace h := T6
 refine .cut (fun σ η => ∃ XW, XW = MH ∧ σ = [(1, .int .i64 a1), (2, .aG 0 0 0 0), (6, .int .i64 a0.a8), (20, .bool XW)] ∧ η = [.row 0 5 1 64 (fun _ => a0.lit)]) ?_ ?_
 refine .d (sE h (fun kS h => ?_) (fun kS h => ?_))
 exact agX
 refine .d (sE h (fun oT h => ?_) (fun oT h => ?_))
 exact agX
 exact agX
 rintro _ _ ⟨XW, rfl, rfl, rfl⟩
 replace h := T7
 refine sV h (fun oU h => ?_) (fun oU h => ?_)
 exact .d ⟨rfl, ⟨rfl, _, rfl, (bk h fun mq Ia h => (bJ (vw Ia) (eB h)))⟩⟩
 refine .d (sE h (fun n7 h => ?_) (fun n7 h => ?_))
 refine .d ⟨rfl, ⟨rfl, _, rfl, (sD h (fun pD h => ?_) (fun pD h => ?_))⟩⟩
 exact ahp
 exact ahk
 refine .d (sE h (fun qV h => ?_) (fun qV h => ?_))
 exact .d ⟨rfl, ⟨rfl, _, rfl, (bk h fun v30 Ig h => (bJ (vw Ig) (eB h)))⟩⟩
 exact ahv
def km (a0 : aL) (a1 : Int) (a2 : Int) : Option (Bool) :=
 oc a0.a8 >>= fun v1 =>
 (if v1 = true then
 mS a0 a1 a2 >>= fun v4 =>
 (if v4 = true then
 oW a0 a1 >>= fun v7 =>
 (if v7 = true then
 ((
 (
 (if a0.a8 = 31 then
 some (a0.a8 == 31)
 else
 (if a0.a8 = 55 then
 some (a0.a8 == 55)
 else
 (if a0.a8 = 56 then
 some (a0.a8 == 56)
 else
 (if a0.a8 = 35 then
 some (a0.a8 == 35)
 else
 some (a0.a8 == 36)))))
 : Option (Bool)) >>= fun K3 =>
 (if K3 = true then
 some (.inl ())
 else
 (if a0.a8 = 3 then
 (if (a0.fS.length : Int) > 400 then
 some (.inr false)
 else
 some (.inl ()))
 else
 (
 (if a0.a8 = 7 then
 some (a0.a8 == 7)
 else
 (if a0.a8 = 8 then
 some (a0.a8 == 8)
 else
 (if a0.a8 = 17 then
 some (a0.a8 == 17)
 else
 (if a0.a8 = 19 then
 some (a0.a8 == 19)
 else
 (if a0.a8 = 20 then
 some (a0.a8 == 20)
 else
 (if a0.a8 = 22 then
 some (a0.a8 == 22)
 else
 (if a0.a8 = 23 then
 some (a0.a8 == 23)
 else
 (if a0.a8 = 25 then
 some (a0.a8 == 25)
 else
 (if a0.a8 = 26 then
 some (a0.a8 == 26)
 else
 (if a0.a8 = 32 then
 some (a0.a8 == 32)
 else
 (if a0.a8 = 34 then
 some (a0.a8 == 34)
 else
 (if a0.a8 = 39 then
 some (a0.a8 == 39)
 else
 some (a0.a8 == 44)))))))))))))
 : Option (Bool)) >>= fun M3 =>
 (if M3 = true then
 eY a0.fS >>= fun pn =>
 (if pn = true then
 some (.inl ())
 else
 some (.inr false))
 else
 (if a0.fS = ([] : aU) then
 some (.inl ())
 else
 some (.inr false)))))
 : Option ((Unit) ⊕ Bool)) >>= fun Qw => match Qw with
 | .inr r => some r
 | .inl _ =>
 (if a0.a8 = 25 then
 eY a0.fT >>= fun v46 =>
 some v46
 else
 some (a0.fT == ([] : aU)))
 )
 else
 some false)
 else
 some false)
 else
 some false)
theorem Ir {a0 : aL} {a1 : Int} {a2 : Int} {r : Bool} (h : km a0 a1 a2 = some r) : ACall Tryz.prog 149 [.agg a0.lit, .int .i64 a1, .int .i64 a2] [] (fun res h => res = .bool r ∧ h = []) := by
 refine dx Tryz.func149 ?_
 unfold km at h
 refine .d (.d (.d ⟨rfl, ⟨rfl, _, rfl, (bk h fun v1 rq h => (bJ (EP rq) (hB h (fun lE h => ?_) (fun lE h => ?_))))⟩⟩))
 exact .t (.t (.t (.t (.t (.t (.t (.t (.t (.t (.t (.d (eB h))))))))))))
 refine ⟨rfl, _, rfl, (.f (.f (.f (bk h fun v4 CU h => (bJ (C3 CU) (.f (.f (hB h (fun mJ h => ?_) (fun mJ h => ?_)))))))))⟩
 exact .t (.t (.t (.t (.t (.d (eB h))))))
 refine ⟨rfl, _, rfl, (.f (.f (bk h fun v7 TS h => (bJ (C4 TS) (.f (.f (hB h (fun qu h => ?_) (fun qu h => ?_))))))))⟩
 exact agP
 obtain ⟨Qw, M1, Gx⟩ := bd h
 replace h := M1
 refine .cut (fun σ η => .inl () = Qw ∧ σ = [(3, .aG 0 0 0 0)] ∧ η = [.row 0 5 1 64 (fun _ => a0.lit)]) ?_ ?_
 refine .d ⟨rfl, ⟨rfl, _, rfl, ?_⟩⟩
 obtain ⟨HV, T8, M4⟩ := bd h
 replace h := T8
 refine .cut (fun σ η => ∃ K3, K3 = HV ∧ σ = [(3, .aG 0 0 0 0), (25, .int .i64 a0.a8), (29, .bool K3)] ∧ η = [.row 0 5 1 64 (fun _ => a0.lit)]) ?_ ?_
 refine .d (sE h (fun jO h => ?_) (fun jO h => ?_))
 exact agO
 refine .d (sE h (fun lG h => ?_) (fun lG h => ?_))
 exact agO
 refine .d (sE h (fun lH h => ?_) (fun lH h => ?_))
 exact agO
 refine .d (sE h (fun pH h => ?_) (fun pH h => ?_))
 exact agO
 exact agO
 rintro _ _ ⟨K3, rfl, rfl, rfl⟩
 replace h := M4
 refine sV h (fun pE h => ?_) (fun pE h => ?_)
 exact agS
 refine .d (sE h (fun kS h => ?_) (fun kS h => ?_))
 refine .d ⟨rfl, ⟨rfl, _, rfl, (sD h (fun oT h => ?_) (fun oT h => ?_))⟩⟩
 refine .d ?_
 exact agp
 exact agS
 obtain ⟨Md, M5, ER⟩ := bd h
 replace h := M5
 refine .cut (fun σ η => ∃ M3, M3 = Md ∧ σ = [(3, .aG 0 0 0 0), (41, .bool M3)] ∧ η = [.row 0 5 1 64 (fun _ => a0.lit)]) ?_ ?_
 refine .d (sE h (fun pD h => ?_) (fun pD h => ?_))
 exact agT
 refine .d (sE h (fun qV h => ?_) (fun qV h => ?_))
 exact agT
 refine .d (sE h (fun qU h => ?_) (fun qU h => ?_))
 exact agT
 refine .d (sE h (fun yA h => ?_) (fun yA h => ?_))
 exact agT
 refine .d (sE h (fun wg h => ?_) (fun wg h => ?_))
 exact agT
 refine .d (sE h (fun yw h => ?_) (fun yw h => ?_))
 exact agT
 refine .d (sE h (fun A3 h => ?_) (fun A3 h => ?_))
 exact agT
 refine .d (sE h (fun MP h => ?_) (fun MP h => ?_))
 exact agT
 refine .d (sE h (fun EI h => ?_) (fun EI h => ?_))
 exact agT
 refine .d (sE h (fun wc h => ?_) (fun wc h => ?_))
 exact agT
 refine .d (sE h (fun tV h => ?_) (fun tV h => ?_))
 exact agT
 refine .d (sE h (fun pK h => ?_) (fun pK h => ?_))
 exact agT
 exact agT
 rintro _ _ ⟨M3, rfl, rfl, rfl⟩
 replace h := ER
 refine sV h (fun sr h => ?_) (fun sr h => ?_)
 refine .d ⟨rfl, ⟨rfl, _, rfl, (bk h fun pn Ba h => (bJ (nP Ba) (hB h (fun T9 h => ?_) (fun T9 h => ?_))))⟩⟩
 refine .d ?_
 exact agp
 exact agS
 refine .d ⟨rfl, ⟨rfl, _, rfl, (nq h (fun M6 h => ?_) (fun M6 h => ?_))⟩⟩
 refine .d ?_
 exact agp
 exact agS
 rintro _ _ ⟨rfl, rfl, rfl⟩
 replace h := Gx
 refine .d (.d ⟨rfl, ⟨rfl, _, rfl, (sE h (fun EO h => ?_) (fun EO h => ?_))⟩⟩)
 exact .d ⟨rfl, ⟨rfl, _, rfl, (bk h fun v46 Ua h => (bJ (nP Ua) (eB h)))⟩⟩
 exact ahv
def eO (a0 : Int) : Option (Bool) :=
 (if a0 = 27 then
 some true
 else
 (if a0 = 28 then
 some true
 else
 (if a0 = 29 then
 some true
 else
 (if a0 = 44 then
 some true
 else
 (if a0 = 45 then
 some true
 else
 (if a0 = 49 then
 some true
 else
 (if a0 = 52 then
 some true
 else
 some false)))))))
theorem tX {a0 : Int} {r : Bool} (h : eO a0 = some r) : ACall Tryz.prog 138 [.int .i64 a0] [] (fun res h => res = .bool r ∧ h = []) := by
 refine dx Tryz.func138 ?_
 unfold eO at h
 refine .d (.d (.d (.d (.d (sE h (fun eD h => ?_) (fun eD h => ?_))))))
 exact .kt eD (.d (eB h))
 refine .d (sE h (fun jo h => ?_) (fun jo h => ?_))
 exact .kt jo (.d (eB h))
 refine .d (sE h (fun lE h => ?_) (fun lE h => ?_))
 exact .kt lE (.d (eB h))
 refine .d (sE h (fun oN h => ?_) (fun oN h => ?_))
 exact .kt oN (.d (eB h))
 refine .d (sE h (fun lY h => ?_) (fun lY h => ?_))
 exact .kt lY (.d (eB h))
 refine .d (sE h (fun mJ h => ?_) (fun mJ h => ?_))
 exact .kt mJ (.d (eB h))
 refine sE h (fun nr h => ?_) (fun nr h => ?_)
 exact agP
 exact agP
def kY (a0 : Int) : Option (Bool) :=
 (if a0 = 27 then
 some true
 else
 (if a0 = 42 then
 some true
 else
 (if a0 = 43 then
 some true
 else
 some (a0 == 49))))
theorem ES {a0 : Int} {r : Bool} (h : kY a0 = some r) : ACall Tryz.prog 135 [.int .i64 a0] [] (fun res h => res = .bool r ∧ h = []) := by
 refine dx Tryz.func135 ?_
 unfold kY at h
 refine .d (.d (sE h (fun eD h => ?_) (fun eD h => ?_)))
 exact .t (.t (.t (.t (.t (.t (.t (.t (eB h))))))))
 refine .f (.f (sE h (fun jo h => ?_) (fun jo h => ?_)))
 exact .t (.t (.t (.t (.t (eB h)))))
 refine .f (.f (sE h (fun lE h => ?_) (fun lE h => ?_)))
 exact .t (.t (eB h))
 exact ahl
def mr (a0 : aL) : Option (Int) :=
 (
 (if a0.a8 = 6 then
 some (a0.a8 == 6)
 else
 (if a0.a8 = 8 then
 some (a0.a8 == 8)
 else
 (if a0.a8 = 10 then
 some (a0.a8 == 10)
 else
 (if a0.a8 = 11 then
 some (a0.a8 == 11)
 else
 (if a0.a8 = 13 then
 some (a0.a8 == 13)
 else
 (if a0.a8 = 17 then
 some (a0.a8 == 17)
 else
 (if a0.a8 = 28 then
 some (a0.a8 == 28)
 else
 (if a0.a8 = 29 then
 some (a0.a8 == 29)
 else
 (if a0.a8 = 30 then
 some (a0.a8 == 30)
 else
 (if a0.a8 = 33 then
 some (a0.a8 == 33)
 else
 (if a0.a8 = 34 then
 some (a0.a8 == 34)
 else
 (if a0.a8 = 37 then
 some (a0.a8 == 37)
 else
 (if a0.a8 = 42 then
 some (a0.a8 == 42)
 else
 (if a0.a8 = 43 then
 some (a0.a8 == 43)
 else
 (if a0.a8 = 50 then
 some (a0.a8 == 50)
 else
 some (a0.a8 == 54))))))))))))))))
 : Option (Bool)) >>= fun b1 =>
 (if b1 = true then
 some 1
 else
 (
 (if a0.a8 = 12 then
 some (a0.a8 == 12)
 else
 (if a0.a8 = 16 then
 some (a0.a8 == 16)
 else
 (if a0.a8 = 41 then
 some (a0.a8 == 41)
 else
 (if a0.a8 = 51 then
 some (a0.a8 == 51)
 else
 (if a0.a8 = 52 then
 some (a0.a8 == 52)
 else
 some (a0.a8 == 53))))))
 : Option (Bool)) >>= fun Gv =>
 (if Gv = true then
 some 2
 else
 (if a0.a8 = 15 then
 some (ai (2 + a0.fB))
 else
 (
 (if a0.a8 = 18 then
 some (a0.a8 == 18)
 else
 some (a0.a8 == 19))
 : Option (Bool)) >>= fun MU =>
 (if MU = true then
 some (ai ((ai (a0.fB.tdiv 2)) + 1))
 else
 (if a0.a8 = 20 then
 some (ai ((ai (a0.fB.tdiv 2)) + 2))
 else
 (if a0.a8 = 21 then
 some a0.fB
 else
 (if a0.a8 = 22 then
 some a0.fB
 else
 (if a0.a8 = 23 then
 some (ai (a0.fB + 1))
 else
 some 0))))))))
theorem ET {a0 : aL} {r : Int} (h : mr a0 = some r) : ACall Tryz.prog 134 [.agg a0.lit] [] (fun res h => res = .int .i64 r ∧ h = []) := by
 refine dx Tryz.func134 ?_
 unfold mr at h
 refine .d (.d (.d ⟨rfl, ⟨rfl, _, rfl, ?_⟩⟩))
 obtain ⟨o2, mD, ft⟩ := bd h
 replace h := mD
 refine .cut (fun σ η => ∃ b1, b1 = o2 ∧ σ = [(1, .aG 0 0 0 0), (4, .int .i64 a0.a8), (5, .bool b1)] ∧ η = [.row 0 5 1 64 (fun _ => a0.lit)]) ?_ ?_
 refine .d (sE h (fun lY h => ?_) (fun lY h => ?_))
 exact agO
 refine .d (sE h (fun mJ h => ?_) (fun mJ h => ?_))
 exact agO
 refine .d (sE h (fun nr h => ?_) (fun nr h => ?_))
 exact agO
 refine .d (sE h (fun mI h => ?_) (fun mI h => ?_))
 exact agO
 refine .d (sE h (fun qu h => ?_) (fun qu h => ?_))
 exact agO
 refine .d (sE h (fun iy h => ?_) (fun iy h => ?_))
 exact agO
 refine .d (sE h (fun jt h => ?_) (fun jt h => ?_))
 exact agO
 refine .d (sE h (fun me h => ?_) (fun me h => ?_))
 exact agO
 refine .d (sE h (fun kM h => ?_) (fun kM h => ?_))
 exact agO
 refine .d (sE h (fun jd h => ?_) (fun jd h => ?_))
 exact agO
 refine .d (sE h (fun eE h => ?_) (fun eE h => ?_))
 exact agO
 refine .d (sE h (fun kz h => ?_) (fun kz h => ?_))
 exact agO
 refine .d (sE h (fun jO h => ?_) (fun jO h => ?_))
 exact agO
 refine .d (sE h (fun lG h => ?_) (fun lG h => ?_))
 exact agO
 refine .d (sE h (fun lH h => ?_) (fun lH h => ?_))
 exact agO
 exact agO
 rintro _ _ ⟨b1, rfl, rfl, rfl⟩
 replace h := ft
 refine sV h (fun pH h => ?_) (fun pH h => ?_)
 exact ahd
 obtain ⟨W7, T1, T2⟩ := bd h
 replace h := T1
 refine .cut (fun σ η => ∃ Gv, Gv = W7 ∧ σ = [(1, .aG 0 0 0 0), (4, .int .i64 a0.a8), (22, .bool Gv)] ∧ η = [.row 0 5 1 64 (fun _ => a0.lit)]) ?_ ?_
 refine .d (sE h (fun ny h => ?_) (fun ny h => ?_))
 exact agO
 refine .d (sE h (fun qg h => ?_) (fun qg h => ?_))
 exact agO
 refine .d (sE h (fun n7 h => ?_) (fun n7 h => ?_))
 exact agO
 refine .d (sE h (fun pD h => ?_) (fun pD h => ?_))
 exact agO
 refine .d (sE h (fun qV h => ?_) (fun qV h => ?_))
 exact agO
 exact agO
 rintro _ _ ⟨Gv, rfl, rfl, rfl⟩
 replace h := T2
 refine sV h (fun qU h => ?_) (fun qU h => ?_)
 exact ahd
 refine .d (sE h (fun yA h => ?_) (fun yA h => ?_))
 exact agY
 obtain ⟨J4, Im, wj⟩ := bd h
 replace h := Im
 refine .cut (fun σ η => ∃ MU, MU = J4 ∧ σ = [(1, .aG 0 0 0 0), (4, .int .i64 a0.a8), (34, .bool MU)] ∧ η = [.row 0 5 1 64 (fun _ => a0.lit)]) ?_ ?_
 refine .d (sE h (fun EI h => ?_) (fun EI h => ?_))
 exact agO
 exact agO
 rintro _ _ ⟨MU, rfl, rfl, rfl⟩
 replace h := wj
 refine sV h (fun wc h => ?_) (fun wc h => ?_)
 exact ahb
 refine .d (sE h (fun tV h => ?_) (fun tV h => ?_))
 exact ahb
 refine .d (.d (sE h (fun pK h => ?_) (fun pK h => ?_)))
 exact .kt pK (.d ⟨rfl, ⟨rfl, _, rfl, (eI h)⟩⟩)
 refine sE h (fun sr h => ?_) (fun sr h => ?_)
 exact agY
 refine .d (sE h (fun yx h => ?_) (fun yx h => ?_))
 exact agY
 exact ahd
def jf (a0 : aL) : Option (Int) :=
 (
 (if a0.a8 = 2 then
 some (a0.a8 == 2)
 else
 (if a0.a8 = 3 then
 some (a0.a8 == 3)
 else
 (if a0.a8 = 4 then
 some (a0.a8 == 4)
 else
 (if a0.a8 = 5 then
 some (a0.a8 == 5)
 else
 (if a0.a8 = 7 then
 some (a0.a8 == 7)
 else
 (if a0.a8 = 9 then
 some (a0.a8 == 9)
 else
 (if a0.a8 = 14 then
 some (a0.a8 == 14)
 else
 (if a0.a8 = 24 then
 some (a0.a8 == 24)
 else
 (if a0.a8 = 25 then
 some (a0.a8 == 25)
 else
 (if a0.a8 = 40 then
 some (a0.a8 == 40)
 else
 (if a0.a8 = 50 then
 some (a0.a8 == 50)
 else
 some (a0.a8 == 56))))))))))))
 : Option (Bool)) >>= fun b1 =>
 (if b1 = true then
 some 1
 else
 (
 (if a0.a8 = 10 then
 some (a0.a8 == 10)
 else
 (if a0.a8 = 12 then
 some (a0.a8 == 12)
 else
 (if a0.a8 = 16 then
 some (a0.a8 == 16)
 else
 (if a0.a8 = 28 then
 some (a0.a8 == 28)
 else
 (if a0.a8 = 29 then
 some (a0.a8 == 29)
 else
 (if a0.a8 = 30 then
 some (a0.a8 == 30)
 else
 (if a0.a8 = 33 then
 some (a0.a8 == 33)
 else
 (if a0.a8 = 34 then
 some (a0.a8 == 34)
 else
 (if a0.a8 = 37 then
 some (a0.a8 == 37)
 else
 (if a0.a8 = 41 then
 some (a0.a8 == 41)
 else
 (if a0.a8 = 42 then
 some (a0.a8 == 42)
 else
 some (a0.a8 == 43))))))))))))
 : Option (Bool)) >>= fun MV =>
 (if MV = true then
 some (-1)
 else
 (if a0.a8 = 15 then
 some (ai ((-1) - a0.fB))
 else
 (
 (if a0.a8 = 18 then
 some (a0.a8 == 18)
 else
 some (a0.a8 == 19))
 : Option (Bool)) >>= fun MW =>
 (if MW = true then
 some (ai (0 - (ai (a0.fB.tdiv 2))))
 else
 (if a0.a8 = 20 then
 some (ai ((ai (0 - (ai (a0.fB.tdiv 2)))) - 1))
 else
 (
 (if a0.a8 = 21 then
 some (a0.a8 == 21)
 else
 some (a0.a8 == 22))
 : Option (Bool)) >>= fun MX =>
 (if MX = true then
 some (ai (0 - a0.fB))
 else
 (if a0.a8 = 23 then
 some (ai ((ai (0 - a0.fB)) - 1))
 else
 (if a0.a8 = 52 then
 some (ai (1 + a0.fB))
 else
 (if a0.a8 = 53 then
 some (-2)
 else
 some 0)))))))))
theorem Bh {a0 : aL} {r : Int} (h : jf a0 = some r) : ACall Tryz.prog 137 [.agg a0.lit] [] (fun res h => res = .int .i64 r ∧ h = []) := by
 refine dx Tryz.func137 ?_
 unfold jf at h
 refine .d (.d (.d ⟨rfl, ⟨rfl, _, rfl, ?_⟩⟩))
 obtain ⟨o2, mD, ft⟩ := bd h
 replace h := mD
 refine .cut (fun σ η => ∃ b1, b1 = o2 ∧ σ = [(1, .aG 0 0 0 0), (4, .int .i64 a0.a8), (5, .bool b1)] ∧ η = [.row 0 5 1 64 (fun _ => a0.lit)]) ?_ ?_
 refine .d (sE h (fun lY h => ?_) (fun lY h => ?_))
 exact agO
 refine .d (sE h (fun mJ h => ?_) (fun mJ h => ?_))
 exact agO
 refine .d (sE h (fun nr h => ?_) (fun nr h => ?_))
 exact agO
 refine .d (sE h (fun mI h => ?_) (fun mI h => ?_))
 exact agO
 refine .d (sE h (fun qu h => ?_) (fun qu h => ?_))
 exact agO
 refine .d (sE h (fun iy h => ?_) (fun iy h => ?_))
 exact agO
 refine .d (sE h (fun jt h => ?_) (fun jt h => ?_))
 exact agO
 refine .d (sE h (fun me h => ?_) (fun me h => ?_))
 exact agO
 refine .d (sE h (fun kM h => ?_) (fun kM h => ?_))
 exact agO
 refine .d (sE h (fun jd h => ?_) (fun jd h => ?_))
 exact agO
 refine .d (sE h (fun eE h => ?_) (fun eE h => ?_))
 exact agO
 exact agO
 rintro _ _ ⟨b1, rfl, rfl, rfl⟩
 replace h := ft
 refine sV h (fun kz h => ?_) (fun kz h => ?_)
 exact ahd
 obtain ⟨HX, MY, MZ⟩ := bd h
 replace h := MY
 refine .cut (fun σ η => ∃ MV, MV = HX ∧ σ = [(1, .aG 0 0 0 0), (4, .int .i64 a0.a8), (18, .bool MV)] ∧ η = [.row 0 5 1 64 (fun _ => a0.lit)]) ?_ ?_
 refine .d (sE h (fun pE h => ?_) (fun pE h => ?_))
 exact agO
 refine .d (sE h (fun kS h => ?_) (fun kS h => ?_))
 exact agO
 refine .d (sE h (fun oT h => ?_) (fun oT h => ?_))
 exact agO
 refine .d (sE h (fun oU h => ?_) (fun oU h => ?_))
 exact agO
 refine .d (sE h (fun ny h => ?_) (fun ny h => ?_))
 exact agO
 refine .d (sE h (fun qg h => ?_) (fun qg h => ?_))
 exact agO
 refine .d (sE h (fun n7 h => ?_) (fun n7 h => ?_))
 exact agO
 refine .d (sE h (fun pD h => ?_) (fun pD h => ?_))
 exact agO
 refine .d (sE h (fun qV h => ?_) (fun qV h => ?_))
 exact agO
 refine .d (sE h (fun qU h => ?_) (fun qU h => ?_))
 exact agO
 refine .d (sE h (fun yA h => ?_) (fun yA h => ?_))
 exact agO
 exact agO
 rintro _ _ ⟨MV, rfl, rfl, rfl⟩
 replace h := MZ
 refine sV h (fun wg h => ?_) (fun wg h => ?_)
 exact ahd
 refine .d (sE h (fun yw h => ?_) (fun yw h => ?_))
 exact agY
 obtain ⟨W4, T3, T4⟩ := bd h
 replace h := T3
 refine .cut (fun σ η => ∃ MW, MW = W4 ∧ σ = [(1, .aG 0 0 0 0), (4, .int .i64 a0.a8), (36, .bool MW)] ∧ η = [.row 0 5 1 64 (fun _ => a0.lit)]) ?_ ?_
 refine .d (sE h (fun tV h => ?_) (fun tV h => ?_))
 exact agO
 exact agO
 rintro _ _ ⟨MW, rfl, rfl, rfl⟩
 replace h := T4
 refine sV h (fun pK h => ?_) (fun pK h => ?_)
 exact ahb
 refine .d (sE h (fun sr h => ?_) (fun sr h => ?_))
 exact ahb
 obtain ⟨Gd, Ip, Au⟩ := bd h
 replace h := Ip
 refine .cut (fun σ η => ∃ MX, MX = Gd ∧ σ = [(1, .aG 0 0 0 0), (4, .int .i64 a0.a8), (50, .bool MX)] ∧ η = [.row 0 5 1 64 (fun _ => a0.lit)]) ?_ ?_
 refine .d (sE h (fun EO h => ?_) (fun EO h => ?_))
 exact agO
 exact agO
 rintro _ _ ⟨MX, rfl, rfl, rfl⟩
 replace h := Au
 refine sV h (fun T5 h => ?_) (fun T5 h => ?_)
 exact agY
 refine .d (sE h (fun Iq h => ?_) (fun Iq h => ?_))
 exact agY
 refine .d (sE h (fun M0 h => ?_) (fun M0 h => ?_))
 exact agY
 refine .d (sE h (fun Bg h => ?_) (fun Bg h => ?_))
 exact ahd
 exact ahd
def fF (a0 : Int) : Option (Int) :=
 (if a0 = 28 then
 some (-1)
 else
 (if a0 = 44 then
 some 1
 else
 some 0))
theorem xa {a0 : Int} {r : Int} (h : fF a0 = some r) : ACall Tryz.prog 139 [.int .i64 a0] [] (fun res h => res = .int .i64 r ∧ h = []) := by
 refine dx Tryz.func139 ?_
 unfold fF at h
 refine .d (.d (.d (.d (sE h (fun eD h => ?_) (fun eD h => ?_)))))
 exact ahd
 refine .d (sE h (fun jo h => ?_) (fun jo h => ?_))
 exact ahd
 exact ahd
def mv (a0 : Int) : Option (Bool) :=
 (if a0 = 5 then
 some true
 else
 (if a0 = 6 then
 some true
 else
 (if a0 = 18 then
 some true
 else
 (if a0 = 21 then
 some true
 else
 (if a0 = 24 then
 some true
 else
 (if a0 = 26 then
 some true
 else
 (if a0 = 38 then
 some true
 else
 some false)))))))
theorem EU {a0 : Int} {r : Bool} (h : mv a0 = some r) : ACall Tryz.prog 178 [.int .i64 a0] [] (fun res h => res = .bool r ∧ h = []) := by
 refine dx Tryz.func178 ?_
 unfold mv at h
 refine .d (.d (.d (.d (.d (sE h (fun eD h => ?_) (fun eD h => ?_))))))
 exact .kt eD (.d (eB h))
 refine .d (sE h (fun jo h => ?_) (fun jo h => ?_))
 exact .kt jo (.d (eB h))
 refine .d (sE h (fun lE h => ?_) (fun lE h => ?_))
 exact .kt lE (.d (eB h))
 refine .d (sE h (fun oN h => ?_) (fun oN h => ?_))
 exact .kt oN (.d (eB h))
 refine .d (sE h (fun lY h => ?_) (fun lY h => ?_))
 exact .kt lY (.d (eB h))
 refine .d (sE h (fun mJ h => ?_) (fun mJ h => ?_))
 exact .kt mJ (.d (eB h))
 refine sE h (fun nr h => ?_) (fun nr h => ?_)
 exact agP
 exact agP
def jL (a0 : Int) : Option (Int) :=
 (
 (if a0 = 3 then
 some (a0 == 3)
 else
 (if a0 = 31 then
 some (a0 == 31)
 else
 (if a0 = 55 then
 some (a0 == 55)
 else
 (if a0 = 56 then
 some (a0 == 56)
 else
 (if a0 = 35 then
 some (a0 == 35)
 else
 some (a0 == 36))))))
 : Option (Bool)) >>= fun b1 =>
 (if b1 = true then
 some 1
 else
 (if a0 = 7 then
 some 2
 else
 (if a0 = 8 then
 some 2
 else
 (if a0 = 17 then
 some 2
 else
 (if a0 = 19 then
 some 2
 else
 (if a0 = 20 then
 some 2
 else
 (if a0 = 22 then
 some 2
 else
 (if a0 = 23 then
 some 2
 else
 (if a0 = 25 then
 some 2
 else
 (if a0 = 26 then
 some 2
 else
 (if a0 = 32 then
 some 2
 else
 (if a0 = 34 then
 some 2
 else
 (if a0 = 39 then
 some 2
 else
 (if a0 = 44 then
 some 2
 else
 some 0))))))))))))))
theorem ss {a0 : Int} {r : Int} (h : jL a0 = some r) : ACall Tryz.prog 177 [.int .i64 a0] [] (fun res h => res = .int .i64 r ∧ h = []) := by
 refine dx Tryz.func177 ?_
 unfold jL at h
 refine .d (.d (.d ?_))
 obtain ⟨o2, mD, ft⟩ := bd h
 replace h := mD
 refine .cut (fun σ η => ∃ b1, b1 = o2 ∧ σ = [(3, .int .i64 a0), (4, .bool b1)] ∧ η = []) ?_ ?_
 refine .d (sE h (fun lY h => ?_) (fun lY h => ?_))
 exact ahg
 refine .d (sE h (fun mJ h => ?_) (fun mJ h => ?_))
 exact ahg
 refine .d (sE h (fun nr h => ?_) (fun nr h => ?_))
 exact ahg
 refine .d (sE h (fun mI h => ?_) (fun mI h => ?_))
 exact ahg
 refine .d (sE h (fun qu h => ?_) (fun qu h => ?_))
 exact ahg
 exact ahg
 rintro _ _ ⟨b1, rfl, rfl, rfl⟩
 replace h := ft
 refine sV h (fun iy h => ?_) (fun iy h => ?_)
 exact ahd
 refine .d (.d (sE h (fun jt h => ?_) (fun jt h => ?_)))
 exact .kt jt (.d (eI h))
 refine .d (sE h (fun me h => ?_) (fun me h => ?_))
 exact .kt me (.d (eI h))
 refine .d (sE h (fun kM h => ?_) (fun kM h => ?_))
 exact .kt kM (.d (eI h))
 refine .d (sE h (fun jd h => ?_) (fun jd h => ?_))
 exact .kt jd (.d (eI h))
 refine .d (sE h (fun eE h => ?_) (fun eE h => ?_))
 exact .kt eE (.d (eI h))
 refine .d (sE h (fun kz h => ?_) (fun kz h => ?_))
 exact .kt kz (.d (eI h))
 refine .d (sE h (fun jO h => ?_) (fun jO h => ?_))
 exact .kt jO (.d (eI h))
 refine .d (sE h (fun lG h => ?_) (fun lG h => ?_))
 exact .kt lG (.d (eI h))
 refine .d (sE h (fun lH h => ?_) (fun lH h => ?_))
 exact .kt lH (.d (eI h))
 refine .d (sE h (fun pH h => ?_) (fun pH h => ?_))
 exact .kt pH (.d (eI h))
 refine .d (sE h (fun pE h => ?_) (fun pE h => ?_))
 exact .kt pE (.d (eI h))
 refine .d (sE h (fun kS h => ?_) (fun kS h => ?_))
 exact .kt kS (.d (eI h))
 refine sE h (fun oT h => ?_) (fun oT h => ?_)
 exact ahd
 exact ahd
def nF (a0 : aL) (a1 : Int) (a2 : Int) : Option (Bool) :=
 (
 (if a0.fS = ([] : aU) then
 some true
 else
 jL a0.a8 >>= fun v6 =>
 (if v6 = 1 then
 some true
 else
 jL a0.a8 >>= fun v9 =>
 some (v9 == 2)))
 : Option (Bool)) >>= fun b1 =>
 (
 jL a0.a8 >>= fun tW =>
 (if tW = 2 then
 gT a0.fS >>= fun ly =>
 (if ly = true then
 some b1
 else
 some false)
 else
 some b1)
 : Option (Bool)) >>= fun vG =>
 (
 (if a0.a8 = 2 then
 wh a0.fA 0 1000000000 >>= fun v28 =>
 some (v28, (a0.fB == 0), vG)
 else
 (
 (if a0.a8 = 4 then
 some (a0.a8 == 4)
 else
 some (a0.a8 == 11))
 : Option (Bool)) >>= fun K4 =>
 (if K4 = true then
 wh a0.fA 0 2 >>= fun qT =>
 some (qT, (a0.fB == 0), vG)
 else
 (if a0.a8 = 12 then
 wh a0.fA 1 15 >>= fun K2 =>
 some (K2, (a0.fB == 0), vG)
 else
 (if a0.a8 = 3 then
 some ((a0.fA == 0), (a0.fB == 0), (decide ((a0.fS.length : Int) ≤ 400)))
 else
 (if a0.a8 = 15 then
 wh a0.fB 0 1 >>= fun mT =>
 some ((a0.fA == 0), mT, vG)
 else
 (
 (if a0.a8 = 18 then
 some (a0.a8 == 18)
 else
 (if a0.a8 = 19 then
 some (a0.a8 == 19)
 else
 some (a0.a8 == 20)))
 : Option (Bool)) >>= fun XX =>
 (if XX = true then
 wh a0.fB 0 81 >>= fun bT =>
 some ((a0.fA == 0), bT, vG)
 else
 (
 (if a0.a8 = 21 then
 some (a0.a8 == 21)
 else
 (if a0.a8 = 22 then
 some (a0.a8 == 22)
 else
 some (a0.a8 == 23)))
 : Option (Bool)) >>= fun XY =>
 (if XY = true then
 wh a0.fB 0 40 >>= fun yg =>
 some ((a0.fA == 0), yg, vG)
 else
 (if a0.a8 = 24 then
 (if a0.fB ≥ 0 then
 some ((a0.fA == 0), (decide (a0.fB < a1)), vG)
 else
 some ((a0.fA == 0), false, vG))
 else
 (if a0.a8 = 49 then
 wh a0.fB 0 100 >>= fun su =>
 some ((a0.fA == 0), su, vG)
 else
 (if a0.a8 = 52 then
 wh a0.fB 0 1 >>= fun Ge =>
 some ((a0.fA == 0), Ge, vG)
 else
 some ((a0.fA == 0), (a0.fB == 0), vG)))))))))))
 : Option (Bool × Bool × Bool)) >>= fun (Gv, Sd, J5) =>
 (
 mv a0.a8 >>= fun v75 =>
 (if v75 = true then
 (if a0.fA ≥ 0 then
 some (decide (a0.fA < a1))
 else
 some false)
 else
 some Gv)
 : Option (Bool)) >>= fun XZ =>
 (
 eO a0.a8 >>= fun Bi =>
 (if Bi = true then
 (if a0.fA ≥ 0 then
 some (decide (a0.fA < a2))
 else
 some false)
 else
 some XZ)
 : Option (Bool)) >>= fun W8 =>
 (
 (if a0.a8 = 25 then
 gT a0.fT >>= fun kd =>
 some kd
 else
 some (a0.fT == ([] : aU)))
 : Option (Bool)) >>= fun X0 =>
 wh a0.a8 1 56 >>= fun W9 =>
 (if W9 = true then
 (if W8 = true then
 (if Sd = true then
 (if J5 = true then
 some X0
 else
 some false)
 else
 some false)
 else
 some false)
 else
 some false)
theorem It {a0 : aL} {a1 : Int} {a2 : Int} {r : Bool} (h : nF a0 a1 a2 = some r) : ACall Tryz.prog 133 [.agg a0.lit, .int .i64 a1, .int .i64 a2] [] (fun res h => res = .bool r ∧ h = []) := by
 refine dx Tryz.func133 ?_
 unfold nF at h
 refine .d (.d ⟨rfl, ⟨rfl, _, rfl, (.d ⟨rfl, ⟨rfl, _, rfl, ?_⟩⟩)⟩⟩)
 obtain ⟨o2, mD, ft⟩ := bd h
 replace h := mD
 refine .cut (fun σ η => ∃ b1, b1 = o2 ∧ σ = [(1, .int .i64 a1), (2, .int .i64 a2), (3, .aG 0 0 0 0), (7, .bool (a0.fA == 0)), (8, .bool (a0.fB == 0)), (9, .bool b1)] ∧ η = [.row 0 5 1 64 (fun _ => a0.lit)]) ?_ ?_
 refine ⟨rfl, ⟨rfl, _, rfl, (sE h (fun lY h => ?_) (fun lY h => ?_))⟩⟩
 exact .t (.t (.t (.t (.t (.t (.t (.t (.t (ct ⟨_, si h, rfl, rfl⟩ (tk [0] ⟨.i, .i, .p, .b, .b, .b, ⟨⟩⟩ ⟨(bn rfl), ⟨⟩⟩))))))))))
 refine ⟨rfl, (.f ⟨rfl, _, rfl, (.f (bk h fun v6 Qq h => (bJ (ss Qq) (.f (.f (sE h (fun mI h => ?_) (fun mI h => ?_)))))))⟩)⟩
 exact .t (.t (.t (.t (ct ⟨_, si h, rfl, rfl⟩ (tk [0] ⟨.i, .i, .p, .b, .b, .b, ⟨⟩⟩ ⟨(bn rfl), ⟨⟩⟩)))))
 exact ⟨rfl, (.f ⟨rfl, _, rfl, (.f (bk h fun v9 Iu h => (bJ (ss Iu) (.f (.f (ct ⟨_, si h, rfl, rfl⟩ (tk [0] ⟨.i, .i, .p, .b, .b, .b, ⟨⟩⟩ ⟨(bn rfl), ⟨⟩⟩)))))))⟩)⟩
 rintro _ _ ⟨b1, rfl, rfl, rfl⟩
 replace h := ft
 obtain ⟨HY, EV, jS⟩ := bd h
 replace h := EV
 refine .cut (fun σ η => ∃ vG, vG = HY ∧ σ = [(1, .int .i64 a1), (2, .int .i64 a2), (3, .aG 0 0 0 0), (7, .bool (a0.fA == 0)), (8, .bool (a0.fB == 0)), (9, .bool vG)] ∧ η = [.row 0 5 1 64 (fun _ => a0.lit)]) ?_ ?_
 refine .d ⟨rfl, ⟨rfl, _, rfl, (bk h fun tW yB h => (bJ (ss yB) (sE h (fun jO h => ?_) (fun jO h => ?_))))⟩⟩
 refine ⟨rfl, (.t ⟨rfl, _, rfl, (.t (bk h fun ly Ey h => (bJ (oV Ey) (.t (.t (hB h (fun pH h => ?_) (fun pH h => ?_)))))))⟩)⟩
 exact ct ⟨_, si h, rfl, rfl⟩ (tk [0] ⟨.i, .i, .p, .b, .b, .b, ⟨⟩⟩ ⟨(bn rfl), ⟨⟩⟩)
 exact ct ⟨_, si h, rfl, rfl⟩ (tk [0] ⟨.i, .i, .p, .b, .b, .b, ⟨⟩⟩ ⟨(bn rfl), ⟨⟩⟩)
 exact .f (.f (.f (.f (.f (ct ⟨_, si h, rfl, rfl⟩ (tk [0] ⟨.i, .i, .p, .b, .b, .b, ⟨⟩⟩ ⟨(bn rfl), ⟨⟩⟩))))))
 rintro _ _ ⟨vG, rfl, rfl, rfl⟩
 replace h := jS
 obtain ⟨Qx, M7, K5⟩ := bd h
 replace h := M7
 refine .cut (fun σ η => ∃ Gv, ∃ Sd, ∃ J5, (Gv, Sd, J5) = Qx ∧ σ = [(1, .int .i64 a1), (2, .int .i64 a2), (3, .aG 0 0 0 0), (7, .bool Gv), (8, .bool Sd), (9, .bool J5)] ∧ η = [.row 0 5 1 64 (fun _ => a0.lit)]) ?_ ?_
 refine .d ⟨rfl, ⟨rfl, _, rfl, (.d (sE h (fun n7 h => ?_) (fun n7 h => ?_)))⟩⟩
 exact ⟨rfl, ⟨rfl, _, rfl, (bk h fun v28 yq h => (bJ (qf yq) (ct ⟨_, _, _, si h, rfl, rfl⟩ (tk [0] ⟨.i, .i, .p, .b, .b, .b, ⟨⟩⟩ ⟨(bn rfl), ⟨⟩⟩))))⟩⟩
 obtain ⟨Mf, Ub, K6⟩ := bd h
 replace h := Ub
 refine .cut (fun σ η => ∃ K4, K4 = Mf ∧ σ = [(1, .int .i64 a1), (2, .int .i64 a2), (3, .aG 0 0 0 0), (7, .bool (a0.fA == 0)), (8, .bool (a0.fB == 0)), (9, .bool vG), (43, .int .i64 a0.a8), (49, .bool K4)] ∧ η = [.row 0 5 1 64 (fun _ => a0.lit)]) ?_ ?_
 refine .d (sE h (fun A3 h => ?_) (fun A3 h => ?_))
 exact agU
 exact agU
 rintro _ _ ⟨K4, rfl, rfl, rfl⟩
 replace h := K6
 refine sV h (fun MP h => ?_) (fun MP h => ?_)
 exact ⟨rfl, ⟨rfl, _, rfl, (bk h fun qT TR h => (bJ (qf TR) (ct ⟨_, _, _, si h, rfl, rfl⟩ (tk [0] ⟨.i, .i, .p, .b, .b, .b, ⟨⟩⟩ ⟨(bn rfl), ⟨⟩⟩))))⟩⟩
 refine .d (sE h (fun tV h => ?_) (fun tV h => ?_))
 exact ⟨rfl, ⟨rfl, _, rfl, (bk h fun K2 TZ h => (bJ (qf TZ) (ct ⟨_, _, _, si h, rfl, rfl⟩ (tk [0] ⟨.i, .i, .p, .b, .b, .b, ⟨⟩⟩ ⟨(bn rfl), ⟨⟩⟩))))⟩⟩
 refine .d (sE h (fun yx h => ?_) (fun yx h => ?_))
 exact ⟨rfl, ⟨rfl, _, rfl, (ct ⟨_, _, _, si h, rfl, rfl⟩ (tk [0] ⟨.i, .i, .p, .b, .b, .b, ⟨⟩⟩ ⟨(bn rfl), ⟨⟩⟩))⟩⟩
 refine .d (sE h (fun abb h => ?_) (fun abb h => ?_))
 exact ⟨rfl, ⟨rfl, _, rfl, (bk h fun mT M8 h => (bJ (qf M8) (ct ⟨_, _, _, si h, rfl, rfl⟩ (tk [0] ⟨.i, .i, .p, .b, .b, .b, ⟨⟩⟩ ⟨(bn rfl), ⟨⟩⟩))))⟩⟩
 obtain ⟨o46, abc, abd⟩ := bd h
 replace h := abc
 refine .cut (fun σ η => ∃ XX, XX = o46 ∧ σ = [(1, .int .i64 a1), (2, .int .i64 a2), (3, .aG 0 0 0 0), (7, .bool (a0.fA == 0)), (8, .bool (a0.fB == 0)), (9, .bool vG), (43, .int .i64 a0.a8), (71, .bool XX)] ∧ η = [.row 0 5 1 64 (fun _ => a0.lit)]) ?_ ?_
 refine .d (sE h (fun Bg h => ?_) (fun Bg h => ?_))
 exact agU
 refine .d (sE h (fun Iv h => ?_) (fun Iv h => ?_))
 exact agU
 exact agU
 rintro _ _ ⟨XX, rfl, rfl, rfl⟩
 replace h := abd
 refine sV h (fun Iw h => ?_) (fun Iw h => ?_)
 exact ⟨rfl, ⟨rfl, _, rfl, (bk h fun bT Uc h => (bJ (qf Uc) (ct ⟨_, _, _, si h, rfl, rfl⟩ (tk [0] ⟨.i, .i, .p, .b, .b, .b, ⟨⟩⟩ ⟨(bn rfl), ⟨⟩⟩))))⟩⟩
 obtain ⟨o55, abe, abf⟩ := bd h
 replace h := abe
 refine .cut (fun σ η => ∃ XY, XY = o55 ∧ σ = [(1, .int .i64 a1), (2, .int .i64 a2), (3, .aG 0 0 0 0), (7, .bool (a0.fA == 0)), (8, .bool (a0.fB == 0)), (9, .bool vG), (43, .int .i64 a0.a8), (78, .bool XY)] ∧ η = [.row 0 5 1 64 (fun _ => a0.lit)]) ?_ ?_
 refine .d (sE h (fun EW h => ?_) (fun EW h => ?_))
 exact agU
 refine .d (sE h (fun Bj h => ?_) (fun Bj h => ?_))
 exact agU
 exact agU
 rintro _ _ ⟨XY, rfl, rfl, rfl⟩
 replace h := abf
 refine sV h (fun Ix h => ?_) (fun Ix h => ?_)
 exact ⟨rfl, ⟨rfl, _, rfl, (bk h fun yg EZ h => (bJ (qf EZ) (ct ⟨_, _, _, si h, rfl, rfl⟩ (tk [0] ⟨.i, .i, .p, .b, .b, .b, ⟨⟩⟩ ⟨(bn rfl), ⟨⟩⟩))))⟩⟩
 refine .d (sE h (fun Ud h => ?_) (fun Ud h => ?_))
 refine ⟨rfl, ⟨rfl, _, rfl, (sD h (fun abg h => ?_) (fun abg h => ?_))⟩⟩
 exact ⟨rfl, (.t ⟨rfl, _, rfl, (.t (.t (.t (ct ⟨_, _, _, si h, rfl, rfl⟩ (tk [0] ⟨.i, .i, .p, .b, .b, .b, ⟨⟩⟩ ⟨(bn rfl), ⟨⟩⟩)))))⟩)⟩
 exact .f (.f (.f (.f (ct ⟨_, _, _, si h, rfl, rfl⟩ (tk [0] ⟨.i, .i, .p, .b, .b, .b, ⟨⟩⟩ ⟨(bn rfl), ⟨⟩⟩)))))
 refine .d (sE h (fun abh h => ?_) (fun abh h => ?_))
 exact ⟨rfl, ⟨rfl, _, rfl, (bk h fun su Ue h => (bJ (qf Ue) (ct ⟨_, _, _, si h, rfl, rfl⟩ (tk [0] ⟨.i, .i, .p, .b, .b, .b, ⟨⟩⟩ ⟨(bn rfl), ⟨⟩⟩))))⟩⟩
 refine .d (sE h (fun Uf h => ?_) (fun Uf h => ?_))
 exact ⟨rfl, ⟨rfl, _, rfl, (bk h fun Ge Ug h => (bJ (qf Ug) (ct ⟨_, _, _, si h, rfl, rfl⟩ (tk [0] ⟨.i, .i, .p, .b, .b, .b, ⟨⟩⟩ ⟨(bn rfl), ⟨⟩⟩))))⟩⟩
 exact ct ⟨_, _, _, si h, rfl, rfl⟩ (tk [0] ⟨.i, .i, .p, .b, .b, .b, ⟨⟩⟩ ⟨(bn rfl), ⟨⟩⟩)
 rintro _ _ ⟨Gv, Sd, J5, rfl, rfl, rfl⟩
 replace h := K5
 obtain ⟨X1, Uh, Ui⟩ := bd h
 replace h := Uh
 refine .cut (fun σ η => ∃ XZ, XZ = X1 ∧ σ = [(2, .int .i64 a2), (3, .aG 0 0 0 0), (7, .bool XZ), (8, .bool Sd), (9, .bool J5)] ∧ η = [.row 0 5 1 64 (fun _ => a0.lit)]) ?_ ?_
 refine .d ⟨rfl, ⟨rfl, _, rfl, (bk h fun v75 Iy h => (bJ (EU Iy) (sV h (fun M9 h => ?_) (fun M9 h => ?_))))⟩⟩
 refine ⟨rfl, ⟨rfl, _, rfl, (sD h (fun Uj h => ?_) (fun Uj h => ?_))⟩⟩
 exact ⟨rfl, (.t ⟨rfl, _, rfl, (.t (.t (.t (ct ⟨_, si h, rfl, rfl⟩ (tk [0] ⟨.i, .p, .b, .b, .b, ⟨⟩⟩ ⟨(bn rfl), ⟨⟩⟩)))))⟩)⟩
 exact .f (.f (.f (.f (ct ⟨_, si h, rfl, rfl⟩ (tk [0] ⟨.i, .p, .b, .b, .b, ⟨⟩⟩ ⟨(bn rfl), ⟨⟩⟩)))))
 exact ct ⟨_, si h, rfl, rfl⟩ (tk [0] ⟨.i, .p, .b, .b, .b, ⟨⟩⟩ ⟨(bn rfl), ⟨⟩⟩)
 rintro _ _ ⟨XZ, rfl, rfl, rfl⟩
 replace h := Ui
 obtain ⟨o80, abi, abj⟩ := bd h
 replace h := abi
 refine .cut (fun σ η => ∃ W8, W8 = o80 ∧ σ = [(3, .aG 0 0 0 0), (7, .bool W8), (8, .bool Sd), (9, .bool J5)] ∧ η = [.row 0 5 1 64 (fun _ => a0.lit)]) ?_ ?_
 refine .d ⟨rfl, ⟨rfl, _, rfl, (bk h fun Bi Qy h => (bJ (tX Qy) (sV h (fun Uk h => ?_) (fun Uk h => ?_))))⟩⟩
 refine ⟨rfl, ⟨rfl, _, rfl, (sD h (fun Na h => ?_) (fun Na h => ?_))⟩⟩
 exact ⟨rfl, (.t ⟨rfl, _, rfl, (.t (.t (.t (ct ⟨_, si h, rfl, rfl⟩ (tk [0] ⟨.p, .b, .b, .b, ⟨⟩⟩ ⟨(bn rfl), ⟨⟩⟩)))))⟩)⟩
 exact .f (.f (.f (.f (ct ⟨_, si h, rfl, rfl⟩ (tk [0] ⟨.p, .b, .b, .b, ⟨⟩⟩ ⟨(bn rfl), ⟨⟩⟩)))))
 exact ct ⟨_, si h, rfl, rfl⟩ (tk [0] ⟨.p, .b, .b, .b, ⟨⟩⟩ ⟨(bn rfl), ⟨⟩⟩)
 rintro _ _ ⟨W8, rfl, rfl, rfl⟩
 replace h := abj
 refine .d ⟨rfl, ⟨rfl, _, rfl, ?_⟩⟩
 obtain ⟨o88, abk, abl⟩ := bd h
 replace h := abk
 refine .cut (fun σ η => ∃ X0, X0 = o88 ∧ σ = [(3, .aG 0 0 0 0), (7, .bool W8), (8, .bool Sd), (9, .bool J5), (10, .bool X0)] ∧ η = [.row 0 5 1 64 (fun _ => a0.lit)]) ?_ ?_
 refine .d ⟨rfl, ⟨rfl, _, rfl, (sE h (fun Ul h => ?_) (fun Ul h => ?_))⟩⟩
 exact ⟨rfl, ⟨rfl, _, rfl, (bk h fun kd abm h => (bJ (oV abm) (ct ⟨_, si h, rfl, rfl⟩ (tk [0] ⟨.p, .b, .b, .b, .b, ⟨⟩⟩ ⟨(bn rfl), ⟨⟩⟩))))⟩⟩
 exact ct ⟨_, si h, rfl, rfl⟩ (tk [0] ⟨.p, .b, .b, .b, .b, ⟨⟩⟩ ⟨(bn rfl), ⟨⟩⟩)
 rintro _ _ ⟨X0, rfl, rfl, rfl⟩
 replace h := abl
 refine .d ⟨rfl, ⟨rfl, _, rfl, (bk h fun W9 Um h => (bJ (qf Um) (sV h (fun abn h => ?_) (fun abn h => ?_))))⟩⟩
 refine .t (sV h (fun abo h => ?_) (fun abo h => ?_))
 refine .t (sV h (fun abp h => ?_) (fun abp h => ?_))
 refine .t (sV h (fun abq h => ?_) (fun abq h => ?_))
 exact .t (eB h)
 exact .f (eB h)
 exact aho
 exact .f (.f (.f (.f (.f (eB h)))))
 exact ahs
set_option maxRecDepth 100000
def tY (a0 : List TParam) : Option ((List TParam)) :=
 im 24 ([] : List TParam) a0 >>= fun l1 =>
 some l1
theorem K7 {a0 : List TParam} {r : (List TParam)} (h : tY a0 = some r) : ACall Tryz.prog 107 [sl 2 TParam.cells a0] [] (fun res h => res = .own 0 0 0 r.length ∧ h = [.row 0 2 r.length 61 (row TParam.cells r)]) := by
 refine dx Tryz.func107 ?_
 unfold tY at h
 refine .d (.d (.d ⟨fun hn4 => ?_, ?_⟩))
 have hz3 := aeN hn4
 rw [hz3] at h
 change some [] = _ at h
 refine .t (.d ?_)
 obtain rfl := si h
 exact en [0] ⟨rfl, rfl⟩ .g ⟨gh, ⟨⟩⟩
 refine .f (.d ⟨row TParam.cells ([] : List TParam), de TParam.cells ([] : List TParam) rfl (cD rfl), (bk h fun l1 J6 h => ⟨rfl, eL J6, l1.length, row TParam.cells l1, dq J6, dB J6 aS J7, ?_⟩)⟩)
 obtain rfl := si h
 exact en [0] ⟨rfl, rfl⟩ .o ⟨nw, ⟨⟩⟩
def jT (a0 : aC) : Option (Bool) :=
 Un a0.az [47] >>= fun v1 =>
 some v1
theorem zw {a0 : aC} {r : Bool} (h : jT a0 = some r) : ACall Tryz.prog 58 [.agg a0.lit] [] (fun res h => res = .bool r ∧ h = []) := by
 refine dx Tryz.func58 ?_
 unfold jT at h
 exact .d (.d ⟨rfl, ⟨rfl, _, rfl, (bk h fun v1 rq h => (bJ (X2 rq) (eB h)))⟩⟩)
def kZ (a0 : aC) : Option (Bool) :=
 (if (a0.az.length : Int) > 0 then
 oF a0.az 0 >>= fun c2 =>
 some ((c2.toNat : Int) == 47)
 else
 some false)
theorem zx {a0 : aC} {r : Bool} (h : kZ a0 = some r) : ACall Tryz.prog 48 [.agg a0.lit] [] (fun res h => res = .bool r ∧ h = []) := by
 refine dx Tryz.func48 ?_
 unfold kZ at h
 refine .d (.d ⟨rfl, ⟨rfl, _, rfl, (sD h (fun eD h => ?_) (fun eD h => ?_))⟩⟩)
 exact ⟨rfl, (.t ⟨rfl, _, rfl, (.t (bk h fun c2 P6 h => ⟨jQ P6, c2, jR P6, (.t (.t (eB h)))⟩))⟩)⟩
 exact ahk
def lR (a0 : aC) (a1 : aU) (y4 : Int) : Option ((Unit) ⊕ Int) :=
 (if y4 < (a0.ay.length : Int) then
 idx a0.ay y4 >>= fun x8 =>
 (if x8 = a1 then
 some (.inr y4)
 else
 lR a0 a1 (ai (y4 + 1)))
 else
 some (.inl ()))
partial_fixpoint
def pM (a0 : aC) (a1 : aU) : Option (Int) :=
 ((
 lR a0 a1 0
 : Option ((Unit) ⊕ Int)) >>= fun o1 => match o1 with
 | .inr r => some r
 | .inl _ =>
 some (-1)
 )
theorem Gy {a0 : aC} {a1 : aU} {r : Int} (h : pM a0 a1 = some r) : ACall Tryz.prog 132 [.agg a0.lit, .str a1] [] (fun res h => res = .int .i64 r ∧ h = []) := by
 refine dx Tryz.func132 ?_
 unfold pM at h
 refine .d ?_
 obtain ⟨o1, yz, mE⟩ := bd h
 replace h := yz
 refine .cut (fun σ η => .inl () = o1 ∧ σ = [] ∧ η = []) ?_ ?_
 refine .d ?_
 refine le (lR.partial_correctness a0 a1 (motive := fun y4 MT => o1 = MT → aB _ _ [(1, .str a1), (2, .aG 0 0 0 0), (5, .int .i64 y4)] [.row 0 6 1 57 (fun _ => a0.lit)]) ?_ 0 o1 h rfl) (tk [0] ⟨.s, .p, .i, ⟨⟩⟩ ⟨(bn rfl), ⟨⟩⟩)
 intro F6 MS y4 MT h Il
 subst Il
 refine aB.round (.d (.d ⟨rfl, ⟨rfl, _, rfl, (sD h (fun nr h => ?_) (fun nr h => ?_))⟩⟩))
 refine .d (.d ⟨rfl, ⟨rfl, _, rfl, (bk h fun x8 Ar h => ⟨aK Ar, _, (aD Ar).trans rfl, (sE h (fun iy h => ?_) (fun iy h => ?_))⟩)⟩⟩)
 refine .d ?_
 exact agn
 exact lg (MS _ _ h rfl) (tk [0] ⟨.s, .p, .i, ⟨⟩⟩ ⟨(bn rfl), ⟨⟩⟩)
 exact agQ
 exact agl
def ca (a0 : aC) (y6 : Int) : Option ((Unit) ⊕ Bool) :=
 (if y6 < (a0.ay.length : Int) then
 idx a0.ay y6 >>= fun th =>
 gT th >>= fun v12 =>
 (if v12 = true then
 (if th = ([116, 104, 105, 115] : aU) then
 some (.inr false)
 else
 pM a0 th >>= fun du =>
 (if du = y6 then
 (if y6 < (a0.av.length : Int) then
 idx a0.av y6 >>= fun we =>
 (if we.az = th then
 (if y6 ≥ (a0.av.length : Int) then
 (if (ai (y6 - (a0.av.length : Int))) < (a0.aM.length : Int) then
 idx a0.aM (ai (y6 - (a0.av.length : Int))) >>= fun Bb =>
 (if Bb.az = th then
 ca a0 (ai (y6 + 1))
 else
 some (.inr false))
 else
 ca a0 (ai (y6 + 1)))
 else
 ca a0 (ai (y6 + 1)))
 else
 some (.inr false))
 else
 (if y6 ≥ (a0.av.length : Int) then
 (if (ai (y6 - (a0.av.length : Int))) < (a0.aM.length : Int) then
 idx a0.aM (ai (y6 - (a0.av.length : Int))) >>= fun Sa =>
 (if Sa.az = th then
 ca a0 (ai (y6 + 1))
 else
 some (.inr false))
 else
 ca a0 (ai (y6 + 1)))
 else
 ca a0 (ai (y6 + 1))))
 else
 some (.inr false)))
 else
 some (.inr false))
 else
 some (.inl ()))
partial_fixpoint
def oX (a0 : aC) : Option (Bool) :=
 (if (a0.ay.length : Int) > 600 then
 some false
 else
 (if (ai ((a0.av.length : Int) + (a0.aM.length : Int))) > (a0.ay.length : Int) then
 some false
 else
 ((
 ca a0 0
 : Option ((Unit) ⊕ Bool)) >>= fun o3 => match o3 with
 | .inr r => some r
 | .inl _ =>
 some true
 )))
theorem C5 {a0 : aC} {r : Bool} (h : oX a0 = some r) : ACall Tryz.prog 92 [.agg a0.lit] [] (fun res h => res = .bool r ∧ h = []) := by
 refine dx Tryz.func92 ?_
 unfold oX at h
 refine .d (.d ⟨rfl, ⟨rfl, _, rfl, (.d (.d ⟨rfl, ⟨rfl, _, rfl, (sD h (fun eD h => ?_) (fun eD h => ?_))⟩⟩))⟩⟩)
 exact ahi
 refine .f ⟨rfl, (.f ⟨rfl, _, rfl, (.f (.f (.f ⟨rfl, (.f ⟨rfl, _, rfl, (.f (.f (.f (sD h (fun jo h => ?_) (fun jo h => ?_)))))⟩)⟩)))⟩)⟩
 exact agP
 obtain ⟨o3, TG, KX⟩ := bd h
 replace h := TG
 refine .cut (fun σ η => .inl () = o3 ∧ σ = [] ∧ η = []) ?_ ?_
 refine .d ?_
 refine le (ca.partial_correctness a0 (motive := fun y6 J4 => o3 = J4 → aB _ _ [(1, .aG 0 0 0 0), (3, .int .i64 (a0.av.length : Int)), (4, .int .i64 y6)] [.row 0 6 1 57 (fun _ => a0.lit)]) ?_ 0 o3 h rfl) (tk [0] ⟨.p, .i, .i, ⟨⟩⟩ ⟨(bn rfl), ⟨⟩⟩)
 intro F8 zr y6 J4 h abr
 subst abr
 refine aB.round (.d (.d ⟨rfl, ⟨rfl, _, rfl, (sD h (fun qu h => ?_) (fun qu h => ?_))⟩⟩))
 refine .d (.d ⟨rfl, ⟨rfl, _, rfl, (bk h fun th nZ h => ⟨aK nZ, _, (aD nZ).trans rfl, (.d (bk h fun v12 tz h => (bJ (oV tz) (hB h (fun jd h => ?_) (fun jd h => ?_)))))⟩)⟩⟩)
 refine .t (.t (.t (.t (.t (.t (.t (.t (.t (.t (.t (.t (.t (.t (.t ?_))))))))))))))
 refine .t (.t (.t (.t (.t (.t (.t (.t (.d ?_))))))))
 exact agi
 refine .f (.f (sE h (fun eE h => ?_) (fun eE h => ?_)))
 refine .t (.t (.t (.t (.t (.t (.t (.t (.t (.t (.t (.t (.t (.t (.t ?_))))))))))))))
 refine .t (.t (.t (.t (.t (.d ?_)))))
 exact agi
 refine ⟨rfl, _, rfl, (.f (.f (bk h fun du tP h => (bJ (Gy tP) (.f (.f (.f (sN h (fun lG h => ?_) (fun lG h => ?_)))))))))⟩
 refine .t (.t (.t (.t (.t (.t (.t (.t (.t (.t (.t (.t (.t (.t (.d ?_))))))))))))))
 exact agi
 refine .f (.f (.f (sD h (fun lH h => ?_) (fun lH h => ?_))))
 refine ⟨rfl, (.t ⟨rfl, _, rfl, (.t (.t (bk h fun we oD h => ⟨aK oD, _, (aD oD).trans (TParam.aA we), (.t (.t (.t (.t (.f (.t (.f (nq h (fun kS h => ?_) (fun kS h => ?_)))))))))⟩)))⟩)⟩
 refine .t (.t (.t (.t (.t (.t (.t (.t (.d ?_))))))))
 exact agi
 refine .f (.f (.f (sD h (fun oT h => ?_) (fun oT h => ?_))))
 refine .t (.t (.t ⟨rfl, (.t ⟨rfl, _, rfl, (.t (.t (.f (.t (.f (sD h (fun oU h => ?_) (fun oU h => ?_)))))))⟩)⟩))
 refine ⟨rfl, (.t ⟨rfl, _, rfl, (.t (.t (.t (.t (bk h fun Bb rA h => ⟨aK rA, _, (aD rA).trans (TParam.aA Bb), (.t (.t (.t (.t (.f (.t ?_))))))⟩)))))⟩)⟩
 refine .f (nq h (fun n7 h => ?_) (fun n7 h => ?_))
 refine .d ?_
 exact agi
 exact lg (zr _ _ h rfl) (tk [0] ⟨.p, .i, .i, ⟨⟩⟩ ⟨(bn rfl), ⟨⟩⟩)
 exact .f (.f (.f (.f (.f (.f (.f (.f (.f (.f (.f (.f (.f (lg (zr _ _ h rfl) (tk [0] ⟨.p, .i, .i, ⟨⟩⟩ ⟨(bn rfl), ⟨⟩⟩))))))))))))))
 refine .f (.f (.f (.f (.f (.f (.f (.f (.f (.f (.f (.f (.f (.f (.f ?_))))))))))))))
 exact .f (.f (.f (.f (.f (.f (.f (.f (lg (zr _ _ h rfl) (tk [0] ⟨.p, .i, .i, ⟨⟩⟩ ⟨(bn rfl), ⟨⟩⟩)))))))))
 refine .f (.f (.f (.f (.f (.f (.f (.f (.f (.f (.f (.f (.f (.f (sD h (fun pD h => ?_) (fun pD h => ?_)))))))))))))))
 refine .t (.t (.t ⟨rfl, (.t ⟨rfl, _, rfl, (.t (.t (.f (.t (.f (sD h (fun qV h => ?_) (fun qV h => ?_)))))))⟩)⟩))
 refine ⟨rfl, (.t ⟨rfl, _, rfl, (.t (.t (.t (.t (bk h fun Sa EJ h => ⟨aK EJ, _, (aD EJ).trans (TParam.aA Sa), (.t (.t (.t (.t (.f (.t ?_))))))⟩)))))⟩)⟩
 refine .f (nq h (fun wg h => ?_) (fun wg h => ?_))
 refine .d ?_
 exact agi
 exact lg (zr _ _ h rfl) (tk [0] ⟨.p, .i, .i, ⟨⟩⟩ ⟨(bn rfl), ⟨⟩⟩)
 exact .f (.f (.f (.f (.f (.f (.f (.f (.f (.f (.f (.f (.f (lg (zr _ _ h rfl) (tk [0] ⟨.p, .i, .i, ⟨⟩⟩ ⟨(bn rfl), ⟨⟩⟩))))))))))))))
 refine .f (.f (.f (.f (.f (.f (.f (.f (.f (.f (.f (.f (.f (.f (.f ?_))))))))))))))
 exact .f (.f (.f (.f (.f (.f (.f (.f (lg (zr _ _ h rfl) (tk [0] ⟨.p, .i, .i, ⟨⟩⟩ ⟨(bn rfl), ⟨⟩⟩)))))))))
 exact agQ
 rintro _ _ ⟨rfl, rfl, rfl⟩
 replace h := KX
 exact agP
set_option maxRecDepth 100000
def dL (a0 : Int) (a1 : Int) (a2 : List Int) (a3 : List Int) : Option (Bool × (List Int) × (List Int)) :=
 ((
 (if a0 ≥ (a2.length : Int) then
 some (.inr (false, a2, a3))
 else
 zu a1 0 500 >>= fun v5 =>
 (if v5 = true then
 idx a2 a0 >>= fun x8 =>
 (if x8 ≥ 0 then
 idx a2 a0 >>= fun qq =>
 (if qq = a1 then
 some (.inl ())
 else
 some (.inr (false, a2, a3)))
 else
 some (.inl ()))
 else
 some (.inr (false, a2, a3))))
 : Option ((Unit) ⊕ (Bool × (List Int) × (List Int)))) >>= fun o1 => match o1 with
 | .inr r => some r
 | .inl _ =>
 idx a2 a0 >>= fun K0 =>
 (if K0 < 0 then
 idx a2 a0 >>= fun ns =>
 im 8 a3 ([a0] : List Int) >>= fun Mg =>
 some (true, (a2.set a0.toNat a1), Mg)
 else
 some (true, a2, a3))
 )
theorem mU {a0 : Int} {a1 : Int} {a2 : List Int} {a3 : List Int} {r : Bool × (List Int) × (List Int)} {g1000 : Nat} {g1001 : Nat} {g1002 : Nat} {g1003 : Nat} (h : dL a0 a1 a2 a3 = some r) : ACall Tryz.prog 150 [.int .i64 a0, .int .i64 a1, .aG 0 g1000 0 0, .aG 2 g1002 0 0] [.row g1000 1 1 144 (fun _ => [.own 1 g1001 0 a2.length]), .row g1001 1 a2.length 3 (row cI a2), .row g1002 1 1 144 (fun _ => [.own 3 g1003 0 a3.length]), .row g1003 1 a3.length 3 (row cI a3)] (fun res h => ∃ G1 : Nat, ∃ G3 : Nat, res = .bool r.1 ∧ h = [.row g1000 1 1 144 (fun _ => [.own 1 G1 0 r.2.1.length]), .row G1 1 r.2.1.length 3 (row cI r.2.1), .row g1002 1 1 144 (fun _ => [.own 3 G3 0 r.2.2.length]), .row G3 1 r.2.2.length 3 (row cI r.2.2)]) := by
 refine dx Tryz.func150 ?_
 unfold dL at h
 refine .d ?_
 obtain ⟨o1, yz, mE⟩ := bd h
 replace h := yz
 refine .cut (fun σ η => .inl () = o1 ∧ σ = [(0, .int .i64 a0), (1, .int .i64 a1), (2, .aG 0 g1000 0 0), (3, .aG 2 g1002 0 0)] ∧ η = [.row g1000 1 1 144 (fun _ => [.own 1 g1001 0 a2.length]), .row g1001 1 a2.length 3 (row cI a2), .row g1002 1 1 144 (fun _ => [.own 3 g1003 0 a3.length]), .row g1003 1 a3.length 3 (row cI a3)]) ?_ ?_
 refine .d ⟨rfl, _, rfl, ⟨rfl, (sD h (fun oN h => ?_) (fun oN h => ?_))⟩⟩
 refine .t (.t (.t (.t (.t (.t (.t (.t (.t (.t (.t (.t (.d ?_))))))))))))
 obtain rfl := si h
 exact agc
 refine .f (bk h fun v5 Ac h => (bJ (vw Ac) (.f (.f (hB h (fun nr h => ?_) (fun nr h => ?_))))))
 refine .t (.t (.t (.t (.t (.t (.t (.t (.d ?_))))))))
 obtain rfl := si h
 exact agc
 refine ⟨rfl, _, rfl, (.f (.f (bk h fun x8 Ar h => ⟨rfl, aK Ar, _, adX _, (.f ⟨rfl, _, ((aD Ar).trans rfl), (.f (.f (sD h (fun iy h => ?_) (fun iy h => ?_))))⟩)⟩)))⟩
 refine ⟨rfl, _, rfl, (.t (.t (bk h fun qq iB h => ⟨rfl, aK iB, _, adX _, (.t ⟨rfl, _, ((aD iB).trans rfl), (.t (.t (.f (.t (.f (sN h (fun kM h => ?_) (fun kM h => ?_)))))))⟩)⟩)))⟩
 refine .d ?_
 obtain rfl := si h
 exact agc
 exact ct ⟨si h, rfl, rfl⟩ (tk [0, 1, 2, 3] ⟨.i, .i, .p, .p, ⟨⟩⟩ ⟨(ob rfl ⟨.o, ⟨⟩⟩), od, (ob rfl ⟨.o, ⟨⟩⟩), od, ⟨⟩⟩)
 exact .f (.f (.f (.f (.f (.f (.f (.f (.f (ct ⟨si h, rfl, rfl⟩ (tk [0, 1, 2, 3] ⟨.i, .i, .p, .p, ⟨⟩⟩ ⟨(ob rfl ⟨.o, ⟨⟩⟩), od, (ob rfl ⟨.o, ⟨⟩⟩), od, ⟨⟩⟩))))))))))
 rintro _ _ ⟨rfl, rfl, rfl⟩
 replace h := mE
 refine .d (.d ⟨rfl, _, rfl, (bk h fun K0 qe h => ⟨rfl, aK qe, _, adX _, ⟨rfl, _, ((aD qe).trans rfl), (sD h (fun kz h => ?_) (fun kz h => ?_))⟩⟩)⟩)
 refine .d ⟨rfl, _, rfl, (bk h fun ns sj h => ⟨rfl, aK sj, _, adX _, ⟨rfl, _, row cI (a2.set a0.toNat a1), ((aD sj).trans rfl), sw (kO sj) rfl ⟨.same _, trivial⟩, ⟨rfl, _, rfl, ⟨row cI ([a0] : List Int), de cI ([a0] : List Int) rfl (cD rfl), (bk h fun Mg wa h => ⟨rfl, rfl, lI (l := ([a0] : List Int)) aS, eL wa, Mg.length, row cI Mg, dq wa, dB wa aS (jr aS), ⟨rfl, _, fun _ => [.own 3 (g1003 + 1) 0 Mg.length], rfl, ar rfl, (.d ?_)⟩⟩)⟩⟩⟩⟩)⟩
 obtain rfl := si h
 exact en [0, 1, 2, 3] ⟨g1001, (g1003 + 1), rfl, rfl⟩ .b ⟨(ob rfl ⟨(.ox ln), ⟨⟩⟩), (odx rfl ln), (ob rfl ⟨.o, ⟨⟩⟩), od, ⟨⟩⟩
 refine .d ?_
 obtain rfl := si h
 exact en [0, 1, 2, 3] ⟨g1001, g1003, rfl, rfl⟩ .b ⟨(ob rfl ⟨.o, ⟨⟩⟩), od, (ob rfl ⟨.o, ⟨⟩⟩), od, ⟨⟩⟩
def jB (a0 : aC) (l8 : List Int) (y9 : Int) : Option (((List Int)) ⊕ ((List Int) × Bool)) :=
 (if y9 < (a0.ax.length : Int) then
 idx a0.ax y9 >>= fun tL =>
 km tL (a0.ay.length : Int) (a0.ax.length : Int) >>= fun tW =>
 (if tW = true then
 idx l8 y9 >>= fun aX =>
 jB a0 (l8.set y9.toNat (-1)) (ai (y9 + 1))
 else
 some (.inr ([], false)))
 else
 some (.inl l8))
partial_fixpoint
def cJ (a0 : aC) (wT : List Int) (yh : List Int) : Option (((List Int)) ⊕ ((List Int) × Bool)) :=
 (if (yh.length : Int) > 0 then
 idx yh (ai ((yh.length : Int) - 1)) >>= fun Gr =>
 (
 Se yh (ai ((yh.length : Int) - 1)) >>= fun K8 =>
 some K8
 : Option ((List Int))) >>= fun CL =>
 idx a0.ax Gr >>= fun CM =>
 idx wT Gr >>= fun qW =>
 iR CM >>= fun Mh =>
 (if Mh > qW then
 some (.inr ([], false))
 else
 iQ CM.a8 >>= fun HZ =>
 (if HZ = true then
 cU CM.a8 >>= fun v72 =>
 (if v72 = true then
 dj CM.a8 >>= fun v75 =>
 dL CM.fA (ai (qW + v75)) wT CL >>= fun (ig, Gz, Sf) =>
 (if ig = true then
 cJ a0 Gz Sf
 else
 some (.inr ([], false)))
 else
 cJ a0 wT CL)
 else
 fO CM >>= fun v51 =>
 dL (ai (Gr + 1)) (ai (qW + v51)) wT CL >>= fun (v53, vH, H0) =>
 (if v53 = true then
 cU CM.a8 >>= fun Bk =>
 (if Bk = true then
 dj CM.a8 >>= fun mF =>
 dL CM.fA (ai (qW + mF)) vH H0 >>= fun (CN, su, J8) =>
 (if CN = true then
 cJ a0 su J8
 else
 some (.inr ([], false)))
 else
 cJ a0 vH H0)
 else
 some (.inr ([], false)))))
 else
 some (.inl wT))
partial_fixpoint
def jg (a0 : aC) : Option ((List Int) × Bool) :=
 (if (a0.ax.length : Int) = 0 then
 some ([], false)
 else
 (xc 8 (a0.ax.length : Int) (a0.ax.length : Int) : Option (List Int)) >>= fun l2 =>
 ((
 jB a0 l2 0
 : Option (((List Int)) ⊕ ((List Int) × Bool))) >>= fun o5 => match o5 with
 | .inr r => some r
 | .inl l4 =>
 idx l4 0 >>= fun Qv =>
 ((
 cJ a0 (l4.set ((0 : Int).toNat) 0) ([0] : List Int)
 : Option (((List Int)) ⊕ ((List Int) × Bool))) >>= fun Md => match Md with
 | .inr r => some r
 | .inl E0 =>
 some (E0, true)
 )
 ))
theorem tZ {a0 : aC} {r : (List Int) × Bool} (h : jg a0 = some r) : ACall Tryz.prog 108 [.agg a0.lit] [] (fun res h => res = .fu [sl 1 cI r.1, .bool r.2] ∧ h = []) := by
 refine dx Tryz.func108 ?_
 unfold jg at h
 refine .d (.d (.d ⟨rfl, ⟨rfl, _, rfl, (sE h (fun eD h => ?_) (fun eD h => ?_))⟩⟩))
 refine .d ?_
 obtain rfl := si h
 exact en [] ⟨rfl, rfl⟩ (.bq ⟨.z, .b, ⟨⟩⟩) ⟨⟩
 refine .d ⟨rfl, ⟨rfl, _, rfl, (bk h fun l2 P6 h => ⟨Bl P6, l2.length, row cI l2, uR P6, yC P6 rfl ⟨.same _, trivial⟩, ⟨rfl, _, fun _ => [.own 1 0 0 l2.length], rfl, ar rfl, ?_⟩⟩)⟩⟩
 obtain ⟨o5, ym, wS⟩ := bd h
 replace h := ym
 refine .cut (fun σ η => ∃ l4, .inl l4 = o5 ∧ σ = [(1, .aG 0 0 0 0), (4, .aG 1 0 0 0)] ∧ η = [.row 0 6 1 57 (fun _ => a0.lit), .row 0 1 1 144 (fun _ => [.own 2 0 0 l4.length]), .row 0 1 l4.length 3 (row cI l4)]) ?_ ?_
 refine .d ⟨rfl, ⟨rfl, _, rfl, ?_⟩⟩
 refine le (jB.partial_correctness a0 (motive := fun l8 y9 Ij => o5 = Ij → aB _ _ [(1, .aG 0 0 0 0), (4, .aG 1 0 0 0), (21, sl 5 aL.cells a0.ax), (22, .int .i64 (a0.ax.length : Int)), (23, .int .i64 y9)] [.row 0 6 1 57 (fun _ => a0.lit), .row 0 1 1 144 (fun _ => [.own 2 0 0 l8.length]), .row 0 1 l8.length 3 (row cI l8)]) ?_ l2 0 o5 h rfl) (tk [0, 2, 1] ⟨.p, .p, .l, .i, .i, ⟨⟩⟩ ⟨(bn rfl), (nb rfl ⟨.o, ⟨⟩⟩), nw, ⟨⟩⟩)
 intro F11 Uo l8 y9 Ij h Ik
 subst Ik
 refine aB.round (.d (.d (sD h (fun me h => ?_) (fun me h => ?_))))
 refine .d (.d (bk h fun tL tT h => ⟨aK tT, _, (aD tT).trans (aL.aA tL), ⟨rfl, _, fun _ => [.int .i64 tL.a8, .int .i64 tL.fA, .int .i64 tL.fB, .str tL.fS, .str tL.fT], rfl, ar rfl, (.d (.d ⟨rfl, _, rfl, ⟨rfl, ⟨rfl, _, rfl, ⟨rfl, ⟨rfl, _, rfl, (bk h fun tW yB h => (bJ (Ir yB) (hB h (fun jO h => ?_) (fun jO h => ?_))))⟩⟩⟩⟩⟩))⟩⟩))
 refine .d ?_
 obtain rfl := si h
 replace h := wS
 obtain rfl := si h
 exact en [] ⟨rfl, rfl⟩ (.bq ⟨.z, .b, ⟨⟩⟩) ⟨⟩
 exact ⟨rfl, _, rfl, (bk h fun aX dK h => ⟨rfl, aK dK, _, adX _, ⟨rfl, _, row cI (l8.set y9.toNat (-1)), ((aD dK).trans rfl), sw (kO dK) rfl ⟨.same _, trivial⟩, (lg (Uo _ _ _ h rfl) (tk [0, 1, 2] ⟨.p, .p, .l, .i, .i, ⟨⟩⟩ ⟨(bn rfl), (nb rfl ⟨(.ox ln), ⟨⟩⟩), (Up rfl ln), ⟨⟩⟩))⟩⟩)⟩
 exact ct ⟨_, si h, rfl, rfl⟩ (tk [0, 1, 2] ⟨.p, .p, ⟨⟩⟩ ⟨(bn rfl), (nb rfl ⟨.o, ⟨⟩⟩), nw, ⟨⟩⟩)
 rintro _ _ ⟨l4, rfl, rfl, rfl⟩
 replace h := wS
 refine .d ⟨rfl, _, rfl, (bk h fun Qv K1 h => ⟨rfl, aK K1, _, adX _, ⟨rfl, _, row cI (l4.set ((0 : Int).toNat) 0), ((aD K1).trans rfl), sw (kO K1) rfl ⟨.same _, trivial⟩, (.d ⟨row cI ([0] : List Int), de cI ([0] : List Int) rfl (cD rfl), ⟨rfl, _, fun _ => [.own 3 0 0 ([0] : List Int).length], rfl, ar rfl, (.d ?_)⟩⟩)⟩⟩)⟩
 obtain ⟨Md, M5, ER⟩ := bd h
 replace h := M5
 refine .cut (fun σ η => ∃ E0, .inl E0 = Md ∧ σ = [(4, .aG 0 0 0 0)] ∧ η = [.row 0 1 1 144 (fun _ => [.own 1 0 0 E0.length]), .row 0 1 E0.length 3 (row cI E0)]) ?_ ?_
 refine le (cJ.partial_correctness a0 (motive := fun wT yh o84 => Md = o84 → aB _ _ [(1, .aG 0 0 0 0), (4, .aG 1 0 0 0), (7, .aG 3 0 0 0), (8, .oP 150 [(1, 0), (3, 0)])] [.row 0 6 1 57 (fun _ => a0.lit), .row 0 1 1 144 (fun _ => [.own 2 0 0 wT.length]), .row 0 1 wT.length 3 (row cI wT), .row 0 1 1 144 (fun _ => [.own 4 0 0 yh.length]), .row 0 1 yh.length 3 (row cI yh)]) ?_ (l4.set ((0 : Int).toNat) 0) ([0] : List Int) Md h rfl) (tk [0, 1, 2, 4, 3] ⟨.p, .p, .p, (.Dz ⟨⟨rfl, ⟨_, _, _, _, rfl⟩, ⟨_, _, _, _, rfl, aeK⟩⟩, ⟨rfl, ⟨_, _, _, _, rfl⟩, ⟨_, _, _, _, rfl, aeK⟩⟩, trivial⟩), ⟨⟩⟩ ⟨(bn rfl), (nb rfl ⟨(.ox ln), ⟨⟩⟩), (Up rfl ln), (nb rfl ⟨.o, ⟨⟩⟩), nw, ⟨⟩⟩)
 intro F31 Qz wT yh o84 h abt
 subst abt
 refine aB.round (.d (.d ⟨rfl, _, rfl, ⟨rfl, (sD h (fun wg h => ?_) (fun wg h => ?_))⟩⟩))
 refine .d ⟨rfl, _, rfl, ⟨rfl, _, rfl, ⟨rfl, (bk h fun Gr Ah h => ⟨rfl, aK Ah, _, adX _, ⟨rfl, _, ((aD Ah).trans rfl), ?_⟩⟩)⟩⟩⟩
 obtain ⟨Uq, Ur, Bm⟩ := bd h
 replace h := Ur
 refine .cut (fun σ η => ∃ CL, CL = Uq ∧ σ = [(1, .aG 0 0 0 0), (4, .aG 1 0 0 0), (7, .aG 3 0 0 0), (8, .oP 150 [(1, 0), (3, 0)]), (9, .int .i64 Gr)] ∧ η = [.row 0 6 1 57 (fun _ => a0.lit), .row 0 1 1 144 (fun _ => [.own 2 0 0 wT.length]), .row 0 1 wT.length 3 (row cI wT), .row 0 1 1 144 (fun _ => [.own 4 0 0 CL.length]), .row 0 1 CL.length 3 (row cI CL)]) ?_ ?_
 exact ⟨rfl, _, rfl, ⟨rfl, _, rfl, ⟨rfl, (bk h fun K8 C6 h => ⟨rfl, trivial, Iz C6, _, K8.length, rfl, E3 C6, ⟨rfl, _, fun _ => [.own 4 0 0 K8.length], rfl, ar rfl, (ct ⟨_, si h, rfl, rfl⟩ (tk [0, 1, 2, 3, 4] ⟨.p, .p, .p, (.Dz ⟨⟨rfl, ⟨_, _, _, _, rfl⟩, ⟨_, _, _, _, rfl, aeK⟩⟩, ⟨rfl, ⟨_, _, _, _, rfl⟩, ⟨_, _, _, _, rfl, aeK⟩⟩, trivial⟩), .i, ⟨⟩⟩ ⟨(bn rfl), (nb rfl ⟨.o, ⟨⟩⟩), nw, (nb rfl ⟨.o, ⟨⟩⟩), ⟨fun h0 => absurd (show 4 < 0 from h0) ahx, rfl, .inr ⟨(show 0 ≤ 4 by decide), ahx, (Us C6)⟩, rfl, (Nb mV (K9 aS C6))⟩, ⟨⟩⟩))⟩⟩)⟩⟩⟩
 rintro _ _ ⟨CL, rfl, rfl, rfl⟩
 replace h := Bm
 refine .d ⟨rfl, ⟨rfl, _, rfl, (bk h fun CM X3 h => ⟨aK X3, _, (aD X3).trans (aL.aA CM), ⟨rfl, _, fun _ => [.int .i64 CM.a8, .int .i64 CM.fA, .int .i64 CM.fB, .str CM.fS, .str CM.fT], rfl, ar rfl, (.d ⟨rfl, _, rfl, (bk h fun qW GA h => ⟨rfl, aK GA, _, adX _, ⟨rfl, _, ((aD GA).trans rfl), (.d (.float [(0, true), (2, true), (1, false), (3, true), (4, true), (5, true), (6, true), (7, false), (8, true), (9, true), (10, true), (11, true), (12, true), (13, true), (14, true), (15, false), (16, true), (17, false), (18, true), (19, true), (20, true), (21, true), (22, true), (23, true), (24, false), (25, true), (26, true), (27, true), (28, true), (29, true), (30, true), (31, true), (32, false), (33, true), (34, false), (35, true), (36, true), (37, true)] ahA ?_))⟩⟩)⟩)⟩⟩)⟩⟩
 refine ⟨rfl, _, rfl, (bk h fun Mh Ut h => (bJ (EN Ut) (sD h (fun Iq h => ?_) (fun Iq h => ?_))))⟩
 refine .t (.t (.t (.t (.t (.t (.t (.t (.t (.t ⟨rfl, (.t (.t (.t (.d ?_))))⟩)))))))))
 obtain rfl := si h
 exact agh
 refine ⟨rfl, (.f ⟨rfl, _, rfl, (.f (bk h fun HZ Nc h => (bJ (EM Nc) (.f (.f (hB h (fun Iv h => ?_) (fun Iv h => ?_)))))))⟩)⟩
 refine .t (.t (.t (.t ⟨rfl, _, rfl, (.t (bk h fun v51 abu h => (bJ (Bf abu) (.t (.t ?_)))))⟩)))
 obtain ⟨⟨v53, vH, H0⟩, Nd, h⟩ := bd h
 refine ⟨fun res h' => ∃ Sg : Nat, ∃ Sh : Nat, res = .bool v53 ∧ h' = [.row 0 6 1 57 (fun _ => a0.lit), .row 0 1 1 144 (fun _ => [.own 2 Sg 0 vH.length]), .row Sg 1 vH.length 3 (row cI vH), .row 0 1 1 144 (fun _ => [.own 4 Sh 0 H0.length]), .row Sh 1 H0.length 3 (row cI H0), .row 0 5 1 64 (fun _ => CM.lit)], (ACall.over (mU (g1000 := 0) (g1001 := 0) (g1002 := 0) (g1003 := 0) Nd) [1, 2, 3, 4] [.row 0 6 1 57 (fun _ => a0.lit), .row 0 1 1 144 (fun _ => [.own 2 0 0 wT.length]), .row 0 1 wT.length 3 (row cI wT), .row 0 1 1 144 (fun _ => [.own 4 0 0 CL.length]), .row 0 1 CL.length 3 (row cI CL), .row 0 5 1 64 (fun _ => CM.lit)] rfl ahx ahy (by intro j o hj; exact match j, hj with | 0, hj => by cases hj; rfl | 1, hj => by cases hj; exact (congrArg some (k8 mV _ _ _ _ _ _)).symm | 2, hj => by cases hj; rfl | 3, hj => by cases hj; exact (congrArg some (k8 mV _ _ _ _ _ _)).symm | j + 4, hj => by cases hj) rfl).mono (by rintro _ _ ⟨_, _, ⟨Sg, Sh, rfl, rfl⟩, rfl, rfl⟩; exact ⟨Sg, Sh, rfl, ahU⟩), ?_⟩
 rintro _ _ ⟨Sg, Sh, rfl, rfl⟩
 refine .t (.f (.t (.f (hB h (fun Bj h => ?_) (fun Bj h => ?_)))))
 refine .t (.t (.t ⟨rfl, (.t (.t (.t (.d ?_))))⟩))
 obtain rfl := si h
 exact agh
 refine ⟨rfl, (.f ⟨rfl, _, rfl, (.f (bk h fun Bk Uu h => (bJ (pJ Uu) (.f (sV h (fun Nf h => ?_) (fun Nf h => ?_))))))⟩)⟩
 refine .t ⟨rfl, (.t ⟨rfl, _, rfl, (.t (.t ⟨rfl, (.t ⟨rfl, _, rfl, (.t (bk h fun mF Uv h => (bJ (qv Uv) ⟨rfl, ⟨rfl, (.t ?_)⟩⟩)))⟩)⟩))⟩)⟩
 refine .t ?_
 obtain ⟨⟨CN, su, J8⟩, Ng, h⟩ := bd h
 refine ⟨fun res h' => ∃ X4 : Nat, ∃ Nh : Nat, res = .bool CN ∧ h' = [.row 0 6 1 57 (fun _ => a0.lit), .row 0 1 1 144 (fun _ => [.own 2 X4 0 su.length]), .row X4 1 su.length 3 (row cI su), .row 0 1 1 144 (fun _ => [.own 4 Nh 0 J8.length]), .row Nh 1 J8.length 3 (row cI J8), .row 0 5 1 64 (fun _ => CM.lit)], (ACall.over (mU (g1000 := 0) (g1001 := Sg) (g1002 := 0) (g1003 := Sh) Ng) [1, 2, 3, 4] [.row 0 6 1 57 (fun _ => a0.lit), .row 0 1 1 144 (fun _ => [.own 2 Sg 0 vH.length]), .row Sg 1 vH.length 3 (row cI vH), .row 0 1 1 144 (fun _ => [.own 4 Sh 0 H0.length]), .row Sh 1 H0.length 3 (row cI H0), .row 0 5 1 64 (fun _ => CM.lit)] rfl ahx ahy (by intro j o hj; exact match j, hj with | 0, hj => by cases hj; rfl | 1, hj => by cases hj; exact (congrArg some (k8 mV _ _ _ _ _ _)).symm | 2, hj => by cases hj; rfl | 3, hj => by cases hj; exact (congrArg some (k8 mV _ _ _ _ _ _)).symm | j + 4, hj => by cases hj) rfl).mono (by rintro _ _ ⟨_, _, ⟨X4, Nh, rfl, rfl⟩, rfl, rfl⟩; exact ⟨X4, Nh, rfl, ahU⟩), ?_⟩
 rintro _ _ ⟨X4, Nh, rfl, rfl⟩
 refine .t (.f (.t (.f (hB h (fun abv h => ?_) (fun abv h => ?_)))))
 refine .d ?_
 obtain rfl := si h
 exact agh
 exact lg (Qz _ _ _ h rfl) (tk [0, 1, 2, 3, 4] ⟨.p, .p, .p, (.Dz ⟨⟨rfl, ⟨_, _, _, _, rfl⟩, ⟨_, _, _, _, rfl, aeK⟩⟩, ⟨rfl, ⟨_, _, _, _, rfl⟩, ⟨_, _, _, _, rfl, aeK⟩⟩, trivial⟩), ⟨⟩⟩ ⟨(bn rfl), (nb rfl ⟨.o, ⟨⟩⟩), nw, (nb rfl ⟨.o, ⟨⟩⟩), nw, ⟨⟩⟩)
 exact .f (.f (.f (.f (.f (.f ⟨rfl, (.f (.f (.f (.f (.f (.f (.f (lg (Qz _ _ _ h rfl) (tk [0, 1, 2, 3, 4] ⟨.p, .p, .p, (.Dz ⟨⟨rfl, ⟨_, _, _, _, rfl⟩, ⟨_, _, _, _, rfl, aeK⟩⟩, ⟨rfl, ⟨_, _, _, _, rfl⟩, ⟨_, _, _, _, rfl, aeK⟩⟩, trivial⟩), ⟨⟩⟩ ⟨(bn rfl), (nb rfl ⟨.o, ⟨⟩⟩), nw, (nb rfl ⟨.o, ⟨⟩⟩), nw, ⟨⟩⟩)))))))))⟩)))))
 refine .f (.f (.f (.f (.f (.f (.f (.f (.f (.f (.f (.f ⟨rfl, (.f ⟨rfl, _, rfl, ?_⟩)⟩)))))))))))
 refine .f (bk h fun v72 Uw h => (bJ (pJ Uw) (.f (sV h (fun Ni h => ?_) (fun Ni h => ?_)))))
 refine .t ⟨rfl, (.t ⟨rfl, _, rfl, (.t (.t ⟨rfl, (.t ⟨rfl, _, rfl, (.t (bk h fun v75 Iy h => (bJ (qv Iy) ⟨rfl, ⟨rfl, (.t ?_)⟩⟩)))⟩)⟩))⟩)⟩
 refine .t ?_
 obtain ⟨⟨ig, Gz, Sf⟩, Ux, h⟩ := bd h
 refine ⟨fun res h' => ∃ X5 : Nat, ∃ X6 : Nat, res = .bool ig ∧ h' = [.row 0 6 1 57 (fun _ => a0.lit), .row 0 1 1 144 (fun _ => [.own 2 X5 0 Gz.length]), .row X5 1 Gz.length 3 (row cI Gz), .row 0 1 1 144 (fun _ => [.own 4 X6 0 Sf.length]), .row X6 1 Sf.length 3 (row cI Sf), .row 0 5 1 64 (fun _ => CM.lit)], (ACall.over (mU (g1000 := 0) (g1001 := 0) (g1002 := 0) (g1003 := 0) Ux) [1, 2, 3, 4] [.row 0 6 1 57 (fun _ => a0.lit), .row 0 1 1 144 (fun _ => [.own 2 0 0 wT.length]), .row 0 1 wT.length 3 (row cI wT), .row 0 1 1 144 (fun _ => [.own 4 0 0 CL.length]), .row 0 1 CL.length 3 (row cI CL), .row 0 5 1 64 (fun _ => CM.lit)] rfl ahx ahy (by intro j o hj; exact match j, hj with | 0, hj => by cases hj; rfl | 1, hj => by cases hj; exact (congrArg some (k8 mV _ _ _ _ _ _)).symm | 2, hj => by cases hj; rfl | 3, hj => by cases hj; exact (congrArg some (k8 mV _ _ _ _ _ _)).symm | j + 4, hj => by cases hj) rfl).mono (by rintro _ _ ⟨_, _, ⟨X5, X6, rfl, rfl⟩, rfl, rfl⟩; exact ⟨X5, X6, rfl, ahU⟩), ?_⟩
 rintro _ _ ⟨X5, X6, rfl, rfl⟩
 refine .t (.f (.t (.f (hB h (fun abw h => ?_) (fun abw h => ?_)))))
 refine .d ?_
 obtain rfl := si h
 exact agh
 exact lg (Qz _ _ _ h rfl) (tk [0, 1, 2, 3, 4] ⟨.p, .p, .p, (.Dz ⟨⟨rfl, ⟨_, _, _, _, rfl⟩, ⟨_, _, _, _, rfl, aeK⟩⟩, ⟨rfl, ⟨_, _, _, _, rfl⟩, ⟨_, _, _, _, rfl, aeK⟩⟩, trivial⟩), ⟨⟩⟩ ⟨(bn rfl), (nb rfl ⟨.o, ⟨⟩⟩), nw, (nb rfl ⟨.o, ⟨⟩⟩), nw, ⟨⟩⟩)
 exact .f (.f (.f (.f (.f (.f ⟨rfl, (.f (.f (.f (.f (.f (.f (.f (lg (Qz _ _ _ h rfl) (tk [0, 1, 2, 3, 4] ⟨.p, .p, .p, (.Dz ⟨⟨rfl, ⟨_, _, _, _, rfl⟩, ⟨_, _, _, _, rfl, aeK⟩⟩, ⟨rfl, ⟨_, _, _, _, rfl⟩, ⟨_, _, _, _, rfl, aeK⟩⟩, trivial⟩), ⟨⟩⟩ ⟨(bn rfl), (nb rfl ⟨.o, ⟨⟩⟩), nw, (nb rfl ⟨.o, ⟨⟩⟩), nw, ⟨⟩⟩)))))))))⟩)))))
 exact ct ⟨_, si h, rfl, rfl⟩ (tk [1, 2] ⟨.p, ⟨⟩⟩ ⟨(nb rfl ⟨.o, ⟨⟩⟩), nw, ⟨⟩⟩)
 rintro _ _ ⟨E0, rfl, rfl, rfl⟩
 replace h := ER
 refine .d ⟨rfl, _, rfl, ?_⟩
 obtain rfl := si h
 exact en [] ⟨rfl, rfl⟩ (.bq ⟨.r, .b, ⟨⟩⟩) ⟨⟩
def fW (a0 : List Int) (a1 : Int) (a2 : Int) : Option (Bool × Bool × (List Int)) :=
 ((
 (if a1 ≥ (a0.length : Int) then
 some (.inr (false, false, a0))
 else
 wh a2 0 500 >>= fun v5 =>
 (if v5 = true then
 idx a0 a1 >>= fun x8 =>
 (if x8 ≥ 0 then
 idx a0 a1 >>= fun qq =>
 (if qq = a2 then
 some (.inl ())
 else
 some (.inr (false, false, a0)))
 else
 some (.inl ()))
 else
 some (.inr (false, false, a0))))
 : Option ((Unit) ⊕ (Bool × Bool × (List Int)))) >>= fun o1 => match o1 with
 | .inr r => some r
 | .inl _ =>
 idx a0 a1 >>= fun K0 =>
 idx a0 a1 >>= fun Gm =>
 some ((decide (K0 < 0)), true, (a0.set a1.toNat a2))
 )
theorem xd {a0 : List Int} {a1 : Int} {a2 : Int} {r : Bool × Bool × (List Int)} {g1000 : Nat} (h : fW a0 a1 a2 = some r) : ACall Tryz.prog 136 [.own 0 g1000 0 a0.length, .int .i64 a1, .int .i64 a2] [.row g1000 1 a0.length 3 (row cI a0)] (fun res h => res = .fu [.bool r.1, .bool r.2.1] ∧ h = [.row g1000 1 a0.length 3 (row cI r.2.2)]) := by
 refine dx Tryz.func136 ?_
 unfold fW at h
 refine .d ?_
 obtain ⟨o1, yz, mE⟩ := bd h
 replace h := yz
 refine .cut (fun σ η => .inl () = o1 ∧ σ = [(0, .own 0 g1000 0 a0.length), (1, .int .i64 a1), (2, .int .i64 a2)] ∧ η = [.row g1000 1 a0.length 3 (row cI a0)]) ?_ ?_
 refine .d ⟨rfl, (sD h (fun oN h => ?_) (fun oN h => ?_))⟩
 refine .t (.t (.t (.t (.t (.t (.t (.t (.t (.t (.t (.t (.d ?_))))))))))))
 obtain rfl := si h
 exact agj
 refine .f (bk h fun v5 Ac h => (bJ (qf Ac) (.f (.f (hB h (fun nr h => ?_) (fun nr h => ?_))))))
 refine .t (.t (.t (.t (.t (.t (.t (.t (.d ?_))))))))
 obtain rfl := si h
 exact agj
 refine .f (.f (bk h fun x8 Ar h => ⟨rfl, aK Ar, _, adX _, (.f ⟨rfl, _, ((aD Ar).trans rfl), (.f (.f (sD h (fun iy h => ?_) (fun iy h => ?_))))⟩)⟩))
 refine .t (.t (bk h fun qq iB h => ⟨rfl, aK iB, _, adX _, (.t ⟨rfl, _, ((aD iB).trans rfl), (.t (.t (.f (.t (.f (sN h (fun kM h => ?_) (fun kM h => ?_)))))))⟩)⟩))
 refine .d ?_
 obtain rfl := si h
 exact agj
 exact ct ⟨si h, rfl, rfl⟩ (tk [0] ⟨.o, .i, .i, ⟨⟩⟩ ⟨od, ⟨⟩⟩)
 exact .f (.f (.f (.f (.f (.f (.f (.f (.f (ct ⟨si h, rfl, rfl⟩ (tk [0] ⟨.o, .i, .i, ⟨⟩⟩ ⟨od, ⟨⟩⟩))))))))))
 rintro _ _ ⟨rfl, rfl, rfl⟩
 replace h := mE
 refine .d (bk h fun K0 qe h => ⟨rfl, aK qe, _, adX _, ⟨rfl, _, ((aD qe).trans rfl), (.d (bk h fun Gm oS h => ⟨rfl, aK oS, _, adX _, ⟨rfl, _, row cI (a0.set a1.toNat a2), ((aD oS).trans rfl), sw (kO oS) rfl ⟨.same _, trivial⟩, (.d ?_)⟩⟩))⟩⟩)
 obtain rfl := si h
 exact en [0] ⟨rfl, rfl⟩ (.bq ⟨.b, .b, ⟨⟩⟩) ⟨(odx rfl ln), ⟨⟩⟩
theorem zy {a0 : List Int} {a1 a2 : Int} {b1 b2 : Bool} {l : List Int} (hv : fW a0 a1 a2 = some (b1, b2, l)) : l.length = a0.length := by
 unfold fW at hv
 obtain ⟨o1, h1, h2⟩ := bind_some hv
 cases o1 with
 | inl u =>
  obtain ⟨x, _, h2⟩ := bind_some h2
  obtain ⟨y, _, h2⟩ := bind_some h2
  cases h2
  simp
 | inr r =>
  cases h2
  suffices hh : ∀ o : (Unit ⊕ (Bool × Bool × List Int)), _ = some o → ∀ r, o = .inr r → r.2.2 = a0 by
   exact congrArg List.length (hh _ h1 _ rfl)
  intro o ho r hr
  subst hr
  split at ho
  ·cases ho; rfl
  ·obtain ⟨v, _, ho⟩ := bind_some ho
   split at ho
   ·obtain ⟨x, _, ho⟩ := bind_some ho
    split at ho
    ·obtain ⟨y, _, ho⟩ := bind_some ho
     split at ho
     ·cases ho
     ·cases ho; rfl
    ·cases ho
   ·cases ho; rfl
set_option maxRecDepth 100000
def jC (a0 : aC) (l5 : List Int) (y6 : Int) : Option (((List Int)) ⊕ ((List Int) × Bool)) :=
 (if y6 < (a0.ax.length : Int) then
 idx a0.ax y6 >>= fun th =>
 nF th (a0.ay.length : Int) (a0.ax.length : Int) >>= fun v12 =>
 (if v12 = true then
 im 8 l5 ([(-1)] : List Int) >>= fun tl =>
 jC a0 tl (ai (y6 + 1))
 else
 some (.inr (([] : List Int), false)))
 else
 some (.inl l5))
partial_fixpoint
def cV (a0 : aC) (wU : List Int) (Si : Bool) (wV : Int) : Option (((List Int) × Bool) ⊕ (((List Int)) ⊕ ((List Int) × Bool))) :=
 (if wV < (wU.length : Int) then
 idx a0.ax wV >>= fun H2 =>
 idx wU wV >>= fun x42 =>
 (if x42 < 0 then
 cV a0 wU Si (ai (wV + 1))
 else
 idx wU wV >>= fun x45 =>
 mr H2 >>= fun J9 =>
 (if J9 > x45 then
 some (.inr (.inr (([] : List Int), false)))
 else
 (
 kY H2.a8 >>= fun qX =>
 (if qX = true then
 some (wU, false, true)
 else
 idx wU wV >>= fun x59 =>
 jf H2 >>= fun yg =>
 fW wU (ai (wV + 1)) (ai (x59 + yg)) >>= fun (mF, vI, CN) =>
 some (CN, mF, vI))
 : Option ((List Int) × Bool × Bool)) >>= fun (Gf, Mi, Xa) =>
 (
 eO H2.a8 >>= fun Ka =>
 (if Ka = true then
 idx Gf wV >>= fun x77 =>
 fF H2.a8 >>= fun Sf =>
 fW Gf H2.fA (ai (x77 + Sf)) >>= fun (Nj, v82, Bi) =>
 some (Bi, Nj, v82)
 else
 some (Gf, false, true))
 : Option ((List Int) × Bool × Bool)) >>= fun (IA, X7, Nk) =>
 (if Xa = true then
 (if Nk = true then
 (if Si = true then
 cV a0 IA true (ai (wV + 1))
 else
 (if Mi = true then
 cV a0 IA true (ai (wV + 1))
 else
 cV a0 IA X7 (ai (wV + 1))))
 else
 some (.inr (.inr (([] : List Int), false))))
 else
 some (.inr (.inr (([] : List Int), false))))))
 else
 some (.inl (wU, Si)))
partial_fixpoint
def dM (a0 : aC) (IB : List Int) (Kb : Bool) : Option (((List Int)) ⊕ ((List Int) × Bool)) :=
 (if Kb = true then
 ((
 cV a0 IB false 0
 : Option (((List Int) × Bool) ⊕ (((List Int)) ⊕ ((List Int) × Bool)))) >>= fun Mf => match Mf with
 | .inr r => some r
 | .inl (IB, Kb) => dM a0 IB Kb)
 else
 some (.inl IB))
partial_fixpoint
def kn (a0 : aC) : Option ((List Int) × Bool) :=
 ((
 jC a0 ([] : List Int) 0
 : Option (((List Int)) ⊕ ((List Int) × Bool))) >>= fun o2 => match o2 with
 | .inr r => some r
 | .inl l1 =>
 (if (l1.length : Int) = 0 then
 some (([] : List Int), false)
 else
 idx l1 0 >>= fun we =>
 ((
 dM a0 (l1.set ((0 : Int).toNat) 0) true
 : Option (((List Int)) ⊕ ((List Int) × Bool))) >>= fun J2 => match J2 with
 | .inr r => some r
 | .inl Nl =>
 some (Nl, true)
 ))
 )
theorem Bn {a0 : aC} {r : (List Int) × Bool} (h : kn a0 = some r) : ACall Tryz.prog 93 [.agg a0.lit] [] (fun res h => res = .fu [sl 1 cI r.1, .bool r.2] ∧ h = []) := by
 refine dx Tryz.func93 ?_
 unfold kn at h
 refine .d (.d ⟨row cI ([] : List Int), de cI ([] : List Int) rfl (cD rfl), ?_⟩)
 obtain ⟨o2, mD, ft⟩ := bd h
 replace h := mD
 refine .cut (fun σ η => ∃ l1, .inl l1 = o2 ∧ σ = [(1, .aG 0 0 0 0), (4, .own 1 0 0 l1.length)] ∧ η = [.row 0 6 1 57 (fun _ => a0.lit), .row 0 1 l1.length 3 (row cI l1)]) ?_ ?_
 refine .d ?_
 refine le (jC.partial_correctness a0 (motive := fun l5 y6 X8 => o2 = X8 → aB _ _ [(1, .aG 0 0 0 0), (4, .own 1 0 0 l5.length), (5, .int .i64 y6)] [.row 0 6 1 57 (fun _ => a0.lit), .row 0 1 l5.length 3 (row cI l5)]) ?_ ([] : List Int) 0 o2 h rfl) (tk [0, 1] ⟨.p, .o, .i, ⟨⟩⟩ ⟨(bn rfl), nw, ⟨⟩⟩)
 intro F8 zr l5 y6 X8 h Uy
 subst Uy
 refine aB.round (.d (.d ⟨rfl, ⟨rfl, _, rfl, (sD h (fun qu h => ?_) (fun qu h => ?_))⟩⟩))
 refine .d (.d (.d (.float [(0, true), (1, true), (2, true), (3, true), (4, true), (5, true), (6, true), (7, true), (8, true), (9, true), (10, true), (11, false), (12, true)] ahA ?_)))
 refine ⟨rfl, ⟨rfl, _, rfl, (bk h fun th nZ h => ⟨aK nZ, _, (aD nZ).trans (aL.aA th), ⟨rfl, ⟨rfl, _, rfl, ⟨rfl, ⟨rfl, _, rfl, (bk h fun v12 tz h => (bJ (It tz) (hB h (fun jd h => ?_) (fun jd h => ?_))))⟩⟩⟩⟩⟩)⟩⟩
 refine .d ⟨row cI ([] : List Int), de cI ([] : List Int) rfl (cD rfl), ?_⟩
 obtain rfl := si h
 replace h := ft
 obtain rfl := si h
 exact en [] ⟨rfl, rfl⟩ (.bq ⟨(.rx rfl), .b, ⟨⟩⟩) ⟨⟩
 exact ⟨row cI ([(-1)] : List Int), de cI ([(-1)] : List Int) rfl (cD rfl), (bk h fun tl nE h => ⟨rfl, rfl, lI (l := ([(-1)] : List Int)) aS, eL nE, tl.length, row cI tl, dq nE, dB nE aS (jr aS), (lg (zr _ _ _ h rfl) (tk [0, 1] ⟨.p, .o, .i, ⟨⟩⟩ ⟨(bn rfl), nw, ⟨⟩⟩))⟩)⟩
 exact ct ⟨_, si h, rfl, rfl⟩ (tk [0, 1] ⟨.p, .o, ⟨⟩⟩ ⟨(bn rfl), nw, ⟨⟩⟩)
 rintro _ _ ⟨l1, rfl, rfl, rfl⟩
 replace h := ft
 refine .d (.d ⟨rfl, (sE h (fun lH h => ?_) (fun lH h => ?_))⟩)
 refine .d ⟨row cI ([] : List Int), de cI ([] : List Int) rfl (cD rfl), ?_⟩
 obtain rfl := si h
 exact en [] ⟨rfl, rfl⟩ (.bq ⟨(.rx rfl), .b, ⟨⟩⟩) ⟨⟩
 refine .d (bk h fun we oD h => ⟨rfl, aK oD, _, adX _, ⟨rfl, _, row cI (l1.set ((0 : Int).toNat) 0), ((aD oD).trans rfl), sw (kO oD) rfl ⟨.same _, trivial⟩, (.d ?_)⟩⟩)
 obtain ⟨J2, abx, QA⟩ := bd h
 replace h := abx
 refine .cut (fun σ η => ∃ Nl, .inl Nl = J2 ∧ σ = [(4, .own 0 0 0 Nl.length)] ∧ η = [.row 0 1 Nl.length 3 (row cI Nl)]) ?_ ?_
 refine le (dM.partial_correctness a0 (motive := fun IB Kb o92 => J2 = o92 → aB _ _ [(1, .aG 0 0 0 0), (4, .own 1 0 0 IB.length), (6, .bool Kb)] [.row 0 6 1 57 (fun _ => a0.lit), .row 0 1 IB.length 3 (row cI IB)]) ?_ (l1.set ((0 : Int).toNat) 0) true J2 h rfl) (tk [0, 1] ⟨.p, (.ox ln), .b, ⟨⟩⟩ ⟨(bn rfl), (Up rfl ln), ⟨⟩⟩)
 intro F29 aby IB Kb o92 h abz
 subst abz
 refine aB.round (.d (.d (sV h (fun qU h => ?_) (fun qU h => ?_))))
 refine .d (.d ?_)
 obtain ⟨Mf, Ub, K6⟩ := bd h
 replace h := Ub
 refine le (cV.partial_correctness a0 (motive := fun wU Si wV o90 => Mf = o90 → aB _ _ [(1, .aG 0 0 0 0), (4, .own 1 0 0 wU.length), (6, .bool Si), (7, .int .i64 wV)] [.row 0 6 1 57 (fun _ => a0.lit), .row 0 1 wU.length 3 (row cI wU)]) ?_ IB false 0 Mf h rfl) (tk [0, 1] ⟨.p, .o, .b, .i, ⟨⟩⟩ ⟨(bn rfl), nw, ⟨⟩⟩)
 intro P4 La wU Si wV o90 h abA
 subst abA
 refine aB.round (.d (.d ⟨rfl, (sD h (fun pK h => ?_) (fun pK h => ?_))⟩))
 refine .d (.d ⟨rfl, ⟨rfl, _, rfl, (bk h fun H2 Lb h => ⟨aK Lb, _, (aD Lb).trans (aL.aA H2), ⟨rfl, _, fun _ => [.int .i64 H2.a8, .int .i64 H2.fA, .int .i64 H2.fB, .str H2.fS, .str H2.fT], rfl, ar rfl, (.d (.d (bk h fun x42 C7 h => ⟨rfl, aK C7, _, adX _, ⟨rfl, _, ((aD C7).trans rfl), (sD h (fun M6 h => ?_) (fun M6 h => ?_))⟩⟩)))⟩⟩)⟩⟩)
 exact lg (La _ _ _ _ h rfl) (tk [0, 1] ⟨.p, .o, .b, .i, ⟨⟩⟩ ⟨(bn rfl), nw, ⟨⟩⟩)
 refine .d (.d (.float [(0, true), (2, true), (3, true), (4, true), (5, true), (1, false), (6, true)] ahA ?_))
 refine ⟨rfl, _, rfl, (bk h fun x45 tC h => ⟨rfl, aK tC, _, adX _, ⟨rfl, _, ((aD tC).trans rfl), (bk h fun J9 IC h => (bJ (ET IC) ⟨rfl, ⟨rfl, (sD h (fun Bg h => ?_) (fun Bg h => ?_))⟩⟩))⟩⟩)⟩
 refine .d ⟨row cI ([] : List Int), de cI ([] : List Int) rfl (cD rfl), ?_⟩
 obtain rfl := si h
 replace h := K6
 obtain rfl := si h
 exact agk
 refine .d ?_
 obtain ⟨Sj, Uz, UA⟩ := bd h
 replace h := Uz
 refine .cut (fun σ η => ∃ Gf, ∃ Mi, ∃ Xa, (Gf, Mi, Xa) = Sj ∧ σ = [(1, .aG 0 0 0 0), (4, .own 1 0 0 Gf.length), (6, .bool Si), (7, .int .i64 wV), (8, .aG 2 0 0 0), (9, .bool Mi), (10, .bool Xa)] ∧ η = [.row 0 6 1 57 (fun _ => a0.lit), .row 0 1 Gf.length 3 (row cI Gf), .row 0 5 1 64 (fun _ => H2.lit)]) ?_ ?_
 refine .d ⟨rfl, ⟨rfl, _, rfl, (bk h fun qX UB h => (bJ (ES UB) (hB h (fun EW h => ?_) (fun EW h => ?_))))⟩⟩
 refine .float [(0, true), (1, true), (2, true), (3, true), (4, true), (5, true), (6, true), (7, true), (8, false), (9, true), (10, false), (11, true), (12, true), (13, true), (14, true), (15, true)] ahA ?_
 refine bk h fun x59 X9 h => ⟨rfl, aK X9, _, adX _, ⟨rfl, _, ((aD X9).trans rfl), ⟨rfl, _, rfl, (bk h fun yg EZ h => (bJ (Bh EZ) ⟨rfl, ⟨rfl, ?_⟩⟩))⟩⟩⟩
 obtain ⟨⟨mF, vI, CN⟩, Lc, h⟩ := bd h
 have Ya := zy Lc
 exact ko (xd (g1000 := 0) Lc) [1] ⟨ov, ⟨⟩⟩ (.fu [.bool mF, .bool vI]) [.row 0 6 1 57 (fun _ => a0.lit), .row 0 1 wU.length 3 (row cI CN), .row 0 5 1 64 (fun _ => H2.lit)] (ct ⟨_, _, _, si h, rfl, rfl⟩ (tk [0, 1, 2] ⟨.p, (.ox (by first | rfl | simp [Ya])), .b, .i, .p, .b, .b, ⟨⟩⟩ ⟨(bn rfl), (Up rfl (by first | rfl | simp [Ya])), (bn rfl), ⟨⟩⟩))
 exact ct ⟨_, _, _, si h, rfl, rfl⟩ (tk [0, 1, 2] ⟨.p, .o, .b, .i, .p, .b, .b, ⟨⟩⟩ ⟨(bn rfl), nw, (bn rfl), ⟨⟩⟩)
 rintro _ _ ⟨Gf, Mi, Xa, rfl, rfl, rfl⟩
 replace h := UA
 refine .d ?_
 obtain ⟨UC, abB, abC⟩ := bd h
 replace h := abB
 refine .cut (fun σ η => ∃ IA, ∃ X7, ∃ Nk, (IA, X7, Nk) = UC ∧ σ = [(1, .aG 0 0 0 0), (4, .own 1 0 0 IA.length), (6, .bool Si), (7, .int .i64 wV), (9, .bool Mi), (10, .bool Xa), (11, .bool X7), (12, .bool Nk)] ∧ η = [.row 0 6 1 57 (fun _ => a0.lit), .row 0 1 IA.length 3 (row cI IA)]) ?_ ?_
 refine .d ⟨rfl, ⟨rfl, _, rfl, (bk h fun Ka abD h => (bJ (tX abD) (sV h (fun Nn h => ?_) (fun Nn h => ?_))))⟩⟩
 refine .float [(0, true), (1, true), (2, true), (3, true), (4, true), (5, true), (6, true), (7, true), (8, true), (9, false), (10, true), (11, false), (12, true), (13, true), (14, true), (15, true), (16, true)] ahA ?_
 refine ⟨rfl, ⟨rfl, _, rfl, (bk h fun x77 Yb h => ⟨rfl, aK Yb, _, adX _, ⟨rfl, _, ((aD Yb).trans rfl), ⟨rfl, ⟨rfl, _, rfl, (bk h fun Sf Ux h => (bJ (xa Ux) ⟨rfl, ⟨rfl, ⟨rfl, ⟨rfl, ?_⟩⟩⟩⟩))⟩⟩⟩⟩)⟩⟩
 obtain ⟨⟨Nj, v82, Bi⟩, Qy, h⟩ := bd h
 have Yc := zy Qy
 exact ko (xd (g1000 := 0) Qy) [1] ⟨ov, ⟨⟩⟩ (.fu [.bool Nj, .bool v82]) [.row 0 6 1 57 (fun _ => a0.lit), .row 0 1 Gf.length 3 (row cI Bi), .row 0 5 1 64 (fun _ => H2.lit)] (ct ⟨_, _, _, si h, rfl, rfl⟩ (tk [0, 1] ⟨.p, (.ox (by first | rfl | simp [Yc])), .b, .i, .b, .b, .b, .b, ⟨⟩⟩ ⟨(bn rfl), (Up rfl (by first | rfl | simp [Yc])), ⟨⟩⟩))
 exact ct ⟨_, _, _, si h, rfl, rfl⟩ (tk [0, 1] ⟨.p, .o, .b, .i, .b, .b, .b, .b, ⟨⟩⟩ ⟨(bn rfl), nw, ⟨⟩⟩)
 rintro _ _ ⟨IA, X7, Nk, rfl, rfl, rfl⟩
 replace h := abC
 refine .d (.d (hB h (fun Na h => ?_) (fun Na h => ?_)))
 refine .t (.t (.t (.d ⟨row cI ([] : List Int), de cI ([] : List Int) rfl (cD rfl), ?_⟩)))
 obtain rfl := si h
 replace h := K6
 obtain rfl := si h
 exact agk
 refine .f (.f (hB h (fun abE h => ?_) (fun abE h => ?_)))
 refine .d ⟨row cI ([] : List Int), de cI ([] : List Int) rfl (cD rfl), ?_⟩
 obtain rfl := si h
 replace h := K6
 obtain rfl := si h
 exact agk
 refine sV h (fun abF h => ?_) (fun abF h => ?_)
 exact .t (.t (.t (lg (La _ _ _ _ h rfl) (tk [0, 1] ⟨.p, .o, .b, .i, ⟨⟩⟩ ⟨(bn rfl), nw, ⟨⟩⟩))))
 refine .f (sV h (fun UD h => ?_) (fun UD h => ?_))
 exact .t (lg (La _ _ _ _ h rfl) (tk [0, 1] ⟨.p, .o, .b, .i, ⟨⟩⟩ ⟨(bn rfl), nw, ⟨⟩⟩))
 exact .f (lg (La _ _ _ _ h rfl) (tk [0, 1] ⟨.p, .o, .b, .i, ⟨⟩⟩ ⟨(bn rfl), nw, ⟨⟩⟩))
 obtain rfl := si h
 replace h := K6
 exact lg (aby _ _ _ h rfl) (tk [0, 1] ⟨.p, .o, .b, ⟨⟩⟩ ⟨(bn rfl), nw, ⟨⟩⟩)
 exact ct ⟨_, si h, rfl, rfl⟩ (tk [1] ⟨.o, ⟨⟩⟩ ⟨nw, ⟨⟩⟩)
 rintro _ _ ⟨Nl, rfl, rfl, rfl⟩
 replace h := QA
 refine .d ?_
 obtain rfl := si h
 exact en [] ⟨rfl, rfl⟩ (.bq ⟨.r, .b, ⟨⟩⟩) ⟨⟩
set_option maxRecDepth 100000
def gU (a0 : aC) (Kc : Int) : Option ((Unit) ⊕ Bool) :=
 (if Kc < (a0.ax.length : Int) then
 idx a0.ax Kc >>= fun TX =>
 (if TX.a8 = 54 then
 (if a0.eN = true then
 gU a0 (ai (Kc + 1))
 else
 some (.inr false))
 else
 gU a0 (ai (Kc + 1)))
 else
 some (.inl ()))
partial_fixpoint
def mf (a0 : aC) : Option (Bool) :=
 ((
 wh (a0.az.length : Int) 1 100 >>= fun v4 =>
 (if v4 = true then
 (if (a0.ax.length : Int) > 8000 then
 some (.inr false)
 else
 oX a0 >>= fun v8 =>
 (if v8 = true then
 kZ a0 >>= fun v11 =>
 (if v11 = true then
 (if (a0.ay.length : Int) > 0 then
 some (.inr false)
 else
 (if a0.eN = true then
 some (.inr false)
 else
 some (.inl ())))
 else
 some (.inl ()))
 else
 some (.inr false)))
 else
 some (.inr false))
 : Option ((Unit) ⊕ Bool)) >>= fun o1 => match o1 with
 | .inr r => some r
 | .inl _ =>
 ((
 gU a0 0
 : Option ((Unit) ⊕ Bool)) >>= fun sd => match sd with
 | .inr r => some r
 | .inl _ =>
 kn a0 >>= fun (P2, v30) =>
 some v30
 )
 )
theorem GB {a0 : aC} {r : Bool} (h : mf a0 = some r) : ACall Tryz.prog 44 [.agg a0.lit] [] (fun res h => res = .bool r ∧ h = []) := by
 refine dx Tryz.func44 ?_
 unfold mf at h
 refine .d ?_
 obtain ⟨o1, yz, mE⟩ := bd h
 replace h := yz
 refine .cut (fun σ η => .inl () = o1 ∧ σ = [(1, .aG 0 0 0 0)] ∧ η = [.row 0 6 1 57 (fun _ => a0.lit)]) ?_ ?_
 refine .d ⟨rfl, ⟨rfl, _, rfl, (bk h fun v4 CU h => (bJ (qf CU) (hB h (fun mJ h => ?_) (fun mJ h => ?_))))⟩⟩
 refine .t (.t (.t (.t (.t (.t (.t (.t (.t (.t (.t (.t (.t (.t (.d ?_))))))))))))))
 exact afX
 refine ⟨rfl, (.f ⟨rfl, _, rfl, (.f (.f (.f (sD h (fun nr h => ?_) (fun nr h => ?_)))))⟩)⟩
 refine .t (.t (.t (.t (.t (.t (.t (.t (.t (.d ?_)))))))))
 exact afX
 refine ⟨rfl, _, rfl, (.f (bk h fun v8 KW h => (bJ (C5 KW) (.f (.f (hB h (fun iy h => ?_) (fun iy h => ?_)))))))⟩
 refine .t (.t (.t (.t (.t (.d ?_)))))
 exact afX
 refine ⟨rfl, _, rfl, (.f (bk h fun v11 Ii h => (bJ (zx Ii) (.f (sV h (fun kM h => ?_) (fun kM h => ?_))))))⟩
 refine ⟨rfl, (.t ⟨rfl, _, rfl, (.t (.t (.t (sD h (fun jd h => ?_) (fun jd h => ?_)))))⟩)⟩
 refine .t (.t (.t (.f (.t (.f (.t (.d ?_)))))))
 exact afX
 refine ⟨rfl, (.f ⟨rfl, _, rfl, (.t (.f (.f (.t (.f (sV h (fun eE h => ?_) (fun eE h => ?_)))))))⟩)⟩
 refine .d ?_
 exact afX
 exact agS
 exact .f (.f (.f (.f (.f (.f (.f (.f (.f (ct ⟨si h, rfl, rfl⟩ (tk [0] ⟨.p, ⟨⟩⟩ ⟨(bn rfl), ⟨⟩⟩))))))))))
 rintro _ _ ⟨rfl, rfl, rfl⟩
 replace h := mE
 obtain ⟨sd, UE, QB⟩ := bd h
 replace h := UE
 refine .cut (fun σ η => .inl () = sd ∧ σ = [(1, .aG 0 0 0 0)] ∧ η = [.row 0 6 1 57 (fun _ => a0.lit)]) ?_ ?_
 refine .d ?_
 refine le (gU.partial_correctness a0 (motive := fun Kc Sk => sd = Sk → aB _ _ [(1, .aG 0 0 0 0), (3, .int .i64 Kc)] [.row 0 6 1 57 (fun _ => a0.lit)]) ?_ 0 sd h rfl) (tk [0] ⟨.p, .i, ⟨⟩⟩ ⟨(bn rfl), ⟨⟩⟩)
 intro Qt Np Kc Sk h abG
 subst abG
 refine aB.round (.d (.d ⟨rfl, ⟨rfl, _, rfl, (sD h (fun kS h => ?_) (fun kS h => ?_))⟩⟩))
 refine .d (.d ⟨rfl, ⟨rfl, _, rfl, (bk h fun TX MR h => ⟨aK MR, _, (aD MR).trans (aL.aA TX), (sE h (fun ny h => ?_) (fun ny h => ?_))⟩)⟩⟩)
 refine ⟨rfl, (.t ⟨rfl, _, rfl, (.t (.t (hB h (fun qg h => ?_) (fun qg h => ?_))))⟩)⟩
 refine .d ?_
 obtain rfl := si h
 replace h := QB
 exact eB h
 exact lg (Np _ _ h rfl) (tk [0] ⟨.p, .i, ⟨⟩⟩ ⟨(bn rfl), ⟨⟩⟩)
 exact .f (.f (.f (.f (lg (Np _ _ h rfl) (tk [0] ⟨.p, .i, ⟨⟩⟩ ⟨(bn rfl), ⟨⟩⟩)))))
 exact agS
 rintro _ _ ⟨rfl, rfl, rfl⟩
 replace h := QB
 refine .d ⟨rfl, _, rfl, ?_⟩
 obtain ⟨⟨P2, v30⟩, Ig, h⟩ := bd h
 exact bJ (Bn Ig) (.d (eB h))
def eQ (a0 : aC) (l10 : List (aU × Bool)) (aW : Int) : Option ((Unit) ⊕ Bool) :=
 (if aW < (a0.ay.length : Int) then
 idx a0.ay aW >>= fun vu =>
 (if (rY l10 vu false) = true then
 some (.inr false)
 else
 eY vu >>= fun ly =>
 (if ly = true then
 (if vu = ([116, 104, 105, 115] : aU) then
 some (.inr false)
 else
 eQ a0 (fX l10 vu true) (ai (aW + 1)))
 else
 some (.inr false)))
 else
 some (.inl ()))
partial_fixpoint
def gV (a0 : aC) (yh : List TParam) (Gg : Int) : Option ((Unit) ⊕ Bool) :=
 (if Gg < (yh.length : Int) then
 idx yh Gg >>= fun Yd =>
 idx a0.ay Gg >>= fun W5 =>
 (if W5 = Yd.az then
 gV a0 yh (ai (Gg + 1))
 else
 some (.inr false))
 else
 some (.inl ()))
partial_fixpoint
def gW (a0 : aC) (UF : Int) : Option ((Unit) ⊕ Bool) :=
 (if UF < (a0.ax.length : Int) then
 idx a0.ax UF >>= fun Sl =>
 (if Sl.a8 = 54 then
 (if a0.eN = true then
 gW a0 (ai (UF + 1))
 else
 some (.inr false))
 else
 gW a0 (ai (UF + 1)))
 else
 some (.inl ()))
partial_fixpoint
def jU (a0 : aC) : Option (Bool) :=
 zu (a0.az.length : Int) 1 100 >>= fun v1 =>
 (if v1 = true then
 (if (a0.ay.length : Int) > 600 then
 some false
 else
 (if (a0.ax.length : Int) > 8000 then
 some false
 else
 (if (ai ((a0.av.length : Int) + (a0.aM.length : Int))) > (a0.ay.length : Int) then
 some false
 else
 ((
 eQ a0 ([] : List (aU × Bool)) 0
 : Option ((Unit) ⊕ Bool)) >>= fun o7 => match o7 with
 | .inr r => some r
 | .inl _ =>
 ((
 tY a0.av >>= fun lz =>
 im 24 lz a0.aM >>= fun yh =>
 gV a0 yh 0
 : Option ((Unit) ⊕ Bool)) >>= fun Qx => match Qx with
 | .inr r => some r
 | .inl _ =>
 ((
 gW a0 0
 : Option ((Unit) ⊕ Bool)) >>= fun Gd => match Gd with
 | .inr r => some r
 | .inl _ =>
 jT a0 >>= fun H0 =>
 (if H0 = true then
 (if (a0.ay.length : Int) > 0 then
 some false
 else
 (if a0.eN = true then
 some false
 else
 jg a0 >>= fun (Bk, yg) =>
 some yg))
 else
 jg a0 >>= fun (mF, vI) =>
 some vI)
 )
 )
 ))))
 else
 some false)
theorem GC {a0 : aC} {r : Bool} (h : jU a0 = some r) : ACall Tryz.prog 54 [.agg a0.lit] [] (fun res h => res = .bool r ∧ h = []) := by
 refine dx Tryz.func54 ?_
 unfold jU at h
 refine .d (.d (.d ⟨rfl, ⟨rfl, _, rfl, (bk h fun v1 rq h => (bJ (vw rq) (hB h (fun lE h => ?_) (fun lE h => ?_))))⟩⟩))
 refine .t (.t (.t (.t (.t (.t (.t (.t (.t (.t (.t (.t (.t (.t (.t ?_))))))))))))))
 exact .t (.t (.t (.t (.t (.t (.t (.d (eB h))))))))
 refine ⟨rfl, (.f ⟨rfl, _, rfl, (.f (.f (.f (sD h (fun oN h => ?_) (fun oN h => ?_)))))⟩)⟩
 refine .t (.t (.t (.t (.t (.t (.t (.t (.t (.t (.t (.t (.t (.t (.t ?_))))))))))))))
 exact .t (.t (.d (eB h)))
 refine ⟨rfl, (.f ⟨rfl, _, rfl, (.f (.f (.f (sD h (fun lY h => ?_) (fun lY h => ?_)))))⟩)⟩
 exact .t (.t (.t (.t (.t (.t (.t (.t (.t (.t (.t (.t (.d (eB h)))))))))))))
 refine ⟨rfl, (.f ⟨rfl, _, rfl, (.f (.f ⟨rfl, (.f ⟨rfl, _, rfl, (.f (.f (.f ⟨rfl, (.f ⟨rfl, _, rfl, (.f ?_)⟩)⟩)))⟩)⟩))⟩)⟩
 refine .f (.f (sD h (fun mJ h => ?_) (fun mJ h => ?_)))
 exact agP
 refine .d ⟨row (mc (PV.str) (PV.bool)) ([] : List (aU × Bool)), ?_⟩
 obtain ⟨o7, ho8, hk9⟩ := bd h
 replace h := ho8
 refine .cut (fun σ η => .inl () = o7 ∧ σ = [(1, .aG 0 0 0 0)] ∧ η = [.row 0 6 1 57 (fun _ => a0.lit)]) ?_ ?_
 refine .d ⟨rfl, ⟨rfl, _, rfl, ?_⟩⟩
 refine le (eQ.partial_correctness a0 (motive := fun l10 aW W7 => o7 = W7 → aB _ _ [(1, .aG 0 0 0 0), (3, .lA 1), (44, sl 1 cS a0.ay), (45, .int .i64 (a0.ay.length : Int)), (46, .int .i64 aW)] [.row 0 6 1 57 (fun _ => a0.lit), .row 0 2 l10.length 114 (row (mc (PV.str) (PV.bool)) l10)]) ?_ ([] : List (aU × Bool)) 0 o7 h rfl) (tk [0, 1] ⟨.p, .m, .l, .i, .i, ⟨⟩⟩ ⟨(bn rfl), nw, ⟨⟩⟩)
 intro F13 abH l10 aW W7 h abI
 subst abI
 refine aB.round (.d (.d (sD h (fun jd h => ?_) (fun jd h => ?_))))
 refine .d (.d (bk h fun vu nE h => ⟨aK nE, _, (aD nE).trans rfl, (.d (.d ⟨.bool (rY l10 vu false), tD l10 vu, rC (ti := wk.get 9) (c := PV.str) (d := PV.bool) oY l10 vu false, (sV h (fun jO h => ?_) (fun jO h => ?_))⟩))⟩))
 refine .t (.t (.t (.t (.t (.t (.t (.d ?_)))))))
 exact ago
 refine .f (bk h fun ly Ey h => (bJ (nP Ey) (.f (.f (hB h (fun pH h => ?_) (fun pH h => ?_))))))
 refine .t (.t (.t (.d ?_)))
 exact ago
 refine .f (.f (sE h (fun pE h => ?_) (fun pE h => ?_)))
 refine .d ?_
 exact ago
 exact ⟨(fX l10 vu true).length, row (mc (PV.str) (PV.bool)) (fX l10 vu true), uS (ti := wk.get 9) (c := PV.str) (d := PV.bool) oY l10 vu true, (lg (abH _ _ _ h rfl) (tk [0, 1] ⟨.p, .m, .l, .i, .i, ⟨⟩⟩ ⟨(bn rfl), nw, ⟨⟩⟩))⟩
 exact agS
 rintro _ _ ⟨rfl, rfl, rfl⟩
 replace h := hk9
 obtain ⟨Qx, M7, K5⟩ := bd h
 replace h := M7
 refine .cut (fun σ η => .inl () = Qx ∧ σ = [(1, .aG 0 0 0 0)] ∧ η = [.row 0 6 1 57 (fun _ => a0.lit)]) ?_ ?_
 refine .d (.float [(0, true), (1, true), (3, true), (4, true), (7, true), (2, false), (5, false), (6, true)] ahA ?_)
 refine ⟨rfl, ⟨rfl, _, rfl, ⟨rfl, ⟨rfl, _, rfl, (bk h fun lz Ih h => (pcF (K7 Ih) (.own 1 0 0 lz.length) [.row 0 6 1 57 (fun _ => a0.lit), .row 0 2 lz.length 61 (row TParam.cells lz)] ⟨rfl, ⟨rfl, (bk h fun yh EH h => ⟨rfl, eL EH, yh.length, row TParam.cells yh, dq EH, dB EH aS J7, ⟨rfl, ?_⟩⟩)⟩⟩))⟩⟩⟩⟩
 refine le (gV.partial_correctness a0 yh (motive := fun Gg Ic => Qx = Ic → aB _ _ [(1, .aG 0 0 0 0), (70, .own 1 0 0 yh.length), (71, .int .i64 (yh.length : Int)), (72, .int .i64 Gg)] [.row 0 6 1 57 (fun _ => a0.lit), .row 0 2 yh.length 61 (row TParam.cells yh)]) ?_ 0 Qx h rfl) (tk [0, 1] ⟨.p, .o, .i, .i, ⟨⟩⟩ ⟨(bn rfl), nw, ⟨⟩⟩)
 intro P3 UG Gg Ic h TP
 subst TP
 refine aB.round (.d (.d (sD h (fun A3 h => ?_) (fun A3 h => ?_))))
 refine .d (.d (bk h fun Yd Ye h => ⟨rfl, aK Ye, _, adX _, ⟨rfl, _, ((aD Ye).trans (TParam.aA Yd)), ⟨rfl, _, fun _ => [.str Yd.az, .bool Yd.Gi], rfl, ar rfl, (.d ⟨rfl, ⟨rfl, _, rfl, (bk h fun W5 Gs h => ⟨aK Gs, _, (aD Gs).trans rfl, ⟨rfl, ⟨rfl, _, rfl, (nq h (fun pK h => ?_) (fun pK h => ?_))⟩⟩⟩)⟩⟩)⟩⟩⟩))
 refine .d ?_
 obtain rfl := si h
 replace h := K5
 exact eB h
 exact lg (UG _ _ h rfl) (tk [0, 1] ⟨.p, .o, .i, .i, ⟨⟩⟩ ⟨(bn rfl), nw, ⟨⟩⟩)
 exact agS
 rintro _ _ ⟨rfl, rfl, rfl⟩
 replace h := K5
 obtain ⟨Gd, Ip, Au⟩ := bd h
 replace h := Ip
 refine .cut (fun σ η => .inl () = Gd ∧ σ = [(1, .aG 0 0 0 0)] ∧ η = [.row 0 6 1 57 (fun _ => a0.lit)]) ?_ ?_
 refine .d ⟨rfl, ⟨rfl, _, rfl, ?_⟩⟩
 refine le (gW.partial_correctness a0 (motive := fun UF Sj => Gd = Sj → aB _ _ [(1, .aG 0 0 0 0), (87, sl 5 aL.cells a0.ax), (88, .int .i64 (a0.ax.length : Int)), (89, .int .i64 UF)] [.row 0 6 1 57 (fun _ => a0.lit)]) ?_ 0 Gd h rfl) (tk [0] ⟨.p, .l, .i, .i, ⟨⟩⟩ ⟨(bn rfl), ⟨⟩⟩)
 intro uQ Yf UF Sj h abJ
 subst abJ
 refine aB.round (.d (.d (sD h (fun M0 h => ?_) (fun M0 h => ?_))))
 refine .d (.d (bk h fun Sl Yg h => ⟨aK Yg, _, (aD Yg).trans (aL.aA Sl), ⟨rfl, _, fun _ => [.int .i64 Sl.a8, .int .i64 Sl.fA, .int .i64 Sl.fB, .str Sl.fS, .str Sl.fT], rfl, ar rfl, (.d ⟨rfl, ⟨rfl, _, rfl, (sE h (fun Iw h => ?_) (fun Iw h => ?_))⟩⟩)⟩⟩))
 refine ⟨rfl, (.t ⟨rfl, _, rfl, (.t (.t (hB h (fun Bo h => ?_) (fun Bo h => ?_))))⟩)⟩
 refine .d ?_
 obtain rfl := si h
 replace h := Au
 exact eB h
 exact lg (Yf _ _ h rfl) (tk [0] ⟨.p, .l, .i, .i, ⟨⟩⟩ ⟨(bn rfl), ⟨⟩⟩)
 exact .f (.f (.f (.f (lg (Yf _ _ h rfl) (tk [0] ⟨.p, .l, .i, .i, ⟨⟩⟩ ⟨(bn rfl), ⟨⟩⟩)))))
 exact agS
 rintro _ _ ⟨rfl, rfl, rfl⟩
 replace h := Au
 refine .d (.d ⟨rfl, _, rfl, (bk h fun H0 Nd h => (bJ (zw Nd) (sV h (fun Nq h => ?_) (fun Nq h => ?_))))⟩)
 refine ⟨rfl, (.t ⟨rfl, _, rfl, (.t (.t (.t (sD h (fun EW h => ?_) (fun EW h => ?_)))))⟩)⟩
 exact .t (.t (.t (.t (.t (.d (eB h))))))
 refine ⟨rfl, (.f ⟨rfl, _, rfl, (.t (.f (.t (sV h (fun Bj h => ?_) (fun Bj h => ?_)))))⟩)⟩
 exact agP
 refine .d ⟨rfl, _, rfl, ?_⟩
 obtain ⟨⟨Bk, yg⟩, EZ, h⟩ := bd h
 exact bJ (tZ EZ) (.d (eB h))
 refine .f (.f (.f (.f (.f (.f (.f (.d ⟨rfl, _, rfl, ?_⟩)))))))
 obtain ⟨⟨mF, vI⟩, E4, h⟩ := bd h
 exact bJ (tZ E4) (.d (eB h))
end Go.Am
