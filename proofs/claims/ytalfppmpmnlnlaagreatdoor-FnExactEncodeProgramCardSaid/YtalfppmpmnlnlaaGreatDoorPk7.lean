/- Texts of the proof, joined and shortened. -/
import Derived.Test.YtalfppmpmnlnlaaGreatDoorPk6
set_option linter.unusedVariables false
set_option linter.unusedSimpArgs false
namespace Go.Am
open Go Go.RowKit Go.Proofs
def cC (a0 : Int) : Option (Bool) :=
 (if a0 = 27 then
 some true
 else
 (if a0 = 28 then
 some true
 else
 (if a0 = 29 then
 some true
 else
 (if a0 = 44 then
 some true
 else
 (if a0 = 45 then
 some true
 else
 (if a0 = 49 then
 some true
 else
 (if a0 = 52 then
 some true
 else
 some false)))))))
theorem pL {a0 : Int} {r : Bool} (h : cC a0 = some r) : ACall Tryz.prog 154 [.int .i64 a0] [] (fun res h => res = .bool r ∧ h = []) := by
 refine cP Tryz.func154 ?_
 unfold cC at h
 refine .d (.d (.d (.d (.d (sE h (fun de h => ?_) (fun de h => ?_))))))
 exact .kt de (.d (eB h))
 refine .d (sE h (fun jr h => ?_) (fun jr h => ?_))
 exact .kt jr (.d (eB h))
 refine .d (sE h (fun lJ h => ?_) (fun lJ h => ?_))
 exact .kt lJ (.d (eB h))
 refine .d (sE h (fun oL h => ?_) (fun oL h => ?_))
 exact .kt oL (.d (eB h))
 refine .d (sE h (fun nW h => ?_) (fun nW h => ?_))
 exact .kt nW (.d (eB h))
 refine .d (sE h (fun oM h => ?_) (fun oM h => ?_))
 exact .kt oM (.d (eB h))
 refine sE h (fun pT h => ?_) (fun pT h => ?_)
 exact afJ
 exact afJ
def iT (a0 : Int) : Option (Bool) :=
 (if a0 = 27 then
 some true
 else
 (if a0 = 42 then
 some true
 else
 (if a0 = 43 then
 some true
 else
 some (a0 == 49))))
theorem EZ {a0 : Int} {r : Bool} (h : iT a0 = some r) : ACall Tryz.prog 152 [.int .i64 a0] [] (fun res h => res = .bool r ∧ h = []) := by
 refine cP Tryz.func152 ?_
 unfold iT at h
 refine .d (.d (sE h (fun de h => ?_) (fun de h => ?_)))
 exact .t (.t (.t (.t (.t (.t (.t (.t (eB h))))))))
 refine .f (.f (sE h (fun jr h => ?_) (fun jr h => ?_)))
 exact .t (.t (.t (.t (.t (eB h)))))
 refine .f (.f (sE h (fun lJ h => ?_) (fun lJ h => ?_)))
 exact .t (.t (eB h))
 exact .f (.f (eB h))
def iU (a0 : aR) : Option (Int) :=
 (
 (if a0.aW = 6 then
 some (a0.aW == 6)
 else
 (if a0.aW = 8 then
 some (a0.aW == 8)
 else
 (if a0.aW = 10 then
 some (a0.aW == 10)
 else
 (if a0.aW = 11 then
 some (a0.aW == 11)
 else
 (if a0.aW = 13 then
 some (a0.aW == 13)
 else
 (if a0.aW = 17 then
 some (a0.aW == 17)
 else
 (if a0.aW = 28 then
 some (a0.aW == 28)
 else
 (if a0.aW = 29 then
 some (a0.aW == 29)
 else
 (if a0.aW = 30 then
 some (a0.aW == 30)
 else
 (if a0.aW = 33 then
 some (a0.aW == 33)
 else
 (if a0.aW = 34 then
 some (a0.aW == 34)
 else
 (if a0.aW = 37 then
 some (a0.aW == 37)
 else
 (if a0.aW = 42 then
 some (a0.aW == 42)
 else
 (if a0.aW = 43 then
 some (a0.aW == 43)
 else
 (if a0.aW = 50 then
 some (a0.aW == 50)
 else
 some (a0.aW == 54))))))))))))))))
 : Option (Bool)) >>= fun b1 =>
 (if b1 = true then
 some 1
 else
 (
 (if a0.aW = 12 then
 some (a0.aW == 12)
 else
 (if a0.aW = 16 then
 some (a0.aW == 16)
 else
 (if a0.aW = 41 then
 some (a0.aW == 41)
 else
 (if a0.aW = 51 then
 some (a0.aW == 51)
 else
 (if a0.aW = 52 then
 some (a0.aW == 52)
 else
 some (a0.aW == 53))))))
 : Option (Bool)) >>= fun Hm =>
 (if Hm = true then
 some 2
 else
 (if a0.aW = 15 then
 some (ah (2 + a0.fB))
 else
 (
 (if a0.aW = 18 then
 some (a0.aW == 18)
 else
 some (a0.aW == 19))
 : Option (Bool)) >>= fun Oq =>
 (if Oq = true then
 some (ah ((ah (a0.fB.tdiv 2)) + 1))
 else
 (if a0.aW = 20 then
 some (ah ((ah (a0.fB.tdiv 2)) + 2))
 else
 (if a0.aW = 21 then
 some a0.fB
 else
 (if a0.aW = 22 then
 some a0.fB
 else
 (if a0.aW = 23 then
 some (ah (a0.fB + 1))
 else
 some 0))))))))
theorem E0 {a0 : aR} {r : Int} (h : iU a0 = some r) : ACall Tryz.prog 151 [.agg a0.lit] [] (fun res h => res = .int .i64 r ∧ h = []) := by
 refine cP Tryz.func151 ?_
 unfold iU at h
 refine .d (.d (.d ⟨rfl, ⟨rfl, _, rfl, ?_⟩⟩))
 obtain ⟨o2, qD, nB⟩ := bd h
 replace h := qD
 refine .cut (fun σ η => ∃ b1, b1 = o2 ∧ σ = [(1, .aN 0 0 0 0), (4, .int .i64 a0.aW), (5, .bool b1)] ∧ η = [.row 0 5 1 64 (fun _ => a0.lit)]) ?_ ?_
 refine .d (sE h (fun nW h => ?_) (fun nW h => ?_))
 exact afI
 refine .d (sE h (fun oM h => ?_) (fun oM h => ?_))
 exact afI
 refine .d (sE h (fun pT h => ?_) (fun pT h => ?_))
 exact afI
 refine .d (sE h (fun nh h => ?_) (fun nh h => ?_))
 exact afI
 refine .d (sE h (fun uV h => ?_) (fun uV h => ?_))
 exact afI
 refine .d (sE h (fun eY h => ?_) (fun eY h => ?_))
 exact afI
 refine .d (sE h (fun jU h => ?_) (fun jU h => ?_))
 exact afI
 refine .d (sE h (fun ly h => ?_) (fun ly h => ?_))
 exact afI
 refine .d (sE h (fun jS h => ?_) (fun jS h => ?_))
 exact afI
 refine .d (sE h (fun kU h => ?_) (fun kU h => ?_))
 exact afI
 refine .d (sE h (fun dI h => ?_) (fun dI h => ?_))
 exact afI
 refine .d (sE h (fun lx h => ?_) (fun lx h => ?_))
 exact afI
 refine .d (sE h (fun kR h => ?_) (fun kR h => ?_))
 exact afI
 refine .d (sE h (fun oX h => ?_) (fun oX h => ?_))
 exact afI
 refine .d (sE h (fun qI h => ?_) (fun qI h => ?_))
 exact afI
 exact afI
 rintro _ _ ⟨b1, rfl, rfl, rfl⟩
 replace h := nB
 refine sV h (fun pf h => ?_) (fun pf h => ?_)
 exact afK
 obtain ⟨Xa, VU, VV⟩ := bd h
 replace h := VU
 refine .cut (fun σ η => ∃ Hm, Hm = Xa ∧ σ = [(1, .aN 0 0 0 0), (4, .int .i64 a0.aW), (22, .bool Hm)] ∧ η = [.row 0 5 1 64 (fun _ => a0.lit)]) ?_ ?_
 refine .d (sE h (fun sJ h => ?_) (fun sJ h => ?_))
 exact afI
 refine .d (sE h (fun wi h => ?_) (fun wi h => ?_))
 exact afI
 refine .d (sE h (fun sL h => ?_) (fun sL h => ?_))
 exact afI
 refine .d (sE h (fun rP h => ?_) (fun rP h => ?_))
 exact afI
 refine .d (sE h (fun tA h => ?_) (fun tA h => ?_))
 exact afI
 exact afI
 rintro _ _ ⟨Hm, rfl, rfl, rfl⟩
 replace h := VV
 refine sV h (fun sY h => ?_) (fun sY h => ?_)
 exact afK
 refine .d (sE h (fun AR h => ?_) (fun AR h => ?_))
 exact afT
 obtain ⟨Fw, Nr, xR⟩ := bd h
 replace h := Nr
 refine .cut (fun σ η => ∃ Oq, Oq = Fw ∧ σ = [(1, .aN 0 0 0 0), (4, .int .i64 a0.aW), (34, .bool Oq)] ∧ η = [.row 0 5 1 64 (fun _ => a0.lit)]) ?_ ?_
 refine .d (sE h (fun I1 h => ?_) (fun I1 h => ?_))
 exact afI
 exact afI
 rintro _ _ ⟨Oq, rfl, rfl, rfl⟩
 replace h := xR
 refine sV h (fun Ak h => ?_) (fun Ak h => ?_)
 exact afV
 refine .d (sE h (fun Bn h => ?_) (fun Bn h => ?_))
 exact afV
 refine .d (.d (sE h (fun tC h => ?_) (fun tC h => ?_)))
 exact .kt tC (.d ⟨rfl, ⟨rfl, _, rfl, (eI h)⟩⟩)
 refine sE h (fun E3 h => ?_) (fun E3 h => ?_)
 exact afT
 refine .d (sE h (fun I4 h => ?_) (fun I4 h => ?_))
 exact afT
 exact afK
def ff (a0 : aR) : Option (Int) :=
 (
 (if a0.aW = 2 then
 some (a0.aW == 2)
 else
 (if a0.aW = 3 then
 some (a0.aW == 3)
 else
 (if a0.aW = 4 then
 some (a0.aW == 4)
 else
 (if a0.aW = 5 then
 some (a0.aW == 5)
 else
 (if a0.aW = 7 then
 some (a0.aW == 7)
 else
 (if a0.aW = 9 then
 some (a0.aW == 9)
 else
 (if a0.aW = 14 then
 some (a0.aW == 14)
 else
 (if a0.aW = 24 then
 some (a0.aW == 24)
 else
 (if a0.aW = 25 then
 some (a0.aW == 25)
 else
 (if a0.aW = 40 then
 some (a0.aW == 40)
 else
 (if a0.aW = 50 then
 some (a0.aW == 50)
 else
 some (a0.aW == 56))))))))))))
 : Option (Bool)) >>= fun b1 =>
 (if b1 = true then
 some 1
 else
 (
 (if a0.aW = 10 then
 some (a0.aW == 10)
 else
 (if a0.aW = 12 then
 some (a0.aW == 12)
 else
 (if a0.aW = 16 then
 some (a0.aW == 16)
 else
 (if a0.aW = 28 then
 some (a0.aW == 28)
 else
 (if a0.aW = 29 then
 some (a0.aW == 29)
 else
 (if a0.aW = 30 then
 some (a0.aW == 30)
 else
 (if a0.aW = 33 then
 some (a0.aW == 33)
 else
 (if a0.aW = 34 then
 some (a0.aW == 34)
 else
 (if a0.aW = 37 then
 some (a0.aW == 37)
 else
 (if a0.aW = 41 then
 some (a0.aW == 41)
 else
 (if a0.aW = 42 then
 some (a0.aW == 42)
 else
 some (a0.aW == 43))))))))))))
 : Option (Bool)) >>= fun Ot =>
 (if Ot = true then
 some (-1)
 else
 (if a0.aW = 15 then
 some (ah ((-1) - a0.fB))
 else
 (
 (if a0.aW = 18 then
 some (a0.aW == 18)
 else
 some (a0.aW == 19))
 : Option (Bool)) >>= fun Ou =>
 (if Ou = true then
 some (ah (0 - (ah (a0.fB.tdiv 2))))
 else
 (if a0.aW = 20 then
 some (ah ((ah (0 - (ah (a0.fB.tdiv 2)))) - 1))
 else
 (
 (if a0.aW = 21 then
 some (a0.aW == 21)
 else
 some (a0.aW == 22))
 : Option (Bool)) >>= fun Ov =>
 (if Ov = true then
 some (ah (0 - a0.fB))
 else
 (if a0.aW = 23 then
 some (ah ((ah (0 - a0.fB)) - 1))
 else
 (if a0.aW = 52 then
 some (ah (1 + a0.fB))
 else
 (if a0.aW = 53 then
 some (-2)
 else
 some 0)))))))))
theorem Bo {a0 : aR} {r : Int} (h : ff a0 = some r) : ACall Tryz.prog 153 [.agg a0.lit] [] (fun res h => res = .int .i64 r ∧ h = []) := by
 refine cP Tryz.func153 ?_
 unfold ff at h
 refine .d (.d (.d ⟨rfl, ⟨rfl, _, rfl, ?_⟩⟩))
 obtain ⟨o2, qD, nB⟩ := bd h
 replace h := qD
 refine .cut (fun σ η => ∃ b1, b1 = o2 ∧ σ = [(1, .aN 0 0 0 0), (4, .int .i64 a0.aW), (5, .bool b1)] ∧ η = [.row 0 5 1 64 (fun _ => a0.lit)]) ?_ ?_
 refine .d (sE h (fun nW h => ?_) (fun nW h => ?_))
 exact afI
 refine .d (sE h (fun oM h => ?_) (fun oM h => ?_))
 exact afI
 refine .d (sE h (fun pT h => ?_) (fun pT h => ?_))
 exact afI
 refine .d (sE h (fun nh h => ?_) (fun nh h => ?_))
 exact afI
 refine .d (sE h (fun uV h => ?_) (fun uV h => ?_))
 exact afI
 refine .d (sE h (fun eY h => ?_) (fun eY h => ?_))
 exact afI
 refine .d (sE h (fun jU h => ?_) (fun jU h => ?_))
 exact afI
 refine .d (sE h (fun ly h => ?_) (fun ly h => ?_))
 exact afI
 refine .d (sE h (fun jS h => ?_) (fun jS h => ?_))
 exact afI
 refine .d (sE h (fun kU h => ?_) (fun kU h => ?_))
 exact afI
 refine .d (sE h (fun dI h => ?_) (fun dI h => ?_))
 exact afI
 exact afI
 rintro _ _ ⟨b1, rfl, rfl, rfl⟩
 replace h := nB
 refine sV h (fun lx h => ?_) (fun lx h => ?_)
 exact afK
 obtain ⟨Ma, VW, VX⟩ := bd h
 replace h := VW
 refine .cut (fun σ η => ∃ Ot, Ot = Ma ∧ σ = [(1, .aN 0 0 0 0), (4, .int .i64 a0.aW), (18, .bool Ot)] ∧ η = [.row 0 5 1 64 (fun _ => a0.lit)]) ?_ ?_
 refine .d (sE h (fun rO h => ?_) (fun rO h => ?_))
 exact afI
 refine .d (sE h (fun kS h => ?_) (fun kS h => ?_))
 exact afI
 refine .d (sE h (fun pW h => ?_) (fun pW h => ?_))
 exact afI
 refine .d (sE h (fun Cp h => ?_) (fun Cp h => ?_))
 exact afI
 refine .d (sE h (fun sJ h => ?_) (fun sJ h => ?_))
 exact afI
 refine .d (sE h (fun wi h => ?_) (fun wi h => ?_))
 exact afI
 refine .d (sE h (fun sL h => ?_) (fun sL h => ?_))
 exact afI
 refine .d (sE h (fun rP h => ?_) (fun rP h => ?_))
 exact afI
 refine .d (sE h (fun tA h => ?_) (fun tA h => ?_))
 exact afI
 refine .d (sE h (fun sY h => ?_) (fun sY h => ?_))
 exact afI
 refine .d (sE h (fun AR h => ?_) (fun AR h => ?_))
 exact afI
 exact afI
 rintro _ _ ⟨Ot, rfl, rfl, rfl⟩
 replace h := VX
 refine sV h (fun xQ h => ?_) (fun xQ h => ?_)
 exact afK
 refine .d (sE h (fun xx h => ?_) (fun xx h => ?_))
 exact afT
 obtain ⟨WI, VY, VZ⟩ := bd h
 replace h := VY
 refine .cut (fun σ η => ∃ Ou, Ou = WI ∧ σ = [(1, .aN 0 0 0 0), (4, .int .i64 a0.aW), (36, .bool Ou)] ∧ η = [.row 0 5 1 64 (fun _ => a0.lit)]) ?_ ?_
 refine .d (sE h (fun Bn h => ?_) (fun Bn h => ?_))
 exact afI
 exact afI
 rintro _ _ ⟨Ou, rfl, rfl, rfl⟩
 replace h := VZ
 refine sV h (fun tC h => ?_) (fun tC h => ?_)
 exact afV
 refine .d (sE h (fun E3 h => ?_) (fun E3 h => ?_))
 exact afV
 obtain ⟨I3, I5, zr⟩ := bd h
 replace h := I5
 refine .cut (fun σ η => ∃ Ov, Ov = I3 ∧ σ = [(1, .aN 0 0 0 0), (4, .int .i64 a0.aW), (50, .bool Ov)] ∧ η = [.row 0 5 1 64 (fun _ => a0.lit)]) ?_ ?_
 refine .d (sE h (fun Et h => ?_) (fun Et h => ?_))
 exact afI
 exact afI
 rintro _ _ ⟨Ov, rfl, rfl, rfl⟩
 replace h := zr
 refine sV h (fun V0 h => ?_) (fun V0 h => ?_)
 exact afT
 refine .d (sE h (fun AI h => ?_) (fun AI h => ?_))
 exact afT
 refine .d (sE h (fun Ja h => ?_) (fun Ja h => ?_))
 exact afT
 refine .d (sE h (fun EA h => ?_) (fun EA h => ?_))
 exact afK
 exact afK
def cU (a0 : Int) : Option (Int) :=
 (if a0 = 28 then
 some (-1)
 else
 (if a0 = 44 then
 some 1
 else
 some 0))
theorem qv {a0 : Int} {r : Int} (h : cU a0 = some r) : ACall Tryz.prog 155 [.int .i64 a0] [] (fun res h => res = .int .i64 r ∧ h = []) := by
 refine cP Tryz.func155 ?_
 unfold cU at h
 refine .d (.d (.d (.d (sE h (fun de h => ?_) (fun de h => ?_)))))
 exact afK
 refine .d (sE h (fun jr h => ?_) (fun jr h => ?_))
 exact afK
 exact afK
def pj (a0 : Int) : Option (Bool) :=
 (if a0 = 5 then
 some true
 else
 (if a0 = 6 then
 some true
 else
 (if a0 = 18 then
 some true
 else
 (if a0 = 21 then
 some true
 else
 (if a0 = 24 then
 some true
 else
 (if a0 = 26 then
 some true
 else
 (if a0 = 38 then
 some true
 else
 some false)))))))
theorem Hn {a0 : Int} {r : Bool} (h : pj a0 = some r) : ACall Tryz.prog 196 [.int .i64 a0] [] (fun res h => res = .bool r ∧ h = []) := by
 refine cP Tryz.func196 ?_
 unfold pj at h
 refine .d (.d (.d (.d (.d (sE h (fun de h => ?_) (fun de h => ?_))))))
 exact .kt de (.d (eB h))
 refine .d (sE h (fun jr h => ?_) (fun jr h => ?_))
 exact .kt jr (.d (eB h))
 refine .d (sE h (fun lJ h => ?_) (fun lJ h => ?_))
 exact .kt lJ (.d (eB h))
 refine .d (sE h (fun oL h => ?_) (fun oL h => ?_))
 exact .kt oL (.d (eB h))
 refine .d (sE h (fun nW h => ?_) (fun nW h => ?_))
 exact .kt nW (.d (eB h))
 refine .d (sE h (fun oM h => ?_) (fun oM h => ?_))
 exact .kt oM (.d (eB h))
 refine sE h (fun pT h => ?_) (fun pT h => ?_)
 exact afJ
 exact afJ
def lL (a0 : Int) : Option (Bool) :=
 yx a0 1 56 >>= fun v1 =>
 some v1
theorem E4 {a0 : Int} {r : Bool} (h : lL a0 = some r) : ACall Tryz.prog 183 [.int .i64 a0] [] (fun res h => res = .bool r ∧ h = []) := by
 refine cP Tryz.func183 ?_
 unfold lL at h
 exact .d (.d (bk h fun v1 jT h => (bO (uM jT) (eB h))))
def jw (a0 : aR) (a1 : Int) (a2 : Int) : Option (Bool) :=
 (if a0.aW = 2 then
 yx a0.fA 0 1000000000 >>= fun v2 =>
 some v2
 else
 (
 (if a0.aW = 4 then
 some true
 else
 some (a0.aW == 11))
 : Option (Bool)) >>= fun b4 =>
 (if b4 = true then
 yx a0.fA 0 2 >>= fun v10 =>
 some v10
 else
 (if a0.aW = 12 then
 yx a0.fA 1 15 >>= fun qd =>
 some qd
 else
 pj a0.aW >>= fun pt =>
 (if pt = true then
 (if a0.fA ≥ 0 then
 some (decide (a0.fA < a1))
 else
 some false)
 else
 cC a0.aW >>= fun aZ =>
 (if aZ = true then
 (if a0.fA ≥ 0 then
 some (decide (a0.fA < a2))
 else
 some false)
 else
 some (a0.fA == 0))))))
theorem CH {a0 : aR} {a1 : Int} {a2 : Int} {r : Bool} (h : jw a0 a1 a2 = some r) : ACall Tryz.prog 184 [.agg a0.lit, .int .i64 a1, .int .i64 a2] [] (fun res h => res = .bool r ∧ h = []) := by
 refine cP Tryz.func184 ?_
 unfold jw at h
 refine .d (.d (.d ⟨rfl, ⟨rfl, _, rfl, (sE h (fun de h => ?_) (fun de h => ?_))⟩⟩))
 exact .d ⟨rfl, ⟨rfl, _, rfl, (bk h fun v2 DI h => (bO (uM DI) (eB h)))⟩⟩
 obtain ⟨o5, xD, vU⟩ := bd h
 replace h := xD
 refine .cut (fun σ η => ∃ b4, b4 = o5 ∧ σ = [(1, .int .i64 a1), (2, .int .i64 a2), (3, .aN 0 0 0 0), (14, .bool b4)] ∧ η = [.row 0 5 1 64 (fun _ => a0.lit)]) ?_ ?_
 refine ⟨rfl, ⟨rfl, _, rfl, (sE h (fun nh h => ?_) (fun nh h => ?_))⟩⟩
 exact .t (.t (.t (ct ⟨_, si h, rfl, rfl⟩ (tk [0] ⟨.i, .i, .p, .b, ⟨⟩⟩ ⟨(bf rfl), ⟨⟩⟩))))
 exact ⟨rfl, (.f ⟨rfl, _, rfl, (.f (.f (ct ⟨_, si h, rfl, rfl⟩ (tk [0] ⟨.i, .i, .p, .b, ⟨⟩⟩ ⟨(bf rfl), ⟨⟩⟩))))⟩)⟩
 rintro _ _ ⟨b4, rfl, rfl, rfl⟩
 replace h := vU
 refine sV h (fun uV h => ?_) (fun uV h => ?_)
 exact .d ⟨rfl, ⟨rfl, _, rfl, (bk h fun v10 NM h => (bO (uM NM) (eB h)))⟩⟩
 refine .d ⟨rfl, ⟨rfl, _, rfl, (sE h (fun ly h => ?_) (fun ly h => ?_))⟩⟩
 exact .d ⟨rfl, ⟨rfl, _, rfl, (bk h fun qd nY h => (bO (uM nY) (eB h)))⟩⟩
 refine .d ⟨rfl, ⟨rfl, _, rfl, (bk h fun pt vo h => (bO (Hn vo) (sV h (fun kR h => ?_) (fun kR h => ?_))))⟩⟩
 refine .d ⟨rfl, ⟨rfl, _, rfl, (sD h (fun oX h => ?_) (fun oX h => ?_))⟩⟩
 exact ⟨rfl, (.t ⟨rfl, _, rfl, (.t (.t (.t (eB h))))⟩)⟩
 exact .f (.f (.f (.f (eB h))))
 refine .d ⟨rfl, ⟨rfl, _, rfl, (bk h fun aZ Af h => (bO (pL Af) (sV h (fun rO h => ?_) (fun rO h => ?_))))⟩⟩
 refine .d ⟨rfl, ⟨rfl, _, rfl, (sD h (fun kS h => ?_) (fun kS h => ?_))⟩⟩
 exact ⟨rfl, (.t ⟨rfl, _, rfl, (.t (.t (.t (eB h))))⟩)⟩
 exact .f (.f (.f (.f (eB h))))
 exact .d ⟨rfl, ⟨rfl, _, rfl, (eB h)⟩⟩
def kM (a0 : aR) (a1 : Int) : Option (Bool) :=
 (
 (if a0.aW = 15 then
 some (a0.aW == 15)
 else
 some (a0.aW == 52))
 : Option (Bool)) >>= fun b1 =>
 (if b1 = true then
 yx a0.fB 0 1 >>= fun v7 =>
 some v7
 else
 (
 (if a0.aW = 18 then
 some (a0.aW == 18)
 else
 (if a0.aW = 19 then
 some (a0.aW == 19)
 else
 some (a0.aW == 20)))
 : Option (Bool)) >>= fun b9 =>
 (if b9 = true then
 yx a0.fB 0 81 >>= fun db =>
 some db
 else
 (
 (if a0.aW = 21 then
 some (a0.aW == 21)
 else
 (if a0.aW = 22 then
 some (a0.aW == 22)
 else
 some (a0.aW == 23)))
 : Option (Bool)) >>= fun Zy =>
 (if Zy = true then
 yx a0.fB 0 40 >>= fun kY =>
 some kY
 else
 (if a0.aW = 24 then
 (if a0.fB ≥ 0 then
 some (decide (a0.fB < a1))
 else
 some false)
 else
 (if a0.aW = 49 then
 yx a0.fB 0 100 >>= fun v30 =>
 some v30
 else
 some (a0.fB == 0))))))
theorem CI {a0 : aR} {a1 : Int} {r : Bool} (h : kM a0 a1 = some r) : ACall Tryz.prog 185 [.agg a0.lit, .int .i64 a1] [] (fun res h => res = .bool r ∧ h = []) := by
 refine cP Tryz.func185 ?_
 unfold kM at h
 refine .d (.d (.d ⟨rfl, ⟨rfl, _, rfl, ?_⟩⟩))
 obtain ⟨o2, qD, nB⟩ := bd h
 replace h := qD
 refine .cut (fun σ η => ∃ b1, b1 = o2 ∧ σ = [(1, .int .i64 a1), (2, .aN 0 0 0 0), (6, .int .i64 a0.aW), (7, .bool b1)] ∧ η = [.row 0 5 1 64 (fun _ => a0.lit)]) ?_ ?_
 refine .d (sE h (fun nW h => ?_) (fun nW h => ?_))
 exact afS
 exact afS
 rintro _ _ ⟨b1, rfl, rfl, rfl⟩
 replace h := nB
 refine sV h (fun oM h => ?_) (fun oM h => ?_)
 exact .d ⟨rfl, ⟨rfl, _, rfl, (bk h fun v7 Ib h => (bO (uM Ib) (eB h)))⟩⟩
 obtain ⟨QC, NY, GO⟩ := bd h
 replace h := NY
 refine .cut (fun σ η => ∃ b9, b9 = QC ∧ σ = [(1, .int .i64 a1), (2, .aN 0 0 0 0), (6, .int .i64 a0.aW), (13, .bool b9)] ∧ η = [.row 0 5 1 64 (fun _ => a0.lit)]) ?_ ?_
 refine .d (sE h (fun jS h => ?_) (fun jS h => ?_))
 exact afS
 refine .d (sE h (fun kU h => ?_) (fun kU h => ?_))
 exact afS
 exact afS
 rintro _ _ ⟨b9, rfl, rfl, rfl⟩
 replace h := GO
 refine sV h (fun dI h => ?_) (fun dI h => ?_)
 exact .d ⟨rfl, ⟨rfl, _, rfl, (bk h fun db rL h => (bO (uM rL) (eB h)))⟩⟩
 obtain ⟨RR, U6, U7⟩ := bd h
 replace h := U6
 refine .cut (fun σ η => ∃ Zy, Zy = RR ∧ σ = [(1, .int .i64 a1), (2, .aN 0 0 0 0), (6, .int .i64 a0.aW), (20, .bool Zy)] ∧ η = [.row 0 5 1 64 (fun _ => a0.lit)]) ?_ ?_
 refine .d (sE h (fun kS h => ?_) (fun kS h => ?_))
 exact afS
 refine .d (sE h (fun pW h => ?_) (fun pW h => ?_))
 exact afS
 exact afS
 rintro _ _ ⟨Zy, rfl, rfl, rfl⟩
 replace h := U7
 refine sV h (fun Cp h => ?_) (fun Cp h => ?_)
 exact .d ⟨rfl, ⟨rfl, _, rfl, (bk h fun kY D7 h => (bO (uM D7) (eB h)))⟩⟩
 refine .d (sE h (fun sL h => ?_) (fun sL h => ?_))
 refine .d ⟨rfl, ⟨rfl, _, rfl, (sD h (fun rP h => ?_) (fun rP h => ?_))⟩⟩
 exact ⟨rfl, (.t ⟨rfl, _, rfl, (.t (.t (.t (eB h))))⟩)⟩
 exact .f (.f (.f (.f (eB h))))
 refine .d (sE h (fun tA h => ?_) (fun tA h => ?_))
 exact .d ⟨rfl, ⟨rfl, _, rfl, (bk h fun v30 I0 h => (bO (uM I0) (eB h)))⟩⟩
 exact .d ⟨rfl, ⟨rfl, _, rfl, (eB h)⟩⟩
def fK (a0 : aR) (a1 : Int) (a2 : Int) : Option (Bool) :=
 lL a0.aW >>= fun v1 =>
 (if v1 = true then
 jw a0 a1 a2 >>= fun v4 =>
 (if v4 = true then
 kM a0 a1 >>= fun v7 =>
 (if v7 = true then
 ((
 (
 (if a0.aW = 31 then
 some (a0.aW == 31)
 else
 (if a0.aW = 55 then
 some (a0.aW == 55)
 else
 (if a0.aW = 56 then
 some (a0.aW == 56)
 else
 (if a0.aW = 35 then
 some (a0.aW == 35)
 else
 some (a0.aW == 36)))))
 : Option (Bool)) >>= fun Zz =>
 (if Zz = true then
 some (.inl ())
 else
 (if a0.aW = 3 then
 (if (a0.fS.length : Int) > 400 then
 some (.inr false)
 else
 some (.inl ()))
 else
 (
 (if a0.aW = 7 then
 some (a0.aW == 7)
 else
 (if a0.aW = 8 then
 some (a0.aW == 8)
 else
 (if a0.aW = 17 then
 some (a0.aW == 17)
 else
 (if a0.aW = 19 then
 some (a0.aW == 19)
 else
 (if a0.aW = 20 then
 some (a0.aW == 20)
 else
 (if a0.aW = 22 then
 some (a0.aW == 22)
 else
 (if a0.aW = 23 then
 some (a0.aW == 23)
 else
 (if a0.aW = 25 then
 some (a0.aW == 25)
 else
 (if a0.aW = 26 then
 some (a0.aW == 26)
 else
 (if a0.aW = 32 then
 some (a0.aW == 32)
 else
 (if a0.aW = 34 then
 some (a0.aW == 34)
 else
 (if a0.aW = 39 then
 some (a0.aW == 39)
 else
 some (a0.aW == 44)))))))))))))
 : Option (Bool)) >>= fun Ng =>
 (if Ng = true then
 ef a0.fS >>= fun zJ =>
 (if zJ = true then
 some (.inl ())
 else
 some (.inr false))
 else
 (if a0.fS = ([] : ba) then
 some (.inl ())
 else
 some (.inr false)))))
 : Option ((Unit) ⊕ Bool)) >>= fun QC => match QC with
 | .inr r => some r
 | .inl _ =>
 (if a0.aW = 25 then
 ef a0.fT >>= fun v46 =>
 some v46
 else
 some (a0.fT == ([] : ba)))
 )
 else
 some false)
 else
 some false)
 else
 some false)
theorem Jx {a0 : aR} {a1 : Int} {a2 : Int} {r : Bool} (h : fK a0 a1 a2 = some r) : ACall Tryz.prog 149 [.agg a0.lit, .int .i64 a1, .int .i64 a2] [] (fun res h => res = .bool r ∧ h = []) := by
 refine cP Tryz.func149 ?_
 unfold fK at h
 refine .d (.d (.d ⟨rfl, ⟨rfl, _, rfl, (bk h fun v1 jT h => (bO (E4 jT) (j3 h (fun lJ h => ?_) (fun lJ h => ?_))))⟩⟩))
 exact .t (.t (.t (.t (.t (.t (.t (.t (.t (.t (.t (.d (eB h))))))))))))
 refine ⟨rfl, _, rfl, (.f (.f (.f (bk h fun v4 xy h => (bO (CH xy) (.f (.f (j3 h (fun oM h => ?_) (fun oM h => ?_)))))))))⟩
 exact .t (.t (.t (.t (.t (.d (eB h))))))
 refine ⟨rfl, _, rfl, (.f (.f (bk h fun v7 Ib h => (bO (CI Ib) (.f (.f (j3 h (fun uV h => ?_) (fun uV h => ?_))))))))⟩
 exact afJ
 obtain ⟨QC, NY, GO⟩ := bd h
 replace h := NY
 refine .cut (fun σ η => .inl () = QC ∧ σ = [(3, .aN 0 0 0 0)] ∧ η = [.row 0 5 1 64 (fun _ => a0.lit)]) ?_ ?_
 refine .d ⟨rfl, ⟨rfl, _, rfl, ?_⟩⟩
 obtain ⟨HS, Ut, Nq⟩ := bd h
 replace h := Ut
 refine .cut (fun σ η => ∃ Zz, Zz = HS ∧ σ = [(3, .aN 0 0 0 0), (25, .int .i64 a0.aW), (29, .bool Zz)] ∧ η = [.row 0 5 1 64 (fun _ => a0.lit)]) ?_ ?_
 refine .d (sE h (fun kR h => ?_) (fun kR h => ?_))
 exact afI
 refine .d (sE h (fun oX h => ?_) (fun oX h => ?_))
 exact afI
 refine .d (sE h (fun qI h => ?_) (fun qI h => ?_))
 exact afI
 refine .d (sE h (fun pf h => ?_) (fun pf h => ?_))
 exact afI
 exact afI
 rintro _ _ ⟨Zz, rfl, rfl, rfl⟩
 replace h := Nq
 refine sV h (fun rO h => ?_) (fun rO h => ?_)
 exact afM
 refine .d (sE h (fun kS h => ?_) (fun kS h => ?_))
 refine .d ⟨rfl, ⟨rfl, _, rfl, (sD h (fun pW h => ?_) (fun pW h => ?_))⟩⟩
 refine .d ?_
 obtain rfl := si h
 replace h := GO
 exact eB h
 exact afM
 obtain ⟨Ii, Nh, Es⟩ := bd h
 replace h := Nh
 refine .cut (fun σ η => ∃ Ng, Ng = Ii ∧ σ = [(3, .aN 0 0 0 0), (41, .bool Ng)] ∧ η = [.row 0 5 1 64 (fun _ => a0.lit)]) ?_ ?_
 refine .d (sE h (fun rP h => ?_) (fun rP h => ?_))
 exact afO
 refine .d (sE h (fun tA h => ?_) (fun tA h => ?_))
 exact afO
 refine .d (sE h (fun sY h => ?_) (fun sY h => ?_))
 exact afO
 refine .d (sE h (fun AR h => ?_) (fun AR h => ?_))
 exact afO
 refine .d (sE h (fun xQ h => ?_) (fun xQ h => ?_))
 exact afO
 refine .d (sE h (fun xx h => ?_) (fun xx h => ?_))
 exact afO
 refine .d (sE h (fun xC h => ?_) (fun xC h => ?_))
 exact afO
 refine .d (sE h (fun V1 h => ?_) (fun V1 h => ?_))
 exact afO
 refine .d (sE h (fun I1 h => ?_) (fun I1 h => ?_))
 exact afO
 refine .d (sE h (fun Ak h => ?_) (fun Ak h => ?_))
 exact afO
 refine .d (sE h (fun Bn h => ?_) (fun Bn h => ?_))
 exact afO
 refine .d (sE h (fun tC h => ?_) (fun tC h => ?_))
 exact afO
 exact afO
 rintro _ _ ⟨Ng, rfl, rfl, rfl⟩
 replace h := Es
 refine sV h (fun E3 h => ?_) (fun E3 h => ?_)
 refine .d ⟨rfl, ⟨rfl, _, rfl, (bk h fun zJ Il h => (bO (nn Il) (j3 h (fun acJ h => ?_) (fun acJ h => ?_))))⟩⟩
 refine .d ?_
 obtain rfl := si h
 replace h := GO
 exact eB h
 exact afM
 refine .d ⟨rfl, ⟨rfl, _, rfl, (tc h (fun V2 h => ?_) (fun V2 h => ?_))⟩⟩
 refine .d ?_
 obtain rfl := si h
 replace h := GO
 exact eB h
 exact afM
 rintro _ _ ⟨rfl, rfl, rfl⟩
 replace h := GO
 refine .d (.d ⟨rfl, ⟨rfl, _, rfl, (sE h (fun Et h => ?_) (fun Et h => ?_))⟩⟩)
 exact .d ⟨rfl, ⟨rfl, _, rfl, (bk h fun v46 U0 h => (bO (nn U0) (eB h)))⟩⟩
 exact .d ⟨rfl, ⟨rfl, _, rfl, (eB h)⟩⟩
def dU (a0 : Int) : Option (Bool) :=
 (if a0 = 27 then
 some true
 else
 (if a0 = 28 then
 some true
 else
 (if a0 = 29 then
 some true
 else
 (if a0 = 44 then
 some true
 else
 (if a0 = 45 then
 some true
 else
 (if a0 = 49 then
 some true
 else
 (if a0 = 52 then
 some true
 else
 some false)))))))
theorem tN {a0 : Int} {r : Bool} (h : dU a0 = some r) : ACall Tryz.prog 138 [.int .i64 a0] [] (fun res h => res = .bool r ∧ h = []) := by
 refine cP Tryz.func138 ?_
 unfold dU at h
 refine .d (.d (.d (.d (.d (sE h (fun de h => ?_) (fun de h => ?_))))))
 exact .kt de (.d (eB h))
 refine .d (sE h (fun jr h => ?_) (fun jr h => ?_))
 exact .kt jr (.d (eB h))
 refine .d (sE h (fun lJ h => ?_) (fun lJ h => ?_))
 exact .kt lJ (.d (eB h))
 refine .d (sE h (fun oL h => ?_) (fun oL h => ?_))
 exact .kt oL (.d (eB h))
 refine .d (sE h (fun nW h => ?_) (fun nW h => ?_))
 exact .kt nW (.d (eB h))
 refine .d (sE h (fun oM h => ?_) (fun oM h => ?_))
 exact .kt oM (.d (eB h))
 refine sE h (fun pT h => ?_) (fun pT h => ?_)
 exact afJ
 exact afJ
def kn (a0 : Int) : Option (Bool) :=
 (if a0 = 27 then
 some true
 else
 (if a0 = 42 then
 some true
 else
 (if a0 = 43 then
 some true
 else
 some (a0 == 49))))
theorem E5 {a0 : Int} {r : Bool} (h : kn a0 = some r) : ACall Tryz.prog 135 [.int .i64 a0] [] (fun res h => res = .bool r ∧ h = []) := by
 refine cP Tryz.func135 ?_
 unfold kn at h
 refine .d (.d (sE h (fun de h => ?_) (fun de h => ?_)))
 exact .t (.t (.t (.t (.t (.t (.t (.t (eB h))))))))
 refine .f (.f (sE h (fun jr h => ?_) (fun jr h => ?_)))
 exact .t (.t (.t (.t (.t (eB h)))))
 refine .f (.f (sE h (fun lJ h => ?_) (fun lJ h => ?_)))
 exact .t (.t (eB h))
 exact .f (.f (eB h))
def lO (a0 : aR) : Option (Int) :=
 (
 (if a0.aW = 6 then
 some (a0.aW == 6)
 else
 (if a0.aW = 8 then
 some (a0.aW == 8)
 else
 (if a0.aW = 10 then
 some (a0.aW == 10)
 else
 (if a0.aW = 11 then
 some (a0.aW == 11)
 else
 (if a0.aW = 13 then
 some (a0.aW == 13)
 else
 (if a0.aW = 17 then
 some (a0.aW == 17)
 else
 (if a0.aW = 28 then
 some (a0.aW == 28)
 else
 (if a0.aW = 29 then
 some (a0.aW == 29)
 else
 (if a0.aW = 30 then
 some (a0.aW == 30)
 else
 (if a0.aW = 33 then
 some (a0.aW == 33)
 else
 (if a0.aW = 34 then
 some (a0.aW == 34)
 else
 (if a0.aW = 37 then
 some (a0.aW == 37)
 else
 (if a0.aW = 42 then
 some (a0.aW == 42)
 else
 (if a0.aW = 43 then
 some (a0.aW == 43)
 else
 (if a0.aW = 50 then
 some (a0.aW == 50)
 else
 some (a0.aW == 54))))))))))))))))
 : Option (Bool)) >>= fun b1 =>
 (if b1 = true then
 some 1
 else
 (
 (if a0.aW = 12 then
 some (a0.aW == 12)
 else
 (if a0.aW = 16 then
 some (a0.aW == 16)
 else
 (if a0.aW = 41 then
 some (a0.aW == 41)
 else
 (if a0.aW = 51 then
 some (a0.aW == 51)
 else
 (if a0.aW = 52 then
 some (a0.aW == 52)
 else
 some (a0.aW == 53))))))
 : Option (Bool)) >>= fun Hm =>
 (if Hm = true then
 some 2
 else
 (if a0.aW = 15 then
 some (ah (2 + a0.fB))
 else
 (
 (if a0.aW = 18 then
 some (a0.aW == 18)
 else
 some (a0.aW == 19))
 : Option (Bool)) >>= fun Oq =>
 (if Oq = true then
 some (ah ((ah (a0.fB.tdiv 2)) + 1))
 else
 (if a0.aW = 20 then
 some (ah ((ah (a0.fB.tdiv 2)) + 2))
 else
 (if a0.aW = 21 then
 some a0.fB
 else
 (if a0.aW = 22 then
 some a0.fB
 else
 (if a0.aW = 23 then
 some (ah (a0.fB + 1))
 else
 some 0))))))))
theorem E6 {a0 : aR} {r : Int} (h : lO a0 = some r) : ACall Tryz.prog 134 [.agg a0.lit] [] (fun res h => res = .int .i64 r ∧ h = []) := by
 refine cP Tryz.func134 ?_
 unfold lO at h
 refine .d (.d (.d ⟨rfl, ⟨rfl, _, rfl, ?_⟩⟩))
 obtain ⟨o2, qD, nB⟩ := bd h
 replace h := qD
 refine .cut (fun σ η => ∃ b1, b1 = o2 ∧ σ = [(1, .aN 0 0 0 0), (4, .int .i64 a0.aW), (5, .bool b1)] ∧ η = [.row 0 5 1 64 (fun _ => a0.lit)]) ?_ ?_
 refine .d (sE h (fun nW h => ?_) (fun nW h => ?_))
 exact afI
 refine .d (sE h (fun oM h => ?_) (fun oM h => ?_))
 exact afI
 refine .d (sE h (fun pT h => ?_) (fun pT h => ?_))
 exact afI
 refine .d (sE h (fun nh h => ?_) (fun nh h => ?_))
 exact afI
 refine .d (sE h (fun uV h => ?_) (fun uV h => ?_))
 exact afI
 refine .d (sE h (fun eY h => ?_) (fun eY h => ?_))
 exact afI
 refine .d (sE h (fun jU h => ?_) (fun jU h => ?_))
 exact afI
 refine .d (sE h (fun ly h => ?_) (fun ly h => ?_))
 exact afI
 refine .d (sE h (fun jS h => ?_) (fun jS h => ?_))
 exact afI
 refine .d (sE h (fun kU h => ?_) (fun kU h => ?_))
 exact afI
 refine .d (sE h (fun dI h => ?_) (fun dI h => ?_))
 exact afI
 refine .d (sE h (fun lx h => ?_) (fun lx h => ?_))
 exact afI
 refine .d (sE h (fun kR h => ?_) (fun kR h => ?_))
 exact afI
 refine .d (sE h (fun oX h => ?_) (fun oX h => ?_))
 exact afI
 refine .d (sE h (fun qI h => ?_) (fun qI h => ?_))
 exact afI
 exact afI
 rintro _ _ ⟨b1, rfl, rfl, rfl⟩
 replace h := nB
 refine sV h (fun pf h => ?_) (fun pf h => ?_)
 exact afK
 obtain ⟨Xa, VU, VV⟩ := bd h
 replace h := VU
 refine .cut (fun σ η => ∃ Hm, Hm = Xa ∧ σ = [(1, .aN 0 0 0 0), (4, .int .i64 a0.aW), (22, .bool Hm)] ∧ η = [.row 0 5 1 64 (fun _ => a0.lit)]) ?_ ?_
 refine .d (sE h (fun sJ h => ?_) (fun sJ h => ?_))
 exact afI
 refine .d (sE h (fun wi h => ?_) (fun wi h => ?_))
 exact afI
 refine .d (sE h (fun sL h => ?_) (fun sL h => ?_))
 exact afI
 refine .d (sE h (fun rP h => ?_) (fun rP h => ?_))
 exact afI
 refine .d (sE h (fun tA h => ?_) (fun tA h => ?_))
 exact afI
 exact afI
 rintro _ _ ⟨Hm, rfl, rfl, rfl⟩
 replace h := VV
 refine sV h (fun sY h => ?_) (fun sY h => ?_)
 exact afK
 refine .d (sE h (fun AR h => ?_) (fun AR h => ?_))
 exact afT
 obtain ⟨Fw, Nr, xR⟩ := bd h
 replace h := Nr
 refine .cut (fun σ η => ∃ Oq, Oq = Fw ∧ σ = [(1, .aN 0 0 0 0), (4, .int .i64 a0.aW), (34, .bool Oq)] ∧ η = [.row 0 5 1 64 (fun _ => a0.lit)]) ?_ ?_
 refine .d (sE h (fun I1 h => ?_) (fun I1 h => ?_))
 exact afI
 exact afI
 rintro _ _ ⟨Oq, rfl, rfl, rfl⟩
 replace h := xR
 refine sV h (fun Ak h => ?_) (fun Ak h => ?_)
 exact afV
 refine .d (sE h (fun Bn h => ?_) (fun Bn h => ?_))
 exact afV
 refine .d (.d (sE h (fun tC h => ?_) (fun tC h => ?_)))
 exact .kt tC (.d ⟨rfl, ⟨rfl, _, rfl, (eI h)⟩⟩)
 refine sE h (fun E3 h => ?_) (fun E3 h => ?_)
 exact afT
 refine .d (sE h (fun I4 h => ?_) (fun I4 h => ?_))
 exact afT
 exact afK
def iZ (a0 : aR) : Option (Int) :=
 (
 (if a0.aW = 2 then
 some (a0.aW == 2)
 else
 (if a0.aW = 3 then
 some (a0.aW == 3)
 else
 (if a0.aW = 4 then
 some (a0.aW == 4)
 else
 (if a0.aW = 5 then
 some (a0.aW == 5)
 else
 (if a0.aW = 7 then
 some (a0.aW == 7)
 else
 (if a0.aW = 9 then
 some (a0.aW == 9)
 else
 (if a0.aW = 14 then
 some (a0.aW == 14)
 else
 (if a0.aW = 24 then
 some (a0.aW == 24)
 else
 (if a0.aW = 25 then
 some (a0.aW == 25)
 else
 (if a0.aW = 40 then
 some (a0.aW == 40)
 else
 (if a0.aW = 50 then
 some (a0.aW == 50)
 else
 some (a0.aW == 56))))))))))))
 : Option (Bool)) >>= fun b1 =>
 (if b1 = true then
 some 1
 else
 (
 (if a0.aW = 10 then
 some (a0.aW == 10)
 else
 (if a0.aW = 12 then
 some (a0.aW == 12)
 else
 (if a0.aW = 16 then
 some (a0.aW == 16)
 else
 (if a0.aW = 28 then
 some (a0.aW == 28)
 else
 (if a0.aW = 29 then
 some (a0.aW == 29)
 else
 (if a0.aW = 30 then
 some (a0.aW == 30)
 else
 (if a0.aW = 33 then
 some (a0.aW == 33)
 else
 (if a0.aW = 34 then
 some (a0.aW == 34)
 else
 (if a0.aW = 37 then
 some (a0.aW == 37)
 else
 (if a0.aW = 41 then
 some (a0.aW == 41)
 else
 (if a0.aW = 42 then
 some (a0.aW == 42)
 else
 some (a0.aW == 43))))))))))))
 : Option (Bool)) >>= fun Ot =>
 (if Ot = true then
 some (-1)
 else
 (if a0.aW = 15 then
 some (ah ((-1) - a0.fB))
 else
 (
 (if a0.aW = 18 then
 some (a0.aW == 18)
 else
 some (a0.aW == 19))
 : Option (Bool)) >>= fun Ou =>
 (if Ou = true then
 some (ah (0 - (ah (a0.fB.tdiv 2))))
 else
 (if a0.aW = 20 then
 some (ah ((ah (0 - (ah (a0.fB.tdiv 2)))) - 1))
 else
 (
 (if a0.aW = 21 then
 some (a0.aW == 21)
 else
 some (a0.aW == 22))
 : Option (Bool)) >>= fun Ov =>
 (if Ov = true then
 some (ah (0 - a0.fB))
 else
 (if a0.aW = 23 then
 some (ah ((ah (0 - a0.fB)) - 1))
 else
 (if a0.aW = 52 then
 some (ah (1 + a0.fB))
 else
 (if a0.aW = 53 then
 some (-2)
 else
 some 0)))))))))
theorem Bp {a0 : aR} {r : Int} (h : iZ a0 = some r) : ACall Tryz.prog 137 [.agg a0.lit] [] (fun res h => res = .int .i64 r ∧ h = []) := by
 refine cP Tryz.func137 ?_
 unfold iZ at h
 refine .d (.d (.d ⟨rfl, ⟨rfl, _, rfl, ?_⟩⟩))
 obtain ⟨o2, qD, nB⟩ := bd h
 replace h := qD
 refine .cut (fun σ η => ∃ b1, b1 = o2 ∧ σ = [(1, .aN 0 0 0 0), (4, .int .i64 a0.aW), (5, .bool b1)] ∧ η = [.row 0 5 1 64 (fun _ => a0.lit)]) ?_ ?_
 refine .d (sE h (fun nW h => ?_) (fun nW h => ?_))
 exact afI
 refine .d (sE h (fun oM h => ?_) (fun oM h => ?_))
 exact afI
 refine .d (sE h (fun pT h => ?_) (fun pT h => ?_))
 exact afI
 refine .d (sE h (fun nh h => ?_) (fun nh h => ?_))
 exact afI
 refine .d (sE h (fun uV h => ?_) (fun uV h => ?_))
 exact afI
 refine .d (sE h (fun eY h => ?_) (fun eY h => ?_))
 exact afI
 refine .d (sE h (fun jU h => ?_) (fun jU h => ?_))
 exact afI
 refine .d (sE h (fun ly h => ?_) (fun ly h => ?_))
 exact afI
 refine .d (sE h (fun jS h => ?_) (fun jS h => ?_))
 exact afI
 refine .d (sE h (fun kU h => ?_) (fun kU h => ?_))
 exact afI
 refine .d (sE h (fun dI h => ?_) (fun dI h => ?_))
 exact afI
 exact afI
 rintro _ _ ⟨b1, rfl, rfl, rfl⟩
 replace h := nB
 refine sV h (fun lx h => ?_) (fun lx h => ?_)
 exact afK
 obtain ⟨Ma, VW, VX⟩ := bd h
 replace h := VW
 refine .cut (fun σ η => ∃ Ot, Ot = Ma ∧ σ = [(1, .aN 0 0 0 0), (4, .int .i64 a0.aW), (18, .bool Ot)] ∧ η = [.row 0 5 1 64 (fun _ => a0.lit)]) ?_ ?_
 refine .d (sE h (fun rO h => ?_) (fun rO h => ?_))
 exact afI
 refine .d (sE h (fun kS h => ?_) (fun kS h => ?_))
 exact afI
 refine .d (sE h (fun pW h => ?_) (fun pW h => ?_))
 exact afI
 refine .d (sE h (fun Cp h => ?_) (fun Cp h => ?_))
 exact afI
 refine .d (sE h (fun sJ h => ?_) (fun sJ h => ?_))
 exact afI
 refine .d (sE h (fun wi h => ?_) (fun wi h => ?_))
 exact afI
 refine .d (sE h (fun sL h => ?_) (fun sL h => ?_))
 exact afI
 refine .d (sE h (fun rP h => ?_) (fun rP h => ?_))
 exact afI
 refine .d (sE h (fun tA h => ?_) (fun tA h => ?_))
 exact afI
 refine .d (sE h (fun sY h => ?_) (fun sY h => ?_))
 exact afI
 refine .d (sE h (fun AR h => ?_) (fun AR h => ?_))
 exact afI
 exact afI
 rintro _ _ ⟨Ot, rfl, rfl, rfl⟩
 replace h := VX
 refine sV h (fun xQ h => ?_) (fun xQ h => ?_)
 exact afK
 refine .d (sE h (fun xx h => ?_) (fun xx h => ?_))
 exact afT
 obtain ⟨WI, VY, VZ⟩ := bd h
 replace h := VY
 refine .cut (fun σ η => ∃ Ou, Ou = WI ∧ σ = [(1, .aN 0 0 0 0), (4, .int .i64 a0.aW), (36, .bool Ou)] ∧ η = [.row 0 5 1 64 (fun _ => a0.lit)]) ?_ ?_
 refine .d (sE h (fun Bn h => ?_) (fun Bn h => ?_))
 exact afI
 exact afI
 rintro _ _ ⟨Ou, rfl, rfl, rfl⟩
 replace h := VZ
 refine sV h (fun tC h => ?_) (fun tC h => ?_)
 exact afV
 refine .d (sE h (fun E3 h => ?_) (fun E3 h => ?_))
 exact afV
 obtain ⟨I3, I5, zr⟩ := bd h
 replace h := I5
 refine .cut (fun σ η => ∃ Ov, Ov = I3 ∧ σ = [(1, .aN 0 0 0 0), (4, .int .i64 a0.aW), (50, .bool Ov)] ∧ η = [.row 0 5 1 64 (fun _ => a0.lit)]) ?_ ?_
 refine .d (sE h (fun Et h => ?_) (fun Et h => ?_))
 exact afI
 exact afI
 rintro _ _ ⟨Ov, rfl, rfl, rfl⟩
 replace h := zr
 refine sV h (fun V0 h => ?_) (fun V0 h => ?_)
 exact afT
 refine .d (sE h (fun AI h => ?_) (fun AI h => ?_))
 exact afT
 refine .d (sE h (fun Ja h => ?_) (fun Ja h => ?_))
 exact afT
 refine .d (sE h (fun EA h => ?_) (fun EA h => ?_))
 exact afK
 exact afK
def eO (a0 : Int) : Option (Int) :=
 (if a0 = 28 then
 some (-1)
 else
 (if a0 = 44 then
 some 1
 else
 some 0))
theorem wS {a0 : Int} {r : Int} (h : eO a0 = some r) : ACall Tryz.prog 139 [.int .i64 a0] [] (fun res h => res = .int .i64 r ∧ h = []) := by
 refine cP Tryz.func139 ?_
 unfold eO at h
 refine .d (.d (.d (.d (sE h (fun de h => ?_) (fun de h => ?_)))))
 exact afK
 refine .d (sE h (fun jr h => ?_) (fun jr h => ?_))
 exact afK
 exact afK
def lN (a0 : Int) : Option (Bool) :=
 (if a0 = 5 then
 some true
 else
 (if a0 = 6 then
 some true
 else
 (if a0 = 18 then
 some true
 else
 (if a0 = 21 then
 some true
 else
 (if a0 = 24 then
 some true
 else
 (if a0 = 26 then
 some true
 else
 (if a0 = 38 then
 some true
 else
 some false)))))))
theorem E7 {a0 : Int} {r : Bool} (h : lN a0 = some r) : ACall Tryz.prog 178 [.int .i64 a0] [] (fun res h => res = .bool r ∧ h = []) := by
 refine cP Tryz.func178 ?_
 unfold lN at h
 refine .d (.d (.d (.d (.d (sE h (fun de h => ?_) (fun de h => ?_))))))
 exact .kt de (.d (eB h))
 refine .d (sE h (fun jr h => ?_) (fun jr h => ?_))
 exact .kt jr (.d (eB h))
 refine .d (sE h (fun lJ h => ?_) (fun lJ h => ?_))
 exact .kt lJ (.d (eB h))
 refine .d (sE h (fun oL h => ?_) (fun oL h => ?_))
 exact .kt oL (.d (eB h))
 refine .d (sE h (fun nW h => ?_) (fun nW h => ?_))
 exact .kt nW (.d (eB h))
 refine .d (sE h (fun oM h => ?_) (fun oM h => ?_))
 exact .kt oM (.d (eB h))
 refine sE h (fun pT h => ?_) (fun pT h => ?_)
 exact afJ
 exact afJ
def jt (a0 : Int) : Option (Int) :=
 (
 (if a0 = 3 then
 some (a0 == 3)
 else
 (if a0 = 31 then
 some (a0 == 31)
 else
 (if a0 = 55 then
 some (a0 == 55)
 else
 (if a0 = 56 then
 some (a0 == 56)
 else
 (if a0 = 35 then
 some (a0 == 35)
 else
 some (a0 == 36))))))
 : Option (Bool)) >>= fun b1 =>
 (if b1 = true then
 some 1
 else
 (if a0 = 7 then
 some 2
 else
 (if a0 = 8 then
 some 2
 else
 (if a0 = 17 then
 some 2
 else
 (if a0 = 19 then
 some 2
 else
 (if a0 = 20 then
 some 2
 else
 (if a0 = 22 then
 some 2
 else
 (if a0 = 23 then
 some 2
 else
 (if a0 = 25 then
 some 2
 else
 (if a0 = 26 then
 some 2
 else
 (if a0 = 32 then
 some 2
 else
 (if a0 = 34 then
 some 2
 else
 (if a0 = 39 then
 some 2
 else
 (if a0 = 44 then
 some 2
 else
 some 0))))))))))))))
theorem r7 {a0 : Int} {r : Int} (h : jt a0 = some r) : ACall Tryz.prog 177 [.int .i64 a0] [] (fun res h => res = .int .i64 r ∧ h = []) := by
 refine cP Tryz.func177 ?_
 unfold jt at h
 refine .d (.d (.d ?_))
 obtain ⟨o2, qD, nB⟩ := bd h
 replace h := qD
 refine .cut (fun σ η => ∃ b1, b1 = o2 ∧ σ = [(3, .int .i64 a0), (4, .bool b1)] ∧ η = []) ?_ ?_
 refine .d (sE h (fun nW h => ?_) (fun nW h => ?_))
 exact agb
 refine .d (sE h (fun oM h => ?_) (fun oM h => ?_))
 exact agb
 refine .d (sE h (fun pT h => ?_) (fun pT h => ?_))
 exact agb
 refine .d (sE h (fun nh h => ?_) (fun nh h => ?_))
 exact agb
 refine .d (sE h (fun uV h => ?_) (fun uV h => ?_))
 exact agb
 exact agb
 rintro _ _ ⟨b1, rfl, rfl, rfl⟩
 replace h := nB
 refine sV h (fun eY h => ?_) (fun eY h => ?_)
 exact afK
 refine .d (.d (sE h (fun jU h => ?_) (fun jU h => ?_)))
 exact .kt jU (.d (eI h))
 refine .d (sE h (fun ly h => ?_) (fun ly h => ?_))
 exact .kt ly (.d (eI h))
 refine .d (sE h (fun jS h => ?_) (fun jS h => ?_))
 exact .kt jS (.d (eI h))
 refine .d (sE h (fun kU h => ?_) (fun kU h => ?_))
 exact .kt kU (.d (eI h))
 refine .d (sE h (fun dI h => ?_) (fun dI h => ?_))
 exact .kt dI (.d (eI h))
 refine .d (sE h (fun lx h => ?_) (fun lx h => ?_))
 exact .kt lx (.d (eI h))
 refine .d (sE h (fun kR h => ?_) (fun kR h => ?_))
 exact .kt kR (.d (eI h))
 refine .d (sE h (fun oX h => ?_) (fun oX h => ?_))
 exact .kt oX (.d (eI h))
 refine .d (sE h (fun qI h => ?_) (fun qI h => ?_))
 exact .kt qI (.d (eI h))
 refine .d (sE h (fun pf h => ?_) (fun pf h => ?_))
 exact .kt pf (.d (eI h))
 refine .d (sE h (fun rO h => ?_) (fun rO h => ?_))
 exact .kt rO (.d (eI h))
 refine .d (sE h (fun kS h => ?_) (fun kS h => ?_))
 exact .kt kS (.d (eI h))
 refine sE h (fun pW h => ?_) (fun pW h => ?_)
 exact afK
 exact afK
def mV (a0 : aR) (a1 : Int) (a2 : Int) : Option (Bool) :=
 (
 (if a0.fS = ([] : ba) then
 some true
 else
 jt a0.aW >>= fun v6 =>
 (if v6 = 1 then
 some true
 else
 jt a0.aW >>= fun v9 =>
 some (v9 == 2)))
 : Option (Bool)) >>= fun b1 =>
 (
 jt a0.aW >>= fun pt =>
 (if pt = 2 then
 gq a0.fS >>= fun oN =>
 (if oN = true then
 some b1
 else
 some false)
 else
 some b1)
 : Option (Bool)) >>= fun FI =>
 (
 (if a0.aW = 2 then
 wh a0.fA 0 1000000000 >>= fun v28 =>
 some (v28, (a0.fB == 0), FI)
 else
 (
 (if a0.aW = 4 then
 some (a0.aW == 4)
 else
 some (a0.aW == 11))
 : Option (Bool)) >>= fun ZA =>
 (if ZA = true then
 wh a0.fA 0 2 >>= fun Fy =>
 some (Fy, (a0.fB == 0), FI)
 else
 (if a0.aW = 12 then
 wh a0.fA 1 15 >>= fun L6 =>
 some (L6, (a0.fB == 0), FI)
 else
 (if a0.aW = 3 then
 some ((a0.fA == 0), (a0.fB == 0), (decide ((a0.fS.length : Int) ≤ 400)))
 else
 (if a0.aW = 15 then
 wh a0.fB 0 1 >>= fun ze =>
 some ((a0.fA == 0), ze, FI)
 else
 (
 (if a0.aW = 18 then
 some (a0.aW == 18)
 else
 (if a0.aW = 19 then
 some (a0.aW == 19)
 else
 some (a0.aW == 20)))
 : Option (Bool)) >>= fun ZB =>
 (if ZB = true then
 wh a0.fB 0 81 >>= fun Jc =>
 some ((a0.fA == 0), Jc, FI)
 else
 (
 (if a0.aW = 21 then
 some (a0.aW == 21)
 else
 (if a0.aW = 22 then
 some (a0.aW == 22)
 else
 some (a0.aW == 23)))
 : Option (Bool)) >>= fun ZC =>
 (if ZC = true then
 wh a0.fB 0 40 >>= fun Cz =>
 some ((a0.fA == 0), Cz, FI)
 else
 (if a0.aW = 24 then
 (if a0.fB ≥ 0 then
 some ((a0.fA == 0), (decide (a0.fB < a1)), FI)
 else
 some ((a0.fA == 0), false, FI))
 else
 (if a0.aW = 49 then
 wh a0.fB 0 100 >>= fun Gg =>
 some ((a0.fA == 0), Gg, FI)
 else
 (if a0.aW = 52 then
 wh a0.fB 0 1 >>= fun v69 =>
 some ((a0.fA == 0), v69, FI)
 else
 some ((a0.fA == 0), (a0.fB == 0), FI)))))))))))
 : Option (Bool × Bool × Bool)) >>= fun (Hm, SB, Kh) =>
 (
 lN a0.aW >>= fun v75 =>
 (if v75 = true then
 (if a0.fA ≥ 0 then
 some (decide (a0.fA < a1))
 else
 some false)
 else
 some Hm)
 : Option (Bool)) >>= fun ZD =>
 (
 dU a0.aW >>= fun PJ =>
 (if PJ = true then
 (if a0.fA ≥ 0 then
 some (decide (a0.fA < a2))
 else
 some false)
 else
 some ZD)
 : Option (Bool)) >>= fun Xb =>
 (
 (if a0.aW = 25 then
 gq a0.fT >>= fun PO =>
 some PO
 else
 some (a0.fT == ([] : ba)))
 : Option (Bool)) >>= fun ZE =>
 wh a0.aW 1 56 >>= fun Sp =>
 (if Sp = true then
 (if Xb = true then
 (if SB = true then
 (if Kh = true then
 some ZE
 else
 some false)
 else
 some false)
 else
 some false)
 else
 some false)
theorem Jy {a0 : aR} {a1 : Int} {a2 : Int} {r : Bool} (h : mV a0 a1 a2 = some r) : ACall Tryz.prog 133 [.agg a0.lit, .int .i64 a1, .int .i64 a2] [] (fun res h => res = .bool r ∧ h = []) := by
 refine cP Tryz.func133 ?_
 unfold mV at h
 refine .d (.d ⟨rfl, ⟨rfl, _, rfl, (.d ⟨rfl, ⟨rfl, _, rfl, ?_⟩⟩)⟩⟩)
 obtain ⟨o2, qD, nB⟩ := bd h
 replace h := qD
 refine .cut (fun σ η => ∃ b1, b1 = o2 ∧ σ = [(1, .int .i64 a1), (2, .int .i64 a2), (3, .aN 0 0 0 0), (7, .bool (a0.fA == 0)), (8, .bool (a0.fB == 0)), (9, .bool b1)] ∧ η = [.row 0 5 1 64 (fun _ => a0.lit)]) ?_ ?_
 refine ⟨rfl, ⟨rfl, _, rfl, (sE h (fun nW h => ?_) (fun nW h => ?_))⟩⟩
 exact .t (.t (.t (.t (.t (.t (.t (.t (.t (ct ⟨_, si h, rfl, rfl⟩ (tk [0] ⟨.i, .i, .p, .b, .b, .b, ⟨⟩⟩ ⟨(bf rfl), ⟨⟩⟩))))))))))
 refine ⟨rfl, (.f ⟨rfl, _, rfl, (.f (bk h fun v6 P4 h => (bO (r7 P4) (.f (.f (sE h (fun nh h => ?_) (fun nh h => ?_)))))))⟩)⟩
 exact .t (.t (.t (.t (ct ⟨_, si h, rfl, rfl⟩ (tk [0] ⟨.i, .i, .p, .b, .b, .b, ⟨⟩⟩ ⟨(bf rfl), ⟨⟩⟩)))))
 exact ⟨rfl, (.f ⟨rfl, _, rfl, (.f (bk h fun v9 Ve h => (bO (r7 Ve) (.f (.f (ct ⟨_, si h, rfl, rfl⟩ (tk [0] ⟨.i, .i, .p, .b, .b, .b, ⟨⟩⟩ ⟨(bf rfl), ⟨⟩⟩)))))))⟩)⟩
 rintro _ _ ⟨b1, rfl, rfl, rfl⟩
 replace h := nB
 obtain ⟨HU, IP, jX⟩ := bd h
 replace h := IP
 refine .cut (fun σ η => ∃ FI, FI = HU ∧ σ = [(1, .int .i64 a1), (2, .int .i64 a2), (3, .aN 0 0 0 0), (7, .bool (a0.fA == 0)), (8, .bool (a0.fB == 0)), (9, .bool FI)] ∧ η = [.row 0 5 1 64 (fun _ => a0.lit)]) ?_ ?_
 refine .d ⟨rfl, ⟨rfl, _, rfl, (bk h fun pt vo h => (bO (r7 vo) (sE h (fun kR h => ?_) (fun kR h => ?_))))⟩⟩
 refine ⟨rfl, (.t ⟨rfl, _, rfl, (.t (bk h fun oN D5 h => (bO (oA D5) (.t (.t (j3 h (fun pf h => ?_) (fun pf h => ?_)))))))⟩)⟩
 exact ct ⟨_, si h, rfl, rfl⟩ (tk [0] ⟨.i, .i, .p, .b, .b, .b, ⟨⟩⟩ ⟨(bf rfl), ⟨⟩⟩)
 exact ct ⟨_, si h, rfl, rfl⟩ (tk [0] ⟨.i, .i, .p, .b, .b, .b, ⟨⟩⟩ ⟨(bf rfl), ⟨⟩⟩)
 exact .f (.f (.f (.f (.f (ct ⟨_, si h, rfl, rfl⟩ (tk [0] ⟨.i, .i, .p, .b, .b, .b, ⟨⟩⟩ ⟨(bf rfl), ⟨⟩⟩))))))
 rintro _ _ ⟨FI, rfl, rfl, rfl⟩
 replace h := jX
 obtain ⟨Lj, IZ, Gz⟩ := bd h
 replace h := IZ
 refine .cut (fun σ η => ∃ Hm, ∃ SB, ∃ Kh, (Hm, SB, Kh) = Lj ∧ σ = [(1, .int .i64 a1), (2, .int .i64 a2), (3, .aN 0 0 0 0), (7, .bool Hm), (8, .bool SB), (9, .bool Kh)] ∧ η = [.row 0 5 1 64 (fun _ => a0.lit)]) ?_ ?_
 refine .d ⟨rfl, ⟨rfl, _, rfl, (.d (sE h (fun sL h => ?_) (fun sL h => ?_)))⟩⟩
 exact ⟨rfl, ⟨rfl, _, rfl, (bk h fun v28 DM h => (bO (qH DM) (ct ⟨_, _, _, si h, rfl, rfl⟩ (tk [0] ⟨.i, .i, .p, .b, .b, .b, ⟨⟩⟩ ⟨(bf rfl), ⟨⟩⟩))))⟩⟩
 obtain ⟨L3, V3, LG⟩ := bd h
 replace h := V3
 refine .cut (fun σ η => ∃ ZA, ZA = L3 ∧ σ = [(1, .int .i64 a1), (2, .int .i64 a2), (3, .aN 0 0 0 0), (7, .bool (a0.fA == 0)), (8, .bool (a0.fB == 0)), (9, .bool FI), (43, .int .i64 a0.aW), (49, .bool ZA)] ∧ η = [.row 0 5 1 64 (fun _ => a0.lit)]) ?_ ?_
 refine .d (sE h (fun xC h => ?_) (fun xC h => ?_))
 exact afP
 exact afP
 rintro _ _ ⟨ZA, rfl, rfl, rfl⟩
 replace h := LG
 refine sV h (fun V1 h => ?_) (fun V1 h => ?_)
 exact ⟨rfl, ⟨rfl, _, rfl, (bk h fun Fy TB h => (bO (qH TB) (ct ⟨_, _, _, si h, rfl, rfl⟩ (tk [0] ⟨.i, .i, .p, .b, .b, .b, ⟨⟩⟩ ⟨(bf rfl), ⟨⟩⟩))))⟩⟩
 refine .d (sE h (fun Bn h => ?_) (fun Bn h => ?_))
 exact ⟨rfl, ⟨rfl, _, rfl, (bk h fun L6 UR h => (bO (qH UR) (ct ⟨_, _, _, si h, rfl, rfl⟩ (tk [0] ⟨.i, .i, .p, .b, .b, .b, ⟨⟩⟩ ⟨(bf rfl), ⟨⟩⟩))))⟩⟩
 refine .d (sE h (fun I4 h => ?_) (fun I4 h => ?_))
 exact ⟨rfl, ⟨rfl, _, rfl, (ct ⟨_, _, _, si h, rfl, rfl⟩ (tk [0] ⟨.i, .i, .p, .b, .b, .b, ⟨⟩⟩ ⟨(bf rfl), ⟨⟩⟩))⟩⟩
 refine .d (sE h (fun Vf h => ?_) (fun Vf h => ?_))
 exact ⟨rfl, ⟨rfl, _, rfl, (bk h fun ze Tk h => (bO (qH Tk) (ct ⟨_, _, _, si h, rfl, rfl⟩ (tk [0] ⟨.i, .i, .p, .b, .b, .b, ⟨⟩⟩ ⟨(bf rfl), ⟨⟩⟩))))⟩⟩
 obtain ⟨o46, acK, acL⟩ := bd h
 replace h := acK
 refine .cut (fun σ η => ∃ ZB, ZB = o46 ∧ σ = [(1, .int .i64 a1), (2, .int .i64 a2), (3, .aN 0 0 0 0), (7, .bool (a0.fA == 0)), (8, .bool (a0.fB == 0)), (9, .bool FI), (43, .int .i64 a0.aW), (71, .bool ZB)] ∧ η = [.row 0 5 1 64 (fun _ => a0.lit)]) ?_ ?_
 refine .d (sE h (fun EA h => ?_) (fun EA h => ?_))
 exact afP
 refine .d (sE h (fun IU h => ?_) (fun IU h => ?_))
 exact afP
 exact afP
 rintro _ _ ⟨ZB, rfl, rfl, rfl⟩
 replace h := acL
 refine sV h (fun IV h => ?_) (fun IV h => ?_)
 exact ⟨rfl, ⟨rfl, _, rfl, (bk h fun Jc U8 h => (bO (qH U8) (ct ⟨_, _, _, si h, rfl, rfl⟩ (tk [0] ⟨.i, .i, .p, .b, .b, .b, ⟨⟩⟩ ⟨(bf rfl), ⟨⟩⟩))))⟩⟩
 obtain ⟨o55, acM, acN⟩ := bd h
 replace h := acM
 refine .cut (fun σ η => ∃ ZC, ZC = o55 ∧ σ = [(1, .int .i64 a1), (2, .int .i64 a2), (3, .aN 0 0 0 0), (7, .bool (a0.fA == 0)), (8, .bool (a0.fB == 0)), (9, .bool FI), (43, .int .i64 a0.aW), (78, .bool ZC)] ∧ η = [.row 0 5 1 64 (fun _ => a0.lit)]) ?_ ?_
 refine .d (sE h (fun I6 h => ?_) (fun I6 h => ?_))
 exact afP
 refine .d (sE h (fun I2 h => ?_) (fun I2 h => ?_))
 exact afP
 exact afP
 rintro _ _ ⟨ZC, rfl, rfl, rfl⟩
 replace h := acN
 refine sV h (fun Nn h => ?_) (fun Nn h => ?_)
 exact ⟨rfl, ⟨rfl, _, rfl, (bk h fun Cz Ev h => (bO (qH Ev) (ct ⟨_, _, _, si h, rfl, rfl⟩ (tk [0] ⟨.i, .i, .p, .b, .b, .b, ⟨⟩⟩ ⟨(bf rfl), ⟨⟩⟩))))⟩⟩
 refine .d (sE h (fun Uj h => ?_) (fun Uj h => ?_))
 refine ⟨rfl, ⟨rfl, _, rfl, (sD h (fun acO h => ?_) (fun acO h => ?_))⟩⟩
 exact ⟨rfl, (.t ⟨rfl, _, rfl, (.t (.t (.t (ct ⟨_, _, _, si h, rfl, rfl⟩ (tk [0] ⟨.i, .i, .p, .b, .b, .b, ⟨⟩⟩ ⟨(bf rfl), ⟨⟩⟩)))))⟩)⟩
 exact .f (.f (.f (.f (ct ⟨_, _, _, si h, rfl, rfl⟩ (tk [0] ⟨.i, .i, .p, .b, .b, .b, ⟨⟩⟩ ⟨(bf rfl), ⟨⟩⟩)))))
 refine .d (sE h (fun acP h => ?_) (fun acP h => ?_))
 exact ⟨rfl, ⟨rfl, _, rfl, (bk h fun Gg Uk h => (bO (qH Uk) (ct ⟨_, _, _, si h, rfl, rfl⟩ (tk [0] ⟨.i, .i, .p, .b, .b, .b, ⟨⟩⟩ ⟨(bf rfl), ⟨⟩⟩))))⟩⟩
 refine .d (sE h (fun IX h => ?_) (fun IX h => ?_))
 exact ⟨rfl, ⟨rfl, _, rfl, (bk h fun v69 acQ h => (bO (qH acQ) (ct ⟨_, _, _, si h, rfl, rfl⟩ (tk [0] ⟨.i, .i, .p, .b, .b, .b, ⟨⟩⟩ ⟨(bf rfl), ⟨⟩⟩))))⟩⟩
 exact ct ⟨_, _, _, si h, rfl, rfl⟩ (tk [0] ⟨.i, .i, .p, .b, .b, .b, ⟨⟩⟩ ⟨(bf rfl), ⟨⟩⟩)
 rintro _ _ ⟨Hm, SB, Kh, rfl, rfl, rfl⟩
 replace h := Gz
 obtain ⟨o72, acR, acS⟩ := bd h
 replace h := acR
 refine .cut (fun σ η => ∃ ZD, ZD = o72 ∧ σ = [(2, .int .i64 a2), (3, .aN 0 0 0 0), (7, .bool ZD), (8, .bool SB), (9, .bool Kh)] ∧ η = [.row 0 5 1 64 (fun _ => a0.lit)]) ?_ ?_
 refine .d ⟨rfl, ⟨rfl, _, rfl, (bk h fun v75 NZ h => (bO (E7 NZ) (sV h (fun acT h => ?_) (fun acT h => ?_))))⟩⟩
 refine ⟨rfl, ⟨rfl, _, rfl, (sD h (fun acU h => ?_) (fun acU h => ?_))⟩⟩
 exact ⟨rfl, (.t ⟨rfl, _, rfl, (.t (.t (.t (ct ⟨_, si h, rfl, rfl⟩ (tk [0] ⟨.i, .p, .b, .b, .b, ⟨⟩⟩ ⟨(bf rfl), ⟨⟩⟩)))))⟩)⟩
 exact .f (.f (.f (.f (ct ⟨_, si h, rfl, rfl⟩ (tk [0] ⟨.i, .p, .b, .b, .b, ⟨⟩⟩ ⟨(bf rfl), ⟨⟩⟩)))))
 exact ct ⟨_, si h, rfl, rfl⟩ (tk [0] ⟨.i, .p, .b, .b, .b, ⟨⟩⟩ ⟨(bf rfl), ⟨⟩⟩)
 rintro _ _ ⟨ZD, rfl, rfl, rfl⟩
 replace h := acS
 obtain ⟨o80, acV, acW⟩ := bd h
 replace h := acV
 refine .cut (fun σ η => ∃ Xb, Xb = o80 ∧ σ = [(3, .aN 0 0 0 0), (7, .bool Xb), (8, .bool SB), (9, .bool Kh)] ∧ η = [.row 0 5 1 64 (fun _ => a0.lit)]) ?_ ?_
 refine .d ⟨rfl, ⟨rfl, _, rfl, (bk h fun PJ Q7 h => (bO (tN Q7) (sV h (fun Vi h => ?_) (fun Vi h => ?_))))⟩⟩
 refine ⟨rfl, ⟨rfl, _, rfl, (sD h (fun V4 h => ?_) (fun V4 h => ?_))⟩⟩
 exact ⟨rfl, (.t ⟨rfl, _, rfl, (.t (.t (.t (ct ⟨_, si h, rfl, rfl⟩ (tk [0] ⟨.p, .b, .b, .b, ⟨⟩⟩ ⟨(bf rfl), ⟨⟩⟩)))))⟩)⟩
 exact .f (.f (.f (.f (ct ⟨_, si h, rfl, rfl⟩ (tk [0] ⟨.p, .b, .b, .b, ⟨⟩⟩ ⟨(bf rfl), ⟨⟩⟩)))))
 exact ct ⟨_, si h, rfl, rfl⟩ (tk [0] ⟨.p, .b, .b, .b, ⟨⟩⟩ ⟨(bf rfl), ⟨⟩⟩)
 rintro _ _ ⟨Xb, rfl, rfl, rfl⟩
 replace h := acW
 refine .d ⟨rfl, ⟨rfl, _, rfl, ?_⟩⟩
 obtain ⟨o88, acX, acY⟩ := bd h
 replace h := acX
 refine .cut (fun σ η => ∃ ZE, ZE = o88 ∧ σ = [(3, .aN 0 0 0 0), (7, .bool Xb), (8, .bool SB), (9, .bool Kh), (10, .bool ZE)] ∧ η = [.row 0 5 1 64 (fun _ => a0.lit)]) ?_ ?_
 refine .d ⟨rfl, ⟨rfl, _, rfl, (sE h (fun acZ h => ?_) (fun acZ h => ?_))⟩⟩
 exact ⟨rfl, ⟨rfl, _, rfl, (bk h fun PO Vb h => (bO (oA Vb) (ct ⟨_, si h, rfl, rfl⟩ (tk [0] ⟨.p, .b, .b, .b, .b, ⟨⟩⟩ ⟨(bf rfl), ⟨⟩⟩))))⟩⟩
 exact ct ⟨_, si h, rfl, rfl⟩ (tk [0] ⟨.p, .b, .b, .b, .b, ⟨⟩⟩ ⟨(bf rfl), ⟨⟩⟩)
 rintro _ _ ⟨ZE, rfl, rfl, rfl⟩
 replace h := acY
 refine .d ⟨rfl, ⟨rfl, _, rfl, (bk h fun Sp Vc h => (bO (qH Vc) (sV h (fun ac0 h => ?_) (fun ac0 h => ?_))))⟩⟩
 refine .t (sV h (fun ac1 h => ?_) (fun ac1 h => ?_))
 refine .t (sV h (fun ac2 h => ?_) (fun ac2 h => ?_))
 refine .t (sV h (fun ac3 h => ?_) (fun ac3 h => ?_))
 exact .t (eB h)
 exact .f (eB h)
 exact .f (.f (.f (eB h)))
 exact .f (.f (.f (.f (.f (eB h)))))
 exact .f (.f (.f (.f (.f (.f (.f (eB h)))))))
set_option maxRecDepth 100000
def tq (a0 : List TParam) : Option ((List TParam)) :=
 kV 24 ([] : List TParam) a0 >>= fun l1 =>
 some l1
theorem LH {a0 : List TParam} {r : (List TParam)} (h : tq a0 = some r) : ACall Tryz.prog 107 [sl 2 TParam.cells a0] [] (fun res h => res = .own 0 0 0 r.length ∧ h = [.row 0 2 r.length 61 (row TParam.cells r)]) := by
 refine cP Tryz.func107 ?_
 unfold tq at h
 refine .d (.d (.d ⟨fun hn4 => ?_, ?_⟩))
 have hz3 := afd hn4
 rw [hz3] at h
 change some [] = _ at h
 refine .t (.d ?_)
 obtain rfl := si h
 exact en [0] ⟨rfl, rfl⟩ .g ⟨gh, ⟨⟩⟩
 refine .f (.d ⟨row TParam.cells ([] : List TParam), dN TParam.cells ([] : List TParam) rfl (eg rfl), (bk h fun l1 sZ h => ⟨rfl, gd sZ, l1.length, row TParam.cells l1, dP sZ, eo sZ bg EJ, ?_⟩)⟩)
 exact afA
def jx (a0 : aC) : Option (Bool) :=
 m66 a0.ao [47] >>= fun v1 =>
 some v1
theorem yI {a0 : aC} {r : Bool} (h : jx a0 = some r) : ACall Tryz.prog 58 [.agg a0.lit] [] (fun res h => res = .bool r ∧ h = []) := by
 refine cP Tryz.func58 ?_
 unfold jx at h
 exact .d (.d ⟨rfl, ⟨rfl, _, rfl, (bk h fun v1 jT h => (bO (ac4 jT) (eB h)))⟩⟩)
def ko (a0 : aC) : Option (Bool) :=
 (if (a0.ao.length : Int) > 0 then
 vn a0.ao 0 >>= fun c2 =>
 some ((c2.toNat : Int) == 47)
 else
 some false)
theorem yH {a0 : aC} {r : Bool} (h : ko a0 = some r) : ACall Tryz.prog 48 [.agg a0.lit] [] (fun res h => res = .bool r ∧ h = []) := by
 refine cP Tryz.func48 ?_
 unfold ko at h
 refine .d (.d ⟨rfl, ⟨rfl, _, rfl, (sD h (fun de h => ?_) (fun de h => ?_))⟩⟩)
 exact ⟨rfl, (.t ⟨rfl, _, rfl, (.t (bk h fun c2 Ki h => ⟨oy Ki, c2, oz Ki, (.t (.t (eB h)))⟩))⟩)⟩
 exact .f (.f (.f (.f (eB h))))
def lk (a0 : aC) (a1 : ba) (y4 : Int) : Option ((Unit) ⊕ Int) :=
 (if y4 < (a0.ar.length : Int) then
 idx a0.ar y4 >>= fun x8 =>
 (if x8 = a1 then
 some (.inr y4)
 else
 lk a0 a1 (ah (y4 + 1)))
 else
 some (.inl ()))
partial_fixpoint
def pk (a0 : aC) (a1 : ba) : Option (Int) :=
 ((
 lk a0 a1 0
 : Option ((Unit) ⊕ Int)) >>= fun o1 => match o1 with
 | .inr r => some r
 | .inl _ =>
 some (-1)
 )
theorem Ho {a0 : aC} {a1 : ba} {r : Int} (h : pk a0 a1 = some r) : ACall Tryz.prog 132 [.agg a0.lit, .str a1] [] (fun res h => res = .int .i64 r ∧ h = []) := by
 refine cP Tryz.func132 ?_
 unfold pk at h
 refine .d ?_
 obtain ⟨o1, Aw, ow⟩ := bd h
 replace h := Aw
 refine .cut (fun σ η => .inl () = o1 ∧ σ = [] ∧ η = []) ?_ ?_
 refine .d ?_
 refine le (lk.partial_correctness a0 a1 (motive := fun y4 Ic => o1 = Ic → az _ _ [(1, .str a1), (2, .aN 0 0 0 0), (5, .int .i64 y4)] [.row 0 6 1 57 (fun _ => a0.lit)]) ?_ 0 o1 h rfl) (tk [0] ⟨.s, .p, .i, ⟨⟩⟩ ⟨(bf rfl), ⟨⟩⟩)
 intro F6 Qg y4 Ic h Im
 subst Im
 refine az.round (.d (.d ⟨rfl, ⟨rfl, _, rfl, (sD h (fun pT h => ?_) (fun pT h => ?_))⟩⟩))
 refine .d (.d ⟨rfl, ⟨rfl, _, rfl, (bk h fun x8 Gb h => ⟨aI Gb, _, (aF Gb).trans rfl, (sE h (fun eY h => ?_) (fun eY h => ?_))⟩)⟩⟩)
 refine .d ?_
 obtain rfl := si h
 replace h := ow
 exact eI h
 exact lg (Qg _ _ h rfl) (tk [0] ⟨.s, .p, .i, ⟨⟩⟩ ⟨(bf rfl), ⟨⟩⟩)
 exact afN
 exact afx
def bS (a0 : aC) (y6 : Int) : Option ((Unit) ⊕ Bool) :=
 (if y6 < (a0.ar.length : Int) then
 idx a0.ar y6 >>= fun zj =>
 gq zj >>= fun v12 =>
 (if v12 = true then
 (if zj = ([116, 104, 105, 115] : ba) then
 some (.inr false)
 else
 pk a0 zj >>= fun db =>
 (if db = y6 then
 (if y6 < (a0.ak.length : Int) then
 idx a0.ak y6 >>= fun Ar =>
 (if Ar.ao = zj then
 (if y6 ≥ (a0.ak.length : Int) then
 (if (ah (y6 - (a0.ak.length : Int))) < (a0.aE.length : Int) then
 idx a0.aE (ah (y6 - (a0.ak.length : Int))) >>= fun KX =>
 (if KX.ao = zj then
 bS a0 (ah (y6 + 1))
 else
 some (.inr false))
 else
 bS a0 (ah (y6 + 1)))
 else
 bS a0 (ah (y6 + 1)))
 else
 some (.inr false))
 else
 (if y6 ≥ (a0.ak.length : Int) then
 (if (ah (y6 - (a0.ak.length : Int))) < (a0.aE.length : Int) then
 idx a0.aE (ah (y6 - (a0.ak.length : Int))) >>= fun P7 =>
 (if P7.ao = zj then
 bS a0 (ah (y6 + 1))
 else
 some (.inr false))
 else
 bS a0 (ah (y6 + 1)))
 else
 bS a0 (ah (y6 + 1))))
 else
 some (.inr false)))
 else
 some (.inr false))
 else
 some (.inl ()))
partial_fixpoint
def oB (a0 : aC) : Option (Bool) :=
 (if (a0.ar.length : Int) > 600 then
 some false
 else
 (if (ah ((a0.ak.length : Int) + (a0.aE.length : Int))) > (a0.ar.length : Int) then
 some false
 else
 ((
 bS a0 0
 : Option ((Unit) ⊕ Bool)) >>= fun o3 => match o3 with
 | .inr r => some r
 | .inl _ =>
 some true
 )))
theorem CJ {a0 : aC} {r : Bool} (h : oB a0 = some r) : ACall Tryz.prog 92 [.agg a0.lit] [] (fun res h => res = .bool r ∧ h = []) := by
 refine cP Tryz.func92 ?_
 unfold oB at h
 refine .d (.d ⟨rfl, ⟨rfl, _, rfl, (.d (.d ⟨rfl, ⟨rfl, _, rfl, (sD h (fun de h => ?_) (fun de h => ?_))⟩⟩))⟩⟩)
 exact .t (.t (.t (.t (.t (.t (.t (.t (.t (.t (.d (eB h)))))))))))
 refine .f ⟨rfl, (.f ⟨rfl, _, rfl, (.f (.f (.f ⟨rfl, (.f ⟨rfl, _, rfl, (.f (.f (.f (sD h (fun jr h => ?_) (fun jr h => ?_)))))⟩)⟩)))⟩)⟩
 exact afJ
 obtain ⟨o3, DH, uQ⟩ := bd h
 replace h := DH
 refine .cut (fun σ η => .inl () = o3 ∧ σ = [] ∧ η = []) ?_ ?_
 refine .d ?_
 refine le (bS.partial_correctness a0 (motive := fun y6 Fw => o3 = Fw → az _ _ [(1, .aN 0 0 0 0), (3, .int .i64 (a0.ak.length : Int)), (4, .int .i64 y6)] [.row 0 6 1 57 (fun _ => a0.lit)]) ?_ 0 o3 h rfl) (tk [0] ⟨.p, .i, .i, ⟨⟩⟩ ⟨(bf rfl), ⟨⟩⟩)
 intro F8 L5 y6 Fw h Mt
 subst Mt
 refine az.round (.d (.d ⟨rfl, ⟨rfl, _, rfl, (sD h (fun uV h => ?_) (fun uV h => ?_))⟩⟩))
 refine .d (.d ⟨rfl, ⟨rfl, _, rfl, (bk h fun zj FX h => ⟨aI FX, _, (aF FX).trans rfl, (.d (bk h fun v12 KS h => (bO (oA KS) (j3 h (fun kU h => ?_) (fun kU h => ?_)))))⟩)⟩⟩)
 refine .t (.t (.t (.t (.t (.t (.t (.t (.t (.t (.t (.t (.t (.t (.t ?_))))))))))))))
 refine .t (.t (.t (.t (.t (.t (.t (.t (.d ?_))))))))
 exact afu
 refine .f (.f (sE h (fun dI h => ?_) (fun dI h => ?_)))
 refine .t (.t (.t (.t (.t (.t (.t (.t (.t (.t (.t (.t (.t (.t (.t ?_))))))))))))))
 refine .t (.t (.t (.t (.t (.d ?_)))))
 exact afu
 refine ⟨rfl, _, rfl, (.f (.f (bk h fun db rL h => (bO (Ho rL) (.f (.f (.f (sN h (fun oX h => ?_) (fun oX h => ?_)))))))))⟩
 refine .t (.t (.t (.t (.t (.t (.t (.t (.t (.t (.t (.t (.t (.t (.d ?_))))))))))))))
 exact afu
 refine .f (.f (.f (sD h (fun qI h => ?_) (fun qI h => ?_))))
 refine ⟨rfl, (.t ⟨rfl, _, rfl, (.t (.t (bk h fun Ar xT h => ⟨aI xT, _, (aF xT).trans (TParam.au Ar), (.t (.t (.t (.t (.f (.t (.f (tc h (fun kS h => ?_) (fun kS h => ?_)))))))))⟩)))⟩)⟩
 refine .t (.t (.t (.t (.t (.t (.t (.t (.d ?_))))))))
 exact afu
 refine .f (.f (.f (sD h (fun pW h => ?_) (fun pW h => ?_))))
 refine .t (.t (.t ⟨rfl, (.t ⟨rfl, _, rfl, (.t (.t (.f (.t (.f (sD h (fun Cp h => ?_) (fun Cp h => ?_)))))))⟩)⟩))
 refine ⟨rfl, (.t ⟨rfl, _, rfl, (.t (.t (.t (.t (bk h fun KX GH h => ⟨aI GH, _, (aF GH).trans (TParam.au KX), (.t (.t (.t (.t (.f (.t ?_))))))⟩)))))⟩)⟩
 refine .f (tc h (fun sL h => ?_) (fun sL h => ?_))
 refine .d ?_
 exact afu
 exact lg (L5 _ _ h rfl) (tk [0] ⟨.p, .i, .i, ⟨⟩⟩ ⟨(bf rfl), ⟨⟩⟩)
 exact .f (.f (.f (.f (.f (.f (.f (.f (.f (.f (.f (.f (.f (lg (L5 _ _ h rfl) (tk [0] ⟨.p, .i, .i, ⟨⟩⟩ ⟨(bf rfl), ⟨⟩⟩))))))))))))))
 refine .f (.f (.f (.f (.f (.f (.f (.f (.f (.f (.f (.f (.f (.f (.f ?_))))))))))))))
 exact .f (.f (.f (.f (.f (.f (.f (.f (lg (L5 _ _ h rfl) (tk [0] ⟨.p, .i, .i, ⟨⟩⟩ ⟨(bf rfl), ⟨⟩⟩)))))))))
 refine .f (.f (.f (.f (.f (.f (.f (.f (.f (.f (.f (.f (.f (.f (sD h (fun rP h => ?_) (fun rP h => ?_)))))))))))))))
 refine .t (.t (.t ⟨rfl, (.t ⟨rfl, _, rfl, (.t (.t (.f (.t (.f (sD h (fun tA h => ?_) (fun tA h => ?_)))))))⟩)⟩))
 refine ⟨rfl, (.t ⟨rfl, _, rfl, (.t (.t (.t (.t (bk h fun P7 Ie h => ⟨aI Ie, _, (aF Ie).trans (TParam.au P7), (.t (.t (.t (.t (.f (.t ?_))))))⟩)))))⟩)⟩
 refine .f (tc h (fun xQ h => ?_) (fun xQ h => ?_))
 refine .d ?_
 exact afu
 exact lg (L5 _ _ h rfl) (tk [0] ⟨.p, .i, .i, ⟨⟩⟩ ⟨(bf rfl), ⟨⟩⟩)
 exact .f (.f (.f (.f (.f (.f (.f (.f (.f (.f (.f (.f (.f (lg (L5 _ _ h rfl) (tk [0] ⟨.p, .i, .i, ⟨⟩⟩ ⟨(bf rfl), ⟨⟩⟩))))))))))))))
 refine .f (.f (.f (.f (.f (.f (.f (.f (.f (.f (.f (.f (.f (.f (.f ?_))))))))))))))
 exact .f (.f (.f (.f (.f (.f (.f (.f (lg (L5 _ _ h rfl) (tk [0] ⟨.p, .i, .i, ⟨⟩⟩ ⟨(bf rfl), ⟨⟩⟩)))))))))
 exact afN
 rintro _ _ ⟨rfl, rfl, rfl⟩
 replace h := uQ
 exact afJ
set_option maxRecDepth 100000
def dm (a0 : Int) (a1 : Int) (a2 : List Int) (a3 : List Int) : Option (Bool × (List Int) × (List Int)) :=
 ((
 (if a0 ≥ (a2.length : Int) then
 some (.inr (false, a2, a3))
 else
 yx a1 0 500 >>= fun v5 =>
 (if v5 = true then
 idx a2 a0 >>= fun x8 =>
 (if x8 ≥ 0 then
 idx a2 a0 >>= fun kP =>
 (if kP = a1 then
 some (.inl ())
 else
 some (.inr (false, a2, a3)))
 else
 some (.inl ()))
 else
 some (.inr (false, a2, a3))))
 : Option ((Unit) ⊕ (Bool × (List Int) × (List Int)))) >>= fun o1 => match o1 with
 | .inr r => some r
 | .inl _ =>
 idx a2 a0 >>= fun CS =>
 (if CS < 0 then
 idx a2 a0 >>= fun kH =>
 kV 8 a3 ([a0] : List Int) >>= fun FE =>
 some (true, (a2.set a0.toNat a1), FE)
 else
 some (true, a2, a3))
 )
theorem mH {a0 : Int} {a1 : Int} {a2 : List Int} {a3 : List Int} {r : Bool × (List Int) × (List Int)} {g1000 : Nat} {g1001 : Nat} {g1002 : Nat} {g1003 : Nat} (h : dm a0 a1 a2 a3 = some r) : ACall Tryz.prog 150 [.int .i64 a0, .int .i64 a1, .aN 0 g1000 0 0, .aN 2 g1002 0 0] [.row g1000 1 1 144 (fun _ => [.own 1 g1001 0 a2.length]), .row g1001 1 a2.length 3 (row cI a2), .row g1002 1 1 144 (fun _ => [.own 3 g1003 0 a3.length]), .row g1003 1 a3.length 3 (row cI a3)] (fun res h => ∃ G1 : Nat, ∃ G3 : Nat, res = .bool r.1 ∧ h = [.row g1000 1 1 144 (fun _ => [.own 1 G1 0 r.2.1.length]), .row G1 1 r.2.1.length 3 (row cI r.2.1), .row g1002 1 1 144 (fun _ => [.own 3 G3 0 r.2.2.length]), .row G3 1 r.2.2.length 3 (row cI r.2.2)]) := by
 refine cP Tryz.func150 ?_
 unfold dm at h
 refine .d ?_
 obtain ⟨o1, Aw, ow⟩ := bd h
 replace h := Aw
 refine .cut (fun σ η => .inl () = o1 ∧ σ = [(0, .int .i64 a0), (1, .int .i64 a1), (2, .aN 0 g1000 0 0), (3, .aN 2 g1002 0 0)] ∧ η = [.row g1000 1 1 144 (fun _ => [.own 1 g1001 0 a2.length]), .row g1001 1 a2.length 3 (row cI a2), .row g1002 1 1 144 (fun _ => [.own 3 g1003 0 a3.length]), .row g1003 1 a3.length 3 (row cI a3)]) ?_ ?_
 refine .d ⟨rfl, _, rfl, ⟨rfl, (sD h (fun oL h => ?_) (fun oL h => ?_))⟩⟩
 refine .t (.t (.t (.t (.t (.t (.t (.t (.t (.t (.t (.t (.d ?_))))))))))))
 obtain rfl := si h
 exact afo
 refine .f (bk h fun v5 DJ h => (bO (uM DJ) (.f (.f (j3 h (fun pT h => ?_) (fun pT h => ?_))))))
 refine .t (.t (.t (.t (.t (.t (.t (.t (.d ?_))))))))
 obtain rfl := si h
 exact afo
 refine ⟨rfl, _, rfl, (.f (.f (bk h fun x8 Gb h => ⟨rfl, aI Gb, _, No _, (.f ⟨rfl, _, ((aF Gb).trans rfl), (.f (.f (sD h (fun eY h => ?_) (fun eY h => ?_))))⟩)⟩)))⟩
 refine ⟨rfl, _, rfl, (.t (.t (bk h fun kP dT h => ⟨rfl, aI dT, _, No _, (.t ⟨rfl, _, ((aF dT).trans rfl), (.t (.t (.f (.t (.f (sN h (fun jS h => ?_) (fun jS h => ?_)))))))⟩)⟩)))⟩
 refine .d ?_
 obtain rfl := si h
 exact afo
 exact ct ⟨si h, rfl, rfl⟩ (tk [0, 1, 2, 3] ⟨.i, .i, .p, .p, ⟨⟩⟩ ⟨(ob rfl ⟨.o, ⟨⟩⟩), od, (ob rfl ⟨.o, ⟨⟩⟩), od, ⟨⟩⟩)
 exact .f (.f (.f (.f (.f (.f (.f (.f (.f (ct ⟨si h, rfl, rfl⟩ (tk [0, 1, 2, 3] ⟨.i, .i, .p, .p, ⟨⟩⟩ ⟨(ob rfl ⟨.o, ⟨⟩⟩), od, (ob rfl ⟨.o, ⟨⟩⟩), od, ⟨⟩⟩))))))))))
 rintro _ _ ⟨rfl, rfl, rfl⟩
 replace h := ow
 refine .d (.d ⟨rfl, _, rfl, (bk h fun CS lT h => ⟨rfl, aI lT, _, No _, ⟨rfl, _, ((aF lT).trans rfl), (sD h (fun lx h => ?_) (fun lx h => ?_))⟩⟩)⟩)
 refine .d ⟨rfl, _, rfl, (bk h fun kH k9 h => ⟨rfl, aI k9, _, No _, ⟨rfl, _, row cI (a2.set a0.toNat a1), ((aF k9).trans rfl), ou (gY k9) rfl ⟨.same _, trivial⟩, ⟨rfl, _, rfl, ⟨row cI ([a0] : List Int), dN cI ([a0] : List Int) rfl (eg rfl), (bk h fun FE uK h => ⟨rfl, rfl, rT (l := ([a0] : List Int)) bg, gd uK, FE.length, row cI FE, dP uK, eo uK bg (oF bg), ⟨rfl, _, fun _ => [.own 3 (g1003 + 1) 0 FE.length], rfl, aM rfl, (.d ?_)⟩⟩)⟩⟩⟩⟩)⟩
 obtain rfl := si h
 exact en [0, 1, 2, 3] ⟨g1001, (g1003 + 1), rfl, rfl⟩ .b ⟨(ob rfl ⟨(.ox ln), ⟨⟩⟩), (odx rfl ln), (ob rfl ⟨.o, ⟨⟩⟩), od, ⟨⟩⟩
 refine .d ?_
 obtain rfl := si h
 exact en [0, 1, 2, 3] ⟨g1001, g1003, rfl, rfl⟩ .b ⟨(ob rfl ⟨.o, ⟨⟩⟩), od, (ob rfl ⟨.o, ⟨⟩⟩), od, ⟨⟩⟩
def cR (a0 : aC) (l8 : List Int) (y9 : Int) : Option (((List Int)) ⊕ ((List Int) × Bool)) :=
 (if y9 < (a0.aq.length : Int) then
 idx a0.aq y9 >>= fun sx =>
 fK sx (a0.ar.length : Int) (a0.aq.length : Int) >>= fun pt =>
 (if pt = true then
 idx l8 y9 >>= fun aV =>
 cR a0 (l8.set y9.toNat (-1)) (ah (y9 + 1))
 else
 some (.inr ([], false)))
 else
 some (.inl l8))
partial_fixpoint
def cu (a0 : aC) (E8 : List Int) (zV : List Int) : Option (((List Int)) ⊕ ((List Int) × Bool)) :=
 (if (zV.length : Int) > 0 then
 idx zV (ah ((zV.length : Int) - 1)) >>= fun MI =>
 (
 RW zV (ah ((zV.length : Int) - 1)) >>= fun l39 =>
 some l39
 : Option ((List Int))) >>= fun vY =>
 idx a0.aq MI >>= fun B6 =>
 idx E8 MI >>= fun qL =>
 iU B6 >>= fun Ye =>
 (if Ye > qL then
 some (.inr ([], false))
 else
 iT B6.aW >>= fun B3 =>
 (if B3 = true then
 cC B6.aW >>= fun v72 =>
 (if v72 = true then
 cU B6.aW >>= fun v75 =>
 dm B6.fA (ah (qL + v75)) E8 vY >>= fun (GD, ZF, SC) =>
 (if GD = true then
 cu a0 ZF SC
 else
 some (.inr ([], false)))
 else
 cu a0 E8 vY)
 else
 ff B6 >>= fun v51 =>
 dm (ah (MI + 1)) (ah (qL + v51)) E8 vY >>= fun (v53, Ew, zs) =>
 (if v53 = true then
 cC B6.aW >>= fun W1 =>
 (if W1 = true then
 cU B6.aW >>= fun B4 =>
 dm B6.fA (ah (qL + B4)) Ew zs >>= fun (B2, Gg, NU) =>
 (if B2 = true then
 cu a0 Gg NU
 else
 some (.inr ([], false)))
 else
 cu a0 Ew zs)
 else
 some (.inr ([], false)))))
 else
 some (.inl E8))
partial_fixpoint
def eZ (a0 : aC) : Option ((List Int) × Bool) :=
 (if (a0.aq.length : Int) = 0 then
 some ([], false)
 else
 (nv 8 (a0.aq.length : Int) (a0.aq.length : Int) : Option (List Int)) >>= fun l2 =>
 ((
 cR a0 l2 0
 : Option (((List Int)) ⊕ ((List Int) × Bool))) >>= fun o5 => match o5 with
 | .inr r => some r
 | .inl l4 =>
 idx l4 0 >>= fun gX =>
 ((
 cu a0 (l4.set ((0 : Int).toNat) 0) ([0] : List Int)
 : Option (((List Int)) ⊕ ((List Int) × Bool))) >>= fun Ii => match Ii with
 | .inr r => some r
 | .inl V5 =>
 some (V5, true)
 )
 ))
theorem tO {a0 : aC} {r : (List Int) × Bool} (h : eZ a0 = some r) : ACall Tryz.prog 108 [.agg a0.lit] [] (fun res h => res = .dG [sl 1 cI r.1, .bool r.2] ∧ h = []) := by
 refine cP Tryz.func108 ?_
 unfold eZ at h
 refine .d (.d (.d ⟨rfl, ⟨rfl, _, rfl, (sE h (fun de h => ?_) (fun de h => ?_))⟩⟩))
 refine .d ?_
 obtain rfl := si h
 exact en [] ⟨rfl, rfl⟩ (.eh ⟨.z, .b, ⟨⟩⟩) ⟨⟩
 refine .d ⟨rfl, ⟨rfl, _, rfl, (bk h fun l2 Ki h => ⟨lZ Ki, l2.length, row cI l2, jI Ki, qU Ki rfl ⟨.same _, trivial⟩, ⟨rfl, _, fun _ => [.own 1 0 0 l2.length], rfl, aM rfl, ?_⟩⟩)⟩⟩
 obtain ⟨o5, xD, vU⟩ := bd h
 replace h := xD
 refine .cut (fun σ η => ∃ l4, .inl l4 = o5 ∧ σ = [(1, .aN 0 0 0 0), (4, .aN 1 0 0 0)] ∧ η = [.row 0 6 1 57 (fun _ => a0.lit), .row 0 1 1 144 (fun _ => [.own 2 0 0 l4.length]), .row 0 1 l4.length 3 (row cI l4)]) ?_ ?_
 refine .d ⟨rfl, ⟨rfl, _, rfl, ?_⟩⟩
 refine le (cR.partial_correctness a0 (motive := fun l8 y9 RU => o5 = RU → az _ _ [(1, .aN 0 0 0 0), (4, .aN 1 0 0 0), (21, sl 5 aR.cells a0.aq), (22, .int .i64 (a0.aq.length : Int)), (23, .int .i64 y9)] [.row 0 6 1 57 (fun _ => a0.lit), .row 0 1 1 144 (fun _ => [.own 2 0 0 l8.length]), .row 0 1 l8.length 3 (row cI l8)]) ?_ l2 0 o5 h rfl) (tk [0, 2, 1] ⟨.p, .p, .l, .i, .i, ⟨⟩⟩ ⟨(bf rfl), (nb rfl ⟨.o, ⟨⟩⟩), nw, ⟨⟩⟩)
 intro F11 IL l8 y9 RU h MJ
 subst MJ
 refine az.round (.d (.d (sD h (fun ly h => ?_) (fun ly h => ?_))))
 refine .d (.d (bk h fun sx qK h => ⟨aI qK, _, (aF qK).trans (aR.au sx), ⟨rfl, _, fun _ => [.int .i64 sx.aW, .int .i64 sx.fA, .int .i64 sx.fB, .str sx.fS, .str sx.fT], rfl, aM rfl, (.d (.d ⟨rfl, _, rfl, ⟨rfl, ⟨rfl, _, rfl, ⟨rfl, ⟨rfl, _, rfl, (bk h fun pt vo h => (bO (Jx vo) (j3 h (fun kR h => ?_) (fun kR h => ?_))))⟩⟩⟩⟩⟩))⟩⟩))
 refine .d ?_
 obtain rfl := si h
 replace h := vU
 obtain rfl := si h
 exact en [] ⟨rfl, rfl⟩ (.eh ⟨.z, .b, ⟨⟩⟩) ⟨⟩
 exact ⟨rfl, _, rfl, (bk h fun aV da h => ⟨rfl, aI da, _, No _, ⟨rfl, _, row cI (l8.set y9.toNat (-1)), ((aF da).trans rfl), ou (gY da) rfl ⟨.same _, trivial⟩, (lg (IL _ _ _ h rfl) (tk [0, 1, 2] ⟨.p, .p, .l, .i, .i, ⟨⟩⟩ ⟨(bf rfl), (nb rfl ⟨(.ox ln), ⟨⟩⟩), (P5 rfl ln), ⟨⟩⟩))⟩⟩)⟩
 exact ct ⟨_, si h, rfl, rfl⟩ (tk [0, 1, 2] ⟨.p, .p, ⟨⟩⟩ ⟨(bf rfl), (nb rfl ⟨.o, ⟨⟩⟩), nw, ⟨⟩⟩)
 rintro _ _ ⟨l4, rfl, rfl, rfl⟩
 replace h := vU
 refine .d ⟨rfl, _, rfl, (bk h fun gX Lr h => ⟨rfl, aI Lr, _, No _, ⟨rfl, _, row cI (l4.set ((0 : Int).toNat) 0), ((aF Lr).trans rfl), ou (gY Lr) rfl ⟨.same _, trivial⟩, (.d ⟨row cI ([0] : List Int), dN cI ([0] : List Int) rfl (eg rfl), ⟨rfl, _, fun _ => [.own 3 0 0 ([0] : List Int).length], rfl, aM rfl, (.d ?_)⟩⟩)⟩⟩)⟩
 obtain ⟨Ii, Nh, Es⟩ := bd h
 replace h := Nh
 refine .cut (fun σ η => ∃ V5, .inl V5 = Ii ∧ σ = [(4, .aN 0 0 0 0)] ∧ η = [.row 0 1 1 144 (fun _ => [.own 1 0 0 V5.length]), .row 0 1 V5.length 3 (row cI V5)]) ?_ ?_
 refine le (cu.partial_correctness a0 (motive := fun E8 zV o84 => Ii = o84 → az _ _ [(1, .aN 0 0 0 0), (4, .aN 1 0 0 0), (7, .aN 3 0 0 0), (8, .om 150 [(1, 0), (3, 0)])] [.row 0 6 1 57 (fun _ => a0.lit), .row 0 1 1 144 (fun _ => [.own 2 0 0 E8.length]), .row 0 1 E8.length 3 (row cI E8), .row 0 1 1 144 (fun _ => [.own 4 0 0 zV.length]), .row 0 1 zV.length 3 (row cI zV)]) ?_ (l4.set ((0 : Int).toNat) 0) ([0] : List Int) Ii h rfl) (tk [0, 1, 2, 4, 3] ⟨.p, .p, .p, (.Df ⟨⟨rfl, ⟨_, _, _, _, rfl⟩, ⟨_, _, _, _, rfl, aeN⟩⟩, ⟨rfl, ⟨_, _, _, _, rfl⟩, ⟨_, _, _, _, rfl, aeN⟩⟩, trivial⟩), ⟨⟩⟩ ⟨(bf rfl), (nb rfl ⟨(.ox ln), ⟨⟩⟩), (P5 rfl ln), (nb rfl ⟨.o, ⟨⟩⟩), nw, ⟨⟩⟩)
 intro Fx Q8 E8 zV o84 h ac5
 subst ac5
 refine az.round (.d (.d ⟨rfl, _, rfl, ⟨rfl, (sD h (fun xQ h => ?_) (fun xQ h => ?_))⟩⟩))
 refine .d ⟨rfl, _, rfl, ⟨rfl, _, rfl, ⟨rfl, (bk h fun MI Lo h => ⟨rfl, aI Lo, _, No _, ⟨rfl, _, ((aF Lo).trans rfl), ?_⟩⟩)⟩⟩⟩
 obtain ⟨Nw, NB, xU⟩ := bd h
 replace h := NB
 refine .cut (fun σ η => ∃ vY, vY = Nw ∧ σ = [(1, .aN 0 0 0 0), (4, .aN 1 0 0 0), (7, .aN 3 0 0 0), (8, .om 150 [(1, 0), (3, 0)]), (9, .int .i64 MI)] ∧ η = [.row 0 6 1 57 (fun _ => a0.lit), .row 0 1 1 144 (fun _ => [.own 2 0 0 E8.length]), .row 0 1 E8.length 3 (row cI E8), .row 0 1 1 144 (fun _ => [.own 4 0 0 vY.length]), .row 0 1 vY.length 3 (row cI vY)]) ?_ ?_
 exact ⟨rfl, _, rfl, ⟨rfl, _, rfl, ⟨rfl, (bk h fun l39 xV h => ⟨rfl, trivial, Jz xV, _, l39.length, rfl, E9 xV, ⟨rfl, _, fun _ => [.own 4 0 0 l39.length], rfl, aM rfl, (ct ⟨_, si h, rfl, rfl⟩ (tk [0, 1, 2, 3, 4] ⟨.p, .p, .p, (.Df ⟨⟨rfl, ⟨_, _, _, _, rfl⟩, ⟨_, _, _, _, rfl, aeN⟩⟩, ⟨rfl, ⟨_, _, _, _, rfl⟩, ⟨_, _, _, _, rfl, aeN⟩⟩, trivial⟩), .i, ⟨⟩⟩ ⟨(bf rfl), (nb rfl ⟨.o, ⟨⟩⟩), nw, (nb rfl ⟨.o, ⟨⟩⟩), ⟨fun h0 => absurd (show 4 < 0 from h0) agj, rfl, .inr ⟨(show 0 ≤ 4 by decide), agj, (V6 xV)⟩, rfl, (Ow mI (LI bg xV))⟩, ⟨⟩⟩))⟩⟩)⟩⟩⟩
 rintro _ _ ⟨vY, rfl, rfl, rfl⟩
 replace h := xU
 refine .d ⟨rfl, ⟨rfl, _, rfl, (bk h fun B6 ZG h => ⟨aI ZG, _, (aF ZG).trans (aR.au B6), ⟨rfl, _, fun _ => [.int .i64 B6.aW, .int .i64 B6.fA, .int .i64 B6.fB, .str B6.fS, .str B6.fT], rfl, aM rfl, (.d ⟨rfl, _, rfl, (bk h fun qL GB h => ⟨rfl, aI GB, _, No _, ⟨rfl, _, ((aF GB).trans rfl), (.d (.float [(0, true), (2, true), (1, false), (3, true), (4, true), (5, true), (6, true), (7, false), (8, true), (9, true), (10, true), (11, true), (12, true), (13, true), (14, true), (15, false), (16, true), (17, false), (18, true), (19, true), (20, true), (21, true), (22, true), (23, true), (24, false), (25, true), (26, true), (27, true), (28, true), (29, true), (30, true), (31, true), (32, false), (33, true), (34, false), (35, true), (36, true), (37, true)] agr ?_))⟩⟩)⟩)⟩⟩)⟩⟩
 refine ⟨rfl, _, rfl, (bk h fun Ye Uv h => (bO (E0 Uv) (sD h (fun AI h => ?_) (fun AI h => ?_))))⟩
 refine .t (.t (.t (.t (.t (.t (.t (.t (.t (.t ⟨rfl, (.t (.t (.t (.d ?_))))⟩)))))))))
 obtain rfl := si h
 exact afr
 refine ⟨rfl, (.f ⟨rfl, _, rfl, (.f (bk h fun B3 IS h => (bO (EZ IS) (.f (.f (j3 h (fun IU h => ?_) (fun IU h => ?_)))))))⟩)⟩
 refine .t (.t (.t (.t ⟨rfl, _, rfl, (.t (bk h fun v51 ac6 h => (bO (Bo ac6) (.t (.t ?_)))))⟩)))
 obtain ⟨⟨v53, Ew, zs⟩, Jb, h⟩ := bd h
 refine ⟨fun res h' => ∃ Kl : Nat, ∃ Kk : Nat, res = .bool v53 ∧ h' = [.row 0 6 1 57 (fun _ => a0.lit), .row 0 1 1 144 (fun _ => [.own 2 Kl 0 Ew.length]), .row Kl 1 Ew.length 3 (row cI Ew), .row 0 1 1 144 (fun _ => [.own 4 Kk 0 zs.length]), .row Kk 1 zs.length 3 (row cI zs), .row 0 5 1 64 (fun _ => B6.lit)], (ACall.over (mH (g1000 := 0) (g1001 := 0) (g1002 := 0) (g1003 := 0) Jb) [1, 2, 3, 4] [.row 0 6 1 57 (fun _ => a0.lit), .row 0 1 1 144 (fun _ => [.own 2 0 0 E8.length]), .row 0 1 E8.length 3 (row cI E8), .row 0 1 1 144 (fun _ => [.own 4 0 0 vY.length]), .row 0 1 vY.length 3 (row cI vY), .row 0 5 1 64 (fun _ => B6.lit)] rfl agj agk (by intro j o hj; exact match j, hj with | 0, hj => by cases hj; rfl | 1, hj => by cases hj; exact (congrArg some (kC mI _ _ _ _ _ _)).symm | 2, hj => by cases hj; rfl | 3, hj => by cases hj; exact (congrArg some (kC mI _ _ _ _ _ _)).symm | j + 4, hj => by cases hj) rfl).mono (by rintro _ _ ⟨_, _, ⟨Kl, Kk, rfl, rfl⟩, rfl, rfl⟩; exact ⟨Kl, Kk, rfl, agA⟩), ?_⟩
 rintro _ _ ⟨Kl, Kk, rfl, rfl⟩
 refine .t (.f (.t (.f (j3 h (fun I2 h => ?_) (fun I2 h => ?_)))))
 refine .t (.t (.t ⟨rfl, (.t (.t (.t (.d ?_))))⟩))
 obtain rfl := si h
 exact afr
 refine ⟨rfl, (.f ⟨rfl, _, rfl, (.f (bk h fun W1 ac7 h => (bO (pL ac7) (.f (sV h (fun ac8 h => ?_) (fun ac8 h => ?_))))))⟩)⟩
 refine .t ⟨rfl, (.t ⟨rfl, _, rfl, (.t (.t ⟨rfl, (.t ⟨rfl, _, rfl, (.t (bk h fun B4 NJ h => (bO (qv NJ) ⟨rfl, ⟨rfl, (.t ?_)⟩⟩)))⟩)⟩))⟩)⟩
 refine .t ?_
 obtain ⟨⟨B2, Gg, NU⟩, UT, h⟩ := bd h
 refine ⟨fun res h' => ∃ NV : Nat, ∃ NK : Nat, res = .bool B2 ∧ h' = [.row 0 6 1 57 (fun _ => a0.lit), .row 0 1 1 144 (fun _ => [.own 2 NV 0 Gg.length]), .row NV 1 Gg.length 3 (row cI Gg), .row 0 1 1 144 (fun _ => [.own 4 NK 0 NU.length]), .row NK 1 NU.length 3 (row cI NU), .row 0 5 1 64 (fun _ => B6.lit)], (ACall.over (mH (g1000 := 0) (g1001 := Kl) (g1002 := 0) (g1003 := Kk) UT) [1, 2, 3, 4] [.row 0 6 1 57 (fun _ => a0.lit), .row 0 1 1 144 (fun _ => [.own 2 Kl 0 Ew.length]), .row Kl 1 Ew.length 3 (row cI Ew), .row 0 1 1 144 (fun _ => [.own 4 Kk 0 zs.length]), .row Kk 1 zs.length 3 (row cI zs), .row 0 5 1 64 (fun _ => B6.lit)] rfl agj agk (by intro j o hj; exact match j, hj with | 0, hj => by cases hj; rfl | 1, hj => by cases hj; exact (congrArg some (kC mI _ _ _ _ _ _)).symm | 2, hj => by cases hj; rfl | 3, hj => by cases hj; exact (congrArg some (kC mI _ _ _ _ _ _)).symm | j + 4, hj => by cases hj) rfl).mono (by rintro _ _ ⟨_, _, ⟨NV, NK, rfl, rfl⟩, rfl, rfl⟩; exact ⟨NV, NK, rfl, agA⟩), ?_⟩
 rintro _ _ ⟨NV, NK, rfl, rfl⟩
 refine .t (.f (.t (.f (j3 h (fun ac9 h => ?_) (fun ac9 h => ?_)))))
 refine .d ?_
 obtain rfl := si h
 exact afr
 exact lg (Q8 _ _ _ h rfl) (tk [0, 1, 2, 3, 4] ⟨.p, .p, .p, (.Df ⟨⟨rfl, ⟨_, _, _, _, rfl⟩, ⟨_, _, _, _, rfl, aeN⟩⟩, ⟨rfl, ⟨_, _, _, _, rfl⟩, ⟨_, _, _, _, rfl, aeN⟩⟩, trivial⟩), ⟨⟩⟩ ⟨(bf rfl), (nb rfl ⟨.o, ⟨⟩⟩), nw, (nb rfl ⟨.o, ⟨⟩⟩), nw, ⟨⟩⟩)
 exact .f (.f (.f (.f (.f (.f ⟨rfl, (.f (.f (.f (.f (.f (.f (.f (lg (Q8 _ _ _ h rfl) (tk [0, 1, 2, 3, 4] ⟨.p, .p, .p, (.Df ⟨⟨rfl, ⟨_, _, _, _, rfl⟩, ⟨_, _, _, _, rfl, aeN⟩⟩, ⟨rfl, ⟨_, _, _, _, rfl⟩, ⟨_, _, _, _, rfl, aeN⟩⟩, trivial⟩), ⟨⟩⟩ ⟨(bf rfl), (nb rfl ⟨.o, ⟨⟩⟩), nw, (nb rfl ⟨.o, ⟨⟩⟩), nw, ⟨⟩⟩)))))))))⟩)))))
 refine .f (.f (.f (.f (.f (.f (.f (.f (.f (.f (.f (.f ⟨rfl, (.f ⟨rfl, _, rfl, ?_⟩)⟩)))))))))))
 refine .f (bk h fun v72 ada h => (bO (pL ada) (.f (sV h (fun UA h => ?_) (fun UA h => ?_)))))
 refine .t ⟨rfl, (.t ⟨rfl, _, rfl, (.t (.t ⟨rfl, (.t ⟨rfl, _, rfl, (.t (bk h fun v75 NZ h => (bO (qv NZ) ⟨rfl, ⟨rfl, (.t ?_)⟩⟩)))⟩)⟩))⟩)⟩
 refine .t ?_
 obtain ⟨⟨GD, ZF, SC⟩, V7, h⟩ := bd h
 refine ⟨fun res h' => ∃ ZH : Nat, ∃ ZI : Nat, res = .bool GD ∧ h' = [.row 0 6 1 57 (fun _ => a0.lit), .row 0 1 1 144 (fun _ => [.own 2 ZH 0 ZF.length]), .row ZH 1 ZF.length 3 (row cI ZF), .row 0 1 1 144 (fun _ => [.own 4 ZI 0 SC.length]), .row ZI 1 SC.length 3 (row cI SC), .row 0 5 1 64 (fun _ => B6.lit)], (ACall.over (mH (g1000 := 0) (g1001 := 0) (g1002 := 0) (g1003 := 0) V7) [1, 2, 3, 4] [.row 0 6 1 57 (fun _ => a0.lit), .row 0 1 1 144 (fun _ => [.own 2 0 0 E8.length]), .row 0 1 E8.length 3 (row cI E8), .row 0 1 1 144 (fun _ => [.own 4 0 0 vY.length]), .row 0 1 vY.length 3 (row cI vY), .row 0 5 1 64 (fun _ => B6.lit)] rfl agj agk (by intro j o hj; exact match j, hj with | 0, hj => by cases hj; rfl | 1, hj => by cases hj; exact (congrArg some (kC mI _ _ _ _ _ _)).symm | 2, hj => by cases hj; rfl | 3, hj => by cases hj; exact (congrArg some (kC mI _ _ _ _ _ _)).symm | j + 4, hj => by cases hj) rfl).mono (by rintro _ _ ⟨_, _, ⟨ZH, ZI, rfl, rfl⟩, rfl, rfl⟩; exact ⟨ZH, ZI, rfl, agA⟩), ?_⟩
 rintro _ _ ⟨ZH, ZI, rfl, rfl⟩
 refine .t (.f (.t (.f (j3 h (fun U9 h => ?_) (fun U9 h => ?_)))))
 refine .d ?_
 obtain rfl := si h
 exact afr
 exact lg (Q8 _ _ _ h rfl) (tk [0, 1, 2, 3, 4] ⟨.p, .p, .p, (.Df ⟨⟨rfl, ⟨_, _, _, _, rfl⟩, ⟨_, _, _, _, rfl, aeN⟩⟩, ⟨rfl, ⟨_, _, _, _, rfl⟩, ⟨_, _, _, _, rfl, aeN⟩⟩, trivial⟩), ⟨⟩⟩ ⟨(bf rfl), (nb rfl ⟨.o, ⟨⟩⟩), nw, (nb rfl ⟨.o, ⟨⟩⟩), nw, ⟨⟩⟩)
 exact .f (.f (.f (.f (.f (.f ⟨rfl, (.f (.f (.f (.f (.f (.f (.f (lg (Q8 _ _ _ h rfl) (tk [0, 1, 2, 3, 4] ⟨.p, .p, .p, (.Df ⟨⟨rfl, ⟨_, _, _, _, rfl⟩, ⟨_, _, _, _, rfl, aeN⟩⟩, ⟨rfl, ⟨_, _, _, _, rfl⟩, ⟨_, _, _, _, rfl, aeN⟩⟩, trivial⟩), ⟨⟩⟩ ⟨(bf rfl), (nb rfl ⟨.o, ⟨⟩⟩), nw, (nb rfl ⟨.o, ⟨⟩⟩), nw, ⟨⟩⟩)))))))))⟩)))))
 exact ct ⟨_, si h, rfl, rfl⟩ (tk [1, 2] ⟨.p, ⟨⟩⟩ ⟨(nb rfl ⟨.o, ⟨⟩⟩), nw, ⟨⟩⟩)
 rintro _ _ ⟨V5, rfl, rfl, rfl⟩
 replace h := Es
 refine .d ⟨rfl, _, rfl, ?_⟩
 obtain rfl := si h
 exact en [] ⟨rfl, rfl⟩ (.eh ⟨.r, .b, ⟨⟩⟩) ⟨⟩
def fm (a0 : List Int) (a1 : Int) (a2 : Int) : Option (Bool × Bool × (List Int)) :=
 ((
 (if a1 ≥ (a0.length : Int) then
 some (.inr (false, false, a0))
 else
 wh a2 0 500 >>= fun v5 =>
 (if v5 = true then
 idx a0 a1 >>= fun x8 =>
 (if x8 ≥ 0 then
 idx a0 a1 >>= fun kP =>
 (if kP = a2 then
 some (.inl ())
 else
 some (.inr (false, false, a0)))
 else
 some (.inl ()))
 else
 some (.inr (false, false, a0))))
 : Option ((Unit) ⊕ (Bool × Bool × (List Int)))) >>= fun o1 => match o1 with
 | .inr r => some r
 | .inl _ =>
 idx a0 a1 >>= fun CS =>
 idx a0 a1 >>= fun ue =>
 some ((decide (CS < 0)), true, (a0.set a1.toNat a2))
 )
theorem wT {a0 : List Int} {a1 : Int} {a2 : Int} {r : Bool × Bool × (List Int)} {g1000 : Nat} (h : fm a0 a1 a2 = some r) : ACall Tryz.prog 136 [.own 0 g1000 0 a0.length, .int .i64 a1, .int .i64 a2] [.row g1000 1 a0.length 3 (row cI a0)] (fun res h => res = .dG [.bool r.1, .bool r.2.1] ∧ h = [.row g1000 1 a0.length 3 (row cI r.2.2)]) := by
 refine cP Tryz.func136 ?_
 unfold fm at h
 refine .d ?_
 obtain ⟨o1, Aw, ow⟩ := bd h
 replace h := Aw
 refine .cut (fun σ η => .inl () = o1 ∧ σ = [(0, .own 0 g1000 0 a0.length), (1, .int .i64 a1), (2, .int .i64 a2)] ∧ η = [.row g1000 1 a0.length 3 (row cI a0)]) ?_ ?_
 refine .d ⟨rfl, (sD h (fun oL h => ?_) (fun oL h => ?_))⟩
 refine .t (.t (.t (.t (.t (.t (.t (.t (.t (.t (.t (.t (.d ?_))))))))))))
 obtain rfl := si h
 exact afv
 refine .f (bk h fun v5 DJ h => (bO (qH DJ) (.f (.f (j3 h (fun pT h => ?_) (fun pT h => ?_))))))
 refine .t (.t (.t (.t (.t (.t (.t (.t (.d ?_))))))))
 obtain rfl := si h
 exact afv
 refine .f (.f (bk h fun x8 Gb h => ⟨rfl, aI Gb, _, No _, (.f ⟨rfl, _, ((aF Gb).trans rfl), (.f (.f (sD h (fun eY h => ?_) (fun eY h => ?_))))⟩)⟩))
 refine .t (.t (bk h fun kP dT h => ⟨rfl, aI dT, _, No _, (.t ⟨rfl, _, ((aF dT).trans rfl), (.t (.t (.f (.t (.f (sN h (fun jS h => ?_) (fun jS h => ?_)))))))⟩)⟩))
 refine .d ?_
 obtain rfl := si h
 exact afv
 exact ct ⟨si h, rfl, rfl⟩ (tk [0] ⟨.o, .i, .i, ⟨⟩⟩ ⟨od, ⟨⟩⟩)
 exact .f (.f (.f (.f (.f (.f (.f (.f (.f (ct ⟨si h, rfl, rfl⟩ (tk [0] ⟨.o, .i, .i, ⟨⟩⟩ ⟨od, ⟨⟩⟩))))))))))
 rintro _ _ ⟨rfl, rfl, rfl⟩
 replace h := ow
 refine .d (bk h fun CS lT h => ⟨rfl, aI lT, _, No _, ⟨rfl, _, ((aF lT).trans rfl), (.d (bk h fun ue qF h => ⟨rfl, aI qF, _, No _, ⟨rfl, _, row cI (a0.set a1.toNat a2), ((aF qF).trans rfl), ou (gY qF) rfl ⟨.same _, trivial⟩, (.d ?_)⟩⟩))⟩⟩)
 obtain rfl := si h
 exact en [0] ⟨rfl, rfl⟩ (.eh ⟨.b, .b, ⟨⟩⟩) ⟨(odx rfl ln), ⟨⟩⟩
theorem yY {a0 : List Int} {a1 a2 : Int} {b1 b2 : Bool} {l : List Int} (hv : fm a0 a1 a2 = some (b1, b2, l)) : l.length = a0.length := by
 unfold fm at hv
 obtain ⟨o1, h1, h2⟩ := bind_some hv
 cases o1 with
 | inl u =>
  obtain ⟨x, _, h2⟩ := bind_some h2
  obtain ⟨y, _, h2⟩ := bind_some h2
  cases h2
  simp
 | inr r =>
  cases h2
  suffices hh : ∀ o : (Unit ⊕ (Bool × Bool × List Int)), _ = some o → ∀ r, o = .inr r → r.2.2 = a0 by
   exact congrArg List.length (hh _ h1 _ rfl)
  intro o ho r hr
  subst hr
  split at ho
  ·cases ho; rfl
  ·obtain ⟨v, _, ho⟩ := bind_some ho
   split at ho
   ·obtain ⟨x, _, ho⟩ := bind_some ho
    split at ho
    ·obtain ⟨y, _, ho⟩ := bind_some ho
     split at ho
     ·cases ho
     ·cases ho; rfl
    ·cases ho
   ·cases ho; rfl
set_option maxRecDepth 100000
def jl (a0 : aC) (l5 : List Int) (y6 : Int) : Option (((List Int)) ⊕ ((List Int) × Bool)) :=
 (if y6 < (a0.aq.length : Int) then
 idx a0.aq y6 >>= fun zj =>
 mV zj (a0.ar.length : Int) (a0.aq.length : Int) >>= fun v12 =>
 (if v12 = true then
 kV 8 l5 ([(-1)] : List Int) >>= fun QA =>
 jl a0 QA (ah (y6 + 1))
 else
 some (.inr (([] : List Int), false)))
 else
 some (.inl l5))
partial_fixpoint
def cA (a0 : aC) (KB : List Int) (SD : Bool) (vX : Int) : Option (((List Int) × Bool) ⊕ (((List Int)) ⊕ ((List Int) × Bool))) :=
 (if vX < (KB.length : Int) then
 idx a0.aq vX >>= fun H3 =>
 idx KB vX >>= fun x42 =>
 (if x42 < 0 then
 cA a0 KB SD (ah (vX + 1))
 else
 idx KB vX >>= fun x45 =>
 lO H3 >>= fun v47 =>
 (if v47 > x45 then
 some (.inr (.inr (([] : List Int), false)))
 else
 (
 kn H3.aW >>= fun HX =>
 (if HX = true then
 some (KB, false, true)
 else
 idx KB vX >>= fun x59 =>
 iZ H3 >>= fun Cz =>
 fm KB (ah (vX + 1)) (ah (x59 + Cz)) >>= fun (B4, HV, B2) =>
 some (B2, B4, HV))
 : Option ((List Int) × Bool × Bool)) >>= fun (FD, Xc, Xd) =>
 (
 dU H3.aW >>= fun v74 =>
 (if v74 = true then
 idx FD vX >>= fun x77 =>
 eO H3.aW >>= fun SC =>
 fm FD H3.fA (ah (x77 + SC)) >>= fun (XL, WY, PJ) =>
 some (PJ, XL, WY)
 else
 some (FD, false, true))
 : Option ((List Int) × Bool × Bool)) >>= fun (Q9, ZJ, ZK) =>
 (if Xd = true then
 (if ZK = true then
 (if SD = true then
 cA a0 Q9 true (ah (vX + 1))
 else
 (if Xc = true then
 cA a0 Q9 true (ah (vX + 1))
 else
 cA a0 Q9 ZJ (ah (vX + 1))))
 else
 some (.inr (.inr (([] : List Int), false))))
 else
 some (.inr (.inr (([] : List Int), false))))))
 else
 some (.inl (KB, SD)))
partial_fixpoint
def dn (a0 : aC) (FF : List Int) (Xe : Bool) : Option (((List Int)) ⊕ ((List Int) × Bool)) :=
 (if Xe = true then
 ((
 cA a0 FF false 0
 : Option (((List Int) × Bool) ⊕ (((List Int)) ⊕ ((List Int) × Bool)))) >>= fun L3 => match L3 with
 | .inr r => some r
 | .inl (FF, Xe) => dn a0 FF Xe)
 else
 some (.inl FF))
partial_fixpoint
def jL (a0 : aC) : Option ((List Int) × Bool) :=
 ((
 jl a0 ([] : List Int) 0
 : Option (((List Int)) ⊕ ((List Int) × Bool))) >>= fun o2 => match o2 with
 | .inr r => some r
 | .inl l1 =>
 (if (l1.length : Int) = 0 then
 some (([] : List Int), false)
 else
 idx l1 0 >>= fun Ar =>
 ((
 dn a0 (l1.set ((0 : Int).toNat) 0) true
 : Option (((List Int)) ⊕ ((List Int) × Bool))) >>= fun J5 => match J5 with
 | .inr r => some r
 | .inl V8 =>
 some (V8, true)
 ))
 )
theorem Bq {a0 : aC} {r : (List Int) × Bool} (h : jL a0 = some r) : ACall Tryz.prog 93 [.agg a0.lit] [] (fun res h => res = .dG [sl 1 cI r.1, .bool r.2] ∧ h = []) := by
 refine cP Tryz.func93 ?_
 unfold jL at h
 refine .d (.d ⟨row cI ([] : List Int), dN cI ([] : List Int) rfl (eg rfl), ?_⟩)
 obtain ⟨o2, qD, nB⟩ := bd h
 replace h := qD
 refine .cut (fun σ η => ∃ l1, .inl l1 = o2 ∧ σ = [(1, .aN 0 0 0 0), (4, .own 1 0 0 l1.length)] ∧ η = [.row 0 6 1 57 (fun _ => a0.lit), .row 0 1 l1.length 3 (row cI l1)]) ?_ ?_
 refine .d ?_
 refine le (jl.partial_correctness a0 (motive := fun l5 y6 Sg => o2 = Sg → az _ _ [(1, .aN 0 0 0 0), (4, .own 1 0 0 l5.length), (5, .int .i64 y6)] [.row 0 6 1 57 (fun _ => a0.lit), .row 0 1 l5.length 3 (row cI l5)]) ?_ ([] : List Int) 0 o2 h rfl) (tk [0, 1] ⟨.p, .o, .i, ⟨⟩⟩ ⟨(bf rfl), nw, ⟨⟩⟩)
 intro F8 L5 l5 y6 Sg h Nb
 subst Nb
 refine az.round (.d (.d ⟨rfl, ⟨rfl, _, rfl, (sD h (fun uV h => ?_) (fun uV h => ?_))⟩⟩))
 refine .d (.d (.d (.float [(0, true), (1, true), (2, true), (3, true), (4, true), (5, true), (6, true), (7, true), (8, true), (9, true), (10, true), (11, false), (12, true)] agr ?_)))
 refine ⟨rfl, ⟨rfl, _, rfl, (bk h fun zj FX h => ⟨aI FX, _, (aF FX).trans (aR.au zj), ⟨rfl, ⟨rfl, _, rfl, ⟨rfl, ⟨rfl, _, rfl, (bk h fun v12 KS h => (bO (Jy KS) (j3 h (fun kU h => ?_) (fun kU h => ?_))))⟩⟩⟩⟩⟩)⟩⟩
 refine .d ⟨row cI ([] : List Int), dN cI ([] : List Int) rfl (eg rfl), ?_⟩
 obtain rfl := si h
 replace h := nB
 obtain rfl := si h
 exact en [] ⟨rfl, rfl⟩ (.eh ⟨(.rx rfl), .b, ⟨⟩⟩) ⟨⟩
 exact ⟨row cI ([(-1)] : List Int), dN cI ([(-1)] : List Int) rfl (eg rfl), (bk h fun QA rK h => ⟨rfl, rfl, rT (l := ([(-1)] : List Int)) bg, gd rK, QA.length, row cI QA, dP rK, eo rK bg (oF bg), (lg (L5 _ _ _ h rfl) (tk [0, 1] ⟨.p, .o, .i, ⟨⟩⟩ ⟨(bf rfl), nw, ⟨⟩⟩))⟩)⟩
 exact ct ⟨_, si h, rfl, rfl⟩ (tk [0, 1] ⟨.p, .o, ⟨⟩⟩ ⟨(bf rfl), nw, ⟨⟩⟩)
 rintro _ _ ⟨l1, rfl, rfl, rfl⟩
 replace h := nB
 refine .d (.d ⟨rfl, (sE h (fun qI h => ?_) (fun qI h => ?_))⟩)
 refine .d ⟨row cI ([] : List Int), dN cI ([] : List Int) rfl (eg rfl), ?_⟩
 obtain rfl := si h
 exact en [] ⟨rfl, rfl⟩ (.eh ⟨(.rx rfl), .b, ⟨⟩⟩) ⟨⟩
 refine .d (bk h fun Ar xT h => ⟨rfl, aI xT, _, No _, ⟨rfl, _, row cI (l1.set ((0 : Int).toNat) 0), ((aF xT).trans rfl), ou (gY xT) rfl ⟨.same _, trivial⟩, (.d ?_)⟩⟩)
 obtain ⟨J5, adb, Ra⟩ := bd h
 replace h := adb
 refine .cut (fun σ η => ∃ V8, .inl V8 = J5 ∧ σ = [(4, .own 0 0 0 V8.length)] ∧ η = [.row 0 1 V8.length 3 (row cI V8)]) ?_ ?_
 refine le (dn.partial_correctness a0 (motive := fun FF Xe o92 => J5 = o92 → az _ _ [(1, .aN 0 0 0 0), (4, .own 1 0 0 FF.length), (6, .bool Xe)] [.row 0 6 1 57 (fun _ => a0.lit), .row 0 1 FF.length 3 (row cI FF)]) ?_ (l1.set ((0 : Int).toNat) 0) true J5 h rfl) (tk [0, 1] ⟨.p, (.ox ln), .b, ⟨⟩⟩ ⟨(bf rfl), (P5 rfl ln), ⟨⟩⟩)
 intro yv ade FF Xe o92 h adf
 subst adf
 refine az.round (.d (.d (sV h (fun sY h => ?_) (fun sY h => ?_))))
 refine .d (.d ?_)
 obtain ⟨L3, V3, LG⟩ := bd h
 replace h := V3
 refine le (cA.partial_correctness a0 (motive := fun KB SD vX o90 => L3 = o90 → az _ _ [(1, .aN 0 0 0 0), (4, .own 1 0 0 KB.length), (6, .bool SD), (7, .int .i64 vX)] [.row 0 6 1 57 (fun _ => a0.lit), .row 0 1 KB.length 3 (row cI KB)]) ?_ FF false 0 L3 h rfl) (tk [0, 1] ⟨.p, .o, .b, .i, ⟨⟩⟩ ⟨(bf rfl), nw, ⟨⟩⟩)
 intro PH Lm KB SD vX o90 h adg
 subst adg
 refine az.round (.d (.d ⟨rfl, (sD h (fun tC h => ?_) (fun tC h => ?_))⟩))
 refine .d (.d ⟨rfl, ⟨rfl, _, rfl, (bk h fun H3 ZL h => ⟨aI ZL, _, (aF ZL).trans (aR.au H3), ⟨rfl, _, fun _ => [.int .i64 H3.aW, .int .i64 H3.fA, .int .i64 H3.fB, .str H3.fS, .str H3.fT], rfl, aM rfl, (.d (.d (bk h fun x42 ZM h => ⟨rfl, aI ZM, _, No _, ⟨rfl, _, ((aF ZM).trans rfl), (sD h (fun V2 h => ?_) (fun V2 h => ?_))⟩⟩)))⟩⟩)⟩⟩)
 exact lg (Lm _ _ _ _ h rfl) (tk [0, 1] ⟨.p, .o, .b, .i, ⟨⟩⟩ ⟨(bf rfl), nw, ⟨⟩⟩)
 refine .d (.d (.float [(0, true), (2, true), (3, true), (4, true), (5, true), (1, false), (6, true)] agr ?_))
 refine ⟨rfl, _, rfl, (bk h fun x45 NH h => ⟨rfl, aI NH, _, No _, ⟨rfl, _, ((aF NH).trans rfl), (bk h fun v47 adh h => (bO (E6 adh) ⟨rfl, ⟨rfl, (sD h (fun EA h => ?_) (fun EA h => ?_))⟩⟩))⟩⟩)⟩
 refine .d ⟨row cI ([] : List Int), dN cI ([] : List Int) rfl (eg rfl), ?_⟩
 obtain rfl := si h
 replace h := LG
 obtain rfl := si h
 exact afw
 refine .d ?_
 obtain ⟨o53, adi, adj⟩ := bd h
 replace h := adi
 refine .cut (fun σ η => ∃ FD, ∃ Xc, ∃ Xd, (FD, Xc, Xd) = o53 ∧ σ = [(1, .aN 0 0 0 0), (4, .own 1 0 0 FD.length), (6, .bool SD), (7, .int .i64 vX), (8, .aN 2 0 0 0), (9, .bool Xc), (10, .bool Xd)] ∧ η = [.row 0 6 1 57 (fun _ => a0.lit), .row 0 1 FD.length 3 (row cI FD), .row 0 5 1 64 (fun _ => H3.lit)]) ?_ ?_
 refine .d ⟨rfl, ⟨rfl, _, rfl, (bk h fun HX NC h => (bO (E5 NC) (j3 h (fun I6 h => ?_) (fun I6 h => ?_))))⟩⟩
 refine .float [(0, true), (1, true), (2, true), (3, true), (4, true), (5, true), (6, true), (7, true), (8, false), (9, true), (10, false), (11, true), (12, true), (13, true), (14, true), (15, true)] agr ?_
 refine bk h fun x59 ZN h => ⟨rfl, aI ZN, _, No _, ⟨rfl, _, ((aF ZN).trans rfl), ⟨rfl, _, rfl, (bk h fun Cz Ev h => (bO (Bp Ev) ⟨rfl, ⟨rfl, ?_⟩⟩))⟩⟩⟩
 obtain ⟨⟨B4, HV, B2⟩, Ln, h⟩ := bd h
 have ZO := yY Ln
 exact uZ (wT (g1000 := 0) Ln) [1] ⟨ov, ⟨⟩⟩ (.dG [.bool B4, .bool HV]) [.row 0 6 1 57 (fun _ => a0.lit), .row 0 1 KB.length 3 (row cI B2), .row 0 5 1 64 (fun _ => H3.lit)] (ct ⟨_, _, _, si h, rfl, rfl⟩ (tk [0, 1, 2] ⟨.p, (.ox (by first | rfl | simp [ZO])), .b, .i, .p, .b, .b, ⟨⟩⟩ ⟨(bf rfl), (P5 rfl (by first | rfl | simp [ZO])), (bf rfl), ⟨⟩⟩))
 exact ct ⟨_, _, _, si h, rfl, rfl⟩ (tk [0, 1, 2] ⟨.p, .o, .b, .i, .p, .b, .b, ⟨⟩⟩ ⟨(bf rfl), nw, (bf rfl), ⟨⟩⟩)
 rintro _ _ ⟨FD, Xc, Xd, rfl, rfl, rfl⟩
 replace h := adj
 refine .d ?_
 obtain ⟨o71, adk, adl⟩ := bd h
 replace h := adk
 refine .cut (fun σ η => ∃ Q9, ∃ ZJ, ∃ ZK, (Q9, ZJ, ZK) = o71 ∧ σ = [(1, .aN 0 0 0 0), (4, .own 1 0 0 Q9.length), (6, .bool SD), (7, .int .i64 vX), (9, .bool Xc), (10, .bool Xd), (11, .bool ZJ), (12, .bool ZK)] ∧ η = [.row 0 6 1 57 (fun _ => a0.lit), .row 0 1 Q9.length 3 (row cI Q9)]) ?_ ?_
 refine .d ⟨rfl, ⟨rfl, _, rfl, (bk h fun v74 adm h => (bO (tN adm) (sV h (fun adn h => ?_) (fun adn h => ?_))))⟩⟩
 refine .float [(0, true), (1, true), (2, true), (3, true), (4, true), (5, true), (6, true), (7, true), (8, true), (9, false), (10, true), (11, false), (12, true), (13, true), (14, true), (15, true), (16, true)] agr ?_
 refine ⟨rfl, ⟨rfl, _, rfl, (bk h fun x77 ZP h => ⟨rfl, aI ZP, _, No _, ⟨rfl, _, ((aF ZP).trans rfl), ⟨rfl, ⟨rfl, _, rfl, (bk h fun SC V7 h => (bO (wS V7) ⟨rfl, ⟨rfl, ⟨rfl, ⟨rfl, ?_⟩⟩⟩⟩))⟩⟩⟩⟩)⟩⟩
 obtain ⟨⟨XL, WY, PJ⟩, Q7, h⟩ := bd h
 have ZQ := yY Q7
 exact uZ (wT (g1000 := 0) Q7) [1] ⟨ov, ⟨⟩⟩ (.dG [.bool XL, .bool WY]) [.row 0 6 1 57 (fun _ => a0.lit), .row 0 1 FD.length 3 (row cI PJ), .row 0 5 1 64 (fun _ => H3.lit)] (ct ⟨_, _, _, si h, rfl, rfl⟩ (tk [0, 1] ⟨.p, (.ox (by first | rfl | simp [ZQ])), .b, .i, .b, .b, .b, .b, ⟨⟩⟩ ⟨(bf rfl), (P5 rfl (by first | rfl | simp [ZQ])), ⟨⟩⟩))
 exact ct ⟨_, _, _, si h, rfl, rfl⟩ (tk [0, 1] ⟨.p, .o, .b, .i, .b, .b, .b, .b, ⟨⟩⟩ ⟨(bf rfl), nw, ⟨⟩⟩)
 rintro _ _ ⟨Q9, ZJ, ZK, rfl, rfl, rfl⟩
 replace h := adl
 refine .d (.d (j3 h (fun V4 h => ?_) (fun V4 h => ?_)))
 refine .t (.t (.t (.d ⟨row cI ([] : List Int), dN cI ([] : List Int) rfl (eg rfl), ?_⟩)))
 obtain rfl := si h
 replace h := LG
 obtain rfl := si h
 exact afw
 refine .f (.f (j3 h (fun ado h => ?_) (fun ado h => ?_)))
 refine .d ⟨row cI ([] : List Int), dN cI ([] : List Int) rfl (eg rfl), ?_⟩
 obtain rfl := si h
 replace h := LG
 obtain rfl := si h
 exact afw
 refine sV h (fun Vj h => ?_) (fun Vj h => ?_)
 exact .t (.t (.t (lg (Lm _ _ _ _ h rfl) (tk [0, 1] ⟨.p, .o, .b, .i, ⟨⟩⟩ ⟨(bf rfl), nw, ⟨⟩⟩))))
 refine .f (sV h (fun Vk h => ?_) (fun Vk h => ?_))
 exact .t (lg (Lm _ _ _ _ h rfl) (tk [0, 1] ⟨.p, .o, .b, .i, ⟨⟩⟩ ⟨(bf rfl), nw, ⟨⟩⟩))
 exact .f (lg (Lm _ _ _ _ h rfl) (tk [0, 1] ⟨.p, .o, .b, .i, ⟨⟩⟩ ⟨(bf rfl), nw, ⟨⟩⟩))
 obtain rfl := si h
 replace h := LG
 exact lg (ade _ _ _ h rfl) (tk [0, 1] ⟨.p, .o, .b, ⟨⟩⟩ ⟨(bf rfl), nw, ⟨⟩⟩)
 exact ct ⟨_, si h, rfl, rfl⟩ (tk [1] ⟨.o, ⟨⟩⟩ ⟨nw, ⟨⟩⟩)
 rintro _ _ ⟨V8, rfl, rfl, rfl⟩
 replace h := Ra
 refine .d ?_
 obtain rfl := si h
 exact en [] ⟨rfl, rfl⟩ (.eh ⟨.r, .b, ⟨⟩⟩) ⟨⟩
set_option maxRecDepth 100000
def gv (a0 : aC) (V9 : Int) : Option ((Unit) ⊕ Bool) :=
 (if V9 < (a0.aq.length : Int) then
 idx a0.aq V9 >>= fun Qa =>
 (if Qa.aW = 54 then
 (if a0.dk = true then
 gv a0 (ah (V9 + 1))
 else
 some (.inr false))
 else
 gv a0 (ah (V9 + 1)))
 else
 some (.inl ()))
partial_fixpoint
def lA (a0 : aC) : Option (Bool) :=
 ((
 wh (a0.ao.length : Int) 1 100 >>= fun v4 =>
 (if v4 = true then
 (if (a0.aq.length : Int) > 8000 then
 some (.inr false)
 else
 oB a0 >>= fun v8 =>
 (if v8 = true then
 ko a0 >>= fun v11 =>
 (if v11 = true then
 (if (a0.ar.length : Int) > 0 then
 some (.inr false)
 else
 (if a0.dk = true then
 some (.inr false)
 else
 some (.inl ())))
 else
 some (.inl ()))
 else
 some (.inr false)))
 else
 some (.inr false))
 : Option ((Unit) ⊕ Bool)) >>= fun o1 => match o1 with
 | .inr r => some r
 | .inl _ =>
 ((
 gv a0 0
 : Option ((Unit) ⊕ Bool)) >>= fun lW => match lW with
 | .inr r => some r
 | .inl _ =>
 jL a0 >>= fun (KU, v30) =>
 some v30
 )
 )
theorem GA {a0 : aC} {r : Bool} (h : lA a0 = some r) : ACall Tryz.prog 44 [.agg a0.lit] [] (fun res h => res = .bool r ∧ h = []) := by
 refine cP Tryz.func44 ?_
 unfold lA at h
 refine .d ?_
 obtain ⟨o1, Aw, ow⟩ := bd h
 replace h := Aw
 refine .cut (fun σ η => .inl () = o1 ∧ σ = [(1, .aN 0 0 0 0)] ∧ η = [.row 0 6 1 57 (fun _ => a0.lit)]) ?_ ?_
 refine .d ⟨rfl, ⟨rfl, _, rfl, (bk h fun v4 xy h => (bO (qH xy) (j3 h (fun oM h => ?_) (fun oM h => ?_))))⟩⟩
 refine .t (.t (.t (.t (.t (.t (.t (.t (.t (.t (.t (.t (.t (.t (.d ?_))))))))))))))
 exact afk
 refine ⟨rfl, (.f ⟨rfl, _, rfl, (.f (.f (.f (sD h (fun pT h => ?_) (fun pT h => ?_)))))⟩)⟩
 refine .t (.t (.t (.t (.t (.t (.t (.t (.t (.d ?_)))))))))
 exact afk
 refine ⟨rfl, _, rfl, (.f (bk h fun v8 Xo h => (bO (CJ Xo) (.f (.f (j3 h (fun eY h => ?_) (fun eY h => ?_)))))))⟩
 refine .t (.t (.t (.t (.t (.d ?_)))))
 exact afk
 refine ⟨rfl, _, rfl, (.f (bk h fun v11 H6 h => (bO (yH H6) (.f (sV h (fun jS h => ?_) (fun jS h => ?_))))))⟩
 refine ⟨rfl, (.t ⟨rfl, _, rfl, (.t (.t (.t (sD h (fun kU h => ?_) (fun kU h => ?_)))))⟩)⟩
 refine .t (.t (.t (.f (.t (.f (.t (.d ?_)))))))
 exact afk
 refine ⟨rfl, (.f ⟨rfl, _, rfl, (.t (.f (.f (.t (.f (sV h (fun dI h => ?_) (fun dI h => ?_)))))))⟩)⟩
 refine .d ?_
 exact afk
 exact afM
 exact .f (.f (.f (.f (.f (.f (.f (.f (.f (ct ⟨si h, rfl, rfl⟩ (tk [0] ⟨.p, ⟨⟩⟩ ⟨(bf rfl), ⟨⟩⟩))))))))))
 rintro _ _ ⟨rfl, rfl, rfl⟩
 replace h := ow
 obtain ⟨lW, adp, ZR⟩ := bd h
 replace h := adp
 refine .cut (fun σ η => .inl () = lW ∧ σ = [(1, .aN 0 0 0 0)] ∧ η = [.row 0 6 1 57 (fun _ => a0.lit)]) ?_ ?_
 refine .d ?_
 refine le (gv.partial_correctness a0 (motive := fun V9 HY => lW = HY → az _ _ [(1, .aN 0 0 0 0), (3, .int .i64 V9)] [.row 0 6 1 57 (fun _ => a0.lit)]) ?_ 0 lW h rfl) (tk [0] ⟨.p, .i, ⟨⟩⟩ ⟨(bf rfl), ⟨⟩⟩)
 intro RT ZS V9 HY h adq
 subst adq
 refine az.round (.d (.d ⟨rfl, ⟨rfl, _, rfl, (sD h (fun kS h => ?_) (fun kS h => ?_))⟩⟩))
 refine .d (.d ⟨rfl, ⟨rfl, _, rfl, (bk h fun Qa uI h => ⟨aI uI, _, (aF uI).trans (aR.au Qa), (sE h (fun sJ h => ?_) (fun sJ h => ?_))⟩)⟩⟩)
 refine ⟨rfl, (.t ⟨rfl, _, rfl, (.t (.t (j3 h (fun wi h => ?_) (fun wi h => ?_))))⟩)⟩
 refine .d ?_
 obtain rfl := si h
 replace h := ZR
 exact eB h
 exact lg (ZS _ _ h rfl) (tk [0] ⟨.p, .i, ⟨⟩⟩ ⟨(bf rfl), ⟨⟩⟩)
 exact .f (.f (.f (.f (lg (ZS _ _ h rfl) (tk [0] ⟨.p, .i, ⟨⟩⟩ ⟨(bf rfl), ⟨⟩⟩)))))
 exact afM
 rintro _ _ ⟨rfl, rfl, rfl⟩
 replace h := ZR
 refine .d ⟨rfl, _, rfl, ?_⟩
 obtain ⟨⟨KU, v30⟩, I0, h⟩ := bd h
 exact bO (Bq I0) (.d (eB h))
def dV (a0 : aC) (l10 : List (ba × Bool)) (aU : Int) : Option ((Unit) ⊕ Bool) :=
 (if aU < (a0.ar.length : Int) then
 idx a0.ar aU >>= fun xH =>
 (if (rF l10 xH false) = true then
 some (.inr false)
 else
 ef xH >>= fun oN =>
 (if oN = true then
 (if xH = ([116, 104, 105, 115] : ba) then
 some (.inr false)
 else
 dV a0 (fp l10 xH true) (ah (aU + 1)))
 else
 some (.inr false)))
 else
 some (.inl ()))
partial_fixpoint
def gr (a0 : aC) (zV : List TParam) (xS : Int) : Option ((Unit) ⊕ Bool) :=
 (if xS < (zV.length : Int) then
 idx zV xS >>= fun ZT =>
 idx a0.ar xS >>= fun x37 =>
 (if x37 = ZT.ao then
 gr a0 zV (ah (xS + 1))
 else
 some (.inr false))
 else
 some (.inl ()))
partial_fixpoint
def gu (a0 : aC) (Wa : Int) : Option ((Unit) ⊕ Bool) :=
 (if Wa < (a0.aq.length : Int) then
 idx a0.aq Wa >>= fun H0 =>
 (if H0.aW = 54 then
 (if a0.dk = true then
 gu a0 (ah (Wa + 1))
 else
 some (.inr false))
 else
 gu a0 (ah (Wa + 1)))
 else
 some (.inl ()))
partial_fixpoint
def hU (a0 : aC) : Option (Bool) :=
 yx (a0.ao.length : Int) 1 100 >>= fun v1 =>
 (if v1 = true then
 (if (a0.ar.length : Int) > 600 then
 some false
 else
 (if (a0.aq.length : Int) > 8000 then
 some false
 else
 (if (ah ((a0.ak.length : Int) + (a0.aE.length : Int))) > (a0.ar.length : Int) then
 some false
 else
 ((
 dV a0 ([] : List (ba × Bool)) 0
 : Option ((Unit) ⊕ Bool)) >>= fun o7 => match o7 with
 | .inr r => some r
 | .inl _ =>
 ((
 tq a0.ak >>= fun uL =>
 kV 24 uL a0.aE >>= fun zV =>
 gr a0 zV 0
 : Option ((Unit) ⊕ Bool)) >>= fun Lj => match Lj with
 | .inr r => some r
 | .inl _ =>
 ((
 gu a0 0
 : Option ((Unit) ⊕ Bool)) >>= fun I3 => match I3 with
 | .inr r => some r
 | .inl _ =>
 jx a0 >>= fun zs =>
 (if zs = true then
 (if (a0.ar.length : Int) > 0 then
 some false
 else
 (if a0.dk = true then
 some false
 else
 eZ a0 >>= fun (W1, Cz) =>
 some Cz))
 else
 eZ a0 >>= fun (B4, HV) =>
 some HV)
 )
 )
 ))))
 else
 some false)
theorem GG {a0 : aC} {r : Bool} (h : hU a0 = some r) : ACall Tryz.prog 54 [.agg a0.lit] [] (fun res h => res = .bool r ∧ h = []) := by
 refine cP Tryz.func54 ?_
 unfold hU at h
 refine .d (.d (.d ⟨rfl, ⟨rfl, _, rfl, (bk h fun v1 jT h => (bO (uM jT) (j3 h (fun lJ h => ?_) (fun lJ h => ?_))))⟩⟩))
 refine .t (.t (.t (.t (.t (.t (.t (.t (.t (.t (.t (.t (.t (.t (.t ?_))))))))))))))
 exact .t (.t (.t (.t (.t (.t (.t (.d (eB h))))))))
 refine ⟨rfl, (.f ⟨rfl, _, rfl, (.f (.f (.f (sD h (fun oL h => ?_) (fun oL h => ?_)))))⟩)⟩
 refine .t (.t (.t (.t (.t (.t (.t (.t (.t (.t (.t (.t (.t (.t (.t ?_))))))))))))))
 exact .t (.t (.d (eB h)))
 refine ⟨rfl, (.f ⟨rfl, _, rfl, (.f (.f (.f (sD h (fun nW h => ?_) (fun nW h => ?_)))))⟩)⟩
 exact .t (.t (.t (.t (.t (.t (.t (.t (.t (.t (.t (.t (.d (eB h)))))))))))))
 refine ⟨rfl, (.f ⟨rfl, _, rfl, (.f (.f ⟨rfl, (.f ⟨rfl, _, rfl, (.f (.f (.f ⟨rfl, (.f ⟨rfl, _, rfl, (.f ?_)⟩)⟩)))⟩)⟩))⟩)⟩
 refine .f (.f (sD h (fun oM h => ?_) (fun oM h => ?_)))
 exact afJ
 refine .d ⟨row (mc (PV.str) (PV.bool)) ([] : List (ba × Bool)), ?_⟩
 obtain ⟨o7, Mp, H8⟩ := bd h
 replace h := Mp
 refine .cut (fun σ η => .inl () = o7 ∧ σ = [(1, .aN 0 0 0 0)] ∧ η = [.row 0 6 1 57 (fun _ => a0.lit)]) ?_ ?_
 refine .d ⟨rfl, ⟨rfl, _, rfl, ?_⟩⟩
 refine le (dV.partial_correctness a0 (motive := fun l10 aU Xa => o7 = Xa → az _ _ [(1, .aN 0 0 0 0), (3, .kN 1), (44, sl 1 cS a0.ar), (45, .int .i64 (a0.ar.length : Int)), (46, .int .i64 aU)] [.row 0 6 1 57 (fun _ => a0.lit), .row 0 2 l10.length 114 (row (mc (PV.str) (PV.bool)) l10)]) ?_ ([] : List (ba × Bool)) 0 o7 h rfl) (tk [0, 1] ⟨.p, .m, .l, .i, .i, ⟨⟩⟩ ⟨(bf rfl), nw, ⟨⟩⟩)
 intro F13 H9 l10 aU Xa h adr
 subst adr
 refine az.round (.d (.d (sD h (fun kU h => ?_) (fun kU h => ?_))))
 refine .d (.d (bk h fun xH rK h => ⟨aI rK, _, (aF rK).trans rfl, (.d (.d ⟨.bool (rF l10 xH false), sM l10 xH, qY (ti := vr.get 9) (c := PV.str) (d := PV.bool) oE l10 xH false, (sV h (fun kR h => ?_) (fun kR h => ?_))⟩))⟩))
 refine .t (.t (.t (.t (.t (.t (.t (.d ?_)))))))
 obtain rfl := si h
 replace h := H8
 exact eB h
 refine .f (bk h fun oN D5 h => (bO (nn D5) (.f (.f (j3 h (fun pf h => ?_) (fun pf h => ?_))))))
 refine .t (.t (.t (.d ?_)))
 obtain rfl := si h
 replace h := H8
 exact eB h
 refine .f (.f (sE h (fun rO h => ?_) (fun rO h => ?_)))
 refine .d ?_
 obtain rfl := si h
 replace h := H8
 exact eB h
 exact ⟨(fp l10 xH true).length, row (mc (PV.str) (PV.bool)) (fp l10 xH true), um (ti := vr.get 9) (c := PV.str) (d := PV.bool) oE l10 xH true, (lg (H9 _ _ _ h rfl) (tk [0, 1] ⟨.p, .m, .l, .i, .i, ⟨⟩⟩ ⟨(bf rfl), nw, ⟨⟩⟩))⟩
 exact afM
 rintro _ _ ⟨rfl, rfl, rfl⟩
 replace h := H8
 obtain ⟨Lj, IZ, Gz⟩ := bd h
 replace h := IZ
 refine .cut (fun σ η => .inl () = Lj ∧ σ = [(1, .aN 0 0 0 0)] ∧ η = [.row 0 6 1 57 (fun _ => a0.lit)]) ?_ ?_
 refine .d (.float [(0, true), (1, true), (3, true), (4, true), (7, true), (2, false), (5, false), (6, true)] agr ?_)
 refine ⟨rfl, ⟨rfl, _, rfl, ⟨rfl, ⟨rfl, _, rfl, (bk h fun uL NR h => (P6 (LH NR) (.own 1 0 0 uL.length) [.row 0 6 1 57 (fun _ => a0.lit), .row 0 2 uL.length 61 (row TParam.cells uL)] ⟨rfl, ⟨rfl, (bk h fun zV EE h => ⟨rfl, gd EE, zV.length, row TParam.cells zV, dP EE, eo EE bg EJ, ⟨rfl, ?_⟩⟩)⟩⟩))⟩⟩⟩⟩
 refine le (gr.partial_correctness a0 zV (motive := fun xS Ik => Lj = Ik → az _ _ [(1, .aN 0 0 0 0), (70, .own 1 0 0 zV.length), (71, .int .i64 (zV.length : Int)), (72, .int .i64 xS)] [.row 0 6 1 57 (fun _ => a0.lit), .row 0 2 zV.length 61 (row TParam.cells zV)]) ?_ 0 Lj h rfl) (tk [0, 1] ⟨.p, .o, .i, .i, ⟨⟩⟩ ⟨(bf rfl), nw, ⟨⟩⟩)
 intro MG NA xS Ik h Ty
 subst Ty
 refine az.round (.d (.d (sD h (fun xC h => ?_) (fun xC h => ?_))))
 refine .d (.d (bk h fun ZT NS h => ⟨rfl, aI NS, _, No _, ⟨rfl, _, ((aF NS).trans (TParam.au ZT)), ⟨rfl, _, fun _ => [.str ZT.ao, .bool ZT.vh], rfl, aM rfl, (.d ⟨rfl, ⟨rfl, _, rfl, (bk h fun x37 GI h => ⟨aI GI, _, (aF GI).trans rfl, ⟨rfl, ⟨rfl, _, rfl, (tc h (fun tC h => ?_) (fun tC h => ?_))⟩⟩⟩)⟩⟩)⟩⟩⟩))
 refine .d ?_
 obtain rfl := si h
 replace h := Gz
 exact eB h
 exact lg (NA _ _ h rfl) (tk [0, 1] ⟨.p, .o, .i, .i, ⟨⟩⟩ ⟨(bf rfl), nw, ⟨⟩⟩)
 exact afM
 rintro _ _ ⟨rfl, rfl, rfl⟩
 replace h := Gz
 obtain ⟨I3, I5, zr⟩ := bd h
 replace h := I5
 refine .cut (fun σ η => .inl () = I3 ∧ σ = [(1, .aN 0 0 0 0)] ∧ η = [.row 0 6 1 57 (fun _ => a0.lit)]) ?_ ?_
 refine .d ⟨rfl, ⟨rfl, _, rfl, ?_⟩⟩
 refine le (gu.partial_correctness a0 (motive := fun Wa o53 => I3 = o53 → az _ _ [(1, .aN 0 0 0 0), (87, sl 5 aR.cells a0.aq), (88, .int .i64 (a0.aq.length : Int)), (89, .int .i64 Wa)] [.row 0 6 1 57 (fun _ => a0.lit)]) ?_ 0 I3 h rfl) (tk [0] ⟨.p, .l, .i, .i, ⟨⟩⟩ ⟨(bf rfl), ⟨⟩⟩)
 intro KW ZU Wa o53 h ads
 subst ads
 refine az.round (.d (.d (sD h (fun Ja h => ?_) (fun Ja h => ?_))))
 refine .d (.d (bk h fun H0 NT h => ⟨aI NT, _, (aF NT).trans (aR.au H0), ⟨rfl, _, fun _ => [.int .i64 H0.aW, .int .i64 H0.fA, .int .i64 H0.fB, .str H0.fS, .str H0.fT], rfl, aM rfl, (.d ⟨rfl, ⟨rfl, _, rfl, (sE h (fun IV h => ?_) (fun IV h => ?_))⟩⟩)⟩⟩))
 refine ⟨rfl, (.t ⟨rfl, _, rfl, (.t (.t (j3 h (fun Eu h => ?_) (fun Eu h => ?_))))⟩)⟩
 refine .d ?_
 obtain rfl := si h
 replace h := zr
 exact eB h
 exact lg (ZU _ _ h rfl) (tk [0] ⟨.p, .l, .i, .i, ⟨⟩⟩ ⟨(bf rfl), ⟨⟩⟩)
 exact .f (.f (.f (.f (lg (ZU _ _ h rfl) (tk [0] ⟨.p, .l, .i, .i, ⟨⟩⟩ ⟨(bf rfl), ⟨⟩⟩)))))
 exact afM
 rintro _ _ ⟨rfl, rfl, rfl⟩
 replace h := zr
 refine .d (.d ⟨rfl, _, rfl, (bk h fun zs Jb h => (bO (yI Jb) (sV h (fun Vg h => ?_) (fun Vg h => ?_))))⟩)
 refine ⟨rfl, (.t ⟨rfl, _, rfl, (.t (.t (.t (sD h (fun I6 h => ?_) (fun I6 h => ?_)))))⟩)⟩
 exact .t (.t (.t (.t (.t (.d (eB h))))))
 refine ⟨rfl, (.f ⟨rfl, _, rfl, (.t (.f (.t (sV h (fun I2 h => ?_) (fun I2 h => ?_)))))⟩)⟩
 exact afJ
 refine .d ⟨rfl, _, rfl, ?_⟩
 obtain ⟨⟨W1, Cz⟩, Ev, h⟩ := bd h
 exact bO (tO Ev) (.d (eB h))
 refine .f (.f (.f (.f (.f (.f (.f (.d ⟨rfl, _, rfl, ?_⟩)))))))
 obtain ⟨⟨B4, HV⟩, US, h⟩ := bd h
 exact bO (tO US) (.d (eB h))
end Go.Am
