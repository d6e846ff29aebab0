/- Models of Go functions, and their walks. (Printed by tools/mg.py.) -/
import Derived.Test.YtginnmdpdgeinaaGreatDoorA1
set_option linter.unusedVariables false
set_option linter.unusedSimpArgs false
namespace Go.Am
open Go Go.RowKit Go.Proofs
def m_i_HasTarget (a0 : Int) : Option (Bool) :=
 (if a0 = 27 then
 some true
 else
 (if a0 = 28 then
 some true
 else
 (if a0 = 29 then
 some true
 else
 (if a0 = 44 then
 some true
 else
 (if a0 = 45 then
 some true
 else
 (if a0 = 49 then
 some true
 else
 (if a0 = 52 then
 some true
 else
 some false)))))))
theorem ok_i_HasTarget {a0 : Int} {r : Bool} (h : m_i_HasTarget a0 = some r) : ACall Tryz.prog 85 [.int .i64 a0] [] (fun res h => res = .bool r ∧ h = []) := by
 refine vc1 Tryz.func85 ?_
 unfold m_i_HasTarget at h
 refine .d (.d (.d (.d (.d (sE h (fun hb1 h => ?_) (fun hb1 h => ?_))))))
 exact .kt hb1 (.d (eB h))
 refine .d (sE h (fun hb2 h => ?_) (fun hb2 h => ?_))
 exact .kt hb2 (.d (eB h))
 refine .d (sE h (fun hb3 h => ?_) (fun hb3 h => ?_))
 exact .kt hb3 (.d (eB h))
 refine .d (sE h (fun hb4 h => ?_) (fun hb4 h => ?_))
 exact .kt hb4 (.d (eB h))
 refine .d (sE h (fun hb5 h => ?_) (fun hb5 h => ?_))
 exact .kt hb5 (.d (eB h))
 refine .d (sE h (fun hb6 h => ?_) (fun hb6 h => ?_))
 exact .kt hb6 (.d (eB h))
 refine sE h (fun hb7 h => ?_) (fun hb7 h => ?_)
 exact .d (eB h)
 exact .d (eB h)
def m_i_IsFinal (a0 : Int) : Option (Bool) :=
 (if a0 = 27 then
 some true
 else
 (if a0 = 42 then
 some true
 else
 (if a0 = 43 then
 some true
 else
 some (a0 == 49))))
theorem ok_i_IsFinal {a0 : Int} {r : Bool} (h : m_i_IsFinal a0 = some r) : ACall Tryz.prog 112 [.int .i64 a0] [] (fun res h => res = .bool r ∧ h = []) := by
 refine vc1 Tryz.func112 ?_
 unfold m_i_IsFinal at h
 refine .d (.d (sE h (fun hb1 h => ?_) (fun hb1 h => ?_)))
 exact .t (.t (.t (.t (.t (.t (.t (.t (eB h))))))))
 refine .f (.f (sE h (fun hb2 h => ?_) (fun hb2 h => ?_)))
 exact .t (.t (.t (.t (.t (eB h)))))
 refine .f (.f (sE h (fun hb3 h => ?_) (fun hb3 h => ?_)))
 exact .t (.t (eB h))
 exact .f (.f (eB h))
def m_i_InsNeed (a0 : TIns) : Option (Int) :=
 (
 (if a0.fOp = 6 then
 some (a0.fOp == 6)
 else
 (if a0.fOp = 8 then
 some (a0.fOp == 8)
 else
 (if a0.fOp = 10 then
 some (a0.fOp == 10)
 else
 (if a0.fOp = 11 then
 some (a0.fOp == 11)
 else
 (if a0.fOp = 13 then
 some (a0.fOp == 13)
 else
 (if a0.fOp = 17 then
 some (a0.fOp == 17)
 else
 (if a0.fOp = 28 then
 some (a0.fOp == 28)
 else
 (if a0.fOp = 29 then
 some (a0.fOp == 29)
 else
 (if a0.fOp = 30 then
 some (a0.fOp == 30)
 else
 (if a0.fOp = 33 then
 some (a0.fOp == 33)
 else
 (if a0.fOp = 34 then
 some (a0.fOp == 34)
 else
 (if a0.fOp = 37 then
 some (a0.fOp == 37)
 else
 (if a0.fOp = 42 then
 some (a0.fOp == 42)
 else
 (if a0.fOp = 43 then
 some (a0.fOp == 43)
 else
 (if a0.fOp = 50 then
 some (a0.fOp == 50)
 else
 some (a0.fOp == 54))))))))))))))))
 : Option (Bool)) >>= fun b1 =>
 (if b1 = true then
 some 1
 else
 (
 (if a0.fOp = 12 then
 some (a0.fOp == 12)
 else
 (if a0.fOp = 16 then
 some (a0.fOp == 16)
 else
 (if a0.fOp = 41 then
 some (a0.fOp == 41)
 else
 (if a0.fOp = 51 then
 some (a0.fOp == 51)
 else
 (if a0.fOp = 52 then
 some (a0.fOp == 52)
 else
 some (a0.fOp == 53))))))
 : Option (Bool)) >>= fun b21 =>
 (if b21 = true then
 some 2
 else
 (if a0.fOp = 15 then
 some (W64 (2 + a0.fB))
 else
 (
 (if a0.fOp = 18 then
 some (a0.fOp == 18)
 else
 some (a0.fOp == 19))
 : Option (Bool)) >>= fun b32 =>
 (if b32 = true then
 some (W64 ((W64 (a0.fB.tdiv 2)) + 1))
 else
 (if a0.fOp = 20 then
 some (W64 ((W64 (a0.fB.tdiv 2)) + 2))
 else
 (if a0.fOp = 21 then
 some a0.fB
 else
 (if a0.fOp = 22 then
 some a0.fB
 else
 (if a0.fOp = 23 then
 some (W64 (a0.fB + 1))
 else
 some 0))))))))
theorem ok_i_InsNeed {a0 : TIns} {r : Int} (h : m_i_InsNeed a0 = some r) : ACall Tryz.prog 111 [.agg a0.lit] [] (fun res h => res = .int .i64 r ∧ h = []) := by
 refine vc1 Tryz.func111 ?_
 unfold m_i_InsNeed at h
 refine .d (.d (.d ⟨rfl, ⟨rfl, _, rfl, ?_⟩⟩))
 obtain ⟨o2, ho3, hk4⟩ := bd h
 replace h := ho3
 refine .cut (fun σ η => ∃ b1, b1 = o2 ∧ σ = [(1, .optr 0 0 0 0), (4, .int .i64 a0.fOp), (5, .bool b1)] ∧ η = [.row 0 5 1 46 (fun _ => a0.lit)]) ?_ ?_
 refine .d (sE h (fun hb5 h => ?_) (fun hb5 h => ?_))
 exact ct ⟨_, si h, rfl, rfl⟩ (tk [0] ⟨.p, .i, .b, ⟨⟩⟩ ⟨(nbp rfl), ⟨⟩⟩)
 refine .d (sE h (fun hb6 h => ?_) (fun hb6 h => ?_))
 exact ct ⟨_, si h, rfl, rfl⟩ (tk [0] ⟨.p, .i, .b, ⟨⟩⟩ ⟨(nbp rfl), ⟨⟩⟩)
 refine .d (sE h (fun hb7 h => ?_) (fun hb7 h => ?_))
 exact ct ⟨_, si h, rfl, rfl⟩ (tk [0] ⟨.p, .i, .b, ⟨⟩⟩ ⟨(nbp rfl), ⟨⟩⟩)
 refine .d (sE h (fun hb8 h => ?_) (fun hb8 h => ?_))
 exact ct ⟨_, si h, rfl, rfl⟩ (tk [0] ⟨.p, .i, .b, ⟨⟩⟩ ⟨(nbp rfl), ⟨⟩⟩)
 refine .d (sE h (fun hb9 h => ?_) (fun hb9 h => ?_))
 exact ct ⟨_, si h, rfl, rfl⟩ (tk [0] ⟨.p, .i, .b, ⟨⟩⟩ ⟨(nbp rfl), ⟨⟩⟩)
 refine .d (sE h (fun hb10 h => ?_) (fun hb10 h => ?_))
 exact ct ⟨_, si h, rfl, rfl⟩ (tk [0] ⟨.p, .i, .b, ⟨⟩⟩ ⟨(nbp rfl), ⟨⟩⟩)
 refine .d (sE h (fun hb11 h => ?_) (fun hb11 h => ?_))
 exact ct ⟨_, si h, rfl, rfl⟩ (tk [0] ⟨.p, .i, .b, ⟨⟩⟩ ⟨(nbp rfl), ⟨⟩⟩)
 refine .d (sE h (fun hb12 h => ?_) (fun hb12 h => ?_))
 exact ct ⟨_, si h, rfl, rfl⟩ (tk [0] ⟨.p, .i, .b, ⟨⟩⟩ ⟨(nbp rfl), ⟨⟩⟩)
 refine .d (sE h (fun hb13 h => ?_) (fun hb13 h => ?_))
 exact ct ⟨_, si h, rfl, rfl⟩ (tk [0] ⟨.p, .i, .b, ⟨⟩⟩ ⟨(nbp rfl), ⟨⟩⟩)
 refine .d (sE h (fun hb14 h => ?_) (fun hb14 h => ?_))
 exact ct ⟨_, si h, rfl, rfl⟩ (tk [0] ⟨.p, .i, .b, ⟨⟩⟩ ⟨(nbp rfl), ⟨⟩⟩)
 refine .d (sE h (fun hb15 h => ?_) (fun hb15 h => ?_))
 exact ct ⟨_, si h, rfl, rfl⟩ (tk [0] ⟨.p, .i, .b, ⟨⟩⟩ ⟨(nbp rfl), ⟨⟩⟩)
 refine .d (sE h (fun hb16 h => ?_) (fun hb16 h => ?_))
 exact ct ⟨_, si h, rfl, rfl⟩ (tk [0] ⟨.p, .i, .b, ⟨⟩⟩ ⟨(nbp rfl), ⟨⟩⟩)
 refine .d (sE h (fun hb17 h => ?_) (fun hb17 h => ?_))
 exact ct ⟨_, si h, rfl, rfl⟩ (tk [0] ⟨.p, .i, .b, ⟨⟩⟩ ⟨(nbp rfl), ⟨⟩⟩)
 refine .d (sE h (fun hb18 h => ?_) (fun hb18 h => ?_))
 exact ct ⟨_, si h, rfl, rfl⟩ (tk [0] ⟨.p, .i, .b, ⟨⟩⟩ ⟨(nbp rfl), ⟨⟩⟩)
 refine .d (sE h (fun hb19 h => ?_) (fun hb19 h => ?_))
 exact ct ⟨_, si h, rfl, rfl⟩ (tk [0] ⟨.p, .i, .b, ⟨⟩⟩ ⟨(nbp rfl), ⟨⟩⟩)
 exact ct ⟨_, si h, rfl, rfl⟩ (tk [0] ⟨.p, .i, .b, ⟨⟩⟩ ⟨(nbp rfl), ⟨⟩⟩)
 rintro _ _ ⟨b1, rfl, rfl, rfl⟩
 replace h := hk4
 refine sV h (fun hb20 h => ?_) (fun hb20 h => ?_)
 exact .d (eI h)
 obtain ⟨o22, ho23, hk24⟩ := bd h
 replace h := ho23
 refine .cut (fun σ η => ∃ b21, b21 = o22 ∧ σ = [(1, .optr 0 0 0 0), (4, .int .i64 a0.fOp), (22, .bool b21)] ∧ η = [.row 0 5 1 46 (fun _ => a0.lit)]) ?_ ?_
 refine .d (sE h (fun hb25 h => ?_) (fun hb25 h => ?_))
 exact ct ⟨_, si h, rfl, rfl⟩ (tk [0] ⟨.p, .i, .b, ⟨⟩⟩ ⟨(nbp rfl), ⟨⟩⟩)
 refine .d (sE h (fun hb26 h => ?_) (fun hb26 h => ?_))
 exact ct ⟨_, si h, rfl, rfl⟩ (tk [0] ⟨.p, .i, .b, ⟨⟩⟩ ⟨(nbp rfl), ⟨⟩⟩)
 refine .d (sE h (fun hb27 h => ?_) (fun hb27 h => ?_))
 exact ct ⟨_, si h, rfl, rfl⟩ (tk [0] ⟨.p, .i, .b, ⟨⟩⟩ ⟨(nbp rfl), ⟨⟩⟩)
 refine .d (sE h (fun hb28 h => ?_) (fun hb28 h => ?_))
 exact ct ⟨_, si h, rfl, rfl⟩ (tk [0] ⟨.p, .i, .b, ⟨⟩⟩ ⟨(nbp rfl), ⟨⟩⟩)
 refine .d (sE h (fun hb29 h => ?_) (fun hb29 h => ?_))
 exact ct ⟨_, si h, rfl, rfl⟩ (tk [0] ⟨.p, .i, .b, ⟨⟩⟩ ⟨(nbp rfl), ⟨⟩⟩)
 exact ct ⟨_, si h, rfl, rfl⟩ (tk [0] ⟨.p, .i, .b, ⟨⟩⟩ ⟨(nbp rfl), ⟨⟩⟩)
 rintro _ _ ⟨b21, rfl, rfl, rfl⟩
 replace h := hk24
 refine sV h (fun hb30 h => ?_) (fun hb30 h => ?_)
 exact .d (eI h)
 refine .d (sE h (fun hb31 h => ?_) (fun hb31 h => ?_))
 exact .d ⟨rfl, ⟨rfl, _, rfl, (eI h)⟩⟩
 obtain ⟨o33, ho34, hk35⟩ := bd h
 replace h := ho34
 refine .cut (fun σ η => ∃ b32, b32 = o33 ∧ σ = [(1, .optr 0 0 0 0), (4, .int .i64 a0.fOp), (34, .bool b32)] ∧ η = [.row 0 5 1 46 (fun _ => a0.lit)]) ?_ ?_
 refine .d (sE h (fun hb36 h => ?_) (fun hb36 h => ?_))
 exact ct ⟨_, si h, rfl, rfl⟩ (tk [0] ⟨.p, .i, .b, ⟨⟩⟩ ⟨(nbp rfl), ⟨⟩⟩)
 exact ct ⟨_, si h, rfl, rfl⟩ (tk [0] ⟨.p, .i, .b, ⟨⟩⟩ ⟨(nbp rfl), ⟨⟩⟩)
 rintro _ _ ⟨b32, rfl, rfl, rfl⟩
 replace h := hk35
 refine sV h (fun hb37 h => ?_) (fun hb37 h => ?_)
 exact .d ⟨rfl, ⟨rfl, _, rfl, ⟨by decide, (eI h)⟩⟩⟩
 refine .d (sE h (fun hb38 h => ?_) (fun hb38 h => ?_))
 exact .d ⟨rfl, ⟨rfl, _, rfl, ⟨by decide, (eI h)⟩⟩⟩
 refine .d (.d (sE h (fun hb39 h => ?_) (fun hb39 h => ?_)))
 exact .kt hb39 (.d ⟨rfl, ⟨rfl, _, rfl, (eI h)⟩⟩)
 refine sE h (fun hb40 h => ?_) (fun hb40 h => ?_)
 exact .d ⟨rfl, ⟨rfl, _, rfl, (eI h)⟩⟩
 refine .d (sE h (fun hb41 h => ?_) (fun hb41 h => ?_))
 exact .d ⟨rfl, ⟨rfl, _, rfl, (eI h)⟩⟩
 exact .d (eI h)
def m_i_InsChange (a0 : TIns) : Option (Int) :=
 (
 (if a0.fOp = 2 then
 some (a0.fOp == 2)
 else
 (if a0.fOp = 3 then
 some (a0.fOp == 3)
 else
 (if a0.fOp = 4 then
 some (a0.fOp == 4)
 else
 (if a0.fOp = 5 then
 some (a0.fOp == 5)
 else
 (if a0.fOp = 7 then
 some (a0.fOp == 7)
 else
 (if a0.fOp = 9 then
 some (a0.fOp == 9)
 else
 (if a0.fOp = 14 then
 some (a0.fOp == 14)
 else
 (if a0.fOp = 24 then
 some (a0.fOp == 24)
 else
 (if a0.fOp = 25 then
 some (a0.fOp == 25)
 else
 (if a0.fOp = 40 then
 some (a0.fOp == 40)
 else
 (if a0.fOp = 50 then
 some (a0.fOp == 50)
 else
 some (a0.fOp == 56))))))))))))
 : Option (Bool)) >>= fun b1 =>
 (if b1 = true then
 some 1
 else
 (
 (if a0.fOp = 10 then
 some (a0.fOp == 10)
 else
 (if a0.fOp = 12 then
 some (a0.fOp == 12)
 else
 (if a0.fOp = 16 then
 some (a0.fOp == 16)
 else
 (if a0.fOp = 28 then
 some (a0.fOp == 28)
 else
 (if a0.fOp = 29 then
 some (a0.fOp == 29)
 else
 (if a0.fOp = 30 then
 some (a0.fOp == 30)
 else
 (if a0.fOp = 33 then
 some (a0.fOp == 33)
 else
 (if a0.fOp = 34 then
 some (a0.fOp == 34)
 else
 (if a0.fOp = 37 then
 some (a0.fOp == 37)
 else
 (if a0.fOp = 41 then
 some (a0.fOp == 41)
 else
 (if a0.fOp = 42 then
 some (a0.fOp == 42)
 else
 some (a0.fOp == 43))))))))))))
 : Option (Bool)) >>= fun b17 =>
 (if b17 = true then
 some (-1)
 else
 (if a0.fOp = 15 then
 some (W64 ((-1) - a0.fB))
 else
 (
 (if a0.fOp = 18 then
 some (a0.fOp == 18)
 else
 some (a0.fOp == 19))
 : Option (Bool)) >>= fun b34 =>
 (if b34 = true then
 some (W64 (0 - (W64 (a0.fB.tdiv 2))))
 else
 (if a0.fOp = 20 then
 some (W64 ((W64 (0 - (W64 (a0.fB.tdiv 2)))) - 1))
 else
 (
 (if a0.fOp = 21 then
 some (a0.fOp == 21)
 else
 some (a0.fOp == 22))
 : Option (Bool)) >>= fun b41 =>
 (if b41 = true then
 some (W64 (0 - a0.fB))
 else
 (if a0.fOp = 23 then
 some (W64 ((W64 (0 - a0.fB)) - 1))
 else
 (if a0.fOp = 52 then
 some (W64 (1 + a0.fB))
 else
 (if a0.fOp = 53 then
 some (-2)
 else
 some 0)))))))))
theorem ok_i_InsChange {a0 : TIns} {r : Int} (h : m_i_InsChange a0 = some r) : ACall Tryz.prog 113 [.agg a0.lit] [] (fun res h => res = .int .i64 r ∧ h = []) := by
 refine vc1 Tryz.func113 ?_
 unfold m_i_InsChange at h
 refine .d (.d (.d ⟨rfl, ⟨rfl, _, rfl, ?_⟩⟩))
 obtain ⟨o2, ho3, hk4⟩ := bd h
 replace h := ho3
 refine .cut (fun σ η => ∃ b1, b1 = o2 ∧ σ = [(1, .optr 0 0 0 0), (4, .int .i64 a0.fOp), (5, .bool b1)] ∧ η = [.row 0 5 1 46 (fun _ => a0.lit)]) ?_ ?_
 refine .d (sE h (fun hb5 h => ?_) (fun hb5 h => ?_))
 exact ct ⟨_, si h, rfl, rfl⟩ (tk [0] ⟨.p, .i, .b, ⟨⟩⟩ ⟨(nbp rfl), ⟨⟩⟩)
 refine .d (sE h (fun hb6 h => ?_) (fun hb6 h => ?_))
 exact ct ⟨_, si h, rfl, rfl⟩ (tk [0] ⟨.p, .i, .b, ⟨⟩⟩ ⟨(nbp rfl), ⟨⟩⟩)
 refine .d (sE h (fun hb7 h => ?_) (fun hb7 h => ?_))
 exact ct ⟨_, si h, rfl, rfl⟩ (tk [0] ⟨.p, .i, .b, ⟨⟩⟩ ⟨(nbp rfl), ⟨⟩⟩)
 refine .d (sE h (fun hb8 h => ?_) (fun hb8 h => ?_))
 exact ct ⟨_, si h, rfl, rfl⟩ (tk [0] ⟨.p, .i, .b, ⟨⟩⟩ ⟨(nbp rfl), ⟨⟩⟩)
 refine .d (sE h (fun hb9 h => ?_) (fun hb9 h => ?_))
 exact ct ⟨_, si h, rfl, rfl⟩ (tk [0] ⟨.p, .i, .b, ⟨⟩⟩ ⟨(nbp rfl), ⟨⟩⟩)
 refine .d (sE h (fun hb10 h => ?_) (fun hb10 h => ?_))
 exact ct ⟨_, si h, rfl, rfl⟩ (tk [0] ⟨.p, .i, .b, ⟨⟩⟩ ⟨(nbp rfl), ⟨⟩⟩)
 refine .d (sE h (fun hb11 h => ?_) (fun hb11 h => ?_))
 exact ct ⟨_, si h, rfl, rfl⟩ (tk [0] ⟨.p, .i, .b, ⟨⟩⟩ ⟨(nbp rfl), ⟨⟩⟩)
 refine .d (sE h (fun hb12 h => ?_) (fun hb12 h => ?_))
 exact ct ⟨_, si h, rfl, rfl⟩ (tk [0] ⟨.p, .i, .b, ⟨⟩⟩ ⟨(nbp rfl), ⟨⟩⟩)
 refine .d (sE h (fun hb13 h => ?_) (fun hb13 h => ?_))
 exact ct ⟨_, si h, rfl, rfl⟩ (tk [0] ⟨.p, .i, .b, ⟨⟩⟩ ⟨(nbp rfl), ⟨⟩⟩)
 refine .d (sE h (fun hb14 h => ?_) (fun hb14 h => ?_))
 exact ct ⟨_, si h, rfl, rfl⟩ (tk [0] ⟨.p, .i, .b, ⟨⟩⟩ ⟨(nbp rfl), ⟨⟩⟩)
 refine .d (sE h (fun hb15 h => ?_) (fun hb15 h => ?_))
 exact ct ⟨_, si h, rfl, rfl⟩ (tk [0] ⟨.p, .i, .b, ⟨⟩⟩ ⟨(nbp rfl), ⟨⟩⟩)
 exact ct ⟨_, si h, rfl, rfl⟩ (tk [0] ⟨.p, .i, .b, ⟨⟩⟩ ⟨(nbp rfl), ⟨⟩⟩)
 rintro _ _ ⟨b1, rfl, rfl, rfl⟩
 replace h := hk4
 refine sV h (fun hb16 h => ?_) (fun hb16 h => ?_)
 exact .d (eI h)
 obtain ⟨o18, ho19, hk20⟩ := bd h
 replace h := ho19
 refine .cut (fun σ η => ∃ b17, b17 = o18 ∧ σ = [(1, .optr 0 0 0 0), (4, .int .i64 a0.fOp), (18, .bool b17)] ∧ η = [.row 0 5 1 46 (fun _ => a0.lit)]) ?_ ?_
 refine .d (sE h (fun hb21 h => ?_) (fun hb21 h => ?_))
 exact ct ⟨_, si h, rfl, rfl⟩ (tk [0] ⟨.p, .i, .b, ⟨⟩⟩ ⟨(nbp rfl), ⟨⟩⟩)
 refine .d (sE h (fun hb22 h => ?_) (fun hb22 h => ?_))
 exact ct ⟨_, si h, rfl, rfl⟩ (tk [0] ⟨.p, .i, .b, ⟨⟩⟩ ⟨(nbp rfl), ⟨⟩⟩)
 refine .d (sE h (fun hb23 h => ?_) (fun hb23 h => ?_))
 exact ct ⟨_, si h, rfl, rfl⟩ (tk [0] ⟨.p, .i, .b, ⟨⟩⟩ ⟨(nbp rfl), ⟨⟩⟩)
 refine .d (sE h (fun hb24 h => ?_) (fun hb24 h => ?_))
 exact ct ⟨_, si h, rfl, rfl⟩ (tk [0] ⟨.p, .i, .b, ⟨⟩⟩ ⟨(nbp rfl), ⟨⟩⟩)
 refine .d (sE h (fun hb25 h => ?_) (fun hb25 h => ?_))
 exact ct ⟨_, si h, rfl, rfl⟩ (tk [0] ⟨.p, .i, .b, ⟨⟩⟩ ⟨(nbp rfl), ⟨⟩⟩)
 refine .d (sE h (fun hb26 h => ?_) (fun hb26 h => ?_))
 exact ct ⟨_, si h, rfl, rfl⟩ (tk [0] ⟨.p, .i, .b, ⟨⟩⟩ ⟨(nbp rfl), ⟨⟩⟩)
 refine .d (sE h (fun hb27 h => ?_) (fun hb27 h => ?_))
 exact ct ⟨_, si h, rfl, rfl⟩ (tk [0] ⟨.p, .i, .b, ⟨⟩⟩ ⟨(nbp rfl), ⟨⟩⟩)
 refine .d (sE h (fun hb28 h => ?_) (fun hb28 h => ?_))
 exact ct ⟨_, si h, rfl, rfl⟩ (tk [0] ⟨.p, .i, .b, ⟨⟩⟩ ⟨(nbp rfl), ⟨⟩⟩)
 refine .d (sE h (fun hb29 h => ?_) (fun hb29 h => ?_))
 exact ct ⟨_, si h, rfl, rfl⟩ (tk [0] ⟨.p, .i, .b, ⟨⟩⟩ ⟨(nbp rfl), ⟨⟩⟩)
 refine .d (sE h (fun hb30 h => ?_) (fun hb30 h => ?_))
 exact ct ⟨_, si h, rfl, rfl⟩ (tk [0] ⟨.p, .i, .b, ⟨⟩⟩ ⟨(nbp rfl), ⟨⟩⟩)
 refine .d (sE h (fun hb31 h => ?_) (fun hb31 h => ?_))
 exact ct ⟨_, si h, rfl, rfl⟩ (tk [0] ⟨.p, .i, .b, ⟨⟩⟩ ⟨(nbp rfl), ⟨⟩⟩)
 exact ct ⟨_, si h, rfl, rfl⟩ (tk [0] ⟨.p, .i, .b, ⟨⟩⟩ ⟨(nbp rfl), ⟨⟩⟩)
 rintro _ _ ⟨b17, rfl, rfl, rfl⟩
 replace h := hk20
 refine sV h (fun hb32 h => ?_) (fun hb32 h => ?_)
 exact .d (eI h)
 refine .d (sE h (fun hb33 h => ?_) (fun hb33 h => ?_))
 exact .d ⟨rfl, ⟨rfl, _, rfl, (eI h)⟩⟩
 obtain ⟨o35, ho36, hk37⟩ := bd h
 replace h := ho36
 refine .cut (fun σ η => ∃ b34, b34 = o35 ∧ σ = [(1, .optr 0 0 0 0), (4, .int .i64 a0.fOp), (36, .bool b34)] ∧ η = [.row 0 5 1 46 (fun _ => a0.lit)]) ?_ ?_
 refine .d (sE h (fun hb38 h => ?_) (fun hb38 h => ?_))
 exact ct ⟨_, si h, rfl, rfl⟩ (tk [0] ⟨.p, .i, .b, ⟨⟩⟩ ⟨(nbp rfl), ⟨⟩⟩)
 exact ct ⟨_, si h, rfl, rfl⟩ (tk [0] ⟨.p, .i, .b, ⟨⟩⟩ ⟨(nbp rfl), ⟨⟩⟩)
 rintro _ _ ⟨b34, rfl, rfl, rfl⟩
 replace h := hk37
 refine sV h (fun hb39 h => ?_) (fun hb39 h => ?_)
 exact .d ⟨rfl, ⟨rfl, _, rfl, ⟨by decide, (eI h)⟩⟩⟩
 refine .d (sE h (fun hb40 h => ?_) (fun hb40 h => ?_))
 exact .d ⟨rfl, ⟨rfl, _, rfl, ⟨by decide, (eI h)⟩⟩⟩
 obtain ⟨o42, ho43, hk44⟩ := bd h
 replace h := ho43
 refine .cut (fun σ η => ∃ b41, b41 = o42 ∧ σ = [(1, .optr 0 0 0 0), (4, .int .i64 a0.fOp), (50, .bool b41)] ∧ η = [.row 0 5 1 46 (fun _ => a0.lit)]) ?_ ?_
 refine .d (sE h (fun hb45 h => ?_) (fun hb45 h => ?_))
 exact ct ⟨_, si h, rfl, rfl⟩ (tk [0] ⟨.p, .i, .b, ⟨⟩⟩ ⟨(nbp rfl), ⟨⟩⟩)
 exact ct ⟨_, si h, rfl, rfl⟩ (tk [0] ⟨.p, .i, .b, ⟨⟩⟩ ⟨(nbp rfl), ⟨⟩⟩)
 rintro _ _ ⟨b41, rfl, rfl, rfl⟩
 replace h := hk44
 refine sV h (fun hb46 h => ?_) (fun hb46 h => ?_)
 exact .d ⟨rfl, ⟨rfl, _, rfl, (eI h)⟩⟩
 refine .d (sE h (fun hb47 h => ?_) (fun hb47 h => ?_))
 exact .d ⟨rfl, ⟨rfl, _, rfl, (eI h)⟩⟩
 refine .d (sE h (fun hb48 h => ?_) (fun hb48 h => ?_))
 exact .d ⟨rfl, ⟨rfl, _, rfl, (eI h)⟩⟩
 refine .d (sE h (fun hb49 h => ?_) (fun hb49 h => ?_))
 exact .d (eI h)
 exact .d (eI h)
def m_i_TargetChange (a0 : Int) : Option (Int) :=
 (if a0 = 28 then
 some (-1)
 else
 (if a0 = 44 then
 some 1
 else
 some 0))
theorem ok_i_TargetChange {a0 : Int} {r : Int} (h : m_i_TargetChange a0 = some r) : ACall Tryz.prog 114 [.int .i64 a0] [] (fun res h => res = .int .i64 r ∧ h = []) := by
 refine vc1 Tryz.func114 ?_
 unfold m_i_TargetChange at h
 refine .d (.d (.d (.d (sE h (fun hb1 h => ?_) (fun hb1 h => ?_)))))
 exact .d (eI h)
 refine .d (sE h (fun hb2 h => ?_) (fun hb2 h => ?_))
 exact .d (eI h)
 exact .d (eI h)
def m_i_slotOp (a0 : Int) : Option (Bool) :=
 (if a0 = 5 then
 some true
 else
 (if a0 = 6 then
 some true
 else
 (if a0 = 18 then
 some true
 else
 (if a0 = 21 then
 some true
 else
 (if a0 = 24 then
 some true
 else
 (if a0 = 26 then
 some true
 else
 (if a0 = 38 then
 some true
 else
 some false)))))))
theorem ok_i_slotOp {a0 : Int} {r : Bool} (h : m_i_slotOp a0 = some r) : ACall Tryz.prog 173 [.int .i64 a0] [] (fun res h => res = .bool r ∧ h = []) := by
 refine vc1 Tryz.func173 ?_
 unfold m_i_slotOp at h
 refine .d (.d (.d (.d (.d (sE h (fun hb1 h => ?_) (fun hb1 h => ?_))))))
 exact .kt hb1 (.d (eB h))
 refine .d (sE h (fun hb2 h => ?_) (fun hb2 h => ?_))
 exact .kt hb2 (.d (eB h))
 refine .d (sE h (fun hb3 h => ?_) (fun hb3 h => ?_))
 exact .kt hb3 (.d (eB h))
 refine .d (sE h (fun hb4 h => ?_) (fun hb4 h => ?_))
 exact .kt hb4 (.d (eB h))
 refine .d (sE h (fun hb5 h => ?_) (fun hb5 h => ?_))
 exact .kt hb5 (.d (eB h))
 refine .d (sE h (fun hb6 h => ?_) (fun hb6 h => ?_))
 exact .kt hb6 (.d (eB h))
 refine sE h (fun hb7 h => ?_) (fun hb7 h => ?_)
 exact .d (eB h)
 exact .d (eB h)
def m_i_knownOp (a0 : Int) : Option (Bool) :=
 m_i_InRange a0 1 56 >>= fun v1 =>
 some v1
theorem ok_i_knownOp {a0 : Int} {r : Bool} (h : m_i_knownOp a0 = some r) : ACall Tryz.prog 145 [.int .i64 a0] [] (fun res h => res = .bool r ∧ h = []) := by
 refine vc1 Tryz.func145 ?_
 unfold m_i_knownOp at h
 exact .d (.d (bk h fun v1 hv2 h => (pcP (ok_i_InRange hv2) (eB h))))
def m_i_operandA (a0 : TIns) (a1 : Int) (a2 : Int) : Option (Bool) :=
 (if a0.fOp = 2 then
 m_i_InRange a0.fA 0 1000000000 >>= fun v2 =>
 some v2
 else
 (
 (if a0.fOp = 4 then
 some true
 else
 some (a0.fOp == 11))
 : Option (Bool)) >>= fun b4 =>
 (if b4 = true then
 m_i_InRange a0.fA 0 2 >>= fun v10 =>
 some v10
 else
 (if a0.fOp = 12 then
 m_i_InRange a0.fA 1 15 >>= fun v13 =>
 some v13
 else
 m_i_slotOp a0.fOp >>= fun v15 =>
 (if v15 = true then
 (if a0.fA ≥ 0 then
 some (decide (a0.fA < a1))
 else
 some false)
 else
 m_i_HasTarget a0.fOp >>= fun v19 =>
 (if v19 = true then
 (if a0.fA ≥ 0 then
 some (decide (a0.fA < a2))
 else
 some false)
 else
 some (a0.fA == 0))))))
theorem ok_i_operandA {a0 : TIns} {a1 : Int} {a2 : Int} {r : Bool} (h : m_i_operandA a0 a1 a2 = some r) : ACall Tryz.prog 146 [.agg a0.lit, .int .i64 a1, .int .i64 a2] [] (fun res h => res = .bool r ∧ h = []) := by
 refine vc1 Tryz.func146 ?_
 unfold m_i_operandA at h
 refine .d (.d (.d ⟨rfl, ⟨rfl, _, rfl, (sE h (fun hb1 h => ?_) (fun hb1 h => ?_))⟩⟩))
 exact .d ⟨rfl, ⟨rfl, _, rfl, (bk h fun v2 hv3 h => (pcP (ok_i_InRange hv3) (eB h)))⟩⟩
 obtain ⟨o5, ho6, hk7⟩ := bd h
 replace h := ho6
 refine .cut (fun σ η => ∃ b4, b4 = o5 ∧ σ = [(1, .int .i64 a1), (2, .int .i64 a2), (3, .optr 0 0 0 0), (14, .bool b4)] ∧ η = [.row 0 5 1 46 (fun _ => a0.lit)]) ?_ ?_
 refine ⟨rfl, ⟨rfl, _, rfl, (sE h (fun hb8 h => ?_) (fun hb8 h => ?_))⟩⟩
 exact .t (.t (.t (ct ⟨_, si h, rfl, rfl⟩ (tk [0] ⟨.i, .i, .p, .b, ⟨⟩⟩ ⟨(nbp rfl), ⟨⟩⟩))))
 exact ⟨rfl, (.f ⟨rfl, _, rfl, (.f (.f (ct ⟨_, si h, rfl, rfl⟩ (tk [0] ⟨.i, .i, .p, .b, ⟨⟩⟩ ⟨(nbp rfl), ⟨⟩⟩))))⟩)⟩
 rintro _ _ ⟨b4, rfl, rfl, rfl⟩
 replace h := hk7
 refine sV h (fun hb9 h => ?_) (fun hb9 h => ?_)
 exact .d ⟨rfl, ⟨rfl, _, rfl, (bk h fun v10 hv11 h => (pcP (ok_i_InRange hv11) (eB h)))⟩⟩
 refine .d ⟨rfl, ⟨rfl, _, rfl, (sE h (fun hb12 h => ?_) (fun hb12 h => ?_))⟩⟩
 exact .d ⟨rfl, ⟨rfl, _, rfl, (bk h fun v13 hv14 h => (pcP (ok_i_InRange hv14) (eB h)))⟩⟩
 refine .d ⟨rfl, ⟨rfl, _, rfl, (bk h fun v15 hv16 h => (pcP (ok_i_slotOp hv16) (sV h (fun hb17 h => ?_) (fun hb17 h => ?_))))⟩⟩
 refine .d ⟨rfl, ⟨rfl, _, rfl, (sD h (fun hb18 h => ?_) (fun hb18 h => ?_))⟩⟩
 exact ⟨rfl, (.t ⟨rfl, _, rfl, (.t (.t (.t (eB h))))⟩)⟩
 exact .f (.f (.f (.f (eB h))))
 refine .d ⟨rfl, ⟨rfl, _, rfl, (bk h fun v19 hv20 h => (pcP (ok_i_HasTarget hv20) (sV h (fun hb21 h => ?_) (fun hb21 h => ?_))))⟩⟩
 refine .d ⟨rfl, ⟨rfl, _, rfl, (sD h (fun hb22 h => ?_) (fun hb22 h => ?_))⟩⟩
 exact ⟨rfl, (.t ⟨rfl, _, rfl, (.t (.t (.t (eB h))))⟩)⟩
 exact .f (.f (.f (.f (eB h))))
 exact .d ⟨rfl, ⟨rfl, _, rfl, (eB h)⟩⟩
def m_i_operandB (a0 : TIns) (a1 : Int) : Option (Bool) :=
 (
 (if a0.fOp = 15 then
 some (a0.fOp == 15)
 else
 some (a0.fOp == 52))
 : Option (Bool)) >>= fun b1 =>
 (if b1 = true then
 m_i_InRange a0.fB 0 1 >>= fun v7 =>
 some v7
 else
 (
 (if a0.fOp = 18 then
 some (a0.fOp == 18)
 else
 (if a0.fOp = 19 then
 some (a0.fOp == 19)
 else
 some (a0.fOp == 20)))
 : Option (Bool)) >>= fun b9 =>
 (if b9 = true then
 m_i_InRange a0.fB 0 81 >>= fun v16 =>
 some v16
 else
 (
 (if a0.fOp = 21 then
 some (a0.fOp == 21)
 else
 (if a0.fOp = 22 then
 some (a0.fOp == 22)
 else
 some (a0.fOp == 23)))
 : Option (Bool)) >>= fun b18 =>
 (if b18 = true then
 m_i_InRange a0.fB 0 40 >>= fun v25 =>
 some v25
 else
 (if a0.fOp = 24 then
 (if a0.fB ≥ 0 then
 some (decide (a0.fB < a1))
 else
 some false)
 else
 (if a0.fOp = 49 then
 m_i_InRange a0.fB 0 100 >>= fun v30 =>
 some v30
 else
 some (a0.fB == 0))))))
theorem ok_i_operandB {a0 : TIns} {a1 : Int} {r : Bool} (h : m_i_operandB a0 a1 = some r) : ACall Tryz.prog 147 [.agg a0.lit, .int .i64 a1] [] (fun res h => res = .bool r ∧ h = []) := by
 refine vc1 Tryz.func147 ?_
 unfold m_i_operandB at h
 refine .d (.d (.d ⟨rfl, ⟨rfl, _, rfl, ?_⟩⟩))
 obtain ⟨o2, ho3, hk4⟩ := bd h
 replace h := ho3
 refine .cut (fun σ η => ∃ b1, b1 = o2 ∧ σ = [(1, .int .i64 a1), (2, .optr 0 0 0 0), (6, .int .i64 a0.fOp), (7, .bool b1)] ∧ η = [.row 0 5 1 46 (fun _ => a0.lit)]) ?_ ?_
 refine .d (sE h (fun hb5 h => ?_) (fun hb5 h => ?_))
 exact ct ⟨_, si h, rfl, rfl⟩ (tk [0] ⟨.i, .p, .i, .b, ⟨⟩⟩ ⟨(nbp rfl), ⟨⟩⟩)
 exact ct ⟨_, si h, rfl, rfl⟩ (tk [0] ⟨.i, .p, .i, .b, ⟨⟩⟩ ⟨(nbp rfl), ⟨⟩⟩)
 rintro _ _ ⟨b1, rfl, rfl, rfl⟩
 replace h := hk4
 refine sV h (fun hb6 h => ?_) (fun hb6 h => ?_)
 exact .d ⟨rfl, ⟨rfl, _, rfl, (bk h fun v7 hv8 h => (pcP (ok_i_InRange hv8) (eB h)))⟩⟩
 obtain ⟨o10, ho11, hk12⟩ := bd h
 replace h := ho11
 refine .cut (fun σ η => ∃ b9, b9 = o10 ∧ σ = [(1, .int .i64 a1), (2, .optr 0 0 0 0), (6, .int .i64 a0.fOp), (13, .bool b9)] ∧ η = [.row 0 5 1 46 (fun _ => a0.lit)]) ?_ ?_
 refine .d (sE h (fun hb13 h => ?_) (fun hb13 h => ?_))
 exact ct ⟨_, si h, rfl, rfl⟩ (tk [0] ⟨.i, .p, .i, .b, ⟨⟩⟩ ⟨(nbp rfl), ⟨⟩⟩)
 refine .d (sE h (fun hb14 h => ?_) (fun hb14 h => ?_))
 exact ct ⟨_, si h, rfl, rfl⟩ (tk [0] ⟨.i, .p, .i, .b, ⟨⟩⟩ ⟨(nbp rfl), ⟨⟩⟩)
 exact ct ⟨_, si h, rfl, rfl⟩ (tk [0] ⟨.i, .p, .i, .b, ⟨⟩⟩ ⟨(nbp rfl), ⟨⟩⟩)
 rintro _ _ ⟨b9, rfl, rfl, rfl⟩
 replace h := hk12
 refine sV h (fun hb15 h => ?_) (fun hb15 h => ?_)
 exact .d ⟨rfl, ⟨rfl, _, rfl, (bk h fun v16 hv17 h => (pcP (ok_i_InRange hv17) (eB h)))⟩⟩
 obtain ⟨o19, ho20, hk21⟩ := bd h
 replace h := ho20
 refine .cut (fun σ η => ∃ b18, b18 = o19 ∧ σ = [(1, .int .i64 a1), (2, .optr 0 0 0 0), (6, .int .i64 a0.fOp), (20, .bool b18)] ∧ η = [.row 0 5 1 46 (fun _ => a0.lit)]) ?_ ?_
 refine .d (sE h (fun hb22 h => ?_) (fun hb22 h => ?_))
 exact ct ⟨_, si h, rfl, rfl⟩ (tk [0] ⟨.i, .p, .i, .b, ⟨⟩⟩ ⟨(nbp rfl), ⟨⟩⟩)
 refine .d (sE h (fun hb23 h => ?_) (fun hb23 h => ?_))
 exact ct ⟨_, si h, rfl, rfl⟩ (tk [0] ⟨.i, .p, .i, .b, ⟨⟩⟩ ⟨(nbp rfl), ⟨⟩⟩)
 exact ct ⟨_, si h, rfl, rfl⟩ (tk [0] ⟨.i, .p, .i, .b, ⟨⟩⟩ ⟨(nbp rfl), ⟨⟩⟩)
 rintro _ _ ⟨b18, rfl, rfl, rfl⟩
 replace h := hk21
 refine sV h (fun hb24 h => ?_) (fun hb24 h => ?_)
 exact .d ⟨rfl, ⟨rfl, _, rfl, (bk h fun v25 hv26 h => (pcP (ok_i_InRange hv26) (eB h)))⟩⟩
 refine .d (sE h (fun hb27 h => ?_) (fun hb27 h => ?_))
 refine .d ⟨rfl, ⟨rfl, _, rfl, (sD h (fun hb28 h => ?_) (fun hb28 h => ?_))⟩⟩
 exact ⟨rfl, (.t ⟨rfl, _, rfl, (.t (.t (.t (eB h))))⟩)⟩
 exact .f (.f (.f (.f (eB h))))
 refine .d (sE h (fun hb29 h => ?_) (fun hb29 h => ?_))
 exact .d ⟨rfl, ⟨rfl, _, rfl, (bk h fun v30 hv31 h => (pcP (ok_i_InRange hv31) (eB h)))⟩⟩
 exact .d ⟨rfl, ⟨rfl, _, rfl, (eB h)⟩⟩
def m_i_IsIns (a0 : TIns) (a1 : Int) (a2 : Int) : Option (Bool) :=
 m_i_knownOp a0.fOp >>= fun v1 =>
 (if v1 = true then
 m_i_operandA a0 a1 a2 >>= fun v4 =>
 (if v4 = true then
 m_i_operandB a0 a1 >>= fun v7 =>
 (if v7 = true then
 ((
 (
 (if a0.fOp = 31 then
 some (a0.fOp == 31)
 else
 (if a0.fOp = 55 then
 some (a0.fOp == 55)
 else
 (if a0.fOp = 56 then
 some (a0.fOp == 56)
 else
 (if a0.fOp = 35 then
 some (a0.fOp == 35)
 else
 some (a0.fOp == 36)))))
 : Option (Bool)) >>= fun b13 =>
 (if b13 = true then
 some (.inl ())
 else
 (if a0.fOp = 3 then
 (if (a0.fS.length : Int) > 400 then
 some (.inr false)
 else
 some (.inl ()))
 else
 (
 (if a0.fOp = 7 then
 some (a0.fOp == 7)
 else
 (if a0.fOp = 8 then
 some (a0.fOp == 8)
 else
 (if a0.fOp = 17 then
 some (a0.fOp == 17)
 else
 (if a0.fOp = 19 then
 some (a0.fOp == 19)
 else
 (if a0.fOp = 20 then
 some (a0.fOp == 20)
 else
 (if a0.fOp = 22 then
 some (a0.fOp == 22)
 else
 (if a0.fOp = 23 then
 some (a0.fOp == 23)
 else
 (if a0.fOp = 25 then
 some (a0.fOp == 25)
 else
 (if a0.fOp = 26 then
 some (a0.fOp == 26)
 else
 (if a0.fOp = 32 then
 some (a0.fOp == 32)
 else
 (if a0.fOp = 34 then
 some (a0.fOp == 34)
 else
 (if a0.fOp = 39 then
 some (a0.fOp == 39)
 else
 some (a0.fOp == 44)))))))))))))
 : Option (Bool)) >>= fun b24 =>
 (if b24 = true then
 m_i_goodName a0.fS >>= fun v41 =>
 (if v41 = true then
 some (.inl ())
 else
 some (.inr false))
 else
 (if a0.fS = ([] : Str) then
 some (.inl ())
 else
 some (.inr false)))))
 : Option ((Unit) ⊕ Bool)) >>= fun o10 => match o10 with
 | .inr r => some r
 | .inl _ =>
 (if a0.fOp = 25 then
 m_i_goodName a0.fT >>= fun v46 =>
 some v46
 else
 some (a0.fT == ([] : Str)))
 )
 else
 some false)
 else
 some false)
 else
 some false)
theorem ok_i_IsIns {a0 : TIns} {a1 : Int} {a2 : Int} {r : Bool} (h : m_i_IsIns a0 a1 a2 = some r) : ACall Tryz.prog 109 [.agg a0.lit, .int .i64 a1, .int .i64 a2] [] (fun res h => res = .bool r ∧ h = []) := by
 refine vc1 Tryz.func109 ?_
 unfold m_i_IsIns at h
 refine .d (.d (.d ⟨rfl, ⟨rfl, _, rfl, (bk h fun v1 hv2 h => (pcP (ok_i_knownOp hv2) (sVn h (fun hb3 h => ?_) (fun hb3 h => ?_))))⟩⟩))
 exact .t (.t (.t (.t (.t (.t (.t (.t (.t (.t (.t (.d (eB h))))))))))))
 refine ⟨rfl, _, rfl, (.f (.f (.f (bk h fun v4 hv5 h => (pcP (ok_i_operandA hv5) (.f (.f (sVn h (fun hb6 h => ?_) (fun hb6 h => ?_)))))))))⟩
 exact .t (.t (.t (.t (.t (.d (eB h))))))
 refine ⟨rfl, _, rfl, (.f (.f (bk h fun v7 hv8 h => (pcP (ok_i_operandB hv8) (.f (.f (sVn h (fun hb9 h => ?_) (fun hb9 h => ?_))))))))⟩
 exact .d (eB h)
 obtain ⟨o10, ho11, hk12⟩ := bd h
 replace h := ho11
 refine .cut (fun σ η => .inl () = o10 ∧ σ = [(3, .optr 0 0 0 0)] ∧ η = [.row 0 5 1 46 (fun _ => a0.lit)]) ?_ ?_
 refine .d ⟨rfl, ⟨rfl, _, rfl, ?_⟩⟩
 obtain ⟨o14, ho15, hk16⟩ := bd h
 replace h := ho15
 refine .cut (fun σ η => ∃ b13, b13 = o14 ∧ σ = [(3, .optr 0 0 0 0), (25, .int .i64 a0.fOp), (29, .bool b13)] ∧ η = [.row 0 5 1 46 (fun _ => a0.lit)]) ?_ ?_
 refine .d (sE h (fun hb17 h => ?_) (fun hb17 h => ?_))
 exact ct ⟨_, si h, rfl, rfl⟩ (tk [0] ⟨.p, .i, .b, ⟨⟩⟩ ⟨(nbp rfl), ⟨⟩⟩)
 refine .d (sE h (fun hb18 h => ?_) (fun hb18 h => ?_))
 exact ct ⟨_, si h, rfl, rfl⟩ (tk [0] ⟨.p, .i, .b, ⟨⟩⟩ ⟨(nbp rfl), ⟨⟩⟩)
 refine .d (sE h (fun hb19 h => ?_) (fun hb19 h => ?_))
 exact ct ⟨_, si h, rfl, rfl⟩ (tk [0] ⟨.p, .i, .b, ⟨⟩⟩ ⟨(nbp rfl), ⟨⟩⟩)
 refine .d (sE h (fun hb20 h => ?_) (fun hb20 h => ?_))
 exact ct ⟨_, si h, rfl, rfl⟩ (tk [0] ⟨.p, .i, .b, ⟨⟩⟩ ⟨(nbp rfl), ⟨⟩⟩)
 exact ct ⟨_, si h, rfl, rfl⟩ (tk [0] ⟨.p, .i, .b, ⟨⟩⟩ ⟨(nbp rfl), ⟨⟩⟩)
 rintro _ _ ⟨b13, rfl, rfl, rfl⟩
 replace h := hk16
 refine sV h (fun hb21 h => ?_) (fun hb21 h => ?_)
 exact ct ⟨si h, rfl, rfl⟩ (tk [0] ⟨.p, ⟨⟩⟩ ⟨(nbp rfl), ⟨⟩⟩)
 refine .d (sE h (fun hb22 h => ?_) (fun hb22 h => ?_))
 refine .d ⟨rfl, ⟨rfl, _, rfl, (sD h (fun hb23 h => ?_) (fun hb23 h => ?_))⟩⟩
 refine .d ?_
 obtain rfl := si h
 replace h := hk12
 exact eB h
 exact ct ⟨si h, rfl, rfl⟩ (tk [0] ⟨.p, ⟨⟩⟩ ⟨(nbp rfl), ⟨⟩⟩)
 obtain ⟨o25, ho26, hk27⟩ := bd h
 replace h := ho26
 refine .cut (fun σ η => ∃ b24, b24 = o25 ∧ σ = [(3, .optr 0 0 0 0), (41, .bool b24)] ∧ η = [.row 0 5 1 46 (fun _ => a0.lit)]) ?_ ?_
 refine .d (sE h (fun hb28 h => ?_) (fun hb28 h => ?_))
 exact ct ⟨_, si h, rfl, rfl⟩ (tk [0] ⟨.p, .b, ⟨⟩⟩ ⟨(nbp rfl), ⟨⟩⟩)
 refine .d (sE h (fun hb29 h => ?_) (fun hb29 h => ?_))
 exact ct ⟨_, si h, rfl, rfl⟩ (tk [0] ⟨.p, .b, ⟨⟩⟩ ⟨(nbp rfl), ⟨⟩⟩)
 refine .d (sE h (fun hb30 h => ?_) (fun hb30 h => ?_))
 exact ct ⟨_, si h, rfl, rfl⟩ (tk [0] ⟨.p, .b, ⟨⟩⟩ ⟨(nbp rfl), ⟨⟩⟩)
 refine .d (sE h (fun hb31 h => ?_) (fun hb31 h => ?_))
 exact ct ⟨_, si h, rfl, rfl⟩ (tk [0] ⟨.p, .b, ⟨⟩⟩ ⟨(nbp rfl), ⟨⟩⟩)
 refine .d (sE h (fun hb32 h => ?_) (fun hb32 h => ?_))
 exact ct ⟨_, si h, rfl, rfl⟩ (tk [0] ⟨.p, .b, ⟨⟩⟩ ⟨(nbp rfl), ⟨⟩⟩)
 refine .d (sE h (fun hb33 h => ?_) (fun hb33 h => ?_))
 exact ct ⟨_, si h, rfl, rfl⟩ (tk [0] ⟨.p, .b, ⟨⟩⟩ ⟨(nbp rfl), ⟨⟩⟩)
 refine .d (sE h (fun hb34 h => ?_) (fun hb34 h => ?_))
 exact ct ⟨_, si h, rfl, rfl⟩ (tk [0] ⟨.p, .b, ⟨⟩⟩ ⟨(nbp rfl), ⟨⟩⟩)
 refine .d (sE h (fun hb35 h => ?_) (fun hb35 h => ?_))
 exact ct ⟨_, si h, rfl, rfl⟩ (tk [0] ⟨.p, .b, ⟨⟩⟩ ⟨(nbp rfl), ⟨⟩⟩)
 refine .d (sE h (fun hb36 h => ?_) (fun hb36 h => ?_))
 exact ct ⟨_, si h, rfl, rfl⟩ (tk [0] ⟨.p, .b, ⟨⟩⟩ ⟨(nbp rfl), ⟨⟩⟩)
 refine .d (sE h (fun hb37 h => ?_) (fun hb37 h => ?_))
 exact ct ⟨_, si h, rfl, rfl⟩ (tk [0] ⟨.p, .b, ⟨⟩⟩ ⟨(nbp rfl), ⟨⟩⟩)
 refine .d (sE h (fun hb38 h => ?_) (fun hb38 h => ?_))
 exact ct ⟨_, si h, rfl, rfl⟩ (tk [0] ⟨.p, .b, ⟨⟩⟩ ⟨(nbp rfl), ⟨⟩⟩)
 refine .d (sE h (fun hb39 h => ?_) (fun hb39 h => ?_))
 exact ct ⟨_, si h, rfl, rfl⟩ (tk [0] ⟨.p, .b, ⟨⟩⟩ ⟨(nbp rfl), ⟨⟩⟩)
 exact ct ⟨_, si h, rfl, rfl⟩ (tk [0] ⟨.p, .b, ⟨⟩⟩ ⟨(nbp rfl), ⟨⟩⟩)
 rintro _ _ ⟨b24, rfl, rfl, rfl⟩
 replace h := hk27
 refine sV h (fun hb40 h => ?_) (fun hb40 h => ?_)
 refine .d ⟨rfl, ⟨rfl, _, rfl, (bk h fun v41 hv42 h => (pcP (ok_i_goodName hv42) (sVn h (fun hb43 h => ?_) (fun hb43 h => ?_))))⟩⟩
 refine .d ?_
 obtain rfl := si h
 replace h := hk12
 exact eB h
 exact ct ⟨si h, rfl, rfl⟩ (tk [0] ⟨.p, ⟨⟩⟩ ⟨(nbp rfl), ⟨⟩⟩)
 refine .d ⟨rfl, ⟨rfl, _, rfl, (sEn h (fun hb44 h => ?_) (fun hb44 h => ?_))⟩⟩
 refine .d ?_
 obtain rfl := si h
 replace h := hk12
 exact eB h
 exact ct ⟨si h, rfl, rfl⟩ (tk [0] ⟨.p, ⟨⟩⟩ ⟨(nbp rfl), ⟨⟩⟩)
 rintro _ _ ⟨rfl, rfl, rfl⟩
 replace h := hk12
 refine .d (.d ⟨rfl, ⟨rfl, _, rfl, (sE h (fun hb45 h => ?_) (fun hb45 h => ?_))⟩⟩)
 exact .d ⟨rfl, ⟨rfl, _, rfl, (bk h fun v46 hv47 h => (pcP (ok_i_goodName hv47) (eB h)))⟩⟩
 exact .d ⟨rfl, ⟨rfl, _, rfl, (eB h)⟩⟩
def m_s_HasTarget (a0 : Int) : Option (Bool) :=
 (if a0 = 27 then
 some true
 else
 (if a0 = 28 then
 some true
 else
 (if a0 = 29 then
 some true
 else
 (if a0 = 44 then
 some true
 else
 (if a0 = 45 then
 some true
 else
 (if a0 = 49 then
 some true
 else
 (if a0 = 52 then
 some true
 else
 some false)))))))
theorem ok_s_HasTarget {a0 : Int} {r : Bool} (h : m_s_HasTarget a0 = some r) : ACall Tryz.prog 55 [.int .i64 a0] [] (fun res h => res = .bool r ∧ h = []) := by
 refine vc1 Tryz.func55 ?_
 unfold m_s_HasTarget at h
 refine .d (.d (.d (.d (.d (sE h (fun hb1 h => ?_) (fun hb1 h => ?_))))))
 exact .kt hb1 (.d (eB h))
 refine .d (sE h (fun hb2 h => ?_) (fun hb2 h => ?_))
 exact .kt hb2 (.d (eB h))
 refine .d (sE h (fun hb3 h => ?_) (fun hb3 h => ?_))
 exact .kt hb3 (.d (eB h))
 refine .d (sE h (fun hb4 h => ?_) (fun hb4 h => ?_))
 exact .kt hb4 (.d (eB h))
 refine .d (sE h (fun hb5 h => ?_) (fun hb5 h => ?_))
 exact .kt hb5 (.d (eB h))
 refine .d (sE h (fun hb6 h => ?_) (fun hb6 h => ?_))
 exact .kt hb6 (.d (eB h))
 refine sE h (fun hb7 h => ?_) (fun hb7 h => ?_)
 exact .d (eB h)
 exact .d (eB h)
def m_s_IsFinal (a0 : Int) : Option (Bool) :=
 (if a0 = 27 then
 some true
 else
 (if a0 = 42 then
 some true
 else
 (if a0 = 43 then
 some true
 else
 some (a0 == 49))))
theorem ok_s_IsFinal {a0 : Int} {r : Bool} (h : m_s_IsFinal a0 = some r) : ACall Tryz.prog 91 [.int .i64 a0] [] (fun res h => res = .bool r ∧ h = []) := by
 refine vc1 Tryz.func91 ?_
 unfold m_s_IsFinal at h
 refine .d (.d (sE h (fun hb1 h => ?_) (fun hb1 h => ?_)))
 exact .t (.t (.t (.t (.t (.t (.t (.t (eB h))))))))
 refine .f (.f (sE h (fun hb2 h => ?_) (fun hb2 h => ?_)))
 exact .t (.t (.t (.t (.t (eB h)))))
 refine .f (.f (sE h (fun hb3 h => ?_) (fun hb3 h => ?_)))
 exact .t (.t (eB h))
 exact .f (.f (eB h))
def m_s_InsNeed (a0 : TIns) : Option (Int) :=
 (
 (if a0.fOp = 6 then
 some (a0.fOp == 6)
 else
 (if a0.fOp = 8 then
 some (a0.fOp == 8)
 else
 (if a0.fOp = 10 then
 some (a0.fOp == 10)
 else
 (if a0.fOp = 11 then
 some (a0.fOp == 11)
 else
 (if a0.fOp = 13 then
 some (a0.fOp == 13)
 else
 (if a0.fOp = 17 then
 some (a0.fOp == 17)
 else
 (if a0.fOp = 28 then
 some (a0.fOp == 28)
 else
 (if a0.fOp = 29 then
 some (a0.fOp == 29)
 else
 (if a0.fOp = 30 then
 some (a0.fOp == 30)
 else
 (if a0.fOp = 33 then
 some (a0.fOp == 33)
 else
 (if a0.fOp = 34 then
 some (a0.fOp == 34)
 else
 (if a0.fOp = 37 then
 some (a0.fOp == 37)
 else
 (if a0.fOp = 42 then
 some (a0.fOp == 42)
 else
 (if a0.fOp = 43 then
 some (a0.fOp == 43)
 else
 (if a0.fOp = 50 then
 some (a0.fOp == 50)
 else
 some (a0.fOp == 54))))))))))))))))
 : Option (Bool)) >>= fun b1 =>
 (if b1 = true then
 some 1
 else
 (
 (if a0.fOp = 12 then
 some (a0.fOp == 12)
 else
 (if a0.fOp = 16 then
 some (a0.fOp == 16)
 else
 (if a0.fOp = 41 then
 some (a0.fOp == 41)
 else
 (if a0.fOp = 51 then
 some (a0.fOp == 51)
 else
 (if a0.fOp = 52 then
 some (a0.fOp == 52)
 else
 some (a0.fOp == 53))))))
 : Option (Bool)) >>= fun b21 =>
 (if b21 = true then
 some 2
 else
 (if a0.fOp = 15 then
 some (W64 (2 + a0.fB))
 else
 (
 (if a0.fOp = 18 then
 some (a0.fOp == 18)
 else
 some (a0.fOp == 19))
 : Option (Bool)) >>= fun b32 =>
 (if b32 = true then
 some (W64 ((W64 (a0.fB.tdiv 2)) + 1))
 else
 (if a0.fOp = 20 then
 some (W64 ((W64 (a0.fB.tdiv 2)) + 2))
 else
 (if a0.fOp = 21 then
 some a0.fB
 else
 (if a0.fOp = 22 then
 some a0.fB
 else
 (if a0.fOp = 23 then
 some (W64 (a0.fB + 1))
 else
 some 0))))))))
theorem ok_s_InsNeed {a0 : TIns} {r : Int} (h : m_s_InsNeed a0 = some r) : ACall Tryz.prog 90 [.agg a0.lit] [] (fun res h => res = .int .i64 r ∧ h = []) := by
 refine vc1 Tryz.func90 ?_
 unfold m_s_InsNeed at h
 refine .d (.d (.d ⟨rfl, ⟨rfl, _, rfl, ?_⟩⟩))
 obtain ⟨o2, ho3, hk4⟩ := bd h
 replace h := ho3
 refine .cut (fun σ η => ∃ b1, b1 = o2 ∧ σ = [(1, .optr 0 0 0 0), (4, .int .i64 a0.fOp), (5, .bool b1)] ∧ η = [.row 0 5 1 46 (fun _ => a0.lit)]) ?_ ?_
 refine .d (sE h (fun hb5 h => ?_) (fun hb5 h => ?_))
 exact ct ⟨_, si h, rfl, rfl⟩ (tk [0] ⟨.p, .i, .b, ⟨⟩⟩ ⟨(nbp rfl), ⟨⟩⟩)
 refine .d (sE h (fun hb6 h => ?_) (fun hb6 h => ?_))
 exact ct ⟨_, si h, rfl, rfl⟩ (tk [0] ⟨.p, .i, .b, ⟨⟩⟩ ⟨(nbp rfl), ⟨⟩⟩)
 refine .d (sE h (fun hb7 h => ?_) (fun hb7 h => ?_))
 exact ct ⟨_, si h, rfl, rfl⟩ (tk [0] ⟨.p, .i, .b, ⟨⟩⟩ ⟨(nbp rfl), ⟨⟩⟩)
 refine .d (sE h (fun hb8 h => ?_) (fun hb8 h => ?_))
 exact ct ⟨_, si h, rfl, rfl⟩ (tk [0] ⟨.p, .i, .b, ⟨⟩⟩ ⟨(nbp rfl), ⟨⟩⟩)
 refine .d (sE h (fun hb9 h => ?_) (fun hb9 h => ?_))
 exact ct ⟨_, si h, rfl, rfl⟩ (tk [0] ⟨.p, .i, .b, ⟨⟩⟩ ⟨(nbp rfl), ⟨⟩⟩)
 refine .d (sE h (fun hb10 h => ?_) (fun hb10 h => ?_))
 exact ct ⟨_, si h, rfl, rfl⟩ (tk [0] ⟨.p, .i, .b, ⟨⟩⟩ ⟨(nbp rfl), ⟨⟩⟩)
 refine .d (sE h (fun hb11 h => ?_) (fun hb11 h => ?_))
 exact ct ⟨_, si h, rfl, rfl⟩ (tk [0] ⟨.p, .i, .b, ⟨⟩⟩ ⟨(nbp rfl), ⟨⟩⟩)
 refine .d (sE h (fun hb12 h => ?_) (fun hb12 h => ?_))
 exact ct ⟨_, si h, rfl, rfl⟩ (tk [0] ⟨.p, .i, .b, ⟨⟩⟩ ⟨(nbp rfl), ⟨⟩⟩)
 refine .d (sE h (fun hb13 h => ?_) (fun hb13 h => ?_))
 exact ct ⟨_, si h, rfl, rfl⟩ (tk [0] ⟨.p, .i, .b, ⟨⟩⟩ ⟨(nbp rfl), ⟨⟩⟩)
 refine .d (sE h (fun hb14 h => ?_) (fun hb14 h => ?_))
 exact ct ⟨_, si h, rfl, rfl⟩ (tk [0] ⟨.p, .i, .b, ⟨⟩⟩ ⟨(nbp rfl), ⟨⟩⟩)
 refine .d (sE h (fun hb15 h => ?_) (fun hb15 h => ?_))
 exact ct ⟨_, si h, rfl, rfl⟩ (tk [0] ⟨.p, .i, .b, ⟨⟩⟩ ⟨(nbp rfl), ⟨⟩⟩)
 refine .d (sE h (fun hb16 h => ?_) (fun hb16 h => ?_))
 exact ct ⟨_, si h, rfl, rfl⟩ (tk [0] ⟨.p, .i, .b, ⟨⟩⟩ ⟨(nbp rfl), ⟨⟩⟩)
 refine .d (sE h (fun hb17 h => ?_) (fun hb17 h => ?_))
 exact ct ⟨_, si h, rfl, rfl⟩ (tk [0] ⟨.p, .i, .b, ⟨⟩⟩ ⟨(nbp rfl), ⟨⟩⟩)
 refine .d (sE h (fun hb18 h => ?_) (fun hb18 h => ?_))
 exact ct ⟨_, si h, rfl, rfl⟩ (tk [0] ⟨.p, .i, .b, ⟨⟩⟩ ⟨(nbp rfl), ⟨⟩⟩)
 refine .d (sE h (fun hb19 h => ?_) (fun hb19 h => ?_))
 exact ct ⟨_, si h, rfl, rfl⟩ (tk [0] ⟨.p, .i, .b, ⟨⟩⟩ ⟨(nbp rfl), ⟨⟩⟩)
 exact ct ⟨_, si h, rfl, rfl⟩ (tk [0] ⟨.p, .i, .b, ⟨⟩⟩ ⟨(nbp rfl), ⟨⟩⟩)
 rintro _ _ ⟨b1, rfl, rfl, rfl⟩
 replace h := hk4
 refine sV h (fun hb20 h => ?_) (fun hb20 h => ?_)
 exact .d (eI h)
 obtain ⟨o22, ho23, hk24⟩ := bd h
 replace h := ho23
 refine .cut (fun σ η => ∃ b21, b21 = o22 ∧ σ = [(1, .optr 0 0 0 0), (4, .int .i64 a0.fOp), (22, .bool b21)] ∧ η = [.row 0 5 1 46 (fun _ => a0.lit)]) ?_ ?_
 refine .d (sE h (fun hb25 h => ?_) (fun hb25 h => ?_))
 exact ct ⟨_, si h, rfl, rfl⟩ (tk [0] ⟨.p, .i, .b, ⟨⟩⟩ ⟨(nbp rfl), ⟨⟩⟩)
 refine .d (sE h (fun hb26 h => ?_) (fun hb26 h => ?_))
 exact ct ⟨_, si h, rfl, rfl⟩ (tk [0] ⟨.p, .i, .b, ⟨⟩⟩ ⟨(nbp rfl), ⟨⟩⟩)
 refine .d (sE h (fun hb27 h => ?_) (fun hb27 h => ?_))
 exact ct ⟨_, si h, rfl, rfl⟩ (tk [0] ⟨.p, .i, .b, ⟨⟩⟩ ⟨(nbp rfl), ⟨⟩⟩)
 refine .d (sE h (fun hb28 h => ?_) (fun hb28 h => ?_))
 exact ct ⟨_, si h, rfl, rfl⟩ (tk [0] ⟨.p, .i, .b, ⟨⟩⟩ ⟨(nbp rfl), ⟨⟩⟩)
 refine .d (sE h (fun hb29 h => ?_) (fun hb29 h => ?_))
 exact ct ⟨_, si h, rfl, rfl⟩ (tk [0] ⟨.p, .i, .b, ⟨⟩⟩ ⟨(nbp rfl), ⟨⟩⟩)
 exact ct ⟨_, si h, rfl, rfl⟩ (tk [0] ⟨.p, .i, .b, ⟨⟩⟩ ⟨(nbp rfl), ⟨⟩⟩)
 rintro _ _ ⟨b21, rfl, rfl, rfl⟩
 replace h := hk24
 refine sV h (fun hb30 h => ?_) (fun hb30 h => ?_)
 exact .d (eI h)
 refine .d (sE h (fun hb31 h => ?_) (fun hb31 h => ?_))
 exact .d ⟨rfl, ⟨rfl, _, rfl, (eI h)⟩⟩
 obtain ⟨o33, ho34, hk35⟩ := bd h
 replace h := ho34
 refine .cut (fun σ η => ∃ b32, b32 = o33 ∧ σ = [(1, .optr 0 0 0 0), (4, .int .i64 a0.fOp), (34, .bool b32)] ∧ η = [.row 0 5 1 46 (fun _ => a0.lit)]) ?_ ?_
 refine .d (sE h (fun hb36 h => ?_) (fun hb36 h => ?_))
 exact ct ⟨_, si h, rfl, rfl⟩ (tk [0] ⟨.p, .i, .b, ⟨⟩⟩ ⟨(nbp rfl), ⟨⟩⟩)
 exact ct ⟨_, si h, rfl, rfl⟩ (tk [0] ⟨.p, .i, .b, ⟨⟩⟩ ⟨(nbp rfl), ⟨⟩⟩)
 rintro _ _ ⟨b32, rfl, rfl, rfl⟩
 replace h := hk35
 refine sV h (fun hb37 h => ?_) (fun hb37 h => ?_)
 exact .d ⟨rfl, ⟨rfl, _, rfl, ⟨by decide, (eI h)⟩⟩⟩
 refine .d (sE h (fun hb38 h => ?_) (fun hb38 h => ?_))
 exact .d ⟨rfl, ⟨rfl, _, rfl, ⟨by decide, (eI h)⟩⟩⟩
 refine .d (.d (sE h (fun hb39 h => ?_) (fun hb39 h => ?_)))
 exact .kt hb39 (.d ⟨rfl, ⟨rfl, _, rfl, (eI h)⟩⟩)
 refine sE h (fun hb40 h => ?_) (fun hb40 h => ?_)
 exact .d ⟨rfl, ⟨rfl, _, rfl, (eI h)⟩⟩
 refine .d (sE h (fun hb41 h => ?_) (fun hb41 h => ?_))
 exact .d ⟨rfl, ⟨rfl, _, rfl, (eI h)⟩⟩
 exact .d (eI h)
def m_s_InsChange (a0 : TIns) : Option (Int) :=
 (
 (if a0.fOp = 2 then
 some (a0.fOp == 2)
 else
 (if a0.fOp = 3 then
 some (a0.fOp == 3)
 else
 (if a0.fOp = 4 then
 some (a0.fOp == 4)
 else
 (if a0.fOp = 5 then
 some (a0.fOp == 5)
 else
 (if a0.fOp = 7 then
 some (a0.fOp == 7)
 else
 (if a0.fOp = 9 then
 some (a0.fOp == 9)
 else
 (if a0.fOp = 14 then
 some (a0.fOp == 14)
 else
 (if a0.fOp = 24 then
 some (a0.fOp == 24)
 else
 (if a0.fOp = 25 then
 some (a0.fOp == 25)
 else
 (if a0.fOp = 40 then
 some (a0.fOp == 40)
 else
 (if a0.fOp = 50 then
 some (a0.fOp == 50)
 else
 some (a0.fOp == 56))))))))))))
 : Option (Bool)) >>= fun b1 =>
 (if b1 = true then
 some 1
 else
 (
 (if a0.fOp = 10 then
 some (a0.fOp == 10)
 else
 (if a0.fOp = 12 then
 some (a0.fOp == 12)
 else
 (if a0.fOp = 16 then
 some (a0.fOp == 16)
 else
 (if a0.fOp = 28 then
 some (a0.fOp == 28)
 else
 (if a0.fOp = 29 then
 some (a0.fOp == 29)
 else
 (if a0.fOp = 30 then
 some (a0.fOp == 30)
 else
 (if a0.fOp = 33 then
 some (a0.fOp == 33)
 else
 (if a0.fOp = 34 then
 some (a0.fOp == 34)
 else
 (if a0.fOp = 37 then
 some (a0.fOp == 37)
 else
 (if a0.fOp = 41 then
 some (a0.fOp == 41)
 else
 (if a0.fOp = 42 then
 some (a0.fOp == 42)
 else
 some (a0.fOp == 43))))))))))))
 : Option (Bool)) >>= fun b17 =>
 (if b17 = true then
 some (-1)
 else
 (if a0.fOp = 15 then
 some (W64 ((-1) - a0.fB))
 else
 (
 (if a0.fOp = 18 then
 some (a0.fOp == 18)
 else
 some (a0.fOp == 19))
 : Option (Bool)) >>= fun b34 =>
 (if b34 = true then
 some (W64 (0 - (W64 (a0.fB.tdiv 2))))
 else
 (if a0.fOp = 20 then
 some (W64 ((W64 (0 - (W64 (a0.fB.tdiv 2)))) - 1))
 else
 (
 (if a0.fOp = 21 then
 some (a0.fOp == 21)
 else
 some (a0.fOp == 22))
 : Option (Bool)) >>= fun b41 =>
 (if b41 = true then
 some (W64 (0 - a0.fB))
 else
 (if a0.fOp = 23 then
 some (W64 ((W64 (0 - a0.fB)) - 1))
 else
 (if a0.fOp = 52 then
 some (W64 (1 + a0.fB))
 else
 (if a0.fOp = 53 then
 some (-2)
 else
 some 0)))))))))
theorem ok_s_InsChange {a0 : TIns} {r : Int} (h : m_s_InsChange a0 = some r) : ACall Tryz.prog 93 [.agg a0.lit] [] (fun res h => res = .int .i64 r ∧ h = []) := by
 refine vc1 Tryz.func93 ?_
 unfold m_s_InsChange at h
 refine .d (.d (.d ⟨rfl, ⟨rfl, _, rfl, ?_⟩⟩))
 obtain ⟨o2, ho3, hk4⟩ := bd h
 replace h := ho3
 refine .cut (fun σ η => ∃ b1, b1 = o2 ∧ σ = [(1, .optr 0 0 0 0), (4, .int .i64 a0.fOp), (5, .bool b1)] ∧ η = [.row 0 5 1 46 (fun _ => a0.lit)]) ?_ ?_
 refine .d (sE h (fun hb5 h => ?_) (fun hb5 h => ?_))
 exact ct ⟨_, si h, rfl, rfl⟩ (tk [0] ⟨.p, .i, .b, ⟨⟩⟩ ⟨(nbp rfl), ⟨⟩⟩)
 refine .d (sE h (fun hb6 h => ?_) (fun hb6 h => ?_))
 exact ct ⟨_, si h, rfl, rfl⟩ (tk [0] ⟨.p, .i, .b, ⟨⟩⟩ ⟨(nbp rfl), ⟨⟩⟩)
 refine .d (sE h (fun hb7 h => ?_) (fun hb7 h => ?_))
 exact ct ⟨_, si h, rfl, rfl⟩ (tk [0] ⟨.p, .i, .b, ⟨⟩⟩ ⟨(nbp rfl), ⟨⟩⟩)
 refine .d (sE h (fun hb8 h => ?_) (fun hb8 h => ?_))
 exact ct ⟨_, si h, rfl, rfl⟩ (tk [0] ⟨.p, .i, .b, ⟨⟩⟩ ⟨(nbp rfl), ⟨⟩⟩)
 refine .d (sE h (fun hb9 h => ?_) (fun hb9 h => ?_))
 exact ct ⟨_, si h, rfl, rfl⟩ (tk [0] ⟨.p, .i, .b, ⟨⟩⟩ ⟨(nbp rfl), ⟨⟩⟩)
 refine .d (sE h (fun hb10 h => ?_) (fun hb10 h => ?_))
 exact ct ⟨_, si h, rfl, rfl⟩ (tk [0] ⟨.p, .i, .b, ⟨⟩⟩ ⟨(nbp rfl), ⟨⟩⟩)
 refine .d (sE h (fun hb11 h => ?_) (fun hb11 h => ?_))
 exact ct ⟨_, si h, rfl, rfl⟩ (tk [0] ⟨.p, .i, .b, ⟨⟩⟩ ⟨(nbp rfl), ⟨⟩⟩)
 refine .d (sE h (fun hb12 h => ?_) (fun hb12 h => ?_))
 exact ct ⟨_, si h, rfl, rfl⟩ (tk [0] ⟨.p, .i, .b, ⟨⟩⟩ ⟨(nbp rfl), ⟨⟩⟩)
 refine .d (sE h (fun hb13 h => ?_) (fun hb13 h => ?_))
 exact ct ⟨_, si h, rfl, rfl⟩ (tk [0] ⟨.p, .i, .b, ⟨⟩⟩ ⟨(nbp rfl), ⟨⟩⟩)
 refine .d (sE h (fun hb14 h => ?_) (fun hb14 h => ?_))
 exact ct ⟨_, si h, rfl, rfl⟩ (tk [0] ⟨.p, .i, .b, ⟨⟩⟩ ⟨(nbp rfl), ⟨⟩⟩)
 refine .d (sE h (fun hb15 h => ?_) (fun hb15 h => ?_))
 exact ct ⟨_, si h, rfl, rfl⟩ (tk [0] ⟨.p, .i, .b, ⟨⟩⟩ ⟨(nbp rfl), ⟨⟩⟩)
 exact ct ⟨_, si h, rfl, rfl⟩ (tk [0] ⟨.p, .i, .b, ⟨⟩⟩ ⟨(nbp rfl), ⟨⟩⟩)
 rintro _ _ ⟨b1, rfl, rfl, rfl⟩
 replace h := hk4
 refine sV h (fun hb16 h => ?_) (fun hb16 h => ?_)
 exact .d (eI h)
 obtain ⟨o18, ho19, hk20⟩ := bd h
 replace h := ho19
 refine .cut (fun σ η => ∃ b17, b17 = o18 ∧ σ = [(1, .optr 0 0 0 0), (4, .int .i64 a0.fOp), (18, .bool b17)] ∧ η = [.row 0 5 1 46 (fun _ => a0.lit)]) ?_ ?_
 refine .d (sE h (fun hb21 h => ?_) (fun hb21 h => ?_))
 exact ct ⟨_, si h, rfl, rfl⟩ (tk [0] ⟨.p, .i, .b, ⟨⟩⟩ ⟨(nbp rfl), ⟨⟩⟩)
 refine .d (sE h (fun hb22 h => ?_) (fun hb22 h => ?_))
 exact ct ⟨_, si h, rfl, rfl⟩ (tk [0] ⟨.p, .i, .b, ⟨⟩⟩ ⟨(nbp rfl), ⟨⟩⟩)
 refine .d (sE h (fun hb23 h => ?_) (fun hb23 h => ?_))
 exact ct ⟨_, si h, rfl, rfl⟩ (tk [0] ⟨.p, .i, .b, ⟨⟩⟩ ⟨(nbp rfl), ⟨⟩⟩)
 refine .d (sE h (fun hb24 h => ?_) (fun hb24 h => ?_))
 exact ct ⟨_, si h, rfl, rfl⟩ (tk [0] ⟨.p, .i, .b, ⟨⟩⟩ ⟨(nbp rfl), ⟨⟩⟩)
 refine .d (sE h (fun hb25 h => ?_) (fun hb25 h => ?_))
 exact ct ⟨_, si h, rfl, rfl⟩ (tk [0] ⟨.p, .i, .b, ⟨⟩⟩ ⟨(nbp rfl), ⟨⟩⟩)
 refine .d (sE h (fun hb26 h => ?_) (fun hb26 h => ?_))
 exact ct ⟨_, si h, rfl, rfl⟩ (tk [0] ⟨.p, .i, .b, ⟨⟩⟩ ⟨(nbp rfl), ⟨⟩⟩)
 refine .d (sE h (fun hb27 h => ?_) (fun hb27 h => ?_))
 exact ct ⟨_, si h, rfl, rfl⟩ (tk [0] ⟨.p, .i, .b, ⟨⟩⟩ ⟨(nbp rfl), ⟨⟩⟩)
 refine .d (sE h (fun hb28 h => ?_) (fun hb28 h => ?_))
 exact ct ⟨_, si h, rfl, rfl⟩ (tk [0] ⟨.p, .i, .b, ⟨⟩⟩ ⟨(nbp rfl), ⟨⟩⟩)
 refine .d (sE h (fun hb29 h => ?_) (fun hb29 h => ?_))
 exact ct ⟨_, si h, rfl, rfl⟩ (tk [0] ⟨.p, .i, .b, ⟨⟩⟩ ⟨(nbp rfl), ⟨⟩⟩)
 refine .d (sE h (fun hb30 h => ?_) (fun hb30 h => ?_))
 exact ct ⟨_, si h, rfl, rfl⟩ (tk [0] ⟨.p, .i, .b, ⟨⟩⟩ ⟨(nbp rfl), ⟨⟩⟩)
 refine .d (sE h (fun hb31 h => ?_) (fun hb31 h => ?_))
 exact ct ⟨_, si h, rfl, rfl⟩ (tk [0] ⟨.p, .i, .b, ⟨⟩⟩ ⟨(nbp rfl), ⟨⟩⟩)
 exact ct ⟨_, si h, rfl, rfl⟩ (tk [0] ⟨.p, .i, .b, ⟨⟩⟩ ⟨(nbp rfl), ⟨⟩⟩)
 rintro _ _ ⟨b17, rfl, rfl, rfl⟩
 replace h := hk20
 refine sV h (fun hb32 h => ?_) (fun hb32 h => ?_)
 exact .d (eI h)
 refine .d (sE h (fun hb33 h => ?_) (fun hb33 h => ?_))
 exact .d ⟨rfl, ⟨rfl, _, rfl, (eI h)⟩⟩
 obtain ⟨o35, ho36, hk37⟩ := bd h
 replace h := ho36
 refine .cut (fun σ η => ∃ b34, b34 = o35 ∧ σ = [(1, .optr 0 0 0 0), (4, .int .i64 a0.fOp), (36, .bool b34)] ∧ η = [.row 0 5 1 46 (fun _ => a0.lit)]) ?_ ?_
 refine .d (sE h (fun hb38 h => ?_) (fun hb38 h => ?_))
 exact ct ⟨_, si h, rfl, rfl⟩ (tk [0] ⟨.p, .i, .b, ⟨⟩⟩ ⟨(nbp rfl), ⟨⟩⟩)
 exact ct ⟨_, si h, rfl, rfl⟩ (tk [0] ⟨.p, .i, .b, ⟨⟩⟩ ⟨(nbp rfl), ⟨⟩⟩)
 rintro _ _ ⟨b34, rfl, rfl, rfl⟩
 replace h := hk37
 refine sV h (fun hb39 h => ?_) (fun hb39 h => ?_)
 exact .d ⟨rfl, ⟨rfl, _, rfl, ⟨by decide, (eI h)⟩⟩⟩
 refine .d (sE h (fun hb40 h => ?_) (fun hb40 h => ?_))
 exact .d ⟨rfl, ⟨rfl, _, rfl, ⟨by decide, (eI h)⟩⟩⟩
 obtain ⟨o42, ho43, hk44⟩ := bd h
 replace h := ho43
 refine .cut (fun σ η => ∃ b41, b41 = o42 ∧ σ = [(1, .optr 0 0 0 0), (4, .int .i64 a0.fOp), (50, .bool b41)] ∧ η = [.row 0 5 1 46 (fun _ => a0.lit)]) ?_ ?_
 refine .d (sE h (fun hb45 h => ?_) (fun hb45 h => ?_))
 exact ct ⟨_, si h, rfl, rfl⟩ (tk [0] ⟨.p, .i, .b, ⟨⟩⟩ ⟨(nbp rfl), ⟨⟩⟩)
 exact ct ⟨_, si h, rfl, rfl⟩ (tk [0] ⟨.p, .i, .b, ⟨⟩⟩ ⟨(nbp rfl), ⟨⟩⟩)
 rintro _ _ ⟨b41, rfl, rfl, rfl⟩
 replace h := hk44
 refine sV h (fun hb46 h => ?_) (fun hb46 h => ?_)
 exact .d ⟨rfl, ⟨rfl, _, rfl, (eI h)⟩⟩
 refine .d (sE h (fun hb47 h => ?_) (fun hb47 h => ?_))
 exact .d ⟨rfl, ⟨rfl, _, rfl, (eI h)⟩⟩
 refine .d (sE h (fun hb48 h => ?_) (fun hb48 h => ?_))
 exact .d ⟨rfl, ⟨rfl, _, rfl, (eI h)⟩⟩
 refine .d (sE h (fun hb49 h => ?_) (fun hb49 h => ?_))
 exact .d (eI h)
 exact .d (eI h)
def m_s_TargetChange (a0 : Int) : Option (Int) :=
 (if a0 = 28 then
 some (-1)
 else
 (if a0 = 44 then
 some 1
 else
 some 0))
theorem ok_s_TargetChange {a0 : Int} {r : Int} (h : m_s_TargetChange a0 = some r) : ACall Tryz.prog 94 [.int .i64 a0] [] (fun res h => res = .int .i64 r ∧ h = []) := by
 refine vc1 Tryz.func94 ?_
 unfold m_s_TargetChange at h
 refine .d (.d (.d (.d (sE h (fun hb1 h => ?_) (fun hb1 h => ?_)))))
 exact .d (eI h)
 refine .d (sE h (fun hb2 h => ?_) (fun hb2 h => ?_))
 exact .d (eI h)
 exact .d (eI h)
def m_s_l25Slot (a0 : Int) : Option (Bool) :=
 (if a0 = 5 then
 some true
 else
 (if a0 = 6 then
 some true
 else
 (if a0 = 18 then
 some true
 else
 (if a0 = 21 then
 some true
 else
 (if a0 = 24 then
 some true
 else
 (if a0 = 26 then
 some true
 else
 (if a0 = 38 then
 some true
 else
 some false)))))))
theorem ok_s_l25Slot {a0 : Int} {r : Bool} (h : m_s_l25Slot a0 = some r) : ACall Tryz.prog 131 [.int .i64 a0] [] (fun res h => res = .bool r ∧ h = []) := by
 refine vc1 Tryz.func131 ?_
 unfold m_s_l25Slot at h
 refine .d (.d (.d (.d (.d (sE h (fun hb1 h => ?_) (fun hb1 h => ?_))))))
 exact .kt hb1 (.d (eB h))
 refine .d (sE h (fun hb2 h => ?_) (fun hb2 h => ?_))
 exact .kt hb2 (.d (eB h))
 refine .d (sE h (fun hb3 h => ?_) (fun hb3 h => ?_))
 exact .kt hb3 (.d (eB h))
 refine .d (sE h (fun hb4 h => ?_) (fun hb4 h => ?_))
 exact .kt hb4 (.d (eB h))
 refine .d (sE h (fun hb5 h => ?_) (fun hb5 h => ?_))
 exact .kt hb5 (.d (eB h))
 refine .d (sE h (fun hb6 h => ?_) (fun hb6 h => ?_))
 exact .kt hb6 (.d (eB h))
 refine sE h (fun hb7 h => ?_) (fun hb7 h => ?_)
 exact .d (eB h)
 exact .d (eB h)
def m_s_l25Text (a0 : Int) : Option (Int) :=
 (
 (if a0 = 3 then
 some (a0 == 3)
 else
 (if a0 = 31 then
 some (a0 == 31)
 else
 (if a0 = 55 then
 some (a0 == 55)
 else
 (if a0 = 56 then
 some (a0 == 56)
 else
 (if a0 = 35 then
 some (a0 == 35)
 else
 some (a0 == 36))))))
 : Option (Bool)) >>= fun b1 =>
 (if b1 = true then
 some 1
 else
 (if a0 = 7 then
 some 2
 else
 (if a0 = 8 then
 some 2
 else
 (if a0 = 17 then
 some 2
 else
 (if a0 = 19 then
 some 2
 else
 (if a0 = 20 then
 some 2
 else
 (if a0 = 22 then
 some 2
 else
 (if a0 = 23 then
 some 2
 else
 (if a0 = 25 then
 some 2
 else
 (if a0 = 26 then
 some 2
 else
 (if a0 = 32 then
 some 2
 else
 (if a0 = 34 then
 some 2
 else
 (if a0 = 39 then
 some 2
 else
 (if a0 = 44 then
 some 2
 else
 some 0))))))))))))))
theorem ok_s_l25Text {a0 : Int} {r : Int} (h : m_s_l25Text a0 = some r) : ACall Tryz.prog 130 [.int .i64 a0] [] (fun res h => res = .int .i64 r ∧ h = []) := by
 refine vc1 Tryz.func130 ?_
 unfold m_s_l25Text at h
 refine .d (.d (.d ?_))
 obtain ⟨o2, ho3, hk4⟩ := bd h
 replace h := ho3
 refine .cut (fun σ η => ∃ b1, b1 = o2 ∧ σ = [(3, .int .i64 a0), (4, .bool b1)] ∧ η = []) ?_ ?_
 refine .d (sE h (fun hb5 h => ?_) (fun hb5 h => ?_))
 exact ct ⟨_, si h, rfl, rfl⟩ (tk [] ⟨.i, .b, ⟨⟩⟩ ⟨⟩)
 refine .d (sE h (fun hb6 h => ?_) (fun hb6 h => ?_))
 exact ct ⟨_, si h, rfl, rfl⟩ (tk [] ⟨.i, .b, ⟨⟩⟩ ⟨⟩)
 refine .d (sE h (fun hb7 h => ?_) (fun hb7 h => ?_))
 exact ct ⟨_, si h, rfl, rfl⟩ (tk [] ⟨.i, .b, ⟨⟩⟩ ⟨⟩)
 refine .d (sE h (fun hb8 h => ?_) (fun hb8 h => ?_))
 exact ct ⟨_, si h, rfl, rfl⟩ (tk [] ⟨.i, .b, ⟨⟩⟩ ⟨⟩)
 refine .d (sE h (fun hb9 h => ?_) (fun hb9 h => ?_))
 exact ct ⟨_, si h, rfl, rfl⟩ (tk [] ⟨.i, .b, ⟨⟩⟩ ⟨⟩)
 exact ct ⟨_, si h, rfl, rfl⟩ (tk [] ⟨.i, .b, ⟨⟩⟩ ⟨⟩)
 rintro _ _ ⟨b1, rfl, rfl, rfl⟩
 replace h := hk4
 refine sV h (fun hb10 h => ?_) (fun hb10 h => ?_)
 exact .d (eI h)
 refine .d (.d (sE h (fun hb11 h => ?_) (fun hb11 h => ?_)))
 exact .kt hb11 (.d (eI h))
 refine .d (sE h (fun hb12 h => ?_) (fun hb12 h => ?_))
 exact .kt hb12 (.d (eI h))
 refine .d (sE h (fun hb13 h => ?_) (fun hb13 h => ?_))
 exact .kt hb13 (.d (eI h))
 refine .d (sE h (fun hb14 h => ?_) (fun hb14 h => ?_))
 exact .kt hb14 (.d (eI h))
 refine .d (sE h (fun hb15 h => ?_) (fun hb15 h => ?_))
 exact .kt hb15 (.d (eI h))
 refine .d (sE h (fun hb16 h => ?_) (fun hb16 h => ?_))
 exact .kt hb16 (.d (eI h))
 refine .d (sE h (fun hb17 h => ?_) (fun hb17 h => ?_))
 exact .kt hb17 (.d (eI h))
 refine .d (sE h (fun hb18 h => ?_) (fun hb18 h => ?_))
 exact .kt hb18 (.d (eI h))
 refine .d (sE h (fun hb19 h => ?_) (fun hb19 h => ?_))
 exact .kt hb19 (.d (eI h))
 refine .d (sE h (fun hb20 h => ?_) (fun hb20 h => ?_))
 exact .kt hb20 (.d (eI h))
 refine .d (sE h (fun hb21 h => ?_) (fun hb21 h => ?_))
 exact .kt hb21 (.d (eI h))
 refine .d (sE h (fun hb22 h => ?_) (fun hb22 h => ?_))
 exact .kt hb22 (.d (eI h))
 refine sE h (fun hb23 h => ?_) (fun hb23 h => ?_)
 exact .d (eI h)
 exact .d (eI h)
def m_s_IsIns (a0 : TIns) (a1 : Int) (a2 : Int) : Option (Bool) :=
 (
 (if a0.fS = ([] : Str) then
 some true
 else
 m_s_l25Text a0.fOp >>= fun v6 =>
 (if v6 = 1 then
 some true
 else
 m_s_l25Text a0.fOp >>= fun v9 =>
 some (v9 == 2)))
 : Option (Bool)) >>= fun b1 =>
 (
 m_s_l25Text a0.fOp >>= fun v15 =>
 (if v15 = 2 then
 m_s_l15Name a0.fS >>= fun v18 =>
 (if v18 = true then
 some b1
 else
 some false)
 else
 some b1)
 : Option (Bool)) >>= fun b11 =>
 (
 (if a0.fOp = 2 then
 m_s_l1In a0.fA 0 1000000000 >>= fun v28 =>
 some (v28, (a0.fB == 0), b11)
 else
 (
 (if a0.fOp = 4 then
 some (a0.fOp == 4)
 else
 some (a0.fOp == 11))
 : Option (Bool)) >>= fun b30 =>
 (if b30 = true then
 m_s_l1In a0.fA 0 2 >>= fun v36 =>
 some (v36, (a0.fB == 0), b11)
 else
 (if a0.fOp = 12 then
 m_s_l1In a0.fA 1 15 >>= fun v39 =>
 some (v39, (a0.fB == 0), b11)
 else
 (if a0.fOp = 3 then
 some ((a0.fA == 0), (a0.fB == 0), (decide ((a0.fS.length : Int) ≤ 400)))
 else
 (if a0.fOp = 15 then
 m_s_l1In a0.fB 0 1 >>= fun v43 =>
 some ((a0.fA == 0), v43, b11)
 else
 (
 (if a0.fOp = 18 then
 some (a0.fOp == 18)
 else
 (if a0.fOp = 19 then
 some (a0.fOp == 19)
 else
 some (a0.fOp == 20)))
 : Option (Bool)) >>= fun b45 =>
 (if b45 = true then
 m_s_l1In a0.fB 0 81 >>= fun v52 =>
 some ((a0.fA == 0), v52, b11)
 else
 (
 (if a0.fOp = 21 then
 some (a0.fOp == 21)
 else
 (if a0.fOp = 22 then
 some (a0.fOp == 22)
 else
 some (a0.fOp == 23)))
 : Option (Bool)) >>= fun b54 =>
 (if b54 = true then
 m_s_l1In a0.fB 0 40 >>= fun v61 =>
 some ((a0.fA == 0), v61, b11)
 else
 (if a0.fOp = 24 then
 (if a0.fB ≥ 0 then
 some ((a0.fA == 0), (decide (a0.fB < a1)), b11)
 else
 some ((a0.fA == 0), false, b11))
 else
 (if a0.fOp = 49 then
 m_s_l1In a0.fB 0 100 >>= fun v66 =>
 some ((a0.fA == 0), v66, b11)
 else
 (if a0.fOp = 52 then
 m_s_l1In a0.fB 0 1 >>= fun v69 =>
 some ((a0.fA == 0), v69, b11)
 else
 some ((a0.fA == 0), (a0.fB == 0), b11)))))))))))
 : Option (Bool × Bool × Bool)) >>= fun (b21, b22, b23) =>
 (
 m_s_l25Slot a0.fOp >>= fun v75 =>
 (if v75 = true then
 (if a0.fA ≥ 0 then
 some (decide (a0.fA < a1))
 else
 some false)
 else
 some b21)
 : Option (Bool)) >>= fun b71 =>
 (
 m_s_HasTarget a0.fOp >>= fun v83 =>
 (if v83 = true then
 (if a0.fA ≥ 0 then
 some (decide (a0.fA < a2))
 else
 some false)
 else
 some b71)
 : Option (Bool)) >>= fun b79 =>
 (
 (if a0.fOp = 25 then
 m_s_l15Name a0.fT >>= fun v92 =>
 some v92
 else
 some (a0.fT == ([] : Str)))
 : Option (Bool)) >>= fun b87 =>
 m_s_l1In a0.fOp 1 56 >>= fun v94 =>
 (if v94 = true then
 (if b79 = true then
 (if b22 = true then
 (if b23 = true then
 some b87
 else
 some false)
 else
 some false)
 else
 some false)
 else
 some false)
theorem ok_s_IsIns {a0 : TIns} {a1 : Int} {a2 : Int} {r : Bool} (h : m_s_IsIns a0 a1 a2 = some r) : ACall Tryz.prog 89 [.agg a0.lit, .int .i64 a1, .int .i64 a2] [] (fun res h => res = .bool r ∧ h = []) := by
 refine vc1 Tryz.func89 ?_
 unfold m_s_IsIns at h
 refine .d (.d ⟨rfl, ⟨rfl, _, rfl, (.d ⟨rfl, ⟨rfl, _, rfl, ?_⟩⟩)⟩⟩)
 obtain ⟨o2, ho3, hk4⟩ := bd h
 replace h := ho3
 refine .cut (fun σ η => ∃ b1, b1 = o2 ∧ σ = [(1, .int .i64 a1), (2, .int .i64 a2), (3, .optr 0 0 0 0), (7, .bool (a0.fA == 0)), (8, .bool (a0.fB == 0)), (9, .bool b1)] ∧ η = [.row 0 5 1 46 (fun _ => a0.lit)]) ?_ ?_
 refine ⟨rfl, ⟨rfl, _, rfl, (sE h (fun hb5 h => ?_) (fun hb5 h => ?_))⟩⟩
 exact .t (.t (.t (.t (.t (.t (.t (.t (.t (ct ⟨_, si h, rfl, rfl⟩ (tk [0] ⟨.i, .i, .p, .b, .b, .b, ⟨⟩⟩ ⟨(nbp rfl), ⟨⟩⟩))))))))))
 refine ⟨rfl, (.f ⟨rfl, _, rfl, (.f (bk h fun v6 hv7 h => (pcP (ok_s_l25Text hv7) (.f (.f (sE h (fun hb8 h => ?_) (fun hb8 h => ?_)))))))⟩)⟩
 exact .t (.t (.t (.t (ct ⟨_, si h, rfl, rfl⟩ (tk [0] ⟨.i, .i, .p, .b, .b, .b, ⟨⟩⟩ ⟨(nbp rfl), ⟨⟩⟩)))))
 exact ⟨rfl, (.f ⟨rfl, _, rfl, (.f (bk h fun v9 hv10 h => (pcP (ok_s_l25Text hv10) (.f (.f (ct ⟨_, si h, rfl, rfl⟩ (tk [0] ⟨.i, .i, .p, .b, .b, .b, ⟨⟩⟩ ⟨(nbp rfl), ⟨⟩⟩)))))))⟩)⟩
 rintro _ _ ⟨b1, rfl, rfl, rfl⟩
 replace h := hk4
 obtain ⟨o12, ho13, hk14⟩ := bd h
 replace h := ho13
 refine .cut (fun σ η => ∃ b11, b11 = o12 ∧ σ = [(1, .int .i64 a1), (2, .int .i64 a2), (3, .optr 0 0 0 0), (7, .bool (a0.fA == 0)), (8, .bool (a0.fB == 0)), (9, .bool b11)] ∧ η = [.row 0 5 1 46 (fun _ => a0.lit)]) ?_ ?_
 refine .d ⟨rfl, ⟨rfl, _, rfl, (bk h fun v15 hv16 h => (pcP (ok_s_l25Text hv16) (sE h (fun hb17 h => ?_) (fun hb17 h => ?_))))⟩⟩
 refine ⟨rfl, (.t ⟨rfl, _, rfl, (.t (bk h fun v18 hv19 h => (pcP (ok_s_l15Name hv19) (.t (.t (sVn h (fun hb20 h => ?_) (fun hb20 h => ?_)))))))⟩)⟩
 exact ct ⟨_, si h, rfl, rfl⟩ (tk [0] ⟨.i, .i, .p, .b, .b, .b, ⟨⟩⟩ ⟨(nbp rfl), ⟨⟩⟩)
 exact ct ⟨_, si h, rfl, rfl⟩ (tk [0] ⟨.i, .i, .p, .b, .b, .b, ⟨⟩⟩ ⟨(nbp rfl), ⟨⟩⟩)
 exact .f (.f (.f (.f (.f (ct ⟨_, si h, rfl, rfl⟩ (tk [0] ⟨.i, .i, .p, .b, .b, .b, ⟨⟩⟩ ⟨(nbp rfl), ⟨⟩⟩))))))
 rintro _ _ ⟨b11, rfl, rfl, rfl⟩
 replace h := hk14
 obtain ⟨o24, ho25, hk26⟩ := bd h
 replace h := ho25
 refine .cut (fun σ η => ∃ b21, ∃ b22, ∃ b23, (b21, b22, b23) = o24 ∧ σ = [(1, .int .i64 a1), (2, .int .i64 a2), (3, .optr 0 0 0 0), (7, .bool b21), (8, .bool b22), (9, .bool b23)] ∧ η = [.row 0 5 1 46 (fun _ => a0.lit)]) ?_ ?_
 refine .d ⟨rfl, ⟨rfl, _, rfl, (.d (sE h (fun hb27 h => ?_) (fun hb27 h => ?_)))⟩⟩
 exact ⟨rfl, ⟨rfl, _, rfl, (bk h fun v28 hv29 h => (pcP (ok_s_l1In hv29) (ct ⟨_, _, _, si h, rfl, rfl⟩ (tk [0] ⟨.i, .i, .p, .b, .b, .b, ⟨⟩⟩ ⟨(nbp rfl), ⟨⟩⟩))))⟩⟩
 obtain ⟨o31, ho32, hk33⟩ := bd h
 replace h := ho32
 refine .cut (fun σ η => ∃ b30, b30 = o31 ∧ σ = [(1, .int .i64 a1), (2, .int .i64 a2), (3, .optr 0 0 0 0), (7, .bool (a0.fA == 0)), (8, .bool (a0.fB == 0)), (9, .bool b11), (43, .int .i64 a0.fOp), (49, .bool b30)] ∧ η = [.row 0 5 1 46 (fun _ => a0.lit)]) ?_ ?_
 refine .d (sE h (fun hb34 h => ?_) (fun hb34 h => ?_))
 exact ct ⟨_, si h, rfl, rfl⟩ (tk [0] ⟨.i, .i, .p, .b, .b, .b, .i, .b, ⟨⟩⟩ ⟨(nbp rfl), ⟨⟩⟩)
 exact ct ⟨_, si h, rfl, rfl⟩ (tk [0] ⟨.i, .i, .p, .b, .b, .b, .i, .b, ⟨⟩⟩ ⟨(nbp rfl), ⟨⟩⟩)
 rintro _ _ ⟨b30, rfl, rfl, rfl⟩
 replace h := hk33
 refine sV h (fun hb35 h => ?_) (fun hb35 h => ?_)
 exact ⟨rfl, ⟨rfl, _, rfl, (bk h fun v36 hv37 h => (pcP (ok_s_l1In hv37) (ct ⟨_, _, _, si h, rfl, rfl⟩ (tk [0] ⟨.i, .i, .p, .b, .b, .b, ⟨⟩⟩ ⟨(nbp rfl), ⟨⟩⟩))))⟩⟩
 refine .d (sE h (fun hb38 h => ?_) (fun hb38 h => ?_))
 exact ⟨rfl, ⟨rfl, _, rfl, (bk h fun v39 hv40 h => (pcP (ok_s_l1In hv40) (ct ⟨_, _, _, si h, rfl, rfl⟩ (tk [0] ⟨.i, .i, .p, .b, .b, .b, ⟨⟩⟩ ⟨(nbp rfl), ⟨⟩⟩))))⟩⟩
 refine .d (sE h (fun hb41 h => ?_) (fun hb41 h => ?_))
 exact ⟨rfl, ⟨rfl, _, rfl, (ct ⟨_, _, _, si h, rfl, rfl⟩ (tk [0] ⟨.i, .i, .p, .b, .b, .b, ⟨⟩⟩ ⟨(nbp rfl), ⟨⟩⟩))⟩⟩
 refine .d (sE h (fun hb42 h => ?_) (fun hb42 h => ?_))
 exact ⟨rfl, ⟨rfl, _, rfl, (bk h fun v43 hv44 h => (pcP (ok_s_l1In hv44) (ct ⟨_, _, _, si h, rfl, rfl⟩ (tk [0] ⟨.i, .i, .p, .b, .b, .b, ⟨⟩⟩ ⟨(nbp rfl), ⟨⟩⟩))))⟩⟩
 obtain ⟨o46, ho47, hk48⟩ := bd h
 replace h := ho47
 refine .cut (fun σ η => ∃ b45, b45 = o46 ∧ σ = [(1, .int .i64 a1), (2, .int .i64 a2), (3, .optr 0 0 0 0), (7, .bool (a0.fA == 0)), (8, .bool (a0.fB == 0)), (9, .bool b11), (43, .int .i64 a0.fOp), (71, .bool b45)] ∧ η = [.row 0 5 1 46 (fun _ => a0.lit)]) ?_ ?_
 refine .d (sE h (fun hb49 h => ?_) (fun hb49 h => ?_))
 exact ct ⟨_, si h, rfl, rfl⟩ (tk [0] ⟨.i, .i, .p, .b, .b, .b, .i, .b, ⟨⟩⟩ ⟨(nbp rfl), ⟨⟩⟩)
 refine .d (sE h (fun hb50 h => ?_) (fun hb50 h => ?_))
 exact ct ⟨_, si h, rfl, rfl⟩ (tk [0] ⟨.i, .i, .p, .b, .b, .b, .i, .b, ⟨⟩⟩ ⟨(nbp rfl), ⟨⟩⟩)
 exact ct ⟨_, si h, rfl, rfl⟩ (tk [0] ⟨.i, .i, .p, .b, .b, .b, .i, .b, ⟨⟩⟩ ⟨(nbp rfl), ⟨⟩⟩)
 rintro _ _ ⟨b45, rfl, rfl, rfl⟩
 replace h := hk48
 refine sV h (fun hb51 h => ?_) (fun hb51 h => ?_)
 exact ⟨rfl, ⟨rfl, _, rfl, (bk h fun v52 hv53 h => (pcP (ok_s_l1In hv53) (ct ⟨_, _, _, si h, rfl, rfl⟩ (tk [0] ⟨.i, .i, .p, .b, .b, .b, ⟨⟩⟩ ⟨(nbp rfl), ⟨⟩⟩))))⟩⟩
 obtain ⟨o55, ho56, hk57⟩ := bd h
 replace h := ho56
 refine .cut (fun σ η => ∃ b54, b54 = o55 ∧ σ = [(1, .int .i64 a1), (2, .int .i64 a2), (3, .optr 0 0 0 0), (7, .bool (a0.fA == 0)), (8, .bool (a0.fB == 0)), (9, .bool b11), (43, .int .i64 a0.fOp), (78, .bool b54)] ∧ η = [.row 0 5 1 46 (fun _ => a0.lit)]) ?_ ?_
 refine .d (sE h (fun hb58 h => ?_) (fun hb58 h => ?_))
 exact ct ⟨_, si h, rfl, rfl⟩ (tk [0] ⟨.i, .i, .p, .b, .b, .b, .i, .b, ⟨⟩⟩ ⟨(nbp rfl), ⟨⟩⟩)
 refine .d (sE h (fun hb59 h => ?_) (fun hb59 h => ?_))
 exact ct ⟨_, si h, rfl, rfl⟩ (tk [0] ⟨.i, .i, .p, .b, .b, .b, .i, .b, ⟨⟩⟩ ⟨(nbp rfl), ⟨⟩⟩)
 exact ct ⟨_, si h, rfl, rfl⟩ (tk [0] ⟨.i, .i, .p, .b, .b, .b, .i, .b, ⟨⟩⟩ ⟨(nbp rfl), ⟨⟩⟩)
 rintro _ _ ⟨b54, rfl, rfl, rfl⟩
 replace h := hk57
 refine sV h (fun hb60 h => ?_) (fun hb60 h => ?_)
 exact ⟨rfl, ⟨rfl, _, rfl, (bk h fun v61 hv62 h => (pcP (ok_s_l1In hv62) (ct ⟨_, _, _, si h, rfl, rfl⟩ (tk [0] ⟨.i, .i, .p, .b, .b, .b, ⟨⟩⟩ ⟨(nbp rfl), ⟨⟩⟩))))⟩⟩
 refine .d (sE h (fun hb63 h => ?_) (fun hb63 h => ?_))
 refine ⟨rfl, ⟨rfl, _, rfl, (sD h (fun hb64 h => ?_) (fun hb64 h => ?_))⟩⟩
 exact ⟨rfl, (.t ⟨rfl, _, rfl, (.t (.t (.t (ct ⟨_, _, _, si h, rfl, rfl⟩ (tk [0] ⟨.i, .i, .p, .b, .b, .b, ⟨⟩⟩ ⟨(nbp rfl), ⟨⟩⟩)))))⟩)⟩
 exact .f (.f (.f (.f (ct ⟨_, _, _, si h, rfl, rfl⟩ (tk [0] ⟨.i, .i, .p, .b, .b, .b, ⟨⟩⟩ ⟨(nbp rfl), ⟨⟩⟩)))))
 refine .d (sE h (fun hb65 h => ?_) (fun hb65 h => ?_))
 exact ⟨rfl, ⟨rfl, _, rfl, (bk h fun v66 hv67 h => (pcP (ok_s_l1In hv67) (ct ⟨_, _, _, si h, rfl, rfl⟩ (tk [0] ⟨.i, .i, .p, .b, .b, .b, ⟨⟩⟩ ⟨(nbp rfl), ⟨⟩⟩))))⟩⟩
 refine .d (sE h (fun hb68 h => ?_) (fun hb68 h => ?_))
 exact ⟨rfl, ⟨rfl, _, rfl, (bk h fun v69 hv70 h => (pcP (ok_s_l1In hv70) (ct ⟨_, _, _, si h, rfl, rfl⟩ (tk [0] ⟨.i, .i, .p, .b, .b, .b, ⟨⟩⟩ ⟨(nbp rfl), ⟨⟩⟩))))⟩⟩
 exact ct ⟨_, _, _, si h, rfl, rfl⟩ (tk [0] ⟨.i, .i, .p, .b, .b, .b, ⟨⟩⟩ ⟨(nbp rfl), ⟨⟩⟩)
 rintro _ _ ⟨b21, b22, b23, rfl, rfl, rfl⟩
 replace h := hk26
 obtain ⟨o72, ho73, hk74⟩ := bd h
 replace h := ho73
 refine .cut (fun σ η => ∃ b71, b71 = o72 ∧ σ = [(2, .int .i64 a2), (3, .optr 0 0 0 0), (7, .bool b71), (8, .bool b22), (9, .bool b23)] ∧ η = [.row 0 5 1 46 (fun _ => a0.lit)]) ?_ ?_
 refine .d ⟨rfl, ⟨rfl, _, rfl, (bk h fun v75 hv76 h => (pcP (ok_s_l25Slot hv76) (sV h (fun hb77 h => ?_) (fun hb77 h => ?_))))⟩⟩
 refine ⟨rfl, ⟨rfl, _, rfl, (sD h (fun hb78 h => ?_) (fun hb78 h => ?_))⟩⟩
 exact ⟨rfl, (.t ⟨rfl, _, rfl, (.t (.t (.t (ct ⟨_, si h, rfl, rfl⟩ (tk [0] ⟨.i, .p, .b, .b, .b, ⟨⟩⟩ ⟨(nbp rfl), ⟨⟩⟩)))))⟩)⟩
 exact .f (.f (.f (.f (ct ⟨_, si h, rfl, rfl⟩ (tk [0] ⟨.i, .p, .b, .b, .b, ⟨⟩⟩ ⟨(nbp rfl), ⟨⟩⟩)))))
 exact ct ⟨_, si h, rfl, rfl⟩ (tk [0] ⟨.i, .p, .b, .b, .b, ⟨⟩⟩ ⟨(nbp rfl), ⟨⟩⟩)
 rintro _ _ ⟨b71, rfl, rfl, rfl⟩
 replace h := hk74
 obtain ⟨o80, ho81, hk82⟩ := bd h
 replace h := ho81
 refine .cut (fun σ η => ∃ b79, b79 = o80 ∧ σ = [(3, .optr 0 0 0 0), (7, .bool b79), (8, .bool b22), (9, .bool b23)] ∧ η = [.row 0 5 1 46 (fun _ => a0.lit)]) ?_ ?_
 refine .d ⟨rfl, ⟨rfl, _, rfl, (bk h fun v83 hv84 h => (pcP (ok_s_HasTarget hv84) (sV h (fun hb85 h => ?_) (fun hb85 h => ?_))))⟩⟩
 refine ⟨rfl, ⟨rfl, _, rfl, (sD h (fun hb86 h => ?_) (fun hb86 h => ?_))⟩⟩
 exact ⟨rfl, (.t ⟨rfl, _, rfl, (.t (.t (.t (ct ⟨_, si h, rfl, rfl⟩ (tk [0] ⟨.p, .b, .b, .b, ⟨⟩⟩ ⟨(nbp rfl), ⟨⟩⟩)))))⟩)⟩
 exact .f (.f (.f (.f (ct ⟨_, si h, rfl, rfl⟩ (tk [0] ⟨.p, .b, .b, .b, ⟨⟩⟩ ⟨(nbp rfl), ⟨⟩⟩)))))
 exact ct ⟨_, si h, rfl, rfl⟩ (tk [0] ⟨.p, .b, .b, .b, ⟨⟩⟩ ⟨(nbp rfl), ⟨⟩⟩)
 rintro _ _ ⟨b79, rfl, rfl, rfl⟩
 replace h := hk82
 refine .d ⟨rfl, ⟨rfl, _, rfl, ?_⟩⟩
 obtain ⟨o88, ho89, hk90⟩ := bd h
 replace h := ho89
 refine .cut (fun σ η => ∃ b87, b87 = o88 ∧ σ = [(3, .optr 0 0 0 0), (7, .bool b79), (8, .bool b22), (9, .bool b23), (10, .bool b87)] ∧ η = [.row 0 5 1 46 (fun _ => a0.lit)]) ?_ ?_
 refine .d ⟨rfl, ⟨rfl, _, rfl, (sE h (fun hb91 h => ?_) (fun hb91 h => ?_))⟩⟩
 exact ⟨rfl, ⟨rfl, _, rfl, (bk h fun v92 hv93 h => (pcP (ok_s_l15Name hv93) (ct ⟨_, si h, rfl, rfl⟩ (tk [0] ⟨.p, .b, .b, .b, .b, ⟨⟩⟩ ⟨(nbp rfl), ⟨⟩⟩))))⟩⟩
 exact ct ⟨_, si h, rfl, rfl⟩ (tk [0] ⟨.p, .b, .b, .b, .b, ⟨⟩⟩ ⟨(nbp rfl), ⟨⟩⟩)
 rintro _ _ ⟨b87, rfl, rfl, rfl⟩
 replace h := hk90
 refine .d ⟨rfl, ⟨rfl, _, rfl, (bk h fun v94 hv95 h => (pcP (ok_s_l1In hv95) (sV h (fun hb96 h => ?_) (fun hb96 h => ?_))))⟩⟩
 refine .t (sV h (fun hb97 h => ?_) (fun hb97 h => ?_))
 refine .t (sV h (fun hb98 h => ?_) (fun hb98 h => ?_))
 refine .t (sV h (fun hb99 h => ?_) (fun hb99 h => ?_))
 exact .t (eB h)
 exact .f (eB h)
 exact .f (.f (.f (eB h)))
 exact .f (.f (.f (.f (.f (eB h)))))
 exact .f (.f (.f (.f (.f (.f (.f (eB h)))))))
end Go.Am
