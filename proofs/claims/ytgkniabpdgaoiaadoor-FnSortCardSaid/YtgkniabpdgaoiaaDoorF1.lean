/- Models of Go functions, and their walks. (Printed by tools/mg.py.) -/
import Derived.Test.YtgkniabpdgaoiaaDoorTy
set_option linter.unusedVariables false
set_option linter.unusedSimpArgs false
namespace Go.Am
open Go Go.RowKit Go.Proofs
def m53 (a0 : Int) (a1 : Int) (a2 : Int) : Option (Bool) :=
 (if a0 ≥ a1 then
 some (decide (a0 ≤ a2))
 else
 some false)
def m92 (a0 : Int) (a1 : Int) (a2 : Int) : Option (Bool) :=
 (if a1 ≤ a0 then
 some (decide (a0 ≤ a2))
 else
 some false)
def m_i_Min (a0 : Int) (a1 : Int) : Option (Int) :=
 (if a1 < a0 then
 some a1
 else
 some a0)
theorem ok_i_Min {a0 : Int} {a1 : Int} {r : Int} (h : m_i_Min a0 a1 = some r) : ACall Tryd.prog 84 [.int .i64 a0, .int .i64 a1] [] (fun res h => res = .int .i64 r ∧ h = []) := by
 refine vc1 Tryd.func84 ?_
 unfold m_i_Min at h
 refine .d (.d (.d (sD h (fun hb1 h => ?_) (fun hb1 h => ?_))))
 exact .d (eI h)
 exact .d (eI h)
def m91 (a0 : Int) (a1 : Int) : Option (Int) :=
 (if a1 > a0 then
 some a1
 else
 some a0)
theorem ok91 {a0 : Int} {a1 : Int} {r : Int} (h : m91 a0 a1 = some r) : ACall Tryd.prog 62 [.int .i64 a0, .int .i64 a1] [] (fun res h => res = .int .i64 r ∧ h = []) := by
 refine vc1 Tryd.func62 ?_
 unfold m91 at h
 refine .d (.d (.d (sD h (fun hb1 h => ?_) (fun hb1 h => ?_))))
 exact .d (eI h)
 exact .d (eI h)
theorem ok_s_ArrayValuex : ACall Tryd.prog 45 [] [] (fun res h => res = .agg [.int .i64 4, .int .i64 0, .str [], .int .i64 0, .nils] ∧ h = []) := by
 refine vc1 Tryd.func45 ?_
 exact .d (.d ⟨rfl, _, fun _ => [.int .i64 4, .int .i64 0, .str [], .int .i64 0, .nils], rfl, one_set rfl, ⟨rfl, _, rfl, (en [] ⟨rfl, rfl⟩ (.agg_l ⟨.i, .i, .s, .i, .nils, ⟨⟩⟩) ⟨⟩)⟩⟩)
theorem ok_s_IntValuex (a0 : Int) : ACall Tryd.prog 34 [.int .i64 a0] [] (fun res h => res = .agg [.int .i64 2, .int .i64 a0, .str [], .int .i64 0, .nils] ∧ h = []) := by
 refine vc1 Tryd.func34 ?_
 exact .d (.d ⟨rfl, _, fun _ => [.int .i64 2, .int .i64 a0, .str [], .int .i64 0, .nils], rfl, one_set rfl, ⟨rfl, _, rfl, (en [] ⟨rfl, rfl⟩ (.agg_l ⟨.i, .i, .s, .i, .nils, ⟨⟩⟩) ⟨⟩)⟩⟩)
theorem ok_s_TextValuex (a0 : Str) : ACall Tryd.prog 80 [.str a0] [] (fun res h => res = .agg [.int .i64 3, .int .i64 0, .str a0, .int .i64 0, .nils] ∧ h = []) := by
 refine vc1 Tryd.func80 ?_
 exact .d (.d ⟨rfl, _, fun _ => [.int .i64 3, .int .i64 0, .str a0, .int .i64 0, .nils], rfl, one_set rfl, ⟨rfl, _, rfl, (en [] ⟨rfl, rfl⟩ (.agg_l ⟨.i, .i, .s, .i, .nils, ⟨⟩⟩) ⟨⟩)⟩⟩)
def m105 (a0 : Bool) : Option (TValue) :=
 (if a0 = true then
 some (TValue.mk 1 1 [] 0 [])
 else
 some (TValue.mk 1 0 [] 0 []))
theorem ok105 {a0 : Bool} {r : TValue} (h : m105 a0 = some r) : ACall Tryd.prog 79 [.bool a0] [] (fun res h => res = .agg r.lit ∧ h = []) := by
 refine vc1 Tryd.func79 ?_
 unfold m105 at h
 refine .d (.d (.d (sV h (fun hb1 h => ?_) (fun hb1 h => ?_))))
 refine .d ⟨rfl, _, fun _ => [.int .i64 1, .int .i64 1, .str [], .int .i64 0, .nils], rfl, one_set rfl, ?_⟩
 obtain rfl := si h
 exact ⟨rfl, _, rfl, (en [] ⟨rfl, rfl⟩ (.agg_l ⟨.i, .i, .s, .i, .z, ⟨⟩⟩) ⟨⟩)⟩
 refine .d ⟨rfl, _, fun _ => [.int .i64 1, .int .i64 0, .str [], .int .i64 0, .nils], rfl, one_set rfl, ?_⟩
 obtain rfl := si h
 exact ⟨rfl, _, rfl, (en [] ⟨rfl, rfl⟩ (.agg_l ⟨.i, .i, .s, .i, .z, ⟨⟩⟩) ⟨⟩)⟩
theorem ok_l_bigx (a0 : List UInt8) : ACall Tryd.prog 5 [sl 1 cB a0] [] (fun res h => res = .bool (decide ((a0.length : Int) > 1048576)) ∧ h = []) := by
 refine vc1 Tryd.func5 ?_
 exact .d (.d (en [] ⟨rfl, rfl⟩ .b ⟨⟩))
def m36_L2 (a0 : List UInt8) (y5 : Int) (y6 : Int) : Option (Int) :=
 (if y6 < (a0.length : Int) then
 (if y6 < 4000 then
 idx a0 y6 >>= fun c11 =>
 m36_L2 a0 (bits .and .i64 (W64 ((W64 ((W64 (y5 * 137)) + (W64 ((c11.toNat : Int))))) + 11)) 1073741823) (W64 (y6 + 1))
 else
 some y5)
 else
 some y5)
partial_fixpoint
def m36 (a0 : List UInt8) : Option (TL1Cur) :=
 (
 m36_L2 a0 (W64 (193017 + (a0.length : Int))) 0
 : Option (Int)) >>= fun y1 =>
 some (TL1Cur.mk a0 0 y1)
theorem ok36 {a0 : List UInt8} {r : TL1Cur} (h : m36 a0 = some r) : ACall Tryd.prog 15 [sl 1 cB a0] [] (fun res h => res = .optr 0 0 0 0 ∧ h = [.row 0 3 1 63 (fun _ => r.lit)]) := by
 refine vc1 Tryd.func15 ?_
 unfold m36 at h
 refine .d (.d ?_)
 obtain ⟨o2, ho3, hk4⟩ := bd h
 replace h := ho3
 refine .cut (fun σ η => ∃ y1, y1 = o2 ∧ σ = [(0, sl 1 cB a0), (3, .int .i64 y1)] ∧ η = []) ?_ ?_
 refine .d ?_
 refine le (m36_L2.partial_correctness a0 (motive := fun y5 y6 o13 => o2 = o13 → LoopAt _ _ [(0, sl 1 cB a0), (3, .int .i64 y5), (4, .int .i64 y6)] []) ?_ (W64 (193017 + (a0.length : Int))) 0 o2 h rfl) (tk [] ⟨.l, .i, .i, ⟨⟩⟩ ⟨⟩)
 intro F8 ih7 y5 y6 o13 h hr14
 subst hr14
 refine LoopAt.round (.d (.d (sD h (fun hb9 h => ?_) (fun hb9 h => ?_))))
 refine .t (.t (sD h (fun hb10 h => ?_) (fun hb10 h => ?_)))
 exact .d (bk h fun c11 hx12 h => ⟨idx_bd hx12, _, (idx_row hx12).trans rfl, (lg (ih7 _ _ _ h rfl) (tk [] ⟨.l, .i, .i, ⟨⟩⟩ ⟨⟩))⟩)
 exact ct ⟨_, si h, rfl, rfl⟩ (tk [] ⟨.l, .i, ⟨⟩⟩ ⟨⟩)
 exact .f (.f (.f (ct ⟨_, si h, rfl, rfl⟩ (tk [] ⟨.l, .i, ⟨⟩⟩ ⟨⟩))))
 rintro _ _ ⟨y1, rfl, rfl, rfl⟩
 replace h := hk4
 refine .d ?_
 obtain rfl := si h
 exact en [0] ⟨rfl, rfl⟩ .p ⟨(nb rfl ⟨.l, .i, .i, ⟨⟩⟩), ⟨⟩⟩
def m72 (a0 : TL1Cur) : Option (Int × TL1Cur) :=
 (if a0.fI < (a0.fB.length : Int) then
 idx a0.fB a0.fI >>= fun c2 =>
 some (bits .and .i64 (W64 ((bits .and .i64 (bits .xor .i64 ((W64 ((W64 (a0.fH * 6364136223846793005)) + 1442695040888963407)).fdiv (2 ^ min (33 : Int).toNat IntKind.i64.bits)) ((W64 ((W64 (a0.fH * 6364136223846793005)) + 1442695040888963407)).fdiv (2 ^ min (47 : Int).toNat IntKind.i64.bits))) 255) + (W64 ((c2.toNat : Int))))) 255, (TL1Cur.mk a0.fB (W64 (a0.fI + 1)) (W64 ((W64 (a0.fH * 6364136223846793005)) + 1442695040888963407))))
 else
 some (bits .and .i64 (bits .xor .i64 ((W64 ((W64 (a0.fH * 6364136223846793005)) + 1442695040888963407)).fdiv (2 ^ min (33 : Int).toNat IntKind.i64.bits)) ((W64 ((W64 (a0.fH * 6364136223846793005)) + 1442695040888963407)).fdiv (2 ^ min (47 : Int).toNat IntKind.i64.bits))) 255, (TL1Cur.mk a0.fB a0.fI (W64 ((W64 (a0.fH * 6364136223846793005)) + 1442695040888963407)))))
theorem ok72 {a0 : TL1Cur} {r : Int × TL1Cur} {g1000 : Nat} (h : m72 a0 = some r) : ACall Tryd.prog 60 [.optr 0 g1000 0 0] [.row g1000 3 1 63 (fun _ => a0.lit)] (fun res h => res = .int .i64 r.1 ∧ h = [.row g1000 3 1 63 (fun _ => r.2.lit)]) := by
 refine vc1 Tryd.func60 ?_
 unfold m72 at h
 refine .d (.d ⟨rfl, ⟨rfl, ⟨rfl, _, rfl, ⟨rfl, ⟨rfl, ⟨rfl, _, fun _ => [sl 1 cB a0.fB, .int .i64 a0.fI, .int .i64 (W64 ((W64 (a0.fH * 6364136223846793005)) + 1442695040888963407))], rfl, one_set rfl, (.d ⟨rfl, ⟨rfl, ⟨rfl, _, rfl, ⟨by decide, ⟨rfl, ⟨rfl, ?_⟩⟩⟩⟩⟩⟩)⟩⟩⟩⟩⟩⟩)
 refine ⟨rfl, _, rfl, ⟨by decide, (.d (.d ⟨rfl, ⟨rfl, ⟨rfl, _, rfl, ⟨rfl, ⟨rfl, ⟨rfl, _, rfl, (sD h (fun hb1 h => ?_) (fun hb1 h => ?_))⟩⟩⟩⟩⟩⟩))⟩⟩
 refine .d ⟨rfl, ⟨rfl, ⟨rfl, _, rfl, ⟨rfl, ⟨rfl, ⟨rfl, _, rfl, (bk h fun c2 hx3 h => ⟨idx_bd hx3, _, (idx_row hx3).trans rfl, ⟨rfl, ⟨rfl, ⟨rfl, _, rfl, ⟨rfl, ⟨rfl, ⟨rfl, _, fun _ => [sl 1 cB a0.fB, .int .i64 (W64 (a0.fI + 1)), .int .i64 (W64 ((W64 (a0.fH * 6364136223846793005)) + 1442695040888963407))], rfl, one_set rfl, ?_⟩⟩⟩⟩⟩⟩⟩)⟩⟩⟩⟩⟩⟩
 refine .d ?_
 obtain rfl := si h
 exact en [0] ⟨rfl, rfl⟩ .i ⟨(ob rfl ⟨.l, .i, .i, ⟨⟩⟩), ⟨⟩⟩
 refine .d ?_
 obtain rfl := si h
 exact en [0] ⟨rfl, rfl⟩ .i ⟨(ob rfl ⟨.l, .i, .i, ⟨⟩⟩), ⟨⟩⟩
def m40 (a0 : TL1Cur) (a1 : Int) : Option (Int × TL1Cur) :=
 (if a1 ≤ 0 then
 some (0, a0)
 else
 (if a1 ≤ 256 then
 m72 a0 >>= fun (v3, v4) =>
 must (a1 ≠ 0) >>= fun _ =>
 some (v3.tmod a1, v4)
 else
 m72 a0 >>= fun (v7, v8) =>
 m72 v8 >>= fun (v10, v11) =>
 m72 v11 >>= fun (v13, v14) =>
 must (a1 ≠ 0) >>= fun _ =>
 some ((W64 ((W64 ((W64 (v7 * 65536)) + (W64 (v10 * 256)))) + v13)).tmod a1, v14)))
theorem ok40 {a0 : TL1Cur} {a1 : Int} {r : Int × TL1Cur} {g1000 : Nat} (h : m40 a0 a1 = some r) : ACall Tryd.prog 31 [.optr 0 g1000 0 0, .int .i64 a1] [.row g1000 3 1 63 (fun _ => a0.lit)] (fun res h => res = .int .i64 r.1 ∧ h = [.row g1000 3 1 63 (fun _ => r.2.lit)]) := by
 refine vc1 Tryd.func31 ?_
 unfold m40 at h
 refine .d (.d (.d (sD h (fun hb1 h => ?_) (fun hb1 h => ?_))))
 refine .d ?_
 obtain rfl := si h
 exact en [0] ⟨rfl, rfl⟩ .i ⟨(ob rfl ⟨.l, .i, .i, ⟨⟩⟩), ⟨⟩⟩
 refine .d (.d (sD h (fun hb2 h => ?_) (fun hb2 h => ?_)))
 refine .d ?_
 obtain ⟨⟨v3, v4⟩, hv5, h⟩ := bd h
 refine pcO (ok72 (g1000 := g1000) hv5) [0] ⟨rfl, ⟨⟩⟩ (.int .i64 v3) [.row g1000 3 1 63 (fun _ => v4.lit)] ?_
 obtain ⟨_, hm6, h⟩ := bd h
 refine ⟨must_some hm6, ?_⟩
 obtain rfl := si h
 exact en [0] ⟨rfl, rfl⟩ .i ⟨(ob rfl ⟨.l, .i, .i, ⟨⟩⟩), ⟨⟩⟩
 refine .d ?_
 obtain ⟨⟨v7, v8⟩, hv9, h⟩ := bd h
 refine pcO (ok72 (g1000 := g1000) hv9) [0] ⟨rfl, ⟨⟩⟩ (.int .i64 v7) [.row g1000 3 1 63 (fun _ => v8.lit)] (.d ?_)
 obtain ⟨⟨v10, v11⟩, hv12, h⟩ := bd h
 refine pcO (ok72 (g1000 := g1000) hv12) [0] ⟨rfl, ⟨⟩⟩ (.int .i64 v10) [.row g1000 3 1 63 (fun _ => v11.lit)] (.d ?_)
 obtain ⟨⟨v13, v14⟩, hv15, h⟩ := bd h
 refine pcO (ok72 (g1000 := g1000) hv15) [0] ⟨rfl, ⟨⟩⟩ (.int .i64 v13) [.row g1000 3 1 63 (fun _ => v14.lit)] (.d ?_)
 obtain ⟨_, hm16, h⟩ := bd h
 refine ⟨must_some hm16, ?_⟩
 obtain rfl := si h
 exact en [0] ⟨rfl, rfl⟩ .i ⟨(ob rfl ⟨.l, .i, .i, ⟨⟩⟩), ⟨⟩⟩
def m37 (a0 : TL1Cur) (a1 : Int) : Option (Bool × TL1Cur) :=
 m40 a0 a1 >>= fun (v1, v2) =>
 some ((v1 == 0), v2)
theorem ok37 {a0 : TL1Cur} {a1 : Int} {r : Bool × TL1Cur} {g1000 : Nat} (h : m37 a0 a1 = some r) : ACall Tryd.prog 32 [.optr 0 g1000 0 0, .int .i64 a1] [.row g1000 3 1 63 (fun _ => a0.lit)] (fun res h => res = .bool r.1 ∧ h = [.row g1000 3 1 63 (fun _ => r.2.lit)]) := by
 refine vc1 Tryd.func32 ?_
 unfold m37 at h
 refine .d (.d ?_)
 obtain ⟨⟨v1, v2⟩, hv3, h⟩ := bd h
 refine pcO (ok40 (g1000 := g1000) hv3) [0] ⟨rfl, ⟨⟩⟩ (.int .i64 v1) [.row g1000 3 1 63 (fun _ => v2.lit)] ?_
 obtain rfl := si h
 exact en [0] ⟨rfl, rfl⟩ .b ⟨(ob rfl ⟨.l, .i, .i, ⟨⟩⟩), ⟨⟩⟩
def m85 (a0 : TL1Cur) (a1 : List Int) : Option (Int × TL1Cur) :=
 m40 a0 (a1.length : Int) >>= fun (v1, v2) =>
 idx a1 v1 >>= fun x4 =>
 some (x4, v2)
theorem ok85 {a0 : TL1Cur} {a1 : List Int} {r : Int × TL1Cur} {g1000 : Nat} {g1001 : Nat} (h : m85 a0 a1 = some r) : ACall Tryd.prog 71 [.optr 0 g1000 0 0, .own 1 g1001 0 a1.length] [.row g1000 3 1 63 (fun _ => a0.lit), .row g1001 1 a1.length 3 (row cI a1)] (fun res h => res = .int .i64 r.1 ∧ h = [.row g1000 3 1 63 (fun _ => r.2.lit), .row g1001 1 a1.length 3 (row cI a1)]) := by
 refine vc1 Tryd.func71 ?_
 unfold m85 at h
 refine .d (.d ⟨rfl, ?_⟩)
 obtain ⟨⟨v1, v2⟩, hv3, h⟩ := bd h
 refine pcO (ok40 (g1000 := g1000) hv3) [0] ⟨rfl, ⟨⟩⟩ (.int .i64 v1) [.row g1000 3 1 63 (fun _ => v2.lit), .row g1001 1 a1.length 3 (row cI a1)] (bk h fun x4 hx5 h => ⟨rfl, idx_bd hx5, _, Nat.zero_add _, ⟨rfl, _, ((idx_row hx5).trans rfl), ?_⟩⟩)
 obtain rfl := si h
 exact en [0, 1] ⟨rfl, rfl⟩ .i ⟨(ob rfl ⟨.l, .i, .i, ⟨⟩⟩), od, ⟨⟩⟩
def m39 (a0 : TL1Cur) (a1 : List Str) : Option (Str × TL1Cur) :=
 m40 a0 (a1.length : Int) >>= fun (v1, v2) =>
 idx a1 v1 >>= fun x4 =>
 some (x4, v2)
theorem ok39 {a0 : TL1Cur} {a1 : List Str} {r : Str × TL1Cur} {g1000 : Nat} {g1001 : Nat} (h : m39 a0 a1 = some r) : ACall Tryd.prog 70 [.optr 0 g1000 0 0, .own 1 g1001 0 a1.length] [.row g1000 3 1 63 (fun _ => a0.lit), .row g1001 1 a1.length 9 (row cS a1)] (fun res h => res = .str r.1 ∧ h = [.row g1000 3 1 63 (fun _ => r.2.lit), .row g1001 1 a1.length 9 (row cS a1)]) := by
 refine vc1 Tryd.func70 ?_
 unfold m39 at h
 refine .d (.d ⟨rfl, ?_⟩)
 obtain ⟨⟨v1, v2⟩, hv3, h⟩ := bd h
 refine pcO (ok40 (g1000 := g1000) hv3) [0] ⟨rfl, ⟨⟩⟩ (.int .i64 v1) [.row g1000 3 1 63 (fun _ => v2.lit), .row g1001 1 a1.length 9 (row cS a1)] (bk h fun x4 hx5 h => ⟨rfl, idx_bd hx5, _, Nat.zero_add _, ⟨rfl, _, ((idx_row hx5).trans rfl), ?_⟩⟩)
 obtain rfl := si h
 exact en [0, 1] ⟨rfl, rfl⟩ .s ⟨(ob rfl ⟨.l, .i, .i, ⟨⟩⟩), od, ⟨⟩⟩
def m107 (a0 : TL1Cur) : Option (Str × TL1Cur) :=
 m39 a0 ([[], [97], [98], [120, 49], [48], [53], [45, 53], [48, 53], [45, 48], [49, 50, 97], [48, 48, 55], [49, 48, 48, 48, 48, 48, 48, 48, 48, 48], [49, 48, 48, 48, 48, 48, 48, 48, 48, 49], [32, 49], [105, 116, 39, 115], [10], [60, 105, 62], [255, 59], [110, 97, 109, 101], [115, 58, 49, 58]] : List Str) >>= fun (v1, v2) =>
 some (v1, v2)
theorem ok107 {a0 : TL1Cur} {r : Str × TL1Cur} {g1000 : Nat} (h : m107 a0 = some r) : ACall Tryd.prog 81 [.optr 0 g1000 0 0] [.row g1000 3 1 63 (fun _ => a0.lit)] (fun res h => res = .str r.1 ∧ h = [.row g1000 3 1 63 (fun _ => r.2.lit)]) := by
 refine vc1 Tryd.func81 ?_
 unfold m107 at h
 refine .d (.d ⟨row cS ([[], [97], [98], [120, 49], [48], [53], [45, 53], [48, 53], [45, 48], [49, 50, 97], [48, 48, 55], [49, 48, 48, 48, 48, 48, 48, 48, 48, 48], [49, 48, 48, 48, 48, 48, 48, 48, 48, 49], [32, 49], [105, 116, 39, 115], [10], [60, 105, 62], [255, 59], [110, 97, 109, 101], [115, 58, 49, 58]] : List Str), row_lit cS ([[], [97], [98], [120, 49], [48], [53], [45, 53], [48, 53], [45, 48], [49, 50, 97], [48, 48, 55], [49, 48, 48, 48, 48, 48, 48, 48, 48, 48], [49, 48, 48, 48, 48, 48, 48, 48, 48, 49], [32, 49], [105, 116, 39, 115], [10], [60, 105, 62], [255, 59], [110, 97, 109, 101], [115, 58, 49, 58]] : List Str) rfl (cll_refl rfl), ?_⟩)
 obtain ⟨⟨v1, v2⟩, hv3, h⟩ := bd h
 refine pcO (ok39 (g1000 := g1000) (g1001 := 0) hv3) [0, 1] ⟨rfl, ov, ⟨⟩⟩ (.str v1) [.row g1000 3 1 63 (fun _ => v2.lit), .row 0 1 ([[], [97], [98], [120, 49], [48], [53], [45, 53], [48, 53], [45, 48], [49, 50, 97], [48, 48, 55], [49, 48, 48, 48, 48, 48, 48, 48, 48, 48], [49, 48, 48, 48, 48, 48, 48, 48, 48, 49], [32, 49], [105, 116, 39, 115], [10], [60, 105, 62], [255, 59], [110, 97, 109, 101], [115, 58, 49, 58]] : List Str).length 9 (row cS ([[], [97], [98], [120, 49], [48], [53], [45, 53], [48, 53], [45, 48], [49, 50, 97], [48, 48, 55], [49, 48, 48, 48, 48, 48, 48, 48, 48, 48], [49, 48, 48, 48, 48, 48, 48, 48, 48, 49], [32, 49], [105, 116, 39, 115], [10], [60, 105, 62], [255, 59], [110, 97, 109, 101], [115, 58, 49, 58]] : List Str))] ?_
 obtain rfl := si h
 exact en [0] ⟨rfl, rfl⟩ .s ⟨(ob rfl ⟨.l, .i, .i, ⟨⟩⟩), ⟨⟩⟩
def m47 (a0 : TL1Cur) : Option (TKey × TL1Cur) :=
 m37 a0 3 >>= fun (v1, v2) =>
 (if v1 = true then
 m39 v2 ([[97], [98], [99], [], [48, 53], [120]] : List Str) >>= fun (v5, v6) =>
 some ((TKey.mk true 0 v5), v6)
 else
 m85 v2 ([0, 1, 2, 3, 4, (-1), 7, 1000000000, (-1000000000)] : List Int) >>= fun (v8, v9) =>
 some ((TKey.mk false v8 []), v9))
theorem ok47 {a0 : TL1Cur} {r : TKey × TL1Cur} {g1000 : Nat} (h : m47 a0 = some r) : ACall Tryd.prog 47 [.optr 0 g1000 0 0] [.row g1000 3 1 63 (fun _ => a0.lit)] (fun res h => res = .agg r.1.lit ∧ h = [.row g1000 3 1 63 (fun _ => r.2.lit)]) := by
 refine vc1 Tryd.func47 ?_
 unfold m47 at h
 refine .d (.d (.d ?_))
 obtain ⟨⟨v1, v2⟩, hv3, h⟩ := bd h
 refine pcO (ok37 (g1000 := g1000) hv3) [0] ⟨rfl, ⟨⟩⟩ (.bool v1) [.row g1000 3 1 63 (fun _ => v2.lit), .row 0 3 1 41 (fun _ => [.bool false, .int .i64 0, .str []])] (sV h (fun hb4 h => ?_) (fun hb4 h => ?_))
 refine .d ⟨row cS ([[97], [98], [99], [], [48, 53], [120]] : List Str), row_lit cS ([[97], [98], [99], [], [48, 53], [120]] : List Str) rfl (cll_refl rfl), ?_⟩
 obtain ⟨⟨v5, v6⟩, hv7, h⟩ := bd h
 refine pcO (ok39 (g1000 := g1000) (g1001 := 0) hv7) [0, 2] ⟨rfl, ov, ⟨⟩⟩ (.str v5) [.row g1000 3 1 63 (fun _ => v6.lit), .row 0 3 1 41 (fun _ => [.bool false, .int .i64 0, .str []]), .row 0 1 ([[97], [98], [99], [], [48, 53], [120]] : List Str).length 9 (row cS ([[97], [98], [99], [], [48, 53], [120]] : List Str))] ⟨rfl, _, fun _ => [.bool true, .int .i64 0, .str v5], rfl, one_set rfl, ?_⟩
 obtain rfl := si h
 exact ⟨rfl, _, rfl, (en [0] ⟨rfl, rfl⟩ (.agg_l ⟨.b, .i, .s, ⟨⟩⟩) ⟨(ob rfl ⟨.l, .i, .i, ⟨⟩⟩), ⟨⟩⟩)⟩
 refine .d ⟨row cI ([0, 1, 2, 3, 4, (-1), 7, 1000000000, (-1000000000)] : List Int), row_lit cI ([0, 1, 2, 3, 4, (-1), 7, 1000000000, (-1000000000)] : List Int) rfl (cll_refl rfl), ?_⟩
 obtain ⟨⟨v8, v9⟩, hv10, h⟩ := bd h
 refine pcO (ok85 (g1000 := g1000) (g1001 := 0) hv10) [0, 2] ⟨rfl, ov, ⟨⟩⟩ (.int .i64 v8) [.row g1000 3 1 63 (fun _ => v9.lit), .row 0 3 1 41 (fun _ => [.bool false, .int .i64 0, .str []]), .row 0 1 ([0, 1, 2, 3, 4, (-1), 7, 1000000000, (-1000000000)] : List Int).length 3 (row cI ([0, 1, 2, 3, 4, (-1), 7, 1000000000, (-1000000000)] : List Int))] ⟨rfl, _, fun _ => [.bool false, .int .i64 v8, .str []], rfl, one_set rfl, ?_⟩
 obtain rfl := si h
 exact ⟨rfl, _, rfl, (en [0] ⟨rfl, rfl⟩ (.agg_l ⟨.b, .i, .s, ⟨⟩⟩) ⟨(ob rfl ⟨.l, .i, .i, ⟨⟩⟩), ⟨⟩⟩)⟩
def m90_L2 (a0 : TValue) (a1 : TKey) (y4 : Int) : Option ((Unit) ⊕ Int) :=
 (if a0.fKind = 4 then
 (if y4 < (a0.fItems.length : Int) then
 idx a0.fItems y4 >>= fun x9 =>
 (if x9.fKey = a1 then
 some (.inr y4)
 else
 m90_L2 a0 a1 (W64 (y4 + 1)))
 else
 some (.inl ()))
 else
 some (.inl ()))
partial_fixpoint
def m90 (a0 : TValue) (a1 : TKey) : Option (Int) :=
 ((
 m90_L2 a0 a1 0
 : Option ((Unit) ⊕ Int)) >>= fun o1 => match o1 with
 | .inr r => some r
 | .inl _ =>
 some (-1)
 )
theorem ok90 {a0 : TValue} {a1 : TKey} {r : Int} (h : m90 a0 a1 = some r) : ACall Tryd.prog 56 [.agg a0.lit, .agg a1.lit] [] (fun res h => res = .int .i64 r ∧ h = []) := by
 refine vc1 Tryd.func56 ?_
 unfold m90 at h
 refine .d ?_
 obtain ⟨o1, ho2, hk3⟩ := bd h
 replace h := ho2
 refine .cut (fun σ η => .inl () = o1 ∧ σ = [] ∧ η = []) ?_ ?_
 refine .d ?_
 refine le (m90_L2.partial_correctness a0 a1 (motive := fun y4 o12 => o1 = o12 → LoopAt _ _ [(2, .optr 0 0 0 0), (3, .optr 1 0 0 0), (5, .int .i64 y4)] [.row 0 5 1 29 (fun _ => a0.lit), .row 0 3 1 41 (fun _ => a1.lit)]) ?_ 0 o1 h rfl) (tk [0, 1] ⟨.p, .p, .i, ⟨⟩⟩ ⟨(nbp rfl), (nbp rfl), ⟨⟩⟩)
 intro F6 ih5 y4 o12 h hr13
 subst hr13
 refine LoopAt.round (.d (.d ⟨rfl, ⟨rfl, _, rfl, (sE h (fun hb7 h => ?_) (fun hb7 h => ?_))⟩⟩))
 refine .t ⟨rfl, (.t ⟨rfl, _, rfl, (.t (.t (.t (sD h (fun hb8 h => ?_) (fun hb8 h => ?_)))))⟩)⟩
 refine .d (.d ⟨rfl, ⟨rfl, _, rfl, (bk h fun x9 hx10 h => ⟨idx_bd hx10, _, (idx_row hx10).trans (TEntry.cells_eq x9), ⟨rfl, _, rfl, ⟨_, TKey.eq_cells x9.fKey a1, (sD h (fun hb11 h => ?_) (fun hb11 h => ?_))⟩⟩⟩)⟩⟩)
 refine .d ?_
 obtain rfl := si h
 replace h := hk3
 exact eI h
 exact lg (ih5 _ _ h rfl) (tk [0, 1] ⟨.p, .p, .i, ⟨⟩⟩ ⟨(nbp rfl), (nbp rfl), ⟨⟩⟩)
 exact ct ⟨si h, rfl, rfl⟩ (tk [] ⟨⟩ ⟨⟩)
 exact .f (.f (.f (.f (.f (.f (ct ⟨si h, rfl, rfl⟩ (tk [] ⟨⟩ ⟨⟩)))))))
 rintro _ _ ⟨rfl, rfl, rfl⟩
 replace h := hk3
 exact .d (eI h)
def m27_L2 (a0 : TValue) (a1 : TKey) (y5 : Int) : Option ((Unit) ⊕ Int) :=
 (if y5 < (a0.fItems.length : Int) then
 idx a0.fItems y5 >>= fun x9 =>
 (if x9.fKey = a1 then
 some (.inr y5)
 else
 m27_L2 a0 a1 (W64 (y5 + 1)))
 else
 some (.inl ()))
partial_fixpoint
def m27 (a0 : TValue) (a1 : TKey) : Option (Int) :=
 (if a0.fKind = 4 then
 ((
 m27_L2 a0 a1 0
 : Option ((Unit) ⊕ Int)) >>= fun o2 => match o2 with
 | .inr r => some r
 | .inl _ =>
 some (-1)
 )
 else
 some (-1))
theorem ok27 {a0 : TValue} {a1 : TKey} {r : Int} (h : m27 a0 a1 = some r) : ACall Tryd.prog 68 [.agg a0.lit, .agg a1.lit] [] (fun res h => res = .int .i64 r ∧ h = []) := by
 refine vc1 Tryd.func68 ?_
 unfold m27 at h
 refine .d (.d (.d ⟨rfl, ⟨rfl, _, rfl, (sN h (fun hb1 h => ?_) (fun hb1 h => ?_))⟩⟩))
 exact .d (eI h)
 obtain ⟨o2, ho3, hk4⟩ := bd h
 replace h := ho3
 refine .cut (fun σ η => .inl () = o2 ∧ σ = [] ∧ η = []) ?_ ?_
 refine .d ⟨rfl, ⟨rfl, _, rfl, ?_⟩⟩
 refine le (m27_L2.partial_correctness a0 a1 (motive := fun y5 o12 => o2 = o12 → LoopAt _ _ [(3, .optr 0 0 0 0), (11, sl 8 TEntry.cells a0.fItems), (12, .int .i64 (a0.fItems.length : Int)), (13, .int .i64 y5)] [.row 0 3 1 41 (fun _ => a1.lit)]) ?_ 0 o2 h rfl) (tk [1] ⟨.p, .l, .i, .i, ⟨⟩⟩ ⟨(nbp rfl), ⟨⟩⟩)
 intro F7 ih6 y5 o12 h hr13
 subst hr13
 refine LoopAt.round (.d (.d (sD h (fun hb8 h => ?_) (fun hb8 h => ?_))))
 refine .d (.d (bk h fun x9 hx10 h => ⟨idx_bd hx10, _, (idx_row hx10).trans (TEntry.cells_eq x9), ⟨rfl, _, fun _ => [.bool x9.fKey.fText, .int .i64 x9.fKey.fNum, .str x9.fKey.fStr, .int .i64 x9.fVal.fKind, .int .i64 x9.fVal.fNum, .str x9.fVal.fStr, .int .i64 x9.fVal.fNext, sl 8 TEntry.cells x9.fVal.fItems], rfl, one_set rfl, (.d ⟨rfl, ⟨rfl, _, rfl, ⟨rfl, _, rfl, ⟨_, TKey.eq_cells x9.fKey a1, (sD h (fun hb11 h => ?_) (fun hb11 h => ?_))⟩⟩⟩⟩)⟩⟩))
 refine .d ?_
 obtain rfl := si h
 replace h := hk4
 exact eI h
 exact lg (ih6 _ _ h rfl) (tk [0] ⟨.p, .l, .i, .i, ⟨⟩⟩ ⟨(nbp rfl), ⟨⟩⟩)
 exact ct ⟨si h, rfl, rfl⟩ (tk [] ⟨⟩ ⟨⟩)
 rintro _ _ ⟨rfl, rfl, rfl⟩
 replace h := hk4
 exact .d (eI h)
end Go.Am
