/- Models of Go functions, and their walks. (Printed by tools/mg.py.) -/
import Derived.Test.YtcipcpjmialcoaaDoorS2
import Derived.Test.YtcipcpjmialcoaaDoorS5
import Derived.Test.YtcipcpjmialcoaaDoorS6
set_option linter.unusedVariables false
set_option linter.unusedSimpArgs false
set_option synthInstance.maxHeartbeats 400000
set_option synthInstance.maxSize 4000
set_option maxRecDepth 100000
namespace Go.Am
open Go Go.RowKit Go.Proofs
def m_l_FnExactUnserialize (a0 : Str) : Option (Bool) :=
 (if (a0.length : Int) > 1048576 then
 some true
 else
 m_s_Unserialize a0 >>= fun (v2, v3) =>
 (
 m_i_Unserialize a0 >>= fun (v16, v17) =>
 some (v16.fKind, v16.fNum, v16.fStr, v16.fNext, v16.fItems, v17)
 : Option (Int × Int × Str × Int × (List TEntry) × Bool)) >>= fun (y5, y6, s7, y8, l9, b12) =>
 m_l_eqValue (TValue.mk y5 y6 s7 y8 l9) v2 >>= fun v21 =>
 (if v21 = true then
 (if b12 = v3 then
 (
 m_l_markValue (TValue.mk y5 y6 s7 y8 l9) 1 >>= fun (v32, v33) =>
 some (v33.fItems, v32)
 : Option ((List TEntry) × Int)) >>= fun (l25, y28) =>
 m_l_heldValue (TValue.mk y5 y6 s7 y8 l25) 1 >>= fun v37 =>
 (if v37 < 0 then
 some false
 else
 (if v37 = y28 then
 (
 m_i_Unserialize a0 >>= fun (v52, v53) =>
 some (v52.fKind, v52.fNum, v52.fStr, v52.fNext, v52.fItems, v53)
 : Option (Int × Int × Str × Int × (List TEntry) × Bool)) >>= fun (y41, y42, s43, y44, l45, b48) =>
 m_l_eqValue (TValue.mk y41 y42 s43 y44 l45) v2 >>= fun v57 =>
 (if v57 = true then
 (if b48 = v3 then
 (
 m_l_heldValue (TValue.mk y5 y6 s7 y8 l25) 1 >>= fun v65 =>
 some v65
 : Option (Int)) >>= fun y61 =>
 (if y61 < 0 then
 some false
 else
 (if y61 = y28 then
 some true
 else
 some false))
 else
 some false)
 else
 some false)
 else
 some false))
 else
 some false)
 else
 some false))
theorem ok_l_FnExactUnserialize {a0 : Str} {r : Bool} (h : m_l_FnExactUnserialize a0 = some r) : ACall Tryd.prog 3 [.str a0] [] (fun res h => res = .bool r ∧ h = []) := by
 refine vc1 Tryd.func3 ?_
 unfold m_l_FnExactUnserialize at h
 refine .d (.d (.d (sD h (fun hb1 h => ?_) (fun hb1 h => ?_))))
 exact .d (eB h)
 refine .d ?_
 obtain ⟨⟨v2, v3⟩, hv4, h⟩ := bd h
 refine pcP (ok_s_Unserialize hv4) ⟨rfl, _, fun _ => [.int .i64 v2.fKind, .int .i64 v2.fNum, .str v2.fStr, .int .i64 v2.fNext, sl 8 TEntry.cells v2.fItems], rfl, one_set rfl, ?_⟩
 obtain ⟨o13, ho14, hk15⟩ := bd h
 replace h := ho14
 refine .cut (fun σ η => ∃ y5, ∃ y6, ∃ s7, ∃ y8, ∃ l9, ∃ b12, ∃ f10 : Nat → List PV, DR TEntry.D l9.length f10 l9 ∧ (y5, y6, s7, y8, l9, b12) = o13 ∧ σ = [(0, .str a0), (3, .optr 0 0 0 0), (4, .bool v3), (5, .optr 1 0 0 0), (6, .bool b12)] ∧ η = [.row 0 5 1 24 (fun _ => v2.lit), .row 0 5 1 24 (fun _ => [.int .i64 y5, .int .i64 y6, .str s7, .int .i64 y8, .own 2 0 0 l9.length]), .row 0 8 l9.length 63 f10]) ?_ ?_
 obtain ⟨⟨v16, v17⟩, hv18, h⟩ := bd h
 refine pcFq (ok_i_Unserialize hv18) ?_
 rintro _ _ ⟨f19, d20, rfl, rfl⟩
 exact ⟨.tup [.agg [.int .i64 v16.fKind, .int .i64 v16.fNum, .str v16.fStr, .int .i64 v16.fNext, .own 1 0 0 v16.fItems.length], .bool v17], [.row 0 5 1 24 (fun _ => v2.lit), .row 0 8 v16.fItems.length 63 f19], rfl, (by simp only [List.map_cons, List.map_nil, shr, shd d20]; rfl), ⟨rfl, _, fun _ => [.int .i64 v16.fKind, .int .i64 v16.fNum, .str v16.fStr, .int .i64 v16.fNext, .own 1 0 0 v16.fItems.length], rfl, one_set rfl, (ct ⟨_, _, _, _, _, _, f19, d20, si h, rfl, rfl⟩ (tk [0, 2, 1] ⟨.s, .p, .b, .p, .b, ⟨⟩⟩ ⟨(nbp rfl), (nb rfl ⟨.i, .i, .s, .i, (.od (by first | rfl | exact d20.len | exact d20.len.symm)), ⟨⟩⟩), (nwd d20), ⟨⟩⟩))⟩⟩
 rintro _ _ ⟨y5, y6, s7, y8, l9, b12, f10, d11, rfl, rfl, rfl⟩
 replace h := hk15
 refine .d (.d ⟨rfl, _, rfl, ⟨rfl, _, rfl, (bk h fun v21 hv22 h => (pcS (ok_l_eqValue hv22) ⟨.agg_l ⟨.i, .i, .s, .i, (.rd d11), ⟨⟩⟩, .agg_l ⟨.i, .i, .s, .i, .l, ⟨⟩⟩, ⟨⟩⟩ (sVn h (fun hb23 h => ?_) (fun hb23 h => ?_))))⟩⟩)
 exact .t (.t (.t (.t (.d (eB h)))))
 refine .f (.f (.f (sEn h (fun hb24 h => ?_) (fun hb24 h => ?_))))
 exact .d (eB h)
 refine .d ?_
 obtain ⟨o29, ho30, hk31⟩ := bd h
 replace h := ho30
 refine .cut (fun σ η => ∃ l25, ∃ y28, ∃ f26 : Nat → List PV, DR TEntry.D l9.length f26 l25 ∧ (l25, y28) = o29 ∧ σ = [(0, .str a0), (3, .optr 0 0 0 0), (4, .bool v3), (5, .optr 1 0 0 0), (7, .int .i64 y28)] ∧ η = [.row 0 5 1 24 (fun _ => v2.lit), .row 0 5 1 24 (fun _ => [.int .i64 y5, .int .i64 y6, .str s7, .int .i64 y8, .own 2 0 0 l9.length]), .row 0 8 l9.length 63 f26]) ?_ ?_
 refine ⟨rfl, _, rfl, ?_⟩
 obtain ⟨⟨v32, v33⟩, hv34, h⟩ := bd h
 refine pcOq (ok_l_markValue (g1000 := 0) hv34 d11) [2] ⟨(ovd d11), ⟨⟩⟩ ?_
 rintro _ _ ⟨f35, d36, rfl, rfl⟩
 exact ⟨.int .i64 v32, [.row 0 5 1 24 (fun _ => v2.lit), .row 0 5 1 24 (fun _ => [.int .i64 y5, .int .i64 y6, .str s7, .int .i64 y8, .own 2 0 0 l9.length]), .row 0 8 l9.length 63 f35], rfl, (by simp only [nxtL, putSel, List.map_cons, List.map_nil, List.drop, List.length_cons, List.length_nil, rer, red d36, red d11]; rfl), (ct ⟨_, _, f35, d36, si h, rfl, rfl⟩ (tk [0, 1, 2] ⟨.s, .p, .b, .p, .i, ⟨⟩⟩ ⟨(nbp rfl), (nb rfl ⟨.i, .i, .s, .i, (.od (by first | rfl | exact d36.len | exact d36.len.symm)), ⟨⟩⟩), (nwd d36), ⟨⟩⟩))⟩
 rintro _ _ ⟨l25, y28, f26, d27, rfl, rfl, rfl⟩
 replace h := hk31
 refine .d (.d ⟨rfl, _, rfl, (bk h fun v37 hv38 h => (pcS (ok_l_heldValue hv38) ⟨.agg_l ⟨.i, .i, .s, .i, (.rd d27 (by first | rfl | exact d27.len | exact d27.len.symm)), ⟨⟩⟩, .i, ⟨⟩⟩ (.d (.d (sD h (fun hb39 h => ?_) (fun hb39 h => ?_))))))⟩)
 exact .d (eB h)
 refine .d (.d (sN h (fun hb40 h => ?_) (fun hb40 h => ?_)))
 exact .d (eB h)
 obtain ⟨o49, ho50, hk51⟩ := bd h
 replace h := ho50
 refine .cut (fun σ η => ∃ y41, ∃ y42, ∃ s43, ∃ y44, ∃ l45, ∃ b48, ∃ f46 : Nat → List PV, DR TEntry.D l45.length f46 l45 ∧ (y41, y42, s43, y44, l45, b48) = o49 ∧ σ = [(3, .optr 0 0 0 0), (4, .bool v3), (5, .optr 1 0 0 0), (7, .int .i64 y28), (9, .optr 3 0 0 0), (10, .bool b48)] ∧ η = [.row 0 5 1 24 (fun _ => v2.lit), .row 0 5 1 24 (fun _ => [.int .i64 y5, .int .i64 y6, .str s7, .int .i64 y8, .own 2 0 0 l9.length]), .row 0 8 l9.length 63 f26, .row 0 5 1 24 (fun _ => [.int .i64 y41, .int .i64 y42, .str s43, .int .i64 y44, .own 4 0 0 l45.length]), .row 0 8 l45.length 63 f46]) ?_ ?_
 obtain ⟨⟨v52, v53⟩, hv54, h⟩ := bd h
 refine pcFq (ok_i_Unserialize hv54) ?_
 rintro _ _ ⟨f55, d56, rfl, rfl⟩
 exact ⟨.tup [.agg [.int .i64 v52.fKind, .int .i64 v52.fNum, .str v52.fStr, .int .i64 v52.fNext, .own 3 0 0 v52.fItems.length], .bool v53], [.row 0 5 1 24 (fun _ => v2.lit), .row 0 5 1 24 (fun _ => [.int .i64 y5, .int .i64 y6, .str s7, .int .i64 y8, .own 2 0 0 l9.length]), .row 0 8 l9.length 63 f26, .row 0 8 v52.fItems.length 63 f55], rfl, (by simp only [List.map_cons, List.map_nil, shr, shd d56]; rfl), ⟨rfl, _, fun _ => [.int .i64 v52.fKind, .int .i64 v52.fNum, .str v52.fStr, .int .i64 v52.fNext, .own 3 0 0 v52.fItems.length], rfl, one_set rfl, (ct ⟨_, _, _, _, _, _, f55, d56, si h, rfl, rfl⟩ (tk [0, 1, 2, 4, 3] ⟨.p, .b, .p, .i, .p, .b, ⟨⟩⟩ ⟨(nbp rfl), (nb rfl ⟨.i, .i, .s, .i, (.od (by first | rfl | exact d27.len | exact d27.len.symm)), ⟨⟩⟩), (nwd d27), (nb rfl ⟨.i, .i, .s, .i, (.od (by first | rfl | exact d56.len | exact d56.len.symm)), ⟨⟩⟩), (nwd d56), ⟨⟩⟩))⟩⟩
 rintro _ _ ⟨y41, y42, s43, y44, l45, b48, f46, d47, rfl, rfl, rfl⟩
 replace h := hk51
 refine .d (.d ⟨rfl, _, rfl, ⟨rfl, _, rfl, (bk h fun v57 hv58 h => (pcS (ok_l_eqValue hv58) ⟨.agg_l ⟨.i, .i, .s, .i, (.rd d47), ⟨⟩⟩, .agg_l ⟨.i, .i, .s, .i, .l, ⟨⟩⟩, ⟨⟩⟩ (sVn h (fun hb59 h => ?_) (fun hb59 h => ?_))))⟩⟩)
 exact .t (.t (.t (.t (.d (eB h)))))
 refine .f (.f (.f (sEn h (fun hb60 h => ?_) (fun hb60 h => ?_))))
 exact .d (eB h)
 refine .d ?_
 obtain ⟨o62, ho63, hk64⟩ := bd h
 replace h := ho63
 refine .cut (fun σ η => ∃ y61, y61 = o62 ∧ σ = [(7, .int .i64 y28), (8, .int .i64 y61)] ∧ η = []) ?_ ?_
 exact ⟨rfl, _, rfl, (bk h fun v65 hv66 h => (pcS (ok_l_heldValue hv66) ⟨.agg_l ⟨.i, .i, .s, .i, (.rd d27 (by first | rfl | exact d27.len | exact d27.len.symm)), ⟨⟩⟩, .i, ⟨⟩⟩ (ct ⟨_, si h, rfl, rfl⟩ (tk [] ⟨.i, .i, ⟨⟩⟩ ⟨⟩))))⟩
 rintro _ _ ⟨y61, rfl, rfl, rfl⟩
 replace h := hk64
 refine .d (.d (sD h (fun hb67 h => ?_) (fun hb67 h => ?_)))
 exact .d (eB h)
 refine .d (.d (sN h (fun hb68 h => ?_) (fun hb68 h => ?_)))
 exact .d (eB h)
 exact .d (eB h)
end Go.Am
