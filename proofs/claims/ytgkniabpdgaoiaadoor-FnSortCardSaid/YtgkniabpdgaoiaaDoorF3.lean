/- Models of Go functions, and their walks. (Printed by tools/mg.py.) -/
import Derived.Test.YtgkniabpdgaoiaaDoorF2
import Derived.Test.YtgkniabpdgaoiaaDoorL1
set_option linter.unusedVariables false
set_option linter.unusedSimpArgs false
namespace Go.Am
open Go Go.RowKit Go.Proofs
def m69 (a0 : Str) : Option (Int × Bool) :=
 m98 a0 (-1000000000) 1000000000 >>= fun (v1, v2) =>
 some (v1, v2)
def m55 (a0 : TKey) : Option (Bool) :=
 (if a0.fText = true then
 m69 a0.fStr >>= fun (v5, v6) =>
 (if a0.fNum = 0 then
 (if (a0.fStr.length : Int) ≤ 400 then
 some (!v6)
 else
 some false)
 else
 some false)
 else
 (if a0.fStr = ([] : Str) then
 m92 a0.fNum (-1000000000) 1000000000 >>= fun v3 =>
 some v3
 else
 some false))
def m89 (a0 : TL1Cur) : Option (TValue × TL1Cur) :=
 m40 a0 8 >>= fun (v1, v2) =>
 (if v1 = 0 then
 some ((TValue.mk 0 0 [] 0 []), v2)
 else
 (if v1 = 1 then
 m37 v2 2 >>= fun (v6, v7) =>
 m105 v6 >>= fun v9 =>
 some (v9, v7)
 else
 (
 (if v1 = 2 then
 some (v1 == 2)
 else
 some (v1 == 3))
 : Option (Bool)) >>= fun b11 =>
 (if b11 = true then
 m107 v2 >>= fun (v17, v18) =>
 some ((TValue.mk 3 0 v17 0 []), v18)
 else
 (if v1 = 4 then
 m85 v2 ([0, 1, (-1), 5, 10, 999999999, 1000000000, (-1000000000)] : List Int) >>= fun (v21, v22) =>
 some ((TValue.mk 2 v21 [] 0 []), v22)
 else
 m40 v2 20 >>= fun (v24, v25) =>
 some ((TValue.mk 2 (W64 (v24 - 5)) [] 0 []), v25)))))
theorem ok89 {a0 : TL1Cur} {r : TValue × TL1Cur} {g1000 : Nat} (h : m89 a0 = some r) : ACall Tryd.prog 61 [.optr 0 g1000 0 0] [.row g1000 3 1 63 (fun _ => a0.lit)] (fun res h => res = .agg r.1.lit ∧ h = [.row g1000 3 1 63 (fun _ => r.2.lit)]) := by
 refine vc1 Tryd.func61 ?_
 unfold m89 at h
 refine .d (.d (.d ?_))
 obtain ⟨⟨v1, v2⟩, hv3, h⟩ := bd h
 refine pcO (ok40 (g1000 := g1000) hv3) [0] ⟨rfl, ⟨⟩⟩ (.int .i64 v1) [.row g1000 3 1 63 (fun _ => v2.lit), .row 0 5 1 29 (fun _ => [.int .i64 0, .int .i64 0, .str [], .int .i64 0, .nils])] (.d (sE h (fun hb4 h => ?_) (fun hb4 h => ?_)))
 refine .d ⟨rfl, _, fun _ => [.int .i64 0, .int .i64 0, .str [], .int .i64 0, .nils], rfl, one_set rfl, ?_⟩
 obtain rfl := si h
 exact ⟨rfl, _, rfl, (en [0] ⟨rfl, rfl⟩ (.agg_l ⟨.i, .i, .s, .i, .z, ⟨⟩⟩) ⟨(ob rfl ⟨.l, .i, .i, ⟨⟩⟩), ⟨⟩⟩)⟩
 refine .d (sE h (fun hb5 h => ?_) (fun hb5 h => ?_))
 refine .d ?_
 obtain ⟨⟨v6, v7⟩, hv8, h⟩ := bd h
 refine pcO (ok37 (g1000 := g1000) hv8) [0] ⟨rfl, ⟨⟩⟩ (.bool v6) [.row g1000 3 1 63 (fun _ => v7.lit), .row 0 5 1 29 (fun _ => [.int .i64 0, .int .i64 0, .str [], .int .i64 0, .nils])] (bk h fun v9 hv10 h => (pcP (ok105 hv10) ⟨rfl, _, fun _ => [.int .i64 v9.fKind, .int .i64 v9.fNum, .str v9.fStr, .int .i64 v9.fNext, sl 8 TEntry.cells v9.fItems], rfl, one_set rfl, ?_⟩))
 obtain rfl := si h
 exact ⟨rfl, _, rfl, (en [0] ⟨rfl, rfl⟩ (.agg_l ⟨.i, .i, .s, .i, .l, ⟨⟩⟩) ⟨(ob rfl ⟨.l, .i, .i, ⟨⟩⟩), ⟨⟩⟩)⟩
 obtain ⟨o12, ho13, hk14⟩ := bd h
 replace h := ho13
 refine .cut (fun σ η => ∃ b11, b11 = o12 ∧ σ = [(0, .optr 0 g1000 0 0), (2, .optr 1 0 0 0), (4, .int .i64 v1), (13, .bool b11)] ∧ η = [.row g1000 3 1 63 (fun _ => v2.lit), .row 0 5 1 29 (fun _ => [.int .i64 0, .int .i64 0, .str [], .int .i64 0, .nils])]) ?_ ?_
 refine .d (sE h (fun hb15 h => ?_) (fun hb15 h => ?_))
 exact ct ⟨_, si h, rfl, rfl⟩ (tk [0, 1] ⟨.p, .p, .i, .b, ⟨⟩⟩ ⟨(obp rfl), (nb rfl ⟨.i, .i, .s, .i, .nils, ⟨⟩⟩), ⟨⟩⟩)
 exact ct ⟨_, si h, rfl, rfl⟩ (tk [0, 1] ⟨.p, .p, .i, .b, ⟨⟩⟩ ⟨(obp rfl), (nb rfl ⟨.i, .i, .s, .i, .nils, ⟨⟩⟩), ⟨⟩⟩)
 rintro _ _ ⟨b11, rfl, rfl, rfl⟩
 replace h := hk14
 refine sV h (fun hb16 h => ?_) (fun hb16 h => ?_)
 refine .d ?_
 obtain ⟨⟨v17, v18⟩, hv19, h⟩ := bd h
 refine pcO (ok107 (g1000 := g1000) hv19) [0] ⟨rfl, ⟨⟩⟩ (.str v17) [.row g1000 3 1 63 (fun _ => v18.lit), .row 0 5 1 29 (fun _ => [.int .i64 0, .int .i64 0, .str [], .int .i64 0, .nils])] (pcP (ok_s_TextValuex v17) ⟨rfl, _, fun _ => [.int .i64 3, .int .i64 0, .str v17, .int .i64 0, .nils], rfl, one_set rfl, ?_⟩)
 obtain rfl := si h
 exact ⟨rfl, _, rfl, (en [0] ⟨rfl, rfl⟩ (.agg_l ⟨.i, .i, .s, .i, .z, ⟨⟩⟩) ⟨(ob rfl ⟨.l, .i, .i, ⟨⟩⟩), ⟨⟩⟩)⟩
 refine .d (sE h (fun hb20 h => ?_) (fun hb20 h => ?_))
 refine .d ⟨row cI ([0, 1, (-1), 5, 10, 999999999, 1000000000, (-1000000000)] : List Int), row_lit cI ([0, 1, (-1), 5, 10, 999999999, 1000000000, (-1000000000)] : List Int) rfl (cll_refl rfl), ?_⟩
 obtain ⟨⟨v21, v22⟩, hv23, h⟩ := bd h
 refine pcO (ok85 (g1000 := g1000) (g1001 := 0) hv23) [0, 2] ⟨rfl, ov, ⟨⟩⟩ (.int .i64 v21) [.row g1000 3 1 63 (fun _ => v22.lit), .row 0 5 1 29 (fun _ => [.int .i64 0, .int .i64 0, .str [], .int .i64 0, .nils]), .row 0 1 ([0, 1, (-1), 5, 10, 999999999, 1000000000, (-1000000000)] : List Int).length 3 (row cI ([0, 1, (-1), 5, 10, 999999999, 1000000000, (-1000000000)] : List Int))] (pcP (ok_s_IntValuex v21) ⟨rfl, _, fun _ => [.int .i64 2, .int .i64 v21, .str [], .int .i64 0, .nils], rfl, one_set rfl, ?_⟩)
 obtain rfl := si h
 exact ⟨rfl, _, rfl, (en [0] ⟨rfl, rfl⟩ (.agg_l ⟨.i, .i, .s, .i, .z, ⟨⟩⟩) ⟨(ob rfl ⟨.l, .i, .i, ⟨⟩⟩), ⟨⟩⟩)⟩
 refine .d ?_
 obtain ⟨⟨v24, v25⟩, hv26, h⟩ := bd h
 refine pcO (ok40 (g1000 := g1000) hv26) [0] ⟨rfl, ⟨⟩⟩ (.int .i64 v24) [.row g1000 3 1 63 (fun _ => v25.lit), .row 0 5 1 29 (fun _ => [.int .i64 0, .int .i64 0, .str [], .int .i64 0, .nils])] (pcP (ok_s_IntValuex (W64 (v24 - 5))) ⟨rfl, _, fun _ => [.int .i64 2, .int .i64 (W64 (v24 - 5)), .str [], .int .i64 0, .nils], rfl, one_set rfl, ?_⟩)
 obtain rfl := si h
 exact ⟨rfl, _, rfl, (en [0] ⟨rfl, rfl⟩ (.agg_l ⟨.i, .i, .s, .i, .z, ⟨⟩⟩) ⟨(ob rfl ⟨.l, .i, .i, ⟨⟩⟩), ⟨⟩⟩)⟩
end Go.Am
