/- Models of Go functions, and their walks. (Printed by tools/mg.py.) -/
import Derived.Test.YtgkniabpdgaoiaaGreatDoorF2
import Derived.Test.YtgkniabpdgaoiaaGreatDoorL1
set_option linter.unusedVariables false
set_option linter.unusedSimpArgs false
namespace Go.Am
open Go Go.RowKit Go.Proofs
def m69 (a0 : Str) : Option (Int × Bool) :=
 m98 a0 (-1000000000) 1000000000 >>= fun (v1, v2) =>
 some (v1, v2)
theorem ok69 {a0 : Str} {r : Int × Bool} (h : m69 a0 = some r) : ACall Tryz.prog 92 [.str a0] [] (fun res h => res = .tup [.int .i64 r.1, .bool r.2] ∧ h = []) := by
 refine vc1 Tryz.func92 ?_
 unfold m69 at h
 refine .d (.d ?_)
 obtain ⟨⟨v1, v2⟩, hv3, h⟩ := bd h
 refine pcP (ok98 hv3) ?_
 obtain rfl := si h
 exact en [] ⟨rfl, rfl⟩ (.tup_l ⟨.i, .b, ⟨⟩⟩) ⟨⟩
def m55 (a0 : TKey) : Option (Bool) :=
 (if a0.fText = true then
 m69 a0.fStr >>= fun (v5, v6) =>
 (if a0.fNum = 0 then
 (if (a0.fStr.length : Int) ≤ 400 then
 some (!v6)
 else
 some false)
 else
 some false)
 else
 (if a0.fStr = ([] : Str) then
 m92 a0.fNum (-1000000000) 1000000000 >>= fun v3 =>
 some v3
 else
 some false))
theorem ok55 {a0 : TKey} {r : Bool} (h : m55 a0 = some r) : ACall Tryz.prog 38 [.agg a0.lit] [] (fun res h => res = .bool r ∧ h = []) := by
 refine vc1 Tryz.func38 ?_
 unfold m55 at h
 refine .d (.d (.d ⟨rfl, ⟨rfl, _, rfl, (sVn h (fun hb1 h => ?_) (fun hb1 h => ?_))⟩⟩))
 refine .d ⟨rfl, ⟨rfl, _, rfl, (sE h (fun hb2 h => ?_) (fun hb2 h => ?_))⟩⟩
 exact ⟨rfl, (.t ⟨rfl, _, rfl, (.t (bk h fun v3 hv4 h => (pcP (ok92 hv4) (.t (eB h)))))⟩)⟩
 exact .f (.f (.f (eB h)))
 refine .d ⟨rfl, ⟨rfl, _, rfl, ?_⟩⟩
 obtain ⟨⟨v5, v6⟩, hv7, h⟩ := bd h
 refine pcP (ok69 hv7) (.d ⟨rfl, ⟨rfl, _, rfl, (sE h (fun hb8 h => ?_) (fun hb8 h => ?_))⟩⟩)
 refine ⟨rfl, (.t ⟨rfl, _, rfl, (.t (.t (.t (sD h (fun hb9 h => ?_) (fun hb9 h => ?_)))))⟩)⟩
 exact .t (.t (eB h))
 exact .f (.f (eB h))
 exact .f (.f (.f (.f (.f (.f (.f (eB h)))))))
def m89 (a0 : TL1Cur) : Option (TValue × TL1Cur) :=
 m40 a0 8 >>= fun (v1, v2) =>
 (if v1 = 0 then
 some ((TValue.mk 0 0 [] 0 []), v2)
 else
 (if v1 = 1 then
 m37 v2 2 >>= fun (v6, v7) =>
 m105 v6 >>= fun v9 =>
 some (v9, v7)
 else
 (
 (if v1 = 2 then
 some (v1 == 2)
 else
 some (v1 == 3))
 : Option (Bool)) >>= fun b11 =>
 (if b11 = true then
 m107 v2 >>= fun (v17, v18) =>
 some ((TValue.mk 3 0 v17 0 []), v18)
 else
 (if v1 = 4 then
 m85 v2 ([0, 1, (-1), 5, 10, 999999999, 1000000000, (-1000000000)] : List Int) >>= fun (v21, v22) =>
 some ((TValue.mk 2 v21 [] 0 []), v22)
 else
 m40 v2 20 >>= fun (v24, v25) =>
 some ((TValue.mk 2 (W64 (v24 - 5)) [] 0 []), v25)))))
theorem ok89 {a0 : TL1Cur} {r : TValue × TL1Cur} {g1000 : Nat} (h : m89 a0 = some r) : ACall Tryz.prog 81 [.optr 0 g1000 0 0] [.row g1000 3 1 105 (fun _ => a0.lit)] (fun res h => res = .agg r.1.lit ∧ h = [.row g1000 3 1 105 (fun _ => r.2.lit)]) := by
 refine vc1 Tryz.func81 ?_
 unfold m89 at h
 refine .d (.d (.d ?_))
 obtain ⟨⟨v1, v2⟩, hv3, h⟩ := bd h
 refine pcO (ok40 (g1000 := g1000) hv3) [0] ⟨rfl, ⟨⟩⟩ (.int .i64 v1) [.row g1000 3 1 105 (fun _ => v2.lit), .row 0 5 1 32 (fun _ => [.int .i64 0, .int .i64 0, .str [], .int .i64 0, .nils])] (.d (sE h (fun hb4 h => ?_) (fun hb4 h => ?_)))
 refine .d ⟨rfl, _, fun _ => [.int .i64 0, .int .i64 0, .str [], .int .i64 0, .nils], rfl, one_set rfl, ?_⟩
 obtain rfl := si h
 exact ⟨rfl, _, rfl, (en [0] ⟨rfl, rfl⟩ (.agg_l ⟨.i, .i, .s, .i, .z, ⟨⟩⟩) ⟨(ob rfl ⟨.l, .i, .i, ⟨⟩⟩), ⟨⟩⟩)⟩
 refine .d (sE h (fun hb5 h => ?_) (fun hb5 h => ?_))
 refine .d ?_
 obtain ⟨⟨v6, v7⟩, hv8, h⟩ := bd h
 refine pcO (ok37 (g1000 := g1000) hv8) [0] ⟨rfl, ⟨⟩⟩ (.bool v6) [.row g1000 3 1 105 (fun _ => v7.lit), .row 0 5 1 32 (fun _ => [.int .i64 0, .int .i64 0, .str [], .int .i64 0, .nils])] (bk h fun v9 hv10 h => (pcP (ok105 hv10) ⟨rfl, _, fun _ => [.int .i64 v9.fKind, .int .i64 v9.fNum, .str v9.fStr, .int .i64 v9.fNext, sl 8 TEntry.cells v9.fItems], rfl, one_set rfl, ?_⟩))
 obtain rfl := si h
 exact ⟨rfl, _, rfl, (en [0] ⟨rfl, rfl⟩ (.agg_l ⟨.i, .i, .s, .i, .l, ⟨⟩⟩) ⟨(ob rfl ⟨.l, .i, .i, ⟨⟩⟩), ⟨⟩⟩)⟩
 obtain ⟨o12, ho13, hk14⟩ := bd h
 replace h := ho13
 refine .cut (fun σ η => ∃ b11, b11 = o12 ∧ σ = [(0, .optr 0 g1000 0 0), (2, .optr 1 0 0 0), (4, .int .i64 v1), (13, .bool b11)] ∧ η = [.row g1000 3 1 105 (fun _ => v2.lit), .row 0 5 1 32 (fun _ => [.int .i64 0, .int .i64 0, .str [], .int .i64 0, .nils])]) ?_ ?_
 refine .d (sE h (fun hb15 h => ?_) (fun hb15 h => ?_))
 exact ct ⟨_, si h, rfl, rfl⟩ (tk [0, 1] ⟨.p, .p, .i, .b, ⟨⟩⟩ ⟨(obp rfl), (nb rfl ⟨.i, .i, .s, .i, .nils, ⟨⟩⟩), ⟨⟩⟩)
 exact ct ⟨_, si h, rfl, rfl⟩ (tk [0, 1] ⟨.p, .p, .i, .b, ⟨⟩⟩ ⟨(obp rfl), (nb rfl ⟨.i, .i, .s, .i, .nils, ⟨⟩⟩), ⟨⟩⟩)
 rintro _ _ ⟨b11, rfl, rfl, rfl⟩
 replace h := hk14
 refine sV h (fun hb16 h => ?_) (fun hb16 h => ?_)
 refine .d ?_
 obtain ⟨⟨v17, v18⟩, hv19, h⟩ := bd h
 refine pcO (ok107 (g1000 := g1000) hv19) [0] ⟨rfl, ⟨⟩⟩ (.str v17) [.row g1000 3 1 105 (fun _ => v18.lit), .row 0 5 1 32 (fun _ => [.int .i64 0, .int .i64 0, .str [], .int .i64 0, .nils])] (pcP (ok_s_TextValuex v17) ⟨rfl, _, fun _ => [.int .i64 3, .int .i64 0, .str v17, .int .i64 0, .nils], rfl, one_set rfl, ?_⟩)
 obtain rfl := si h
 exact ⟨rfl, _, rfl, (en [0] ⟨rfl, rfl⟩ (.agg_l ⟨.i, .i, .s, .i, .z, ⟨⟩⟩) ⟨(ob rfl ⟨.l, .i, .i, ⟨⟩⟩), ⟨⟩⟩)⟩
 refine .d (sE h (fun hb20 h => ?_) (fun hb20 h => ?_))
 refine .d ⟨row cI ([0, 1, (-1), 5, 10, 999999999, 1000000000, (-1000000000)] : List Int), row_lit cI ([0, 1, (-1), 5, 10, 999999999, 1000000000, (-1000000000)] : List Int) rfl (cll_refl rfl), ?_⟩
 obtain ⟨⟨v21, v22⟩, hv23, h⟩ := bd h
 refine pcO (ok85 (g1000 := g1000) (g1001 := 0) hv23) [0, 2] ⟨rfl, ov, ⟨⟩⟩ (.int .i64 v21) [.row g1000 3 1 105 (fun _ => v22.lit), .row 0 5 1 32 (fun _ => [.int .i64 0, .int .i64 0, .str [], .int .i64 0, .nils]), .row 0 1 ([0, 1, (-1), 5, 10, 999999999, 1000000000, (-1000000000)] : List Int).length 3 (row cI ([0, 1, (-1), 5, 10, 999999999, 1000000000, (-1000000000)] : List Int))] (pcP (ok_s_IntValuex v21) ⟨rfl, _, fun _ => [.int .i64 2, .int .i64 v21, .str [], .int .i64 0, .nils], rfl, one_set rfl, ?_⟩)
 obtain rfl := si h
 exact ⟨rfl, _, rfl, (en [0] ⟨rfl, rfl⟩ (.agg_l ⟨.i, .i, .s, .i, .z, ⟨⟩⟩) ⟨(ob rfl ⟨.l, .i, .i, ⟨⟩⟩), ⟨⟩⟩)⟩
 refine .d ?_
 obtain ⟨⟨v24, v25⟩, hv26, h⟩ := bd h
 refine pcO (ok40 (g1000 := g1000) hv26) [0] ⟨rfl, ⟨⟩⟩ (.int .i64 v24) [.row g1000 3 1 105 (fun _ => v25.lit), .row 0 5 1 32 (fun _ => [.int .i64 0, .int .i64 0, .str [], .int .i64 0, .nils])] (pcP (ok_s_IntValuex (W64 (v24 - 5))) ⟨rfl, _, fun _ => [.int .i64 2, .int .i64 (W64 (v24 - 5)), .str [], .int .i64 0, .nils], rfl, one_set rfl, ?_⟩)
 obtain rfl := si h
 exact ⟨rfl, _, rfl, (en [0] ⟨rfl, rfl⟩ (.agg_l ⟨.i, .i, .s, .i, .z, ⟨⟩⟩) ⟨(ob rfl ⟨.l, .i, .i, ⟨⟩⟩), ⟨⟩⟩)⟩
theorem ow105 {a0 : Bool} {r : TValue} (h : m105 a0 = some r) : ACall Tryz.prog 113 [.bool a0] [] (fun res h => res = .agg [.int .i64 r.fKind, .int .i64 r.fNum, .str r.fStr, .int .i64 r.fNext, .own 0 0 0 r.fItems.length] ∧ h = [.row 0 8 r.fItems.length 82 (row TEntry.cells r.fItems)]) := by
 refine vc1 Tryz.func113 ?_
 unfold m105 at h
 refine .d (.d (.d (sV h (fun hb1 h => ?_) (fun hb1 h => ?_))))
 refine .d ⟨rfl, _, fun _ => [.int .i64 1, .int .i64 1, .str [], .int .i64 0, .nils], rfl, one_set rfl, ?_⟩
 obtain rfl := si h
 exact ⟨rfl, _, rfl, (en [1] ⟨rfl, rfl⟩ (.agg_l ⟨.i, .i, .s, .i, .g, ⟨⟩⟩) ⟨gh, ⟨⟩⟩)⟩
 refine .d ⟨rfl, _, fun _ => [.int .i64 1, .int .i64 0, .str [], .int .i64 0, .nils], rfl, one_set rfl, ?_⟩
 obtain rfl := si h
 exact ⟨rfl, _, rfl, (en [1] ⟨rfl, rfl⟩ (.agg_l ⟨.i, .i, .s, .i, .g, ⟨⟩⟩) ⟨gh, ⟨⟩⟩)⟩
theorem ow89 {a0 : TL1Cur} {r : TValue × TL1Cur} {g1000 : Nat} (h : m89 a0 = some r) : ACall Tryz.prog 81 [.optr 0 g1000 0 0] [.row g1000 3 1 105 (fun _ => a0.lit)] (fun res h => res = .agg [.int .i64 r.1.fKind, .int .i64 r.1.fNum, .str r.1.fStr, .int .i64 r.1.fNext, .own 1 0 0 r.1.fItems.length] ∧ h = [.row g1000 3 1 105 (fun _ => r.2.lit), .row 0 8 r.1.fItems.length 82 (row TEntry.cells r.1.fItems)]) := by
 refine vc1 Tryz.func81 ?_
 unfold m89 at h
 refine .d (.d (.d ?_))
 obtain ⟨⟨v1, v2⟩, hv3, h⟩ := bd h
 refine pcO (ok40 (g1000 := g1000) hv3) [0] ⟨rfl, ⟨⟩⟩ (.int .i64 v1) [.row g1000 3 1 105 (fun _ => v2.lit), .row 0 5 1 32 (fun _ => [.int .i64 0, .int .i64 0, .str [], .int .i64 0, .nils])] (.d (sE h (fun hb4 h => ?_) (fun hb4 h => ?_)))
 refine .d ⟨rfl, _, fun _ => [.int .i64 0, .int .i64 0, .str [], .int .i64 0, .nils], rfl, one_set rfl, ?_⟩
 obtain rfl := si h
 exact ⟨rfl, _, rfl, (en [0, 3] ⟨rfl, rfl⟩ (.agg_l ⟨.i, .i, .s, .i, .g, ⟨⟩⟩) ⟨(ob rfl ⟨.l, .i, .i, ⟨⟩⟩), gh, ⟨⟩⟩)⟩
 refine .d (sE h (fun hb5 h => ?_) (fun hb5 h => ?_))
 refine .d ?_
 obtain ⟨⟨v6, v7⟩, hv8, h⟩ := bd h
 refine pcO (ok37 (g1000 := g1000) hv8) [0] ⟨rfl, ⟨⟩⟩ (.bool v6) [.row g1000 3 1 105 (fun _ => v7.lit), .row 0 5 1 32 (fun _ => [.int .i64 0, .int .i64 0, .str [], .int .i64 0, .nils])] (bk h fun v9 hv10 h => (pcF (ow105 hv10) (.agg [.int .i64 v9.fKind, .int .i64 v9.fNum, .str v9.fStr, .int .i64 v9.fNext, .own 2 0 0 v9.fItems.length]) [.row g1000 3 1 105 (fun _ => v7.lit), .row 0 5 1 32 (fun _ => [.int .i64 0, .int .i64 0, .str [], .int .i64 0, .nils]), .row 0 8 v9.fItems.length 82 (row TEntry.cells v9.fItems)] ⟨rfl, _, fun _ => [.int .i64 v9.fKind, .int .i64 v9.fNum, .str v9.fStr, .int .i64 v9.fNext, .own 2 0 0 v9.fItems.length], rfl, one_set rfl, ?_⟩))
 obtain rfl := si h
 exact ⟨rfl, _, rfl, (en [0, 2] ⟨rfl, rfl⟩ (.agg_l ⟨.i, .i, .s, .i, .o, ⟨⟩⟩) ⟨(ob rfl ⟨.l, .i, .i, ⟨⟩⟩), nw, ⟨⟩⟩)⟩
 obtain ⟨o12, ho13, hk14⟩ := bd h
 replace h := ho13
 refine .cut (fun σ η => ∃ b11, b11 = o12 ∧ σ = [(0, .optr 0 g1000 0 0), (2, .optr 1 0 0 0), (4, .int .i64 v1), (13, .bool b11)] ∧ η = [.row g1000 3 1 105 (fun _ => v2.lit), .row 0 5 1 32 (fun _ => [.int .i64 0, .int .i64 0, .str [], .int .i64 0, .nils])]) ?_ ?_
 refine .d (sE h (fun hb15 h => ?_) (fun hb15 h => ?_))
 exact ct ⟨_, si h, rfl, rfl⟩ (tk [0, 1] ⟨.p, .p, .i, .b, ⟨⟩⟩ ⟨(obp rfl), (nb rfl ⟨.i, .i, .s, .i, .nils, ⟨⟩⟩), ⟨⟩⟩)
 exact ct ⟨_, si h, rfl, rfl⟩ (tk [0, 1] ⟨.p, .p, .i, .b, ⟨⟩⟩ ⟨(obp rfl), (nb rfl ⟨.i, .i, .s, .i, .nils, ⟨⟩⟩), ⟨⟩⟩)
 rintro _ _ ⟨b11, rfl, rfl, rfl⟩
 replace h := hk14
 refine sV h (fun hb16 h => ?_) (fun hb16 h => ?_)
 refine .d ?_
 obtain ⟨⟨v17, v18⟩, hv19, h⟩ := bd h
 refine pcO (ok107 (g1000 := g1000) hv19) [0] ⟨rfl, ⟨⟩⟩ (.str v17) [.row g1000 3 1 105 (fun _ => v18.lit), .row 0 5 1 32 (fun _ => [.int .i64 0, .int .i64 0, .str [], .int .i64 0, .nils])] (pcP (ok_s_TextValuex v17) ⟨rfl, _, fun _ => [.int .i64 3, .int .i64 0, .str v17, .int .i64 0, .nils], rfl, one_set rfl, ?_⟩)
 obtain rfl := si h
 exact ⟨rfl, _, rfl, (en [0, 3] ⟨rfl, rfl⟩ (.agg_l ⟨.i, .i, .s, .i, .g, ⟨⟩⟩) ⟨(ob rfl ⟨.l, .i, .i, ⟨⟩⟩), gh, ⟨⟩⟩)⟩
 refine .d (sE h (fun hb20 h => ?_) (fun hb20 h => ?_))
 refine .d ⟨row cI ([0, 1, (-1), 5, 10, 999999999, 1000000000, (-1000000000)] : List Int), row_lit cI ([0, 1, (-1), 5, 10, 999999999, 1000000000, (-1000000000)] : List Int) rfl (cll_refl rfl), ?_⟩
 obtain ⟨⟨v21, v22⟩, hv23, h⟩ := bd h
 refine pcO (ok85 (g1000 := g1000) (g1001 := 0) hv23) [0, 2] ⟨rfl, ov, ⟨⟩⟩ (.int .i64 v21) [.row g1000 3 1 105 (fun _ => v22.lit), .row 0 5 1 32 (fun _ => [.int .i64 0, .int .i64 0, .str [], .int .i64 0, .nils]), .row 0 1 ([0, 1, (-1), 5, 10, 999999999, 1000000000, (-1000000000)] : List Int).length 3 (row cI ([0, 1, (-1), 5, 10, 999999999, 1000000000, (-1000000000)] : List Int))] (pcP (ok_s_IntValuex v21) ⟨rfl, _, fun _ => [.int .i64 2, .int .i64 v21, .str [], .int .i64 0, .nils], rfl, one_set rfl, ?_⟩)
 obtain rfl := si h
 exact ⟨rfl, _, rfl, (en [0, 4] ⟨rfl, rfl⟩ (.agg_l ⟨.i, .i, .s, .i, .g, ⟨⟩⟩) ⟨(ob rfl ⟨.l, .i, .i, ⟨⟩⟩), gh, ⟨⟩⟩)⟩
 refine .d ?_
 obtain ⟨⟨v24, v25⟩, hv26, h⟩ := bd h
 refine pcO (ok40 (g1000 := g1000) hv26) [0] ⟨rfl, ⟨⟩⟩ (.int .i64 v24) [.row g1000 3 1 105 (fun _ => v25.lit), .row 0 5 1 32 (fun _ => [.int .i64 0, .int .i64 0, .str [], .int .i64 0, .nils])] (pcP (ok_s_IntValuex (W64 (v24 - 5))) ⟨rfl, _, fun _ => [.int .i64 2, .int .i64 (W64 (v24 - 5)), .str [], .int .i64 0, .nils], rfl, one_set rfl, ?_⟩)
 obtain rfl := si h
 exact ⟨rfl, _, rfl, (en [0, 3] ⟨rfl, rfl⟩ (.agg_l ⟨.i, .i, .s, .i, .g, ⟨⟩⟩) ⟨(ob rfl ⟨.l, .i, .i, ⟨⟩⟩), gh, ⟨⟩⟩)⟩
def m87 (a0 : TValue) (a1 : TKey) (a2 : TValue) : Option (TValue) :=
 (
 lapp 96 ([] : List TEntry) a0.fItems >>= fun l5 =>
 some l5
 : Option ((List TEntry))) >>= fun l1 =>
 m90 a0 a1 >>= fun v7 =>
 ((
 (if v7 ≥ 0 then
 idx l1 v7 >>= fun x13 =>
 some (.inr (TValue.mk a0.fKind a0.fNum a0.fStr a0.fNext (l1.set v7.toNat (TEntry.mk x13.fKey a2))))
 else
 some (.inl ()))
 : Option ((Unit) ⊕ TValue)) >>= fun o9 => match o9 with
 | .inr r => some r
 | .inl _ =>
 lapp 96 l1 ([(TEntry.mk a1 a2)] : List TEntry) >>= fun l15 =>
 (
 some ()
 : Option (Unit)) >>= fun _ =>
 (if a1.fText = true then
 some (TValue.mk a0.fKind a0.fNum a0.fStr a0.fNext l15)
 else
 m91 a0.fNext (W64 (a1.fNum + 1)) >>= fun v21 =>
 some (TValue.mk a0.fKind a0.fNum a0.fStr v21 l15))
 )
theorem ok87 {a0 : TValue} {a1 : TKey} {a2 : TValue} {r : TValue} (h : m87 a0 a1 a2 = some r) : ACall Tryz.prog 49 [.agg a0.lit, .agg a1.lit, .agg a2.lit] [] (fun res h => res = .agg r.lit ∧ h = []) := by
 refine vc1 Tryz.func49 ?_
 unfold m87 at h
 refine .d (.d ⟨rfl, _, rfl, ⟨rfl, _, fun _ => [.int .i64 a0.fKind, .int .i64 a0.fNum, .str a0.fStr, .int .i64 a0.fNext, sl 8 TEntry.cells a0.fItems], rfl, one_set rfl, ?_⟩⟩)
 obtain ⟨o2, ho3, hk4⟩ := bd h
 replace h := ho3
 refine .cut (fun σ η => ∃ l1, l1 = o2 ∧ σ = [(3, .optr 0 0 0 0), (4, .optr 1 0 0 0), (5, .optr 2 0 0 0), (6, .optr 3 0 0 0), (7, .optr 4 0 0 0)] ∧ η = [.row 0 5 1 32 (fun _ => a0.lit), .row 0 3 1 29 (fun _ => a1.lit), .row 0 5 1 32 (fun _ => a2.lit), .row 0 5 1 32 (fun _ => [.int .i64 0, .int .i64 0, .str [], .int .i64 0, .nils]), .row 0 5 1 32 (fun _ => [.int .i64 a0.fKind, .int .i64 a0.fNum, .str a0.fStr, .int .i64 a0.fNext, .own 5 0 0 l1.length]), .row 0 8 l1.length 82 (row TEntry.cells l1)]) ?_ ?_
 exact ⟨row TEntry.cells ([] : List TEntry), row_lit TEntry.cells ([] : List TEntry) rfl (cll_refl rfl), ⟨rfl, ⟨rfl, _, rfl, (bk h fun l5 hx6 h => ⟨rfl, lapp_bd hx6, l5.length, row TEntry.cells l5, lapp_len hx6, lapp_row hx6 shows_all src_slc, ⟨rfl, ⟨rfl, _, fun _ => [.int .i64 a0.fKind, .int .i64 a0.fNum, .str a0.fStr, .int .i64 a0.fNext, .own 5 (0 + 1) 0 l5.length], rfl, one_set rfl, (ct ⟨_, si h, rfl, rfl⟩ (tk [0, 1, 2, 3, 4, 5] ⟨.p, .p, .p, .p, .p, ⟨⟩⟩ ⟨(nbp rfl), (nbp rfl), (nbp rfl), (nb rfl ⟨.i, .i, .s, .i, .nils, ⟨⟩⟩), (nb rfl ⟨.i, .i, .s, .i, .o, ⟨⟩⟩), nw, ⟨⟩⟩))⟩⟩⟩)⟩⟩⟩
 rintro _ _ ⟨l1, rfl, rfl, rfl⟩
 replace h := hk4
 refine .d ⟨rfl, _, rfl, ⟨rfl, _, rfl, (bk h fun v7 hv8 h => (pcP (ok90 hv8) ?_))⟩⟩
 obtain ⟨o9, ho10, hk11⟩ := bd h
 replace h := ho10
 refine .cut (fun σ η => .inl () = o9 ∧ σ = [(4, .optr 0 0 0 0), (5, .optr 1 0 0 0), (6, .optr 2 0 0 0), (7, .optr 3 0 0 0)] ∧ η = [.row 0 3 1 29 (fun _ => a1.lit), .row 0 5 1 32 (fun _ => a2.lit), .row 0 5 1 32 (fun _ => [.int .i64 0, .int .i64 0, .str [], .int .i64 0, .nils]), .row 0 5 1 32 (fun _ => [.int .i64 a0.fKind, .int .i64 a0.fNum, .str a0.fStr, .int .i64 a0.fNext, .own 4 0 0 l1.length]), .row 0 8 l1.length 82 (row TEntry.cells l1)]) ?_ ?_
 refine .d (sD h (fun hb12 h => ?_) (fun hb12 h => ?_))
 refine .d ⟨rfl, ⟨rfl, _, rfl, ⟨rfl, _, rfl, (bk h fun x13 hx14 h => ⟨rfl, idx_bd hx14, _, Nat.zero_add _, ⟨rfl, ⟨rfl, _, row TEntry.cells (l1.set v7.toNat (TEntry.mk x13.fKey a2)), ((idx_row hx14).trans (TEntry.cells_eq x13)), row_set (idx_lt hx14) (TEntry.cells_eq (TEntry.mk x13.fKey a2)) ⟨.same _, .same _, .same _, .same _, .same _, .same _, .same _, .same _, trivial⟩, (.d ⟨rfl, _, rfl, ⟨rfl, _, fun _ => [.int .i64 a0.fKind, .int .i64 a0.fNum, .str a0.fStr, .int .i64 a0.fNext, .own 5 0 0 l1.length], rfl, one_set rfl, ?_⟩⟩)⟩⟩⟩)⟩⟩⟩
 obtain rfl := si h
 replace h := hk11
 obtain rfl := si h
 exact ⟨rfl, _, rfl, (en [] ⟨rfl, rfl⟩ (.agg_l ⟨.i, .i, .s, .i, (.rx ln), ⟨⟩⟩) ⟨⟩)⟩
 exact ct ⟨si h, rfl, rfl⟩ (tk [1, 2, 3, 4, 5] ⟨.p, .p, .p, .p, ⟨⟩⟩ ⟨(nbp rfl), (nbp rfl), (nb rfl ⟨.i, .i, .s, .i, .nils, ⟨⟩⟩), (nb rfl ⟨.i, .i, .s, .i, .o, ⟨⟩⟩), nw, ⟨⟩⟩)
 rintro _ _ ⟨rfl, rfl, rfl⟩
 replace h := hk11
 refine .d ⟨rfl, ⟨rfl, _, rfl, ⟨rfl, _, rfl, ⟨rfl, _, rfl, ⟨row TEntry.cells ([(TEntry.mk a1 a2)] : List TEntry), row_lit TEntry.cells ([(TEntry.mk a1 a2)] : List TEntry) rfl (cll_cons (TEntry.cells_eq _) ⟨.same _, .same _, .same _, .same _, .same _, .same _, .same _, .same _, trivial⟩ trivial), (bk h fun l15 hx16 h => ⟨rfl, rfl, lapp_bd hx16, l15.length, row TEntry.cells l15, lapp_len hx16, lapp_row hx16 shows_all (src_own shows_all), ⟨rfl, ⟨rfl, _, fun _ => [.int .i64 a0.fKind, .int .i64 a0.fNum, .str a0.fStr, .int .i64 a0.fNext, .own 4 (0 + 1) 0 l15.length], rfl, one_set rfl, (.d ?_)⟩⟩⟩)⟩⟩⟩⟩⟩
 obtain ⟨o17, ho18, hk19⟩ := bd h
 replace h := ho18
 refine .cut (fun σ η => () = o17 ∧ σ = [(4, .optr 0 0 0 0), (6, .optr 1 0 0 0), (7, .optr 2 0 0 0), (37, .bool (!a1.fText))] ∧ η = [.row 0 3 1 29 (fun _ => a1.lit), .row 0 5 1 32 (fun _ => [.int .i64 0, .int .i64 0, .str [], .int .i64 0, .nils]), .row 0 5 1 32 (fun _ => [.int .i64 a0.fKind, .int .i64 a0.fNum, .str a0.fStr, .int .i64 a0.fNext, .own 3 0 0 l15.length]), .row 0 8 l15.length 82 (row TEntry.cells l15)]) ?_ ?_
 exact ⟨rfl, ⟨rfl, _, rfl, (ct ⟨si h, rfl, rfl⟩ (tk [0, 2, 3, 4] ⟨.p, .p, .p, .b, ⟨⟩⟩ ⟨(nbp rfl), (nb rfl ⟨.i, .i, .s, .i, .nils, ⟨⟩⟩), (nb rfl ⟨.i, .i, .s, .i, .o, ⟨⟩⟩), nw, ⟨⟩⟩))⟩⟩
 rintro _ _ ⟨rfl, rfl, rfl⟩
 replace h := hk19
 refine sVn h (fun hb20 h => ?_) (fun hb20 h => ?_)
 refine ⟨rfl, ⟨rfl, _, rfl, ⟨rfl, ⟨rfl, _, rfl, (bk h fun v21 hv22 h => (pcP (ok91 hv22) ⟨rfl, ⟨rfl, _, fun _ => [.int .i64 a0.fKind, .int .i64 a0.fNum, .str a0.fStr, .int .i64 v21, .own 3 0 0 l15.length], rfl, one_set rfl, (.d ⟨rfl, _, rfl, ⟨rfl, _, fun _ => [.int .i64 a0.fKind, .int .i64 a0.fNum, .str a0.fStr, .int .i64 v21, .own 3 0 0 l15.length], rfl, one_set rfl, ?_⟩⟩)⟩⟩))⟩⟩⟩⟩
 obtain rfl := si h
 exact ⟨rfl, _, rfl, (en [] ⟨rfl, rfl⟩ (.agg_l ⟨.i, .i, .s, .i, .r, ⟨⟩⟩) ⟨⟩)⟩
 refine .d ⟨rfl, _, rfl, ⟨rfl, _, fun _ => [.int .i64 a0.fKind, .int .i64 a0.fNum, .str a0.fStr, .int .i64 a0.fNext, .own 3 0 0 l15.length], rfl, one_set rfl, ?_⟩⟩
 obtain rfl := si h
 exact ⟨rfl, _, rfl, (en [] ⟨rfl, rfl⟩ (.agg_l ⟨.i, .i, .s, .i, .r, ⟨⟩⟩) ⟨⟩)⟩
end Go.Am
