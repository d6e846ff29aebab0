/- Models of Go functions, and their walks. (Printed by tools/mg.py.) -/
import Derived.Test.YtgkniabpdgaoiaaDoorF3
set_option linter.unusedVariables false
set_option linter.unusedSimpArgs false
set_option synthInstance.maxHeartbeats 400000
set_option synthInstance.maxSize 4000
namespace Go.Am
open Go Go.RowKit Go.Proofs
mutual
def m50 (a0 : TL1Cur) (a1 : Int) : Option (TValue × TL1Cur) :=
 (if a1 ≤ 0 then
 m89 a0 >>= fun (v2, v3) =>
 some (v2, v3)
 else
 m37 a0 3 >>= fun (v5, v6) =>
 (if v5 = true then
 (
 m40 v6 5 >>= fun (v20, v21) =>
 m50_L2 a1 v21.fB v21.fI v21.fH 0 ([] : List TEntry) v20
 : Option ((List UInt8) × Int × Int × Int × (List TEntry))) >>= fun (l12, y13, y14, y15, l16) =>
 some ((TValue.mk 4 0 [] y15 l16), (TL1Cur.mk l12 y13 y14))
 else
 m89 v6 >>= fun (v9, v10) =>
 some (v9, v10)))
partial_fixpoint
def m50_L2 (a1 : Int) (l23 : List UInt8) (y24 : Int) (y25 : Int) (y26 : Int) (l27 : List TEntry) (y28 : Int) : Option ((List UInt8) × Int × Int × Int × (List TEntry)) :=
 (if y28 > 0 then
 m47 (TL1Cur.mk l23 y24 y25) >>= fun (v33, v34) =>
 (
 m37 v34 2 >>= fun (v45, v46) =>
 (if v45 = true then
 (if y26 ≤ 1000000000 then
 some (v46.fB, v46.fI, v46.fH, false, y26, [])
 else
 some (v46.fB, v46.fI, v46.fH, v33.fText, v33.fNum, v33.fStr))
 else
 some (v46.fB, v46.fI, v46.fH, v33.fText, v33.fNum, v33.fStr))
 : Option ((List UInt8) × Int × Int × Bool × Int × Str)) >>= fun (l36, y37, y38, b39, y40, s41) =>
 m90 (TValue.mk 4 0 [] y26 l27) (TKey.mk b39 y40 s41) >>= fun v50 =>
 (if v50 < 0 then
 m50 (TL1Cur.mk l36 y37 y38) (W64 (a1 - 1)) >>= fun (v53, v54) =>
 lapp 96 l27 ([(TEntry.mk (TKey.mk b39 y40 s41) v53)] : List TEntry) >>= fun l56 =>
 (if b39 = true then
 m50_L2 a1 v54.fB v54.fI v54.fH y26 l56 (W64 (y28 - 1))
 else
 m91 y26 (W64 (y40 + 1)) >>= fun v59 =>
 m50_L2 a1 v54.fB v54.fI v54.fH v59 l56 (W64 (y28 - 1)))
 else
 m50_L2 a1 l36 y37 y38 y26 l27 (W64 (y28 - 1)))
 else
 some (l23, y24, y25, y26, l27))
partial_fixpoint
end
def okS33 (a0 : TL1Cur) (a1 : Int) (r : TValue × TL1Cur) : Prop := ∀ g1000 : Nat, ACall Tryd.prog 33 [.optr 0 g1000 0 0, .int .i64 a1] [.row g1000 3 1 63 (fun _ => a0.lit)] (fun res h => res = .agg r.1.lit ∧ h = [.row g1000 3 1 63 (fun _ => r.2.lit)])
inductive m50_L2_I : Int → (List UInt8) → Int → Int → Int → (List TEntry) → Int → ((List UInt8) × Int × Int × Int × (List TEntry)) → Prop
 | mk (G33 : TL1Cur → Int → Option (TValue × TL1Cur)) (hG33 : ∀ a0 a1 r, G33 a0 a1 = some r → okS33 a0 a1 r) (F_m50_L2 : Int → (List UInt8) → Int → Int → Int → (List TEntry) → Int → Option ((List UInt8) × Int × Int × Int × (List TEntry))) (hF_m50_L2 : ∀ a1 l23 y24 y25 y26 l27 y28 o, F_m50_L2 a1 l23 y24 y25 y26 l27 y28 = some o → m50_L2_I a1 l23 y24 y25 y26 l27 y28 o) (a1 : Int) (l23 : List UInt8) (y24 : Int) (y25 : Int) (y26 : Int) (l27 : List TEntry) (y28 : Int) (o : (List UInt8) × Int × Int × Int × (List TEntry)) (h : (
 (if y28 > 0 then
 m47 (TL1Cur.mk l23 y24 y25) >>= fun (v33, v34) =>
 (
 m37 v34 2 >>= fun (v45, v46) =>
 (if v45 = true then
 (if y26 ≤ 1000000000 then
 some (v46.fB, v46.fI, v46.fH, false, y26, [])
 else
 some (v46.fB, v46.fI, v46.fH, v33.fText, v33.fNum, v33.fStr))
 else
 some (v46.fB, v46.fI, v46.fH, v33.fText, v33.fNum, v33.fStr))
 : Option ((List UInt8) × Int × Int × Bool × Int × Str)) >>= fun (l36, y37, y38, b39, y40, s41) =>
 m90 (TValue.mk 4 0 [] y26 l27) (TKey.mk b39 y40 s41) >>= fun v50 =>
 (if v50 < 0 then
 G33 (TL1Cur.mk l36 y37 y38) (W64 (a1 - 1)) >>= fun (v53, v54) =>
 lapp 96 l27 ([(TEntry.mk (TKey.mk b39 y40 s41) v53)] : List TEntry) >>= fun l56 =>
 (if b39 = true then
 F_m50_L2 a1 v54.fB v54.fI v54.fH y26 l56 (W64 (y28 - 1))
 else
 m91 y26 (W64 (y40 + 1)) >>= fun v59 =>
 F_m50_L2 a1 v54.fB v54.fI v54.fH v59 l56 (W64 (y28 - 1)))
 else
 F_m50_L2 a1 l36 y37 y38 y26 l27 (W64 (y28 - 1)))
 else
 some (l23, y24, y25, y26, l27))
 ) = some o) : m50_L2_I a1 l23 y24 y25 y26 l27 y28 o
theorem m50_L2_ind {motive : Int → (List UInt8) → Int → Int → Int → (List TEntry) → Int → ((List UInt8) × Int × Int × Int × (List TEntry)) → Prop} (step : ∀ (G33 : TL1Cur → Int → Option (TValue × TL1Cur)) (hG33 : ∀ a0 a1 r, G33 a0 a1 = some r → okS33 a0 a1 r) (F_m50_L2 : Int → (List UInt8) → Int → Int → Int → (List TEntry) → Int → Option ((List UInt8) × Int × Int × Int × (List TEntry))) (hF_m50_L2 : ∀ a1 l23 y24 y25 y26 l27 y28 o, F_m50_L2 a1 l23 y24 y25 y26 l27 y28 = some o → m50_L2_I a1 l23 y24 y25 y26 l27 y28 o) (a1 : Int) (l23 : List UInt8) (y24 : Int) (y25 : Int) (y26 : Int) (l27 : List TEntry) (y28 : Int) (o : (List UInt8) × Int × Int × Int × (List TEntry)) (h : (
 (if y28 > 0 then
 m47 (TL1Cur.mk l23 y24 y25) >>= fun (v33, v34) =>
 (
 m37 v34 2 >>= fun (v45, v46) =>
 (if v45 = true then
 (if y26 ≤ 1000000000 then
 some (v46.fB, v46.fI, v46.fH, false, y26, [])
 else
 some (v46.fB, v46.fI, v46.fH, v33.fText, v33.fNum, v33.fStr))
 else
 some (v46.fB, v46.fI, v46.fH, v33.fText, v33.fNum, v33.fStr))
 : Option ((List UInt8) × Int × Int × Bool × Int × Str)) >>= fun (l36, y37, y38, b39, y40, s41) =>
 m90 (TValue.mk 4 0 [] y26 l27) (TKey.mk b39 y40 s41) >>= fun v50 =>
 (if v50 < 0 then
 G33 (TL1Cur.mk l36 y37 y38) (W64 (a1 - 1)) >>= fun (v53, v54) =>
 lapp 96 l27 ([(TEntry.mk (TKey.mk b39 y40 s41) v53)] : List TEntry) >>= fun l56 =>
 (if b39 = true then
 F_m50_L2 a1 v54.fB v54.fI v54.fH y26 l56 (W64 (y28 - 1))
 else
 m91 y26 (W64 (y40 + 1)) >>= fun v59 =>
 F_m50_L2 a1 v54.fB v54.fI v54.fH v59 l56 (W64 (y28 - 1)))
 else
 F_m50_L2 a1 l36 y37 y38 y26 l27 (W64 (y28 - 1)))
 else
 some (l23, y24, y25, y26, l27))
 ) = some o) (ih : ∀ a1 l23 y24 y25 y26 l27 y28 o, F_m50_L2 a1 l23 y24 y25 y26 l27 y28 = some o → motive a1 l23 y24 y25 y26 l27 y28 o), motive a1 l23 y24 y25 y26 l27 y28 o) : ∀ a1 l23 y24 y25 y26 l27 y28 o, m50_L2_I a1 l23 y24 y25 y26 l27 y28 o → motive a1 l23 y24 y25 y26 l27 y28 o :=
 fun a1 l23 y24 y25 y26 l27 y28 o h => m50_L2_I.rec (motive := fun a1 l23 y24 y25 y26 l27 y28 o _ => motive a1 l23 y24 y25 y26 l27 y28 o) step h
theorem grp_50 : (∀ a0 a1 r, m50 a0 a1 = some r → okS33 a0 a1 r) ∧ (∀ a1 l23 y24 y25 y26 l27 y28 o, m50_L2 a1 l23 y24 y25 y26 l27 y28 = some o → m50_L2_I a1 l23 y24 y25 y26 l27 y28 o) := by
 refine m50.mutual_partial_correctness okS33 m50_L2_I ?_ ?_
 intro _ hI65 a0 a1 r h g1000
 refine vc1 Tryd.func33 ?_
 refine .d (.d (.d (sD h (fun hb1 h => ?_) (fun hb1 h => ?_))))
 refine .t (.t (.t (.t (.d ?_))))
 obtain ⟨⟨v2, v3⟩, hv4, h⟩ := bd h
 refine pcO (ok89 (g1000 := g1000) hv4) [0] ⟨rfl, ⟨⟩⟩ (.agg v2.lit) [.row g1000 3 1 63 (fun _ => v3.lit), .row 0 5 1 29 (fun _ => [.int .i64 0, .int .i64 0, .str [], .int .i64 0, .nils])] ⟨rfl, _, fun _ => [.int .i64 v2.fKind, .int .i64 v2.fNum, .str v2.fStr, .int .i64 v2.fNext, sl 8 TEntry.cells v2.fItems], rfl, one_set rfl, ?_⟩
 obtain rfl := si h
 exact ⟨rfl, _, rfl, (en [0] ⟨rfl, rfl⟩ (.agg_l ⟨.i, .i, .s, .i, .l, ⟨⟩⟩) ⟨(ob rfl ⟨.l, .i, .i, ⟨⟩⟩), ⟨⟩⟩)⟩
 refine .f ?_
 obtain ⟨⟨v5, v6⟩, hv7, h⟩ := bd h
 refine pcO (ok37 (g1000 := g1000) hv7) [0] ⟨rfl, ⟨⟩⟩ (.bool v5) [.row g1000 3 1 63 (fun _ => v6.lit), .row 0 5 1 29 (fun _ => [.int .i64 0, .int .i64 0, .str [], .int .i64 0, .nils])] (.f (.f (sVn h (fun hb8 h => ?_) (fun hb8 h => ?_))))
 refine .d ?_
 obtain ⟨⟨v9, v10⟩, hv11, h⟩ := bd h
 refine pcO (ok89 (g1000 := g1000) hv11) [0] ⟨rfl, ⟨⟩⟩ (.agg v9.lit) [.row g1000 3 1 63 (fun _ => v10.lit), .row 0 5 1 29 (fun _ => [.int .i64 0, .int .i64 0, .str [], .int .i64 0, .nils])] ⟨rfl, _, fun _ => [.int .i64 v9.fKind, .int .i64 v9.fNum, .str v9.fStr, .int .i64 v9.fNext, sl 8 TEntry.cells v9.fItems], rfl, one_set rfl, ?_⟩
 obtain rfl := si h
 exact ⟨rfl, _, rfl, (en [0] ⟨rfl, rfl⟩ (.agg_l ⟨.i, .i, .s, .i, .l, ⟨⟩⟩) ⟨(ob rfl ⟨.l, .i, .i, ⟨⟩⟩), ⟨⟩⟩)⟩
 refine .d (pcP (ok_s_ArrayValuex) ⟨rfl, _, fun _ => [.int .i64 4, .int .i64 0, .str [], .int .i64 0, .nils], rfl, one_set rfl, ?_⟩)
 obtain ⟨o17, ho18, hk19⟩ := bd h
 replace h := ho18
 refine .cut (fun σ η => ∃ l12, ∃ y13, ∃ y14, ∃ y15, ∃ l16, (l12, y13, y14, y15, l16) = o17 ∧ σ = [(4, .optr 1 0 0 0), (5, .optr 2 0 0 0)] ∧ η = [.row g1000 3 1 63 (fun _ => [sl 1 cB l12, .int .i64 y13, .int .i64 y14]), .row 0 5 1 29 (fun _ => [.int .i64 0, .int .i64 0, .str [], .int .i64 0, .nils]), .row 0 5 1 29 (fun _ => [.int .i64 4, .int .i64 0, .str [], .int .i64 y15, .own 3 0 0 l16.length]), .row 0 8 l16.length 43 (row TEntry.cells l16)]) ?_ ?_
 refine .d ?_
 obtain ⟨⟨v20, v21⟩, hv22, h⟩ := bd h
 refine pcO (ok40 (g1000 := g1000) hv22) [0] ⟨rfl, ⟨⟩⟩ (.int .i64 v20) [.row g1000 3 1 63 (fun _ => v21.lit), .row 0 5 1 29 (fun _ => [.int .i64 0, .int .i64 0, .str [], .int .i64 0, .nils]), .row 0 5 1 29 (fun _ => [.int .i64 4, .int .i64 0, .str [], .int .i64 0, .nils])] ?_
 have hL64 := hI65 _ _ _ _ _ _ _ _ h
 refine le (m50_L2_ind (motive := fun p63 l23 y24 y25 y26 l27 y28 o61 => a1 = p63 → o17 = o61 → LoopAt _ _ [(0, .optr 0 g1000 0 0), (1, .int .i64 a1), (4, .optr 1 0 0 0), (5, .optr 2 0 0 0), (6, .int .i64 y28)] [.row g1000 3 1 63 (fun _ => [sl 1 cB l23, .int .i64 y24, .int .i64 y25]), .row 0 5 1 29 (fun _ => [.int .i64 0, .int .i64 0, .str [], .int .i64 0, .nils]), .row 0 5 1 29 (fun _ => [.int .i64 4, .int .i64 0, .str [], .int .i64 y26, .own 3 0 0 l27.length]), .row 0 8 l27.length 43 (row TEntry.cells l27)]) ?_ a1 v21.fB v21.fI v21.fH 0 ([] : List TEntry) v20 o17 hL64 rfl rfl) (tk [0, 1, 2, 6] ⟨.p, .i, .p, .p, .i, ⟨⟩⟩ ⟨(obp rfl), (nb rfl ⟨.i, .i, .s, .i, .nils, ⟨⟩⟩), (nb rfl ⟨.i, .i, .s, .i, .g, ⟨⟩⟩), gh, ⟨⟩⟩)
 intro _ hG31 _ _ p63 l23 y24 y25 y26 l27 y28 o61 h ih29  hp_p63 hr62
 subst hp_p63
 subst hr62
 refine LoopAt.round (.d (.d (sD h (fun hb32 h => ?_) (fun hb32 h => ?_))))
 refine .d (.d ?_)
 obtain ⟨⟨v33, v34⟩, hv35, h⟩ := bd h
 refine pcO (ok47 (g1000 := g1000) hv35) [0] ⟨rfl, ⟨⟩⟩ (.agg v33.lit) [.row g1000 3 1 63 (fun _ => v34.lit), .row 0 5 1 29 (fun _ => [.int .i64 0, .int .i64 0, .str [], .int .i64 0, .nils]), .row 0 5 1 29 (fun _ => [.int .i64 4, .int .i64 0, .str [], .int .i64 y26, .own 3 0 0 l27.length]), .row 0 8 l27.length 43 (row TEntry.cells l27)] ⟨rfl, _, fun _ => [.bool v33.fText, .int .i64 v33.fNum, .str v33.fStr], rfl, one_set rfl, ?_⟩
 obtain ⟨o42, ho43, hk44⟩ := bd h
 replace h := ho43
 refine .cut (fun σ η => ∃ l36, ∃ y37, ∃ y38, ∃ b39, ∃ y40, ∃ s41, (l36, y37, y38, b39, y40, s41) = o42 ∧ σ = [(0, .optr 0 g1000 0 0), (1, .int .i64 a1), (4, .optr 1 0 0 0), (5, .optr 2 0 0 0), (6, .int .i64 y28), (7, .optr 4 0 0 0)] ∧ η = [.row g1000 3 1 63 (fun _ => [sl 1 cB l36, .int .i64 y37, .int .i64 y38]), .row 0 5 1 29 (fun _ => [.int .i64 0, .int .i64 0, .str [], .int .i64 0, .nils]), .row 0 5 1 29 (fun _ => [.int .i64 4, .int .i64 0, .str [], .int .i64 y26, .own 3 0 0 l27.length]), .row 0 8 l27.length 43 (row TEntry.cells l27), .row 0 3 1 41 (fun _ => [.bool b39, .int .i64 y40, .str s41])]) ?_ ?_
 refine .d ?_
 obtain ⟨⟨v45, v46⟩, hv47, h⟩ := bd h
 refine pcO (ok37 (g1000 := g1000) hv47) [0] ⟨rfl, ⟨⟩⟩ (.bool v45) [.row g1000 3 1 63 (fun _ => v46.lit), .row 0 5 1 29 (fun _ => [.int .i64 0, .int .i64 0, .str [], .int .i64 0, .nils]), .row 0 5 1 29 (fun _ => [.int .i64 4, .int .i64 0, .str [], .int .i64 y26, .own 3 0 0 l27.length]), .row 0 8 l27.length 43 (row TEntry.cells l27), .row 0 3 1 41 (fun _ => v33.lit)] (sV h (fun hb48 h => ?_) (fun hb48 h => ?_))
 refine ⟨rfl, (.t ⟨rfl, _, rfl, (.t (.t (sD h (fun hb49 h => ?_) (fun hb49 h => ?_))))⟩)⟩
 exact ⟨rfl, ⟨rfl, _, rfl, ⟨rfl, _, fun _ => [.bool false, .int .i64 y26, .str []], rfl, one_set rfl, (ct ⟨_, _, _, _, _, _, si h, rfl, rfl⟩ (tk [0, 1, 2, 3, 4] ⟨.p, .i, .p, .p, .i, .p, ⟨⟩⟩ ⟨(obp rfl), (nb rfl ⟨.i, .i, .s, .i, .nils, ⟨⟩⟩), (nb rfl ⟨.i, .i, .s, .i, .o, ⟨⟩⟩), nw, (nbp rfl), ⟨⟩⟩))⟩⟩⟩
 exact ct ⟨_, _, _, _, _, _, si h, rfl, rfl⟩ (tk [0, 1, 2, 3, 4] ⟨.p, .i, .p, .p, .i, .p, ⟨⟩⟩ ⟨(obp rfl), (nb rfl ⟨.i, .i, .s, .i, .nils, ⟨⟩⟩), (nb rfl ⟨.i, .i, .s, .i, .o, ⟨⟩⟩), nw, (nbp rfl), ⟨⟩⟩)
 exact .f (.f (.f (.f (ct ⟨_, _, _, _, _, _, si h, rfl, rfl⟩ (tk [0, 1, 2, 3, 4] ⟨.p, .i, .p, .p, .i, .p, ⟨⟩⟩ ⟨(obp rfl), (nb rfl ⟨.i, .i, .s, .i, .nils, ⟨⟩⟩), (nb rfl ⟨.i, .i, .s, .i, .o, ⟨⟩⟩), nw, (nbp rfl), ⟨⟩⟩)))))
 rintro _ _ ⟨l36, y37, y38, b39, y40, s41, rfl, rfl, rfl⟩
 replace h := hk44
 refine .d ⟨rfl, _, rfl, ⟨rfl, _, rfl, (bk h fun v50 hv51 h => (pcS (ok90 hv51) ⟨.agg_l ⟨.i, .i, .s, .i, .r, ⟨⟩⟩, .agg_l ⟨.b, .i, .s, ⟨⟩⟩, ⟨⟩⟩ (sD h (fun hb52 h => ?_) (fun hb52 h => ?_))))⟩⟩
 refine .d (.float [(0, true), (1, true), (2, true), (3, true), (4, true), (5, true), (6, false), (7, true), (8, false), (9, false), (10, true), (11, false)] (by kernel_rfl) ?_)
 refine ⟨rfl, ⟨rfl, _, rfl, ⟨rfl, _, rfl, ?_⟩⟩⟩
 obtain ⟨⟨v53, v54⟩, hv55, h⟩ := bd h
 refine pcO (hG31 _ _ _ hv55 _) [0] ⟨rfl, ⟨⟩⟩ (.agg v53.lit) [.row g1000 3 1 63 (fun _ => v54.lit), .row 0 5 1 29 (fun _ => [.int .i64 0, .int .i64 0, .str [], .int .i64 0, .nils]), .row 0 5 1 29 (fun _ => [.int .i64 4, .int .i64 0, .str [], .int .i64 y26, .own 3 0 0 l27.length]), .row 0 8 l27.length 43 (row TEntry.cells l27), .row 0 3 1 41 (fun _ => [.bool b39, .int .i64 y40, .str s41])] ⟨rfl, ⟨rfl, ⟨rfl, ⟨row TEntry.cells ([(TEntry.mk (TKey.mk b39 y40 s41) v53)] : List TEntry), row_lit TEntry.cells ([(TEntry.mk (TKey.mk b39 y40 s41) v53)] : List TEntry) rfl (cll_cons (TEntry.cells_eq _) ⟨.same _, .same _, .same _, .same _, .same _, .same _, .same _, .same _, trivial⟩ trivial), ⟨rfl, ⟨rfl, (bk h fun l56 hx57 h => ⟨rfl, rfl, lapp_bd hx57, l56.length, row TEntry.cells l56, lapp_len hx57, lapp_row hx57 shows_all (src_own shows_all), ⟨rfl, ⟨rfl, _, fun _ => [.int .i64 4, .int .i64 0, .str [], .int .i64 y26, .own 3 (0 + 1) 0 l56.length], rfl, one_set rfl, (.d ⟨rfl, ⟨rfl, _, rfl, (sVn h (fun hb58 h => ?_) (fun hb58 h => ?_))⟩⟩)⟩⟩⟩)⟩⟩⟩⟩⟩⟩
 exact ⟨rfl, ⟨rfl, _, rfl, ⟨rfl, ⟨rfl, _, rfl, (bk h fun v59 hv60 h => (pcP (ok91 hv60) ⟨rfl, ⟨rfl, _, fun _ => [.int .i64 4, .int .i64 0, .str [], .int .i64 v59, .own 3 (0 + 1) 0 l56.length], rfl, one_set rfl, (lg (ih29 _ _ _ _ _ _ _ _ h rfl rfl) (tk [0, 1, 2, 3] ⟨.p, .i, .p, .p, .i, ⟨⟩⟩ ⟨(obp rfl), (nb rfl ⟨.i, .i, .s, .i, .nils, ⟨⟩⟩), (nb rfl ⟨.i, .i, .s, .i, .o, ⟨⟩⟩), nw, ⟨⟩⟩))⟩⟩))⟩⟩⟩⟩
 exact lg (ih29 _ _ _ _ _ _ _ _ h rfl rfl) (tk [0, 1, 2, 3] ⟨.p, .i, .p, .p, .i, ⟨⟩⟩ ⟨(obp rfl), (nb rfl ⟨.i, .i, .s, .i, .nils, ⟨⟩⟩), (nb rfl ⟨.i, .i, .s, .i, .o, ⟨⟩⟩), nw, ⟨⟩⟩)
 exact lg (ih29 _ _ _ _ _ _ _ _ h rfl rfl) (tk [0, 1, 2, 3] ⟨.p, .i, .p, .p, .i, ⟨⟩⟩ ⟨(obp rfl), (nb rfl ⟨.i, .i, .s, .i, .nils, ⟨⟩⟩), (nb rfl ⟨.i, .i, .s, .i, .o, ⟨⟩⟩), nw, ⟨⟩⟩)
 exact ct ⟨_, _, _, _, _, si h, rfl, rfl⟩ (tk [0, 1, 2, 3] ⟨.p, .p, ⟨⟩⟩ ⟨(obp rfl), (nb rfl ⟨.i, .i, .s, .i, .nils, ⟨⟩⟩), (nb rfl ⟨.i, .i, .s, .i, .o, ⟨⟩⟩), nw, ⟨⟩⟩)
 rintro _ _ ⟨l12, y13, y14, y15, l16, rfl, rfl, rfl⟩
 replace h := hk19
 refine .d ⟨rfl, _, rfl, ⟨rfl, _, fun _ => [.int .i64 4, .int .i64 0, .str [], .int .i64 y15, .own 3 0 0 l16.length], rfl, one_set rfl, ?_⟩⟩
 obtain rfl := si h
 exact ⟨rfl, _, rfl, (en [0] ⟨rfl, rfl⟩ (.agg_l ⟨.i, .i, .s, .i, .r, ⟨⟩⟩) ⟨(ob rfl ⟨.l, .i, .i, ⟨⟩⟩), ⟨⟩⟩)⟩
 intro F0 F1 hF0 hF1 a1 l23 y24 y25 y26 l27 y28 o h
 exact .mk F0 hF0 F1 hF1 a1 l23 y24 y25 y26 l27 y28 o h
theorem ok50 {a0 : TL1Cur} {a1 : Int} {r : TValue × TL1Cur} {g1000 : Nat} (h : m50 a0 a1 = some r) : ACall Tryd.prog 33 [.optr 0 g1000 0 0, .int .i64 a1] [.row g1000 3 1 63 (fun _ => a0.lit)] (fun res h => res = .agg r.1.lit ∧ h = [.row g1000 3 1 63 (fun _ => r.2.lit)]) := grp_50.1 a0 a1 r h g1000
end Go.Am
