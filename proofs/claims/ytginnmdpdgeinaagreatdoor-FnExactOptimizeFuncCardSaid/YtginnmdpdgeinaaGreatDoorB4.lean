/- Models of Go functions, and their walks. (Printed by tools/mg.py.) -/
import Derived.Test.YtginnmdpdgeinaaGreatDoorB3
set_option linter.unusedVariables false
set_option linter.unusedSimpArgs false
set_option maxRecDepth 100000
namespace Go.Am
open Go Go.RowKit Go.Proofs
def m_s_l10Concat (a0 : TValue) (a1 : TValue) : Option (TValue × Int) :=
 m_s_ToText a0 >>= fun (v1, v2) =>
 m_s_ToText a1 >>= fun (v4, v5) =>
 (if v2 = 0 then
 (if v5 = 0 then
 (if (v1.length : Int) > (W64 (400 - (v4.length : Int))) then
 some ((TValue.mk 0 0 [] 0 []), 9)
 else
 scat v1 v4 >>= fun s10 =>
 some ((TValue.mk 3 0 s10 0 []), 0))
 else
 some ((TValue.mk 0 0 [] 0 []), 1))
 else
 some ((TValue.mk 0 0 [] 0 []), 1))
theorem ok_s_l10Concat {a0 : TValue} {a1 : TValue} {r : TValue × Int} (h : m_s_l10Concat a0 a1 = some r) : ACall Tryz.prog 99 [.agg a0.lit, .agg a1.lit] [] (fun res h => res = .tup [.agg r.1.lit, .int .i64 r.2] ∧ h = []) := by
 refine vc1 Tryz.func99 ?_
 unfold m_s_l10Concat at h
 refine .d (.d ⟨rfl, _, rfl, ?_⟩)
 obtain ⟨⟨v1, v2⟩, hv3, h⟩ := bd h
 refine pcP (ok_s_ToText hv3) (.d ⟨rfl, _, rfl, ?_⟩)
 obtain ⟨⟨v4, v5⟩, hv6, h⟩ := bd h
 refine pcP (ok_s_ToText hv6) (.d (.d (sN h (fun hb7 h => ?_) (fun hb7 h => ?_))))
 refine .t (.t (.t (.d ⟨rfl, _, fun _ => [.int .i64 0, .int .i64 0, .str [], .int .i64 0, .nils], rfl, one_set rfl, ?_⟩)))
 obtain rfl := si h
 exact ⟨rfl, _, rfl, (en [] ⟨rfl, rfl⟩ (.tup_l ⟨.agg_l ⟨.i, .i, .s, .i, .z, ⟨⟩⟩, .i, ⟨⟩⟩) ⟨⟩)⟩
 refine .f (.f (sN h (fun hb8 h => ?_) (fun hb8 h => ?_)))
 refine .d ⟨rfl, _, fun _ => [.int .i64 0, .int .i64 0, .str [], .int .i64 0, .nils], rfl, one_set rfl, ?_⟩
 obtain rfl := si h
 exact ⟨rfl, _, rfl, (en [] ⟨rfl, rfl⟩ (.tup_l ⟨.agg_l ⟨.i, .i, .s, .i, .z, ⟨⟩⟩, .i, ⟨⟩⟩) ⟨⟩)⟩
 refine .d (.d (sD h (fun hb9 h => ?_) (fun hb9 h => ?_)))
 refine .d ⟨rfl, _, fun _ => [.int .i64 0, .int .i64 0, .str [], .int .i64 0, .nils], rfl, one_set rfl, ?_⟩
 obtain rfl := si h
 exact ⟨rfl, _, rfl, (en [] ⟨rfl, rfl⟩ (.tup_l ⟨.agg_l ⟨.i, .i, .s, .i, .z, ⟨⟩⟩, .i, ⟨⟩⟩) ⟨⟩)⟩
 refine .d (bk h fun s10 hx11 h => ⟨scat_bd hx11, s10, scat_at hx11, (pcP (ok_s_TextValuex s10) ⟨rfl, _, fun _ => [.int .i64 3, .int .i64 0, .str s10, .int .i64 0, .nils], rfl, one_set rfl, ?_⟩)⟩)
 obtain rfl := si h
 exact ⟨rfl, _, rfl, (en [] ⟨rfl, rfl⟩ (.tup_l ⟨.agg_l ⟨.i, .i, .s, .i, .z, ⟨⟩⟩, .i, ⟨⟩⟩) ⟨⟩)⟩
def m_i_BinaryOp (a0 : Int) (a1 : TValue) (a2 : TValue) : Option (TValue × Int) :=
 ((
 (if a0 = 1 then
 (if a1.fKind = 4 then
 (if a2.fKind = 4 then
 m_i_Union a1 a2 >>= fun (v7, v8) =>
 some (.inr (v7, v8))
 else
 some (.inl ()))
 else
 some (.inl ()))
 else
 (if a0 = 6 then
 m_i_ToText a1 >>= fun (v11, v12) =>
 m_i_ToText a2 >>= fun (v14, v15) =>
 (if v12 = 0 then
 (if v15 = 0 then
 (if (W64 ((v11.length : Int) + (v14.length : Int))) > 400 then
 some (.inr ((TValue.mk 0 0 [] 0 []), 9))
 else
 scat v11 v14 >>= fun s20 =>
 some (.inr ((TValue.mk 3 0 s20 0 []), 0)))
 else
 some (.inr ((TValue.mk 0 0 [] 0 []), 1)))
 else
 some (.inr ((TValue.mk 0 0 [] 0 []), 1)))
 else
 (if a0 = 9 then
 m_i_Identical a1 a2 >>= fun v23 =>
 m_i_BoolValue v23 >>= fun v25 =>
 some (.inr (v25, 0))
 else
 (if a0 = 10 then
 m_i_Identical a1 a2 >>= fun v28 =>
 m_i_BoolValue (!v28) >>= fun v30 =>
 some (.inr (v30, 0))
 else
 (
 (if a0 = 7 then
 some (a0 == 7)
 else
 (if a0 = 8 then
 some (a0 == 8)
 else
 (if a0 = 11 then
 some (a0 == 11)
 else
 (if a0 = 12 then
 some (a0 == 12)
 else
 (if a0 = 13 then
 some (a0 == 13)
 else
 some (a0 == 14))))))
 : Option (Bool)) >>= fun b32 =>
 (if b32 = true then
 m_i_CompareValues a1 a2 >>= fun v42 =>
 m_i_Relation a0 v42 >>= fun v44 =>
 m_i_BoolValue v44 >>= fun v46 =>
 some (.inr (v46, 0))
 else
 (if a0 = 15 then
 m_i_CompareValues a1 a2 >>= fun v49 =>
 some (.inr ((TValue.mk 2 v49 [] 0 []), 0))
 else
 some (.inl ())))))))
 : Option ((Unit) ⊕ (TValue × Int))) >>= fun o1 => match o1 with
 | .inr r => some r
 | .inl _ =>
 m_i_ToNumber a1 >>= fun (v51, v52) =>
 m_i_ToNumber a2 >>= fun (v54, v55) =>
 (if v52 = 0 then
 (if v55 = 0 then
 m_i_Arith a0 v51 v54 >>= fun (v59, v60) =>
 (if v60 = 0 then
 some ((TValue.mk 2 v59 [] 0 []), 0)
 else
 some ((TValue.mk 0 0 [] 0 []), v60))
 else
 some ((TValue.mk 0 0 [] 0 []), 2))
 else
 some ((TValue.mk 0 0 [] 0 []), 2))
 )
theorem ok_i_BinaryOp {a0 : Int} {a1 : TValue} {a2 : TValue} {r : TValue × Int} (h : m_i_BinaryOp a0 a1 a2 = some r) : ACall Tryz.prog 77 [.int .i64 a0, .agg a1.lit, .agg a2.lit] [] (fun res h => res = .tup [.agg r.1.lit, .int .i64 r.2] ∧ h = []) := by
 refine vc1 Tryz.func77 ?_
 unfold m_i_BinaryOp at h
 refine .d ?_
 obtain ⟨o1, ho2, hk3⟩ := bd h
 replace h := ho2
 refine .cut (fun σ η => .inl () = o1 ∧ σ = [(0, .int .i64 a0), (4, .optr 0 0 0 0), (5, .optr 1 0 0 0), (6, .optr 2 0 0 0)] ∧ η = [.row 0 5 1 74 (fun _ => a1.lit), .row 0 5 1 74 (fun _ => a2.lit), .row 0 5 1 74 (fun _ => [.int .i64 0, .int .i64 0, .str [], .int .i64 0, .nils])]) ?_ ?_
 refine .d (.d (sE h (fun hb4 h => ?_) (fun hb4 h => ?_)))
 refine .d ⟨rfl, ⟨rfl, _, rfl, (sE h (fun hb5 h => ?_) (fun hb5 h => ?_))⟩⟩
 refine ⟨rfl, (.t ⟨rfl, _, rfl, (.t (.t (sE h (fun hb6 h => ?_) (fun hb6 h => ?_))))⟩)⟩
 refine .d ⟨rfl, _, rfl, ⟨rfl, _, rfl, ?_⟩⟩
 obtain ⟨⟨v7, v8⟩, hv9, h⟩ := bd h
 refine pcP (ok_i_Union hv9) ⟨rfl, _, fun _ => [.int .i64 v7.fKind, .int .i64 v7.fNum, .str v7.fStr, .int .i64 v7.fNext, sl 8 TEntry.cells v7.fItems], rfl, one_set rfl, ?_⟩
 obtain rfl := si h
 replace h := hk3
 obtain rfl := si h
 exact ⟨rfl, _, rfl, (en [] ⟨rfl, rfl⟩ (.tup_l ⟨.agg_l ⟨.i, .i, .s, .i, .l, ⟨⟩⟩, .i, ⟨⟩⟩) ⟨⟩)⟩
 exact ct ⟨si h, rfl, rfl⟩ (tk [0, 1, 2] ⟨.i, .p, .p, .p, ⟨⟩⟩ ⟨(nbp rfl), (nbp rfl), (nb rfl ⟨.i, .i, .s, .i, .nils, ⟨⟩⟩), ⟨⟩⟩)
 exact .f (.f (.f (.f (ct ⟨si h, rfl, rfl⟩ (tk [0, 1, 2] ⟨.i, .p, .p, .p, ⟨⟩⟩ ⟨(nbp rfl), (nbp rfl), (nb rfl ⟨.i, .i, .s, .i, .nils, ⟨⟩⟩), ⟨⟩⟩)))))
 refine .d (sE h (fun hb10 h => ?_) (fun hb10 h => ?_))
 refine .d ⟨rfl, _, rfl, ?_⟩
 obtain ⟨⟨v11, v12⟩, hv13, h⟩ := bd h
 refine pcP (ok_i_ToText hv13) (.d ⟨rfl, _, rfl, ?_⟩)
 obtain ⟨⟨v14, v15⟩, hv16, h⟩ := bd h
 refine pcP (ok_i_ToText hv16) (.d (.d (sN h (fun hb17 h => ?_) (fun hb17 h => ?_))))
 refine .t (.t (.t (.d (pcP (ok_i_NullValuex) ⟨rfl, _, fun _ => [.int .i64 0, .int .i64 0, .str [], .int .i64 0, .nils], rfl, one_set rfl, ?_⟩))))
 obtain rfl := si h
 replace h := hk3
 obtain rfl := si h
 exact ⟨rfl, _, rfl, (en [] ⟨rfl, rfl⟩ (.tup_l ⟨.agg_l ⟨.i, .i, .s, .i, .z, ⟨⟩⟩, .i, ⟨⟩⟩) ⟨⟩)⟩
 refine .f (.f (sN h (fun hb18 h => ?_) (fun hb18 h => ?_)))
 refine .d (pcP (ok_i_NullValuex) ⟨rfl, _, fun _ => [.int .i64 0, .int .i64 0, .str [], .int .i64 0, .nils], rfl, one_set rfl, ?_⟩)
 obtain rfl := si h
 replace h := hk3
 obtain rfl := si h
 exact ⟨rfl, _, rfl, (en [] ⟨rfl, rfl⟩ (.tup_l ⟨.agg_l ⟨.i, .i, .s, .i, .z, ⟨⟩⟩, .i, ⟨⟩⟩) ⟨⟩)⟩
 refine .d (.d (sD h (fun hb19 h => ?_) (fun hb19 h => ?_)))
 refine .d (pcP (ok_i_NullValuex) ⟨rfl, _, fun _ => [.int .i64 0, .int .i64 0, .str [], .int .i64 0, .nils], rfl, one_set rfl, ?_⟩)
 obtain rfl := si h
 replace h := hk3
 obtain rfl := si h
 exact ⟨rfl, _, rfl, (en [] ⟨rfl, rfl⟩ (.tup_l ⟨.agg_l ⟨.i, .i, .s, .i, .z, ⟨⟩⟩, .i, ⟨⟩⟩) ⟨⟩)⟩
 refine .d (bk h fun s20 hx21 h => ⟨scat_bd hx21, s20, scat_at hx21, (pcP (ok_i_TextValuex s20) ⟨rfl, _, fun _ => [.int .i64 3, .int .i64 0, .str s20, .int .i64 0, .nils], rfl, one_set rfl, ?_⟩)⟩)
 obtain rfl := si h
 replace h := hk3
 obtain rfl := si h
 exact ⟨rfl, _, rfl, (en [] ⟨rfl, rfl⟩ (.tup_l ⟨.agg_l ⟨.i, .i, .s, .i, .z, ⟨⟩⟩, .i, ⟨⟩⟩) ⟨⟩)⟩
 refine .d (sE h (fun hb22 h => ?_) (fun hb22 h => ?_))
 refine .d ⟨rfl, _, rfl, ⟨rfl, _, rfl, (bk h fun v23 hv24 h => (pcP (ok_i_Identical hv24) (bk h fun v25 hv26 h => (pcP (ok_i_BoolValue hv26) ⟨rfl, _, fun _ => [.int .i64 v25.fKind, .int .i64 v25.fNum, .str v25.fStr, .int .i64 v25.fNext, sl 8 TEntry.cells v25.fItems], rfl, one_set rfl, ?_⟩))))⟩⟩
 obtain rfl := si h
 replace h := hk3
 obtain rfl := si h
 exact ⟨rfl, _, rfl, (en [] ⟨rfl, rfl⟩ (.tup_l ⟨.agg_l ⟨.i, .i, .s, .i, .l, ⟨⟩⟩, .i, ⟨⟩⟩) ⟨⟩)⟩
 refine .d (sE h (fun hb27 h => ?_) (fun hb27 h => ?_))
 refine .d ⟨rfl, _, rfl, ⟨rfl, _, rfl, (bk h fun v28 hv29 h => (pcP (ok_i_Identical hv29) (bk h fun v30 hv31 h => (pcP (ok_i_BoolValue hv31) ⟨rfl, _, fun _ => [.int .i64 v30.fKind, .int .i64 v30.fNum, .str v30.fStr, .int .i64 v30.fNext, sl 8 TEntry.cells v30.fItems], rfl, one_set rfl, ?_⟩))))⟩⟩
 obtain rfl := si h
 replace h := hk3
 obtain rfl := si h
 exact ⟨rfl, _, rfl, (en [] ⟨rfl, rfl⟩ (.tup_l ⟨.agg_l ⟨.i, .i, .s, .i, .l, ⟨⟩⟩, .i, ⟨⟩⟩) ⟨⟩)⟩
 obtain ⟨o33, ho34, hk35⟩ := bd h
 replace h := ho34
 refine .cut (fun σ η => ∃ b32, b32 = o33 ∧ σ = [(0, .int .i64 a0), (4, .optr 0 0 0 0), (5, .optr 1 0 0 0), (6, .optr 2 0 0 0), (18, .int .i64 a0), (77, .bool b32)] ∧ η = [.row 0 5 1 74 (fun _ => a1.lit), .row 0 5 1 74 (fun _ => a2.lit), .row 0 5 1 74 (fun _ => [.int .i64 0, .int .i64 0, .str [], .int .i64 0, .nils])]) ?_ ?_
 refine .d (sE h (fun hb36 h => ?_) (fun hb36 h => ?_))
 exact ct ⟨_, si h, rfl, rfl⟩ (tk [0, 1, 2] ⟨.i, .p, .p, .p, .i, .b, ⟨⟩⟩ ⟨(nbp rfl), (nbp rfl), (nb rfl ⟨.i, .i, .s, .i, .nils, ⟨⟩⟩), ⟨⟩⟩)
 refine .d (sE h (fun hb37 h => ?_) (fun hb37 h => ?_))
 exact ct ⟨_, si h, rfl, rfl⟩ (tk [0, 1, 2] ⟨.i, .p, .p, .p, .i, .b, ⟨⟩⟩ ⟨(nbp rfl), (nbp rfl), (nb rfl ⟨.i, .i, .s, .i, .nils, ⟨⟩⟩), ⟨⟩⟩)
 refine .d (sE h (fun hb38 h => ?_) (fun hb38 h => ?_))
 exact ct ⟨_, si h, rfl, rfl⟩ (tk [0, 1, 2] ⟨.i, .p, .p, .p, .i, .b, ⟨⟩⟩ ⟨(nbp rfl), (nbp rfl), (nb rfl ⟨.i, .i, .s, .i, .nils, ⟨⟩⟩), ⟨⟩⟩)
 refine .d (sE h (fun hb39 h => ?_) (fun hb39 h => ?_))
 exact ct ⟨_, si h, rfl, rfl⟩ (tk [0, 1, 2] ⟨.i, .p, .p, .p, .i, .b, ⟨⟩⟩ ⟨(nbp rfl), (nbp rfl), (nb rfl ⟨.i, .i, .s, .i, .nils, ⟨⟩⟩), ⟨⟩⟩)
 refine .d (sE h (fun hb40 h => ?_) (fun hb40 h => ?_))
 exact ct ⟨_, si h, rfl, rfl⟩ (tk [0, 1, 2] ⟨.i, .p, .p, .p, .i, .b, ⟨⟩⟩ ⟨(nbp rfl), (nbp rfl), (nb rfl ⟨.i, .i, .s, .i, .nils, ⟨⟩⟩), ⟨⟩⟩)
 exact ct ⟨_, si h, rfl, rfl⟩ (tk [0, 1, 2] ⟨.i, .p, .p, .p, .i, .b, ⟨⟩⟩ ⟨(nbp rfl), (nbp rfl), (nb rfl ⟨.i, .i, .s, .i, .nils, ⟨⟩⟩), ⟨⟩⟩)
 rintro _ _ ⟨b32, rfl, rfl, rfl⟩
 replace h := hk35
 refine sV h (fun hb41 h => ?_) (fun hb41 h => ?_)
 refine .d ⟨rfl, _, rfl, ⟨rfl, _, rfl, (bk h fun v42 hv43 h => (pcP (ok_i_CompareValues hv43) (bk h fun v44 hv45 h => (pcP (ok_i_Relation hv45) (bk h fun v46 hv47 h => (pcP (ok_i_BoolValue hv47) ⟨rfl, _, fun _ => [.int .i64 v46.fKind, .int .i64 v46.fNum, .str v46.fStr, .int .i64 v46.fNext, sl 8 TEntry.cells v46.fItems], rfl, one_set rfl, ?_⟩))))))⟩⟩
 obtain rfl := si h
 replace h := hk3
 obtain rfl := si h
 exact ⟨rfl, _, rfl, (en [] ⟨rfl, rfl⟩ (.tup_l ⟨.agg_l ⟨.i, .i, .s, .i, .l, ⟨⟩⟩, .i, ⟨⟩⟩) ⟨⟩)⟩
 refine .d (sE h (fun hb48 h => ?_) (fun hb48 h => ?_))
 refine .d ⟨rfl, _, rfl, ⟨rfl, _, rfl, (bk h fun v49 hv50 h => (pcP (ok_i_CompareValues hv50) (pcP (ok_i_IntValuex v49) ⟨rfl, _, fun _ => [.int .i64 2, .int .i64 v49, .str [], .int .i64 0, .nils], rfl, one_set rfl, ?_⟩)))⟩⟩
 obtain rfl := si h
 replace h := hk3
 obtain rfl := si h
 exact ⟨rfl, _, rfl, (en [] ⟨rfl, rfl⟩ (.tup_l ⟨.agg_l ⟨.i, .i, .s, .i, .z, ⟨⟩⟩, .i, ⟨⟩⟩) ⟨⟩)⟩
 exact ct ⟨si h, rfl, rfl⟩ (tk [0, 1, 2] ⟨.i, .p, .p, .p, ⟨⟩⟩ ⟨(nbp rfl), (nbp rfl), (nb rfl ⟨.i, .i, .s, .i, .nils, ⟨⟩⟩), ⟨⟩⟩)
 rintro _ _ ⟨rfl, rfl, rfl⟩
 replace h := hk3
 refine .d ⟨rfl, _, rfl, ?_⟩
 obtain ⟨⟨v51, v52⟩, hv53, h⟩ := bd h
 refine pcP (ok_i_ToNumber hv53) (.d ⟨rfl, _, rfl, ?_⟩)
 obtain ⟨⟨v54, v55⟩, hv56, h⟩ := bd h
 refine pcP (ok_i_ToNumber hv56) (.d (.d (sN h (fun hb57 h => ?_) (fun hb57 h => ?_))))
 refine .t (.t (.t (.d (pcP (ok_i_NullValuex) ⟨rfl, _, fun _ => [.int .i64 0, .int .i64 0, .str [], .int .i64 0, .nils], rfl, one_set rfl, ?_⟩))))
 obtain rfl := si h
 exact ⟨rfl, _, rfl, (en [] ⟨rfl, rfl⟩ (.tup_l ⟨.agg_l ⟨.i, .i, .s, .i, .z, ⟨⟩⟩, .i, ⟨⟩⟩) ⟨⟩)⟩
 refine .f (.f (sN h (fun hb58 h => ?_) (fun hb58 h => ?_)))
 refine .d (pcP (ok_i_NullValuex) ⟨rfl, _, fun _ => [.int .i64 0, .int .i64 0, .str [], .int .i64 0, .nils], rfl, one_set rfl, ?_⟩)
 obtain rfl := si h
 exact ⟨rfl, _, rfl, (en [] ⟨rfl, rfl⟩ (.tup_l ⟨.agg_l ⟨.i, .i, .s, .i, .z, ⟨⟩⟩, .i, ⟨⟩⟩) ⟨⟩)⟩
 refine .d ?_
 obtain ⟨⟨v59, v60⟩, hv61, h⟩ := bd h
 refine pcP (ok_i_Arith hv61) (.d (.d (sN h (fun hb62 h => ?_) (fun hb62 h => ?_))))
 refine .d (pcP (ok_i_NullValuex) ⟨rfl, _, fun _ => [.int .i64 0, .int .i64 0, .str [], .int .i64 0, .nils], rfl, one_set rfl, ?_⟩)
 obtain rfl := si h
 exact ⟨rfl, _, rfl, (en [] ⟨rfl, rfl⟩ (.tup_l ⟨.agg_l ⟨.i, .i, .s, .i, .z, ⟨⟩⟩, .i, ⟨⟩⟩) ⟨⟩)⟩
 refine .d (pcP (ok_i_IntValuex v59) ⟨rfl, _, fun _ => [.int .i64 2, .int .i64 v59, .str [], .int .i64 0, .nils], rfl, one_set rfl, ?_⟩)
 obtain rfl := si h
 exact ⟨rfl, _, rfl, (en [] ⟨rfl, rfl⟩ (.tup_l ⟨.agg_l ⟨.i, .i, .s, .i, .z, ⟨⟩⟩, .i, ⟨⟩⟩) ⟨⟩)⟩
def m_s_BinaryOp (a0 : Int) (a1 : TValue) (a2 : TValue) : Option (TValue × Int) :=
 (
 (if a0 = 1 then
 (if a1.fKind = 4 then
 some (a2.fKind == 4)
 else
 some false)
 else
 some false)
 : Option (Bool)) >>= fun b1 =>
 (if b1 = true then
 m_s_Union a1 a2 >>= fun (v8, v9) =>
 some (v8, v9)
 else
 (if a0 = 6 then
 m_s_l10Concat a1 a2 >>= fun (v12, v13) =>
 some (v12, v13)
 else
 (if a0 = 9 then
 m_s_Identical a1 a2 >>= fun v16 =>
 m_s_BoolValue v16 >>= fun v18 =>
 some (v18, 0)
 else
 (if a0 = 10 then
 m_s_Identical a1 a2 >>= fun v21 =>
 m_s_BoolValue (!v21) >>= fun v23 =>
 some (v23, 0)
 else
 (if a0 = 15 then
 m_s_CompareValues a1 a2 >>= fun v26 =>
 some ((TValue.mk 2 v26 [] 0 []), 0)
 else
 m_s_l1In a0 7 14 >>= fun v28 =>
 (if v28 = true then
 m_s_CompareValues a1 a2 >>= fun v31 =>
 m_s_Relation a0 v31 >>= fun v33 =>
 m_s_BoolValue v33 >>= fun v35 =>
 some (v35, 0)
 else
 m_s_ToNumber a1 >>= fun (v37, v38) =>
 m_s_ToNumber a2 >>= fun (v40, v41) =>
 (if v38 = 0 then
 (if v41 = 0 then
 m_s_Arith a0 v37 v40 >>= fun (v45, v46) =>
 (if v46 = 0 then
 some ((TValue.mk 2 v45 [] 0 []), 0)
 else
 some ((TValue.mk 0 0 [] 0 []), v46))
 else
 some ((TValue.mk 0 0 [] 0 []), 2))
 else
 some ((TValue.mk 0 0 [] 0 []), 2))))))))
theorem ok_s_BinaryOp {a0 : Int} {a1 : TValue} {a2 : TValue} {r : TValue × Int} (h : m_s_BinaryOp a0 a1 a2 = some r) : ACall Tryz.prog 60 [.int .i64 a0, .agg a1.lit, .agg a2.lit] [] (fun res h => res = .tup [.agg r.1.lit, .int .i64 r.2] ∧ h = []) := by
 refine vc1 Tryz.func60 ?_
 unfold m_s_BinaryOp at h
 refine .d (.d ?_)
 obtain ⟨o2, ho3, hk4⟩ := bd h
 replace h := ho3
 refine .cut (fun σ η => ∃ b1, b1 = o2 ∧ σ = [(0, .int .i64 a0), (4, .optr 0 0 0 0), (5, .optr 1 0 0 0), (6, .optr 2 0 0 0), (14, .bool b1)] ∧ η = [.row 0 5 1 74 (fun _ => a1.lit), .row 0 5 1 74 (fun _ => a2.lit), .row 0 5 1 74 (fun _ => [.int .i64 0, .int .i64 0, .str [], .int .i64 0, .nils])]) ?_ ?_
 refine sE h (fun hb5 h => ?_) (fun hb5 h => ?_)
 refine ⟨rfl, (.t ⟨rfl, _, rfl, (.t (.t (sE h (fun hb6 h => ?_) (fun hb6 h => ?_))))⟩)⟩
 exact ⟨rfl, (.t ⟨rfl, _, rfl, (.t (.t (ct ⟨_, si h, rfl, rfl⟩ (tk [0, 1, 2] ⟨.i, .p, .p, .p, .b, ⟨⟩⟩ ⟨(nbp rfl), (nbp rfl), (nb rfl ⟨.i, .i, .s, .i, .nils, ⟨⟩⟩), ⟨⟩⟩))))⟩)⟩
 exact .f (.f (.f (ct ⟨_, si h, rfl, rfl⟩ (tk [0, 1, 2] ⟨.i, .p, .p, .p, .b, ⟨⟩⟩ ⟨(nbp rfl), (nbp rfl), (nb rfl ⟨.i, .i, .s, .i, .nils, ⟨⟩⟩), ⟨⟩⟩))))
 exact .f (.f (.f (.f (.f (.f (.f (ct ⟨_, si h, rfl, rfl⟩ (tk [0, 1, 2] ⟨.i, .p, .p, .p, .b, ⟨⟩⟩ ⟨(nbp rfl), (nbp rfl), (nb rfl ⟨.i, .i, .s, .i, .nils, ⟨⟩⟩), ⟨⟩⟩))))))))
 rintro _ _ ⟨b1, rfl, rfl, rfl⟩
 replace h := hk4
 refine sV h (fun hb7 h => ?_) (fun hb7 h => ?_)
 refine .d ⟨rfl, _, rfl, ⟨rfl, _, rfl, ?_⟩⟩
 obtain ⟨⟨v8, v9⟩, hv10, h⟩ := bd h
 refine pcP (ok_s_Union hv10) ⟨rfl, _, fun _ => [.int .i64 v8.fKind, .int .i64 v8.fNum, .str v8.fStr, .int .i64 v8.fNext, sl 8 TEntry.cells v8.fItems], rfl, one_set rfl, ?_⟩
 obtain rfl := si h
 exact ⟨rfl, _, rfl, (en [] ⟨rfl, rfl⟩ (.tup_l ⟨.agg_l ⟨.i, .i, .s, .i, .l, ⟨⟩⟩, .i, ⟨⟩⟩) ⟨⟩)⟩
 refine .d (sE h (fun hb11 h => ?_) (fun hb11 h => ?_))
 refine .d ⟨rfl, _, rfl, ⟨rfl, _, rfl, ?_⟩⟩
 obtain ⟨⟨v12, v13⟩, hv14, h⟩ := bd h
 refine pcP (ok_s_l10Concat hv14) ⟨rfl, _, fun _ => [.int .i64 v12.fKind, .int .i64 v12.fNum, .str v12.fStr, .int .i64 v12.fNext, sl 8 TEntry.cells v12.fItems], rfl, one_set rfl, ?_⟩
 obtain rfl := si h
 exact ⟨rfl, _, rfl, (en [] ⟨rfl, rfl⟩ (.tup_l ⟨.agg_l ⟨.i, .i, .s, .i, .l, ⟨⟩⟩, .i, ⟨⟩⟩) ⟨⟩)⟩
 refine .d (sE h (fun hb15 h => ?_) (fun hb15 h => ?_))
 refine .d ⟨rfl, _, rfl, ⟨rfl, _, rfl, (bk h fun v16 hv17 h => (pcP (ok_s_Identical hv17) (bk h fun v18 hv19 h => (pcP (ok_s_BoolValue hv19) ⟨rfl, _, fun _ => [.int .i64 v18.fKind, .int .i64 v18.fNum, .str v18.fStr, .int .i64 v18.fNext, sl 8 TEntry.cells v18.fItems], rfl, one_set rfl, ?_⟩))))⟩⟩
 obtain rfl := si h
 exact ⟨rfl, _, rfl, (en [] ⟨rfl, rfl⟩ (.tup_l ⟨.agg_l ⟨.i, .i, .s, .i, .l, ⟨⟩⟩, .i, ⟨⟩⟩) ⟨⟩)⟩
 refine .d (sE h (fun hb20 h => ?_) (fun hb20 h => ?_))
 refine .d ⟨rfl, _, rfl, ⟨rfl, _, rfl, (bk h fun v21 hv22 h => (pcP (ok_s_Identical hv22) (bk h fun v23 hv24 h => (pcP (ok_s_BoolValue hv24) ⟨rfl, _, fun _ => [.int .i64 v23.fKind, .int .i64 v23.fNum, .str v23.fStr, .int .i64 v23.fNext, sl 8 TEntry.cells v23.fItems], rfl, one_set rfl, ?_⟩))))⟩⟩
 obtain rfl := si h
 exact ⟨rfl, _, rfl, (en [] ⟨rfl, rfl⟩ (.tup_l ⟨.agg_l ⟨.i, .i, .s, .i, .l, ⟨⟩⟩, .i, ⟨⟩⟩) ⟨⟩)⟩
 refine .d (sE h (fun hb25 h => ?_) (fun hb25 h => ?_))
 refine .d ⟨rfl, _, rfl, ⟨rfl, _, rfl, (bk h fun v26 hv27 h => (pcP (ok_s_CompareValues hv27) (pcP (ok_s_IntValuex v26) ⟨rfl, _, fun _ => [.int .i64 2, .int .i64 v26, .str [], .int .i64 0, .nils], rfl, one_set rfl, ?_⟩)))⟩⟩
 obtain rfl := si h
 exact ⟨rfl, _, rfl, (en [] ⟨rfl, rfl⟩ (.tup_l ⟨.agg_l ⟨.i, .i, .s, .i, .z, ⟨⟩⟩, .i, ⟨⟩⟩) ⟨⟩)⟩
 refine .d (bk h fun v28 hv29 h => (pcP (ok_s_l1In hv29) (sV h (fun hb30 h => ?_) (fun hb30 h => ?_))))
 refine .d ⟨rfl, _, rfl, ⟨rfl, _, rfl, (bk h fun v31 hv32 h => (pcP (ok_s_CompareValues hv32) (bk h fun v33 hv34 h => (pcP (ok_s_Relation hv34) (bk h fun v35 hv36 h => (pcP (ok_s_BoolValue hv36) ⟨rfl, _, fun _ => [.int .i64 v35.fKind, .int .i64 v35.fNum, .str v35.fStr, .int .i64 v35.fNext, sl 8 TEntry.cells v35.fItems], rfl, one_set rfl, ?_⟩))))))⟩⟩
 obtain rfl := si h
 exact ⟨rfl, _, rfl, (en [] ⟨rfl, rfl⟩ (.tup_l ⟨.agg_l ⟨.i, .i, .s, .i, .l, ⟨⟩⟩, .i, ⟨⟩⟩) ⟨⟩)⟩
 refine .d ⟨rfl, _, rfl, ?_⟩
 obtain ⟨⟨v37, v38⟩, hv39, h⟩ := bd h
 refine pcP (ok_s_ToNumber hv39) (.d ⟨rfl, _, rfl, ?_⟩)
 obtain ⟨⟨v40, v41⟩, hv42, h⟩ := bd h
 refine pcP (ok_s_ToNumber hv42) (.d (.d (sN h (fun hb43 h => ?_) (fun hb43 h => ?_))))
 refine .t (.t (.t (.d ⟨rfl, _, fun _ => [.int .i64 0, .int .i64 0, .str [], .int .i64 0, .nils], rfl, one_set rfl, ?_⟩)))
 obtain rfl := si h
 exact ⟨rfl, _, rfl, (en [] ⟨rfl, rfl⟩ (.tup_l ⟨.agg_l ⟨.i, .i, .s, .i, .z, ⟨⟩⟩, .i, ⟨⟩⟩) ⟨⟩)⟩
 refine .f (.f (sN h (fun hb44 h => ?_) (fun hb44 h => ?_)))
 refine .d ⟨rfl, _, fun _ => [.int .i64 0, .int .i64 0, .str [], .int .i64 0, .nils], rfl, one_set rfl, ?_⟩
 obtain rfl := si h
 exact ⟨rfl, _, rfl, (en [] ⟨rfl, rfl⟩ (.tup_l ⟨.agg_l ⟨.i, .i, .s, .i, .z, ⟨⟩⟩, .i, ⟨⟩⟩) ⟨⟩)⟩
 refine .d ?_
 obtain ⟨⟨v45, v46⟩, hv47, h⟩ := bd h
 refine pcP (ok_s_Arith hv47) (.d (.d (sN h (fun hb48 h => ?_) (fun hb48 h => ?_))))
 refine .d ⟨rfl, _, fun _ => [.int .i64 0, .int .i64 0, .str [], .int .i64 0, .nils], rfl, one_set rfl, ?_⟩
 obtain rfl := si h
 exact ⟨rfl, _, rfl, (en [] ⟨rfl, rfl⟩ (.tup_l ⟨.agg_l ⟨.i, .i, .s, .i, .z, ⟨⟩⟩, .i, ⟨⟩⟩) ⟨⟩)⟩
 refine .d (pcP (ok_s_IntValuex v45) ⟨rfl, _, fun _ => [.int .i64 2, .int .i64 v45, .str [], .int .i64 0, .nils], rfl, one_set rfl, ?_⟩)
 obtain rfl := si h
 exact ⟨rfl, _, rfl, (en [] ⟨rfl, rfl⟩ (.tup_l ⟨.agg_l ⟨.i, .i, .s, .i, .z, ⟨⟩⟩, .i, ⟨⟩⟩) ⟨⟩)⟩
def m_i_UnaryOp (a0 : Int) (a1 : TValue) : Option (TValue × Int) :=
 (if a0 = 1 then
 m_i_ToBool a1 >>= fun v2 =>
 m_i_BoolValue (!v2) >>= fun v4 =>
 some (v4, 0)
 else
 (if a0 = 2 then
 m_i_BinaryOp 2 (TValue.mk 2 0 [] 0 []) a1 >>= fun (v7, v8) =>
 some (v7, v8)
 else
 some ((TValue.mk 0 0 [] 0 []), 2)))
theorem ok_i_UnaryOp {a0 : Int} {a1 : TValue} {r : TValue × Int} (h : m_i_UnaryOp a0 a1 = some r) : ACall Tryz.prog 73 [.int .i64 a0, .agg a1.lit] [] (fun res h => res = .tup [.agg r.1.lit, .int .i64 r.2] ∧ h = []) := by
 refine vc1 Tryz.func73 ?_
 unfold m_i_UnaryOp at h
 refine .d (.d (.d (.d (sE h (fun hb1 h => ?_) (fun hb1 h => ?_)))))
 refine .d ⟨rfl, _, rfl, (bk h fun v2 hv3 h => (pcP (ok_i_ToBool hv3) (bk h fun v4 hv5 h => (pcP (ok_i_BoolValue hv5) ⟨rfl, _, fun _ => [.int .i64 v4.fKind, .int .i64 v4.fNum, .str v4.fStr, .int .i64 v4.fNext, sl 8 TEntry.cells v4.fItems], rfl, one_set rfl, ?_⟩))))⟩
 obtain rfl := si h
 exact ⟨rfl, _, rfl, (en [] ⟨rfl, rfl⟩ (.tup_l ⟨.agg_l ⟨.i, .i, .s, .i, .l, ⟨⟩⟩, .i, ⟨⟩⟩) ⟨⟩)⟩
 refine .d (sE h (fun hb6 h => ?_) (fun hb6 h => ?_))
 refine .d (.float [(1, true), (0, false), (2, false), (3, true), (4, true), (5, false), (6, true)] (by kernel_rfl) ?_)
 refine ⟨rfl, _, rfl, (pcP (ok_i_IntValuex 0) ⟨rfl, ?_⟩)⟩
 obtain ⟨⟨v7, v8⟩, hv9, h⟩ := bd h
 refine pcP (ACall.relax (ok_i_BinaryOp hv9) ⟨.same _, .agg ⟨.same _, .same _, .same _, .same _, .nil _ _, ⟨⟩⟩, .same _, ⟨⟩⟩) ⟨rfl, _, fun _ => [.int .i64 v7.fKind, .int .i64 v7.fNum, .str v7.fStr, .int .i64 v7.fNext, sl 8 TEntry.cells v7.fItems], rfl, one_set rfl, ?_⟩
 obtain rfl := si h
 exact ⟨rfl, _, rfl, (en [] ⟨rfl, rfl⟩ (.tup_l ⟨.agg_l ⟨.i, .i, .s, .i, .l, ⟨⟩⟩, .i, ⟨⟩⟩) ⟨⟩)⟩
 refine .d (pcP (ok_i_NullValuex) ⟨rfl, _, fun _ => [.int .i64 0, .int .i64 0, .str [], .int .i64 0, .nils], rfl, one_set rfl, ?_⟩)
 obtain rfl := si h
 exact ⟨rfl, _, rfl, (en [] ⟨rfl, rfl⟩ (.tup_l ⟨.agg_l ⟨.i, .i, .s, .i, .z, ⟨⟩⟩, .i, ⟨⟩⟩) ⟨⟩)⟩
def m_s_UnaryOp (a0 : Int) (a1 : TValue) : Option (TValue × Int) :=
 (if a0 = 1 then
 m_s_ToBool a1 >>= fun v2 =>
 m_s_BoolValue (!v2) >>= fun v4 =>
 some (v4, 0)
 else
 (if a0 = 2 then
 m_s_BinaryOp 2 (TValue.mk 2 0 [] 0 []) a1 >>= fun (v7, v8) =>
 some (v7, v8)
 else
 some ((TValue.mk 0 0 [] 0 []), 2)))
theorem ok_s_UnaryOp {a0 : Int} {a1 : TValue} {r : TValue × Int} (h : m_s_UnaryOp a0 a1 = some r) : ACall Tryz.prog 59 [.int .i64 a0, .agg a1.lit] [] (fun res h => res = .tup [.agg r.1.lit, .int .i64 r.2] ∧ h = []) := by
 refine vc1 Tryz.func59 ?_
 unfold m_s_UnaryOp at h
 refine .d (.d (.d (sE h (fun hb1 h => ?_) (fun hb1 h => ?_))))
 refine .d ⟨rfl, _, rfl, (bk h fun v2 hv3 h => (pcP (ok_s_ToBool hv3) (bk h fun v4 hv5 h => (pcP (ok_s_BoolValue hv5) ⟨rfl, _, fun _ => [.int .i64 v4.fKind, .int .i64 v4.fNum, .str v4.fStr, .int .i64 v4.fNext, sl 8 TEntry.cells v4.fItems], rfl, one_set rfl, ?_⟩))))⟩
 obtain rfl := si h
 exact ⟨rfl, _, rfl, (en [] ⟨rfl, rfl⟩ (.tup_l ⟨.agg_l ⟨.i, .i, .s, .i, .l, ⟨⟩⟩, .i, ⟨⟩⟩) ⟨⟩)⟩
 refine .d (.d (sE h (fun hb6 h => ?_) (fun hb6 h => ?_)))
 refine .d (.float [(1, true), (0, false), (2, false), (3, true), (4, true), (5, false), (6, true)] (by kernel_rfl) ?_)
 refine ⟨rfl, _, rfl, (pcP (ok_s_IntValuex 0) ⟨rfl, ?_⟩)⟩
 obtain ⟨⟨v7, v8⟩, hv9, h⟩ := bd h
 refine pcP (ACall.relax (ok_s_BinaryOp hv9) ⟨.same _, .agg ⟨.same _, .same _, .same _, .same _, .nil _ _, ⟨⟩⟩, .same _, ⟨⟩⟩) ⟨rfl, _, fun _ => [.int .i64 v7.fKind, .int .i64 v7.fNum, .str v7.fStr, .int .i64 v7.fNext, sl 8 TEntry.cells v7.fItems], rfl, one_set rfl, ?_⟩
 obtain rfl := si h
 exact ⟨rfl, _, rfl, (en [] ⟨rfl, rfl⟩ (.tup_l ⟨.agg_l ⟨.i, .i, .s, .i, .l, ⟨⟩⟩, .i, ⟨⟩⟩) ⟨⟩)⟩
 refine .d ⟨rfl, _, fun _ => [.int .i64 0, .int .i64 0, .str [], .int .i64 0, .nils], rfl, one_set rfl, ?_⟩
 obtain rfl := si h
 exact ⟨rfl, _, rfl, (en [] ⟨rfl, rfl⟩ (.tup_l ⟨.agg_l ⟨.i, .i, .s, .i, .z, ⟨⟩⟩, .i, ⟨⟩⟩) ⟨⟩)⟩
def m_s_l19Const (a0 : TNode) : Option (TValue) :=
 (if a0.fKind = 1 then
 some (TValue.mk 2 a0.fNum [] 0 [])
 else
 (if a0.fKind = 2 then
 some (TValue.mk 3 0 a0.fText 0 [])
 else
 (if a0.fNum = 0 then
 some (TValue.mk 0 0 [] 0 [])
 else
 m_s_BoolValue (a0.fNum == 2) >>= fun v4 =>
 some v4)))
theorem ok_s_l19Const {a0 : TNode} {r : TValue} (h : m_s_l19Const a0 = some r) : ACall Tryz.prog 97 [.agg a0.lit] [] (fun res h => res = .agg r.lit ∧ h = []) := by
 refine vc1 Tryz.func97 ?_
 unfold m_s_l19Const at h
 refine .d (.d (.d ⟨rfl, ⟨rfl, _, rfl, (.d (sE h (fun hb1 h => ?_) (fun hb1 h => ?_)))⟩⟩))
 refine .d ⟨rfl, ⟨rfl, _, rfl, (pcP (ok_s_IntValuex a0.fNum) ⟨rfl, _, fun _ => [.int .i64 2, .int .i64 a0.fNum, .str [], .int .i64 0, .nils], rfl, one_set rfl, ?_⟩)⟩⟩
 obtain rfl := si h
 exact ⟨rfl, _, rfl, (en [] ⟨rfl, rfl⟩ (.agg_l ⟨.i, .i, .s, .i, .z, ⟨⟩⟩) ⟨⟩)⟩
 refine .d (sE h (fun hb2 h => ?_) (fun hb2 h => ?_))
 refine .d ⟨rfl, ⟨rfl, _, rfl, (pcP (ok_s_TextValuex a0.fText) ⟨rfl, _, fun _ => [.int .i64 3, .int .i64 0, .str a0.fText, .int .i64 0, .nils], rfl, one_set rfl, ?_⟩)⟩⟩
 obtain rfl := si h
 exact ⟨rfl, _, rfl, (en [] ⟨rfl, rfl⟩ (.agg_l ⟨.i, .i, .s, .i, .z, ⟨⟩⟩) ⟨⟩)⟩
 refine .d (.d ⟨rfl, ⟨rfl, _, rfl, (sE h (fun hb3 h => ?_) (fun hb3 h => ?_))⟩⟩)
 refine .d ⟨rfl, _, fun _ => [.int .i64 0, .int .i64 0, .str [], .int .i64 0, .nils], rfl, one_set rfl, ?_⟩
 obtain rfl := si h
 exact ⟨rfl, _, rfl, (en [] ⟨rfl, rfl⟩ (.agg_l ⟨.i, .i, .s, .i, .z, ⟨⟩⟩) ⟨⟩)⟩
 refine .d ⟨rfl, ⟨rfl, _, rfl, (bk h fun v4 hv5 h => (pcP (ok_s_BoolValue hv5) ⟨rfl, _, fun _ => [.int .i64 v4.fKind, .int .i64 v4.fNum, .str v4.fStr, .int .i64 v4.fNext, sl 8 TEntry.cells v4.fItems], rfl, one_set rfl, ?_⟩))⟩⟩
 obtain rfl := si h
 exact ⟨rfl, _, rfl, (en [] ⟨rfl, rfl⟩ (.agg_l ⟨.i, .i, .s, .i, .l, ⟨⟩⟩) ⟨⟩)⟩
def m_i_PushValue (a0 : TIns) : Option (TValue × Bool) :=
 (if a0.fOp = 2 then
 some ((TValue.mk 2 a0.fA [] 0 []), true)
 else
 (if a0.fOp = 3 then
 some ((TValue.mk 3 0 a0.fS 0 []), true)
 else
 (if a0.fOp = 4 then
 (if a0.fA = 0 then
 some ((TValue.mk 0 0 [] 0 []), true)
 else
 m_i_BoolValue (a0.fA == 2) >>= fun v5 =>
 some (v5, true))
 else
 some ((TValue.mk 0 0 [] 0 []), false))))
theorem ok_i_PushValue {a0 : TIns} {r : TValue × Bool} (h : m_i_PushValue a0 = some r) : ACall Tryz.prog 72 [.agg a0.lit] [] (fun res h => res = .tup [.agg r.1.lit, .bool r.2] ∧ h = []) := by
 refine vc1 Tryz.func72 ?_
 unfold m_i_PushValue at h
 refine .d (.d (.d ⟨rfl, ⟨rfl, _, rfl, (.d (sE h (fun hb1 h => ?_) (fun hb1 h => ?_)))⟩⟩))
 refine .d ⟨rfl, ⟨rfl, _, rfl, (pcP (ok_i_IntValuex a0.fA) ⟨rfl, _, fun _ => [.int .i64 2, .int .i64 a0.fA, .str [], .int .i64 0, .nils], rfl, one_set rfl, ?_⟩)⟩⟩
 obtain rfl := si h
 exact ⟨rfl, _, rfl, (en [] ⟨rfl, rfl⟩ (.tup_l ⟨.agg_l ⟨.i, .i, .s, .i, .z, ⟨⟩⟩, .b, ⟨⟩⟩) ⟨⟩)⟩
 refine .d (sE h (fun hb2 h => ?_) (fun hb2 h => ?_))
 refine .d ⟨rfl, ⟨rfl, _, rfl, (pcP (ok_i_TextValuex a0.fS) ⟨rfl, _, fun _ => [.int .i64 3, .int .i64 0, .str a0.fS, .int .i64 0, .nils], rfl, one_set rfl, ?_⟩)⟩⟩
 obtain rfl := si h
 exact ⟨rfl, _, rfl, (en [] ⟨rfl, rfl⟩ (.tup_l ⟨.agg_l ⟨.i, .i, .s, .i, .z, ⟨⟩⟩, .b, ⟨⟩⟩) ⟨⟩)⟩
 refine .d (sE h (fun hb3 h => ?_) (fun hb3 h => ?_))
 refine .d (.d ⟨rfl, ⟨rfl, _, rfl, (sE h (fun hb4 h => ?_) (fun hb4 h => ?_))⟩⟩)
 refine .d (pcP (ok_i_NullValuex) ⟨rfl, _, fun _ => [.int .i64 0, .int .i64 0, .str [], .int .i64 0, .nils], rfl, one_set rfl, ?_⟩)
 obtain rfl := si h
 exact ⟨rfl, _, rfl, (en [] ⟨rfl, rfl⟩ (.tup_l ⟨.agg_l ⟨.i, .i, .s, .i, .z, ⟨⟩⟩, .b, ⟨⟩⟩) ⟨⟩)⟩
 refine .d ⟨rfl, ⟨rfl, _, rfl, (bk h fun v5 hv6 h => (pcP (ok_i_BoolValue hv6) ⟨rfl, _, fun _ => [.int .i64 v5.fKind, .int .i64 v5.fNum, .str v5.fStr, .int .i64 v5.fNext, sl 8 TEntry.cells v5.fItems], rfl, one_set rfl, ?_⟩))⟩⟩
 obtain rfl := si h
 exact ⟨rfl, _, rfl, (en [] ⟨rfl, rfl⟩ (.tup_l ⟨.agg_l ⟨.i, .i, .s, .i, .l, ⟨⟩⟩, .b, ⟨⟩⟩) ⟨⟩)⟩
 refine .d (pcP (ok_i_NullValuex) ⟨rfl, _, fun _ => [.int .i64 0, .int .i64 0, .str [], .int .i64 0, .nils], rfl, one_set rfl, ?_⟩)
 obtain rfl := si h
 exact ⟨rfl, _, rfl, (en [] ⟨rfl, rfl⟩ (.tup_l ⟨.agg_l ⟨.i, .i, .s, .i, .z, ⟨⟩⟩, .b, ⟨⟩⟩) ⟨⟩)⟩
def m_i_PushOf (a0 : TValue) : Option (TIns × Bool) :=
 (if a0.fKind = 0 then
 some ((TIns.mk 4 0 0 [] []), true)
 else
 (if a0.fKind = 1 then
 m_i_ToBool a0 >>= fun v3 =>
 m_i_boolNum v3 >>= fun v5 =>
 some ((TIns.mk 4 (W64 (1 + v5)) 0 [] []), true)
 else
 (
 (if a0.fKind = 2 then
 m_i_InRange a0.fNum 0 1000000000 >>= fun v12 =>
 some v12
 else
 some false)
 : Option (Bool)) >>= fun b7 =>
 (if b7 = true then
 some ((TIns.mk 2 a0.fNum 0 [] []), true)
 else
 (if a0.fKind = 3 then
 (if (a0.fStr.length : Int) ≤ 400 then
 some ((TIns.mk 3 0 0 a0.fStr []), true)
 else
 some ((TIns.mk 0 0 0 [] []), false))
 else
 some ((TIns.mk 0 0 0 [] []), false)))))
theorem ok_i_PushOf {a0 : TValue} {r : TIns × Bool} (h : m_i_PushOf a0 = some r) : ACall Tryz.prog 74 [.agg a0.lit] [] (fun res h => res = .tup [.agg r.1.lit, .bool r.2] ∧ h = []) := by
 refine vc1 Tryz.func74 ?_
 unfold m_i_PushOf at h
 refine .d (.d (.d ⟨rfl, ⟨rfl, _, rfl, (sE h (fun hb1 h => ?_) (fun hb1 h => ?_))⟩⟩))
 refine .d ⟨rfl, _, fun _ => [.int .i64 4, .int .i64 0, .int .i64 0, .str [], .str []], rfl, one_set rfl, ?_⟩
 obtain rfl := si h
 exact ⟨rfl, _, rfl, (en [] ⟨rfl, rfl⟩ (.tup_l ⟨.agg_l ⟨.i, .i, .i, .s, .s, ⟨⟩⟩, .b, ⟨⟩⟩) ⟨⟩)⟩
 refine .d ⟨rfl, ⟨rfl, _, rfl, (sE h (fun hb2 h => ?_) (fun hb2 h => ?_))⟩⟩
 refine .d ⟨rfl, _, rfl, (bk h fun v3 hv4 h => (pcP (ok_i_ToBool hv4) (bk h fun v5 hv6 h => (pcP (ok_i_boolNum hv6) ⟨rfl, _, fun _ => [.int .i64 4, .int .i64 (W64 (1 + v5)), .int .i64 0, .str [], .str []], rfl, one_set rfl, ?_⟩))))⟩
 obtain rfl := si h
 exact ⟨rfl, _, rfl, (en [] ⟨rfl, rfl⟩ (.tup_l ⟨.agg_l ⟨.i, .i, .i, .s, .s, ⟨⟩⟩, .b, ⟨⟩⟩) ⟨⟩)⟩
 obtain ⟨o8, ho9, hk10⟩ := bd h
 replace h := ho9
 refine .cut (fun σ η => ∃ b7, b7 = o8 ∧ σ = [(1, .optr 0 0 0 0), (2, .optr 1 0 0 0), (18, .bool b7)] ∧ η = [.row 0 5 1 74 (fun _ => a0.lit), .row 0 5 1 46 (fun _ => [.int .i64 0, .int .i64 0, .int .i64 0, .str [], .str []])]) ?_ ?_
 refine ⟨rfl, ⟨rfl, _, rfl, (sE h (fun hb11 h => ?_) (fun hb11 h => ?_))⟩⟩
 exact ⟨rfl, (.t ⟨rfl, _, rfl, (.t (bk h fun v12 hv13 h => (pcP (ok_i_InRange hv13) (.t (ct ⟨_, si h, rfl, rfl⟩ (tk [0, 1] ⟨.p, .p, .b, ⟨⟩⟩ ⟨(nbp rfl), (nbp rfl), ⟨⟩⟩))))))⟩)⟩
 exact .f (.f (.f (ct ⟨_, si h, rfl, rfl⟩ (tk [0, 1] ⟨.p, .p, .b, ⟨⟩⟩ ⟨(nbp rfl), (nbp rfl), ⟨⟩⟩))))
 rintro _ _ ⟨b7, rfl, rfl, rfl⟩
 replace h := hk10
 refine sV h (fun hb14 h => ?_) (fun hb14 h => ?_)
 refine .d ⟨rfl, ⟨rfl, _, rfl, ⟨rfl, _, fun _ => [.int .i64 2, .int .i64 a0.fNum, .int .i64 0, .str [], .str []], rfl, one_set rfl, ?_⟩⟩⟩
 obtain rfl := si h
 exact ⟨rfl, _, rfl, (en [] ⟨rfl, rfl⟩ (.tup_l ⟨.agg_l ⟨.i, .i, .i, .s, .s, ⟨⟩⟩, .b, ⟨⟩⟩) ⟨⟩)⟩
 refine .d ⟨rfl, ⟨rfl, _, rfl, (sE h (fun hb15 h => ?_) (fun hb15 h => ?_))⟩⟩
 refine ⟨rfl, (.t ⟨rfl, _, rfl, (.t (.t (.t (sD h (fun hb16 h => ?_) (fun hb16 h => ?_)))))⟩)⟩
 refine .d ⟨rfl, ⟨rfl, _, rfl, ⟨rfl, _, fun _ => [.int .i64 3, .int .i64 0, .int .i64 0, .str a0.fStr, .str []], rfl, one_set rfl, ?_⟩⟩⟩
 obtain rfl := si h
 exact ⟨rfl, _, rfl, (en [] ⟨rfl, rfl⟩ (.tup_l ⟨.agg_l ⟨.i, .i, .i, .s, .s, ⟨⟩⟩, .b, ⟨⟩⟩) ⟨⟩)⟩
 refine .d ⟨rfl, _, fun _ => [.int .i64 0, .int .i64 0, .int .i64 0, .str [], .str []], rfl, one_set rfl, ?_⟩
 obtain rfl := si h
 exact ⟨rfl, _, rfl, (en [] ⟨rfl, rfl⟩ (.tup_l ⟨.agg_l ⟨.i, .i, .i, .s, .s, ⟨⟩⟩, .b, ⟨⟩⟩) ⟨⟩)⟩
 refine .f (.f (.f (.f (.f (.d ⟨rfl, _, fun _ => [.int .i64 0, .int .i64 0, .int .i64 0, .str [], .str []], rfl, one_set rfl, ?_⟩)))))
 obtain rfl := si h
 exact ⟨rfl, _, rfl, (en [] ⟨rfl, rfl⟩ (.tup_l ⟨.agg_l ⟨.i, .i, .i, .s, .s, ⟨⟩⟩, .b, ⟨⟩⟩) ⟨⟩)⟩
def m_s_PushValue (a0 : TIns) : Option (TValue × Bool) :=
 (if a0.fOp = 2 then
 some ((TValue.mk 2 a0.fA [] 0 []), true)
 else
 (if a0.fOp = 3 then
 some ((TValue.mk 3 0 a0.fS 0 []), true)
 else
 (if a0.fOp = 4 then
 m_s_l19Const (TNode.mk 3 a0.fA [] []) >>= fun v4 =>
 some (v4, true)
 else
 some ((TValue.mk 0 0 [] 0 []), false))))
theorem ok_s_PushValue {a0 : TIns} {r : TValue × Bool} (h : m_s_PushValue a0 = some r) : ACall Tryz.prog 56 [.agg a0.lit] [] (fun res h => res = .tup [.agg r.1.lit, .bool r.2] ∧ h = []) := by
 refine vc1 Tryz.func56 ?_
 unfold m_s_PushValue at h
 refine .d (.d (.d ⟨rfl, ⟨rfl, _, rfl, (.d (sE h (fun hb1 h => ?_) (fun hb1 h => ?_)))⟩⟩))
 refine .d ⟨rfl, ⟨rfl, _, rfl, (pcP (ok_s_IntValuex a0.fA) ⟨rfl, _, fun _ => [.int .i64 2, .int .i64 a0.fA, .str [], .int .i64 0, .nils], rfl, one_set rfl, ?_⟩)⟩⟩
 obtain rfl := si h
 exact ⟨rfl, _, rfl, (en [] ⟨rfl, rfl⟩ (.tup_l ⟨.agg_l ⟨.i, .i, .s, .i, .z, ⟨⟩⟩, .b, ⟨⟩⟩) ⟨⟩)⟩
 refine .d (sE h (fun hb2 h => ?_) (fun hb2 h => ?_))
 refine .d ⟨rfl, ⟨rfl, _, rfl, (pcP (ok_s_TextValuex a0.fS) ⟨rfl, _, fun _ => [.int .i64 3, .int .i64 0, .str a0.fS, .int .i64 0, .nils], rfl, one_set rfl, ?_⟩)⟩⟩
 obtain rfl := si h
 exact ⟨rfl, _, rfl, (en [] ⟨rfl, rfl⟩ (.tup_l ⟨.agg_l ⟨.i, .i, .s, .i, .z, ⟨⟩⟩, .b, ⟨⟩⟩) ⟨⟩)⟩
 refine .d (sE h (fun hb3 h => ?_) (fun hb3 h => ?_))
 refine .d ⟨rfl, ⟨rfl, _, rfl, (bk h fun v4 hv5 h => (pcP (ACall.relax (ok_s_l19Const hv5) ⟨.agg ⟨.same _, .same _, .same _, .nil _ _, ⟨⟩⟩, ⟨⟩⟩) ⟨rfl, _, fun _ => [.int .i64 v4.fKind, .int .i64 v4.fNum, .str v4.fStr, .int .i64 v4.fNext, sl 8 TEntry.cells v4.fItems], rfl, one_set rfl, ?_⟩))⟩⟩
 obtain rfl := si h
 exact ⟨rfl, _, rfl, (en [] ⟨rfl, rfl⟩ (.tup_l ⟨.agg_l ⟨.i, .i, .s, .i, .l, ⟨⟩⟩, .b, ⟨⟩⟩) ⟨⟩)⟩
 refine .d ⟨rfl, _, fun _ => [.int .i64 0, .int .i64 0, .str [], .int .i64 0, .nils], rfl, one_set rfl, ?_⟩
 obtain rfl := si h
 exact ⟨rfl, _, rfl, (en [] ⟨rfl, rfl⟩ (.tup_l ⟨.agg_l ⟨.i, .i, .s, .i, .z, ⟨⟩⟩, .b, ⟨⟩⟩) ⟨⟩)⟩
def m_s_PushOf (a0 : TValue) : Option (TIns × Bool) :=
 (if a0.fKind = 0 then
 some ((TIns.mk 4 0 0 [] []), true)
 else
 (if a0.fKind = 1 then
 m_s_l9Bit a0 >>= fun v3 =>
 some ((TIns.mk 4 (W64 (1 + v3)) 0 [] []), true)
 else
 (
 (if a0.fKind = 2 then
 m_s_l1In a0.fNum 0 1000000000 >>= fun v10 =>
 some v10
 else
 some false)
 : Option (Bool)) >>= fun b5 =>
 (if b5 = true then
 some ((TIns.mk 2 a0.fNum 0 [] []), true)
 else
 (if a0.fKind = 3 then
 (if (a0.fStr.length : Int) ≤ 400 then
 some ((TIns.mk 3 0 0 a0.fStr []), true)
 else
 some ((TIns.mk 0 0 0 [] []), false))
 else
 some ((TIns.mk 0 0 0 [] []), false)))))
theorem ok_s_PushOf {a0 : TValue} {r : TIns × Bool} (h : m_s_PushOf a0 = some r) : ACall Tryz.prog 61 [.agg a0.lit] [] (fun res h => res = .tup [.agg r.1.lit, .bool r.2] ∧ h = []) := by
 refine vc1 Tryz.func61 ?_
 unfold m_s_PushOf at h
 refine .d (.d (.d ⟨rfl, ⟨rfl, _, rfl, (sE h (fun hb1 h => ?_) (fun hb1 h => ?_))⟩⟩))
 refine .d ⟨rfl, _, fun _ => [.int .i64 4, .int .i64 0, .int .i64 0, .str [], .str []], rfl, one_set rfl, ?_⟩
 obtain rfl := si h
 exact ⟨rfl, _, rfl, (en [] ⟨rfl, rfl⟩ (.tup_l ⟨.agg_l ⟨.i, .i, .i, .s, .s, ⟨⟩⟩, .b, ⟨⟩⟩) ⟨⟩)⟩
 refine .d ⟨rfl, ⟨rfl, _, rfl, (sE h (fun hb2 h => ?_) (fun hb2 h => ?_))⟩⟩
 refine .d ⟨rfl, _, rfl, (bk h fun v3 hv4 h => (pcP (ok_s_l9Bit hv4) ⟨rfl, _, fun _ => [.int .i64 4, .int .i64 (W64 (1 + v3)), .int .i64 0, .str [], .str []], rfl, one_set rfl, ?_⟩))⟩
 obtain rfl := si h
 exact ⟨rfl, _, rfl, (en [] ⟨rfl, rfl⟩ (.tup_l ⟨.agg_l ⟨.i, .i, .i, .s, .s, ⟨⟩⟩, .b, ⟨⟩⟩) ⟨⟩)⟩
 obtain ⟨o6, ho7, hk8⟩ := bd h
 replace h := ho7
 refine .cut (fun σ η => ∃ b5, b5 = o6 ∧ σ = [(1, .optr 0 0 0 0), (2, .optr 1 0 0 0), (17, .bool b5)] ∧ η = [.row 0 5 1 74 (fun _ => a0.lit), .row 0 5 1 46 (fun _ => [.int .i64 0, .int .i64 0, .int .i64 0, .str [], .str []])]) ?_ ?_
 refine ⟨rfl, ⟨rfl, _, rfl, (sE h (fun hb9 h => ?_) (fun hb9 h => ?_))⟩⟩
 exact ⟨rfl, (.t ⟨rfl, _, rfl, (.t (bk h fun v10 hv11 h => (pcP (ok_s_l1In hv11) (.t (ct ⟨_, si h, rfl, rfl⟩ (tk [0, 1] ⟨.p, .p, .b, ⟨⟩⟩ ⟨(nbp rfl), (nbp rfl), ⟨⟩⟩))))))⟩)⟩
 exact .f (.f (.f (ct ⟨_, si h, rfl, rfl⟩ (tk [0, 1] ⟨.p, .p, .b, ⟨⟩⟩ ⟨(nbp rfl), (nbp rfl), ⟨⟩⟩))))
 rintro _ _ ⟨b5, rfl, rfl, rfl⟩
 replace h := hk8
 refine sV h (fun hb12 h => ?_) (fun hb12 h => ?_)
 refine .d ⟨rfl, ⟨rfl, _, rfl, ⟨rfl, _, fun _ => [.int .i64 2, .int .i64 a0.fNum, .int .i64 0, .str [], .str []], rfl, one_set rfl, ?_⟩⟩⟩
 obtain rfl := si h
 exact ⟨rfl, _, rfl, (en [] ⟨rfl, rfl⟩ (.tup_l ⟨.agg_l ⟨.i, .i, .i, .s, .s, ⟨⟩⟩, .b, ⟨⟩⟩) ⟨⟩)⟩
 refine .d ⟨rfl, ⟨rfl, _, rfl, (sE h (fun hb13 h => ?_) (fun hb13 h => ?_))⟩⟩
 refine ⟨rfl, (.t ⟨rfl, _, rfl, (.t (.t (.t (sD h (fun hb14 h => ?_) (fun hb14 h => ?_)))))⟩)⟩
 refine .d ⟨rfl, ⟨rfl, _, rfl, ⟨rfl, _, fun _ => [.int .i64 3, .int .i64 0, .int .i64 0, .str a0.fStr, .str []], rfl, one_set rfl, ?_⟩⟩⟩
 obtain rfl := si h
 exact ⟨rfl, _, rfl, (en [] ⟨rfl, rfl⟩ (.tup_l ⟨.agg_l ⟨.i, .i, .i, .s, .s, ⟨⟩⟩, .b, ⟨⟩⟩) ⟨⟩)⟩
 refine .d ⟨rfl, _, fun _ => [.int .i64 0, .int .i64 0, .int .i64 0, .str [], .str []], rfl, one_set rfl, ?_⟩
 obtain rfl := si h
 exact ⟨rfl, _, rfl, (en [] ⟨rfl, rfl⟩ (.tup_l ⟨.agg_l ⟨.i, .i, .i, .s, .s, ⟨⟩⟩, .b, ⟨⟩⟩) ⟨⟩)⟩
 refine .f (.f (.f (.f (.f (.d ⟨rfl, _, fun _ => [.int .i64 0, .int .i64 0, .int .i64 0, .str [], .str []], rfl, one_set rfl, ?_⟩)))))
 obtain rfl := si h
 exact ⟨rfl, _, rfl, (en [] ⟨rfl, rfl⟩ (.tup_l ⟨.agg_l ⟨.i, .i, .i, .s, .s, ⟨⟩⟩, .b, ⟨⟩⟩) ⟨⟩)⟩
end Go.Am
