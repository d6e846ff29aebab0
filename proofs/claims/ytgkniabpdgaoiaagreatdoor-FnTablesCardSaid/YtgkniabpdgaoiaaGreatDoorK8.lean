/- Models of Go functions, and their walks. (Printed by tools/mg.py.) -/
import Derived.Test.YtgkniabpdgaoiaaGreatDoorK4
import Derived.Test.YtgkniabpdgaoiaaGreatDoorK5
import Derived.Test.YtgkniabpdgaoiaaGreatDoorK7
set_option linter.unusedVariables false
set_option linter.unusedSimpArgs false
set_option maxRecDepth 100000
namespace Go.Am
open Go Go.RowKit Go.Proofs
def m_l_FnTables (a0 : List UInt8) : Option (Bool) :=
 (if (a0.length : Int) > 1048576 then
 some true
 else
 (
 m_s_DrawTableSet a0 >>= fun (v18, v19, v20) =>
 some (v18.fHashed, v18.fHeads, v18.fSlots, v18.fNext, v18.fCount, v19.fText, v19.fNum, v19.fStr, v20.fKind, v20.fNum, v20.fStr, v20.fNext, v20.fItems)
 : Option (Bool × (List Int) × (List TSlot) × Int × Int × Bool × Int × Str × Int × Int × Str × Int × (List TEntry))) >>= fun (b2, l3, l4, y5, y6, b7, y8, s9, y10, y11, s12, y13, l14) =>
 m_i_TableSet (TTable.mk b2 l3 l4 y5 y6) (TKey.mk b7 y8 s9) (TValue.mk y10 y11 s12 y13 l14) >>= fun (v22, v23) =>
 (
 m_i_TableValue (TTable.mk b2 l3 l4 y5 y6) >>= fun v33 =>
 some (v33.fKind, v33.fNum, v33.fStr, v33.fNext, v33.fItems)
 : Option (Int × Int × Str × Int × (List TEntry))) >>= fun (y25, y26, s27, y28, l29) =>
 ((
 m_s_IsTable (TTable.mk b2 l3 l4 y5 y6) >>= fun v38 =>
 (if v38 = true then
 m23 (TKey.mk b7 y8 s9) >>= fun v46 =>
 (if v46 = true then
 some (.inl ())
 else
 (if v23 = true then
 some (.inr false)
 else
 m_i_TableValue v22 >>= fun v50 =>
 m19 v50 (TValue.mk y25 y26 s27 y28 l29) >>= fun v52 =>
 some (.inr v52)))
 else
 (if v23 = true then
 some (.inr false)
 else
 m_i_TableValue v22 >>= fun v42 =>
 m19 v42 (TValue.mk y25 y26 s27 y28 l29) >>= fun v44 =>
 some (.inr v44)))
 : Option ((Unit) ⊕ Bool)) >>= fun o35 => match o35 with
 | .inr r => some r
 | .inl _ =>
 m_s_GetKey (TValue.mk y25 y26 s27 y28 l29) (TKey.mk b7 y8 s9) >>= fun (v54, v55) =>
 (
 m_s_SetKey (TValue.mk y25 y26 s27 y28 l29) (TKey.mk b7 y8 s9) (TValue.mk y10 y11 s12 y13 l14) >>= fun (v65, v66) =>
 some (v65.fKind, v65.fNum, v65.fStr, v65.fNext, v65.fItems)
 : Option (Int × Int × Str × Int × (List TEntry))) >>= fun (y57, y58, s59, y60, l61) =>
 m_i_TableDelete (TTable.mk b2 l3 l4 y5 y6) (TKey.mk b7 y8 s9) >>= fun v68 =>
 m_i_Rebuild (TTable.mk b2 l3 l4 y5 y6) >>= fun v70 =>
 ((
 (if v23 = true then
 m_i_TableValue v22 >>= fun v76 =>
 m19 v76 (TValue.mk y57 y58 s59 y60 l61) >>= fun v78 =>
 (if v78 = true then
 m_i_TableValue v68 >>= fun v81 =>
 m_s_DeleteKey (TValue.mk y25 y26 s27 y28 l29) (TKey.mk b7 y8 s9) >>= fun v83 =>
 m19 v81 v83 >>= fun v85 =>
 (if v85 = true then
 m_i_TableValue v70 >>= fun v88 =>
 m19 v88 (TValue.mk y25 y26 s27 y28 l29) >>= fun v90 =>
 (if v90 = true then
 some (.inl ())
 else
 some (.inr false))
 else
 some (.inr false))
 else
 some (.inr false))
 else
 some (.inr false))
 : Option ((Unit) ⊕ Bool)) >>= fun o72 => match o72 with
 | .inr r => some r
 | .inl _ =>
 m_s_IsTable v22 >>= fun v93 =>
 (if v93 = true then
 m_s_IsTable v68 >>= fun v96 =>
 (if v96 = true then
 m_s_IsTable v70 >>= fun v99 =>
 (if v99 = true then
 (if v70.fHashed = true then
 m_i_FindSlot (TTable.mk b2 l3 l4 y5 y6) (TKey.mk b7 y8 s9) >>= fun v103 =>
 (if (decide (v103 ≥ 0)) = v55 then
 m_i_FindSlot v70 (TKey.mk b7 y8 s9) >>= fun v106 =>
 some ((decide (v106 ≥ 0)) == v55)
 else
 some false)
 else
 some false)
 else
 some false)
 else
 some false)
 else
 some false)
 )
 ))
theorem ok_l_FnTables {a0 : List UInt8} {r : Bool} (h : m_l_FnTables a0 = some r) : ACall Tryz.prog 3 [sl 1 cB a0] [] (fun res h => res = .bool r ∧ h = []) := by
 refine vc1 Tryz.func3 ?_
 unfold m_l_FnTables at h
 refine .d (.d (.d (pcP (ok_l_bigx a0) (sD h (fun hb1 h => ?_) (fun hb1 h => ?_)))))
 exact .d (eB h)
 obtain ⟨o15, ho16, hk17⟩ := bd h
 replace h := ho16
 refine .cut (fun σ η => ∃ b2, ∃ l3, ∃ l4, ∃ y5, ∃ y6, ∃ b7, ∃ y8, ∃ s9, ∃ y10, ∃ y11, ∃ s12, ∃ y13, ∃ l14, (b2, l3, l4, y5, y6, b7, y8, s9, y10, y11, s12, y13, l14) = o15 ∧ σ = [(3, .optr 0 0 0 0), (4, .optr 1 0 0 0), (5, .optr 2 0 0 0)] ∧ η = [.row 0 5 1 27 (fun _ => [.bool b2, sl 1 cI l3, sl 10 TSlot.cells l4, .int .i64 y5, .int .i64 y6]), .row 0 3 1 29 (fun _ => [.bool b7, .int .i64 y8, .str s9]), .row 0 5 1 32 (fun _ => [.int .i64 y10, .int .i64 y11, .str s12, .int .i64 y13, sl 8 TEntry.cells l14])]) ?_ ?_
 obtain ⟨⟨v18, v19, v20⟩, hv21, h⟩ := bd h
 exact pcP (ok_s_DrawTableSet hv21) ⟨rfl, _, fun _ => [.bool v18.fHashed, sl 1 cI v18.fHeads, sl 10 TSlot.cells v18.fSlots, .int .i64 v18.fNext, .int .i64 v18.fCount], rfl, one_set rfl, ⟨rfl, _, fun _ => [.bool v19.fText, .int .i64 v19.fNum, .str v19.fStr], rfl, one_set rfl, ⟨rfl, _, fun _ => [.int .i64 v20.fKind, .int .i64 v20.fNum, .str v20.fStr, .int .i64 v20.fNext, sl 8 TEntry.cells v20.fItems], rfl, one_set rfl, (ct ⟨_, _, _, _, _, _, _, _, _, _, _, _, _, si h, rfl, rfl⟩ (tk [0, 1, 2] ⟨.p, .p, .p, ⟨⟩⟩ ⟨(nbp rfl), (nbp rfl), (nbp rfl), ⟨⟩⟩))⟩⟩⟩
 rintro _ _ ⟨b2, l3, l4, y5, y6, b7, y8, s9, y10, y11, s12, y13, l14, rfl, rfl, rfl⟩
 replace h := hk17
 refine .d ⟨rfl, _, rfl, ⟨rfl, _, rfl, ⟨rfl, _, rfl, ?_⟩⟩⟩
 obtain ⟨⟨v22, v23⟩, hv24, h⟩ := bd h
 refine pcP (ok_i_TableSet hv24) ⟨rfl, _, fun _ => [.bool v22.fHashed, sl 1 cI v22.fHeads, sl 10 TSlot.cells v22.fSlots, .int .i64 v22.fNext, .int .i64 v22.fCount], rfl, one_set rfl, ?_⟩
 obtain ⟨o30, ho31, hk32⟩ := bd h
 replace h := ho31
 refine .cut (fun σ η => ∃ y25, ∃ y26, ∃ s27, ∃ y28, ∃ l29, (y25, y26, s27, y28, l29) = o30 ∧ σ = [(3, .optr 0 0 0 0), (4, .optr 1 0 0 0), (5, .optr 2 0 0 0), (6, .optr 3 0 0 0), (7, .bool v23), (8, .optr 4 0 0 0)] ∧ η = [.row 0 5 1 27 (fun _ => [.bool b2, sl 1 cI l3, sl 10 TSlot.cells l4, .int .i64 y5, .int .i64 y6]), .row 0 3 1 29 (fun _ => [.bool b7, .int .i64 y8, .str s9]), .row 0 5 1 32 (fun _ => [.int .i64 y10, .int .i64 y11, .str s12, .int .i64 y13, sl 8 TEntry.cells l14]), .row 0 5 1 27 (fun _ => v22.lit), .row 0 5 1 32 (fun _ => [.int .i64 y25, .int .i64 y26, .str s27, .int .i64 y28, sl 8 TEntry.cells l29])]) ?_ ?_
 exact ⟨rfl, _, rfl, (bk h fun v33 hv34 h => (pcP (ok_i_TableValue hv34) ⟨rfl, _, fun _ => [.int .i64 v33.fKind, .int .i64 v33.fNum, .str v33.fStr, .int .i64 v33.fNext, sl 8 TEntry.cells v33.fItems], rfl, one_set rfl, (ct ⟨_, _, _, _, _, si h, rfl, rfl⟩ (tk [0, 1, 2, 3, 4] ⟨.p, .p, .p, .p, .b, .p, ⟨⟩⟩ ⟨(nbp rfl), (nbp rfl), (nbp rfl), (nbp rfl), (nbp rfl), ⟨⟩⟩))⟩))⟩
 rintro _ _ ⟨y25, y26, s27, y28, l29, rfl, rfl, rfl⟩
 replace h := hk32
 obtain ⟨o35, ho36, hk37⟩ := bd h
 replace h := ho36
 refine .cut (fun σ η => .inl () = o35 ∧ σ = [(3, .optr 0 0 0 0), (4, .optr 1 0 0 0), (5, .optr 2 0 0 0), (6, .optr 3 0 0 0), (7, .bool v23), (8, .optr 4 0 0 0)] ∧ η = [.row 0 5 1 27 (fun _ => [.bool b2, sl 1 cI l3, sl 10 TSlot.cells l4, .int .i64 y5, .int .i64 y6]), .row 0 3 1 29 (fun _ => [.bool b7, .int .i64 y8, .str s9]), .row 0 5 1 32 (fun _ => [.int .i64 y10, .int .i64 y11, .str s12, .int .i64 y13, sl 8 TEntry.cells l14]), .row 0 5 1 27 (fun _ => v22.lit), .row 0 5 1 32 (fun _ => [.int .i64 y25, .int .i64 y26, .str s27, .int .i64 y28, sl 8 TEntry.cells l29])]) ?_ ?_
 refine .d ⟨rfl, _, rfl, (bk h fun v38 hv39 h => (pcP (ok_s_IsTable hv39) (sVn h (fun hb40 h => ?_) (fun hb40 h => ?_))))⟩
 refine .t (.t (.t (.t (.d (.float [(0, true), (1, true), (2, true), (3, true), (5, true), (4, false), (6, false), (7, true), (8, true)] (by kernel_rfl) ?_)))))
 refine sVn h (fun hb41 h => ?_) (fun hb41 h => ?_)
 refine ⟨rfl, _, rfl, (.t ⟨rfl, _, rfl, (.t (bk h fun v42 hv43 h => (pcP (ok_i_TableValue hv43) ⟨rfl, (.t (bk h fun v44 hv45 h => (pcP (ok19 hv45) (.t ?_))))⟩)))⟩)⟩
 obtain rfl := si h
 replace h := hk37
 exact eB h
 refine .f (.f ⟨rfl, (.f (.f ?_))⟩)
 obtain rfl := si h
 replace h := hk37
 exact eB h
 refine ⟨rfl, _, rfl, (.f (bk h fun v46 hv47 h => (pcP (ok23 hv47) (.f (.f (sVn h (fun hb48 h => ?_) (fun hb48 h => ?_)))))))⟩
 refine .d (.float [(0, true), (1, true), (2, true), (3, true), (5, true), (4, false), (6, false), (7, true), (8, true)] (by kernel_rfl) ?_)
 refine sVn h (fun hb49 h => ?_) (fun hb49 h => ?_)
 refine ⟨rfl, _, rfl, (.t ⟨rfl, _, rfl, (.t (bk h fun v50 hv51 h => (pcP (ok_i_TableValue hv51) ⟨rfl, (.t (bk h fun v52 hv53 h => (pcP (ok19 hv53) (.t ?_))))⟩)))⟩)⟩
 obtain rfl := si h
 replace h := hk37
 exact eB h
 refine .f (.f ⟨rfl, (.f (.f ?_))⟩)
 obtain rfl := si h
 replace h := hk37
 exact eB h
 exact ct ⟨si h, rfl, rfl⟩ (tk [0, 1, 2, 3, 4] ⟨.p, .p, .p, .p, .b, .p, ⟨⟩⟩ ⟨(nbp rfl), (nbp rfl), (nbp rfl), (nbp rfl), (nbp rfl), ⟨⟩⟩)
 rintro _ _ ⟨rfl, rfl, rfl⟩
 replace h := hk37
 refine .d ⟨rfl, _, rfl, ⟨rfl, _, rfl, ?_⟩⟩
 obtain ⟨⟨v54, v55⟩, hv56, h⟩ := bd h
 refine pcP (ok_s_GetKey hv56) ⟨rfl, _, fun _ => [.int .i64 v54.fKind, .int .i64 v54.fNum, .str v54.fStr, .int .i64 v54.fNext, sl 8 TEntry.cells v54.fItems], rfl, one_set rfl, ?_⟩
 obtain ⟨o62, ho63, hk64⟩ := bd h
 replace h := ho63
 refine .cut (fun σ η => ∃ y57, ∃ y58, ∃ s59, ∃ y60, ∃ l61, (y57, y58, s59, y60, l61) = o62 ∧ σ = [(3, .optr 0 0 0 0), (4, .optr 1 0 0 0), (6, .optr 2 0 0 0), (7, .bool v23), (8, .optr 3 0 0 0), (10, .bool v55), (11, .optr 4 0 0 0)] ∧ η = [.row 0 5 1 27 (fun _ => [.bool b2, sl 1 cI l3, sl 10 TSlot.cells l4, .int .i64 y5, .int .i64 y6]), .row 0 3 1 29 (fun _ => [.bool b7, .int .i64 y8, .str s9]), .row 0 5 1 27 (fun _ => v22.lit), .row 0 5 1 32 (fun _ => [.int .i64 y25, .int .i64 y26, .str s27, .int .i64 y28, sl 8 TEntry.cells l29]), .row 0 5 1 32 (fun _ => [.int .i64 y57, .int .i64 y58, .str s59, .int .i64 y60, sl 8 TEntry.cells l61])]) ?_ ?_
 refine ⟨rfl, _, rfl, ⟨rfl, _, rfl, ⟨rfl, _, rfl, ?_⟩⟩⟩
 obtain ⟨⟨v65, v66⟩, hv67, h⟩ := bd h
 exact pcP (ok_s_SetKey hv67) ⟨rfl, _, fun _ => [.int .i64 v65.fKind, .int .i64 v65.fNum, .str v65.fStr, .int .i64 v65.fNext, sl 8 TEntry.cells v65.fItems], rfl, one_set rfl, (ct ⟨_, _, _, _, _, si h, rfl, rfl⟩ (tk [0, 1, 3, 4, 6] ⟨.p, .p, .p, .b, .p, .b, .p, ⟨⟩⟩ ⟨(nbp rfl), (nbp rfl), (nbp rfl), (nbp rfl), (nbp rfl), ⟨⟩⟩))⟩
 rintro _ _ ⟨y57, y58, s59, y60, l61, rfl, rfl, rfl⟩
 replace h := hk64
 refine .d ⟨rfl, _, rfl, ⟨rfl, _, rfl, (bk h fun v68 hv69 h => (pcP (ok_i_TableDelete hv69) ⟨rfl, _, fun _ => [.bool v68.fHashed, sl 1 cI v68.fHeads, sl 10 TSlot.cells v68.fSlots, .int .i64 v68.fNext, .int .i64 v68.fCount], rfl, one_set rfl, (.d ⟨rfl, _, rfl, (bk h fun v70 hv71 h => (pcP (ok_i_Rebuild hv71) ⟨rfl, _, fun _ => [.bool v70.fHashed, sl 1 cI v70.fHeads, sl 10 TSlot.cells v70.fSlots, .int .i64 v70.fNext, .int .i64 v70.fCount], rfl, one_set rfl, ?_⟩))⟩)⟩))⟩⟩
 obtain ⟨o72, ho73, hk74⟩ := bd h
 replace h := ho73
 refine .cut (fun σ η => .inl () = o72 ∧ σ = [(3, .optr 0 0 0 0), (4, .optr 1 0 0 0), (6, .optr 2 0 0 0), (10, .bool v55), (13, .optr 3 0 0 0), (14, .optr 4 0 0 0)] ∧ η = [.row 0 5 1 27 (fun _ => [.bool b2, sl 1 cI l3, sl 10 TSlot.cells l4, .int .i64 y5, .int .i64 y6]), .row 0 3 1 29 (fun _ => [.bool b7, .int .i64 y8, .str s9]), .row 0 5 1 27 (fun _ => v22.lit), .row 0 5 1 27 (fun _ => v68.lit), .row 0 5 1 27 (fun _ => v70.lit)]) ?_ ?_
 refine .d (.float [(0, true), (1, true), (2, true), (3, true), (5, true), (4, false), (6, false), (7, true), (8, true), (9, true), (10, true), (12, true), (13, true), (11, false), (14, false), (15, false), (16, true), (17, true), (18, true), (19, true), (21, true), (20, false), (22, false), (23, true), (24, true)] (by kernel_rfl) ?_)
 refine sVn h (fun hb75 h => ?_) (fun hb75 h => ?_)
 refine .t (.t ⟨rfl, (.t (.t (.t (.t (.t (.t (.t ⟨rfl, ⟨rfl, (.t (.t (.t ?_)))⟩⟩)))))))⟩)
 refine .t (.t (.t (.t ⟨rfl, (.t (.t (.t (.t (.d ?_)))))⟩)))
 obtain rfl := si h
 replace h := hk74
 exact eB h
 refine ⟨rfl, _, rfl, (.f ⟨rfl, _, rfl, (.f (bk h fun v76 hv77 h => (pcP (ok_i_TableValue hv77) ⟨rfl, (.f (bk h fun v78 hv79 h => (pcP (ok19 hv79) (.f (.f (sVn h (fun hb80 h => ?_) (fun hb80 h => ?_)))))))⟩)))⟩)⟩
 refine .t (.t (.t ⟨rfl, ⟨rfl, (.t (.t (.t (.t (.t (.t (.t ⟨rfl, (.t (.t ?_))⟩)))))))⟩⟩))
 refine .t (.t (.d ?_))
 obtain rfl := si h
 replace h := hk74
 exact eB h
 refine ⟨rfl, _, rfl, (.f ⟨rfl, _, rfl, (.f ⟨rfl, _, rfl, (.f (bk h fun v81 hv82 h => (pcP (ok_i_TableValue hv82) ⟨rfl, ⟨rfl, (.f (bk h fun v83 hv84 h => (pcP (ok_s_DeleteKey hv84) (.f (bk h fun v85 hv86 h => ?_)))))⟩⟩)))⟩)⟩)⟩
 refine pcP (ok19 hv86) (.f (.f (sVn h (fun hb87 h => ?_) (fun hb87 h => ?_))))
 refine .t (.t ⟨rfl, (.t (.t (.t (.t (.d ?_)))))⟩)
 obtain rfl := si h
 replace h := hk74
 exact eB h
 refine ⟨rfl, _, rfl, (.f ⟨rfl, _, rfl, (.f (bk h fun v88 hv89 h => (pcP (ok_i_TableValue hv89) ⟨rfl, (.f (bk h fun v90 hv91 h => (pcP (ok19 hv91) (.f (.f (sVn h (fun hb92 h => ?_) (fun hb92 h => ?_)))))))⟩)))⟩)⟩
 refine .d ?_
 obtain rfl := si h
 replace h := hk74
 exact eB h
 exact ct ⟨si h, rfl, rfl⟩ (tk [0, 1, 2, 5, 6] ⟨.p, .p, .p, .b, .p, .p, ⟨⟩⟩ ⟨(nbp rfl), (nbp rfl), (nbp rfl), (nbp rfl), (nbp rfl), ⟨⟩⟩)
 rintro _ _ ⟨rfl, rfl, rfl⟩
 replace h := hk74
 refine .d ⟨rfl, _, rfl, (bk h fun v93 hv94 h => (pcP (ok_s_IsTable hv94) (sV h (fun hb95 h => ?_) (fun hb95 h => ?_))))⟩
 refine ⟨rfl, _, rfl, (.t (bk h fun v96 hv97 h => (pcP (ok_s_IsTable hv97) (.t (sV h (fun hb98 h => ?_) (fun hb98 h => ?_))))))⟩
 refine ⟨rfl, _, rfl, (.t (bk h fun v99 hv100 h => (pcP (ok_s_IsTable hv100) (.t (sV h (fun hb101 h => ?_) (fun hb101 h => ?_))))))⟩
 refine ⟨rfl, (.t ⟨rfl, _, rfl, (.t (sV h (fun hb102 h => ?_) (fun hb102 h => ?_)))⟩)⟩
 refine ⟨rfl, _, rfl, (.t ⟨rfl, _, rfl, (.t (bk h fun v103 hv104 h => (pcP (ok_i_FindSlot hv104) (.t (.t (.t (.t (sE h (fun hb105 h => ?_) (fun hb105 h => ?_)))))))))⟩)⟩
 exact ⟨rfl, _, rfl, (.t ⟨rfl, _, rfl, (.t (bk h fun v106 hv107 h => (pcP (ok_i_FindSlot hv107) (.t (.t (.t (.t (eB h))))))))⟩)⟩
 exact .f (.f (.f (.f (.f (.f (eB h))))))
 exact .f (.f (.f (.f (.f (.f (.f (.f (.f (.f (.f (.f (.f (eB h)))))))))))))
 refine .f (.f (.f (.f (.f (.f (.f (.f (.f (.f (.f (.f (.f (.f (.f ?_))))))))))))))
 exact .f (eB h)
 refine .f (.f (.f (.f (.f (.f (.f (.f (.f (.f (.f (.f (.f (.f (.f ?_))))))))))))))
 exact .f (.f (.f (.f (eB h))))
 refine .f (.f (.f (.f (.f (.f (.f (.f (.f (.f (.f (.f (.f (.f (.f ?_))))))))))))))
 exact .f (.f (.f (.f (.f (.f (.f (eB h)))))))
end Go.Am
