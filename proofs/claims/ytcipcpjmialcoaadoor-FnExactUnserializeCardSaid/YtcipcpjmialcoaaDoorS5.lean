/- Models of Go functions, and their walks. (Printed by tools/mg.py.) -/
import Derived.Test.YtcipcpjmialcoaaDoorU1
set_option linter.unusedVariables false
set_option linter.unusedSimpArgs false
set_option synthInstance.maxHeartbeats 400000
set_option synthInstance.maxSize 4000
set_option maxRecDepth 100000
set_option maxHeartbeats 2000000
namespace Go.Am
open Go Go.RowKit Go.Proofs
def m_s_l11Num_L2 (a0 : Str) (a1 : Int) (a2 : Int) (y5 : Int) : Option (Int) :=
 (if y5 < (a0.length : Int) then
 sidx a0 y5 >>= fun c9 =>
 (if (c9.toNat : Int) = a2 then
 some y5
 else
 (if y5 < (W64 (a1 + 12)) then
 m_s_l11Num_L2 a0 a1 a2 (W64 (y5 + 1))
 else
 some y5))
 else
 some y5)
partial_fixpoint
def m_s_l11Num (a0 : Str) (a1 : Int) (a2 : Int) : Option (Int × Int) :=
 (
 m_s_l11Num_L2 a0 a1 a2 a1
 : Option (Int)) >>= fun y1 =>
 (if y1 ≥ (a0.length : Int) then
 some (0, (-1))
 else
 sidx a0 y1 >>= fun c16 =>
 (if (c16.toNat : Int) = a2 then
 ssub a0 a1 y1 >>= fun s19 =>
 m54 s19 >>= fun (v21, v22) =>
 (if v22 = true then
 some (v21, W64 (y1 + 1))
 else
 ssub a0 a1 y1 >>= fun s25 =>
 (if s25 = ([49, 48, 48, 48, 48, 48, 48, 48, 48, 49] : Str) then
 some (1000000001, W64 (y1 + 1))
 else
 some (0, (-1))))
 else
 some (0, (-1))))
theorem ok_s_l11Num {a0 : Str} {a1 : Int} {a2 : Int} {r : Int × Int} (h : m_s_l11Num a0 a1 a2 = some r) : ACall Tryd.prog 38 [.str a0, .int .i64 a1, .int .u8 a2] [] (fun res h => res = .tup [.int .i64 r.1, .int .i64 r.2] ∧ h = []) := by
 refine vc1 Tryd.func38 ?_
 unfold m_s_l11Num at h
 refine .d (.d ?_)
 obtain ⟨o2, ho3, hk4⟩ := bd h
 replace h := ho3
 refine .cut (fun σ η => ∃ y1, y1 = o2 ∧ σ = [(0, .str a0), (1, .int .i64 a1), (2, .int .u8 a2), (8, .int .i64 y1)] ∧ η = []) ?_ ?_
 refine le (m_s_l11Num_L2.partial_correctness a0 a1 a2 (motive := fun y5 o13 => o2 = o13 → LoopAt _ _ [(0, .str a0), (1, .int .i64 a1), (2, .int .u8 a2), (8, .int .i64 y5)] []) ?_ a1 o2 h rfl) (tk [] ⟨.s, .i, .i, .i, ⟨⟩⟩ ⟨⟩)
 intro F7 ih6 y5 o13 h hr14
 subst hr14
 refine LoopAt.round (.d (.d (sD h (fun hb8 h => ?_) (fun hb8 h => ?_))))
 refine .t (.t (bk h fun c9 hx10 h => ⟨sidx_bd hx10, c9, sidx_at hx10, (.t (.t (.t (sN h (fun hb11 h => ?_) (fun hb11 h => ?_)))))⟩))
 refine .t (.t (.t (.t (sD h (fun hb12 h => ?_) (fun hb12 h => ?_)))))
 exact lg (ih6 _ _ h rfl) (tk [] ⟨.s, .i, .i, .i, ⟨⟩⟩ ⟨⟩)
 exact ct ⟨_, si h, rfl, rfl⟩ (tk [] ⟨.s, .i, .i, .i, ⟨⟩⟩ ⟨⟩)
 exact .f (.f (.f (.f (.f (ct ⟨_, si h, rfl, rfl⟩ (tk [] ⟨.s, .i, .i, .i, ⟨⟩⟩ ⟨⟩))))))
 exact .f (.f (.f (.f (.f (.f (.f (.f (.f (.f (.f (ct ⟨_, si h, rfl, rfl⟩ (tk [] ⟨.s, .i, .i, .i, ⟨⟩⟩ ⟨⟩))))))))))))
 rintro _ _ ⟨y1, rfl, rfl, rfl⟩
 replace h := hk4
 refine .d (.d (sD h (fun hb15 h => ?_) (fun hb15 h => ?_)))
 refine .t (.t (.t (.t (.t (.t (.d ?_))))))
 obtain rfl := si h
 exact en [] ⟨rfl, rfl⟩ (.tup_l ⟨.i, .i, ⟨⟩⟩) ⟨⟩
 refine .f (.f (bk h fun c16 hx17 h => ⟨sidx_bd hx17, c16, sidx_at hx17, (.f (.f (.f (sN h (fun hb18 h => ?_) (fun hb18 h => ?_)))))⟩))
 refine .d ?_
 obtain rfl := si h
 exact en [] ⟨rfl, rfl⟩ (.tup_l ⟨.i, .i, ⟨⟩⟩) ⟨⟩
 refine .d (bk h fun s19 hx20 h => ⟨ssub_bd hx20, s19, ssub_at hx20, ?_⟩)
 obtain ⟨⟨v21, v22⟩, hv23, h⟩ := bd h
 refine pcP (ok54 hv23) (.d (.d (sVn h (fun hb24 h => ?_) (fun hb24 h => ?_))))
 refine .t (.t (.t (bk h fun s25 hx26 h => ⟨ssub_bd hx26, s25, ssub_at hx26, (.t (.t (sEn h (fun hb27 h => ?_) (fun hb27 h => ?_))))⟩)))
 refine .d ?_
 obtain rfl := si h
 exact en [] ⟨rfl, rfl⟩ (.tup_l ⟨.i, .i, ⟨⟩⟩) ⟨⟩
 refine .d (.d (.kt hb24 (.d ?_)))
 obtain rfl := si h
 exact en [] ⟨rfl, rfl⟩ (.tup_l ⟨.i, .i, ⟨⟩⟩) ⟨⟩
 refine .f (.f (.f (.f (.f (.f (.d (.d (.kf hb24 (.d ?_)))))))))
 obtain rfl := si h
 exact en [] ⟨rfl, rfl⟩ (.tup_l ⟨.i, .i, ⟨⟩⟩) ⟨⟩
mutual
def m_s_l11Read (a0 : Str) (a1 : Int) (a2 : Int) : Option (TValue × Int) :=
 (if a0.length + 1 = a0.length then
 m_s_l11Read default default default
 else
 (if a1 ≥ (W64 ((a0.length : Int) - 1)) then
 some ((TValue.mk 0 0 [] 0 []), (-1))
 else
 (if a2 > 200 then
 some ((TValue.mk 0 0 [] 0 []), (-1))
 else
 ssub a0 a1 (W64 (a1 + 2)) >>= fun s3 =>
 (if s3 = ([78, 59] : Str) then
 some ((TValue.mk 0 0 [] 0 []), W64 (a1 + 2))
 else
 ((
 (
 (if s3 = ([98, 58] : Str) then
 some (s3 == ([98, 58] : Str))
 else
 some (s3 == ([105, 58] : Str)))
 : Option (Bool)) >>= fun b11 =>
 (if b11 = true then
 m_s_l11Num a0 (W64 (a1 + 2)) 59 >>= fun (v17, v18) =>
 (if s3 = ([98, 58] : Str) then
 some (.inr ((TValue.mk 1 v17 [] 0 []), v18))
 else
 some (.inr ((TValue.mk 2 v17 [] 0 []), v18)))
 else
 (if s3 = ([115, 58] : Str) then
 m_s_l11Num a0 (W64 (a1 + 2)) 58 >>= fun (v22, v23) =>
 (if v23 < 0 then
 some (.inr ((TValue.mk 0 0 [] 0 []), (-1)))
 else
 (if v22 < 0 then
 some (.inr ((TValue.mk 0 0 [] 0 []), (-1)))
 else
 (if v22 ≥ (W64 ((a0.length : Int) - v23)) then
 some (.inr ((TValue.mk 0 0 [] 0 []), (-1)))
 else
 sidx a0 (W64 (v23 + v22)) >>= fun c28 =>
 (if (c28.toNat : Int) = 59 then
 ssub a0 v23 (W64 (v23 + v22)) >>= fun s31 =>
 some (.inr ((TValue.mk 3 0 s31 0 []), W64 ((W64 (v23 + v22)) + 1)))
 else
 some (.inr ((TValue.mk 0 0 [] 0 []), (-1)))))))
 else
 (if s3 = ([97, 58] : Str) then
 m_s_l11Num a0 (W64 (a1 + 2)) 58 >>= fun (v34, v35) =>
 some (.inl (v34, v35))
 else
 some (.inl (0, (-1))))))
 : Option ((Int × Int) ⊕ (TValue × Int))) >>= fun o8 => match o8 with
 | .inr r => some r
 | .inl (y6, y7) =>
 (if y7 < 0 then
 some ((TValue.mk 0 0 [] 0 []), (-1))
 else
 (if y6 < 0 then
 some ((TValue.mk 0 0 [] 0 []), (-1))
 else
 (if y6 > 200 then
 some ((TValue.mk 0 0 [] 0 []), (-1))
 else
 m_s_l11Num a0 y7 123 >>= fun (v40, v41) =>
 ((
 m_s_l11Read_L2 a0 a2 v40 y6 v41 ([] : List TEntry) 0
 : Option ((Int × (List TEntry)) ⊕ (TValue × Int))) >>= fun o45 => match o45 with
 | .inr r => some r
 | .inl (y43, l44) =>
 (if y43 < 0 then
 some ((TValue.mk 4 0 [] v40 l44), (-1))
 else
 (if y43 ≥ (a0.length : Int) then
 some ((TValue.mk 4 0 [] v40 l44), (-1))
 else
 sidx a0 y43 >>= fun c78 =>
 (if (c78.toNat : Int) = 125 then
 some ((TValue.mk 4 0 [] v40 l44), W64 (y43 + 1))
 else
 some ((TValue.mk 4 0 [] v40 l44), (-1)))))
 ))))
 )))))
partial_fixpoint
def m_s_l11Read_L2 (a0 : Str) (a2 : Int) (v40 : Int) (y6 : Int) (y48 : Int) (l49 : List TEntry) (y50 : Int) : Option ((Int × (List TEntry)) ⊕ (TValue × Int)) :=
 (if y50 < y6 then
 (if y48 ≥ 0 then
 m_s_l11Read a0 y48 (W64 (a2 + 1)) >>= fun (v56, v57) =>
 (if v57 < 0 then
 some (.inr ((TValue.mk 4 0 [] v40 l49), (-1)))
 else
 m53 v56.fKind 2 3 >>= fun v60 =>
 (if v60 = true then
 m_s_l11Read a0 v57 (W64 (a2 + 1)) >>= fun (v63, v64) =>
 lapp 96 l49 ([(TEntry.mk (TKey.mk (v56.fKind == 3) v56.fNum v56.fStr) v63)] : List TEntry) >>= fun l66 =>
 m_s_l11Read_L2 a0 a2 v40 y6 v64 l66 (W64 (y50 + 1))
 else
 some (.inr ((TValue.mk 4 0 [] v40 l49), (-1)))))
 else
 some (.inl (y48, l49)))
 else
 some (.inl (y48, l49)))
partial_fixpoint
end
def okS17 (a0 : Str) (a1 : Int) (a2 : Int) (r : TValue × Int) : Prop := ACall Tryd.prog 17 [.str a0, .int .i64 a1, .int .i64 a2] [] (fun res h => res = .tup [.agg r.1.lit, .int .i64 r.2] ∧ h = [])
inductive m_s_l11Read_L2_I : Str → Int → Int → Int → Int → (List TEntry) → Int → ((Int × (List TEntry)) ⊕ (TValue × Int)) → Prop
 | mk (G17 : Str → Int → Int → Option (TValue × Int)) (hG17 : ∀ a0 a1 a2 r, G17 a0 a1 a2 = some r → okS17 a0 a1 a2 r) (F_m_s_l11Read_L2 : Str → Int → Int → Int → Int → (List TEntry) → Int → Option ((Int × (List TEntry)) ⊕ (TValue × Int))) (hF_m_s_l11Read_L2 : ∀ a0 a2 v40 y6 y48 l49 y50 o, F_m_s_l11Read_L2 a0 a2 v40 y6 y48 l49 y50 = some o → m_s_l11Read_L2_I a0 a2 v40 y6 y48 l49 y50 o) (a0 : Str) (a2 : Int) (v40 : Int) (y6 : Int) (y48 : Int) (l49 : List TEntry) (y50 : Int) (o : (Int × (List TEntry)) ⊕ (TValue × Int)) (h : (
 (if y50 < y6 then
 (if y48 ≥ 0 then
 G17 a0 y48 (W64 (a2 + 1)) >>= fun (v56, v57) =>
 (if v57 < 0 then
 some (.inr ((TValue.mk 4 0 [] v40 l49), (-1)))
 else
 m53 v56.fKind 2 3 >>= fun v60 =>
 (if v60 = true then
 G17 a0 v57 (W64 (a2 + 1)) >>= fun (v63, v64) =>
 lapp 96 l49 ([(TEntry.mk (TKey.mk (v56.fKind == 3) v56.fNum v56.fStr) v63)] : List TEntry) >>= fun l66 =>
 F_m_s_l11Read_L2 a0 a2 v40 y6 v64 l66 (W64 (y50 + 1))
 else
 some (.inr ((TValue.mk 4 0 [] v40 l49), (-1)))))
 else
 some (.inl (y48, l49)))
 else
 some (.inl (y48, l49)))
 ) = some o) : m_s_l11Read_L2_I a0 a2 v40 y6 y48 l49 y50 o
theorem m_s_l11Read_L2_ind {motive : Str → Int → Int → Int → Int → (List TEntry) → Int → ((Int × (List TEntry)) ⊕ (TValue × Int)) → Prop} (step : ∀ (G17 : Str → Int → Int → Option (TValue × Int)) (hG17 : ∀ a0 a1 a2 r, G17 a0 a1 a2 = some r → okS17 a0 a1 a2 r) (F_m_s_l11Read_L2 : Str → Int → Int → Int → Int → (List TEntry) → Int → Option ((Int × (List TEntry)) ⊕ (TValue × Int))) (hF_m_s_l11Read_L2 : ∀ a0 a2 v40 y6 y48 l49 y50 o, F_m_s_l11Read_L2 a0 a2 v40 y6 y48 l49 y50 = some o → m_s_l11Read_L2_I a0 a2 v40 y6 y48 l49 y50 o) (a0 : Str) (a2 : Int) (v40 : Int) (y6 : Int) (y48 : Int) (l49 : List TEntry) (y50 : Int) (o : (Int × (List TEntry)) ⊕ (TValue × Int)) (h : (
 (if y50 < y6 then
 (if y48 ≥ 0 then
 G17 a0 y48 (W64 (a2 + 1)) >>= fun (v56, v57) =>
 (if v57 < 0 then
 some (.inr ((TValue.mk 4 0 [] v40 l49), (-1)))
 else
 m53 v56.fKind 2 3 >>= fun v60 =>
 (if v60 = true then
 G17 a0 v57 (W64 (a2 + 1)) >>= fun (v63, v64) =>
 lapp 96 l49 ([(TEntry.mk (TKey.mk (v56.fKind == 3) v56.fNum v56.fStr) v63)] : List TEntry) >>= fun l66 =>
 F_m_s_l11Read_L2 a0 a2 v40 y6 v64 l66 (W64 (y50 + 1))
 else
 some (.inr ((TValue.mk 4 0 [] v40 l49), (-1)))))
 else
 some (.inl (y48, l49)))
 else
 some (.inl (y48, l49)))
 ) = some o) (ih : ∀ a0 a2 v40 y6 y48 l49 y50 o, F_m_s_l11Read_L2 a0 a2 v40 y6 y48 l49 y50 = some o → motive a0 a2 v40 y6 y48 l49 y50 o), motive a0 a2 v40 y6 y48 l49 y50 o) : ∀ a0 a2 v40 y6 y48 l49 y50 o, m_s_l11Read_L2_I a0 a2 v40 y6 y48 l49 y50 o → motive a0 a2 v40 y6 y48 l49 y50 o :=
 fun a0 a2 v40 y6 y48 l49 y50 o h => m_s_l11Read_L2_I.rec (motive := fun a0 a2 v40 y6 y48 l49 y50 o _ => motive a0 a2 v40 y6 y48 l49 y50 o) step h
theorem grp__s_l11Read : (∀ a0 a1 a2 r, m_s_l11Read a0 a1 a2 = some r → okS17 a0 a1 a2 r) ∧ (∀ a0 a2 v40 y6 y48 l49 y50 o, m_s_l11Read_L2 a0 a2 v40 y6 y48 l49 y50 = some o → m_s_l11Read_L2_I a0 a2 v40 y6 y48 l49 y50 o) := by
 refine m_s_l11Read.mutual_partial_correctness okS17 m_s_l11Read_L2_I ?_ ?_
 intro _ _ ihf17 hI75 a0 a1 a2 r h
 refine vc1 Tryd.func17 ?_
 rw [if_neg (by omega)] at h
 refine .d (.d (.d (sD h (fun hb1 h => ?_) (fun hb1 h => ?_))))
 refine .t (.t (.t (.d ⟨rfl, _, fun _ => [.int .i64 0, .int .i64 0, .str [], .int .i64 0, .nils], rfl, one_set rfl, ?_⟩)))
 obtain rfl := si h
 exact ⟨rfl, _, rfl, (en [] ⟨rfl, rfl⟩ (.tup_l ⟨.agg_l ⟨.i, .i, .s, .i, .z, ⟨⟩⟩, .i, ⟨⟩⟩) ⟨⟩)⟩
 refine .f (.f (sD h (fun hb2 h => ?_) (fun hb2 h => ?_)))
 refine .d ⟨rfl, _, fun _ => [.int .i64 0, .int .i64 0, .str [], .int .i64 0, .nils], rfl, one_set rfl, ?_⟩
 obtain rfl := si h
 exact ⟨rfl, _, rfl, (en [] ⟨rfl, rfl⟩ (.tup_l ⟨.agg_l ⟨.i, .i, .s, .i, .z, ⟨⟩⟩, .i, ⟨⟩⟩) ⟨⟩)⟩
 refine .d (bk h fun s3 hx4 h => ⟨ssub_bd hx4, s3, ssub_at hx4, (.d (.d (sE h (fun hb5 h => ?_) (fun hb5 h => ?_))))⟩)
 refine .d ⟨rfl, _, fun _ => [.int .i64 0, .int .i64 0, .str [], .int .i64 0, .nils], rfl, one_set rfl, ?_⟩
 obtain rfl := si h
 exact ⟨rfl, _, rfl, (en [] ⟨rfl, rfl⟩ (.tup_l ⟨.agg_l ⟨.i, .i, .s, .i, .z, ⟨⟩⟩, .i, ⟨⟩⟩) ⟨⟩)⟩
 refine .d (.d ?_)
 obtain ⟨o8, ho9, hk10⟩ := bd h
 replace h := ho9
 refine .cut (fun σ η => ∃ y6, ∃ y7, .inl (y6, y7) = o8 ∧ σ = [(0, .str a0), (2, .int .i64 a2), (6, .optr 0 0 0 0), (9, .int .i64 y6), (10, .int .i64 y7)] ∧ η = [.row 0 5 1 24 (fun _ => [.int .i64 0, .int .i64 0, .str [], .int .i64 0, .nils])]) ?_ ?_
 refine .d ?_
 obtain ⟨o12, ho13, hk14⟩ := bd h
 replace h := ho13
 refine .cut (fun σ η => ∃ b11, b11 = o12 ∧ σ = [(0, .str a0), (1, .int .i64 a1), (2, .int .i64 a2), (6, .optr 0 0 0 0), (8, .str s3), (9, .int .i64 0), (10, .int .i64 (-1)), (36, .str s3), (37, .bool b11)] ∧ η = [.row 0 5 1 24 (fun _ => [.int .i64 0, .int .i64 0, .str [], .int .i64 0, .nils])]) ?_ ?_
 refine .d (sE h (fun hb15 h => ?_) (fun hb15 h => ?_))
 exact ct ⟨_, si h, rfl, rfl⟩ (tk [0] ⟨.s, .i, .i, .p, .s, .i, .i, .s, .b, ⟨⟩⟩ ⟨(nb rfl ⟨.i, .i, .s, .i, .nils, ⟨⟩⟩), ⟨⟩⟩)
 exact ct ⟨_, si h, rfl, rfl⟩ (tk [0] ⟨.s, .i, .i, .p, .s, .i, .i, .s, .b, ⟨⟩⟩ ⟨(nb rfl ⟨.i, .i, .s, .i, .nils, ⟨⟩⟩), ⟨⟩⟩)
 rintro _ _ ⟨b11, rfl, rfl, rfl⟩
 replace h := hk14
 refine sV h (fun hb16 h => ?_) (fun hb16 h => ?_)
 refine .d ?_
 obtain ⟨⟨v17, v18⟩, hv19, h⟩ := bd h
 refine pcP (ok_s_l11Num hv19) (.d (.d (sE h (fun hb20 h => ?_) (fun hb20 h => ?_))))
 refine .d ⟨rfl, _, fun _ => [.int .i64 1, .int .i64 v17, .str [], .int .i64 0, .nils], rfl, one_set rfl, ?_⟩
 obtain rfl := si h
 replace h := hk10
 obtain rfl := si h
 exact ⟨rfl, _, rfl, (en [] ⟨rfl, rfl⟩ (.tup_l ⟨.agg_l ⟨.i, .i, .s, .i, .z, ⟨⟩⟩, .i, ⟨⟩⟩) ⟨⟩)⟩
 refine .d (pcP (ok_s_IntValuex v17) ⟨rfl, _, fun _ => [.int .i64 2, .int .i64 v17, .str [], .int .i64 0, .nils], rfl, one_set rfl, ?_⟩)
 obtain rfl := si h
 replace h := hk10
 obtain rfl := si h
 exact ⟨rfl, _, rfl, (en [] ⟨rfl, rfl⟩ (.tup_l ⟨.agg_l ⟨.i, .i, .s, .i, .z, ⟨⟩⟩, .i, ⟨⟩⟩) ⟨⟩)⟩
 refine .d (sE h (fun hb21 h => ?_) (fun hb21 h => ?_))
 refine .d ?_
 obtain ⟨⟨v22, v23⟩, hv24, h⟩ := bd h
 refine pcP (ok_s_l11Num hv24) (.d (.d (sD h (fun hb25 h => ?_) (fun hb25 h => ?_))))
 refine .t (.t (.t (.t (.t (.t (.t (.t (.t (.t (.t (.t (.t (.t (.t ?_))))))))))))))
 refine .t (.t (.d ⟨rfl, _, fun _ => [.int .i64 0, .int .i64 0, .str [], .int .i64 0, .nils], rfl, one_set rfl, ?_⟩))
 obtain rfl := si h
 replace h := hk10
 obtain rfl := si h
 exact ⟨rfl, _, rfl, (en [] ⟨rfl, rfl⟩ (.tup_l ⟨.agg_l ⟨.i, .i, .s, .i, .z, ⟨⟩⟩, .i, ⟨⟩⟩) ⟨⟩)⟩
 refine .f (.f (sD h (fun hb26 h => ?_) (fun hb26 h => ?_)))
 refine .t (.t (.t (.t (.t (.t (.t (.t (.t (.t (.t (.t (.t (.t (.d ?_))))))))))))))
 refine ⟨rfl, _, fun _ => [.int .i64 0, .int .i64 0, .str [], .int .i64 0, .nils], rfl, one_set rfl, ?_⟩
 obtain rfl := si h
 replace h := hk10
 obtain rfl := si h
 exact ⟨rfl, _, rfl, (en [] ⟨rfl, rfl⟩ (.tup_l ⟨.agg_l ⟨.i, .i, .s, .i, .z, ⟨⟩⟩, .i, ⟨⟩⟩) ⟨⟩)⟩
 refine .f (.f (.f (.f (.f (.f (sD h (fun hb27 h => ?_) (fun hb27 h => ?_)))))))
 refine .t (.t (.t (.t (.t (.t (.t (.d ⟨rfl, _, fun _ => [.int .i64 0, .int .i64 0, .str [], .int .i64 0, .nils], rfl, one_set rfl, ?_⟩)))))))
 obtain rfl := si h
 replace h := hk10
 obtain rfl := si h
 exact ⟨rfl, _, rfl, (en [] ⟨rfl, rfl⟩ (.tup_l ⟨.agg_l ⟨.i, .i, .s, .i, .z, ⟨⟩⟩, .i, ⟨⟩⟩) ⟨⟩)⟩
 refine .f (.f (.f (.f (bk h fun c28 hx29 h => ⟨sidx_bd hx29, c28, sidx_at hx29, (.f (.f (sN h (fun hb30 h => ?_) (fun hb30 h => ?_))))⟩))))
 refine .d ⟨rfl, _, fun _ => [.int .i64 0, .int .i64 0, .str [], .int .i64 0, .nils], rfl, one_set rfl, ?_⟩
 obtain rfl := si h
 replace h := hk10
 obtain rfl := si h
 exact ⟨rfl, _, rfl, (en [] ⟨rfl, rfl⟩ (.tup_l ⟨.agg_l ⟨.i, .i, .s, .i, .z, ⟨⟩⟩, .i, ⟨⟩⟩) ⟨⟩)⟩
 refine .d (bk h fun s31 hx32 h => ⟨ssub_bd hx32, s31, ssub_at hx32, (pcP (ok_s_TextValuex s31) ⟨rfl, _, fun _ => [.int .i64 3, .int .i64 0, .str s31, .int .i64 0, .nils], rfl, one_set rfl, ?_⟩)⟩)
 obtain rfl := si h
 replace h := hk10
 obtain rfl := si h
 exact ⟨rfl, _, rfl, (en [] ⟨rfl, rfl⟩ (.tup_l ⟨.agg_l ⟨.i, .i, .s, .i, .z, ⟨⟩⟩, .i, ⟨⟩⟩) ⟨⟩)⟩
 refine .d (sE h (fun hb33 h => ?_) (fun hb33 h => ?_))
 obtain ⟨⟨v34, v35⟩, hv36, h⟩ := bd h
 exact pcP (ok_s_l11Num hv36) (ct ⟨_, _, si h, rfl, rfl⟩ (tk [0] ⟨.s, .i, .p, .i, .i, ⟨⟩⟩ ⟨(nb rfl ⟨.i, .i, .s, .i, .nils, ⟨⟩⟩), ⟨⟩⟩))
 exact ct ⟨_, _, si h, rfl, rfl⟩ (tk [0] ⟨.s, .i, .p, .i, .i, ⟨⟩⟩ ⟨(nb rfl ⟨.i, .i, .s, .i, .nils, ⟨⟩⟩), ⟨⟩⟩)
 rintro _ _ ⟨y6, y7, rfl, rfl, rfl⟩
 replace h := hk10
 refine .d (.d (sD h (fun hb37 h => ?_) (fun hb37 h => ?_)))
 refine .t (.t (.t (.t (.t (.t (.d ⟨rfl, _, fun _ => [.int .i64 0, .int .i64 0, .str [], .int .i64 0, .nils], rfl, one_set rfl, ?_⟩))))))
 obtain rfl := si h
 exact ⟨rfl, _, rfl, (en [] ⟨rfl, rfl⟩ (.tup_l ⟨.agg_l ⟨.i, .i, .s, .i, .z, ⟨⟩⟩, .i, ⟨⟩⟩) ⟨⟩)⟩
 refine .f (.f (sD h (fun hb38 h => ?_) (fun hb38 h => ?_)))
 refine .t (.t (.t (.d ⟨rfl, _, fun _ => [.int .i64 0, .int .i64 0, .str [], .int .i64 0, .nils], rfl, one_set rfl, ?_⟩)))
 obtain rfl := si h
 exact ⟨rfl, _, rfl, (en [] ⟨rfl, rfl⟩ (.tup_l ⟨.agg_l ⟨.i, .i, .s, .i, .z, ⟨⟩⟩, .i, ⟨⟩⟩) ⟨⟩)⟩
 refine .f (.f (sD h (fun hb39 h => ?_) (fun hb39 h => ?_)))
 refine .d ⟨rfl, _, fun _ => [.int .i64 0, .int .i64 0, .str [], .int .i64 0, .nils], rfl, one_set rfl, ?_⟩
 obtain rfl := si h
 exact ⟨rfl, _, rfl, (en [] ⟨rfl, rfl⟩ (.tup_l ⟨.agg_l ⟨.i, .i, .s, .i, .z, ⟨⟩⟩, .i, ⟨⟩⟩) ⟨⟩)⟩
 refine .d (pcP (ok_s_ArrayValuex) ⟨rfl, _, fun _ => [.int .i64 4, .int .i64 0, .str [], .int .i64 0, .nils], rfl, one_set rfl, (.d ?_)⟩)
 obtain ⟨⟨v40, v41⟩, hv42, h⟩ := bd h
 refine pcP (ok_s_l11Num hv42) ⟨rfl, ⟨rfl, _, fun _ => [.int .i64 4, .int .i64 0, .str [], .int .i64 v40, .nils], rfl, one_set rfl, ?_⟩⟩
 obtain ⟨o45, ho46, hk47⟩ := bd h
 replace h := ho46
 refine .cut (fun σ η => ∃ y43, ∃ l44, .inl (y43, l44) = o45 ∧ σ = [(0, .str a0), (6, .optr 0 0 0 0), (10, .int .i64 y43), (11, .optr 1 0 0 0)] ∧ η = [.row 0 5 1 24 (fun _ => [.int .i64 0, .int .i64 0, .str [], .int .i64 0, .nils]), .row 0 5 1 24 (fun _ => [.int .i64 4, .int .i64 0, .str [], .int .i64 v40, .own 2 0 0 l44.length]), .row 0 8 l44.length 63 (row TEntry.cells l44)]) ?_ ?_
 refine .d ?_
 have hL74 := hI75 _ _ _ _ _ _ _ _ h
 refine le (m_s_l11Read_L2_ind (motive := fun p70 p71 p72 p73 y48 l49 y50 o68 => a0 = p70 → a2 = p71 → v40 = p72 → y6 = p73 → o45 = o68 → LoopAt _ _ [(0, .str a0), (2, .int .i64 a2), (6, .optr 0 0 0 0), (9, .int .i64 y6), (10, .int .i64 y48), (11, .optr 1 0 0 0), (12, .int .i64 y50)] [.row 0 5 1 24 (fun _ => [.int .i64 0, .int .i64 0, .str [], .int .i64 0, .nils]), .row 0 5 1 24 (fun _ => [.int .i64 4, .int .i64 0, .str [], .int .i64 v40, .own 2 0 0 l49.length]), .row 0 8 l49.length 63 (row TEntry.cells l49)]) ?_ a0 a2 v40 y6 v41 ([] : List TEntry) 0 o45 hL74 rfl rfl rfl rfl rfl) (tk [0, 1, 4] ⟨.s, .i, .p, .i, .i, .p, .i, ⟨⟩⟩ ⟨(nb rfl ⟨.i, .i, .s, .i, .nils, ⟨⟩⟩), (nb rfl ⟨.i, .i, .s, .i, .g, ⟨⟩⟩), gh, ⟨⟩⟩)
 intro _ hG53 _ _ p70 p71 p72 p73 y48 l49 y50 o68 h ih51  hp_p70 hp_p71 hp_p72 hp_p73 hr69
 subst hp_p70
 subst hp_p71
 subst hp_p72
 subst hp_p73
 subst hr69
 refine LoopAt.round (.d (.d (sD h (fun hb54 h => ?_) (fun hb54 h => ?_))))
 refine .t (.t (sD h (fun hb55 h => ?_) (fun hb55 h => ?_)))
 refine .d (.d ⟨rfl, _, fun _ => [.int .i64 0, .int .i64 0, .str [], .int .i64 0, .nils], rfl, one_set rfl, (.d ⟨rfl, _, fun _ => [.int .i64 0, .int .i64 0, .str [], .int .i64 0, .nils], rfl, one_set rfl, (.d ?_)⟩)⟩)
 obtain ⟨⟨v56, v57⟩, hv58, h⟩ := bd h
 refine pcP (hG53 _ _ _ _ hv58) ⟨rfl, _, fun _ => [.int .i64 v56.fKind, .int .i64 v56.fNum, .str v56.fStr, .int .i64 v56.fNext, sl 8 TEntry.cells v56.fItems], rfl, one_set rfl, (.d (.d (sD h (fun hb59 h => ?_) (fun hb59 h => ?_))))⟩
 refine .t (.t (.t (.t (.t (.d ⟨rfl, _, rfl, ⟨rfl, _, fun _ => [.int .i64 4, .int .i64 0, .str [], .int .i64 v40, .own 2 0 0 l49.length], rfl, one_set rfl, ?_⟩⟩)))))
 obtain rfl := si h
 replace h := hk47
 obtain rfl := si h
 exact ⟨rfl, _, rfl, (en [] ⟨rfl, rfl⟩ (.tup_l ⟨.agg_l ⟨.i, .i, .s, .i, .r, ⟨⟩⟩, .i, ⟨⟩⟩) ⟨⟩)⟩
 refine ⟨rfl, (.f ⟨rfl, _, rfl, (.f (bk h fun v60 hv61 h => (pcP (ok53 hv61) (.f (.f (sVn h (fun hb62 h => ?_) (fun hb62 h => ?_)))))))⟩)⟩
 refine .d ⟨rfl, _, rfl, ⟨rfl, _, fun _ => [.int .i64 4, .int .i64 0, .str [], .int .i64 v40, .own 2 0 0 l49.length], rfl, one_set rfl, ?_⟩⟩
 obtain rfl := si h
 replace h := hk47
 obtain rfl := si h
 exact ⟨rfl, _, rfl, (en [] ⟨rfl, rfl⟩ (.tup_l ⟨.agg_l ⟨.i, .i, .s, .i, .r, ⟨⟩⟩, .i, ⟨⟩⟩) ⟨⟩)⟩
 refine .d ?_
 obtain ⟨⟨v63, v64⟩, hv65, h⟩ := bd h
 refine pcP (hG53 _ _ _ _ hv65) ⟨rfl, _, fun _ => [.int .i64 v63.fKind, .int .i64 v63.fNum, .str v63.fStr, .int .i64 v63.fNext, sl 8 TEntry.cells v63.fItems], rfl, one_set rfl, (.d ⟨rfl, ⟨rfl, _, rfl, ⟨rfl, ⟨rfl, _, rfl, ⟨rfl, ⟨rfl, _, rfl, ⟨rfl, _, fun _ => [.bool (v56.fKind == 3), .int .i64 v56.fNum, .str v56.fStr], rfl, one_set rfl, ⟨rfl, ⟨rfl, _, rfl, ⟨rfl, _, rfl, ⟨rfl, _, rfl, ⟨row TEntry.cells ([(TEntry.mk (TKey.mk (v56.fKind == 3) v56.fNum v56.fStr) v63)] : List TEntry), row_lit TEntry.cells ([(TEntry.mk (TKey.mk (v56.fKind == 3) v56.fNum v56.fStr) v63)] : List TEntry) rfl (cll_cons (TEntry.cells_eq _) ⟨.same _, .same _, .same _, .same _, .same _, .same _, .same _, .same _, trivial⟩ trivial), ?_⟩⟩⟩⟩⟩⟩⟩⟩⟩⟩⟩⟩)⟩
 exact bk h fun l66 hx67 h => ⟨rfl, rfl, src_no (l := ([(TEntry.mk (TKey.mk (v56.fKind == 3) v56.fNum v56.fStr) v63)] : List TEntry)) shows_all, lapp_bd hx67, l66.length, row TEntry.cells l66, lapp_len hx67, lapp_row hx67 shows_all (src_own shows_all), ⟨rfl, ⟨rfl, _, fun _ => [.int .i64 4, .int .i64 0, .str [], .int .i64 v40, .own 2 (0 + 1) 0 l66.length], rfl, one_set rfl, (lg (ih51 _ _ _ _ _ _ _ _ h rfl rfl rfl rfl rfl) (tk [0, 1, 2] ⟨.s, .i, .p, .i, .i, .p, .i, ⟨⟩⟩ ⟨(nb rfl ⟨.i, .i, .s, .i, .nils, ⟨⟩⟩), (nb rfl ⟨.i, .i, .s, .i, .o, ⟨⟩⟩), nw, ⟨⟩⟩))⟩⟩⟩
 exact ct ⟨_, _, si h, rfl, rfl⟩ (tk [0, 1, 2] ⟨.s, .p, .i, .p, ⟨⟩⟩ ⟨(nb rfl ⟨.i, .i, .s, .i, .nils, ⟨⟩⟩), (nb rfl ⟨.i, .i, .s, .i, .o, ⟨⟩⟩), nw, ⟨⟩⟩)
 exact .f (.f (.f (ct ⟨_, _, si h, rfl, rfl⟩ (tk [0, 1, 2] ⟨.s, .p, .i, .p, ⟨⟩⟩ ⟨(nb rfl ⟨.i, .i, .s, .i, .nils, ⟨⟩⟩), (nb rfl ⟨.i, .i, .s, .i, .o, ⟨⟩⟩), nw, ⟨⟩⟩))))
 rintro _ _ ⟨y43, l44, rfl, rfl, rfl⟩
 replace h := hk47
 refine .d (.d (sD h (fun hb76 h => ?_) (fun hb76 h => ?_)))
 refine .t (.t (.t (.t (.t (.t (.t (.t (.t (.t (.d ⟨rfl, _, rfl, ⟨rfl, _, fun _ => [.int .i64 4, .int .i64 0, .str [], .int .i64 v40, .own 2 0 0 l44.length], rfl, one_set rfl, ?_⟩⟩))))))))))
 obtain rfl := si h
 exact ⟨rfl, _, rfl, (en [] ⟨rfl, rfl⟩ (.tup_l ⟨.agg_l ⟨.i, .i, .s, .i, .r, ⟨⟩⟩, .i, ⟨⟩⟩) ⟨⟩)⟩
 refine .f (.f (.f (.f (sD h (fun hb77 h => ?_) (fun hb77 h => ?_)))))
 refine .t (.t (.t (.t (.t (.d ⟨rfl, _, rfl, ⟨rfl, _, fun _ => [.int .i64 4, .int .i64 0, .str [], .int .i64 v40, .own 2 0 0 l44.length], rfl, one_set rfl, ?_⟩⟩)))))
 obtain rfl := si h
 exact ⟨rfl, _, rfl, (en [] ⟨rfl, rfl⟩ (.tup_l ⟨.agg_l ⟨.i, .i, .s, .i, .r, ⟨⟩⟩, .i, ⟨⟩⟩) ⟨⟩)⟩
 refine .f (.f (bk h fun c78 hx79 h => ⟨sidx_bd hx79, c78, sidx_at hx79, (.f (.f (sN h (fun hb80 h => ?_) (fun hb80 h => ?_))))⟩))
 refine .d ⟨rfl, _, rfl, ⟨rfl, _, fun _ => [.int .i64 4, .int .i64 0, .str [], .int .i64 v40, .own 2 0 0 l44.length], rfl, one_set rfl, ?_⟩⟩
 obtain rfl := si h
 exact ⟨rfl, _, rfl, (en [] ⟨rfl, rfl⟩ (.tup_l ⟨.agg_l ⟨.i, .i, .s, .i, .r, ⟨⟩⟩, .i, ⟨⟩⟩) ⟨⟩)⟩
 refine .d ⟨rfl, _, rfl, ⟨rfl, _, fun _ => [.int .i64 4, .int .i64 0, .str [], .int .i64 v40, .own 2 0 0 l44.length], rfl, one_set rfl, ?_⟩⟩
 obtain rfl := si h
 exact ⟨rfl, _, rfl, (en [] ⟨rfl, rfl⟩ (.tup_l ⟨.agg_l ⟨.i, .i, .s, .i, .r, ⟨⟩⟩, .i, ⟨⟩⟩) ⟨⟩)⟩
 intro F0 F1 hF0 hF1 a0 a2 v40 y6 y48 l49 y50 o h
 exact .mk F0 hF0 F1 hF1 a0 a2 v40 y6 y48 l49 y50 o h
theorem ok_s_l11Read {a0 : Str} {a1 : Int} {a2 : Int} {r : TValue × Int} (h : m_s_l11Read a0 a1 a2 = some r) : ACall Tryd.prog 17 [.str a0, .int .i64 a1, .int .i64 a2] [] (fun res h => res = .tup [.agg r.1.lit, .int .i64 r.2] ∧ h = []) := grp__s_l11Read.1 a0 a1 a2 r h
def m_s_Unserialize (a0 : Str) : Option (TValue × Bool) :=
 m_s_l11Read a0 0 0 >>= fun (v1, v2) =>
 (if v2 = (a0.length : Int) then
 m22 v1 >>= fun v5 =>
 (if v5 = true then
 some (v1, true)
 else
 some ((TValue.mk 0 0 [] 0 []), false))
 else
 some ((TValue.mk 0 0 [] 0 []), false))
theorem ok_s_Unserialize {a0 : Str} {r : TValue × Bool} (h : m_s_Unserialize a0 = some r) : ACall Tryd.prog 5 [.str a0] [] (fun res h => res = .tup [.agg r.1.lit, .bool r.2] ∧ h = []) := by
 refine vc1 Tryd.func5 ?_
 unfold m_s_Unserialize at h
 refine .d (.d ?_)
 obtain ⟨⟨v1, v2⟩, hv3, h⟩ := bd h
 refine pcP (ok_s_l11Read hv3) ⟨rfl, _, fun _ => [.int .i64 v1.fKind, .int .i64 v1.fNum, .str v1.fStr, .int .i64 v1.fNext, sl 8 TEntry.cells v1.fItems], rfl, one_set rfl, (.d (.d (sN h (fun hb4 h => ?_) (fun hb4 h => ?_))))⟩
 refine .t (.t (.t (.t (.d ⟨rfl, _, fun _ => [.int .i64 0, .int .i64 0, .str [], .int .i64 0, .nils], rfl, one_set rfl, ?_⟩))))
 obtain rfl := si h
 exact ⟨rfl, _, rfl, (en [] ⟨rfl, rfl⟩ (.tup_l ⟨.agg_l ⟨.i, .i, .s, .i, .z, ⟨⟩⟩, .b, ⟨⟩⟩) ⟨⟩)⟩
 refine ⟨rfl, _, rfl, (.f (bk h fun v5 hv6 h => (pcP (ok22 hv6) (.f (.f (sVn h (fun hb7 h => ?_) (fun hb7 h => ?_)))))))⟩
 refine .d ⟨rfl, _, fun _ => [.int .i64 0, .int .i64 0, .str [], .int .i64 0, .nils], rfl, one_set rfl, ?_⟩
 obtain rfl := si h
 exact ⟨rfl, _, rfl, (en [] ⟨rfl, rfl⟩ (.tup_l ⟨.agg_l ⟨.i, .i, .s, .i, .z, ⟨⟩⟩, .b, ⟨⟩⟩) ⟨⟩)⟩
 refine .d ⟨rfl, _, rfl, ⟨rfl, _, fun _ => [.int .i64 v1.fKind, .int .i64 v1.fNum, .str v1.fStr, .int .i64 v1.fNext, sl 8 TEntry.cells v1.fItems], rfl, one_set rfl, ?_⟩⟩
 obtain rfl := si h
 exact ⟨rfl, _, rfl, (en [] ⟨rfl, rfl⟩ (.tup_l ⟨.agg_l ⟨.i, .i, .s, .i, .l, ⟨⟩⟩, .b, ⟨⟩⟩) ⟨⟩)⟩
end Go.Am
