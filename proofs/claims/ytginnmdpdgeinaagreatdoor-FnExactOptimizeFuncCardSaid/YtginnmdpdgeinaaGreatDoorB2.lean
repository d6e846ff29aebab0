/- Models of Go functions, and their walks. (Printed by tools/mg.py.) -/
import Derived.Test.YtginnmdpdgeinaaGreatDoorB1
import Derived.Test.YtginnmdpdgeinaaGreatDoorL2
set_option linter.unusedVariables false
set_option linter.unusedSimpArgs false
set_option maxRecDepth 100000
namespace Go.Am
open Go Go.RowKit Go.Proofs
mutual
def m_i_CompareValues (a0 : TValue) (a1 : TValue) : Option (Int) :=
 (
 (if a0.fKind = 0 then
 some (a1.fKind == 3)
 else
 some false)
 : Option (Bool)) >>= fun b1 =>
 (if b1 = true then
 m_Compare [] a1.fStr >>= fun v7 =>
 some v7
 else
 (
 (if a0.fKind = 3 then
 some (a1.fKind == 0)
 else
 some false)
 : Option (Bool)) >>= fun b9 =>
 (if b9 = true then
 m_Compare a0.fStr [] >>= fun v15 =>
 some v15
 else
 (if a0.fKind = 0 then
 m_i_ToBool a0 >>= fun v18 =>
 m_i_boolNum v18 >>= fun v20 =>
 m_i_ToBool a1 >>= fun v22 =>
 m_i_boolNum v22 >>= fun v24 =>
 m_i_orderOf v20 v24 >>= fun v26 =>
 some v26
 else
 (if a0.fKind = 1 then
 m_i_ToBool a0 >>= fun v29 =>
 m_i_boolNum v29 >>= fun v31 =>
 m_i_ToBool a1 >>= fun v33 =>
 m_i_boolNum v33 >>= fun v35 =>
 m_i_orderOf v31 v35 >>= fun v37 =>
 some v37
 else
 (if a1.fKind = 0 then
 m_i_ToBool a0 >>= fun v40 =>
 m_i_boolNum v40 >>= fun v42 =>
 m_i_ToBool a1 >>= fun v44 =>
 m_i_boolNum v44 >>= fun v46 =>
 m_i_orderOf v42 v46 >>= fun v48 =>
 some v48
 else
 (if a1.fKind = 1 then
 m_i_ToBool a0 >>= fun v51 =>
 m_i_boolNum v51 >>= fun v53 =>
 m_i_ToBool a1 >>= fun v55 =>
 m_i_boolNum v55 >>= fun v57 =>
 m_i_orderOf v53 v57 >>= fun v59 =>
 some v59
 else
 m_i_ToNumber a0 >>= fun (v61, v62) =>
 m_i_ToNumber a1 >>= fun (v64, v65) =>
 ((
 (if v62 = 0 then
 (if v65 = 0 then
 m_i_orderOf v61 v64 >>= fun v72 =>
 some (.inr v72)
 else
 some (.inl ()))
 else
 some (.inl ()))
 : Option ((Unit) ⊕ Int)) >>= fun o67 => match o67 with
 | .inr r => some r
 | .inl _ =>
 (
 m_i_isScalarText a0 >>= fun v78 =>
 (if v78 = true then
 m_i_isScalarText a1 >>= fun v81 =>
 some v81
 else
 some false)
 : Option (Bool)) >>= fun b74 =>
 (if b74 = true then
 m_i_ToText a0 >>= fun (v84, v85) =>
 m_i_ToText a1 >>= fun (v87, v88) =>
 m_Compare v84 v87 >>= fun v90 =>
 some v90
 else
 (
 (if a0.fKind = 4 then
 some (a1.fKind == 4)
 else
 some false)
 : Option (Bool)) >>= fun b92 =>
 (if b92 = true then
 m_i_compareArrays a0 a1 >>= fun v98 =>
 some v98
 else
 (if a0.fKind = 4 then
 some 1
 else
 (if a1.fKind = 4 then
 some (-1)
 else
 (if a0.fKind = a1.fKind then
 (if a0.fNum = a1.fNum then
 some 0
 else
 some 2)
 else
 some 2)))))
 )))))))
partial_fixpoint
def m_i_compareArrays (a0 : TValue) (a1 : TValue) : Option (Int) :=
 (if (a0.fItems.length : Int) = (a1.fItems.length : Int) then
 ((
 m_i_compareArrays_L2 a0 a1 0
 : Option ((Unit) ⊕ Int)) >>= fun o107 => match o107 with
 | .inr r => some r
 | .inl _ =>
 some 0
 )
 else
 m_i_orderOf (a0.fItems.length : Int) (a1.fItems.length : Int) >>= fun v105 =>
 some v105)
partial_fixpoint
def m_i_compareArrays_L2 (a0 : TValue) (a1 : TValue) (y110 : Int) : Option ((Unit) ⊕ Int) :=
 (if y110 < (a0.fItems.length : Int) then
 idx a0.fItems y110 >>= fun x116 =>
 m_i_FindKey a1 x116.fKey >>= fun v118 =>
 (if v118 < 0 then
 some (.inr 2)
 else
 idx a1.fItems v118 >>= fun x121 =>
 m_i_CompareValues x116.fVal x121.fVal >>= fun v123 =>
 (if v123 = 0 then
 m_i_compareArrays_L2 a0 a1 (W64 (y110 + 1))
 else
 some (.inr v123)))
 else
 some (.inl ()))
partial_fixpoint
end
def okS125 (a0 : TValue) (a1 : TValue) (r : Int) : Prop := ACall Tryz.prog 125 [.agg a0.lit, .agg a1.lit] [] (fun res h => res = .int .i64 r ∧ h = [])
def okS159 (a0 : TValue) (a1 : TValue) (r : Int) : Prop := ACall Tryz.prog 159 [.agg a0.lit, .agg a1.lit] [] (fun res h => res = .int .i64 r ∧ h = [])
inductive m_i_compareArrays_L2_I : TValue → TValue → Int → ((Unit) ⊕ Int) → Prop
 | mk (G125 : TValue → TValue → Option (Int)) (hG125 : ∀ a0 a1 r, G125 a0 a1 = some r → okS125 a0 a1 r) (F_m_i_compareArrays_L2 : TValue → TValue → Int → Option ((Unit) ⊕ Int)) (hF_m_i_compareArrays_L2 : ∀ a0 a1 y110 o, F_m_i_compareArrays_L2 a0 a1 y110 = some o → m_i_compareArrays_L2_I a0 a1 y110 o) (a0 : TValue) (a1 : TValue) (y110 : Int) (o : (Unit) ⊕ Int) (h : (
 (if y110 < (a0.fItems.length : Int) then
 idx a0.fItems y110 >>= fun x116 =>
 m_i_FindKey a1 x116.fKey >>= fun v118 =>
 (if v118 < 0 then
 some (.inr 2)
 else
 idx a1.fItems v118 >>= fun x121 =>
 G125 x116.fVal x121.fVal >>= fun v123 =>
 (if v123 = 0 then
 F_m_i_compareArrays_L2 a0 a1 (W64 (y110 + 1))
 else
 some (.inr v123)))
 else
 some (.inl ()))
 ) = some o) : m_i_compareArrays_L2_I a0 a1 y110 o
theorem m_i_compareArrays_L2_ind {motive : TValue → TValue → Int → ((Unit) ⊕ Int) → Prop} (step : ∀ (G125 : TValue → TValue → Option (Int)) (hG125 : ∀ a0 a1 r, G125 a0 a1 = some r → okS125 a0 a1 r) (F_m_i_compareArrays_L2 : TValue → TValue → Int → Option ((Unit) ⊕ Int)) (hF_m_i_compareArrays_L2 : ∀ a0 a1 y110 o, F_m_i_compareArrays_L2 a0 a1 y110 = some o → m_i_compareArrays_L2_I a0 a1 y110 o) (a0 : TValue) (a1 : TValue) (y110 : Int) (o : (Unit) ⊕ Int) (h : (
 (if y110 < (a0.fItems.length : Int) then
 idx a0.fItems y110 >>= fun x116 =>
 m_i_FindKey a1 x116.fKey >>= fun v118 =>
 (if v118 < 0 then
 some (.inr 2)
 else
 idx a1.fItems v118 >>= fun x121 =>
 G125 x116.fVal x121.fVal >>= fun v123 =>
 (if v123 = 0 then
 F_m_i_compareArrays_L2 a0 a1 (W64 (y110 + 1))
 else
 some (.inr v123)))
 else
 some (.inl ()))
 ) = some o) (ih : ∀ a0 a1 y110 o, F_m_i_compareArrays_L2 a0 a1 y110 = some o → motive a0 a1 y110 o), motive a0 a1 y110 o) : ∀ a0 a1 y110 o, m_i_compareArrays_L2_I a0 a1 y110 o → motive a0 a1 y110 o :=
 fun a0 a1 y110 o h => m_i_compareArrays_L2_I.rec (motive := fun a0 a1 y110 o _ => motive a0 a1 y110 o) step h
theorem grp__i_CompareValues : (∀ a0 a1 r, m_i_CompareValues a0 a1 = some r → okS125 a0 a1 r) ∧ (∀ a0 a1 r, m_i_compareArrays a0 a1 = some r → okS159 a0 a1 r) ∧ (∀ a0 a1 y110 o, m_i_compareArrays_L2 a0 a1 y110 = some o → m_i_compareArrays_L2_I a0 a1 y110 o) := by
 refine m_i_CompareValues.mutual_partial_correctness okS125 okS159 m_i_compareArrays_L2_I ?_ ?_ ?_
 intro _ ihf159 a0 a1 r h
 refine vc1 Tryz.func125 ?_
 refine .d (.d ?_)
 obtain ⟨o2, ho3, hk4⟩ := bd h
 replace h := ho3
 refine .cut (fun σ η => ∃ b1, b1 = o2 ∧ σ = [(2, .optr 0 0 0 0), (3, .optr 1 0 0 0), (13, .bool b1)] ∧ η = [.row 0 5 1 74 (fun _ => a0.lit), .row 0 5 1 74 (fun _ => a1.lit)]) ?_ ?_
 refine ⟨rfl, ⟨rfl, _, rfl, (sE h (fun hb5 h => ?_) (fun hb5 h => ?_))⟩⟩
 exact ⟨rfl, (.t ⟨rfl, _, rfl, (.t (.t (ct ⟨_, si h, rfl, rfl⟩ (tk [0, 1] ⟨.p, .p, .b, ⟨⟩⟩ ⟨(nbp rfl), (nbp rfl), ⟨⟩⟩))))⟩)⟩
 exact .f (.f (.f (ct ⟨_, si h, rfl, rfl⟩ (tk [0, 1] ⟨.p, .p, .b, ⟨⟩⟩ ⟨(nbp rfl), (nbp rfl), ⟨⟩⟩))))
 rintro _ _ ⟨b1, rfl, rfl, rfl⟩
 replace h := hk4
 refine sV h (fun hb6 h => ?_) (fun hb6 h => ?_)
 exact .d ⟨rfl, ⟨rfl, _, rfl, (bk h fun v7 hv8 h => (pcP (ok_Compare hv8) (eI h)))⟩⟩
 obtain ⟨o10, ho11, hk12⟩ := bd h
 replace h := ho11
 refine .cut (fun σ η => ∃ b9, b9 = o10 ∧ σ = [(2, .optr 0 0 0 0), (3, .optr 1 0 0 0), (25, .bool b9)] ∧ η = [.row 0 5 1 74 (fun _ => a0.lit), .row 0 5 1 74 (fun _ => a1.lit)]) ?_ ?_
 refine ⟨rfl, ⟨rfl, _, rfl, (sE h (fun hb13 h => ?_) (fun hb13 h => ?_))⟩⟩
 exact ⟨rfl, (.t ⟨rfl, _, rfl, (.t (.t (ct ⟨_, si h, rfl, rfl⟩ (tk [0, 1] ⟨.p, .p, .b, ⟨⟩⟩ ⟨(nbp rfl), (nbp rfl), ⟨⟩⟩))))⟩)⟩
 exact .f (.f (.f (ct ⟨_, si h, rfl, rfl⟩ (tk [0, 1] ⟨.p, .p, .b, ⟨⟩⟩ ⟨(nbp rfl), (nbp rfl), ⟨⟩⟩))))
 rintro _ _ ⟨b9, rfl, rfl, rfl⟩
 replace h := hk12
 refine sV h (fun hb14 h => ?_) (fun hb14 h => ?_)
 exact .d ⟨rfl, ⟨rfl, _, rfl, (bk h fun v15 hv16 h => (pcP (ok_Compare hv16) (eI h)))⟩⟩
 refine .d ⟨rfl, ⟨rfl, _, rfl, (sE h (fun hb17 h => ?_) (fun hb17 h => ?_))⟩⟩
 refine .t (.t (.t (.t (.t (.t (.t (.t (.t (.t (.t (.t (.d (.float [(0, true), (3, true), (1, false), (2, false), (4, false), (5, false), (6, false), (7, true)] (by kernel_rfl) ?_)))))))))))))
 exact ⟨rfl, _, rfl, ⟨rfl, _, rfl, (bk h fun v18 hv19 h => (pcP (ok_i_ToBool hv19) ⟨rfl, (bk h fun v20 hv21 h => (pcP (ok_i_boolNum hv21) ⟨rfl, (bk h fun v22 hv23 h => (pcP (ok_i_ToBool hv23) (bk h fun v24 hv25 h => (pcP (ok_i_boolNum hv25) (bk h fun v26 hv27 h => (pcP (ok_i_orderOf hv27) (eI h)))))))⟩))⟩))⟩⟩
 refine ⟨rfl, (.f ⟨rfl, _, rfl, (.f (.f (sE h (fun hb28 h => ?_) (fun hb28 h => ?_))))⟩)⟩
 refine .t (.t (.t (.t (.t (.t (.t (.t (.d (.float [(0, true), (3, true), (1, false), (2, false), (4, false), (5, false), (6, false), (7, true)] (by kernel_rfl) ?_)))))))))
 exact ⟨rfl, _, rfl, ⟨rfl, _, rfl, (bk h fun v29 hv30 h => (pcP (ok_i_ToBool hv30) ⟨rfl, (bk h fun v31 hv32 h => (pcP (ok_i_boolNum hv32) ⟨rfl, (bk h fun v33 hv34 h => (pcP (ok_i_ToBool hv34) (bk h fun v35 hv36 h => (pcP (ok_i_boolNum hv36) (bk h fun v37 hv38 h => (pcP (ok_i_orderOf hv38) (eI h)))))))⟩))⟩))⟩⟩
 refine ⟨rfl, (.f ⟨rfl, _, rfl, (.f (.f (sE h (fun hb39 h => ?_) (fun hb39 h => ?_))))⟩)⟩
 refine .t (.t (.t (.t (.d (.float [(0, true), (3, true), (1, false), (2, false), (4, false), (5, false), (6, false), (7, true)] (by kernel_rfl) ?_)))))
 exact ⟨rfl, _, rfl, ⟨rfl, _, rfl, (bk h fun v40 hv41 h => (pcP (ok_i_ToBool hv41) ⟨rfl, (bk h fun v42 hv43 h => (pcP (ok_i_boolNum hv43) ⟨rfl, (bk h fun v44 hv45 h => (pcP (ok_i_ToBool hv45) (bk h fun v46 hv47 h => (pcP (ok_i_boolNum hv47) (bk h fun v48 hv49 h => (pcP (ok_i_orderOf hv49) (eI h)))))))⟩))⟩))⟩⟩
 refine ⟨rfl, (.f ⟨rfl, _, rfl, (.f (.f (sE h (fun hb50 h => ?_) (fun hb50 h => ?_))))⟩)⟩
 refine .d (.float [(0, true), (3, true), (1, false), (2, false), (4, false), (5, false), (6, false), (7, true)] (by kernel_rfl) ?_)
 exact ⟨rfl, _, rfl, ⟨rfl, _, rfl, (bk h fun v51 hv52 h => (pcP (ok_i_ToBool hv52) ⟨rfl, (bk h fun v53 hv54 h => (pcP (ok_i_boolNum hv54) ⟨rfl, (bk h fun v55 hv56 h => (pcP (ok_i_ToBool hv56) (bk h fun v57 hv58 h => (pcP (ok_i_boolNum hv58) (bk h fun v59 hv60 h => (pcP (ok_i_orderOf hv60) (eI h)))))))⟩))⟩))⟩⟩
 refine .d ⟨rfl, _, rfl, ?_⟩
 obtain ⟨⟨v61, v62⟩, hv63, h⟩ := bd h
 refine pcP (ok_i_ToNumber hv63) (.d ⟨rfl, _, rfl, ?_⟩)
 obtain ⟨⟨v64, v65⟩, hv66, h⟩ := bd h
 refine pcP (ok_i_ToNumber hv66) ?_
 obtain ⟨o67, ho68, hk69⟩ := bd h
 replace h := ho68
 refine .cut (fun σ η => .inl () = o67 ∧ σ = [(2, .optr 0 0 0 0), (3, .optr 1 0 0 0)] ∧ η = [.row 0 5 1 74 (fun _ => a0.lit), .row 0 5 1 74 (fun _ => a1.lit)]) ?_ ?_
 refine .d (sE h (fun hb70 h => ?_) (fun hb70 h => ?_))
 refine .t (.t (sE h (fun hb71 h => ?_) (fun hb71 h => ?_)))
 refine .d (bk h fun v72 hv73 h => (pcP (ok_i_orderOf hv73) ?_))
 obtain rfl := si h
 replace h := hk69
 exact eI h
 exact ct ⟨si h, rfl, rfl⟩ (tk [0, 1] ⟨.p, .p, ⟨⟩⟩ ⟨(nbp rfl), (nbp rfl), ⟨⟩⟩)
 exact .f (.f (.f (ct ⟨si h, rfl, rfl⟩ (tk [0, 1] ⟨.p, .p, ⟨⟩⟩ ⟨(nbp rfl), (nbp rfl), ⟨⟩⟩))))
 rintro _ _ ⟨rfl, rfl, rfl⟩
 replace h := hk69
 refine .d ?_
 obtain ⟨o75, ho76, hk77⟩ := bd h
 replace h := ho76
 refine .cut (fun σ η => ∃ b74, b74 = o75 ∧ σ = [(2, .optr 0 0 0 0), (3, .optr 1 0 0 0), (87, .bool b74)] ∧ η = [.row 0 5 1 74 (fun _ => a0.lit), .row 0 5 1 74 (fun _ => a1.lit)]) ?_ ?_
 refine ⟨rfl, _, rfl, (bk h fun v78 hv79 h => (pcP (ok_i_isScalarText hv79) (sV h (fun hb80 h => ?_) (fun hb80 h => ?_))))⟩
 exact ⟨rfl, _, rfl, (.t (bk h fun v81 hv82 h => (pcP (ok_i_isScalarText hv82) (.t (ct ⟨_, si h, rfl, rfl⟩ (tk [0, 1] ⟨.p, .p, .b, ⟨⟩⟩ ⟨(nbp rfl), (nbp rfl), ⟨⟩⟩))))))⟩
 exact .f (.f (ct ⟨_, si h, rfl, rfl⟩ (tk [0, 1] ⟨.p, .p, .b, ⟨⟩⟩ ⟨(nbp rfl), (nbp rfl), ⟨⟩⟩)))
 rintro _ _ ⟨b74, rfl, rfl, rfl⟩
 replace h := hk77
 refine sV h (fun hb83 h => ?_) (fun hb83 h => ?_)
 refine .d ⟨rfl, _, rfl, ?_⟩
 obtain ⟨⟨v84, v85⟩, hv86, h⟩ := bd h
 refine pcP (ok_i_ToText hv86) (.d ⟨rfl, _, rfl, ?_⟩)
 obtain ⟨⟨v87, v88⟩, hv89, h⟩ := bd h
 exact pcP (ok_i_ToText hv89) (.d (bk h fun v90 hv91 h => (pcP (ok_Compare hv91) (eI h))))
 refine .d ?_
 obtain ⟨o93, ho94, hk95⟩ := bd h
 replace h := ho94
 refine .cut (fun σ η => ∃ b92, b92 = o93 ∧ σ = [(2, .optr 0 0 0 0), (3, .optr 1 0 0 0), (101, .bool b92)] ∧ η = [.row 0 5 1 74 (fun _ => a0.lit), .row 0 5 1 74 (fun _ => a1.lit)]) ?_ ?_
 refine ⟨rfl, ⟨rfl, _, rfl, (sE h (fun hb96 h => ?_) (fun hb96 h => ?_))⟩⟩
 exact ⟨rfl, (.t ⟨rfl, _, rfl, (.t (.t (ct ⟨_, si h, rfl, rfl⟩ (tk [0, 1] ⟨.p, .p, .b, ⟨⟩⟩ ⟨(nbp rfl), (nbp rfl), ⟨⟩⟩))))⟩)⟩
 exact .f (.f (.f (ct ⟨_, si h, rfl, rfl⟩ (tk [0, 1] ⟨.p, .p, .b, ⟨⟩⟩ ⟨(nbp rfl), (nbp rfl), ⟨⟩⟩))))
 rintro _ _ ⟨b92, rfl, rfl, rfl⟩
 replace h := hk95
 refine sV h (fun hb97 h => ?_) (fun hb97 h => ?_)
 exact .d ⟨rfl, _, rfl, ⟨rfl, _, rfl, (bk h fun v98 hv99 h => (pcP (ihf159 _ _ _ hv99) (eI h)))⟩⟩
 refine .d ⟨rfl, ⟨rfl, _, rfl, (sE h (fun hb100 h => ?_) (fun hb100 h => ?_))⟩⟩
 exact .d (eI h)
 refine .d ⟨rfl, ⟨rfl, _, rfl, (sE h (fun hb101 h => ?_) (fun hb101 h => ?_))⟩⟩
 exact .d (eI h)
 refine .d ⟨rfl, ⟨rfl, _, rfl, ⟨rfl, ⟨rfl, _, rfl, (sE h (fun hb102 h => ?_) (fun hb102 h => ?_))⟩⟩⟩⟩
 refine ⟨rfl, (.t ⟨rfl, _, rfl, (.t ⟨rfl, (.t ⟨rfl, _, rfl, (.t (.t (sE h (fun hb103 h => ?_) (fun hb103 h => ?_))))⟩)⟩)⟩)⟩
 exact .d (eI h)
 exact .d (eI h)
 exact .f (.f (.f (.f (.f (.f (.d (eI h)))))))
 intro _ hI131 a0 a1 r h
 refine vc1 Tryz.func159 ?_
 refine .d (.d (.d ⟨rfl, ⟨rfl, _, rfl, ⟨rfl, ⟨rfl, _, rfl, (sN h (fun hb104 h => ?_) (fun hb104 h => ?_))⟩⟩⟩⟩))
 exact .d ⟨rfl, ⟨rfl, _, rfl, ⟨rfl, ⟨rfl, _, rfl, (bk h fun v105 hv106 h => (pcP (ok_i_orderOf hv106) (eI h)))⟩⟩⟩⟩
 obtain ⟨o107, ho108, hk109⟩ := bd h
 replace h := ho108
 refine .cut (fun σ η => .inl () = o107 ∧ σ = [] ∧ η = []) ?_ ?_
 refine .d ⟨rfl, ⟨rfl, _, rfl, ?_⟩⟩
 have hL130 := hI131 _ _ _ _ h
 refine le (m_i_compareArrays_L2_ind (motive := fun p128 p129 y110 o126 => a0 = p128 → a1 = p129 → o107 = o126 → LoopAt _ _ [(3, .optr 0 0 0 0), (24, sl 8 TEntry.cells a0.fItems), (25, .int .i64 (a0.fItems.length : Int)), (26, .int .i64 y110)] [.row 0 5 1 74 (fun _ => a1.lit)]) ?_ a0 a1 0 o107 hL130 rfl rfl rfl) (tk [1] ⟨.p, .l, .i, .i, ⟨⟩⟩ ⟨(nbp rfl), ⟨⟩⟩)
 intro _ hG113 _ _ p128 p129 y110 o126 h ih111  hp_p128 hp_p129 hr127
 subst hp_p128
 subst hp_p129
 subst hr127
 refine LoopAt.round (.d (.d (sD h (fun hb115 h => ?_) (fun hb115 h => ?_))))
 refine .d (.d (bk h fun x116 hx117 h => ⟨idx_bd hx117, _, (idx_row hx117).trans (TEntry.cells_eq x116), ⟨rfl, _, fun _ => [.bool x116.fKey.fText, .int .i64 x116.fKey.fNum, .str x116.fKey.fStr, .int .i64 x116.fVal.fKind, .int .i64 x116.fVal.fNum, .str x116.fVal.fStr, .int .i64 x116.fVal.fNext, sl 8 TEntry.cells x116.fVal.fItems], rfl, one_set rfl, (.d ⟨rfl, _, rfl, ⟨rfl, ⟨rfl, _, rfl, (bk h fun v118 hv119 h => (pcP (ok_i_FindKey hv119) (.d (.d (sD h (fun hb120 h => ?_) (fun hb120 h => ?_))))))⟩⟩⟩)⟩⟩))
 refine .d ?_
 obtain rfl := si h
 replace h := hk109
 exact eI h
 refine .d (.float [(0, true), (1, true), (2, true), (3, true), (4, true), (5, true), (6, true), (7, true), (8, false), (9, true)] (by kernel_rfl) ?_)
 refine ⟨rfl, ⟨rfl, _, rfl, ⟨rfl, ⟨rfl, _, rfl, (bk h fun x121 hx122 h => ⟨idx_bd hx122, _, (idx_row hx122).trans (TEntry.cells_eq x121), (bk h fun v123 hv124 h => (pcP (hG113 _ _ _ hv124) (.d (sN h (fun hb125 h => ?_) (fun hb125 h => ?_)))))⟩)⟩⟩⟩⟩
 refine .d ?_
 obtain rfl := si h
 replace h := hk109
 exact eI h
 exact lg (ih111 _ _ _ _ h rfl rfl rfl) (tk [0] ⟨.p, .l, .i, .i, ⟨⟩⟩ ⟨(nbp rfl), ⟨⟩⟩)
 exact ct ⟨si h, rfl, rfl⟩ (tk [] ⟨⟩ ⟨⟩)
 rintro _ _ ⟨rfl, rfl, rfl⟩
 replace h := hk109
 exact .d (eI h)
 intro F0 F1 hF0 hF1 a0 a1 y110 o h
 exact .mk F0 hF0 F1 hF1 a0 a1 y110 o h
theorem ok_i_CompareValues {a0 : TValue} {a1 : TValue} {r : Int} (h : m_i_CompareValues a0 a1 = some r) : ACall Tryz.prog 125 [.agg a0.lit, .agg a1.lit] [] (fun res h => res = .int .i64 r ∧ h = []) := grp__i_CompareValues.1 a0 a1 r h
mutual
def m_s_CompareValues (a0 : TValue) (a1 : TValue) : Option (Int) :=
 m_s_ToNumber a0 >>= fun (v1, v2) =>
 m_s_ToNumber a1 >>= fun (v4, v5) =>
 (
 (if a0.fKind = 0 then
 some (a1.fKind == 3)
 else
 some false)
 : Option (Bool)) >>= fun b7 =>
 (if b7 = true then
 m_s_l9Bytes [] a1.fStr >>= fun v13 =>
 some v13
 else
 (
 (if a0.fKind = 3 then
 some (a1.fKind == 0)
 else
 some false)
 : Option (Bool)) >>= fun b15 =>
 (if b15 = true then
 m_s_l9Bytes a0.fStr [] >>= fun v21 =>
 some v21
 else
 (
 m_s_l1In a0.fKind 0 1 >>= fun v27 =>
 (if v27 = true then
 some true
 else
 m_s_l1In a1.fKind 0 1 >>= fun v30 =>
 some v30)
 : Option (Bool)) >>= fun b23 =>
 (if b23 = true then
 m_s_l9Bit a0 >>= fun v33 =>
 m_s_l9Bit a1 >>= fun v35 =>
 m_s_l9Order v33 v35 >>= fun v37 =>
 some v37
 else
 (
 (if v2 = 0 then
 some (v5 == 0)
 else
 some false)
 : Option (Bool)) >>= fun b39 =>
 (if b39 = true then
 m_s_l9Order v1 v4 >>= fun v45 =>
 some v45
 else
 (
 m_s_l1In a0.fKind 2 3 >>= fun v51 =>
 (if v51 = true then
 m_s_l1In a1.fKind 2 3 >>= fun v54 =>
 some v54
 else
 some false)
 : Option (Bool)) >>= fun b47 =>
 (if b47 = true then
 m_s_ToText a0 >>= fun (v57, v58) =>
 m_s_ToText a1 >>= fun (v60, v61) =>
 m_s_l9Bytes v57 v60 >>= fun v63 =>
 some v63
 else
 (
 (if a0.fKind = 4 then
 some (a1.fKind == 4)
 else
 some false)
 : Option (Bool)) >>= fun b65 =>
 (if b65 = true then
 m_s_l9Arrays a0 a1 >>= fun v71 =>
 some v71
 else
 (if a0.fKind = 4 then
 some 1
 else
 (if a1.fKind = 4 then
 some (-1)
 else
 (if a0.fKind = a1.fKind then
 (if a0.fNum = a1.fNum then
 some 0
 else
 some 2)
 else
 some 2)))))))))
partial_fixpoint
def m_s_l9Arrays (a0 : TValue) (a1 : TValue) : Option (Int) :=
 (if (a0.fItems.length : Int) = (a1.fItems.length : Int) then
 ((
 m_s_l9Arrays_L2 a0 a1 0
 : Option ((Unit) ⊕ Int)) >>= fun o80 => match o80 with
 | .inr r => some r
 | .inl _ =>
 some 0
 )
 else
 m_s_l9Order (a0.fItems.length : Int) (a1.fItems.length : Int) >>= fun v78 =>
 some v78)
partial_fixpoint
def m_s_l9Arrays_L2 (a0 : TValue) (a1 : TValue) (y83 : Int) : Option ((Unit) ⊕ Int) :=
 (if y83 < (a0.fItems.length : Int) then
 (
 idx a0.fItems y83 >>= fun x98 =>
 m_s_l6Get a1 x98.fKey >>= fun (v100, v101) =>
 some (v100.fKind, v100.fNum, v100.fStr, v100.fNext, v100.fItems, v101)
 : Option (Int × Int × Str × Int × (List TEntry) × Bool)) >>= fun (y89, y90, s91, y92, l93, b94) =>
 (if b94 = true then
 idx a0.fItems y83 >>= fun x104 =>
 m_s_CompareValues x104.fVal (TValue.mk y89 y90 s91 y92 l93) >>= fun v106 =>
 (if v106 = 0 then
 m_s_l9Arrays_L2 a0 a1 (W64 (y83 + 1))
 else
 some (.inr v106))
 else
 some (.inr 2))
 else
 some (.inl ()))
partial_fixpoint
end
def okS101 (a0 : TValue) (a1 : TValue) (r : Int) : Prop := ACall Tryz.prog 101 [.agg a0.lit, .agg a1.lit] [] (fun res h => res = .int .i64 r ∧ h = [])
def okS139 (a0 : TValue) (a1 : TValue) (r : Int) : Prop := ACall Tryz.prog 139 [.agg a0.lit, .agg a1.lit] [] (fun res h => res = .int .i64 r ∧ h = [])
inductive m_s_l9Arrays_L2_I : TValue → TValue → Int → ((Unit) ⊕ Int) → Prop
 | mk (G101 : TValue → TValue → Option (Int)) (hG101 : ∀ a0 a1 r, G101 a0 a1 = some r → okS101 a0 a1 r) (F_m_s_l9Arrays_L2 : TValue → TValue → Int → Option ((Unit) ⊕ Int)) (hF_m_s_l9Arrays_L2 : ∀ a0 a1 y83 o, F_m_s_l9Arrays_L2 a0 a1 y83 = some o → m_s_l9Arrays_L2_I a0 a1 y83 o) (a0 : TValue) (a1 : TValue) (y83 : Int) (o : (Unit) ⊕ Int) (h : (
 (if y83 < (a0.fItems.length : Int) then
 (
 idx a0.fItems y83 >>= fun x98 =>
 m_s_l6Get a1 x98.fKey >>= fun (v100, v101) =>
 some (v100.fKind, v100.fNum, v100.fStr, v100.fNext, v100.fItems, v101)
 : Option (Int × Int × Str × Int × (List TEntry) × Bool)) >>= fun (y89, y90, s91, y92, l93, b94) =>
 (if b94 = true then
 idx a0.fItems y83 >>= fun x104 =>
 G101 x104.fVal (TValue.mk y89 y90 s91 y92 l93) >>= fun v106 =>
 (if v106 = 0 then
 F_m_s_l9Arrays_L2 a0 a1 (W64 (y83 + 1))
 else
 some (.inr v106))
 else
 some (.inr 2))
 else
 some (.inl ()))
 ) = some o) : m_s_l9Arrays_L2_I a0 a1 y83 o
theorem m_s_l9Arrays_L2_ind {motive : TValue → TValue → Int → ((Unit) ⊕ Int) → Prop} (step : ∀ (G101 : TValue → TValue → Option (Int)) (hG101 : ∀ a0 a1 r, G101 a0 a1 = some r → okS101 a0 a1 r) (F_m_s_l9Arrays_L2 : TValue → TValue → Int → Option ((Unit) ⊕ Int)) (hF_m_s_l9Arrays_L2 : ∀ a0 a1 y83 o, F_m_s_l9Arrays_L2 a0 a1 y83 = some o → m_s_l9Arrays_L2_I a0 a1 y83 o) (a0 : TValue) (a1 : TValue) (y83 : Int) (o : (Unit) ⊕ Int) (h : (
 (if y83 < (a0.fItems.length : Int) then
 (
 idx a0.fItems y83 >>= fun x98 =>
 m_s_l6Get a1 x98.fKey >>= fun (v100, v101) =>
 some (v100.fKind, v100.fNum, v100.fStr, v100.fNext, v100.fItems, v101)
 : Option (Int × Int × Str × Int × (List TEntry) × Bool)) >>= fun (y89, y90, s91, y92, l93, b94) =>
 (if b94 = true then
 idx a0.fItems y83 >>= fun x104 =>
 G101 x104.fVal (TValue.mk y89 y90 s91 y92 l93) >>= fun v106 =>
 (if v106 = 0 then
 F_m_s_l9Arrays_L2 a0 a1 (W64 (y83 + 1))
 else
 some (.inr v106))
 else
 some (.inr 2))
 else
 some (.inl ()))
 ) = some o) (ih : ∀ a0 a1 y83 o, F_m_s_l9Arrays_L2 a0 a1 y83 = some o → motive a0 a1 y83 o), motive a0 a1 y83 o) : ∀ a0 a1 y83 o, m_s_l9Arrays_L2_I a0 a1 y83 o → motive a0 a1 y83 o :=
 fun a0 a1 y83 o h => m_s_l9Arrays_L2_I.rec (motive := fun a0 a1 y83 o _ => motive a0 a1 y83 o) step h
theorem grp__s_CompareValues : (∀ a0 a1 r, m_s_CompareValues a0 a1 = some r → okS101 a0 a1 r) ∧ (∀ a0 a1 r, m_s_l9Arrays a0 a1 = some r → okS139 a0 a1 r) ∧ (∀ a0 a1 y83 o, m_s_l9Arrays_L2 a0 a1 y83 = some o → m_s_l9Arrays_L2_I a0 a1 y83 o) := by
 refine m_s_CompareValues.mutual_partial_correctness okS101 okS139 m_s_l9Arrays_L2_I ?_ ?_ ?_
 intro _ ihf139 a0 a1 r h
 refine vc1 Tryz.func101 ?_
 refine .d (.d ⟨rfl, _, rfl, ?_⟩)
 obtain ⟨⟨v1, v2⟩, hv3, h⟩ := bd h
 refine pcP (ok_s_ToNumber hv3) (.d ⟨rfl, _, rfl, ?_⟩)
 obtain ⟨⟨v4, v5⟩, hv6, h⟩ := bd h
 refine pcP (ok_s_ToNumber hv6) (.d ?_)
 obtain ⟨o8, ho9, hk10⟩ := bd h
 replace h := ho9
 refine .cut (fun σ η => ∃ b7, b7 = o8 ∧ σ = [(2, .optr 0 0 0 0), (3, .optr 1 0 0 0), (5, .int .i64 v1), (6, .int .i64 v2), (7, .int .i64 v4), (8, .int .i64 v5), (23, .bool b7)] ∧ η = [.row 0 5 1 74 (fun _ => a0.lit), .row 0 5 1 74 (fun _ => a1.lit)]) ?_ ?_
 refine ⟨rfl, ⟨rfl, _, rfl, (sE h (fun hb11 h => ?_) (fun hb11 h => ?_))⟩⟩
 exact ⟨rfl, (.t ⟨rfl, _, rfl, (.t (.t (ct ⟨_, si h, rfl, rfl⟩ (tk [0, 1] ⟨.p, .p, .i, .i, .i, .i, .b, ⟨⟩⟩ ⟨(nbp rfl), (nbp rfl), ⟨⟩⟩))))⟩)⟩
 exact .f (.f (.f (ct ⟨_, si h, rfl, rfl⟩ (tk [0, 1] ⟨.p, .p, .i, .i, .i, .i, .b, ⟨⟩⟩ ⟨(nbp rfl), (nbp rfl), ⟨⟩⟩))))
 rintro _ _ ⟨b7, rfl, rfl, rfl⟩
 replace h := hk10
 refine sV h (fun hb12 h => ?_) (fun hb12 h => ?_)
 exact .d ⟨rfl, ⟨rfl, _, rfl, (bk h fun v13 hv14 h => (pcP (ok_s_l9Bytes hv14) (eI h)))⟩⟩
 obtain ⟨o16, ho17, hk18⟩ := bd h
 replace h := ho17
 refine .cut (fun σ η => ∃ b15, b15 = o16 ∧ σ = [(2, .optr 0 0 0 0), (3, .optr 1 0 0 0), (5, .int .i64 v1), (6, .int .i64 v2), (7, .int .i64 v4), (8, .int .i64 v5), (35, .bool b15)] ∧ η = [.row 0 5 1 74 (fun _ => a0.lit), .row 0 5 1 74 (fun _ => a1.lit)]) ?_ ?_
 refine ⟨rfl, ⟨rfl, _, rfl, (sE h (fun hb19 h => ?_) (fun hb19 h => ?_))⟩⟩
 exact ⟨rfl, (.t ⟨rfl, _, rfl, (.t (.t (ct ⟨_, si h, rfl, rfl⟩ (tk [0, 1] ⟨.p, .p, .i, .i, .i, .i, .b, ⟨⟩⟩ ⟨(nbp rfl), (nbp rfl), ⟨⟩⟩))))⟩)⟩
 exact .f (.f (.f (ct ⟨_, si h, rfl, rfl⟩ (tk [0, 1] ⟨.p, .p, .i, .i, .i, .i, .b, ⟨⟩⟩ ⟨(nbp rfl), (nbp rfl), ⟨⟩⟩))))
 rintro _ _ ⟨b15, rfl, rfl, rfl⟩
 replace h := hk18
 refine sV h (fun hb20 h => ?_) (fun hb20 h => ?_)
 exact .d ⟨rfl, ⟨rfl, _, rfl, (bk h fun v21 hv22 h => (pcP (ok_s_l9Bytes hv22) (eI h)))⟩⟩
 obtain ⟨o24, ho25, hk26⟩ := bd h
 replace h := ho25
 refine .cut (fun σ η => ∃ b23, b23 = o24 ∧ σ = [(2, .optr 0 0 0 0), (3, .optr 1 0 0 0), (5, .int .i64 v1), (6, .int .i64 v2), (7, .int .i64 v4), (8, .int .i64 v5), (47, .bool b23)] ∧ η = [.row 0 5 1 74 (fun _ => a0.lit), .row 0 5 1 74 (fun _ => a1.lit)]) ?_ ?_
 refine ⟨rfl, ⟨rfl, _, rfl, (bk h fun v27 hv28 h => (pcP (ok_s_l1In hv28) (sV h (fun hb29 h => ?_) (fun hb29 h => ?_))))⟩⟩
 exact .t (.t (.t (ct ⟨_, si h, rfl, rfl⟩ (tk [0, 1] ⟨.p, .p, .i, .i, .i, .i, .b, ⟨⟩⟩ ⟨(nbp rfl), (nbp rfl), ⟨⟩⟩))))
 exact ⟨rfl, (.f ⟨rfl, _, rfl, (.f (bk h fun v30 hv31 h => (pcP (ok_s_l1In hv31) (.f (ct ⟨_, si h, rfl, rfl⟩ (tk [0, 1] ⟨.p, .p, .i, .i, .i, .i, .b, ⟨⟩⟩ ⟨(nbp rfl), (nbp rfl), ⟨⟩⟩))))))⟩)⟩
 rintro _ _ ⟨b23, rfl, rfl, rfl⟩
 replace h := hk26
 refine sV h (fun hb32 h => ?_) (fun hb32 h => ?_)
 refine .d (.float [(0, true), (2, true), (1, false), (3, false), (4, false), (5, true)] (by kernel_rfl) ?_)
 exact ⟨rfl, _, rfl, ⟨rfl, _, rfl, (bk h fun v33 hv34 h => (pcP (ok_s_l9Bit hv34) ⟨rfl, (bk h fun v35 hv36 h => (pcP (ok_s_l9Bit hv36) (bk h fun v37 hv38 h => (pcP (ok_s_l9Order hv38) (eI h)))))⟩))⟩⟩
 obtain ⟨o40, ho41, hk42⟩ := bd h
 replace h := ho41
 refine .cut (fun σ η => ∃ b39, b39 = o40 ∧ σ = [(2, .optr 0 0 0 0), (3, .optr 1 0 0 0), (5, .int .i64 v1), (7, .int .i64 v4), (61, .bool b39)] ∧ η = [.row 0 5 1 74 (fun _ => a0.lit), .row 0 5 1 74 (fun _ => a1.lit)]) ?_ ?_
 refine sE h (fun hb43 h => ?_) (fun hb43 h => ?_)
 exact .t (.t (ct ⟨_, si h, rfl, rfl⟩ (tk [0, 1] ⟨.p, .p, .i, .i, .b, ⟨⟩⟩ ⟨(nbp rfl), (nbp rfl), ⟨⟩⟩)))
 exact .f (.f (ct ⟨_, si h, rfl, rfl⟩ (tk [0, 1] ⟨.p, .p, .i, .i, .b, ⟨⟩⟩ ⟨(nbp rfl), (nbp rfl), ⟨⟩⟩)))
 rintro _ _ ⟨b39, rfl, rfl, rfl⟩
 replace h := hk42
 refine sV h (fun hb44 h => ?_) (fun hb44 h => ?_)
 exact .d (bk h fun v45 hv46 h => (pcP (ok_s_l9Order hv46) (eI h)))
 obtain ⟨o48, ho49, hk50⟩ := bd h
 replace h := ho49
 refine .cut (fun σ η => ∃ b47, b47 = o48 ∧ σ = [(2, .optr 0 0 0 0), (3, .optr 1 0 0 0), (71, .bool b47)] ∧ η = [.row 0 5 1 74 (fun _ => a0.lit), .row 0 5 1 74 (fun _ => a1.lit)]) ?_ ?_
 refine ⟨rfl, ⟨rfl, _, rfl, (bk h fun v51 hv52 h => (pcP (ok_s_l1In hv52) (sV h (fun hb53 h => ?_) (fun hb53 h => ?_))))⟩⟩
 exact ⟨rfl, (.t ⟨rfl, _, rfl, (.t (bk h fun v54 hv55 h => (pcP (ok_s_l1In hv55) (.t (ct ⟨_, si h, rfl, rfl⟩ (tk [0, 1] ⟨.p, .p, .b, ⟨⟩⟩ ⟨(nbp rfl), (nbp rfl), ⟨⟩⟩))))))⟩)⟩
 exact .f (.f (.f (ct ⟨_, si h, rfl, rfl⟩ (tk [0, 1] ⟨.p, .p, .b, ⟨⟩⟩ ⟨(nbp rfl), (nbp rfl), ⟨⟩⟩))))
 rintro _ _ ⟨b47, rfl, rfl, rfl⟩
 replace h := hk50
 refine sV h (fun hb56 h => ?_) (fun hb56 h => ?_)
 refine .d ⟨rfl, _, rfl, ?_⟩
 obtain ⟨⟨v57, v58⟩, hv59, h⟩ := bd h
 refine pcP (ok_s_ToText hv59) (.d ⟨rfl, _, rfl, ?_⟩)
 obtain ⟨⟨v60, v61⟩, hv62, h⟩ := bd h
 exact pcP (ok_s_ToText hv62) (.d (bk h fun v63 hv64 h => (pcP (ok_s_l9Bytes hv64) (eI h))))
 obtain ⟨o66, ho67, hk68⟩ := bd h
 replace h := ho67
 refine .cut (fun σ η => ∃ b65, b65 = o66 ∧ σ = [(2, .optr 0 0 0 0), (3, .optr 1 0 0 0), (93, .bool b65)] ∧ η = [.row 0 5 1 74 (fun _ => a0.lit), .row 0 5 1 74 (fun _ => a1.lit)]) ?_ ?_
 refine ⟨rfl, ⟨rfl, _, rfl, (sE h (fun hb69 h => ?_) (fun hb69 h => ?_))⟩⟩
 exact ⟨rfl, (.t ⟨rfl, _, rfl, (.t (.t (ct ⟨_, si h, rfl, rfl⟩ (tk [0, 1] ⟨.p, .p, .b, ⟨⟩⟩ ⟨(nbp rfl), (nbp rfl), ⟨⟩⟩))))⟩)⟩
 exact .f (.f (.f (ct ⟨_, si h, rfl, rfl⟩ (tk [0, 1] ⟨.p, .p, .b, ⟨⟩⟩ ⟨(nbp rfl), (nbp rfl), ⟨⟩⟩))))
 rintro _ _ ⟨b65, rfl, rfl, rfl⟩
 replace h := hk68
 refine sV h (fun hb70 h => ?_) (fun hb70 h => ?_)
 exact .d ⟨rfl, _, rfl, ⟨rfl, _, rfl, (bk h fun v71 hv72 h => (pcP (ihf139 _ _ _ hv72) (eI h)))⟩⟩
 refine .d ⟨rfl, ⟨rfl, _, rfl, (sE h (fun hb73 h => ?_) (fun hb73 h => ?_))⟩⟩
 exact .d (eI h)
 refine .d ⟨rfl, ⟨rfl, _, rfl, (sE h (fun hb74 h => ?_) (fun hb74 h => ?_))⟩⟩
 exact .d (eI h)
 refine .d ⟨rfl, ⟨rfl, _, rfl, ⟨rfl, ⟨rfl, _, rfl, (sE h (fun hb75 h => ?_) (fun hb75 h => ?_))⟩⟩⟩⟩
 refine ⟨rfl, (.t ⟨rfl, _, rfl, (.t ⟨rfl, (.t ⟨rfl, _, rfl, (.t (.t (sE h (fun hb76 h => ?_) (fun hb76 h => ?_))))⟩)⟩)⟩)⟩
 exact .d (eI h)
 exact .d (eI h)
 exact .f (.f (.f (.f (.f (.f (.d (eI h)))))))
 intro _ hI114 a0 a1 r h
 refine vc1 Tryz.func139 ?_
 refine .d (.d (.d ⟨rfl, ⟨rfl, _, rfl, ⟨rfl, ⟨rfl, _, rfl, (sN h (fun hb77 h => ?_) (fun hb77 h => ?_))⟩⟩⟩⟩))
 exact .d ⟨rfl, ⟨rfl, _, rfl, ⟨rfl, ⟨rfl, _, rfl, (bk h fun v78 hv79 h => (pcP (ok_s_l9Order hv79) (eI h)))⟩⟩⟩⟩
 obtain ⟨o80, ho81, hk82⟩ := bd h
 replace h := ho81
 refine .cut (fun σ η => .inl () = o80 ∧ σ = [] ∧ η = []) ?_ ?_
 refine .d ?_
 have hL113 := hI114 _ _ _ _ h
 refine le (m_s_l9Arrays_L2_ind (motive := fun p111 p112 y83 o109 => a0 = p111 → a1 = p112 → o80 = o109 → LoopAt _ _ [(2, .optr 0 0 0 0), (3, .optr 1 0 0 0), (5, .int .i64 y83)] [.row 0 5 1 74 (fun _ => a0.lit), .row 0 5 1 74 (fun _ => a1.lit)]) ?_ a0 a1 0 o80 hL113 rfl rfl rfl) (tk [0, 1] ⟨.p, .p, .i, ⟨⟩⟩ ⟨(nbp rfl), (nbp rfl), ⟨⟩⟩)
 intro _ hG86 _ _ p111 p112 y83 o109 h ih84  hp_p111 hp_p112 hr110
 subst hp_p111
 subst hp_p112
 subst hr110
 refine LoopAt.round (.d (.d ⟨rfl, ⟨rfl, _, rfl, (sD h (fun hb88 h => ?_) (fun hb88 h => ?_))⟩⟩))
 refine .d ?_
 obtain ⟨o95, ho96, hk97⟩ := bd h
 replace h := ho96
 refine .cut (fun σ η => ∃ y89, ∃ y90, ∃ s91, ∃ y92, ∃ l93, ∃ b94, (y89, y90, s91, y92, l93, b94) = o95 ∧ σ = [(2, .optr 0 0 0 0), (3, .optr 1 0 0 0), (5, .int .i64 y83), (6, .optr 2 0 0 0), (7, .bool b94)] ∧ η = [.row 0 5 1 74 (fun _ => a0.lit), .row 0 5 1 74 (fun _ => a1.lit), .row 0 5 1 74 (fun _ => [.int .i64 y89, .int .i64 y90, .str s91, .int .i64 y92, sl 8 TEntry.cells l93])]) ?_ ?_
 refine .float2 [(0, true), (1, true), (2, true), (3, true), (4, true), (5, true), (6, true)] 7 [(8, true), (9, true), (10, true), (11, false), (12, false), (13, true)] 11 [(7, false), (8, true), (9, true), (10, true), (12, false), (13, true)] (by kernel_rfl) ?_
 refine ⟨rfl, _, rfl, ⟨rfl, ⟨rfl, _, rfl, (bk h fun x98 hx99 h => ⟨idx_bd hx99, _, (idx_row hx99).trans (TEntry.cells_eq x98), ⟨?_, ?_⟩⟩)⟩⟩⟩
 obtain ⟨⟨v100, v101⟩, hv102, h⟩ := bd h
 exact pcP (ok_s_l6Get hv102) ⟨rfl, ⟨rfl, ⟨rfl, ⟨rfl, _, fun _ => [.int .i64 v100.fKind, .int .i64 v100.fNum, .str v100.fStr, .int .i64 v100.fNext, sl 8 TEntry.cells v100.fItems], rfl, one_set rfl, (ct ⟨_, _, _, _, _, _, si h, rfl, rfl⟩ (tk [0, 1, 2] ⟨.p, .p, .i, .p, .b, ⟨⟩⟩ ⟨(nbp rfl), (nbp rfl), (nbp rfl), ⟨⟩⟩))⟩⟩⟩⟩
 refine ⟨rfl, ⟨rfl, ⟨rfl, ?_⟩⟩⟩
 obtain ⟨⟨v100, v101⟩, hv102, h⟩ := bd h
 exact pcP (ok_s_l6Get hv102) ⟨rfl, _, fun _ => [.int .i64 v100.fKind, .int .i64 v100.fNum, .str v100.fStr, .int .i64 v100.fNext, sl 8 TEntry.cells v100.fItems], rfl, one_set rfl, (ct ⟨_, _, _, _, _, _, si h, rfl, rfl⟩ (tk [0, 1, 2] ⟨.p, .p, .i, .p, .b, ⟨⟩⟩ ⟨(nbp rfl), (nbp rfl), (nbp rfl), ⟨⟩⟩))⟩
 rintro _ _ ⟨y89, y90, s91, y92, l93, b94, rfl, rfl, rfl⟩
 replace h := hk97
 refine .d (.d (sVn h (fun hb103 h => ?_) (fun hb103 h => ?_)))
 refine .d ?_
 obtain rfl := si h
 replace h := hk82
 exact eI h
 refine .d (.float [(0, true), (1, true), (2, true), (3, true), (4, true), (5, true), (6, true), (7, false), (8, true)] (by kernel_rfl) ?_)
 refine ⟨rfl, ⟨rfl, _, rfl, (bk h fun x104 hx105 h => ⟨idx_bd hx105, _, (idx_row hx105).trans (TEntry.cells_eq x104), ⟨rfl, _, rfl, (bk h fun v106 hv107 h => (pcP (hG86 _ _ _ hv107) (.d (sN h (fun hb108 h => ?_) (fun hb108 h => ?_)))))⟩⟩)⟩⟩
 refine .d ?_
 obtain rfl := si h
 replace h := hk82
 exact eI h
 exact lg (ih84 _ _ _ _ h rfl rfl rfl) (tk [0, 1] ⟨.p, .p, .i, ⟨⟩⟩ ⟨(nbp rfl), (nbp rfl), ⟨⟩⟩)
 exact ct ⟨si h, rfl, rfl⟩ (tk [] ⟨⟩ ⟨⟩)
 rintro _ _ ⟨rfl, rfl, rfl⟩
 replace h := hk82
 exact .d (eI h)
 intro F0 F1 hF0 hF1 a0 a1 y83 o h
 exact .mk F0 hF0 F1 hF1 a0 a1 y83 o h
theorem ok_s_CompareValues {a0 : TValue} {a1 : TValue} {r : Int} (h : m_s_CompareValues a0 a1 = some r) : ACall Tryz.prog 101 [.agg a0.lit, .agg a1.lit] [] (fun res h => res = .int .i64 r ∧ h = []) := grp__s_CompareValues.1 a0 a1 r h
mutual
def m_i_Identical (a0 : TValue) (a1 : TValue) : Option (Bool) :=
 (if a0.fKind = a1.fKind then
 (if a0.fNum = a1.fNum then
 (if a0.fStr = a1.fStr then
 (if (a0.fItems.length : Int) = (a1.fItems.length : Int) then
 ((
 m_i_Identical_L2 a0 a1 0
 : Option ((Unit) ⊕ Bool)) >>= fun o5 => match o5 with
 | .inr r => some r
 | .inl _ =>
 some true
 )
 else
 some false)
 else
 some false)
 else
 some false)
 else
 some false)
partial_fixpoint
def m_i_Identical_L2 (a0 : TValue) (a1 : TValue) (y8 : Int) : Option ((Unit) ⊕ Bool) :=
 (if y8 < (a0.fItems.length : Int) then
 idx a0.fItems y8 >>= fun x13 =>
 idx a1.fItems y8 >>= fun x15 =>
 (if x13.fKey = x15.fKey then
 idx a1.fItems y8 >>= fun x18 =>
 m_i_Identical x13.fVal x18.fVal >>= fun v20 =>
 (if v20 = true then
 m_i_Identical_L2 a0 a1 (W64 (y8 + 1))
 else
 some (.inr false))
 else
 some (.inr false))
 else
 some (.inl ()))
partial_fixpoint
end
def okS123 (a0 : TValue) (a1 : TValue) (r : Bool) : Prop := ACall Tryz.prog 123 [.agg a0.lit, .agg a1.lit] [] (fun res h => res = .bool r ∧ h = [])
inductive m_i_Identical_L2_I : TValue → TValue → Int → ((Unit) ⊕ Bool) → Prop
 | mk (G123 : TValue → TValue → Option (Bool)) (hG123 : ∀ a0 a1 r, G123 a0 a1 = some r → okS123 a0 a1 r) (F_m_i_Identical_L2 : TValue → TValue → Int → Option ((Unit) ⊕ Bool)) (hF_m_i_Identical_L2 : ∀ a0 a1 y8 o, F_m_i_Identical_L2 a0 a1 y8 = some o → m_i_Identical_L2_I a0 a1 y8 o) (a0 : TValue) (a1 : TValue) (y8 : Int) (o : (Unit) ⊕ Bool) (h : (
 (if y8 < (a0.fItems.length : Int) then
 idx a0.fItems y8 >>= fun x13 =>
 idx a1.fItems y8 >>= fun x15 =>
 (if x13.fKey = x15.fKey then
 idx a1.fItems y8 >>= fun x18 =>
 G123 x13.fVal x18.fVal >>= fun v20 =>
 (if v20 = true then
 F_m_i_Identical_L2 a0 a1 (W64 (y8 + 1))
 else
 some (.inr false))
 else
 some (.inr false))
 else
 some (.inl ()))
 ) = some o) : m_i_Identical_L2_I a0 a1 y8 o
theorem m_i_Identical_L2_ind {motive : TValue → TValue → Int → ((Unit) ⊕ Bool) → Prop} (step : ∀ (G123 : TValue → TValue → Option (Bool)) (hG123 : ∀ a0 a1 r, G123 a0 a1 = some r → okS123 a0 a1 r) (F_m_i_Identical_L2 : TValue → TValue → Int → Option ((Unit) ⊕ Bool)) (hF_m_i_Identical_L2 : ∀ a0 a1 y8 o, F_m_i_Identical_L2 a0 a1 y8 = some o → m_i_Identical_L2_I a0 a1 y8 o) (a0 : TValue) (a1 : TValue) (y8 : Int) (o : (Unit) ⊕ Bool) (h : (
 (if y8 < (a0.fItems.length : Int) then
 idx a0.fItems y8 >>= fun x13 =>
 idx a1.fItems y8 >>= fun x15 =>
 (if x13.fKey = x15.fKey then
 idx a1.fItems y8 >>= fun x18 =>
 G123 x13.fVal x18.fVal >>= fun v20 =>
 (if v20 = true then
 F_m_i_Identical_L2 a0 a1 (W64 (y8 + 1))
 else
 some (.inr false))
 else
 some (.inr false))
 else
 some (.inl ()))
 ) = some o) (ih : ∀ a0 a1 y8 o, F_m_i_Identical_L2 a0 a1 y8 = some o → motive a0 a1 y8 o), motive a0 a1 y8 o) : ∀ a0 a1 y8 o, m_i_Identical_L2_I a0 a1 y8 o → motive a0 a1 y8 o :=
 fun a0 a1 y8 o h => m_i_Identical_L2_I.rec (motive := fun a0 a1 y8 o _ => motive a0 a1 y8 o) step h
theorem grp__i_Identical : (∀ a0 a1 r, m_i_Identical a0 a1 = some r → okS123 a0 a1 r) ∧ (∀ a0 a1 y8 o, m_i_Identical_L2 a0 a1 y8 = some o → m_i_Identical_L2_I a0 a1 y8 o) := by
 refine m_i_Identical.mutual_partial_correctness okS123 m_i_Identical_L2_I ?_ ?_
 intro _ hI28 a0 a1 r h
 refine vc1 Tryz.func123 ?_
 refine .d (.d (.d ⟨rfl, ⟨rfl, _, rfl, ⟨rfl, ⟨rfl, _, rfl, (sN h (fun hb1 h => ?_) (fun hb1 h => ?_))⟩⟩⟩⟩))
 refine .t (.t (.t (.t (.t (.t (.t (.t (.t (.t (.t (.t (.t (.t (.t ?_))))))))))))))
 exact .t (.t (.t (.t (.t (.d (eB h))))))
 refine ⟨rfl, (.f ⟨rfl, _, rfl, (.f ⟨rfl, (.f ⟨rfl, _, rfl, (.f (.f (sN h (fun hb2 h => ?_) (fun hb2 h => ?_))))⟩)⟩)⟩)⟩
 refine .t (.t (.t (.t (.t (.t (.t (.t (.t (.t (.t (.t (.t (.t (.d ?_))))))))))))))
 exact eB h
 refine ⟨rfl, (.f ⟨rfl, _, rfl, (.f ⟨rfl, (.f ⟨rfl, _, rfl, (.f (.f (sEn h (fun hb3 h => ?_) (fun hb3 h => ?_))))⟩)⟩)⟩)⟩
 exact .t (.t (.t (.t (.t (.t (.t (.t (.d (eB h)))))))))
 refine ⟨rfl, (.f ⟨rfl, _, rfl, (.f (.f ⟨rfl, (.f ⟨rfl, _, rfl, (.f (.f (.f (sN h (fun hb4 h => ?_) (fun hb4 h => ?_)))))⟩)⟩))⟩)⟩
 exact .d (eB h)
 obtain ⟨o5, ho6, hk7⟩ := bd h
 replace h := ho6
 refine .cut (fun σ η => .inl () = o5 ∧ σ = [] ∧ η = []) ?_ ?_
 refine .d ⟨rfl, ⟨rfl, _, rfl, ?_⟩⟩
 have hL27 := hI28 _ _ _ _ h
 refine le (m_i_Identical_L2_ind (motive := fun p25 p26 y8 o23 => a0 = p25 → a1 = p26 → o5 = o23 → LoopAt _ _ [(3, .optr 0 0 0 0), (36, sl 8 TEntry.cells a0.fItems), (37, .int .i64 (a0.fItems.length : Int)), (38, .int .i64 y8)] [.row 0 5 1 74 (fun _ => a1.lit)]) ?_ a0 a1 0 o5 hL27 rfl rfl rfl) (tk [1] ⟨.p, .l, .i, .i, ⟨⟩⟩ ⟨(nbp rfl), ⟨⟩⟩)
 intro _ hG11 _ _ p25 p26 y8 o23 h ih9  hp_p25 hp_p26 hr24
 subst hp_p25
 subst hp_p26
 subst hr24
 refine LoopAt.round (.d (.d (sD h (fun hb12 h => ?_) (fun hb12 h => ?_))))
 refine .d (.d (bk h fun x13 hx14 h => ⟨idx_bd hx14, _, (idx_row hx14).trans (TEntry.cells_eq x13), ⟨rfl, _, fun _ => [.bool x13.fKey.fText, .int .i64 x13.fKey.fNum, .str x13.fKey.fStr, .int .i64 x13.fVal.fKind, .int .i64 x13.fVal.fNum, .str x13.fVal.fStr, .int .i64 x13.fVal.fNext, sl 8 TEntry.cells x13.fVal.fItems], rfl, one_set rfl, (.d (.float [(0, true), (1, true), (2, true), (3, true), (4, true), (5, true), (6, true), (7, true), (8, true), (9, true), (10, true), (11, true), (12, true), (13, true), (14, true), (15, true), (16, true), (17, true), (18, false), (19, true), (20, true)] (by kernel_rfl) ?_))⟩⟩))
 refine ⟨rfl, ⟨rfl, _, rfl, ⟨rfl, ⟨rfl, _, rfl, (bk h fun x15 hx16 h => ⟨idx_bd hx16, _, (idx_row hx16).trans (TEntry.cells_eq x15), ⟨_, TKey.eq_cells x13.fKey x15.fKey, (sDn h (fun hb17 h => ?_) (fun hb17 h => ?_))⟩⟩)⟩⟩⟩⟩
 refine .t (.t (.t (.t (.t (.t (.t (.t (.t (.t (.t (.d ?_)))))))))))
 obtain rfl := si h
 replace h := hk7
 exact eB h
 refine ⟨rfl, (.f ⟨rfl, _, rfl, (.f ⟨rfl, (.f ⟨rfl, _, rfl, (.f (.f (bk h fun x18 hx19 h => ⟨idx_bd hx19, _, (idx_row hx19).trans (TEntry.cells_eq x18), (.f (.f (.f (bk h fun v20 hv21 h => ?_))))⟩)))⟩)⟩)⟩)⟩
 refine pcP (hG11 _ _ _ hv21) (.f (.f (sVn h (fun hb22 h => ?_) (fun hb22 h => ?_))))
 refine .d ?_
 obtain rfl := si h
 replace h := hk7
 exact eB h
 exact lg (ih9 _ _ _ _ h rfl rfl rfl) (tk [0] ⟨.p, .l, .i, .i, ⟨⟩⟩ ⟨(nbp rfl), ⟨⟩⟩)
 exact ct ⟨si h, rfl, rfl⟩ (tk [] ⟨⟩ ⟨⟩)
 rintro _ _ ⟨rfl, rfl, rfl⟩
 replace h := hk7
 exact .d (eB h)
 intro F0 F1 hF0 hF1 a0 a1 y8 o h
 exact .mk F0 hF0 F1 hF1 a0 a1 y8 o h
theorem ok_i_Identical {a0 : TValue} {a1 : TValue} {r : Bool} (h : m_i_Identical a0 a1 = some r) : ACall Tryz.prog 123 [.agg a0.lit, .agg a1.lit] [] (fun res h => res = .bool r ∧ h = []) := grp__i_Identical.1 a0 a1 r h
mutual
def m_s_Identical (a0 : TValue) (a1 : TValue) : Option (Bool) :=
 (if a0.fKind = a1.fKind then
 (if a0.fNum = a1.fNum then
 (if a0.fStr = a1.fStr then
 (if (a0.fItems.length : Int) = (a1.fItems.length : Int) then
 ((
 m_s_Identical_L2 a0 a1 0
 : Option ((Unit) ⊕ Bool)) >>= fun o5 => match o5 with
 | .inr r => some r
 | .inl _ =>
 some true
 )
 else
 some false)
 else
 some false)
 else
 some false)
 else
 some false)
partial_fixpoint
def m_s_Identical_L2 (a0 : TValue) (a1 : TValue) (y8 : Int) : Option ((Unit) ⊕ Bool) :=
 (if y8 < (a0.fItems.length : Int) then
 idx a0.fItems y8 >>= fun x13 =>
 idx a1.fItems y8 >>= fun x15 =>
 (if x13.fKey = x15.fKey then
 idx a0.fItems y8 >>= fun x18 =>
 idx a1.fItems y8 >>= fun x20 =>
 m_s_Identical x18.fVal x20.fVal >>= fun v22 =>
 (if v22 = true then
 m_s_Identical_L2 a0 a1 (W64 (y8 + 1))
 else
 some (.inr false))
 else
 some (.inr false))
 else
 some (.inl ()))
partial_fixpoint
end
def okS100 (a0 : TValue) (a1 : TValue) (r : Bool) : Prop := ACall Tryz.prog 100 [.agg a0.lit, .agg a1.lit] [] (fun res h => res = .bool r ∧ h = [])
inductive m_s_Identical_L2_I : TValue → TValue → Int → ((Unit) ⊕ Bool) → Prop
 | mk (G100 : TValue → TValue → Option (Bool)) (hG100 : ∀ a0 a1 r, G100 a0 a1 = some r → okS100 a0 a1 r) (F_m_s_Identical_L2 : TValue → TValue → Int → Option ((Unit) ⊕ Bool)) (hF_m_s_Identical_L2 : ∀ a0 a1 y8 o, F_m_s_Identical_L2 a0 a1 y8 = some o → m_s_Identical_L2_I a0 a1 y8 o) (a0 : TValue) (a1 : TValue) (y8 : Int) (o : (Unit) ⊕ Bool) (h : (
 (if y8 < (a0.fItems.length : Int) then
 idx a0.fItems y8 >>= fun x13 =>
 idx a1.fItems y8 >>= fun x15 =>
 (if x13.fKey = x15.fKey then
 idx a0.fItems y8 >>= fun x18 =>
 idx a1.fItems y8 >>= fun x20 =>
 G100 x18.fVal x20.fVal >>= fun v22 =>
 (if v22 = true then
 F_m_s_Identical_L2 a0 a1 (W64 (y8 + 1))
 else
 some (.inr false))
 else
 some (.inr false))
 else
 some (.inl ()))
 ) = some o) : m_s_Identical_L2_I a0 a1 y8 o
theorem m_s_Identical_L2_ind {motive : TValue → TValue → Int → ((Unit) ⊕ Bool) → Prop} (step : ∀ (G100 : TValue → TValue → Option (Bool)) (hG100 : ∀ a0 a1 r, G100 a0 a1 = some r → okS100 a0 a1 r) (F_m_s_Identical_L2 : TValue → TValue → Int → Option ((Unit) ⊕ Bool)) (hF_m_s_Identical_L2 : ∀ a0 a1 y8 o, F_m_s_Identical_L2 a0 a1 y8 = some o → m_s_Identical_L2_I a0 a1 y8 o) (a0 : TValue) (a1 : TValue) (y8 : Int) (o : (Unit) ⊕ Bool) (h : (
 (if y8 < (a0.fItems.length : Int) then
 idx a0.fItems y8 >>= fun x13 =>
 idx a1.fItems y8 >>= fun x15 =>
 (if x13.fKey = x15.fKey then
 idx a0.fItems y8 >>= fun x18 =>
 idx a1.fItems y8 >>= fun x20 =>
 G100 x18.fVal x20.fVal >>= fun v22 =>
 (if v22 = true then
 F_m_s_Identical_L2 a0 a1 (W64 (y8 + 1))
 else
 some (.inr false))
 else
 some (.inr false))
 else
 some (.inl ()))
 ) = some o) (ih : ∀ a0 a1 y8 o, F_m_s_Identical_L2 a0 a1 y8 = some o → motive a0 a1 y8 o), motive a0 a1 y8 o) : ∀ a0 a1 y8 o, m_s_Identical_L2_I a0 a1 y8 o → motive a0 a1 y8 o :=
 fun a0 a1 y8 o h => m_s_Identical_L2_I.rec (motive := fun a0 a1 y8 o _ => motive a0 a1 y8 o) step h
theorem grp__s_Identical : (∀ a0 a1 r, m_s_Identical a0 a1 = some r → okS100 a0 a1 r) ∧ (∀ a0 a1 y8 o, m_s_Identical_L2 a0 a1 y8 = some o → m_s_Identical_L2_I a0 a1 y8 o) := by
 refine m_s_Identical.mutual_partial_correctness okS100 m_s_Identical_L2_I ?_ ?_
 intro _ hI30 a0 a1 r h
 refine vc1 Tryz.func100 ?_
 refine .d (.d (.d ⟨rfl, ⟨rfl, _, rfl, ⟨rfl, ⟨rfl, _, rfl, (sN h (fun hb1 h => ?_) (fun hb1 h => ?_))⟩⟩⟩⟩))
 refine .t (.t (.t (.t (.t (.t (.t (.t (.t (.t (.t (.t (.t (.t (.t ?_))))))))))))))
 exact .t (.t (.t (.t (.t (.d (eB h))))))
 refine ⟨rfl, (.f ⟨rfl, _, rfl, (.f ⟨rfl, (.f ⟨rfl, _, rfl, (.f (.f (sN h (fun hb2 h => ?_) (fun hb2 h => ?_))))⟩)⟩)⟩)⟩
 refine .t (.t (.t (.t (.t (.t (.t (.t (.t (.t (.t (.t (.t (.t (.d ?_))))))))))))))
 exact eB h
 refine ⟨rfl, (.f ⟨rfl, _, rfl, (.f ⟨rfl, (.f ⟨rfl, _, rfl, (.f (.f (sEn h (fun hb3 h => ?_) (fun hb3 h => ?_))))⟩)⟩)⟩)⟩
 exact .t (.t (.t (.t (.t (.t (.t (.t (.d (eB h)))))))))
 refine ⟨rfl, (.f ⟨rfl, _, rfl, (.f (.f ⟨rfl, (.f ⟨rfl, _, rfl, (.f (.f (.f (sN h (fun hb4 h => ?_) (fun hb4 h => ?_)))))⟩)⟩))⟩)⟩
 exact .d (eB h)
 obtain ⟨o5, ho6, hk7⟩ := bd h
 replace h := ho6
 refine .cut (fun σ η => .inl () = o5 ∧ σ = [] ∧ η = []) ?_ ?_
 refine .d ?_
 have hL29 := hI30 _ _ _ _ h
 refine le (m_s_Identical_L2_ind (motive := fun p27 p28 y8 o25 => a0 = p27 → a1 = p28 → o5 = o25 → LoopAt _ _ [(2, .optr 0 0 0 0), (3, .optr 1 0 0 0), (5, .int .i64 y8)] [.row 0 5 1 74 (fun _ => a0.lit), .row 0 5 1 74 (fun _ => a1.lit)]) ?_ a0 a1 0 o5 hL29 rfl rfl rfl) (tk [0, 1] ⟨.p, .p, .i, ⟨⟩⟩ ⟨(nbp rfl), (nbp rfl), ⟨⟩⟩)
 intro _ hG11 _ _ p27 p28 y8 o25 h ih9  hp_p27 hp_p28 hr26
 subst hp_p27
 subst hp_p28
 subst hr26
 refine LoopAt.round (.d (.d ⟨rfl, ⟨rfl, _, rfl, (sD h (fun hb12 h => ?_) (fun hb12 h => ?_))⟩⟩))
 refine .d (.d (.float [(0, true), (1, true), (2, true), (3, true), (4, true), (5, true), (6, true), (7, true), (8, true), (9, true), (10, true), (11, true), (12, true), (13, true), (14, true), (15, true), (16, true), (17, true), (18, true), (19, true), (20, true), (21, true), (22, true), (23, true), (24, true), (25, true), (26, false), (27, true), (28, true)] (by kernel_rfl) ?_))
 refine ⟨rfl, ⟨rfl, _, rfl, (bk h fun x13 hx14 h => ⟨idx_bd hx14, _, (idx_row hx14).trans (TEntry.cells_eq x13), ⟨rfl, ⟨rfl, _, rfl, (bk h fun x15 hx16 h => ⟨idx_bd hx16, _, (idx_row hx16).trans (TEntry.cells_eq x15), ⟨_, TKey.eq_cells x13.fKey x15.fKey, (sDn h (fun hb17 h => ?_) (fun hb17 h => ?_))⟩⟩)⟩⟩⟩)⟩⟩
 refine .t (.t (.t (.t (.t (.t (.t (.t (.t (.t (.t (.t (.t (.t (.t ?_))))))))))))))
 refine .d ?_
 obtain rfl := si h
 replace h := hk7
 exact eB h
 refine ⟨rfl, (.f ⟨rfl, _, rfl, (.f (.f (bk h fun x18 hx19 h => ⟨idx_bd hx19, _, (idx_row hx19).trans (TEntry.cells_eq x18), (.f (.f (.f ⟨rfl, (.f ⟨rfl, _, rfl, (.f (.f ?_))⟩)⟩)))⟩)))⟩)⟩
 refine bk h fun x20 hx21 h => ⟨idx_bd hx21, _, (idx_row hx21).trans (TEntry.cells_eq x20), (.f (.f (.f (bk h fun v22 hv23 h => (pcP (hG11 _ _ _ hv23) (.f (.f (sVn h (fun hb24 h => ?_) (fun hb24 h => ?_)))))))))⟩
 refine .d ?_
 obtain rfl := si h
 replace h := hk7
 exact eB h
 exact lg (ih9 _ _ _ _ h rfl rfl rfl) (tk [0, 1] ⟨.p, .p, .i, ⟨⟩⟩ ⟨(nbp rfl), (nbp rfl), ⟨⟩⟩)
 exact ct ⟨si h, rfl, rfl⟩ (tk [] ⟨⟩ ⟨⟩)
 rintro _ _ ⟨rfl, rfl, rfl⟩
 replace h := hk7
 exact .d (eB h)
 intro F0 F1 hF0 hF1 a0 a1 y8 o h
 exact .mk F0 hF0 F1 hF1 a0 a1 y8 o h
theorem ok_s_Identical {a0 : TValue} {a1 : TValue} {r : Bool} (h : m_s_Identical a0 a1 = some r) : ACall Tryz.prog 100 [.agg a0.lit, .agg a1.lit] [] (fun res h => res = .bool r ∧ h = []) := grp__s_Identical.1 a0 a1 r h
def m_i_Relation (a0 : Int) (a1 : Int) : Option (Bool) :=
 (if a0 = 7 then
 some (a1 == 0)
 else
 (if a0 = 8 then
 some (a1 != 0)
 else
 (if a0 = 11 then
 some (a1 == (-1))
 else
 (if a0 = 12 then
 (if a1 = (-1) then
 some true
 else
 some (a1 == 0))
 else
 (if a0 = 13 then
 some (a1 == 1)
 else
 (if a0 = 14 then
 (if a1 = 1 then
 some true
 else
 some (a1 == 0))
 else
 some false))))))
theorem ok_i_Relation {a0 : Int} {a1 : Int} {r : Bool} (h : m_i_Relation a0 a1 = some r) : ACall Tryz.prog 124 [.int .i64 a0, .int .i64 a1] [] (fun res h => res = .bool r ∧ h = []) := by
 refine vc1 Tryz.func124 ?_
 unfold m_i_Relation at h
 refine .d (.d (.d (.d (sE h (fun hb1 h => ?_) (fun hb1 h => ?_)))))
 exact .d (eB h)
 refine .d (sE h (fun hb2 h => ?_) (fun hb2 h => ?_))
 exact .d (eB h)
 refine .d (sE h (fun hb3 h => ?_) (fun hb3 h => ?_))
 exact .d (eB h)
 refine .d (sE h (fun hb4 h => ?_) (fun hb4 h => ?_))
 refine .d (sE h (fun hb5 h => ?_) (fun hb5 h => ?_))
 exact .t (.t (eB h))
 exact .f (.f (eB h))
 refine .d (sE h (fun hb6 h => ?_) (fun hb6 h => ?_))
 exact .d (eB h)
 refine .d (sE h (fun hb7 h => ?_) (fun hb7 h => ?_))
 refine .d (sE h (fun hb8 h => ?_) (fun hb8 h => ?_))
 exact .t (.t (eB h))
 exact .f (.f (eB h))
 exact .d (eB h)
def m_s_Relation (a0 : Int) (a1 : Int) : Option (Bool) :=
 (if a0 = 7 then
 some (a1 == 0)
 else
 (if a0 = 8 then
 some (a1 != 0)
 else
 (if a0 = 11 then
 some (a1 == (-1))
 else
 (if a0 = 12 then
 (if a1 = (-1) then
 some true
 else
 some (a1 == 0))
 else
 (if a0 = 13 then
 some (a1 == 1)
 else
 (if a0 = 14 then
 (if a1 = 1 then
 some true
 else
 some (a1 == 0))
 else
 some false))))))
theorem ok_s_Relation {a0 : Int} {a1 : Int} {r : Bool} (h : m_s_Relation a0 a1 = some r) : ACall Tryz.prog 102 [.int .i64 a0, .int .i64 a1] [] (fun res h => res = .bool r ∧ h = []) := by
 refine vc1 Tryz.func102 ?_
 unfold m_s_Relation at h
 refine .d (.d (.d (.d (sE h (fun hb1 h => ?_) (fun hb1 h => ?_)))))
 exact .d (eB h)
 refine .d (sE h (fun hb2 h => ?_) (fun hb2 h => ?_))
 exact .d (eB h)
 refine .d (sE h (fun hb3 h => ?_) (fun hb3 h => ?_))
 exact .d (eB h)
 refine .d (sE h (fun hb4 h => ?_) (fun hb4 h => ?_))
 refine .d (sE h (fun hb5 h => ?_) (fun hb5 h => ?_))
 exact .t (.t (eB h))
 exact .f (.f (eB h))
 refine .d (sE h (fun hb6 h => ?_) (fun hb6 h => ?_))
 exact .d (eB h)
 refine .d (sE h (fun hb7 h => ?_) (fun hb7 h => ?_))
 refine .d (sE h (fun hb8 h => ?_) (fun hb8 h => ?_))
 exact .t (.t (eB h))
 exact .f (.f (eB h))
 exact .d (eB h)
def m_i_Arith (a0 : Int) (a1 : Int) (a2 : Int) : Option (Int × Int) :=
 (if a0 < 1 then
 some (0, 2)
 else
 (if a0 > 5 then
 some (0, 2)
 else
 m_i_InRange a1 (-1000000000) 1000000000 >>= fun v3 =>
 (if v3 = true then
 m_i_InRange a2 (-1000000000) 1000000000 >>= fun v6 =>
 (if v6 = true then
 ((
 (if a2 = 0 then
 (if a0 = 4 then
 some (.inr (0, 4))
 else
 (if a0 = 5 then
 some (.inr (0, 4))
 else
 some (.inl ())))
 else
 some (.inl ()))
 : Option ((Unit) ⊕ (Int × Int))) >>= fun o9 => match o9 with
 | .inr r => some r
 | .inl _ =>
 (if a0 = 1 then
 m_i_InRange (W64 (a1 + a2)) (-1000000000) 1000000000 >>= fun v16 =>
 (if v16 = true then
 some (W64 (a1 + a2), 0)
 else
 some (0, 3))
 else
 (if a0 = 2 then
 m_i_InRange (W64 (a1 - a2)) (-1000000000) 1000000000 >>= fun v20 =>
 (if v20 = true then
 some (W64 (a1 - a2), 0)
 else
 some (0, 3))
 else
 (if a0 = 3 then
 m_i_InRange (W64 (a1 * a2)) (-1000000000) 1000000000 >>= fun v24 =>
 (if v24 = true then
 some (W64 (a1 * a2), 0)
 else
 some (0, 3))
 else
 (if a0 = 4 then
 must (a2 ≠ 0) >>= fun _ =>
 m_i_InRange (W64 (a1.tdiv a2)) (-1000000000) 1000000000 >>= fun v29 =>
 (if v29 = true then
 some (W64 (a1.tdiv a2), 0)
 else
 some (0, 3))
 else
 (if a0 = 5 then
 must (a2 ≠ 0) >>= fun _ =>
 m_i_InRange (a1.tmod a2) (-1000000000) 1000000000 >>= fun v34 =>
 (if v34 = true then
 some (a1.tmod a2, 0)
 else
 some (0, 3))
 else
 m_i_InRange 0 (-1000000000) 1000000000 >>= fun v37 =>
 (if v37 = true then
 some (0, 0)
 else
 some (0, 3)))))))
 )
 else
 some (0, 3))
 else
 some (0, 3))))
theorem ok_i_Arith {a0 : Int} {a1 : Int} {a2 : Int} {r : Int × Int} (h : m_i_Arith a0 a1 a2 = some r) : ACall Tryz.prog 127 [.int .i64 a0, .int .i64 a1, .int .i64 a2] [] (fun res h => res = .tup [.int .i64 r.1, .int .i64 r.2] ∧ h = []) := by
 refine vc1 Tryz.func127 ?_
 unfold m_i_Arith at h
 refine .d (.d (.d (sD h (fun hb1 h => ?_) (fun hb1 h => ?_))))
 refine .t (.t (.t (.d ?_)))
 obtain rfl := si h
 exact en [] ⟨rfl, rfl⟩ (.tup_l ⟨.i, .i, ⟨⟩⟩) ⟨⟩
 refine .f (.f (sD h (fun hb2 h => ?_) (fun hb2 h => ?_)))
 refine .d ?_
 obtain rfl := si h
 exact en [] ⟨rfl, rfl⟩ (.tup_l ⟨.i, .i, ⟨⟩⟩) ⟨⟩
 refine .d (.d (bk h fun v3 hv4 h => (pcP (ok_i_InRange hv4) (sVn h (fun hb5 h => ?_) (fun hb5 h => ?_)))))
 refine .t (.t (.t (.t (.d ?_))))
 obtain rfl := si h
 exact en [] ⟨rfl, rfl⟩ (.tup_l ⟨.i, .i, ⟨⟩⟩) ⟨⟩
 refine .f (bk h fun v6 hv7 h => (pcP (ok_i_InRange hv7) (.f (.f (sVn h (fun hb8 h => ?_) (fun hb8 h => ?_))))))
 refine .d ?_
 obtain rfl := si h
 exact en [] ⟨rfl, rfl⟩ (.tup_l ⟨.i, .i, ⟨⟩⟩) ⟨⟩
 obtain ⟨o9, ho10, hk11⟩ := bd h
 replace h := ho10
 refine .cut (fun σ η => .inl () = o9 ∧ σ = [(0, .int .i64 a0), (1, .int .i64 a1), (2, .int .i64 a2)] ∧ η = []) ?_ ?_
 refine .d (sE h (fun hb12 h => ?_) (fun hb12 h => ?_))
 refine .t (.t (sE h (fun hb13 h => ?_) (fun hb13 h => ?_)))
 refine .t (.t (.t (.t (.t (.d ?_)))))
 obtain rfl := si h
 replace h := hk11
 obtain rfl := si h
 exact en [] ⟨rfl, rfl⟩ (.tup_l ⟨.i, .i, ⟨⟩⟩) ⟨⟩
 refine .f (.t (.f (.t (sE h (fun hb14 h => ?_) (fun hb14 h => ?_)))))
 refine .d ?_
 obtain rfl := si h
 replace h := hk11
 obtain rfl := si h
 exact en [] ⟨rfl, rfl⟩ (.tup_l ⟨.i, .i, ⟨⟩⟩) ⟨⟩
 exact ct ⟨si h, rfl, rfl⟩ (tk [] ⟨.i, .i, .i, ⟨⟩⟩ ⟨⟩)
 exact .f (.f (.f (.f (.f (ct ⟨si h, rfl, rfl⟩ (tk [] ⟨.i, .i, .i, ⟨⟩⟩ ⟨⟩))))))
 rintro _ _ ⟨rfl, rfl, rfl⟩
 replace h := hk11
 refine .d (.d (.d (.d (sE h (fun hb15 h => ?_) (fun hb15 h => ?_)))))
 refine .d (.d (bk h fun v16 hv17 h => (pcP (ok_i_InRange hv17) (sVn h (fun hb18 h => ?_) (fun hb18 h => ?_)))))
 refine .d ?_
 obtain rfl := si h
 exact en [] ⟨rfl, rfl⟩ (.tup_l ⟨.i, .i, ⟨⟩⟩) ⟨⟩
 refine .d ?_
 obtain rfl := si h
 exact en [] ⟨rfl, rfl⟩ (.tup_l ⟨.i, .i, ⟨⟩⟩) ⟨⟩
 refine .d (sE h (fun hb19 h => ?_) (fun hb19 h => ?_))
 refine .d (.d (bk h fun v20 hv21 h => (pcP (ok_i_InRange hv21) (sVn h (fun hb22 h => ?_) (fun hb22 h => ?_)))))
 refine .d ?_
 obtain rfl := si h
 exact en [] ⟨rfl, rfl⟩ (.tup_l ⟨.i, .i, ⟨⟩⟩) ⟨⟩
 refine .d ?_
 obtain rfl := si h
 exact en [] ⟨rfl, rfl⟩ (.tup_l ⟨.i, .i, ⟨⟩⟩) ⟨⟩
 refine .d (sE h (fun hb23 h => ?_) (fun hb23 h => ?_))
 refine .d (.d (bk h fun v24 hv25 h => (pcP (ok_i_InRange hv25) (sVn h (fun hb26 h => ?_) (fun hb26 h => ?_)))))
 refine .d ?_
 obtain rfl := si h
 exact en [] ⟨rfl, rfl⟩ (.tup_l ⟨.i, .i, ⟨⟩⟩) ⟨⟩
 refine .d ?_
 obtain rfl := si h
 exact en [] ⟨rfl, rfl⟩ (.tup_l ⟨.i, .i, ⟨⟩⟩) ⟨⟩
 refine .d (sE h (fun hb27 h => ?_) (fun hb27 h => ?_))
 obtain ⟨_, hm28, h⟩ := bd h
 refine ⟨must_some hm28, (.d (.d (bk h fun v29 hv30 h => (pcP (ok_i_InRange hv30) (sVn h (fun hb31 h => ?_) (fun hb31 h => ?_))))))⟩
 refine .d ?_
 obtain rfl := si h
 exact en [] ⟨rfl, rfl⟩ (.tup_l ⟨.i, .i, ⟨⟩⟩) ⟨⟩
 refine .d ?_
 obtain rfl := si h
 exact en [] ⟨rfl, rfl⟩ (.tup_l ⟨.i, .i, ⟨⟩⟩) ⟨⟩
 refine .d (sE h (fun hb32 h => ?_) (fun hb32 h => ?_))
 obtain ⟨_, hm33, h⟩ := bd h
 refine ⟨must_some hm33, (.d (.d (bk h fun v34 hv35 h => (pcP (ok_i_InRange hv35) (sVn h (fun hb36 h => ?_) (fun hb36 h => ?_))))))⟩
 refine .d ?_
 obtain rfl := si h
 exact en [] ⟨rfl, rfl⟩ (.tup_l ⟨.i, .i, ⟨⟩⟩) ⟨⟩
 refine .d ?_
 obtain rfl := si h
 exact en [] ⟨rfl, rfl⟩ (.tup_l ⟨.i, .i, ⟨⟩⟩) ⟨⟩
 refine .d (.d (bk h fun v37 hv38 h => (pcP (ok_i_InRange hv38) (sVn h (fun hb39 h => ?_) (fun hb39 h => ?_)))))
 refine .d ?_
 obtain rfl := si h
 exact en [] ⟨rfl, rfl⟩ (.tup_l ⟨.i, .i, ⟨⟩⟩) ⟨⟩
 refine .d ?_
 obtain rfl := si h
 exact en [] ⟨rfl, rfl⟩ (.tup_l ⟨.i, .i, ⟨⟩⟩) ⟨⟩
def m_s_Arith (a0 : Int) (a1 : Int) (a2 : Int) : Option (Int × Int) :=
 m_s_l1In a0 1 5 >>= fun v1 =>
 (if v1 = true then
 (
 m_s_l1In a1 (-1000000000) 1000000000 >>= fun v8 =>
 (if v8 = true then
 m_s_l1In a2 (-1000000000) 1000000000 >>= fun v11 =>
 some (!v11)
 else
 some true)
 : Option (Bool)) >>= fun b4 =>
 (if b4 = true then
 some (0, 3)
 else
 (
 (if a0 ≥ 4 then
 some (a2 == 0)
 else
 some false)
 : Option (Bool)) >>= fun b14 =>
 (if b14 = true then
 some (0, 4)
 else
 (if a0 = 1 then
 m_s_l1In (W64 (a1 + a2)) (-1000000000) 1000000000 >>= fun v21 =>
 (if v21 = true then
 some (W64 (a1 + a2), 0)
 else
 some (0, 3))
 else
 (if a0 = 2 then
 m_s_l1In (W64 (a1 - a2)) (-1000000000) 1000000000 >>= fun v25 =>
 (if v25 = true then
 some (W64 (a1 - a2), 0)
 else
 some (0, 3))
 else
 (if a0 = 3 then
 m_s_l1In (W64 (a1 * a2)) (-1000000000) 1000000000 >>= fun v29 =>
 (if v29 = true then
 some (W64 (a1 * a2), 0)
 else
 some (0, 3))
 else
 (if a0 = 4 then
 must (a2 ≠ 0) >>= fun _ =>
 m_s_l1In (W64 (a1.tdiv a2)) (-1000000000) 1000000000 >>= fun v34 =>
 (if v34 = true then
 some (W64 (a1.tdiv a2), 0)
 else
 some (0, 3))
 else
 must (a2 ≠ 0) >>= fun _ =>
 m_s_l1In (a1.tmod a2) (-1000000000) 1000000000 >>= fun v38 =>
 (if v38 = true then
 some (a1.tmod a2, 0)
 else
 some (0, 3))))))))
 else
 some (0, 2))
theorem ok_s_Arith {a0 : Int} {a1 : Int} {a2 : Int} {r : Int × Int} (h : m_s_Arith a0 a1 a2 = some r) : ACall Tryz.prog 104 [.int .i64 a0, .int .i64 a1, .int .i64 a2] [] (fun res h => res = .tup [.int .i64 r.1, .int .i64 r.2] ∧ h = []) := by
 refine vc1 Tryz.func104 ?_
 unfold m_s_Arith at h
 refine .d (.d (.d (.d (bk h fun v1 hv2 h => (pcP (ok_s_l1In hv2) (sVn h (fun hb3 h => ?_) (fun hb3 h => ?_)))))))
 refine .d ?_
 obtain rfl := si h
 exact en [] ⟨rfl, rfl⟩ (.tup_l ⟨.i, .i, ⟨⟩⟩) ⟨⟩
 obtain ⟨o5, ho6, hk7⟩ := bd h
 replace h := ho6
 refine .cut (fun σ η => ∃ b4, b4 = o5 ∧ σ = [(0, .int .i64 a0), (1, .int .i64 a1), (2, .int .i64 a2), (16, .bool b4)] ∧ η = []) ?_ ?_
 refine bk h fun v8 hv9 h => (pcP (ok_s_l1In hv9) (sVn h (fun hb10 h => ?_) (fun hb10 h => ?_)))
 exact .t (.t (.t (ct ⟨_, si h, rfl, rfl⟩ (tk [] ⟨.i, .i, .i, .b, ⟨⟩⟩ ⟨⟩))))
 exact .f (bk h fun v11 hv12 h => (pcP (ok_s_l1In hv12) (.f (.f (ct ⟨_, si h, rfl, rfl⟩ (tk [] ⟨.i, .i, .i, .b, ⟨⟩⟩ ⟨⟩))))))
 rintro _ _ ⟨b4, rfl, rfl, rfl⟩
 replace h := hk7
 refine sV h (fun hb13 h => ?_) (fun hb13 h => ?_)
 refine .d ?_
 obtain rfl := si h
 exact en [] ⟨rfl, rfl⟩ (.tup_l ⟨.i, .i, ⟨⟩⟩) ⟨⟩
 obtain ⟨o15, ho16, hk17⟩ := bd h
 replace h := ho16
 refine .cut (fun σ η => ∃ b14, b14 = o15 ∧ σ = [(0, .int .i64 a0), (1, .int .i64 a1), (2, .int .i64 a2), (25, .bool b14)] ∧ η = []) ?_ ?_
 refine sD h (fun hb18 h => ?_) (fun hb18 h => ?_)
 exact .t (.t (ct ⟨_, si h, rfl, rfl⟩ (tk [] ⟨.i, .i, .i, .b, ⟨⟩⟩ ⟨⟩)))
 exact .f (.f (ct ⟨_, si h, rfl, rfl⟩ (tk [] ⟨.i, .i, .i, .b, ⟨⟩⟩ ⟨⟩)))
 rintro _ _ ⟨b14, rfl, rfl, rfl⟩
 replace h := hk17
 refine sV h (fun hb19 h => ?_) (fun hb19 h => ?_)
 refine .d ?_
 obtain rfl := si h
 exact en [] ⟨rfl, rfl⟩ (.tup_l ⟨.i, .i, ⟨⟩⟩) ⟨⟩
 refine .d (sE h (fun hb20 h => ?_) (fun hb20 h => ?_))
 refine .d (.d (bk h fun v21 hv22 h => (pcP (ok_s_l1In hv22) (sVn h (fun hb23 h => ?_) (fun hb23 h => ?_)))))
 refine .d ?_
 obtain rfl := si h
 exact en [] ⟨rfl, rfl⟩ (.tup_l ⟨.i, .i, ⟨⟩⟩) ⟨⟩
 refine .d ?_
 obtain rfl := si h
 exact en [] ⟨rfl, rfl⟩ (.tup_l ⟨.i, .i, ⟨⟩⟩) ⟨⟩
 refine .d (sE h (fun hb24 h => ?_) (fun hb24 h => ?_))
 refine .d (.d (bk h fun v25 hv26 h => (pcP (ok_s_l1In hv26) (sVn h (fun hb27 h => ?_) (fun hb27 h => ?_)))))
 refine .d ?_
 obtain rfl := si h
 exact en [] ⟨rfl, rfl⟩ (.tup_l ⟨.i, .i, ⟨⟩⟩) ⟨⟩
 refine .d ?_
 obtain rfl := si h
 exact en [] ⟨rfl, rfl⟩ (.tup_l ⟨.i, .i, ⟨⟩⟩) ⟨⟩
 refine .d (sE h (fun hb28 h => ?_) (fun hb28 h => ?_))
 refine .d (.d (bk h fun v29 hv30 h => (pcP (ok_s_l1In hv30) (sVn h (fun hb31 h => ?_) (fun hb31 h => ?_)))))
 refine .d ?_
 obtain rfl := si h
 exact en [] ⟨rfl, rfl⟩ (.tup_l ⟨.i, .i, ⟨⟩⟩) ⟨⟩
 refine .d ?_
 obtain rfl := si h
 exact en [] ⟨rfl, rfl⟩ (.tup_l ⟨.i, .i, ⟨⟩⟩) ⟨⟩
 refine .d (sE h (fun hb32 h => ?_) (fun hb32 h => ?_))
 obtain ⟨_, hm33, h⟩ := bd h
 refine ⟨must_some hm33, (.d (.d (bk h fun v34 hv35 h => (pcP (ok_s_l1In hv35) (sVn h (fun hb36 h => ?_) (fun hb36 h => ?_))))))⟩
 refine .d ?_
 obtain rfl := si h
 exact en [] ⟨rfl, rfl⟩ (.tup_l ⟨.i, .i, ⟨⟩⟩) ⟨⟩
 refine .d ?_
 obtain rfl := si h
 exact en [] ⟨rfl, rfl⟩ (.tup_l ⟨.i, .i, ⟨⟩⟩) ⟨⟩
 obtain ⟨_, hm37, h⟩ := bd h
 refine ⟨must_some hm37, (.d (.d (bk h fun v38 hv39 h => (pcP (ok_s_l1In hv39) (sVn h (fun hb40 h => ?_) (fun hb40 h => ?_))))))⟩
 refine .d ?_
 obtain rfl := si h
 exact en [] ⟨rfl, rfl⟩ (.tup_l ⟨.i, .i, ⟨⟩⟩) ⟨⟩
 refine .d ?_
 obtain rfl := si h
 exact en [] ⟨rfl, rfl⟩ (.tup_l ⟨.i, .i, ⟨⟩⟩) ⟨⟩
end Go.Am
