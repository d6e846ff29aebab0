/- Models of Go functions, and their walks. (Printed by tools/mg.py.) -/
import Derived.Test.YtgkniabpdgaoiaaDoorB1
import Derived.Test.YtgkniabpdgaoiaaDoorL2
set_option linter.unusedVariables false
set_option linter.unusedSimpArgs false
set_option maxRecDepth 100000
namespace Go.Am
open Go Go.RowKit Go.Proofs
mutual
def m_i_CompareValues (a0 : TValue) (a1 : TValue) : Option (Int) :=
 (
 (if a0.fKind = 0 then
 some (a1.fKind == 3)
 else
 some false)
 : Option (Bool)) >>= fun b1 =>
 (if b1 = true then
 m_Compare [] a1.fStr >>= fun v7 =>
 some v7
 else
 (
 (if a0.fKind = 3 then
 some (a1.fKind == 0)
 else
 some false)
 : Option (Bool)) >>= fun b9 =>
 (if b9 = true then
 m_Compare a0.fStr [] >>= fun v15 =>
 some v15
 else
 (if a0.fKind = 0 then
 m_i_ToBool a0 >>= fun v18 =>
 m_i_boolNum v18 >>= fun v20 =>
 m_i_ToBool a1 >>= fun v22 =>
 m_i_boolNum v22 >>= fun v24 =>
 m_i_orderOf v20 v24 >>= fun v26 =>
 some v26
 else
 (if a0.fKind = 1 then
 m_i_ToBool a0 >>= fun v29 =>
 m_i_boolNum v29 >>= fun v31 =>
 m_i_ToBool a1 >>= fun v33 =>
 m_i_boolNum v33 >>= fun v35 =>
 m_i_orderOf v31 v35 >>= fun v37 =>
 some v37
 else
 (if a1.fKind = 0 then
 m_i_ToBool a0 >>= fun v40 =>
 m_i_boolNum v40 >>= fun v42 =>
 m_i_ToBool a1 >>= fun v44 =>
 m_i_boolNum v44 >>= fun v46 =>
 m_i_orderOf v42 v46 >>= fun v48 =>
 some v48
 else
 (if a1.fKind = 1 then
 m_i_ToBool a0 >>= fun v51 =>
 m_i_boolNum v51 >>= fun v53 =>
 m_i_ToBool a1 >>= fun v55 =>
 m_i_boolNum v55 >>= fun v57 =>
 m_i_orderOf v53 v57 >>= fun v59 =>
 some v59
 else
 m_i_ToNumber a0 >>= fun (v61, v62) =>
 m_i_ToNumber a1 >>= fun (v64, v65) =>
 ((
 (if v62 = 0 then
 (if v65 = 0 then
 m_i_orderOf v61 v64 >>= fun v72 =>
 some (.inr v72)
 else
 some (.inl ()))
 else
 some (.inl ()))
 : Option ((Unit) ⊕ Int)) >>= fun o67 => match o67 with
 | .inr r => some r
 | .inl _ =>
 (
 m_i_isScalarText a0 >>= fun v78 =>
 (if v78 = true then
 m_i_isScalarText a1 >>= fun v81 =>
 some v81
 else
 some false)
 : Option (Bool)) >>= fun b74 =>
 (if b74 = true then
 m_i_ToText a0 >>= fun (v84, v85) =>
 m_i_ToText a1 >>= fun (v87, v88) =>
 m_Compare v84 v87 >>= fun v90 =>
 some v90
 else
 (
 (if a0.fKind = 4 then
 some (a1.fKind == 4)
 else
 some false)
 : Option (Bool)) >>= fun b92 =>
 (if b92 = true then
 m_i_compareArrays a0 a1 >>= fun v98 =>
 some v98
 else
 (if a0.fKind = 4 then
 some 1
 else
 (if a1.fKind = 4 then
 some (-1)
 else
 (if a0.fKind = a1.fKind then
 (if a0.fNum = a1.fNum then
 some 0
 else
 some 2)
 else
 some 2)))))
 )))))))
partial_fixpoint
def m_i_compareArrays (a0 : TValue) (a1 : TValue) : Option (Int) :=
 (if (a0.fItems.length : Int) = (a1.fItems.length : Int) then
 ((
 m_i_compareArrays_L2 a0 a1 0
 : Option ((Unit) ⊕ Int)) >>= fun o107 => match o107 with
 | .inr r => some r
 | .inl _ =>
 some 0
 )
 else
 m_i_orderOf (a0.fItems.length : Int) (a1.fItems.length : Int) >>= fun v105 =>
 some v105)
partial_fixpoint
def m_i_compareArrays_L2 (a0 : TValue) (a1 : TValue) (y110 : Int) : Option ((Unit) ⊕ Int) :=
 (if y110 < (a0.fItems.length : Int) then
 idx a0.fItems y110 >>= fun x116 =>
 m27 a1 x116.fKey >>= fun v118 =>
 (if v118 < 0 then
 some (.inr 2)
 else
 idx a1.fItems v118 >>= fun x121 =>
 m_i_CompareValues x116.fVal x121.fVal >>= fun v123 =>
 (if v123 = 0 then
 m_i_compareArrays_L2 a0 a1 (W64 (y110 + 1))
 else
 some (.inr v123)))
 else
 some (.inl ()))
partial_fixpoint
end
def okS17 (a0 : TValue) (a1 : TValue) (r : Int) : Prop := ACall Tryd.prog 17 [.agg a0.lit, .agg a1.lit] [] (fun res h => res = .int .i64 r ∧ h = [])
def okS42 (a0 : TValue) (a1 : TValue) (r : Int) : Prop := ACall Tryd.prog 42 [.agg a0.lit, .agg a1.lit] [] (fun res h => res = .int .i64 r ∧ h = [])
inductive m_i_compareArrays_L2_I : TValue → TValue → Int → ((Unit) ⊕ Int) → Prop
 | mk (G17 : TValue → TValue → Option (Int)) (hG17 : ∀ a0 a1 r, G17 a0 a1 = some r → okS17 a0 a1 r) (F_m_i_compareArrays_L2 : TValue → TValue → Int → Option ((Unit) ⊕ Int)) (hF_m_i_compareArrays_L2 : ∀ a0 a1 y110 o, F_m_i_compareArrays_L2 a0 a1 y110 = some o → m_i_compareArrays_L2_I a0 a1 y110 o) (a0 : TValue) (a1 : TValue) (y110 : Int) (o : (Unit) ⊕ Int) (h : (
 (if y110 < (a0.fItems.length : Int) then
 idx a0.fItems y110 >>= fun x116 =>
 m27 a1 x116.fKey >>= fun v118 =>
 (if v118 < 0 then
 some (.inr 2)
 else
 idx a1.fItems v118 >>= fun x121 =>
 G17 x116.fVal x121.fVal >>= fun v123 =>
 (if v123 = 0 then
 F_m_i_compareArrays_L2 a0 a1 (W64 (y110 + 1))
 else
 some (.inr v123)))
 else
 some (.inl ()))
 ) = some o) : m_i_compareArrays_L2_I a0 a1 y110 o
theorem m_i_compareArrays_L2_ind {motive : TValue → TValue → Int → ((Unit) ⊕ Int) → Prop} (step : ∀ (G17 : TValue → TValue → Option (Int)) (hG17 : ∀ a0 a1 r, G17 a0 a1 = some r → okS17 a0 a1 r) (F_m_i_compareArrays_L2 : TValue → TValue → Int → Option ((Unit) ⊕ Int)) (hF_m_i_compareArrays_L2 : ∀ a0 a1 y110 o, F_m_i_compareArrays_L2 a0 a1 y110 = some o → m_i_compareArrays_L2_I a0 a1 y110 o) (a0 : TValue) (a1 : TValue) (y110 : Int) (o : (Unit) ⊕ Int) (h : (
 (if y110 < (a0.fItems.length : Int) then
 idx a0.fItems y110 >>= fun x116 =>
 m27 a1 x116.fKey >>= fun v118 =>
 (if v118 < 0 then
 some (.inr 2)
 else
 idx a1.fItems v118 >>= fun x121 =>
 G17 x116.fVal x121.fVal >>= fun v123 =>
 (if v123 = 0 then
 F_m_i_compareArrays_L2 a0 a1 (W64 (y110 + 1))
 else
 some (.inr v123)))
 else
 some (.inl ()))
 ) = some o) (ih : ∀ a0 a1 y110 o, F_m_i_compareArrays_L2 a0 a1 y110 = some o → motive a0 a1 y110 o), motive a0 a1 y110 o) : ∀ a0 a1 y110 o, m_i_compareArrays_L2_I a0 a1 y110 o → motive a0 a1 y110 o :=
 fun a0 a1 y110 o h => m_i_compareArrays_L2_I.rec (motive := fun a0 a1 y110 o _ => motive a0 a1 y110 o) step h
theorem grp__i_CompareValues : (∀ a0 a1 r, m_i_CompareValues a0 a1 = some r → okS17 a0 a1 r) ∧ (∀ a0 a1 r, m_i_compareArrays a0 a1 = some r → okS42 a0 a1 r) ∧ (∀ a0 a1 y110 o, m_i_compareArrays_L2 a0 a1 y110 = some o → m_i_compareArrays_L2_I a0 a1 y110 o) := by
 refine m_i_CompareValues.mutual_partial_correctness okS17 okS42 m_i_compareArrays_L2_I ?_ ?_ ?_
 intro _ ihf42 a0 a1 r h
 refine vc1 Tryd.func17 ?_
 refine .d (.d ?_)
 obtain ⟨o2, ho3, hk4⟩ := bd h
 replace h := ho3
 refine .cut (fun σ η => ∃ b1, b1 = o2 ∧ σ = [(2, .optr 0 0 0 0), (3, .optr 1 0 0 0), (13, .bool b1)] ∧ η = [.row 0 5 1 29 (fun _ => a0.lit), .row 0 5 1 29 (fun _ => a1.lit)]) ?_ ?_
 refine ⟨rfl, ⟨rfl, _, rfl, (sE h (fun hb5 h => ?_) (fun hb5 h => ?_))⟩⟩
 exact ⟨rfl, (.t ⟨rfl, _, rfl, (.t (.t (ct ⟨_, si h, rfl, rfl⟩ (tk [0, 1] ⟨.p, .p, .b, ⟨⟩⟩ ⟨(nbp rfl), (nbp rfl), ⟨⟩⟩))))⟩)⟩
 exact .f (.f (.f (ct ⟨_, si h, rfl, rfl⟩ (tk [0, 1] ⟨.p, .p, .b, ⟨⟩⟩ ⟨(nbp rfl), (nbp rfl), ⟨⟩⟩))))
 rintro _ _ ⟨b1, rfl, rfl, rfl⟩
 replace h := hk4
 refine sV h (fun hb6 h => ?_) (fun hb6 h => ?_)
 exact .d ⟨rfl, ⟨rfl, _, rfl, (bk h fun v7 hv8 h => (pcP (ok_Compare hv8) (eI h)))⟩⟩
 obtain ⟨o10, ho11, hk12⟩ := bd h
 replace h := ho11
 refine .cut (fun σ η => ∃ b9, b9 = o10 ∧ σ = [(2, .optr 0 0 0 0), (3, .optr 1 0 0 0), (25, .bool b9)] ∧ η = [.row 0 5 1 29 (fun _ => a0.lit), .row 0 5 1 29 (fun _ => a1.lit)]) ?_ ?_
 refine ⟨rfl, ⟨rfl, _, rfl, (sE h (fun hb13 h => ?_) (fun hb13 h => ?_))⟩⟩
 exact ⟨rfl, (.t ⟨rfl, _, rfl, (.t (.t (ct ⟨_, si h, rfl, rfl⟩ (tk [0, 1] ⟨.p, .p, .b, ⟨⟩⟩ ⟨(nbp rfl), (nbp rfl), ⟨⟩⟩))))⟩)⟩
 exact .f (.f (.f (ct ⟨_, si h, rfl, rfl⟩ (tk [0, 1] ⟨.p, .p, .b, ⟨⟩⟩ ⟨(nbp rfl), (nbp rfl), ⟨⟩⟩))))
 rintro _ _ ⟨b9, rfl, rfl, rfl⟩
 replace h := hk12
 refine sV h (fun hb14 h => ?_) (fun hb14 h => ?_)
 exact .d ⟨rfl, ⟨rfl, _, rfl, (bk h fun v15 hv16 h => (pcP (ok_Compare hv16) (eI h)))⟩⟩
 refine .d ⟨rfl, ⟨rfl, _, rfl, (sE h (fun hb17 h => ?_) (fun hb17 h => ?_))⟩⟩
 refine .t (.t (.t (.t (.t (.t (.t (.t (.t (.t (.t (.t (.d (.float [(0, true), (3, true), (1, false), (2, false), (4, false), (5, false), (6, false), (7, true)] (by kernel_rfl) ?_)))))))))))))
 exact ⟨rfl, _, rfl, ⟨rfl, _, rfl, (bk h fun v18 hv19 h => (pcP (ok_i_ToBool hv19) ⟨rfl, (bk h fun v20 hv21 h => (pcP (ok_i_boolNum hv21) ⟨rfl, (bk h fun v22 hv23 h => (pcP (ok_i_ToBool hv23) (bk h fun v24 hv25 h => (pcP (ok_i_boolNum hv25) (bk h fun v26 hv27 h => (pcP (ok_i_orderOf hv27) (eI h)))))))⟩))⟩))⟩⟩
 refine ⟨rfl, (.f ⟨rfl, _, rfl, (.f (.f (sE h (fun hb28 h => ?_) (fun hb28 h => ?_))))⟩)⟩
 refine .t (.t (.t (.t (.t (.t (.t (.t (.d (.float [(0, true), (3, true), (1, false), (2, false), (4, false), (5, false), (6, false), (7, true)] (by kernel_rfl) ?_)))))))))
 exact ⟨rfl, _, rfl, ⟨rfl, _, rfl, (bk h fun v29 hv30 h => (pcP (ok_i_ToBool hv30) ⟨rfl, (bk h fun v31 hv32 h => (pcP (ok_i_boolNum hv32) ⟨rfl, (bk h fun v33 hv34 h => (pcP (ok_i_ToBool hv34) (bk h fun v35 hv36 h => (pcP (ok_i_boolNum hv36) (bk h fun v37 hv38 h => (pcP (ok_i_orderOf hv38) (eI h)))))))⟩))⟩))⟩⟩
 refine ⟨rfl, (.f ⟨rfl, _, rfl, (.f (.f (sE h (fun hb39 h => ?_) (fun hb39 h => ?_))))⟩)⟩
 refine .t (.t (.t (.t (.d (.float [(0, true), (3, true), (1, false), (2, false), (4, false), (5, false), (6, false), (7, true)] (by kernel_rfl) ?_)))))
 exact ⟨rfl, _, rfl, ⟨rfl, _, rfl, (bk h fun v40 hv41 h => (pcP (ok_i_ToBool hv41) ⟨rfl, (bk h fun v42 hv43 h => (pcP (ok_i_boolNum hv43) ⟨rfl, (bk h fun v44 hv45 h => (pcP (ok_i_ToBool hv45) (bk h fun v46 hv47 h => (pcP (ok_i_boolNum hv47) (bk h fun v48 hv49 h => (pcP (ok_i_orderOf hv49) (eI h)))))))⟩))⟩))⟩⟩
 refine ⟨rfl, (.f ⟨rfl, _, rfl, (.f (.f (sE h (fun hb50 h => ?_) (fun hb50 h => ?_))))⟩)⟩
 refine .d (.float [(0, true), (3, true), (1, false), (2, false), (4, false), (5, false), (6, false), (7, true)] (by kernel_rfl) ?_)
 exact ⟨rfl, _, rfl, ⟨rfl, _, rfl, (bk h fun v51 hv52 h => (pcP (ok_i_ToBool hv52) ⟨rfl, (bk h fun v53 hv54 h => (pcP (ok_i_boolNum hv54) ⟨rfl, (bk h fun v55 hv56 h => (pcP (ok_i_ToBool hv56) (bk h fun v57 hv58 h => (pcP (ok_i_boolNum hv58) (bk h fun v59 hv60 h => (pcP (ok_i_orderOf hv60) (eI h)))))))⟩))⟩))⟩⟩
 refine .d ⟨rfl, _, rfl, ?_⟩
 obtain ⟨⟨v61, v62⟩, hv63, h⟩ := bd h
 refine pcP (ok_i_ToNumber hv63) (.d ⟨rfl, _, rfl, ?_⟩)
 obtain ⟨⟨v64, v65⟩, hv66, h⟩ := bd h
 refine pcP (ok_i_ToNumber hv66) ?_
 obtain ⟨o67, ho68, hk69⟩ := bd h
 replace h := ho68
 refine .cut (fun σ η => .inl () = o67 ∧ σ = [(2, .optr 0 0 0 0), (3, .optr 1 0 0 0)] ∧ η = [.row 0 5 1 29 (fun _ => a0.lit), .row 0 5 1 29 (fun _ => a1.lit)]) ?_ ?_
 refine .d (sE h (fun hb70 h => ?_) (fun hb70 h => ?_))
 refine .t (.t (sE h (fun hb71 h => ?_) (fun hb71 h => ?_)))
 refine .d (bk h fun v72 hv73 h => (pcP (ok_i_orderOf hv73) ?_))
 obtain rfl := si h
 replace h := hk69
 exact eI h
 exact ct ⟨si h, rfl, rfl⟩ (tk [0, 1] ⟨.p, .p, ⟨⟩⟩ ⟨(nbp rfl), (nbp rfl), ⟨⟩⟩)
 exact .f (.f (.f (ct ⟨si h, rfl, rfl⟩ (tk [0, 1] ⟨.p, .p, ⟨⟩⟩ ⟨(nbp rfl), (nbp rfl), ⟨⟩⟩))))
 rintro _ _ ⟨rfl, rfl, rfl⟩
 replace h := hk69
 refine .d ?_
 obtain ⟨o75, ho76, hk77⟩ := bd h
 replace h := ho76
 refine .cut (fun σ η => ∃ b74, b74 = o75 ∧ σ = [(2, .optr 0 0 0 0), (3, .optr 1 0 0 0), (87, .bool b74)] ∧ η = [.row 0 5 1 29 (fun _ => a0.lit), .row 0 5 1 29 (fun _ => a1.lit)]) ?_ ?_
 refine ⟨rfl, _, rfl, (bk h fun v78 hv79 h => (pcP (ok_i_isScalarText hv79) (sV h (fun hb80 h => ?_) (fun hb80 h => ?_))))⟩
 exact ⟨rfl, _, rfl, (.t (bk h fun v81 hv82 h => (pcP (ok_i_isScalarText hv82) (.t (ct ⟨_, si h, rfl, rfl⟩ (tk [0, 1] ⟨.p, .p, .b, ⟨⟩⟩ ⟨(nbp rfl), (nbp rfl), ⟨⟩⟩))))))⟩
 exact .f (.f (ct ⟨_, si h, rfl, rfl⟩ (tk [0, 1] ⟨.p, .p, .b, ⟨⟩⟩ ⟨(nbp rfl), (nbp rfl), ⟨⟩⟩)))
 rintro _ _ ⟨b74, rfl, rfl, rfl⟩
 replace h := hk77
 refine sV h (fun hb83 h => ?_) (fun hb83 h => ?_)
 refine .d ⟨rfl, _, rfl, ?_⟩
 obtain ⟨⟨v84, v85⟩, hv86, h⟩ := bd h
 refine pcP (ok_i_ToText hv86) (.d ⟨rfl, _, rfl, ?_⟩)
 obtain ⟨⟨v87, v88⟩, hv89, h⟩ := bd h
 exact pcP (ok_i_ToText hv89) (.d (bk h fun v90 hv91 h => (pcP (ok_Compare hv91) (eI h))))
 refine .d ?_
 obtain ⟨o93, ho94, hk95⟩ := bd h
 replace h := ho94
 refine .cut (fun σ η => ∃ b92, b92 = o93 ∧ σ = [(2, .optr 0 0 0 0), (3, .optr 1 0 0 0), (101, .bool b92)] ∧ η = [.row 0 5 1 29 (fun _ => a0.lit), .row 0 5 1 29 (fun _ => a1.lit)]) ?_ ?_
 refine ⟨rfl, ⟨rfl, _, rfl, (sE h (fun hb96 h => ?_) (fun hb96 h => ?_))⟩⟩
 exact ⟨rfl, (.t ⟨rfl, _, rfl, (.t (.t (ct ⟨_, si h, rfl, rfl⟩ (tk [0, 1] ⟨.p, .p, .b, ⟨⟩⟩ ⟨(nbp rfl), (nbp rfl), ⟨⟩⟩))))⟩)⟩
 exact .f (.f (.f (ct ⟨_, si h, rfl, rfl⟩ (tk [0, 1] ⟨.p, .p, .b, ⟨⟩⟩ ⟨(nbp rfl), (nbp rfl), ⟨⟩⟩))))
 rintro _ _ ⟨b92, rfl, rfl, rfl⟩
 replace h := hk95
 refine sV h (fun hb97 h => ?_) (fun hb97 h => ?_)
 exact .d ⟨rfl, _, rfl, ⟨rfl, _, rfl, (bk h fun v98 hv99 h => (pcP (ihf42 _ _ _ hv99) (eI h)))⟩⟩
 refine .d ⟨rfl, ⟨rfl, _, rfl, (sE h (fun hb100 h => ?_) (fun hb100 h => ?_))⟩⟩
 exact .d (eI h)
 refine .d ⟨rfl, ⟨rfl, _, rfl, (sE h (fun hb101 h => ?_) (fun hb101 h => ?_))⟩⟩
 exact .d (eI h)
 refine .d ⟨rfl, ⟨rfl, _, rfl, ⟨rfl, ⟨rfl, _, rfl, (sE h (fun hb102 h => ?_) (fun hb102 h => ?_))⟩⟩⟩⟩
 refine ⟨rfl, (.t ⟨rfl, _, rfl, (.t ⟨rfl, (.t ⟨rfl, _, rfl, (.t (.t (sE h (fun hb103 h => ?_) (fun hb103 h => ?_))))⟩)⟩)⟩)⟩
 exact .d (eI h)
 exact .d (eI h)
 exact .f (.f (.f (.f (.f (.f (.d (eI h)))))))
 intro _ hI131 a0 a1 r h
 refine vc1 Tryd.func42 ?_
 refine .d (.d (.d ⟨rfl, ⟨rfl, _, rfl, ⟨rfl, ⟨rfl, _, rfl, (sN h (fun hb104 h => ?_) (fun hb104 h => ?_))⟩⟩⟩⟩))
 exact .d ⟨rfl, ⟨rfl, _, rfl, ⟨rfl, ⟨rfl, _, rfl, (bk h fun v105 hv106 h => (pcP (ok_i_orderOf hv106) (eI h)))⟩⟩⟩⟩
 obtain ⟨o107, ho108, hk109⟩ := bd h
 replace h := ho108
 refine .cut (fun σ η => .inl () = o107 ∧ σ = [] ∧ η = []) ?_ ?_
 refine .d ⟨rfl, ⟨rfl, _, rfl, ?_⟩⟩
 have hL130 := hI131 _ _ _ _ h
 refine le (m_i_compareArrays_L2_ind (motive := fun p128 p129 y110 o126 => a0 = p128 → a1 = p129 → o107 = o126 → LoopAt _ _ [(3, .optr 0 0 0 0), (24, sl 8 TEntry.cells a0.fItems), (25, .int .i64 (a0.fItems.length : Int)), (26, .int .i64 y110)] [.row 0 5 1 29 (fun _ => a1.lit)]) ?_ a0 a1 0 o107 hL130 rfl rfl rfl) (tk [1] ⟨.p, .l, .i, .i, ⟨⟩⟩ ⟨(nbp rfl), ⟨⟩⟩)
 intro _ hG113 _ _ p128 p129 y110 o126 h ih111  hp_p128 hp_p129 hr127
 subst hp_p128
 subst hp_p129
 subst hr127
 refine LoopAt.round (.d (.d (sD h (fun hb115 h => ?_) (fun hb115 h => ?_))))
 refine .d (.d (bk h fun x116 hx117 h => ⟨idx_bd hx117, _, (idx_row hx117).trans (TEntry.cells_eq x116), ⟨rfl, _, fun _ => [.bool x116.fKey.fText, .int .i64 x116.fKey.fNum, .str x116.fKey.fStr, .int .i64 x116.fVal.fKind, .int .i64 x116.fVal.fNum, .str x116.fVal.fStr, .int .i64 x116.fVal.fNext, sl 8 TEntry.cells x116.fVal.fItems], rfl, one_set rfl, (.d ⟨rfl, _, rfl, ⟨rfl, ⟨rfl, _, rfl, (bk h fun v118 hv119 h => (pcP (ok27 hv119) (.d (.d (sD h (fun hb120 h => ?_) (fun hb120 h => ?_))))))⟩⟩⟩)⟩⟩))
 refine .d ?_
 obtain rfl := si h
 replace h := hk109
 exact eI h
 refine .d (.float [(0, true), (1, true), (2, true), (3, true), (4, true), (5, true), (6, true), (7, true), (8, false), (9, true)] (by kernel_rfl) ?_)
 refine ⟨rfl, ⟨rfl, _, rfl, ⟨rfl, ⟨rfl, _, rfl, (bk h fun x121 hx122 h => ⟨idx_bd hx122, _, (idx_row hx122).trans (TEntry.cells_eq x121), (bk h fun v123 hv124 h => (pcP (hG113 _ _ _ hv124) (.d (sN h (fun hb125 h => ?_) (fun hb125 h => ?_)))))⟩)⟩⟩⟩⟩
 refine .d ?_
 obtain rfl := si h
 replace h := hk109
 exact eI h
 exact lg (ih111 _ _ _ _ h rfl rfl rfl) (tk [0] ⟨.p, .l, .i, .i, ⟨⟩⟩ ⟨(nbp rfl), ⟨⟩⟩)
 exact ct ⟨si h, rfl, rfl⟩ (tk [] ⟨⟩ ⟨⟩)
 rintro _ _ ⟨rfl, rfl, rfl⟩
 replace h := hk109
 exact .d (eI h)
 intro F0 F1 hF0 hF1 a0 a1 y110 o h
 exact .mk F0 hF0 F1 hF1 a0 a1 y110 o h
theorem ok_i_CompareValues {a0 : TValue} {a1 : TValue} {r : Int} (h : m_i_CompareValues a0 a1 = some r) : ACall Tryd.prog 17 [.agg a0.lit, .agg a1.lit] [] (fun res h => res = .int .i64 r ∧ h = []) := grp__i_CompareValues.1 a0 a1 r h
def m_i_IsOrdered_L2 (a0 : List TValue) (y4 : Int) : Option ((Unit) ⊕ Bool) :=
 (if y4 < (a0.length : Int) then
 idx a0 (W64 (y4 - 1)) >>= fun x8 =>
 idx a0 y4 >>= fun x10 =>
 m_i_CompareValues x8 x10 >>= fun v12 =>
 (if v12 = 1 then
 some (.inr false)
 else
 m_i_IsOrdered_L2 a0 (W64 (y4 + 1)))
 else
 some (.inl ()))
partial_fixpoint
def m_i_IsOrdered (a0 : List TValue) : Option (Bool) :=
 ((
 m_i_IsOrdered_L2 a0 1
 : Option ((Unit) ⊕ Bool)) >>= fun o1 => match o1 with
 | .inr r => some r
 | .inl _ =>
 some true
 )
theorem ok_i_IsOrdered {a0 : List TValue} {r : Bool} (h : m_i_IsOrdered a0 = some r) : ACall Tryd.prog 9 [sl 5 TValue.cells a0] [] (fun res h => res = .bool r ∧ h = []) := by
 refine vc1 Tryd.func9 ?_
 unfold m_i_IsOrdered at h
 refine .d ?_
 obtain ⟨o1, ho2, hk3⟩ := bd h
 replace h := ho2
 refine .cut (fun σ η => .inl () = o1 ∧ σ = [] ∧ η = []) ?_ ?_
 refine .d ?_
 refine le (m_i_IsOrdered_L2.partial_correctness a0 (motive := fun y4 o15 => o1 = o15 → LoopAt _ _ [(0, sl 5 TValue.cells a0), (3, .int .i64 y4)] []) ?_ 1 o1 h rfl) (tk [] ⟨.l, .i, ⟨⟩⟩ ⟨⟩)
 intro F6 ih5 y4 o15 h hr16
 subst hr16
 refine LoopAt.round (.d (.d (sD h (fun hb7 h => ?_) (fun hb7 h => ?_))))
 refine .d (.d (.float [(0, true), (1, true), (2, true), (3, true), (4, true), (5, true), (6, true), (7, true), (8, true), (9, false), (10, true)] (by kernel_rfl) ?_))
 refine bk h fun x8 hx9 h => ⟨idx_bd hx9, _, (idx_row hx9).trans (TValue.cells_eq x8), (bk h fun x10 hx11 h => ⟨idx_bd hx11, _, (idx_row hx11).trans (TValue.cells_eq x10), (bk h fun v12 hv13 h => (pcP (ok_i_CompareValues hv13) (sE h (fun hb14 h => ?_) (fun hb14 h => ?_))))⟩)⟩
 refine .d ?_
 obtain rfl := si h
 replace h := hk3
 exact eB h
 exact lg (ih5 _ _ h rfl) (tk [] ⟨.l, .i, ⟨⟩⟩ ⟨⟩)
 exact ct ⟨si h, rfl, rfl⟩ (tk [] ⟨⟩ ⟨⟩)
 rintro _ _ ⟨rfl, rfl, rfl⟩
 replace h := hk3
 exact .d (eB h)
end Go.Am
