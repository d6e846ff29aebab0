/- Models of Go functions, and their walks. (Printed by tools/mg.py.) -/
import Derived.Test.YtcipcpjmialcoaaDoorF3
set_option linter.unusedVariables false
set_option linter.unusedSimpArgs false
set_option maxRecDepth 100000
namespace Go.Am
open Go Go.RowKit Go.Proofs
mutual
def m_i_wellFormed (a0 : TValue) : Option (Bool) :=
 ((
 (if a0.fKind = 3 then
 (if a0.fKind = 4 then
 some (.inl ())
 else
 (if a0.fNext = 0 then
 (if (a0.fItems.length : Int) > 0 then
 some (.inr false)
 else
 some (.inl ()))
 else
 some (.inr false)))
 else
 (if a0.fStr = ([] : Str) then
 (if a0.fKind = 4 then
 some (.inl ())
 else
 (if a0.fNext = 0 then
 (if (a0.fItems.length : Int) > 0 then
 some (.inr false)
 else
 some (.inl ()))
 else
 some (.inr false)))
 else
 some (.inr false)))
 : Option ((Unit) ⊕ Bool)) >>= fun o1 => match o1 with
 | .inr r => some r
 | .inl _ =>
 ((
 (if a0.fKind = 0 then
 some (.inr (a0.fNum == 0))
 else
 (if a0.fKind = 1 then
 (if a0.fNum = 0 then
 some (.inr true)
 else
 some (.inr (a0.fNum == 1)))
 else
 (if a0.fKind = 2 then
 m92 a0.fNum (-1000000000) 1000000000 >>= fun v19 =>
 some (.inr v19)
 else
 (if a0.fKind = 3 then
 (if a0.fNum = 0 then
 some (.inr (decide ((a0.fStr.length : Int) ≤ 400)))
 else
 some (.inr false))
 else
 (
 (if a0.fKind = 6 then
 some (a0.fKind == 6)
 else
 (if a0.fKind = 7 then
 some (a0.fKind == 7)
 else
 some (a0.fKind == 8)))
 : Option (Bool)) >>= fun b23 =>
 (if b23 = true then
 m92 a0.fNum 0 255 >>= fun v30 =>
 some (.inr v30)
 else
 (if a0.fKind = 4 then
 (if a0.fNum = 0 then
 m92 a0.fNext 0 1000000001 >>= fun v34 =>
 (if v34 = true then
 ((
 m_i_wellFormed_L4 a0 ([] : List (TKey × Bool)) 0
 : Option ((Unit) ⊕ ((Unit) ⊕ Bool))) >>= fun o37 => match o37 with
 | .inr r => some r
 | .inl _ =>
 some (.inr true)
 )
 else
 some (.inr false))
 else
 some (.inr false))
 else
 some (.inl ())))))))
 : Option ((Unit) ⊕ Bool)) >>= fun o12 => match o12 with
 | .inr r => some r
 | .inl _ =>
 some false
 )
 )
partial_fixpoint
def m_i_wellFormed_L4 (a0 : TValue) (l40 : List (TKey × Bool)) (y41 : Int) : Option ((Unit) ⊕ ((Unit) ⊕ Bool)) :=
 (if y41 < (a0.fItems.length : Int) then
 idx a0.fItems y41 >>= fun x46 =>
 m55 x46.fKey >>= fun v48 =>
 (if v48 = true then
 (if (mgd l40 x46.fKey false) = true then
 some (.inr (.inr false))
 else
 (if x46.fKey.fText = true then
 m_i_wellFormed x46.fVal >>= fun v57 =>
 (if v57 = true then
 m_i_wellFormed_L4 a0 (mput l40 x46.fKey true) (W64 (y41 + 1))
 else
 some (.inr (.inr false)))
 else
 (if x46.fKey.fNum ≥ a0.fNext then
 some (.inr (.inr false))
 else
 m_i_wellFormed x46.fVal >>= fun v54 =>
 (if v54 = true then
 m_i_wellFormed_L4 a0 (mput l40 x46.fKey true) (W64 (y41 + 1))
 else
 some (.inr (.inr false))))))
 else
 some (.inr (.inr false)))
 else
 some (.inl ()))
partial_fixpoint
end
def okS60 (a0 : TValue) (r : Bool) : Prop := ACall Tryd.prog 60 [.agg a0.lit] [] (fun res h => res = .bool r ∧ h = [])
inductive m_i_wellFormed_L4_I : TValue → (List (TKey × Bool)) → Int → ((Unit) ⊕ ((Unit) ⊕ Bool)) → Prop
 | mk (G60 : TValue → Option (Bool)) (hG60 : ∀ a0 r, G60 a0 = some r → okS60 a0 r) (F_m_i_wellFormed_L4 : TValue → (List (TKey × Bool)) → Int → Option ((Unit) ⊕ ((Unit) ⊕ Bool))) (hF_m_i_wellFormed_L4 : ∀ a0 l40 y41 o, F_m_i_wellFormed_L4 a0 l40 y41 = some o → m_i_wellFormed_L4_I a0 l40 y41 o) (a0 : TValue) (l40 : List (TKey × Bool)) (y41 : Int) (o : (Unit) ⊕ ((Unit) ⊕ Bool)) (h : (
 (if y41 < (a0.fItems.length : Int) then
 idx a0.fItems y41 >>= fun x46 =>
 m55 x46.fKey >>= fun v48 =>
 (if v48 = true then
 (if (mgd l40 x46.fKey false) = true then
 some (.inr (.inr false))
 else
 (if x46.fKey.fText = true then
 G60 x46.fVal >>= fun v57 =>
 (if v57 = true then
 F_m_i_wellFormed_L4 a0 (mput l40 x46.fKey true) (W64 (y41 + 1))
 else
 some (.inr (.inr false)))
 else
 (if x46.fKey.fNum ≥ a0.fNext then
 some (.inr (.inr false))
 else
 G60 x46.fVal >>= fun v54 =>
 (if v54 = true then
 F_m_i_wellFormed_L4 a0 (mput l40 x46.fKey true) (W64 (y41 + 1))
 else
 some (.inr (.inr false))))))
 else
 some (.inr (.inr false)))
 else
 some (.inl ()))
 ) = some o) : m_i_wellFormed_L4_I a0 l40 y41 o
theorem m_i_wellFormed_L4_ind {motive : TValue → (List (TKey × Bool)) → Int → ((Unit) ⊕ ((Unit) ⊕ Bool)) → Prop} (step : ∀ (G60 : TValue → Option (Bool)) (hG60 : ∀ a0 r, G60 a0 = some r → okS60 a0 r) (F_m_i_wellFormed_L4 : TValue → (List (TKey × Bool)) → Int → Option ((Unit) ⊕ ((Unit) ⊕ Bool))) (hF_m_i_wellFormed_L4 : ∀ a0 l40 y41 o, F_m_i_wellFormed_L4 a0 l40 y41 = some o → m_i_wellFormed_L4_I a0 l40 y41 o) (a0 : TValue) (l40 : List (TKey × Bool)) (y41 : Int) (o : (Unit) ⊕ ((Unit) ⊕ Bool)) (h : (
 (if y41 < (a0.fItems.length : Int) then
 idx a0.fItems y41 >>= fun x46 =>
 m55 x46.fKey >>= fun v48 =>
 (if v48 = true then
 (if (mgd l40 x46.fKey false) = true then
 some (.inr (.inr false))
 else
 (if x46.fKey.fText = true then
 G60 x46.fVal >>= fun v57 =>
 (if v57 = true then
 F_m_i_wellFormed_L4 a0 (mput l40 x46.fKey true) (W64 (y41 + 1))
 else
 some (.inr (.inr false)))
 else
 (if x46.fKey.fNum ≥ a0.fNext then
 some (.inr (.inr false))
 else
 G60 x46.fVal >>= fun v54 =>
 (if v54 = true then
 F_m_i_wellFormed_L4 a0 (mput l40 x46.fKey true) (W64 (y41 + 1))
 else
 some (.inr (.inr false))))))
 else
 some (.inr (.inr false)))
 else
 some (.inl ()))
 ) = some o) (ih : ∀ a0 l40 y41 o, F_m_i_wellFormed_L4 a0 l40 y41 = some o → motive a0 l40 y41 o), motive a0 l40 y41 o) : ∀ a0 l40 y41 o, m_i_wellFormed_L4_I a0 l40 y41 o → motive a0 l40 y41 o :=
 fun a0 l40 y41 o h => m_i_wellFormed_L4_I.rec (motive := fun a0 l40 y41 o _ => motive a0 l40 y41 o) step h
theorem grp__i_wellFormed : (∀ a0 r, m_i_wellFormed a0 = some r → okS60 a0 r) ∧ (∀ a0 l40 y41 o, m_i_wellFormed_L4 a0 l40 y41 = some o → m_i_wellFormed_L4_I a0 l40 y41 o) := by
 refine m_i_wellFormed.mutual_partial_correctness okS60 m_i_wellFormed_L4_I ?_ ?_
 intro _ hI64 a0 r h
 refine vc1 Tryd.func60 ?_
 refine .d ?_
 obtain ⟨o1, ho2, hk3⟩ := bd h
 replace h := ho2
 refine .cut (fun σ η => .inl () = o1 ∧ σ = [(1, .optr 0 0 0 0)] ∧ η = [.row 0 5 1 24 (fun _ => a0.lit)]) ?_ ?_
 refine .d ⟨rfl, ⟨rfl, _, rfl, (sN h (fun hb4 h => ?_) (fun hb4 h => ?_))⟩⟩
 refine ⟨rfl, (.t ⟨rfl, _, rfl, (.t (.t (sEn h (fun hb5 h => ?_) (fun hb5 h => ?_))))⟩)⟩
 refine .t (.t (.t (.t (.t (.t (.d ?_))))))
 obtain rfl := si h
 replace h := hk3
 exact eB h
 refine ⟨rfl, (.f ⟨rfl, _, rfl, (.f (.f (sN h (fun hb6 h => ?_) (fun hb6 h => ?_))))⟩)⟩
 refine ⟨rfl, (.t ⟨rfl, _, rfl, (.t (.t (sN h (fun hb7 h => ?_) (fun hb7 h => ?_))))⟩)⟩
 refine .t (.t (.t (.t (.t (.f (.t (.f (.t (.d ?_)))))))))
 obtain rfl := si h
 replace h := hk3
 exact eB h
 refine ⟨rfl, (.f ⟨rfl, _, rfl, (.f (.f (.t (.f (.f (.t (.f (sD h (fun hb8 h => ?_) (fun hb8 h => ?_)))))))))⟩)⟩
 refine .d ?_
 obtain rfl := si h
 replace h := hk3
 exact eB h
 exact ct ⟨si h, rfl, rfl⟩ (tk [0] ⟨.p, ⟨⟩⟩ ⟨(nbp rfl), ⟨⟩⟩)
 exact .f (.f (.f (.f (.f (.f (.f (.f (ct ⟨si h, rfl, rfl⟩ (tk [0] ⟨.p, ⟨⟩⟩ ⟨(nbp rfl), ⟨⟩⟩)))))))))
 refine .f (.f (.f (.f ⟨rfl, (.f ⟨rfl, _, rfl, (.f (.f (sN h (fun hb9 h => ?_) (fun hb9 h => ?_))))⟩)⟩)))
 refine ⟨rfl, (.t ⟨rfl, _, rfl, (.t (.t (sN h (fun hb10 h => ?_) (fun hb10 h => ?_))))⟩)⟩
 refine .t (.t (.t (.t (.t (.f (.t (.f (.t (.d ?_)))))))))
 obtain rfl := si h
 replace h := hk3
 exact eB h
 refine ⟨rfl, (.f ⟨rfl, _, rfl, (.f (.f (.t (.f (.f (.t (.f (sD h (fun hb11 h => ?_) (fun hb11 h => ?_)))))))))⟩)⟩
 refine .d ?_
 obtain rfl := si h
 replace h := hk3
 exact eB h
 exact ct ⟨si h, rfl, rfl⟩ (tk [0] ⟨.p, ⟨⟩⟩ ⟨(nbp rfl), ⟨⟩⟩)
 exact .f (.f (.f (.f (.f (.f (.f (.f (ct ⟨si h, rfl, rfl⟩ (tk [0] ⟨.p, ⟨⟩⟩ ⟨(nbp rfl), ⟨⟩⟩)))))))))
 rintro _ _ ⟨rfl, rfl, rfl⟩
 replace h := hk3
 obtain ⟨o12, ho13, hk14⟩ := bd h
 replace h := ho13
 refine .cut (fun σ η => .inl () = o12 ∧ σ = [] ∧ η = []) ?_ ?_
 refine .d ⟨rfl, ⟨rfl, _, rfl, (.d (sE h (fun hb15 h => ?_) (fun hb15 h => ?_)))⟩⟩
 refine .d ⟨rfl, ⟨rfl, _, rfl, ?_⟩⟩
 obtain rfl := si h
 replace h := hk14
 exact eB h
 refine .d (sE h (fun hb16 h => ?_) (fun hb16 h => ?_))
 refine .d ⟨rfl, ⟨rfl, _, rfl, (sE h (fun hb17 h => ?_) (fun hb17 h => ?_))⟩⟩
 refine .t (.t (.t ?_))
 obtain rfl := si h
 replace h := hk14
 exact eB h
 refine ⟨rfl, (.f ⟨rfl, _, rfl, (.f (.f ?_))⟩)⟩
 obtain rfl := si h
 replace h := hk14
 exact eB h
 refine .d (sE h (fun hb18 h => ?_) (fun hb18 h => ?_))
 refine .d ⟨rfl, ⟨rfl, _, rfl, (bk h fun v19 hv20 h => (pcP (ok92 hv20) ?_))⟩⟩
 obtain rfl := si h
 replace h := hk14
 exact eB h
 refine .d (sE h (fun hb21 h => ?_) (fun hb21 h => ?_))
 refine .d ⟨rfl, ⟨rfl, _, rfl, (sE h (fun hb22 h => ?_) (fun hb22 h => ?_))⟩⟩
 refine ⟨rfl, (.t ⟨rfl, _, rfl, (.t (.t (.t ?_)))⟩)⟩
 obtain rfl := si h
 replace h := hk14
 exact eB h
 refine .f (.f (.f (.f ?_)))
 obtain rfl := si h
 replace h := hk14
 exact eB h
 obtain ⟨o24, ho25, hk26⟩ := bd h
 replace h := ho25
 refine .cut (fun σ η => ∃ b23, b23 = o24 ∧ σ = [(1, .optr 0 0 0 0), (31, .int .i64 a0.fKind), (63, .bool b23)] ∧ η = [.row 0 5 1 24 (fun _ => a0.lit)]) ?_ ?_
 refine .d (sE h (fun hb27 h => ?_) (fun hb27 h => ?_))
 exact ct ⟨_, si h, rfl, rfl⟩ (tk [0] ⟨.p, .i, .b, ⟨⟩⟩ ⟨(nbp rfl), ⟨⟩⟩)
 refine .d (sE h (fun hb28 h => ?_) (fun hb28 h => ?_))
 exact ct ⟨_, si h, rfl, rfl⟩ (tk [0] ⟨.p, .i, .b, ⟨⟩⟩ ⟨(nbp rfl), ⟨⟩⟩)
 exact ct ⟨_, si h, rfl, rfl⟩ (tk [0] ⟨.p, .i, .b, ⟨⟩⟩ ⟨(nbp rfl), ⟨⟩⟩)
 rintro _ _ ⟨b23, rfl, rfl, rfl⟩
 replace h := hk26
 refine sV h (fun hb29 h => ?_) (fun hb29 h => ?_)
 refine .d ⟨rfl, ⟨rfl, _, rfl, (bk h fun v30 hv31 h => (pcP (ok92 hv31) ?_))⟩⟩
 obtain rfl := si h
 replace h := hk14
 exact eB h
 refine .d (sE h (fun hb32 h => ?_) (fun hb32 h => ?_))
 refine .d (.d ⟨rfl, ⟨rfl, _, rfl, (sN h (fun hb33 h => ?_) (fun hb33 h => ?_))⟩⟩)
 refine .t (.t (.t (.t (.t (.d ?_)))))
 obtain rfl := si h
 replace h := hk14
 exact eB h
 refine ⟨rfl, (.f ⟨rfl, _, rfl, (.f (bk h fun v34 hv35 h => (pcP (ok92 hv35) (.f (.f (sVn h (fun hb36 h => ?_) (fun hb36 h => ?_)))))))⟩)⟩
 refine .d ?_
 obtain rfl := si h
 replace h := hk14
 exact eB h
 refine .d ⟨row (mc (fun x : TKey => PV.agg x.lit) (PV.bool)) ([] : List (TKey × Bool)), ?_⟩
 obtain ⟨o37, ho38, hk39⟩ := bd h
 replace h := ho38
 refine .cut (fun σ η => .inl () = o37 ∧ σ = [] ∧ η = []) ?_ ?_
 refine .d ⟨rfl, ⟨rfl, _, rfl, ?_⟩⟩
 have hL63 := hI64 _ _ _ _ h
 refine le (m_i_wellFormed_L4_ind (motive := fun p62 l40 y41 o60 => a0 = p62 → o37 = o60 → LoopAt _ _ [(1, .optr 0 0 0 0), (3, .omp 1), (83, sl 8 TEntry.cells a0.fItems), (84, .int .i64 (a0.fItems.length : Int)), (85, .int .i64 y41)] [.row 0 5 1 24 (fun _ => a0.lit), .row 0 2 l40.length 99 (row (mc (fun x : TKey => PV.agg x.lit) (PV.bool)) l40)]) ?_ a0 ([] : List (TKey × Bool)) 0 o37 hL63 rfl rfl) (tk [0, 1] ⟨.p, .m, .l, .i, .i, ⟨⟩⟩ ⟨(nbp rfl), ⟨fun h0 => absurd (show 1 < 0 from h0) (by decide), rfl, .inl rfl, rfl, fz_mrow (fun _ => rfl) (fun _ => rfl)⟩, ⟨⟩⟩)
 intro _ hG44 _ _ p62 l40 y41 o60 h ih42  hp_p62 hr61
 subst hp_p62
 subst hr61
 refine LoopAt.round (.d (.d (sD h (fun hb45 h => ?_) (fun hb45 h => ?_))))
 refine .d (.d (bk h fun x46 hx47 h => ⟨idx_bd hx47, _, (idx_row hx47).trans (TEntry.cells_eq x46), ⟨rfl, _, fun _ => [.bool x46.fKey.fText, .int .i64 x46.fKey.fNum, .str x46.fKey.fStr, .int .i64 x46.fVal.fKind, .int .i64 x46.fVal.fNum, .str x46.fVal.fStr, .int .i64 x46.fVal.fNext, sl 8 TEntry.cells x46.fVal.fItems], rfl, one_set rfl, (.d (.d ⟨rfl, ⟨rfl, _, rfl, (bk h fun v48 hv49 h => (pcP (ok55 hv49) (sVn h (fun hb50 h => ?_) (fun hb50 h => ?_))))⟩⟩))⟩⟩))
 refine .t (.t (.t (.t (.t (.t (.t (.t (.t (.t (.t (.t (.t (.t (.t ?_))))))))))))))
 refine .t (.t (.d ?_))
 obtain rfl := si h
 replace h := hk39
 obtain rfl := si h
 replace h := hk14
 exact eB h
 refine .f ⟨rfl, (.f ⟨rfl, _, rfl, (.f ⟨.bool (mgd l40 x46.fKey false), mhas l40 x46.fKey, mlook_of (ti := tabT.get 40) (c := fun x : TKey => PV.agg x.lit) (d := PV.bool) (fun x y => congrArg some (TKey.eq_cells x y)) l40 x46.fKey false, (.f (sV h (fun hb51 h => ?_) (fun hb51 h => ?_)))⟩)⟩)⟩
 refine .t (.t (.t (.t (.t (.t (.t (.t (.t (.t (.t (.t (.d ?_))))))))))))
 obtain rfl := si h
 replace h := hk39
 obtain rfl := si h
 replace h := hk14
 exact eB h
 refine ⟨rfl, (.f ⟨rfl, (.f ⟨rfl, _, rfl, (.f (.f (sVn h (fun hb52 h => ?_) (fun hb52 h => ?_))))⟩)⟩)⟩
 refine ⟨rfl, (.t ⟨rfl, (.t ⟨rfl, _, rfl, (.t ⟨rfl, (.t ⟨rfl, _, rfl, (.t (.f (.t (.f (sD h (fun hb53 h => ?_) (fun hb53 h => ?_))))))⟩)⟩)⟩)⟩)⟩
 refine .t (.t (.t (.t (.t (.d ?_)))))
 obtain rfl := si h
 replace h := hk39
 obtain rfl := si h
 replace h := hk14
 exact eB h
 refine ⟨rfl, (.f ⟨rfl, _, rfl, (.f (bk h fun v54 hv55 h => (pcP (hG44 _ _ hv55) (.f (.f (sVn h (fun hb56 h => ?_) (fun hb56 h => ?_)))))))⟩)⟩
 refine .d ?_
 obtain rfl := si h
 replace h := hk39
 obtain rfl := si h
 replace h := hk14
 exact eB h
 exact ⟨rfl, ⟨rfl, _, rfl, ⟨(mput l40 x46.fKey true).length, row (mc (fun x : TKey => PV.agg x.lit) (PV.bool)) (mput l40 x46.fKey true), mupd_of (ti := tabT.get 40) (c := fun x : TKey => PV.agg x.lit) (d := PV.bool) (fun x y => congrArg some (TKey.eq_cells x y)) l40 x46.fKey true, (lg (ih42 _ _ _ _ h rfl rfl) (tk [0, 1] ⟨.p, .m, .l, .i, .i, ⟨⟩⟩ ⟨(nbp rfl), ⟨fun h0 => absurd (show 1 < 0 from h0) (by decide), rfl, .inl rfl, rfl, fz_mrow (fun _ => rfl) (fun _ => rfl)⟩, ⟨⟩⟩))⟩⟩⟩
 refine .f (.f (.f (.f (.f (.f (.f (.f (.f ⟨rfl, (.f ⟨rfl, _, rfl, (.f (bk h fun v57 hv58 h => (pcP (hG44 _ _ hv58) ?_)))⟩)⟩))))))))
 refine .f (.f (sVn h (fun hb59 h => ?_) (fun hb59 h => ?_)))
 refine .d ?_
 obtain rfl := si h
 replace h := hk39
 obtain rfl := si h
 replace h := hk14
 exact eB h
 exact ⟨rfl, ⟨rfl, _, rfl, ⟨(mput l40 x46.fKey true).length, row (mc (fun x : TKey => PV.agg x.lit) (PV.bool)) (mput l40 x46.fKey true), mupd_of (ti := tabT.get 40) (c := fun x : TKey => PV.agg x.lit) (d := PV.bool) (fun x y => congrArg some (TKey.eq_cells x y)) l40 x46.fKey true, (lg (ih42 _ _ _ _ h rfl rfl) (tk [0, 1] ⟨.p, .m, .l, .i, .i, ⟨⟩⟩ ⟨(nbp rfl), ⟨fun h0 => absurd (show 1 < 0 from h0) (by decide), rfl, .inl rfl, rfl, fz_mrow (fun _ => rfl) (fun _ => rfl)⟩, ⟨⟩⟩))⟩⟩⟩
 exact ct ⟨si h, rfl, rfl⟩ (tk [] ⟨⟩ ⟨⟩)
 rintro _ _ ⟨rfl, rfl, rfl⟩
 replace h := hk39
 refine .d ?_
 obtain rfl := si h
 replace h := hk14
 exact eB h
 exact ct ⟨si h, rfl, rfl⟩ (tk [] ⟨⟩ ⟨⟩)
 rintro _ _ ⟨rfl, rfl, rfl⟩
 replace h := hk14
 exact .d (eB h)
 intro F0 F1 hF0 hF1 a0 l40 y41 o h
 exact .mk F0 hF0 F1 hF1 a0 l40 y41 o h
theorem ok_i_wellFormed {a0 : TValue} {r : Bool} (h : m_i_wellFormed a0 = some r) : ACall Tryd.prog 60 [.agg a0.lit] [] (fun res h => res = .bool r ∧ h = []) := grp__i_wellFormed.1 a0 r h
def m_i_IsValue (a0 : TValue) : Option (Bool) :=
 m_i_Weight a0 >>= fun v1 =>
 (if v1 ≤ 200 then
 m_i_wellFormed a0 >>= fun v4 =>
 some v4
 else
 some false)
theorem ok_i_IsValue {a0 : TValue} {r : Bool} (h : m_i_IsValue a0 = some r) : ACall Tryd.prog 29 [.agg a0.lit] [] (fun res h => res = .bool r ∧ h = []) := by
 refine vc1 Tryd.func29 ?_
 unfold m_i_IsValue at h
 refine .d (.d ⟨rfl, _, rfl, (bk h fun v1 hv2 h => (pcP (ok_i_Weight hv2) (sD h (fun hb3 h => ?_) (fun hb3 h => ?_))))⟩)
 exact ⟨rfl, _, rfl, (.t (bk h fun v4 hv5 h => (pcP (ok_i_wellFormed hv5) (.t (eB h)))))⟩
 exact .f (.f (eB h))
end Go.Am
