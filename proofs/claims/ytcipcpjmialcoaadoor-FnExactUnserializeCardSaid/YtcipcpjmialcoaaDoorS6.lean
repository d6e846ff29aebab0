/- Models of Go functions, and their walks. (Printed by tools/mg.py.) -/
import Derived.Test.YtcipcpjmialcoaaDoorTy
set_option linter.unusedVariables false
set_option linter.unusedSimpArgs false
set_option maxRecDepth 100000
namespace Go.Am
open Go Go.RowKit Go.Proofs
def m_l_eqKey (a0 : TKey) (a1 : TKey) : Option (Bool) :=
 (if a0.fText = a1.fText then
 (if a0.fNum = a1.fNum then
 (if a0.fStr = a1.fStr then
 some true
 else
 some false)
 else
 some false)
 else
 some false)
theorem ok_l_eqKey {a0 : TKey} {a1 : TKey} {r : Bool} (h : m_l_eqKey a0 a1 = some r) : ACall Tryd.prog 74 [.agg a0.lit, .agg a1.lit] [] (fun res h => res = .bool r ∧ h = []) := by
 refine vc1 Tryd.func74 ?_
 unfold m_l_eqKey at h
 refine .d (.d (.d ⟨rfl, ⟨rfl, _, rfl, ⟨rfl, ⟨rfl, _, rfl, (sEn h (fun hb1 h => ?_) (fun hb1 h => ?_))⟩⟩⟩⟩))
 exact .d (eB h)
 refine .d (.d ⟨rfl, ⟨rfl, _, rfl, ⟨rfl, ⟨rfl, _, rfl, (sN h (fun hb2 h => ?_) (fun hb2 h => ?_))⟩⟩⟩⟩)
 exact .d (eB h)
 refine .d (.d ⟨rfl, ⟨rfl, _, rfl, ⟨rfl, ⟨rfl, _, rfl, (sEn h (fun hb3 h => ?_) (fun hb3 h => ?_))⟩⟩⟩⟩)
 exact .d (eB h)
 exact .d (eB h)
mutual
def m_l_eqValue (a0 : TValue) (a1 : TValue) : Option (Bool) :=
 (if a0.fKind = a1.fKind then
 (if a0.fNum = a1.fNum then
 (if a0.fStr = a1.fStr then
 (if a0.fNext = a1.fNext then
 m_l_eqEntryS a0.fItems a1.fItems >>= fun v5 =>
 (if v5 = true then
 some true
 else
 some false)
 else
 some false)
 else
 some false)
 else
 some false)
 else
 some false)
partial_fixpoint
def m_l_eqEntryS (a0 : List TEntry) (a1 : List TEntry) : Option (Bool) :=
 (if (a0.length : Int) = (a1.length : Int) then
 ((
 m_l_eqEntryS_L2 a0 a1 0
 : Option ((Unit) ⊕ Bool)) >>= fun o9 => match o9 with
 | .inr r => some r
 | .inl _ =>
 some true
 )
 else
 some false)
partial_fixpoint
def m_l_eqEntry (a0 : TEntry) (a1 : TEntry) : Option (Bool) :=
 m_l_eqKey a0.fKey a1.fKey >>= fun v32 =>
 (if v32 = true then
 m_l_eqValue a0.fVal a1.fVal >>= fun v35 =>
 (if v35 = true then
 some true
 else
 some false)
 else
 some false)
partial_fixpoint
def m_l_eqEntryS_L2 (a0 : List TEntry) (a1 : List TEntry) (y12 : Int) : Option ((Unit) ⊕ Bool) :=
 (if y12 < (a0.length : Int) then
 idx a0 y12 >>= fun x19 =>
 idx a1 y12 >>= fun x21 =>
 m_l_eqEntry x19 x21 >>= fun v23 =>
 (if v23 = true then
 m_l_eqEntryS_L2 a0 a1 (W64 (y12 + 1))
 else
 some (.inr false))
 else
 some (.inl ()))
partial_fixpoint
end
def okS7 (a0 : TValue) (a1 : TValue) (r : Bool) : Prop := ACall Tryd.prog 7 [.agg a0.lit, .agg a1.lit] [] (fun res h => res = .bool r ∧ h = [])
def okS21 (a0 : List TEntry) (a1 : List TEntry) (r : Bool) : Prop := ACall Tryd.prog 21 [sl 8 TEntry.cells a0, sl 8 TEntry.cells a1] [] (fun res h => res = .bool r ∧ h = [])
def okS52 (a0 : TEntry) (a1 : TEntry) (r : Bool) : Prop := ACall Tryd.prog 52 [.agg a0.lit, .agg a1.lit] [] (fun res h => res = .bool r ∧ h = [])
inductive m_l_eqEntryS_L2_I : (List TEntry) → (List TEntry) → Int → ((Unit) ⊕ Bool) → Prop
 | mk (G52 : TEntry → TEntry → Option (Bool)) (hG52 : ∀ a0 a1 r, G52 a0 a1 = some r → okS52 a0 a1 r) (F_m_l_eqEntryS_L2 : (List TEntry) → (List TEntry) → Int → Option ((Unit) ⊕ Bool)) (hF_m_l_eqEntryS_L2 : ∀ a0 a1 y12 o, F_m_l_eqEntryS_L2 a0 a1 y12 = some o → m_l_eqEntryS_L2_I a0 a1 y12 o) (a0 : List TEntry) (a1 : List TEntry) (y12 : Int) (o : (Unit) ⊕ Bool) (h : (
 (if y12 < (a0.length : Int) then
 idx a0 y12 >>= fun x19 =>
 idx a1 y12 >>= fun x21 =>
 G52 x19 x21 >>= fun v23 =>
 (if v23 = true then
 F_m_l_eqEntryS_L2 a0 a1 (W64 (y12 + 1))
 else
 some (.inr false))
 else
 some (.inl ()))
 ) = some o) : m_l_eqEntryS_L2_I a0 a1 y12 o
theorem m_l_eqEntryS_L2_ind {motive : (List TEntry) → (List TEntry) → Int → ((Unit) ⊕ Bool) → Prop} (step : ∀ (G52 : TEntry → TEntry → Option (Bool)) (hG52 : ∀ a0 a1 r, G52 a0 a1 = some r → okS52 a0 a1 r) (F_m_l_eqEntryS_L2 : (List TEntry) → (List TEntry) → Int → Option ((Unit) ⊕ Bool)) (hF_m_l_eqEntryS_L2 : ∀ a0 a1 y12 o, F_m_l_eqEntryS_L2 a0 a1 y12 = some o → m_l_eqEntryS_L2_I a0 a1 y12 o) (a0 : List TEntry) (a1 : List TEntry) (y12 : Int) (o : (Unit) ⊕ Bool) (h : (
 (if y12 < (a0.length : Int) then
 idx a0 y12 >>= fun x19 =>
 idx a1 y12 >>= fun x21 =>
 G52 x19 x21 >>= fun v23 =>
 (if v23 = true then
 F_m_l_eqEntryS_L2 a0 a1 (W64 (y12 + 1))
 else
 some (.inr false))
 else
 some (.inl ()))
 ) = some o) (ih : ∀ a0 a1 y12 o, F_m_l_eqEntryS_L2 a0 a1 y12 = some o → motive a0 a1 y12 o), motive a0 a1 y12 o) : ∀ a0 a1 y12 o, m_l_eqEntryS_L2_I a0 a1 y12 o → motive a0 a1 y12 o :=
 fun a0 a1 y12 o h => m_l_eqEntryS_L2_I.rec (motive := fun a0 a1 y12 o _ => motive a0 a1 y12 o) step h
theorem grp__l_eqValue : (∀ a0 a1 r, m_l_eqValue a0 a1 = some r → okS7 a0 a1 r) ∧ (∀ a0 a1 r, m_l_eqEntryS a0 a1 = some r → okS21 a0 a1 r) ∧ (∀ a0 a1 y12 o, m_l_eqEntryS_L2 a0 a1 y12 = some o → m_l_eqEntryS_L2_I a0 a1 y12 o) ∧ (∀ a0 a1 r, m_l_eqEntry a0 a1 = some r → okS52 a0 a1 r) := by
 refine m_l_eqValue.mutual_partial_correctness okS7 okS21 m_l_eqEntryS_L2_I okS52 ?_ ?_ ?_ ?_
 intro _ ihf21 a0 a1 r h
 refine vc1 Tryd.func7 ?_
 refine .d (.d (.d ⟨rfl, ⟨rfl, _, rfl, ⟨rfl, ⟨rfl, _, rfl, (sN h (fun hb1 h => ?_) (fun hb1 h => ?_))⟩⟩⟩⟩))
 exact .d (eB h)
 refine .d (.d ⟨rfl, ⟨rfl, _, rfl, ⟨rfl, ⟨rfl, _, rfl, (sN h (fun hb2 h => ?_) (fun hb2 h => ?_))⟩⟩⟩⟩)
 exact .d (eB h)
 refine .d (.d ⟨rfl, ⟨rfl, _, rfl, ⟨rfl, ⟨rfl, _, rfl, (sEn h (fun hb3 h => ?_) (fun hb3 h => ?_))⟩⟩⟩⟩)
 exact .d (eB h)
 refine .d (.d ⟨rfl, ⟨rfl, _, rfl, ⟨rfl, ⟨rfl, _, rfl, (sN h (fun hb4 h => ?_) (fun hb4 h => ?_))⟩⟩⟩⟩)
 exact .d (eB h)
 refine .d (.d ⟨rfl, ⟨rfl, _, rfl, ⟨rfl, ⟨rfl, _, rfl, (bk h fun v5 hv6 h => (pcP (ihf21 _ _ _ hv6) (sVn h (fun hb7 h => ?_) (fun hb7 h => ?_))))⟩⟩⟩⟩)
 exact .d (eB h)
 exact .d (eB h)
 intro _ hI31 a0 a1 r h
 refine vc1 Tryd.func21 ?_
 refine .d (.d (.d (sN h (fun hb8 h => ?_) (fun hb8 h => ?_))))
 exact .d (eB h)
 obtain ⟨o9, ho10, hk11⟩ := bd h
 replace h := ho10
 refine .cut (fun σ η => .inl () = o9 ∧ σ = [] ∧ η = []) ?_ ?_
 refine .d ?_
 have hL30 := hI31 _ _ _ _ h
 refine le (m_l_eqEntryS_L2_ind (motive := fun p28 p29 y12 o26 => a0 = p28 → a1 = p29 → o9 = o26 → LoopAt _ _ [(0, sl 8 TEntry.cells a0), (1, sl 8 TEntry.cells a1), (5, .int .i64 y12)] []) ?_ a0 a1 0 o9 hL30 rfl rfl rfl) (tk [] ⟨.l, .l, .i, ⟨⟩⟩ ⟨⟩)
 intro _ hG17 _ _ p28 p29 y12 o26 h ih13  hp_p28 hp_p29 hr27
 subst hp_p28
 subst hp_p29
 subst hr27
 refine LoopAt.round (.d (.d (sD h (fun hb18 h => ?_) (fun hb18 h => ?_))))
 refine .d (.d (.float [(0, true), (1, true), (2, true), (3, true), (4, true), (5, true), (6, true), (7, true), (8, false), (9, true)] (by kernel_rfl) ?_))
 refine bk h fun x19 hx20 h => ⟨idx_bd hx20, _, (idx_row hx20).trans (TEntry.cells_eq x19), (bk h fun x21 hx22 h => ⟨idx_bd hx22, _, (idx_row hx22).trans (TEntry.cells_eq x21), (bk h fun v23 hv24 h => (pcP (hG17 _ _ _ hv24) (sVn h (fun hb25 h => ?_) (fun hb25 h => ?_))))⟩)⟩
 refine .d ?_
 obtain rfl := si h
 replace h := hk11
 exact eB h
 exact lg (ih13 _ _ _ _ h rfl rfl rfl) (tk [] ⟨.l, .l, .i, ⟨⟩⟩ ⟨⟩)
 exact ct ⟨si h, rfl, rfl⟩ (tk [] ⟨⟩ ⟨⟩)
 rintro _ _ ⟨rfl, rfl, rfl⟩
 replace h := hk11
 exact .d (eB h)
 intro F0 F1 hF0 hF1 a0 a1 y12 o h
 exact .mk F1 hF1 F0 hF0 a0 a1 y12 o h
 intro _ ihf7 a0 a1 r h
 refine vc1 Tryd.func52 ?_
 refine .d (.d (.d ⟨rfl, ⟨rfl, _, rfl, ⟨rfl, ⟨rfl, _, rfl, (bk h fun v32 hv33 h => (pcP (ok_l_eqKey hv33) (sVn h (fun hb34 h => ?_) (fun hb34 h => ?_))))⟩⟩⟩⟩))
 exact .d (eB h)
 refine .d (.d ⟨rfl, ⟨rfl, _, rfl, ⟨rfl, ⟨rfl, _, rfl, (bk h fun v35 hv36 h => (pcP (ihf7 _ _ _ hv36) (sVn h (fun hb37 h => ?_) (fun hb37 h => ?_))))⟩⟩⟩⟩)
 exact .d (eB h)
 exact .d (eB h)
theorem ok_l_eqValue {a0 : TValue} {a1 : TValue} {r : Bool} (h : m_l_eqValue a0 a1 = some r) : ACall Tryd.prog 7 [.agg a0.lit, .agg a1.lit] [] (fun res h => res = .bool r ∧ h = []) := grp__l_eqValue.1 a0 a1 r h
theorem ok_l_eqEntryS {a0 : List TEntry} {a1 : List TEntry} {r : Bool} (h : m_l_eqEntryS a0 a1 = some r) : ACall Tryd.prog 21 [sl 8 TEntry.cells a0, sl 8 TEntry.cells a1] [] (fun res h => res = .bool r ∧ h = []) := grp__l_eqValue.2.1 a0 a1 r h
theorem ok_l_eqEntry {a0 : TEntry} {a1 : TEntry} {r : Bool} (h : m_l_eqEntry a0 a1 = some r) : ACall Tryd.prog 52 [.agg a0.lit, .agg a1.lit] [] (fun res h => res = .bool r ∧ h = []) := grp__l_eqValue.2.2.2 a0 a1 r h
def m_l_markText_L2 (y6 : Int) (s7 : Str) : Option (Str) :=
 (if y6 > 0 then
 scat ([UInt8.ofNat (IntKind.u8.wrap (W64 (48 + (y6.tmod 10)))).toNat] : List UInt8) s7 >>= fun s11 =>
 m_l_markText_L2 (W64 (y6.tdiv 10)) s11
 else
 some s7)
partial_fixpoint
def m_l_markText (a0 : Int) : Option (Str) :=
 (if a0 ≤ 0 then
 some [109, 48]
 else
 (
 m_l_markText_L2 a0 []
 : Option (Str)) >>= fun s2 =>
 scat [109] s2 >>= fun s15 =>
 some s15)
theorem ok_l_markText {a0 : Int} {r : Str} (h : m_l_markText a0 = some r) : ACall Tryd.prog 53 [.int .i64 a0] [] (fun res h => res = .str r ∧ h = []) := by
 refine vc1 Tryd.func53 ?_
 unfold m_l_markText at h
 refine .d (.d (.d (sD h (fun hb1 h => ?_) (fun hb1 h => ?_))))
 exact .d (eS h)
 refine .d ?_
 obtain ⟨o3, ho4, hk5⟩ := bd h
 replace h := ho4
 refine .cut (fun σ η => ∃ s2, s2 = o3 ∧ σ = [(3, .str s2)] ∧ η = []) ?_ ?_
 refine le (m_l_markText_L2.partial_correctness  (motive := fun y6 s7 o13 => o3 = o13 → LoopAt _ _ [(0, .int .i64 y6), (3, .str s7)] []) ?_ a0 [] o3 h rfl) (tk [] ⟨.i, .s, ⟨⟩⟩ ⟨⟩)
 intro F9 ih8 y6 s7 o13 h hr14
 subst hr14
 refine LoopAt.round (.d (.d (sD h (fun hb10 h => ?_) (fun hb10 h => ?_))))
 exact .d ⟨by decide, ⟨row cB ([UInt8.ofNat (IntKind.u8.wrap (W64 (48 + (y6.tmod 10)))).toNat] : List UInt8), row_lit cB ([UInt8.ofNat (IntKind.u8.wrap (W64 (48 + (y6.tmod 10)))).toNat] : List UInt8) rfl (cll_cons (cB_wrap _) ⟨.same _, trivial⟩ trivial), ⟨rfl, ([UInt8.ofNat (IntKind.u8.wrap (W64 (48 + (y6.tmod 10)))).toNat] : List UInt8), rfl, bytes_shows shows_all rfl, (bk h fun s11 hx12 h => ⟨scat_bd hx12, s11, scat_at hx12, ⟨by decide, (lg (ih8 _ _ _ h rfl) (tk [] ⟨.i, .s, ⟨⟩⟩ ⟨⟩))⟩⟩)⟩⟩⟩
 exact ct ⟨_, si h, rfl, rfl⟩ (tk [] ⟨.s, ⟨⟩⟩ ⟨⟩)
 rintro _ _ ⟨s2, rfl, rfl, rfl⟩
 replace h := hk5
 exact .d (bk h fun s15 hx16 h => ⟨scat_bd hx16, s15, scat_at hx16, (eS h)⟩)
mutual
def m_l_markEntryS (a0 : List TEntry) (a1 : Int) : Option (Int × (List TEntry)) :=
 (
 m_l_markEntryS_L2 a0 a0 a1 0
 : Option (Int × (List TEntry))) >>= fun (y1, l2) =>
 some (y1, l2)
partial_fixpoint
def m_l_markEntryS_L2 (a0 : List TEntry) (l8 : List TEntry) (y11 : Int) (y12 : Int) : Option (Int × (List TEntry)) :=
 (if y12 < (a0.length : Int) then
 idx l8 y12 >>= fun x17 =>
 m_l_markText (W64 ((W64 (y11 + 1)) + 1)) >>= fun v23 =>
 m_l_markText (W64 ((W64 ((W64 ((W64 ((W64 (y11 + 1)) + 1)) + 1)) + 1)) + 1)) >>= fun v25 =>
 m_l_markEntryS x17.fVal.fItems (W64 ((W64 ((W64 ((W64 ((W64 ((W64 ((W64 (y11 + 1)) + 1)) + 1)) + 1)) + 1)) + 1)) + 1)) >>= fun (v27, v28) =>
 m_l_markEntryS_L2 a0 (l8.set y12.toNat (TEntry.mk (TKey.mk ((y11.tmod 3) == 0) (W64 (y11 + 1)) v23) (TValue.mk (W64 ((W64 ((W64 (y11 + 1)) + 1)) + 1)) (W64 ((W64 ((W64 ((W64 (y11 + 1)) + 1)) + 1)) + 1)) v25 (W64 ((W64 ((W64 ((W64 ((W64 ((W64 (y11 + 1)) + 1)) + 1)) + 1)) + 1)) + 1)) v28))) v27 (W64 (y12 + 1))
 else
 some (y11, l8))
partial_fixpoint
end
def okS22 (a0 : List TEntry) (a1 : Int) (r : Int × (List TEntry)) : Prop := ∀ g1000 : Nat, ∀ n1000 : Nat, ∀ f1000 : Nat → List PV, DR TEntry.D n1000 f1000 a0 → ACall Tryd.prog 22 [.own 0 g1000 0 n1000, .int .i64 a1] [.row g1000 8 n1000 63 f1000] (fun res h => ∃ F0 : Nat → List PV, DR TEntry.D n1000 F0 r.2 ∧ res = .int .i64 r.1 ∧ h = [.row g1000 8 n1000 63 F0])
inductive m_l_markEntryS_L2_I : (List TEntry) → (List TEntry) → Int → Int → (Int × (List TEntry)) → Prop
 | mk (G22 : (List TEntry) → Int → Option (Int × (List TEntry))) (hG22 : ∀ a0 a1 r, G22 a0 a1 = some r → okS22 a0 a1 r) (F_m_l_markEntryS_L2 : (List TEntry) → (List TEntry) → Int → Int → Option (Int × (List TEntry))) (hF_m_l_markEntryS_L2 : ∀ a0 l8 y11 y12 o, F_m_l_markEntryS_L2 a0 l8 y11 y12 = some o → m_l_markEntryS_L2_I a0 l8 y11 y12 o) (a0 : List TEntry) (l8 : List TEntry) (y11 : Int) (y12 : Int) (o : Int × (List TEntry)) (h : (
 (if y12 < (a0.length : Int) then
 idx l8 y12 >>= fun x17 =>
 m_l_markText (W64 ((W64 (y11 + 1)) + 1)) >>= fun v23 =>
 m_l_markText (W64 ((W64 ((W64 ((W64 ((W64 (y11 + 1)) + 1)) + 1)) + 1)) + 1)) >>= fun v25 =>
 G22 x17.fVal.fItems (W64 ((W64 ((W64 ((W64 ((W64 ((W64 ((W64 (y11 + 1)) + 1)) + 1)) + 1)) + 1)) + 1)) + 1)) >>= fun (v27, v28) =>
 F_m_l_markEntryS_L2 a0 (l8.set y12.toNat (TEntry.mk (TKey.mk ((y11.tmod 3) == 0) (W64 (y11 + 1)) v23) (TValue.mk (W64 ((W64 ((W64 (y11 + 1)) + 1)) + 1)) (W64 ((W64 ((W64 ((W64 (y11 + 1)) + 1)) + 1)) + 1)) v25 (W64 ((W64 ((W64 ((W64 ((W64 ((W64 (y11 + 1)) + 1)) + 1)) + 1)) + 1)) + 1)) v28))) v27 (W64 (y12 + 1))
 else
 some (y11, l8))
 ) = some o) : m_l_markEntryS_L2_I a0 l8 y11 y12 o
theorem m_l_markEntryS_L2_ind {motive : (List TEntry) → (List TEntry) → Int → Int → (Int × (List TEntry)) → Prop} (step : ∀ (G22 : (List TEntry) → Int → Option (Int × (List TEntry))) (hG22 : ∀ a0 a1 r, G22 a0 a1 = some r → okS22 a0 a1 r) (F_m_l_markEntryS_L2 : (List TEntry) → (List TEntry) → Int → Int → Option (Int × (List TEntry))) (hF_m_l_markEntryS_L2 : ∀ a0 l8 y11 y12 o, F_m_l_markEntryS_L2 a0 l8 y11 y12 = some o → m_l_markEntryS_L2_I a0 l8 y11 y12 o) (a0 : List TEntry) (l8 : List TEntry) (y11 : Int) (y12 : Int) (o : Int × (List TEntry)) (h : (
 (if y12 < (a0.length : Int) then
 idx l8 y12 >>= fun x17 =>
 m_l_markText (W64 ((W64 (y11 + 1)) + 1)) >>= fun v23 =>
 m_l_markText (W64 ((W64 ((W64 ((W64 ((W64 (y11 + 1)) + 1)) + 1)) + 1)) + 1)) >>= fun v25 =>
 G22 x17.fVal.fItems (W64 ((W64 ((W64 ((W64 ((W64 ((W64 ((W64 (y11 + 1)) + 1)) + 1)) + 1)) + 1)) + 1)) + 1)) >>= fun (v27, v28) =>
 F_m_l_markEntryS_L2 a0 (l8.set y12.toNat (TEntry.mk (TKey.mk ((y11.tmod 3) == 0) (W64 (y11 + 1)) v23) (TValue.mk (W64 ((W64 ((W64 (y11 + 1)) + 1)) + 1)) (W64 ((W64 ((W64 ((W64 (y11 + 1)) + 1)) + 1)) + 1)) v25 (W64 ((W64 ((W64 ((W64 ((W64 ((W64 (y11 + 1)) + 1)) + 1)) + 1)) + 1)) + 1)) v28))) v27 (W64 (y12 + 1))
 else
 some (y11, l8))
 ) = some o) (ih : ∀ a0 l8 y11 y12 o, F_m_l_markEntryS_L2 a0 l8 y11 y12 = some o → motive a0 l8 y11 y12 o), motive a0 l8 y11 y12 o) : ∀ a0 l8 y11 y12 o, m_l_markEntryS_L2_I a0 l8 y11 y12 o → motive a0 l8 y11 y12 o :=
 fun a0 l8 y11 y12 o h => m_l_markEntryS_L2_I.rec (motive := fun a0 l8 y11 y12 o _ => motive a0 l8 y11 y12 o) step h
theorem grp__l_markEntryS : (∀ a0 a1 r, m_l_markEntryS a0 a1 = some r → okS22 a0 a1 r) ∧ (∀ a0 l8 y11 y12 o, m_l_markEntryS_L2 a0 l8 y11 y12 = some o → m_l_markEntryS_L2_I a0 l8 y11 y12 o) := by
 refine m_l_markEntryS.mutual_partial_correctness okS22 m_l_markEntryS_L2_I ?_ ?_
 intro _ hI38 a0 a1 r h g1000 n1000 f1000 d1000
 obtain rfl := d1000.len
 refine vc1 Tryd.func22 ?_
 refine .d ?_
 obtain ⟨o5, ho6, hk7⟩ := bd h
 replace h := ho6
 refine .cut (fun σ η => ∃ y1, ∃ l2, ∃ f3 : Nat → List PV, DR TEntry.D a0.length f3 l2 ∧ (y1, l2) = o5 ∧ σ = [(1, .int .i64 y1)] ∧ η = [.row g1000 8 a0.length 63 f3]) ?_ ?_
 refine .d ?_
 have hL37 := hI38 _ _ _ _ _ h
 refine le (m_l_markEntryS_L2_ind (motive := fun p36 l8 y11 y12 o34 => ∀ f9 : Nat → List PV, DR TEntry.D a0.length f9 l8 → a0 = p36 → o5 = o34 → LoopAt _ _ [(0, .own 0 g1000 0 a0.length), (1, .int .i64 y11), (5, .int .i64 y12)] [.row g1000 8 a0.length 63 f9]) ?_ a0 a0 a1 0 o5 hL37 f1000 d1000 rfl rfl) (tk [0] ⟨(.od (by first | rfl | exact d1000.len | exact d1000.len.symm)), .i, .i, ⟨⟩⟩ ⟨(odd d1000), ⟨⟩⟩)
 intro _ hG15 _ _ p36 l8 y11 y12 o34 h ih13 f9 d10 hp_p36 hr35
 subst hp_p36
 subst hr35
 refine LoopAt.round (.d (.d ⟨rfl, (sD h (fun hb16 h => ?_) (fun hb16 h => ?_))⟩))
 refine .d (.d ⟨by decide, (bk h fun x17 hx18 h => ?_)⟩)
 obtain ⟨F19, f20, e22, d21⟩ := TEntry.D_inv (DR.idx d10 hx18)
 refine ⟨rfl, DR.bd d10 hx18, _, Nat.zero_add _, ⟨rfl, ⟨rfl, ⟨rfl, _, (fset f9 y12.toNat [.bool ((y11.tmod 3) == 0), .int .i64 x17.fKey.fNum, .str x17.fKey.fStr, .int .i64 x17.fVal.fKind, .int .i64 x17.fVal.fNum, .str x17.fVal.fStr, .int .i64 x17.fVal.fNext, .osl 8 x17.fVal.fItems.length 63 f20 F19]), e22, st_set ⟨.same _, .same _, .same _, .same _, .same _, .same _, .same _, .same _, trivial⟩, (.d (.d ⟨rfl, DR.bd d10 hx18, _, Nat.zero_add _, ⟨rfl, ⟨rfl, ⟨rfl, _, (fset f9 y12.toNat [.bool ((y11.tmod 3) == 0), .int .i64 (W64 (y11 + 1)), .str x17.fKey.fStr, .int .i64 x17.fVal.fKind, .int .i64 x17.fVal.fNum, .str x17.fVal.fStr, .int .i64 x17.fVal.fNext, .osl 8 x17.fVal.fItems.length 63 f20 F19]), fset_at, st_set2 ⟨.same _, .same _, .same _, .same _, .same _, .same _, .same _, .same _, trivial⟩, (.d (.d (bk h fun v23 hv24 h => (pcP (ok_l_markText hv24) ⟨rfl, DR.bd d10 hx18, _, Nat.zero_add _, ?_⟩))))⟩⟩⟩⟩))⟩⟩⟩⟩
 refine ⟨rfl, ⟨rfl, ⟨rfl, _, (fset f9 y12.toNat [.bool ((y11.tmod 3) == 0), .int .i64 (W64 (y11 + 1)), .str v23, .int .i64 x17.fVal.fKind, .int .i64 x17.fVal.fNum, .str x17.fVal.fStr, .int .i64 x17.fVal.fNext, .osl 8 x17.fVal.fItems.length 63 f20 F19]), fset_at, st_set2 ⟨.same _, .same _, .same _, .same _, .same _, .same _, .same _, .same _, trivial⟩, (.d (.d ⟨rfl, DR.bd d10 hx18, _, Nat.zero_add _, ⟨rfl, ⟨rfl, ⟨rfl, _, (fset f9 y12.toNat [.bool ((y11.tmod 3) == 0), .int .i64 (W64 (y11 + 1)), .str v23, .int .i64 (W64 ((W64 ((W64 (y11 + 1)) + 1)) + 1)), .int .i64 x17.fVal.fNum, .str x17.fVal.fStr, .int .i64 x17.fVal.fNext, .osl 8 x17.fVal.fItems.length 63 f20 F19]), fset_at, st_set2 ⟨.same _, .same _, .same _, .same _, .same _, .same _, .same _, .same _, trivial⟩, (.d (.d ⟨rfl, DR.bd d10 hx18, _, Nat.zero_add _, ⟨rfl, ⟨rfl, ⟨rfl, _, (fset f9 y12.toNat [.bool ((y11.tmod 3) == 0), .int .i64 (W64 (y11 + 1)), .str v23, .int .i64 (W64 ((W64 ((W64 (y11 + 1)) + 1)) + 1)), .int .i64 (W64 ((W64 ((W64 ((W64 (y11 + 1)) + 1)) + 1)) + 1)), .str x17.fVal.fStr, .int .i64 x17.fVal.fNext, .osl 8 x17.fVal.fItems.length 63 f20 F19]), fset_at, st_set2 ⟨.same _, .same _, .same _, .same _, .same _, .same _, .same _, .same _, trivial⟩, ?_⟩⟩⟩⟩))⟩⟩⟩⟩))⟩⟩⟩
 refine .d (.d (bk h fun v25 hv26 h => (pcP (ok_l_markText hv26) ⟨rfl, DR.bd d10 hx18, _, Nat.zero_add _, ⟨rfl, ⟨rfl, ⟨rfl, _, (fset f9 y12.toNat [.bool ((y11.tmod 3) == 0), .int .i64 (W64 (y11 + 1)), .str v23, .int .i64 (W64 ((W64 ((W64 (y11 + 1)) + 1)) + 1)), .int .i64 (W64 ((W64 ((W64 ((W64 (y11 + 1)) + 1)) + 1)) + 1)), .str v25, .int .i64 x17.fVal.fNext, .osl 8 x17.fVal.fItems.length 63 f20 F19]), fset_at, st_set2 ⟨.same _, .same _, .same _, .same _, .same _, .same _, .same _, .same _, trivial⟩, (.d (.d ⟨rfl, DR.bd d10 hx18, _, Nat.zero_add _, ⟨rfl, ⟨rfl, ⟨rfl, _, (fset f9 y12.toNat [.bool ((y11.tmod 3) == 0), .int .i64 (W64 (y11 + 1)), .str v23, .int .i64 (W64 ((W64 ((W64 (y11 + 1)) + 1)) + 1)), .int .i64 (W64 ((W64 ((W64 ((W64 (y11 + 1)) + 1)) + 1)) + 1)), .str v25, .int .i64 (W64 ((W64 ((W64 ((W64 ((W64 ((W64 (y11 + 1)) + 1)) + 1)) + 1)) + 1)) + 1)), .osl 8 x17.fVal.fItems.length 63 f20 F19]), fset_at, st_set2 ⟨.same _, .same _, .same _, .same _, .same _, .same _, .same _, .same _, trivial⟩, (.ex [.row g1000 8 a0.length 63 (fset f9 y12.toNat [.bool ((y11.tmod 3) == 0), .int .i64 (W64 (y11 + 1)), .str v23, .int .i64 (W64 ((W64 ((W64 (y11 + 1)) + 1)) + 1)), .int .i64 (W64 ((W64 ((W64 ((W64 (y11 + 1)) + 1)) + 1)) + 1)), .str v25, .int .i64 (W64 ((W64 ((W64 ((W64 ((W64 ((W64 (y11 + 1)) + 1)) + 1)) + 1)) + 1)) + 1)), .own 1 0 0 x17.fVal.fItems.length]), .row 0 8 x17.fVal.fItems.length 63 f20] (exs 0 7 [.bool ((y11.tmod 3) == 0), .int .i64 (W64 (y11 + 1)), .str v23, .int .i64 (W64 ((W64 ((W64 (y11 + 1)) + 1)) + 1)), .int .i64 (W64 ((W64 ((W64 ((W64 (y11 + 1)) + 1)) + 1)) + 1)), .str v25, .int .i64 (W64 ((W64 ((W64 ((W64 ((W64 ((W64 (y11 + 1)) + 1)) + 1)) + 1)) + 1)) + 1)), .osl 8 x17.fVal.fItems.length 63 f20 F19] [.bool ((y11.tmod 3) == 0), .int .i64 (W64 (y11 + 1)), .str v23, .int .i64 (W64 ((W64 ((W64 (y11 + 1)) + 1)) + 1)), .int .i64 (W64 ((W64 ((W64 ((W64 (y11 + 1)) + 1)) + 1)) + 1)), .str v25, .int .i64 (W64 ((W64 ((W64 ((W64 ((W64 ((W64 (y11 + 1)) + 1)) + 1)) + 1)) + 1)) + 1)), .own 1 0 0 x17.fVal.fItems.length] (fset f9 y12.toNat [.bool ((y11.tmod 3) == 0), .int .i64 (W64 (y11 + 1)), .str v23, .int .i64 (W64 ((W64 ((W64 (y11 + 1)) + 1)) + 1)), .int .i64 (W64 ((W64 ((W64 ((W64 (y11 + 1)) + 1)) + 1)) + 1)), .str v25, .int .i64 (W64 ((W64 ((W64 ((W64 ((W64 ((W64 (y11 + 1)) + 1)) + 1)) + 1)) + 1)) + 1)), .own 1 0 0 x17.fVal.fItems.length]) (DR.lt d10 hx18) fset_at fset_at fset_kk rfl rfl rfl rfl) ?_)⟩⟩⟩⟩))⟩⟩⟩⟩)))
 refine .d ⟨rfl, DR.bd d10 hx18, _, Nat.zero_add _, ⟨rfl, ⟨rfl, ⟨rfl, _, fset_at, ?_⟩⟩⟩⟩
 obtain ⟨⟨v27, v28⟩, hv29, h⟩ := bd h
 refine pcOq (hG15 _ _ _ hv29 _ _ _ d21) [1] ⟨(ovd d21), ⟨⟩⟩ ?_
 rintro _ _ ⟨f30, d31, rfl, rfl⟩
 refine ⟨.int .i64 v27, [.row g1000 8 a0.length 63 (fset f9 y12.toNat [.bool ((y11.tmod 3) == 0), .int .i64 (W64 (y11 + 1)), .str v23, .int .i64 (W64 ((W64 ((W64 (y11 + 1)) + 1)) + 1)), .int .i64 (W64 ((W64 ((W64 ((W64 (y11 + 1)) + 1)) + 1)) + 1)), .str v25, .int .i64 (W64 ((W64 ((W64 ((W64 ((W64 ((W64 (y11 + 1)) + 1)) + 1)) + 1)) + 1)) + 1)), .own 1 0 0 x17.fVal.fItems.length]), .row 0 8 x17.fVal.fItems.length 63 f30], rfl, (by simp only [nxtL, putSel, List.map_cons, List.map_nil, List.drop, List.length_cons, List.length_nil, rer, red d31, red d21]; rfl), (.ab 0 y12.toNat 7 1 (fun F32 => [.row g1000 8 a0.length 63 (fset f9 y12.toNat [.bool ((y11.tmod 3) == 0), .int .i64 (W64 (y11 + 1)), .str v23, .int .i64 (W64 ((W64 ((W64 (y11 + 1)) + 1)) + 1)), .int .i64 (W64 ((W64 ((W64 ((W64 (y11 + 1)) + 1)) + 1)) + 1)), .str v25, .int .i64 (W64 ((W64 ((W64 ((W64 ((W64 ((W64 (y11 + 1)) + 1)) + 1)) + 1)) + 1)) + 1)), .osl 8 x17.fVal.fItems.length 63 f30 F32]), .dead]) (fun F32 => abs_ [.bool ((y11.tmod 3) == 0), .int .i64 (W64 (y11 + 1)), .str v23, .int .i64 (W64 ((W64 ((W64 (y11 + 1)) + 1)) + 1)), .int .i64 (W64 ((W64 ((W64 ((W64 (y11 + 1)) + 1)) + 1)) + 1)), .str v25, .int .i64 (W64 ((W64 ((W64 ((W64 ((W64 ((W64 (y11 + 1)) + 1)) + 1)) + 1)) + 1)) + 1)), .own 1 0 0 x17.fVal.fItems.length] [.bool ((y11.tmod 3) == 0), .int .i64 (W64 (y11 + 1)), .str v23, .int .i64 (W64 ((W64 ((W64 (y11 + 1)) + 1)) + 1)), .int .i64 (W64 ((W64 ((W64 ((W64 (y11 + 1)) + 1)) + 1)) + 1)), .str v25, .int .i64 (W64 ((W64 ((W64 ((W64 ((W64 ((W64 (y11 + 1)) + 1)) + 1)) + 1)) + 1)) + 1)), .osl 8 x17.fVal.fItems.length 63 f30 F32] (fset f9 y12.toNat [.bool ((y11.tmod 3) == 0), .int .i64 (W64 (y11 + 1)), .str v23, .int .i64 (W64 ((W64 ((W64 (y11 + 1)) + 1)) + 1)), .int .i64 (W64 ((W64 ((W64 ((W64 (y11 + 1)) + 1)) + 1)) + 1)), .str v25, .int .i64 (W64 ((W64 ((W64 ((W64 ((W64 ((W64 (y11 + 1)) + 1)) + 1)) + 1)) + 1)) + 1)), .osl 8 x17.fVal.fItems.length 63 f30 F32]) (DR.lt d10 hx18) fset_at fset_at fset_kk (d31).po rfl rfl rfl rfl (by decide) rfl) fun F32 => ?_)⟩
 have d33 : DR TEntry.D a0.length (fset f9 y12.toNat [.bool ((y11.tmod 3) == 0), .int .i64 (W64 (y11 + 1)), .str v23, .int .i64 (W64 ((W64 ((W64 (y11 + 1)) + 1)) + 1)), .int .i64 (W64 ((W64 ((W64 ((W64 (y11 + 1)) + 1)) + 1)) + 1)), .str v25, .int .i64 (W64 ((W64 ((W64 ((W64 ((W64 ((W64 (y11 + 1)) + 1)) + 1)) + 1)) + 1)) + 1)), .osl 8 x17.fVal.fItems.length 63 f30 F32]) (l8.set y12.toNat (TEntry.mk (TKey.mk ((y11.tmod 3) == 0) (W64 (y11 + 1)) v23) (TValue.mk (W64 ((W64 ((W64 (y11 + 1)) + 1)) + 1)) (W64 ((W64 ((W64 ((W64 (y11 + 1)) + 1)) + 1)) + 1)) v25 (W64 ((W64 ((W64 ((W64 ((W64 ((W64 (y11 + 1)) + 1)) + 1)) + 1)) + 1)) + 1)) v28))) := DR.set d10 (idx_lt hx18) (TEntry.D_mk (x := (TEntry.mk (TKey.mk ((y11.tmod 3) == 0) (W64 (y11 + 1)) v23) (TValue.mk (W64 ((W64 ((W64 (y11 + 1)) + 1)) + 1)) (W64 ((W64 ((W64 ((W64 (y11 + 1)) + 1)) + 1)) + 1)) v25 (W64 ((W64 ((W64 ((W64 ((W64 ((W64 (y11 + 1)) + 1)) + 1)) + 1)) + 1)) + 1)) v28))) d31 : TEntry.D [.bool ((y11.tmod 3) == 0), .int .i64 (W64 (y11 + 1)), .str v23, .int .i64 (W64 ((W64 ((W64 (y11 + 1)) + 1)) + 1)), .int .i64 (W64 ((W64 ((W64 ((W64 (y11 + 1)) + 1)) + 1)) + 1)), .str v25, .int .i64 (W64 ((W64 ((W64 ((W64 ((W64 ((W64 (y11 + 1)) + 1)) + 1)) + 1)) + 1)) + 1)), .osl 8 x17.fVal.fItems.length 63 f30 F32] (TEntry.mk (TKey.mk ((y11.tmod 3) == 0) (W64 (y11 + 1)) v23) (TValue.mk (W64 ((W64 ((W64 (y11 + 1)) + 1)) + 1)) (W64 ((W64 ((W64 ((W64 (y11 + 1)) + 1)) + 1)) + 1)) v25 (W64 ((W64 ((W64 ((W64 ((W64 ((W64 (y11 + 1)) + 1)) + 1)) + 1)) + 1)) + 1)) v28)))
 exact lg (ih13 _ _ _ _ _ h (fset f9 y12.toNat [.bool ((y11.tmod 3) == 0), .int .i64 (W64 (y11 + 1)), .str v23, .int .i64 (W64 ((W64 ((W64 (y11 + 1)) + 1)) + 1)), .int .i64 (W64 ((W64 ((W64 ((W64 (y11 + 1)) + 1)) + 1)) + 1)), .str v25, .int .i64 (W64 ((W64 ((W64 ((W64 ((W64 ((W64 (y11 + 1)) + 1)) + 1)) + 1)) + 1)) + 1)), .osl 8 x17.fVal.fItems.length 63 f30 F32]) d33 rfl rfl) (tk [0] ⟨(.od (by first | rfl | exact d33.len | exact d33.len.symm)), .i, .i, ⟨⟩⟩ ⟨(odd d33), ⟨⟩⟩)
 exact ct ⟨_, _, f9, d10, si h, rfl, rfl⟩ (tk [0] ⟨.i, ⟨⟩⟩ ⟨(odd d10), ⟨⟩⟩)
 rintro _ _ ⟨y1, l2, f3, d4, rfl, rfl, rfl⟩
 replace h := hk7
 refine .d ?_
 obtain rfl := si h
 exact en [0] ⟨f3, d4, rfl, rfl⟩ .i ⟨(odd d4), ⟨⟩⟩
 intro F0 F1 hF0 hF1 a0 l8 y11 y12 o h
 exact .mk F0 hF0 F1 hF1 a0 l8 y11 y12 o h
theorem ok_l_markEntryS {a0 : List TEntry} {a1 : Int} {r : Int × (List TEntry)} {g1000 : Nat} {n1000 : Nat} {f1000 : Nat → List PV} (h : m_l_markEntryS a0 a1 = some r) (d1000 : DR TEntry.D n1000 f1000 a0) : ACall Tryd.prog 22 [.own 0 g1000 0 n1000, .int .i64 a1] [.row g1000 8 n1000 63 f1000] (fun res h => ∃ F0 : Nat → List PV, DR TEntry.D n1000 F0 r.2 ∧ res = .int .i64 r.1 ∧ h = [.row g1000 8 n1000 63 F0]) := grp__l_markEntryS.1 a0 a1 r h g1000 n1000 f1000 d1000
def m_l_markValue (a0 : TValue) (a1 : Int) : Option (Int × TValue) :=
 m_l_markEntryS a0.fItems a1 >>= fun (v1, v2) =>
 some (v1, (TValue.mk a0.fKind a0.fNum a0.fStr a0.fNext v2))
theorem ok_l_markValue {a0 : TValue} {a1 : Int} {r : Int × TValue} {g1000 : Nat} {n1000 : Nat} {f1000 : Nat → List PV} (h : m_l_markValue a0 a1 = some r) (d1000 : DR TEntry.D n1000 f1000 a0.fItems) : ACall Tryd.prog 8 [.agg [.int .i64 a0.fKind, .int .i64 a0.fNum, .str a0.fStr, .int .i64 a0.fNext, .own 0 g1000 0 n1000], .int .i64 a1] [.row g1000 8 n1000 63 f1000] (fun res h => ∃ F0 : Nat → List PV, DR TEntry.D n1000 F0 r.2.fItems ∧ res = .int .i64 r.1 ∧ h = [.row g1000 8 n1000 63 F0]) := by
 obtain rfl := d1000.len
 refine vc1 Tryd.func8 ?_
 unfold m_l_markValue at h
 refine .d (.d ⟨rfl, ⟨rfl, _, rfl, ?_⟩⟩)
 obtain ⟨⟨v1, v2⟩, hv3, h⟩ := bd h
 refine pcOq (ok_l_markEntryS (g1000 := g1000) hv3 d1000) [0] ⟨(ovd d1000), ⟨⟩⟩ ?_
 rintro _ _ ⟨f4, d5, rfl, rfl⟩
 refine ⟨.int .i64 v1, [.row g1000 8 a0.fItems.length 63 f4, .row 0 5 1 24 (fun _ => [.int .i64 a0.fKind, .int .i64 a0.fNum, .str a0.fStr, .int .i64 a0.fNext, .own 0 g1000 0 a0.fItems.length])], rfl, (by simp only [nxtL, putSel, List.map_cons, List.map_nil, List.drop, List.length_cons, List.length_nil, rer, red d5, red d1000]; rfl), (.d ?_)⟩
 obtain rfl := si h
 exact en [0] ⟨f4, d5, rfl, rfl⟩ .i ⟨(odd d5), ⟨⟩⟩
mutual
def m_l_heldEntryS (a0 : List TEntry) (a1 : Int) : Option (Int) :=
 ((
 m_l_heldEntryS_L2 a0 a1 0
 : Option ((Int) ⊕ Int)) >>= fun o2 => match o2 with
 | .inr r => some r
 | .inl y1 =>
 some y1
 )
partial_fixpoint
def m_l_heldEntryS_L2 (a0 : List TEntry) (y5 : Int) (y6 : Int) : Option ((Int) ⊕ Int) :=
 (if y6 < (a0.length : Int) then
 idx a0 y6 >>= fun x11 =>
 (if x11.fKey.fText = ((y5.tmod 3) == 0) then
 idx a0 y6 >>= fun x14 =>
 (if x14.fKey.fNum = (W64 (y5 + 1)) then
 idx a0 y6 >>= fun x17 =>
 m_l_markText (W64 ((W64 (y5 + 1)) + 1)) >>= fun v19 =>
 (if x17.fKey.fStr = v19 then
 idx a0 y6 >>= fun x22 =>
 (if x22.fVal.fKind = (W64 ((W64 ((W64 (y5 + 1)) + 1)) + 1)) then
 idx a0 y6 >>= fun x25 =>
 (if x25.fVal.fNum = (W64 ((W64 ((W64 ((W64 (y5 + 1)) + 1)) + 1)) + 1)) then
 idx a0 y6 >>= fun x28 =>
 m_l_markText (W64 ((W64 ((W64 ((W64 ((W64 (y5 + 1)) + 1)) + 1)) + 1)) + 1)) >>= fun v30 =>
 (if x28.fVal.fStr = v30 then
 idx a0 y6 >>= fun x33 =>
 (if x33.fVal.fNext = (W64 ((W64 ((W64 ((W64 ((W64 ((W64 (y5 + 1)) + 1)) + 1)) + 1)) + 1)) + 1)) then
 idx a0 y6 >>= fun x36 =>
 m_l_heldEntryS x36.fVal.fItems (W64 ((W64 ((W64 ((W64 ((W64 ((W64 ((W64 (y5 + 1)) + 1)) + 1)) + 1)) + 1)) + 1)) + 1)) >>= fun v38 =>
 (if v38 < 0 then
 some (.inr (-1))
 else
 m_l_heldEntryS_L2 a0 v38 (W64 (y6 + 1)))
 else
 some (.inr (-1)))
 else
 some (.inr (-1)))
 else
 some (.inr (-1)))
 else
 some (.inr (-1)))
 else
 some (.inr (-1)))
 else
 some (.inr (-1)))
 else
 some (.inr (-1)))
 else
 some (.inl y5))
partial_fixpoint
end
def okS23 (a0 : List TEntry) (a1 : Int) (r : Int) : Prop := ACall Tryd.prog 23 [sl 8 TEntry.cells a0, .int .i64 a1] [] (fun res h => res = .int .i64 r ∧ h = [])
inductive m_l_heldEntryS_L2_I : (List TEntry) → Int → Int → ((Int) ⊕ Int) → Prop
 | mk (G23 : (List TEntry) → Int → Option (Int)) (hG23 : ∀ a0 a1 r, G23 a0 a1 = some r → okS23 a0 a1 r) (F_m_l_heldEntryS_L2 : (List TEntry) → Int → Int → Option ((Int) ⊕ Int)) (hF_m_l_heldEntryS_L2 : ∀ a0 y5 y6 o, F_m_l_heldEntryS_L2 a0 y5 y6 = some o → m_l_heldEntryS_L2_I a0 y5 y6 o) (a0 : List TEntry) (y5 : Int) (y6 : Int) (o : (Int) ⊕ Int) (h : (
 (if y6 < (a0.length : Int) then
 idx a0 y6 >>= fun x11 =>
 (if x11.fKey.fText = ((y5.tmod 3) == 0) then
 idx a0 y6 >>= fun x14 =>
 (if x14.fKey.fNum = (W64 (y5 + 1)) then
 idx a0 y6 >>= fun x17 =>
 m_l_markText (W64 ((W64 (y5 + 1)) + 1)) >>= fun v19 =>
 (if x17.fKey.fStr = v19 then
 idx a0 y6 >>= fun x22 =>
 (if x22.fVal.fKind = (W64 ((W64 ((W64 (y5 + 1)) + 1)) + 1)) then
 idx a0 y6 >>= fun x25 =>
 (if x25.fVal.fNum = (W64 ((W64 ((W64 ((W64 (y5 + 1)) + 1)) + 1)) + 1)) then
 idx a0 y6 >>= fun x28 =>
 m_l_markText (W64 ((W64 ((W64 ((W64 ((W64 (y5 + 1)) + 1)) + 1)) + 1)) + 1)) >>= fun v30 =>
 (if x28.fVal.fStr = v30 then
 idx a0 y6 >>= fun x33 =>
 (if x33.fVal.fNext = (W64 ((W64 ((W64 ((W64 ((W64 ((W64 (y5 + 1)) + 1)) + 1)) + 1)) + 1)) + 1)) then
 idx a0 y6 >>= fun x36 =>
 G23 x36.fVal.fItems (W64 ((W64 ((W64 ((W64 ((W64 ((W64 ((W64 (y5 + 1)) + 1)) + 1)) + 1)) + 1)) + 1)) + 1)) >>= fun v38 =>
 (if v38 < 0 then
 some (.inr (-1))
 else
 F_m_l_heldEntryS_L2 a0 v38 (W64 (y6 + 1)))
 else
 some (.inr (-1)))
 else
 some (.inr (-1)))
 else
 some (.inr (-1)))
 else
 some (.inr (-1)))
 else
 some (.inr (-1)))
 else
 some (.inr (-1)))
 else
 some (.inr (-1)))
 else
 some (.inl y5))
 ) = some o) : m_l_heldEntryS_L2_I a0 y5 y6 o
theorem m_l_heldEntryS_L2_ind {motive : (List TEntry) → Int → Int → ((Int) ⊕ Int) → Prop} (step : ∀ (G23 : (List TEntry) → Int → Option (Int)) (hG23 : ∀ a0 a1 r, G23 a0 a1 = some r → okS23 a0 a1 r) (F_m_l_heldEntryS_L2 : (List TEntry) → Int → Int → Option ((Int) ⊕ Int)) (hF_m_l_heldEntryS_L2 : ∀ a0 y5 y6 o, F_m_l_heldEntryS_L2 a0 y5 y6 = some o → m_l_heldEntryS_L2_I a0 y5 y6 o) (a0 : List TEntry) (y5 : Int) (y6 : Int) (o : (Int) ⊕ Int) (h : (
 (if y6 < (a0.length : Int) then
 idx a0 y6 >>= fun x11 =>
 (if x11.fKey.fText = ((y5.tmod 3) == 0) then
 idx a0 y6 >>= fun x14 =>
 (if x14.fKey.fNum = (W64 (y5 + 1)) then
 idx a0 y6 >>= fun x17 =>
 m_l_markText (W64 ((W64 (y5 + 1)) + 1)) >>= fun v19 =>
 (if x17.fKey.fStr = v19 then
 idx a0 y6 >>= fun x22 =>
 (if x22.fVal.fKind = (W64 ((W64 ((W64 (y5 + 1)) + 1)) + 1)) then
 idx a0 y6 >>= fun x25 =>
 (if x25.fVal.fNum = (W64 ((W64 ((W64 ((W64 (y5 + 1)) + 1)) + 1)) + 1)) then
 idx a0 y6 >>= fun x28 =>
 m_l_markText (W64 ((W64 ((W64 ((W64 ((W64 (y5 + 1)) + 1)) + 1)) + 1)) + 1)) >>= fun v30 =>
 (if x28.fVal.fStr = v30 then
 idx a0 y6 >>= fun x33 =>
 (if x33.fVal.fNext = (W64 ((W64 ((W64 ((W64 ((W64 ((W64 (y5 + 1)) + 1)) + 1)) + 1)) + 1)) + 1)) then
 idx a0 y6 >>= fun x36 =>
 G23 x36.fVal.fItems (W64 ((W64 ((W64 ((W64 ((W64 ((W64 ((W64 (y5 + 1)) + 1)) + 1)) + 1)) + 1)) + 1)) + 1)) >>= fun v38 =>
 (if v38 < 0 then
 some (.inr (-1))
 else
 F_m_l_heldEntryS_L2 a0 v38 (W64 (y6 + 1)))
 else
 some (.inr (-1)))
 else
 some (.inr (-1)))
 else
 some (.inr (-1)))
 else
 some (.inr (-1)))
 else
 some (.inr (-1)))
 else
 some (.inr (-1)))
 else
 some (.inr (-1)))
 else
 some (.inl y5))
 ) = some o) (ih : ∀ a0 y5 y6 o, F_m_l_heldEntryS_L2 a0 y5 y6 = some o → motive a0 y5 y6 o), motive a0 y5 y6 o) : ∀ a0 y5 y6 o, m_l_heldEntryS_L2_I a0 y5 y6 o → motive a0 y5 y6 o :=
 fun a0 y5 y6 o h => m_l_heldEntryS_L2_I.rec (motive := fun a0 y5 y6 o _ => motive a0 y5 y6 o) step h
theorem grp__l_heldEntryS : (∀ a0 a1 r, m_l_heldEntryS a0 a1 = some r → okS23 a0 a1 r) ∧ (∀ a0 y5 y6 o, m_l_heldEntryS_L2 a0 y5 y6 = some o → m_l_heldEntryS_L2_I a0 y5 y6 o) := by
 refine m_l_heldEntryS.mutual_partial_correctness okS23 m_l_heldEntryS_L2_I ?_ ?_
 intro _ hI45 a0 a1 r h
 refine vc1 Tryd.func23 ?_
 refine .d ?_
 obtain ⟨o2, ho3, hk4⟩ := bd h
 replace h := ho3
 refine .cut (fun σ η => ∃ y1, .inl y1 = o2 ∧ σ = [(1, .int .i64 y1)] ∧ η = []) ?_ ?_
 refine .d ?_
 have hL44 := hI45 _ _ _ _ h
 refine le (m_l_heldEntryS_L2_ind (motive := fun p43 y5 y6 o41 => a0 = p43 → o2 = o41 → LoopAt _ _ [(0, sl 8 TEntry.cells a0), (1, .int .i64 y5), (5, .int .i64 y6)] []) ?_ a0 a1 0 o2 hL44 rfl rfl) (tk [] ⟨.l, .i, .i, ⟨⟩⟩ ⟨⟩)
 intro _ hG9 _ _ p43 y5 y6 o41 h ih7  hp_p43 hr42
 subst hp_p43
 subst hr42
 refine LoopAt.round (.d (.d (sD h (fun hb10 h => ?_) (fun hb10 h => ?_))))
 refine .d (.d (.d (bk h fun x11 hx12 h => ⟨idx_bd hx12, _, (idx_row hx12).trans (TEntry.cells_eq x11), ⟨by decide, (sEn h (fun hb13 h => ?_) (fun hb13 h => ?_))⟩⟩)))
 refine .d ?_
 obtain rfl := si h
 replace h := hk4
 exact eI h
 refine .d (.d (.d (bk h fun x14 hx15 h => ⟨idx_bd hx15, _, (idx_row hx15).trans (TEntry.cells_eq x14), (sN h (fun hb16 h => ?_) (fun hb16 h => ?_))⟩)))
 refine .d ?_
 obtain rfl := si h
 replace h := hk4
 exact eI h
 refine .d (.d (.d (.float [(0, true), (1, true), (2, true), (3, true), (4, true), (5, true), (6, true), (7, false), (8, true)] (by kernel_rfl) ?_)))
 refine bk h fun x17 hx18 h => ⟨idx_bd hx18, _, (idx_row hx18).trans (TEntry.cells_eq x17), (bk h fun v19 hv20 h => (pcP (ok_l_markText hv20) (sEn h (fun hb21 h => ?_) (fun hb21 h => ?_))))⟩
 refine .d ?_
 obtain rfl := si h
 replace h := hk4
 exact eI h
 refine .d (.d (.d (bk h fun x22 hx23 h => ⟨idx_bd hx23, _, (idx_row hx23).trans (TEntry.cells_eq x22), (sN h (fun hb24 h => ?_) (fun hb24 h => ?_))⟩)))
 refine .d ?_
 obtain rfl := si h
 replace h := hk4
 exact eI h
 refine .d (.d (.d (bk h fun x25 hx26 h => ⟨idx_bd hx26, _, (idx_row hx26).trans (TEntry.cells_eq x25), (sN h (fun hb27 h => ?_) (fun hb27 h => ?_))⟩)))
 refine .d ?_
 obtain rfl := si h
 replace h := hk4
 exact eI h
 refine .d (.d (.d (.float [(0, true), (1, true), (2, true), (3, true), (4, true), (5, true), (6, true), (7, false), (8, true)] (by kernel_rfl) ?_)))
 refine bk h fun x28 hx29 h => ⟨idx_bd hx29, _, (idx_row hx29).trans (TEntry.cells_eq x28), (bk h fun v30 hv31 h => (pcP (ok_l_markText hv31) (sEn h (fun hb32 h => ?_) (fun hb32 h => ?_))))⟩
 refine .d ?_
 obtain rfl := si h
 replace h := hk4
 exact eI h
 refine .d (.d (.d (bk h fun x33 hx34 h => ⟨idx_bd hx34, _, (idx_row hx34).trans (TEntry.cells_eq x33), (sN h (fun hb35 h => ?_) (fun hb35 h => ?_))⟩)))
 refine .d ?_
 obtain rfl := si h
 replace h := hk4
 exact eI h
 refine .d (.d (bk h fun x36 hx37 h => ⟨idx_bd hx37, _, (idx_row hx37).trans (TEntry.cells_eq x36), (bk h fun v38 hv39 h => (pcP (hG9 _ _ _ hv39) (.d (sD h (fun hb40 h => ?_) (fun hb40 h => ?_)))))⟩))
 refine .d ?_
 obtain rfl := si h
 replace h := hk4
 exact eI h
 exact lg (ih7 _ _ _ _ h rfl rfl) (tk [] ⟨.l, .i, .i, ⟨⟩⟩ ⟨⟩)
 exact ct ⟨_, si h, rfl, rfl⟩ (tk [] ⟨.i, ⟨⟩⟩ ⟨⟩)
 rintro _ _ ⟨y1, rfl, rfl, rfl⟩
 replace h := hk4
 exact .d (eI h)
 intro F0 F1 hF0 hF1 a0 y5 y6 o h
 exact .mk F0 hF0 F1 hF1 a0 y5 y6 o h
theorem ok_l_heldEntryS {a0 : List TEntry} {a1 : Int} {r : Int} (h : m_l_heldEntryS a0 a1 = some r) : ACall Tryd.prog 23 [sl 8 TEntry.cells a0, .int .i64 a1] [] (fun res h => res = .int .i64 r ∧ h = []) := grp__l_heldEntryS.1 a0 a1 r h
def m_l_heldValue (a0 : TValue) (a1 : Int) : Option (Int) :=
 m_l_heldEntryS a0.fItems a1 >>= fun v1 =>
 (if v1 < 0 then
 some (-1)
 else
 some v1)
theorem ok_l_heldValue {a0 : TValue} {a1 : Int} {r : Int} (h : m_l_heldValue a0 a1 = some r) : ACall Tryd.prog 9 [.agg a0.lit, .int .i64 a1] [] (fun res h => res = .int .i64 r ∧ h = []) := by
 refine vc1 Tryd.func9 ?_
 unfold m_l_heldValue at h
 refine .d (.d ⟨rfl, ⟨rfl, _, rfl, (bk h fun v1 hv2 h => (pcP (ok_l_heldEntryS hv2) (.d (.d (sD h (fun hb3 h => ?_) (fun hb3 h => ?_))))))⟩⟩)
 exact .d (eI h)
 exact .d (eI h)
end Go.Am
