/- Models of Go functions, and their walks. (Printed by tools/mg.py.) -/
import Derived.Test.YtcipcpjmialcoaaDoorU1
set_option linter.unusedVariables false
set_option linter.unusedSimpArgs false
set_option maxRecDepth 100000
namespace Go.Am
open Go Go.RowKit Go.Proofs
mutual
def m_i_IsPlain (a0 : TValue) : Option (Bool) :=
 ((
 (if a0.fKind = 4 then
 ((
 m_i_IsPlain_L4 a0 0
 : Option ((Unit) ⊕ ((Unit) ⊕ Bool))) >>= fun o5 => match o5 with
 | .inr r => some r
 | .inl _ =>
 some (.inr true)
 )
 else
 some (.inl ()))
 : Option ((Unit) ⊕ Bool)) >>= fun o1 => match o1 with
 | .inr r => some r
 | .inl _ =>
 m92 a0.fKind 0 3 >>= fun v23 =>
 some v23
 )
partial_fixpoint
def m_i_IsPlain_L4 (a0 : TValue) (y8 : Int) : Option ((Unit) ⊕ ((Unit) ⊕ Bool)) :=
 (if y8 < (a0.fItems.length : Int) then
 idx a0.fItems y8 >>= fun x13 =>
 m_i_IsPlain x13.fVal >>= fun v15 =>
 (if v15 = true then
 m_i_IsPlain_L4 a0 (W64 (y8 + 1))
 else
 some (.inr (.inr false)))
 else
 some (.inl ()))
partial_fixpoint
end
def okS50 (a0 : TValue) (r : Bool) : Prop := ACall Tryd.prog 50 [.agg a0.lit] [] (fun res h => res = .bool r ∧ h = [])
inductive m_i_IsPlain_L4_I : TValue → Int → ((Unit) ⊕ ((Unit) ⊕ Bool)) → Prop
 | mk (G50 : TValue → Option (Bool)) (hG50 : ∀ a0 r, G50 a0 = some r → okS50 a0 r) (F_m_i_IsPlain_L4 : TValue → Int → Option ((Unit) ⊕ ((Unit) ⊕ Bool))) (hF_m_i_IsPlain_L4 : ∀ a0 y8 o, F_m_i_IsPlain_L4 a0 y8 = some o → m_i_IsPlain_L4_I a0 y8 o) (a0 : TValue) (y8 : Int) (o : (Unit) ⊕ ((Unit) ⊕ Bool)) (h : (
 (if y8 < (a0.fItems.length : Int) then
 idx a0.fItems y8 >>= fun x13 =>
 G50 x13.fVal >>= fun v15 =>
 (if v15 = true then
 F_m_i_IsPlain_L4 a0 (W64 (y8 + 1))
 else
 some (.inr (.inr false)))
 else
 some (.inl ()))
 ) = some o) : m_i_IsPlain_L4_I a0 y8 o
theorem m_i_IsPlain_L4_ind {motive : TValue → Int → ((Unit) ⊕ ((Unit) ⊕ Bool)) → Prop} (step : ∀ (G50 : TValue → Option (Bool)) (hG50 : ∀ a0 r, G50 a0 = some r → okS50 a0 r) (F_m_i_IsPlain_L4 : TValue → Int → Option ((Unit) ⊕ ((Unit) ⊕ Bool))) (hF_m_i_IsPlain_L4 : ∀ a0 y8 o, F_m_i_IsPlain_L4 a0 y8 = some o → m_i_IsPlain_L4_I a0 y8 o) (a0 : TValue) (y8 : Int) (o : (Unit) ⊕ ((Unit) ⊕ Bool)) (h : (
 (if y8 < (a0.fItems.length : Int) then
 idx a0.fItems y8 >>= fun x13 =>
 G50 x13.fVal >>= fun v15 =>
 (if v15 = true then
 F_m_i_IsPlain_L4 a0 (W64 (y8 + 1))
 else
 some (.inr (.inr false)))
 else
 some (.inl ()))
 ) = some o) (ih : ∀ a0 y8 o, F_m_i_IsPlain_L4 a0 y8 = some o → motive a0 y8 o), motive a0 y8 o) : ∀ a0 y8 o, m_i_IsPlain_L4_I a0 y8 o → motive a0 y8 o :=
 fun a0 y8 o h => m_i_IsPlain_L4_I.rec (motive := fun a0 y8 o _ => motive a0 y8 o) step h
theorem grp__i_IsPlain : (∀ a0 r, m_i_IsPlain a0 = some r → okS50 a0 r) ∧ (∀ a0 y8 o, m_i_IsPlain_L4 a0 y8 = some o → m_i_IsPlain_L4_I a0 y8 o) := by
 refine m_i_IsPlain.mutual_partial_correctness okS50 m_i_IsPlain_L4_I ?_ ?_
 intro _ hI22 a0 r h
 refine vc1 Tryd.func50 ?_
 refine .d ?_
 obtain ⟨o1, ho2, hk3⟩ := bd h
 replace h := ho2
 refine .cut (fun σ η => .inl () = o1 ∧ σ = [(1, .optr 0 0 0 0)] ∧ η = [.row 0 5 1 24 (fun _ => a0.lit)]) ?_ ?_
 refine .d ⟨rfl, ⟨rfl, _, rfl, (sE h (fun hb4 h => ?_) (fun hb4 h => ?_))⟩⟩
 obtain ⟨o5, ho6, hk7⟩ := bd h
 replace h := ho6
 refine .cut (fun σ η => .inl () = o5 ∧ σ = [] ∧ η = []) ?_ ?_
 refine .d ⟨rfl, ⟨rfl, _, rfl, ?_⟩⟩
 have hL21 := hI22 _ _ _ h
 refine le (m_i_IsPlain_L4_ind (motive := fun p20 y8 o18 => a0 = p20 → o5 = o18 → LoopAt _ _ [(9, sl 8 TEntry.cells a0.fItems), (10, .int .i64 (a0.fItems.length : Int)), (11, .int .i64 y8)] []) ?_ a0 0 o5 hL21 rfl rfl) (tk [] ⟨.l, .i, .i, ⟨⟩⟩ ⟨⟩)
 intro _ hG11 _ _ p20 y8 o18 h ih9  hp_p20 hr19
 subst hp_p20
 subst hr19
 refine LoopAt.round (.d (.d (sD h (fun hb12 h => ?_) (fun hb12 h => ?_))))
 refine .d (.d (bk h fun x13 hx14 h => ⟨idx_bd hx14, _, (idx_row hx14).trans (TEntry.cells_eq x13), ⟨rfl, _, fun _ => [.bool x13.fKey.fText, .int .i64 x13.fKey.fNum, .str x13.fKey.fStr, .int .i64 x13.fVal.fKind, .int .i64 x13.fVal.fNum, .str x13.fVal.fStr, .int .i64 x13.fVal.fNext, sl 8 TEntry.cells x13.fVal.fItems], rfl, one_set rfl, (.d ⟨rfl, ⟨rfl, _, rfl, (bk h fun v15 hv16 h => (pcP (hG11 _ _ hv16) (sVn h (fun hb17 h => ?_) (fun hb17 h => ?_))))⟩⟩)⟩⟩))
 refine .d ?_
 obtain rfl := si h
 replace h := hk7
 obtain rfl := si h
 replace h := hk3
 exact eB h
 exact lg (ih9 _ _ _ h rfl rfl) (tk [] ⟨.l, .i, .i, ⟨⟩⟩ ⟨⟩)
 exact ct ⟨si h, rfl, rfl⟩ (tk [] ⟨⟩ ⟨⟩)
 rintro _ _ ⟨rfl, rfl, rfl⟩
 replace h := hk7
 refine .d ?_
 obtain rfl := si h
 replace h := hk3
 exact eB h
 exact ct ⟨si h, rfl, rfl⟩ (tk [0] ⟨.p, ⟨⟩⟩ ⟨(nbp rfl), ⟨⟩⟩)
 rintro _ _ ⟨rfl, rfl, rfl⟩
 replace h := hk3
 exact .d ⟨rfl, ⟨rfl, _, rfl, (bk h fun v23 hv24 h => (pcP (ok92 hv24) (eB h)))⟩⟩
 intro F0 F1 hF0 hF1 a0 y8 o h
 exact .mk F0 hF0 F1 hF1 a0 y8 o h
theorem ok_i_IsPlain {a0 : TValue} {r : Bool} (h : m_i_IsPlain a0 = some r) : ACall Tryd.prog 50 [.agg a0.lit] [] (fun res h => res = .bool r ∧ h = []) := grp__i_IsPlain.1 a0 r h
def m_i_FormatInt (a0 : Int) : Option (Str) :=
 m73 a0 >>= fun v1 =>
 some v1
theorem ok_i_FormatInt {a0 : Int} {r : Str} (h : m_i_FormatInt a0 = some r) : ACall Tryd.prog 72 [.int .i64 a0] [] (fun res h => res = .str r ∧ h = []) := by
 refine vc1 Tryd.func72 ?_
 unfold m_i_FormatInt at h
 exact .d (.d (bk h fun v1 hv2 h => (pcP (ok73 hv2) (eS h))))
mutual
def m_i_appendSerial (a0 : List UInt8) (a1 : TValue) : Option ((List UInt8)) :=
 (if a1.fKind = 0 then
 lapp 1 a0 ([78, 59] : Str) >>= fun l2 =>
 some l2
 else
 (if a1.fKind = 1 then
 m_i_FormatInt a1.fNum >>= fun v5 =>
 scat [98, 58] v5 >>= fun s7 =>
 scat s7 [59] >>= fun s9 =>
 lapp 1 a0 s9 >>= fun l11 =>
 some l11
 else
 (if a1.fKind = 2 then
 m_i_FormatInt a1.fNum >>= fun v14 =>
 scat [105, 58] v14 >>= fun s16 =>
 scat s16 [59] >>= fun s18 =>
 lapp 1 a0 s18 >>= fun l20 =>
 some l20
 else
 (if a1.fKind = 3 then
 m_i_FormatInt (a1.fStr.length : Int) >>= fun v23 =>
 scat [115, 58] v23 >>= fun s25 =>
 scat s25 [58] >>= fun s27 =>
 scat s27 a1.fStr >>= fun s29 =>
 scat s29 [59] >>= fun s31 =>
 lapp 1 a0 s31 >>= fun l33 =>
 some l33
 else
 m_i_FormatInt (a1.fItems.length : Int) >>= fun v35 =>
 scat [97, 58] v35 >>= fun s37 =>
 scat s37 [58] >>= fun s39 =>
 m_i_FormatInt a1.fNext >>= fun v41 =>
 scat s39 v41 >>= fun s43 =>
 scat s43 [123] >>= fun s45 =>
 lapp 1 a0 s45 >>= fun l47 =>
 (
 m_i_appendSerial_L2 a1 l47 0
 : Option ((List UInt8))) >>= fun l50 =>
 lapp 1 l50 ([(125 : UInt8)] : List UInt8) >>= fun l76 =>
 some l76))))
partial_fixpoint
def m_i_appendSerial_L2 (a1 : TValue) (l55 : List UInt8) (y56 : Int) : Option ((List UInt8)) :=
 (if y56 < (a1.fItems.length : Int) then
 idx a1.fItems y56 >>= fun x61 =>
 m_i_KeyValue x61.fKey >>= fun v63 =>
 m_i_appendSerial l55 v63 >>= fun v65 =>
 m_i_appendSerial v65 x61.fVal >>= fun v68 =>
 m_i_appendSerial_L2 a1 v68 (W64 (y56 + 1))
 else
 some l55)
partial_fixpoint
end
def okS51 (a0 : List UInt8) (a1 : TValue) (r : (List UInt8)) : Prop := ∀ g1000 : Nat, ACall Tryd.prog 51 [.own 0 g1000 0 a0.length, .agg a1.lit] [.row g1000 1 a0.length 5 (row cB a0)] (fun res h => ∃ G0 : Nat, res = .own 0 G0 0 r.length ∧ h = [.row G0 1 r.length 5 (row cB r)])
inductive m_i_appendSerial_L2_I : TValue → (List UInt8) → Int → ((List UInt8)) → Prop
 | mk (G51 : (List UInt8) → TValue → Option ((List UInt8))) (hG51 : ∀ a0 a1 r, G51 a0 a1 = some r → okS51 a0 a1 r) (F_m_i_appendSerial_L2 : TValue → (List UInt8) → Int → Option ((List UInt8))) (hF_m_i_appendSerial_L2 : ∀ a1 l55 y56 o, F_m_i_appendSerial_L2 a1 l55 y56 = some o → m_i_appendSerial_L2_I a1 l55 y56 o) (a1 : TValue) (l55 : List UInt8) (y56 : Int) (o : (List UInt8)) (h : (
 (if y56 < (a1.fItems.length : Int) then
 idx a1.fItems y56 >>= fun x61 =>
 m_i_KeyValue x61.fKey >>= fun v63 =>
 G51 l55 v63 >>= fun v65 =>
 G51 v65 x61.fVal >>= fun v68 =>
 F_m_i_appendSerial_L2 a1 v68 (W64 (y56 + 1))
 else
 some l55)
 ) = some o) : m_i_appendSerial_L2_I a1 l55 y56 o
theorem m_i_appendSerial_L2_ind {motive : TValue → (List UInt8) → Int → ((List UInt8)) → Prop} (step : ∀ (G51 : (List UInt8) → TValue → Option ((List UInt8))) (hG51 : ∀ a0 a1 r, G51 a0 a1 = some r → okS51 a0 a1 r) (F_m_i_appendSerial_L2 : TValue → (List UInt8) → Int → Option ((List UInt8))) (hF_m_i_appendSerial_L2 : ∀ a1 l55 y56 o, F_m_i_appendSerial_L2 a1 l55 y56 = some o → m_i_appendSerial_L2_I a1 l55 y56 o) (a1 : TValue) (l55 : List UInt8) (y56 : Int) (o : (List UInt8)) (h : (
 (if y56 < (a1.fItems.length : Int) then
 idx a1.fItems y56 >>= fun x61 =>
 m_i_KeyValue x61.fKey >>= fun v63 =>
 G51 l55 v63 >>= fun v65 =>
 G51 v65 x61.fVal >>= fun v68 =>
 F_m_i_appendSerial_L2 a1 v68 (W64 (y56 + 1))
 else
 some l55)
 ) = some o) (ih : ∀ a1 l55 y56 o, F_m_i_appendSerial_L2 a1 l55 y56 = some o → motive a1 l55 y56 o), motive a1 l55 y56 o) : ∀ a1 l55 y56 o, m_i_appendSerial_L2_I a1 l55 y56 o → motive a1 l55 y56 o :=
 fun a1 l55 y56 o h => m_i_appendSerial_L2_I.rec (motive := fun a1 l55 y56 o _ => motive a1 l55 y56 o) step h
theorem grp__i_appendSerial : (∀ a0 a1 r, m_i_appendSerial a0 a1 = some r → okS51 a0 a1 r) ∧ (∀ a1 l55 y56 o, m_i_appendSerial_L2 a1 l55 y56 = some o → m_i_appendSerial_L2_I a1 l55 y56 o) := by
 refine m_i_appendSerial.mutual_partial_correctness okS51 m_i_appendSerial_L2_I ?_ ?_
 intro _ hI75 a0 a1 r h g1000
 refine vc1 Tryd.func51 ?_
 refine .d (.d (.d ⟨rfl, ⟨rfl, _, rfl, (.d (sE h (fun hb1 h => ?_) (fun hb1 h => ?_)))⟩⟩))
 refine .d (bk h fun l2 hx3 h => ⟨rfl, lapp_bd hx3, l2.length, row cB l2, lapp_len hx3, lapp_row hx3 shows_all src_str, ?_⟩)
 obtain rfl := si h
 exact en [0] ⟨(g1000 + 1), rfl, rfl⟩ .o ⟨od, ⟨⟩⟩
 refine .d (sE h (fun hb4 h => ?_) (fun hb4 h => ?_))
 refine .d ⟨rfl, ⟨rfl, _, rfl, (bk h fun v5 hv6 h => (pcP (ok_i_FormatInt hv6) (bk h fun s7 hx8 h => ⟨scat_bd hx8, s7, scat_at hx8, (bk h fun s9 hx10 h => ⟨scat_bd hx10, s9, scat_at hx10, (bk h fun l11 hx12 h => ⟨rfl, lapp_bd hx12, l11.length, row cB l11, lapp_len hx12, lapp_row hx12 shows_all src_str, ?_⟩)⟩)⟩)))⟩⟩
 obtain rfl := si h
 exact en [0] ⟨(g1000 + 1), rfl, rfl⟩ .o ⟨od, ⟨⟩⟩
 refine .d (sE h (fun hb13 h => ?_) (fun hb13 h => ?_))
 refine .d ⟨rfl, ⟨rfl, _, rfl, (bk h fun v14 hv15 h => (pcP (ok_i_FormatInt hv15) (bk h fun s16 hx17 h => ⟨scat_bd hx17, s16, scat_at hx17, (bk h fun s18 hx19 h => ⟨scat_bd hx19, s18, scat_at hx19, (bk h fun l20 hx21 h => ⟨rfl, lapp_bd hx21, l20.length, row cB l20, lapp_len hx21, lapp_row hx21 shows_all src_str, ?_⟩)⟩)⟩)))⟩⟩
 obtain rfl := si h
 exact en [0] ⟨(g1000 + 1), rfl, rfl⟩ .o ⟨od, ⟨⟩⟩
 refine .d (sE h (fun hb22 h => ?_) (fun hb22 h => ?_))
 refine .d (.float [(0, true), (1, true), (2, true), (3, true), (7, true), (8, true), (4, false), (5, true), (6, true), (9, true), (10, true), (11, false), (12, true)] (by kernel_rfl) ?_)
 refine ⟨rfl, ⟨rfl, _, rfl, ⟨rfl, ⟨rfl, _, rfl, (bk h fun v23 hv24 h => (pcP (ok_i_FormatInt hv24) ⟨rfl, ⟨rfl, (bk h fun s25 hx26 h => ⟨scat_bd hx26, s25, scat_at hx26, (bk h fun s27 hx28 h => ⟨scat_bd hx28, s27, scat_at hx28, (bk h fun s29 hx30 h => ⟨scat_bd hx30, s29, scat_at hx30, (bk h fun s31 hx32 h => ?_)⟩)⟩)⟩)⟩⟩))⟩⟩⟩⟩
 refine ⟨scat_bd hx32, s31, scat_at hx32, (bk h fun l33 hx34 h => ⟨rfl, lapp_bd hx34, l33.length, row cB l33, lapp_len hx34, lapp_row hx34 shows_all src_str, ?_⟩)⟩
 obtain rfl := si h
 exact en [0] ⟨(g1000 + 1), rfl, rfl⟩ .o ⟨od, ⟨⟩⟩
 refine .d (.float [(0, true), (1, true), (2, true), (3, true), (7, true), (8, true), (4, false), (5, true), (6, true), (9, false), (10, true), (11, true), (12, false), (13, true)] (by kernel_rfl) ?_)
 refine ⟨rfl, ⟨rfl, _, rfl, ⟨rfl, ⟨rfl, _, rfl, (bk h fun v35 hv36 h => (pcP (ok_i_FormatInt hv36) ⟨rfl, ⟨rfl, (bk h fun s37 hx38 h => ⟨scat_bd hx38, s37, scat_at hx38, (bk h fun s39 hx40 h => ⟨scat_bd hx40, s39, scat_at hx40, (bk h fun v41 hv42 h => (pcP (ok_i_FormatInt hv42) (bk h fun s43 hx44 h => ?_)))⟩)⟩)⟩⟩))⟩⟩⟩⟩
 refine ⟨scat_bd hx44, s43, scat_at hx44, (bk h fun s45 hx46 h => ⟨scat_bd hx46, s45, scat_at hx46, (bk h fun l47 hx48 h => ⟨rfl, lapp_bd hx48, l47.length, row cB l47, lapp_len hx48, lapp_row hx48 shows_all src_str, ?_⟩)⟩)⟩
 obtain ⟨o51, ho52, hk53⟩ := bd h
 replace h := ho52
 refine .cut (fun σ η => ∃ l50, ∃ g49 : Nat, l50 = o51 ∧ σ = [(0, .own 0 g49 0 l50.length)] ∧ η = [.row g49 1 l50.length 5 (row cB l50)]) ?_ ?_
 refine .d ⟨rfl, ⟨rfl, _, rfl, ?_⟩⟩
 have hL74 := hI75 _ _ _ _ h
 refine le (m_i_appendSerial_L2_ind (motive := fun p73 l55 y56 o71 => ∀ g54 : Nat, a1 = p73 → o51 = o71 → LoopAt _ _ [(0, .own 0 g54 0 l55.length), (59, sl 8 TEntry.cells a1.fItems), (60, .int .i64 (a1.fItems.length : Int)), (61, .int .i64 y56)] [.row g54 1 l55.length 5 (row cB l55)]) ?_ a1 l47 0 o51 hL74 (g1000 + 1) rfl rfl) (tk [0] ⟨.o, .l, .i, .i, ⟨⟩⟩ ⟨od, ⟨⟩⟩)
 intro _ hG59 _ _ p73 l55 y56 o71 h ih57 g54 hp_p73 hr72
 subst hp_p73
 subst hr72
 refine LoopAt.round (.d (.d (sD h (fun hb60 h => ?_) (fun hb60 h => ?_))))
 refine .d (.d (bk h fun x61 hx62 h => ⟨idx_bd hx62, _, (idx_row hx62).trans (TEntry.cells_eq x61), ⟨rfl, _, fun _ => [.bool x61.fKey.fText, .int .i64 x61.fKey.fNum, .str x61.fKey.fStr, .int .i64 x61.fVal.fKind, .int .i64 x61.fVal.fNum, .str x61.fVal.fStr, .int .i64 x61.fVal.fNext, sl 8 TEntry.cells x61.fVal.fItems], rfl, one_set rfl, (.d ⟨rfl, ⟨rfl, _, rfl, (bk h fun v63 hv64 h => (pcP (ok_i_KeyValue hv64) (bk h fun v65 hv66 h => (pcOg (hG59 _ _ _ hv66 _) [0] ⟨ov, ⟨⟩⟩ (fun g67 => .own 0 g67 0 v65.length) (fun g67 => [.row g67 1 v65.length 5 (row cB v65), .row 0 8 1 63 (fun _ => x61.lit)]) fun g67 => ⟨rfl, ⟨rfl, _, rfl, (bk h fun v68 hv69 h => ?_)⟩⟩))))⟩⟩)⟩⟩))
 exact pcOg (hG59 _ _ _ hv69 _) [0] ⟨ov, ⟨⟩⟩ (fun g70 => .own 0 g70 0 v68.length) (fun g70 => [.row g70 1 v68.length 5 (row cB v68), .row 0 8 1 63 (fun _ => x61.lit)]) fun g70 => (lg (ih57 _ _ _ _ h g70 rfl rfl) (tk [0] ⟨.o, .l, .i, .i, ⟨⟩⟩ ⟨od, ⟨⟩⟩))
 exact ct ⟨_, g54, si h, rfl, rfl⟩ (tk [0] ⟨.o, ⟨⟩⟩ ⟨od, ⟨⟩⟩)
 rintro _ _ ⟨l50, g49, rfl, rfl, rfl⟩
 replace h := hk53
 refine .d ⟨row cB ([(125 : UInt8)] : List UInt8), row_lit cB ([(125 : UInt8)] : List UInt8) rfl (cll_refl rfl), (bk h fun l76 hx77 h => ⟨rfl, rfl, src_no (l := ([(125 : UInt8)] : List UInt8)) shows_all, lapp_bd hx77, l76.length, row cB l76, lapp_len hx77, lapp_row hx77 shows_all (src_own shows_all), ?_⟩)⟩
 obtain rfl := si h
 exact en [0] ⟨(g49 + 1), rfl, rfl⟩ .o ⟨od, ⟨⟩⟩
 intro F0 F1 hF0 hF1 a1 l55 y56 o h
 exact .mk F0 hF0 F1 hF1 a1 l55 y56 o h
theorem ok_i_appendSerial {a0 : List UInt8} {a1 : TValue} {r : (List UInt8)} {g1000 : Nat} (h : m_i_appendSerial a0 a1 = some r) : ACall Tryd.prog 51 [.own 0 g1000 0 a0.length, .agg a1.lit] [.row g1000 1 a0.length 5 (row cB a0)] (fun res h => ∃ G0 : Nat, res = .own 0 G0 0 r.length ∧ h = [.row G0 1 r.length 5 (row cB r)]) := grp__i_appendSerial.1 a0 a1 r h g1000
def m_i_Serialize (a0 : TValue) : Option (Str × Bool) :=
 m_i_IsValue a0 >>= fun v1 =>
 (if v1 = true then
 m_i_IsPlain a0 >>= fun v4 =>
 (if v4 = true then
 m_i_appendSerial ([] : List UInt8) a0 >>= fun v7 =>
 some (v7, true)
 else
 some ([], false))
 else
 some ([], false))
theorem ok_i_Serialize {a0 : TValue} {r : Str × Bool} (h : m_i_Serialize a0 = some r) : ACall Tryd.prog 20 [.agg a0.lit] [] (fun res h => res = .tup [.str r.1, .bool r.2] ∧ h = []) := by
 refine vc1 Tryd.func20 ?_
 unfold m_i_Serialize at h
 refine .d (.d (.d ⟨rfl, _, rfl, (bk h fun v1 hv2 h => (pcP (ok_i_IsValue hv2) (sVn h (fun hb3 h => ?_) (fun hb3 h => ?_))))⟩))
 refine .t (.t (.t (.t (.d ?_))))
 obtain rfl := si h
 exact en [] ⟨rfl, rfl⟩ (.tup_l ⟨.s, .b, ⟨⟩⟩) ⟨⟩
 refine ⟨rfl, _, rfl, (.f (bk h fun v4 hv5 h => (pcP (ok_i_IsPlain hv5) (.f (.f (sVn h (fun hb6 h => ?_) (fun hb6 h => ?_)))))))⟩
 refine .d ?_
 obtain rfl := si h
 exact en [] ⟨rfl, rfl⟩ (.tup_l ⟨.s, .b, ⟨⟩⟩) ⟨⟩
 refine .d ⟨rfl, _, rfl, (bk h fun v7 hv8 h => ⟨fun res h' => ∃ g9 : Nat, res = .own 1 g9 0 v7.length ∧ h' = [.row 0 5 1 24 (fun _ => a0.lit), .row g9 1 v7.length 5 (row cB v7)], ((ACall.nil0 (ok_i_appendSerial (g1000 := 0) hv8) rfl).frame [.row 0 5 1 24 (fun _ => a0.lit)] rfl).mono (by rintro _ _ ⟨_, _, ⟨g9, rfl, rfl⟩, rfl, rfl⟩; exact ⟨g9, rfl, by simp only [List.map_cons, List.map_nil, shiftO_row cB_pure]; rfl⟩), ?_⟩)⟩
 rintro _ _ ⟨g9, rfl, rfl⟩
 refine ⟨rfl, v7, rfl, bytes_shows shows_all rfl, ?_⟩
 obtain rfl := si h
 exact en [] ⟨rfl, rfl⟩ (.tup_l ⟨.s, .b, ⟨⟩⟩) ⟨⟩
end Go.Am
