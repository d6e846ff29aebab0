/- Models of Go functions, and their walks. (Printed by tools/mg.py.) -/
import Derived.Test.YtgkniabpdgaoiaaDoorF1
set_option linter.unusedVariables false
set_option linter.unusedSimpArgs false
namespace Go.Am
open Go Go.RowKit Go.Proofs
mutual
def m46 (a0 : TValue) : Option (TValue) :=
 (
 m46_L2 a0 ([] : List TEntry) 0
 : Option ((List TEntry))) >>= fun l1 =>
 some (TValue.mk a0.fKind a0.fNum a0.fStr a0.fNext l1)
partial_fixpoint
def m46_L2 (a0 : TValue) (l5 : List TEntry) (y6 : Int) : Option ((List TEntry)) :=
 (if y6 < (a0.fItems.length : Int) then
 idx a0.fItems y6 >>= fun x11 =>
 m46 x11.fVal >>= fun v13 =>
 lapp 96 l5 ([(TEntry.mk x11.fKey v13)] : List TEntry) >>= fun l15 =>
 m46_L2 a0 l15 (W64 (y6 + 1))
 else
 some l5)
partial_fixpoint
end
def okS19 (a0 : TValue) (r : TValue) : Prop := ACall Tryd.prog 19 [.agg a0.lit] [] (fun res h => res = .agg r.lit ∧ h = [])
inductive m46_L2_I : TValue → (List TEntry) → Int → ((List TEntry)) → Prop
 | mk (G19 : TValue → Option (TValue)) (hG19 : ∀ a0 r, G19 a0 = some r → okS19 a0 r) (F_m46_L2 : TValue → (List TEntry) → Int → Option ((List TEntry))) (hF_m46_L2 : ∀ a0 l5 y6 o, F_m46_L2 a0 l5 y6 = some o → m46_L2_I a0 l5 y6 o) (a0 : TValue) (l5 : List TEntry) (y6 : Int) (o : (List TEntry)) (h : (
 (if y6 < (a0.fItems.length : Int) then
 idx a0.fItems y6 >>= fun x11 =>
 G19 x11.fVal >>= fun v13 =>
 lapp 96 l5 ([(TEntry.mk x11.fKey v13)] : List TEntry) >>= fun l15 =>
 F_m46_L2 a0 l15 (W64 (y6 + 1))
 else
 some l5)
 ) = some o) : m46_L2_I a0 l5 y6 o
theorem m46_L2_ind {motive : TValue → (List TEntry) → Int → ((List TEntry)) → Prop} (step : ∀ (G19 : TValue → Option (TValue)) (hG19 : ∀ a0 r, G19 a0 = some r → okS19 a0 r) (F_m46_L2 : TValue → (List TEntry) → Int → Option ((List TEntry))) (hF_m46_L2 : ∀ a0 l5 y6 o, F_m46_L2 a0 l5 y6 = some o → m46_L2_I a0 l5 y6 o) (a0 : TValue) (l5 : List TEntry) (y6 : Int) (o : (List TEntry)) (h : (
 (if y6 < (a0.fItems.length : Int) then
 idx a0.fItems y6 >>= fun x11 =>
 G19 x11.fVal >>= fun v13 =>
 lapp 96 l5 ([(TEntry.mk x11.fKey v13)] : List TEntry) >>= fun l15 =>
 F_m46_L2 a0 l15 (W64 (y6 + 1))
 else
 some l5)
 ) = some o) (ih : ∀ a0 l5 y6 o, F_m46_L2 a0 l5 y6 = some o → motive a0 l5 y6 o), motive a0 l5 y6 o) : ∀ a0 l5 y6 o, m46_L2_I a0 l5 y6 o → motive a0 l5 y6 o :=
 fun a0 l5 y6 o h => m46_L2_I.rec (motive := fun a0 l5 y6 o _ => motive a0 l5 y6 o) step h
theorem grp_46 : (∀ a0 r, m46 a0 = some r → okS19 a0 r) ∧ (∀ a0 l5 y6 o, m46_L2 a0 l5 y6 = some o → m46_L2_I a0 l5 y6 o) := by
 refine m46.mutual_partial_correctness okS19 m46_L2_I ?_ ?_
 intro _ hI21 a0 r h
 refine vc1 Tryd.func19 ?_
 refine .d (.d ⟨rfl, _, rfl, ⟨rfl, _, fun _ => [.int .i64 a0.fKind, .int .i64 a0.fNum, .str a0.fStr, .int .i64 a0.fNext, sl 8 TEntry.cells a0.fItems], rfl, one_set rfl, (.d ⟨rfl, ⟨rfl, _, fun _ => [.int .i64 a0.fKind, .int .i64 a0.fNum, .str a0.fStr, .int .i64 a0.fNext, .nils], rfl, one_set rfl, ?_⟩⟩)⟩⟩)
 obtain ⟨o2, ho3, hk4⟩ := bd h
 replace h := ho3
 refine .cut (fun σ η => ∃ l1, l1 = o2 ∧ σ = [(2, .optr 0 0 0 0), (3, .optr 1 0 0 0)] ∧ η = [.row 0 5 1 29 (fun _ => [.int .i64 0, .int .i64 0, .str [], .int .i64 0, .nils]), .row 0 5 1 29 (fun _ => [.int .i64 a0.fKind, .int .i64 a0.fNum, .str a0.fStr, .int .i64 a0.fNext, .own 2 0 0 l1.length]), .row 0 8 l1.length 43 (row TEntry.cells l1)]) ?_ ?_
 refine .d ⟨rfl, ⟨rfl, _, rfl, ?_⟩⟩
 have hL20 := hI21 _ _ _ _ h
 refine le (m46_L2_ind (motive := fun p19 l5 y6 o17 => a0 = p19 → o2 = o17 → LoopAt _ _ [(2, .optr 0 0 0 0), (3, .optr 1 0 0 0), (9, sl 8 TEntry.cells a0.fItems), (10, .int .i64 (a0.fItems.length : Int)), (11, .int .i64 y6)] [.row 0 5 1 29 (fun _ => [.int .i64 0, .int .i64 0, .str [], .int .i64 0, .nils]), .row 0 5 1 29 (fun _ => [.int .i64 a0.fKind, .int .i64 a0.fNum, .str a0.fStr, .int .i64 a0.fNext, .own 2 0 0 l5.length]), .row 0 8 l5.length 43 (row TEntry.cells l5)]) ?_ a0 ([] : List TEntry) 0 o2 hL20 rfl rfl) (tk [1, 2, 5] ⟨.p, .p, .l, .i, .i, ⟨⟩⟩ ⟨(nb rfl ⟨.i, .i, .s, .i, .nils, ⟨⟩⟩), (nb rfl ⟨.i, .i, .s, .i, .g, ⟨⟩⟩), gh, ⟨⟩⟩)
 intro _ hG9 _ _ p19 l5 y6 o17 h ih7  hp_p19 hr18
 subst hp_p19
 subst hr18
 refine LoopAt.round (.d (.d (sD h (fun hb10 h => ?_) (fun hb10 h => ?_))))
 refine .d (.d (bk h fun x11 hx12 h => ⟨idx_bd hx12, _, (idx_row hx12).trans (TEntry.cells_eq x11), ⟨rfl, _, fun _ => [.bool x11.fKey.fText, .int .i64 x11.fKey.fNum, .str x11.fKey.fStr, .int .i64 x11.fVal.fKind, .int .i64 x11.fVal.fNum, .str x11.fVal.fStr, .int .i64 x11.fVal.fNext, sl 8 TEntry.cells x11.fVal.fItems], rfl, one_set rfl, (.float [(0, true), (1, true), (2, true), (3, true), (4, true), (5, true), (6, false), (7, true), (8, false), (9, false), (10, true), (11, false)] (by kernel_rfl) ?_)⟩⟩))
 refine ⟨rfl, ⟨rfl, _, rfl, ⟨rfl, ⟨rfl, _, rfl, ⟨rfl, ⟨rfl, _, rfl, (bk h fun v13 hv14 h => (pcP (hG9 _ _ hv14) ⟨rfl, ⟨rfl, ⟨rfl, ⟨rfl, ⟨row TEntry.cells ([(TEntry.mk x11.fKey v13)] : List TEntry), row_lit TEntry.cells ([(TEntry.mk x11.fKey v13)] : List TEntry) rfl (cll_cons (TEntry.cells_eq _) ⟨.same _, .same _, .same _, .same _, .same _, .same _, .same _, .same _, trivial⟩ trivial), ⟨rfl, ⟨rfl, ?_⟩⟩⟩⟩⟩⟩⟩))⟩⟩⟩⟩⟩⟩
 exact bk h fun l15 hx16 h => ⟨rfl, rfl, lapp_bd hx16, l15.length, row TEntry.cells l15, lapp_len hx16, lapp_row hx16 shows_all (src_own shows_all), ⟨rfl, ⟨rfl, _, fun _ => [.int .i64 a0.fKind, .int .i64 a0.fNum, .str a0.fStr, .int .i64 a0.fNext, .own 2 (0 + 1) 0 l15.length], rfl, one_set rfl, (lg (ih7 _ _ _ _ h rfl rfl) (tk [0, 1, 2] ⟨.p, .p, .l, .i, .i, ⟨⟩⟩ ⟨(nb rfl ⟨.i, .i, .s, .i, .nils, ⟨⟩⟩), (nb rfl ⟨.i, .i, .s, .i, .o, ⟨⟩⟩), nw, ⟨⟩⟩))⟩⟩⟩
 exact ct ⟨_, si h, rfl, rfl⟩ (tk [0, 1, 2] ⟨.p, .p, ⟨⟩⟩ ⟨(nb rfl ⟨.i, .i, .s, .i, .nils, ⟨⟩⟩), (nb rfl ⟨.i, .i, .s, .i, .o, ⟨⟩⟩), nw, ⟨⟩⟩)
 rintro _ _ ⟨l1, rfl, rfl, rfl⟩
 replace h := hk4
 refine .d ⟨rfl, _, rfl, ⟨rfl, _, fun _ => [.int .i64 a0.fKind, .int .i64 a0.fNum, .str a0.fStr, .int .i64 a0.fNext, .own 2 0 0 l1.length], rfl, one_set rfl, ?_⟩⟩
 obtain rfl := si h
 exact ⟨rfl, _, rfl, (en [] ⟨rfl, rfl⟩ (.agg_l ⟨.i, .i, .s, .i, .r, ⟨⟩⟩) ⟨⟩)⟩
 intro F0 F1 hF0 hF1 a0 l5 y6 o h
 exact .mk F0 hF0 F1 hF1 a0 l5 y6 o h
theorem ok46 {a0 : TValue} {r : TValue} (h : m46 a0 = some r) : ACall Tryd.prog 19 [.agg a0.lit] [] (fun res h => res = .agg r.lit ∧ h = []) := grp_46.1 a0 r h
def okS24 (a0 : TValue) (a1 : Int) (r : Int) : Prop := ACall Tryd.prog 24 [.agg a0.lit, .int .i64 a1] [] (fun res h => res = .int .i64 r ∧ h = [])
inductive m51_L2_I : TValue → Int → Int → Int → (Int) → Prop
 | mk (G24 : TValue → Int → Option (Int)) (hG24 : ∀ a0 a1 r, G24 a0 a1 = some r → okS24 a0 a1 r) (F_m51_L2 : TValue → Int → Int → Int → Option (Int)) (hF_m51_L2 : ∀ a0 a1 y5 y6 o, F_m51_L2 a0 a1 y5 y6 = some o → m51_L2_I a0 a1 y5 y6 o) (a0 : TValue) (a1 : Int) (y5 : Int) (y6 : Int) (o : Int) (h : (
 (if a0.fKind = 4 then
 (if y6 < (a0.fItems.length : Int) then
 (if y5 ≤ a1 then
 idx a0.fItems y6 >>= fun x13 =>
 G24 x13.fVal (W64 (a1 - y5)) >>= fun v15 =>
 F_m51_L2 a0 a1 (W64 (y5 + v15)) (W64 (y6 + 1))
 else
 some y5)
 else
 some y5)
 else
 some y5)
 ) = some o) : m51_L2_I a0 a1 y5 y6 o
def okS49 (a0 : TValue) (r : Int) : Prop := ACall Tryd.prog 49 [.agg a0.lit] [] (fun res h => res = .int .i64 r ∧ h = [])
inductive m_i_Weight_L2_I : TValue → Int → Int → (Int) → Prop
 | mk (G49 : TValue → Option (Int)) (hG49 : ∀ a0 r, G49 a0 = some r → okS49 a0 r) (F_m_i_Weight_L2 : TValue → Int → Int → Option (Int)) (hF_m_i_Weight_L2 : ∀ a0 y6 y7 o, F_m_i_Weight_L2 a0 y6 y7 = some o → m_i_Weight_L2_I a0 y6 y7 o) (a0 : TValue) (y6 : Int) (y7 : Int) (o : Int) (h : (
 (if y7 < (a0.fItems.length : Int) then
 idx a0.fItems y7 >>= fun x12 =>
 G49 x12.fVal >>= fun v14 =>
 F_m_i_Weight_L2 a0 (W64 (y6 + v14)) (W64 (y7 + 1))
 else
 some y6)
 ) = some o) : m_i_Weight_L2_I a0 y6 y7 o
def m94_L2 (s6 : Str) (y7 : Int) : Option (Str) :=
 (if y7 = 0 then
 some s6
 else
 (if (y7.tmod 10) < 0 then
 scat ([UInt8.ofNat (IntKind.u8.wrap (W64 (48 + (W64 (0 - (y7.tmod 10)))))).toNat] : List UInt8) s6 >>= fun s12 =>
 m94_L2 s12 (W64 (y7.tdiv 10))
 else
 scat ([UInt8.ofNat (IntKind.u8.wrap (W64 (48 + (y7.tmod 10)))).toNat] : List UInt8) s6 >>= fun s14 =>
 m94_L2 s14 (W64 (y7.tdiv 10))))
partial_fixpoint
def m94 (a0 : Int) : Option (Str) :=
 (if a0 = 0 then
 some [48]
 else
 (
 m94_L2 [] a0
 : Option (Str)) >>= fun s2 =>
 (if a0 < 0 then
 scat [45] s2 >>= fun s19 =>
 some s19
 else
 some s2))
def m61_L2 (a0 : Str) (y8 : Int) (y9 : Int) : Option ((Int) ⊕ (Int × Bool)) :=
 (if y9 < (a0.length : Int) then
 sidx a0 y9 >>= fun c13 =>
 m53 (W64 ((c13.toNat : Int))) 48 57 >>= fun v15 =>
 (if v15 = true then
 sidx a0 y9 >>= fun c18 =>
 m61_L2 a0 (W64 ((W64 (10 * y8)) + (W64 (IntKind.u8.wrap ((c18.toNat : Int) - 48))))) (W64 (y9 + 1))
 else
 some (.inr (0, false)))
 else
 some (.inl y8))
partial_fixpoint
def m61 (a0 : Str) : Option (Int × Bool) :=
 m53 (a0.length : Int) 1 13 >>= fun v1 =>
 (if v1 = true then
 ((
 m61_L2 a0 0 0
 : Option ((Int) ⊕ (Int × Bool))) >>= fun o5 => match o5 with
 | .inr r => some r
 | .inl y4 =>
 (if y4 > 1000000000000 then
 some (0, false)
 else
 m94 y4 >>= fun v23 =>
 (if v23 = a0 then
 some (y4, true)
 else
 some (0, false)))
 )
 else
 some (0, false))
def m54 (a0 : Str) : Option (Int × Bool) :=
 (
 (if (a0.length : Int) > 0 then
 sidx a0 0 >>= fun c6 =>
 some ((c6.toNat : Int) == 45)
 else
 some false)
 : Option (Bool)) >>= fun b1 =>
 (
 (if b1 = true then
 sfrom a0 1 >>= fun s13 =>
 some s13
 else
 some a0)
 : Option (Str)) >>= fun s8 =>
 m61 s8 >>= fun (v15, v16) =>
 (if v16 = true then
 (if v15 > 1000000000 then
 some (0, false)
 else
 (if b1 = true then
 (if v15 = 0 then
 some (0, false)
 else
 some (W64 (0 - v15), true))
 else
 some (v15, true)))
 else
 some (0, false))
def m23 (a0 : TKey) : Option (Bool) :=
 (if a0.fText = true then
 m54 a0.fStr >>= fun (v5, v6) =>
 (if a0.fNum = 0 then
 (if (a0.fStr.length : Int) ≤ 400 then
 some (!v6)
 else
 some false)
 else
 some false)
 else
 m53 a0.fNum (-1000000000) 1000000000 >>= fun v2 =>
 (if v2 = true then
 some (a0.fStr == ([] : Str))
 else
 some false))
def okS25 (a0 : TValue) (r : Bool) : Prop := ACall Tryd.prog 25 [.agg a0.lit] [] (fun res h => res = .bool r ∧ h = [])
inductive m52_L4_I : TValue → Int → ((Unit) ⊕ ((Unit) ⊕ Bool)) → Prop
 | mk (G25 : TValue → Option (Bool)) (hG25 : ∀ a0 r, G25 a0 = some r → okS25 a0 r) (F_m52_L4 : TValue → Int → Option ((Unit) ⊕ ((Unit) ⊕ Bool))) (hF_m52_L4 : ∀ a0 y41 o, F_m52_L4 a0 y41 = some o → m52_L4_I a0 y41 o) (a0 : TValue) (y41 : Int) (o : (Unit) ⊕ ((Unit) ⊕ Bool)) (h : (
 (if y41 < (a0.fItems.length : Int) then
 idx a0.fItems y41 >>= fun x46 =>
 m23 x46.fKey >>= fun v48 =>
 (if v48 = true then
 (if x46.fKey.fText = true then
 m90 a0 x46.fKey >>= fun v61 =>
 (if v61 = y41 then
 idx a0.fItems y41 >>= fun x64 =>
 G25 x64.fVal >>= fun v66 =>
 (if v66 = true then
 F_m52_L4 a0 (W64 (y41 + 1))
 else
 some (.inr (.inr false)))
 else
 some (.inr (.inr false)))
 else
 (if x46.fKey.fNum ≥ a0.fNext then
 some (.inr (.inr false))
 else
 m90 a0 x46.fKey >>= fun v53 =>
 (if v53 = y41 then
 idx a0.fItems y41 >>= fun x56 =>
 G25 x56.fVal >>= fun v58 =>
 (if v58 = true then
 F_m52_L4 a0 (W64 (y41 + 1))
 else
 some (.inr (.inr false)))
 else
 some (.inr (.inr false)))))
 else
 some (.inr (.inr false)))
 else
 some (.inl ()))
 ) = some o) : m52_L4_I a0 y41 o
mutual
def m19 (a0 : TValue) (a1 : TValue) : Option (Bool) :=
 (if a0.fKind = a1.fKind then
 (if a0.fNum = a1.fNum then
 (if a0.fStr = a1.fStr then
 (if a0.fNext = a1.fNext then
 (if (a0.fItems.length : Int) = (a1.fItems.length : Int) then
 ((
 m19_L2 a0 a1 0
 : Option ((Unit) ⊕ Bool)) >>= fun o6 => match o6 with
 | .inr r => some r
 | .inl _ =>
 some true
 )
 else
 some false)
 else
 some false)
 else
 some false)
 else
 some false)
 else
 some false)
partial_fixpoint
def m19_L2 (a0 : TValue) (a1 : TValue) (y9 : Int) : Option ((Unit) ⊕ Bool) :=
 (if y9 < (a0.fItems.length : Int) then
 idx a0.fItems y9 >>= fun x14 =>
 idx a1.fItems y9 >>= fun x16 =>
 (if x14.fKey = x16.fKey then
 idx a0.fItems y9 >>= fun x19 =>
 idx a1.fItems y9 >>= fun x21 =>
 m19 x19.fVal x21.fVal >>= fun v23 =>
 (if v23 = true then
 m19_L2 a0 a1 (W64 (y9 + 1))
 else
 some (.inr false))
 else
 some (.inr false))
 else
 some (.inl ()))
partial_fixpoint
end
def okS8 (a0 : TValue) (a1 : TValue) (r : Bool) : Prop := ACall Tryd.prog 8 [.agg a0.lit, .agg a1.lit] [] (fun res h => res = .bool r ∧ h = [])
inductive m19_L2_I : TValue → TValue → Int → ((Unit) ⊕ Bool) → Prop
 | mk (G8 : TValue → TValue → Option (Bool)) (hG8 : ∀ a0 a1 r, G8 a0 a1 = some r → okS8 a0 a1 r) (F_m19_L2 : TValue → TValue → Int → Option ((Unit) ⊕ Bool)) (hF_m19_L2 : ∀ a0 a1 y9 o, F_m19_L2 a0 a1 y9 = some o → m19_L2_I a0 a1 y9 o) (a0 : TValue) (a1 : TValue) (y9 : Int) (o : (Unit) ⊕ Bool) (h : (
 (if y9 < (a0.fItems.length : Int) then
 idx a0.fItems y9 >>= fun x14 =>
 idx a1.fItems y9 >>= fun x16 =>
 (if x14.fKey = x16.fKey then
 idx a0.fItems y9 >>= fun x19 =>
 idx a1.fItems y9 >>= fun x21 =>
 G8 x19.fVal x21.fVal >>= fun v23 =>
 (if v23 = true then
 F_m19_L2 a0 a1 (W64 (y9 + 1))
 else
 some (.inr false))
 else
 some (.inr false))
 else
 some (.inl ()))
 ) = some o) : m19_L2_I a0 a1 y9 o
theorem m19_L2_ind {motive : TValue → TValue → Int → ((Unit) ⊕ Bool) → Prop} (step : ∀ (G8 : TValue → TValue → Option (Bool)) (hG8 : ∀ a0 a1 r, G8 a0 a1 = some r → okS8 a0 a1 r) (F_m19_L2 : TValue → TValue → Int → Option ((Unit) ⊕ Bool)) (hF_m19_L2 : ∀ a0 a1 y9 o, F_m19_L2 a0 a1 y9 = some o → m19_L2_I a0 a1 y9 o) (a0 : TValue) (a1 : TValue) (y9 : Int) (o : (Unit) ⊕ Bool) (h : (
 (if y9 < (a0.fItems.length : Int) then
 idx a0.fItems y9 >>= fun x14 =>
 idx a1.fItems y9 >>= fun x16 =>
 (if x14.fKey = x16.fKey then
 idx a0.fItems y9 >>= fun x19 =>
 idx a1.fItems y9 >>= fun x21 =>
 G8 x19.fVal x21.fVal >>= fun v23 =>
 (if v23 = true then
 F_m19_L2 a0 a1 (W64 (y9 + 1))
 else
 some (.inr false))
 else
 some (.inr false))
 else
 some (.inl ()))
 ) = some o) (ih : ∀ a0 a1 y9 o, F_m19_L2 a0 a1 y9 = some o → motive a0 a1 y9 o), motive a0 a1 y9 o) : ∀ a0 a1 y9 o, m19_L2_I a0 a1 y9 o → motive a0 a1 y9 o :=
 fun a0 a1 y9 o h => m19_L2_I.rec (motive := fun a0 a1 y9 o _ => motive a0 a1 y9 o) step h
theorem grp_19 : (∀ a0 a1 r, m19 a0 a1 = some r → okS8 a0 a1 r) ∧ (∀ a0 a1 y9 o, m19_L2 a0 a1 y9 = some o → m19_L2_I a0 a1 y9 o) := by
 refine m19.mutual_partial_correctness okS8 m19_L2_I ?_ ?_
 intro _ hI31 a0 a1 r h
 refine vc1 Tryd.func8 ?_
 refine .d (.d (.d ⟨rfl, ⟨rfl, _, rfl, ⟨rfl, ⟨rfl, _, rfl, (sN h (fun hb1 h => ?_) (fun hb1 h => ?_))⟩⟩⟩⟩))
 refine .t (.t (.t (.t (.t (.t (.t (.t (.t (.t (.t (.t (.t (.t (.t ?_))))))))))))))
 exact .t (.t (.t (.t (.t (.t (.t (.t (.t (.t (.t (.d (eB h))))))))))))
 refine ⟨rfl, (.f ⟨rfl, _, rfl, (.f ⟨rfl, (.f ⟨rfl, _, rfl, (.f (.f (sN h (fun hb2 h => ?_) (fun hb2 h => ?_))))⟩)⟩)⟩)⟩
 refine .t (.t (.t (.t (.t (.t (.t (.t (.t (.t (.t (.t (.t (.t (.t ?_))))))))))))))
 exact .t (.t (.t (.t (.t (.d (eB h))))))
 refine ⟨rfl, (.f ⟨rfl, _, rfl, (.f ⟨rfl, (.f ⟨rfl, _, rfl, (.f (.f (sEn h (fun hb3 h => ?_) (fun hb3 h => ?_))))⟩)⟩)⟩)⟩
 refine .t (.t (.t (.t (.t (.t (.t (.t (.t (.t (.t (.t (.t (.t (.d ?_))))))))))))))
 exact eB h
 refine ⟨rfl, (.f ⟨rfl, _, rfl, (.f ⟨rfl, (.f ⟨rfl, _, rfl, (.f (.f (sN h (fun hb4 h => ?_) (fun hb4 h => ?_))))⟩)⟩)⟩)⟩
 exact .t (.t (.t (.t (.t (.t (.t (.t (.d (eB h)))))))))
 refine ⟨rfl, (.f ⟨rfl, _, rfl, (.f (.f ⟨rfl, (.f ⟨rfl, _, rfl, (.f (.f (.f (sN h (fun hb5 h => ?_) (fun hb5 h => ?_)))))⟩)⟩))⟩)⟩
 exact .d (eB h)
 obtain ⟨o6, ho7, hk8⟩ := bd h
 replace h := ho7
 refine .cut (fun σ η => .inl () = o6 ∧ σ = [] ∧ η = []) ?_ ?_
 refine .d ?_
 have hL30 := hI31 _ _ _ _ h
 refine le (m19_L2_ind (motive := fun p28 p29 y9 o26 => a0 = p28 → a1 = p29 → o6 = o26 → LoopAt _ _ [(2, .optr 0 0 0 0), (3, .optr 1 0 0 0), (5, .int .i64 y9)] [.row 0 5 1 29 (fun _ => a0.lit), .row 0 5 1 29 (fun _ => a1.lit)]) ?_ a0 a1 0 o6 hL30 rfl rfl rfl) (tk [0, 1] ⟨.p, .p, .i, ⟨⟩⟩ ⟨(nbp rfl), (nbp rfl), ⟨⟩⟩)
 intro _ hG12 _ _ p28 p29 y9 o26 h ih10  hp_p28 hp_p29 hr27
 subst hp_p28
 subst hp_p29
 subst hr27
 refine LoopAt.round (.d (.d ⟨rfl, ⟨rfl, _, rfl, (sD h (fun hb13 h => ?_) (fun hb13 h => ?_))⟩⟩))
 refine .d (.d (.float [(0, true), (1, true), (2, true), (3, true), (4, true), (5, true), (6, true), (7, true), (8, true), (9, true), (10, true), (11, true), (12, true), (13, true), (14, true), (15, true), (16, true), (17, true), (18, true), (19, true), (20, true), (21, true), (22, true), (23, true), (24, true), (25, true), (26, false), (27, true), (28, true)] (by kernel_rfl) ?_))
 refine ⟨rfl, ⟨rfl, _, rfl, (bk h fun x14 hx15 h => ⟨idx_bd hx15, _, (idx_row hx15).trans (TEntry.cells_eq x14), ⟨rfl, ⟨rfl, _, rfl, (bk h fun x16 hx17 h => ⟨idx_bd hx17, _, (idx_row hx17).trans (TEntry.cells_eq x16), ⟨_, TKey.eq_cells x14.fKey x16.fKey, (sDn h (fun hb18 h => ?_) (fun hb18 h => ?_))⟩⟩)⟩⟩⟩)⟩⟩
 refine .t (.t (.t (.t (.t (.t (.t (.t (.t (.t (.t (.t (.t (.t (.t ?_))))))))))))))
 refine .d ?_
 obtain rfl := si h
 replace h := hk8
 exact eB h
 refine ⟨rfl, (.f ⟨rfl, _, rfl, (.f (.f (bk h fun x19 hx20 h => ⟨idx_bd hx20, _, (idx_row hx20).trans (TEntry.cells_eq x19), (.f (.f (.f ⟨rfl, (.f ⟨rfl, _, rfl, (.f (.f ?_))⟩)⟩)))⟩)))⟩)⟩
 refine bk h fun x21 hx22 h => ⟨idx_bd hx22, _, (idx_row hx22).trans (TEntry.cells_eq x21), (.f (.f (.f (bk h fun v23 hv24 h => (pcP (hG12 _ _ _ hv24) (.f (.f (sVn h (fun hb25 h => ?_) (fun hb25 h => ?_)))))))))⟩
 refine .d ?_
 obtain rfl := si h
 replace h := hk8
 exact eB h
 exact lg (ih10 _ _ _ _ h rfl rfl rfl) (tk [0, 1] ⟨.p, .p, .i, ⟨⟩⟩ ⟨(nbp rfl), (nbp rfl), ⟨⟩⟩)
 exact ct ⟨si h, rfl, rfl⟩ (tk [] ⟨⟩ ⟨⟩)
 rintro _ _ ⟨rfl, rfl, rfl⟩
 replace h := hk8
 exact .d (eB h)
 intro F0 F1 hF0 hF1 a0 a1 y9 o h
 exact .mk F0 hF0 F1 hF1 a0 a1 y9 o h
theorem ok19 {a0 : TValue} {a1 : TValue} {r : Bool} (h : m19 a0 a1 = some r) : ACall Tryd.prog 8 [.agg a0.lit, .agg a1.lit] [] (fun res h => res = .bool r ∧ h = []) := grp_19.1 a0 a1 r h
end Go.Am
