/- Texts of the proof, joined and shortened. -/
import Derived.Test.YtalfppmpmnlnlaaGreatDoorPk7
set_option linter.unusedVariables false
set_option linter.unusedSimpArgs false
namespace Go.Am
open Go Go.RowKit Go.Proofs
mutual
def Sf (a0 : af) (a1 : Int) : Option (Int) :=
 (
 tv a0 a1 1 0
 : Option (Int)) >>= fun y1 =>
 some y1
partial_fixpoint
def tv (a0 : af) (a1 : Int) (y5 : Int) (y6 : Int) : Option (Int) :=
 (if a0.aJ = 4 then
 (if y6 < (a0.ai.length : Int) then
 (if y5 ≤ a1 then
 idx a0.ai y6 >>= fun sx =>
 Sf sx.aL (ah (a1 - y5)) >>= fun pt =>
 tv a0 a1 (ah (y5 + pt)) (ah (y6 + 1))
 else
 some y5)
 else
 some y5)
 else
 some y5)
partial_fixpoint
end
def Kf (a0 : af) (a1 : Int) (r : Int) : Prop := ACall Tryz.prog 94 [.agg a0.lit, .int .i64 a1] [] (fun res h => res = .int .i64 r ∧ h = [])
inductive pz : af → Int → Int → Int → (Int) → Prop
 | mk (X2 : af → Int → Option (Int)) (abc : ∀ a0 a1 r, X2 a0 a1 = some r → Kf a0 a1 r) (qX : af → Int → Int → Int → Option (Int)) (Lg : ∀ a0 a1 y5 y6 o, qX a0 a1 y5 y6 = some o → pz a0 a1 y5 y6 o) (a0 : af) (a1 : Int) (y5 : Int) (y6 : Int) (o : Int) (h : (
 (if a0.aJ = 4 then
 (if y6 < (a0.ai.length : Int) then
 (if y5 ≤ a1 then
 idx a0.ai y6 >>= fun sx =>
 X2 sx.aL (ah (a1 - y5)) >>= fun pt =>
 qX a0 a1 (ah (y5 + pt)) (ah (y6 + 1))
 else
 some y5)
 else
 some y5)
 else
 some y5)
 ) = some o) : pz a0 a1 y5 y6 o
theorem IJ {motive : af → Int → Int → Int → (Int) → Prop} (step : ∀ (X2 : af → Int → Option (Int)) (abc : ∀ a0 a1 r, X2 a0 a1 = some r → Kf a0 a1 r) (qX : af → Int → Int → Int → Option (Int)) (Lg : ∀ a0 a1 y5 y6 o, qX a0 a1 y5 y6 = some o → pz a0 a1 y5 y6 o) (a0 : af) (a1 : Int) (y5 : Int) (y6 : Int) (o : Int) (h : (
 (if a0.aJ = 4 then
 (if y6 < (a0.ai.length : Int) then
 (if y5 ≤ a1 then
 idx a0.ai y6 >>= fun sx =>
 X2 sx.aL (ah (a1 - y5)) >>= fun pt =>
 qX a0 a1 (ah (y5 + pt)) (ah (y6 + 1))
 else
 some y5)
 else
 some y5)
 else
 some y5)
 ) = some o) (ih : ∀ a0 a1 y5 y6 o, qX a0 a1 y5 y6 = some o → motive a0 a1 y5 y6 o), motive a0 a1 y5 y6 o) : ∀ a0 a1 y5 y6 o, pz a0 a1 y5 y6 o → motive a0 a1 y5 y6 o :=
 fun a0 a1 y5 y6 o h => pz.rec (motive := fun a0 a1 y5 y6 o _ => motive a0 a1 y5 y6 o) step h
theorem T4 : (∀ a0 a1 r, Sf a0 a1 = some r → Kf a0 a1 r) ∧ (∀ a0 a1 y5 y6 o, tv a0 a1 y5 y6 = some o → pz a0 a1 y5 y6 o) := by
 refine Sf.mutual_partial_correctness Kf pz ?_ ?_
 intro _ T5 a0 a1 r h
 refine cP Tryz.func94 ?_
 refine .d (.d ?_)
 obtain ⟨o2, qD, nB⟩ := bd h
 replace h := qD
 refine .cut (fun σ η => ∃ y1, y1 = o2 ∧ σ = [(5, .int .i64 y1)] ∧ η = []) ?_ ?_
 refine .d ?_
 have T6 := T5 _ _ _ _ _ h
 refine le (IJ (motive := fun p19 X3 y5 y6 Sg => a0 = p19 → a1 = X3 → o2 = Sg → az _ _ [(1, .int .i64 a1), (2, .aN 0 0 0 0), (5, .int .i64 y5), (6, .int .i64 y6)] [.row 0 5 1 97 (fun _ => a0.lit)]) ?_ a0 a1 1 0 o2 T6 rfl rfl rfl) (tk [0] ⟨.i, .p, .i, .i, ⟨⟩⟩ ⟨(bf rfl), ⟨⟩⟩)
 intro _ hG9 _ _ p19 X3 y5 y6 Sg h L5  T7 IK Nb
 subst T7
 subst IK
 subst Nb
 refine az.round (.d (.d ⟨rfl, ⟨rfl, _, rfl, (sE h (fun eY h => ?_) (fun eY h => ?_))⟩⟩))
 refine .t ⟨rfl, (.t ⟨rfl, _, rfl, (.t (.t (.t (sD h (fun jU h => ?_) (fun jU h => ?_)))))⟩)⟩
 refine .t (.t (.t (sD h (fun ly h => ?_) (fun ly h => ?_))))
 exact .d ⟨rfl, ⟨rfl, _, rfl, (bk h fun sx qK h => ⟨aI qK, _, (aF qK).trans (ae.au sx), (bk h fun pt vo h => (bO (hG9 _ _ _ vo) (lg (L5 _ _ _ _ _ h rfl rfl rfl) (tk [0] ⟨.i, .p, .i, .i, ⟨⟩⟩ ⟨(bf rfl), ⟨⟩⟩))))⟩)⟩⟩
 exact afQ
 exact .f (.f (.f (.f (ct ⟨_, si h, rfl, rfl⟩ (tk [] ⟨.i, ⟨⟩⟩ ⟨⟩)))))
 exact .f (.f (.f (.f (.f (.f (.f (.f (.f (.f (ct ⟨_, si h, rfl, rfl⟩ (tk [] ⟨.i, ⟨⟩⟩ ⟨⟩)))))))))))
 exact aft
 intro F0 F1 B8 B9 a0 a1 y5 y6 o h
 exact .mk F0 B8 F1 B9 a0 a1 y5 y6 o h
theorem abd {a0 : af} {a1 : Int} {r : Int} (h : Sf a0 a1 = some r) : ACall Tryz.prog 94 [.agg a0.lit, .int .i64 a1] [] (fun res h => res = .int .i64 r ∧ h = []) := T4.1 a0 a1 r h
mutual
def lD (a0 : af) : Option (Int) :=
 (
 (if a0.aJ = 4 then
 ja a0 1 0
 else
 some 1)
 : Option (Int)) >>= fun y1 =>
 some y1
partial_fixpoint
def ja (a0 : af) (y6 : Int) (y7 : Int) : Option (Int) :=
 (if y7 < (a0.ai.length : Int) then
 idx a0.ai y7 >>= fun mO =>
 lD mO.aL >>= fun Qv =>
 ja a0 (ah (y6 + Qv)) (ah (y7 + 1))
 else
 some y6)
partial_fixpoint
end
def Er (a0 : af) (r : Int) : Prop := ACall Tryz.prog 111 [.agg a0.lit] [] (fun res h => res = .int .i64 r ∧ h = [])
inductive fU : af → Int → Int → (Int) → Prop
 | mk (Nc : af → Option (Int)) (X4 : ∀ a0 r, Nc a0 = some r → Er a0 r) (iG : af → Int → Int → Option (Int)) (xP : ∀ a0 y6 y7 o, iG a0 y6 y7 = some o → fU a0 y6 y7 o) (a0 : af) (y6 : Int) (y7 : Int) (o : Int) (h : (
 (if y7 < (a0.ai.length : Int) then
 idx a0.ai y7 >>= fun mO =>
 Nc mO.aL >>= fun Qv =>
 iG a0 (ah (y6 + Qv)) (ah (y7 + 1))
 else
 some y6)
 ) = some o) : fU a0 y6 y7 o
theorem wy {motive : af → Int → Int → (Int) → Prop} (step : ∀ (Nc : af → Option (Int)) (X4 : ∀ a0 r, Nc a0 = some r → Er a0 r) (iG : af → Int → Int → Option (Int)) (xP : ∀ a0 y6 y7 o, iG a0 y6 y7 = some o → fU a0 y6 y7 o) (a0 : af) (y6 : Int) (y7 : Int) (o : Int) (h : (
 (if y7 < (a0.ai.length : Int) then
 idx a0.ai y7 >>= fun mO =>
 Nc mO.aL >>= fun Qv =>
 iG a0 (ah (y6 + Qv)) (ah (y7 + 1))
 else
 some y6)
 ) = some o) (ih : ∀ a0 y6 y7 o, iG a0 y6 y7 = some o → motive a0 y6 y7 o), motive a0 y6 y7 o) : ∀ a0 y6 y7 o, fU a0 y6 y7 o → motive a0 y6 y7 o :=
 fun a0 y6 y7 o h => fU.rec (motive := fun a0 y6 y7 o _ => motive a0 y6 y7 o) step h
theorem Cy : (∀ a0 r, lD a0 = some r → Er a0 r) ∧ (∀ a0 y6 y7 o, ja a0 y6 y7 = some o → fU a0 y6 y7 o) := by
 refine lD.mutual_partial_correctness Er fU ?_ ?_
 intro _ abe a0 r h
 refine cP Tryz.func111 ?_
 refine .d (.d ?_)
 obtain ⟨o2, qD, nB⟩ := bd h
 replace h := qD
 refine .cut (fun σ η => ∃ y1, y1 = o2 ∧ σ = [(3, .int .i64 y1)] ∧ η = []) ?_ ?_
 refine .d ⟨rfl, ⟨rfl, _, rfl, (sE h (fun nW h => ?_) (fun nW h => ?_))⟩⟩
 refine .d ⟨rfl, ⟨rfl, _, rfl, ?_⟩⟩
 have abf := abe _ _ _ _ h
 refine le (wy (motive := fun p18 y6 y7 lW => a0 = p18 → o2 = lW → az _ _ [(3, .int .i64 y6), (10, sl 8 ae.cells a0.ai), (11, .int .i64 (a0.ai.length : Int)), (12, .int .i64 y7)] []) ?_ a0 1 0 o2 abf rfl rfl) (tk [] ⟨.i, .l, .i, .i, ⟨⟩⟩ ⟨⟩)
 intro _ abg _ _ p18 y6 y7 lW h CQ  T8 kc
 subst T8
 subst kc
 refine az.round (.d (.d (sD h (fun jU h => ?_) (fun jU h => ?_))))
 exact .d (.d (bk h fun mO oT h => ⟨aI oT, _, (aF oT).trans (ae.au mO), ⟨rfl, _, fun _ => [.bool mO.aX.cr, .int .i64 mO.aX.bb, .str mO.aX.bm, .int .i64 mO.aL.aJ, .int .i64 mO.aL.bb, .str mO.aL.bm, .int .i64 mO.aL.bs, sl 8 ae.cells mO.aL.ai], rfl, aM rfl, ⟨rfl, ⟨rfl, _, rfl, (bk h fun Qv T9 h => (bO (abg _ _ T9) (lg (CQ _ _ _ _ h rfl rfl) (tk [] ⟨.i, .l, .i, .i, ⟨⟩⟩ ⟨⟩))))⟩⟩⟩⟩))
 exact afQ
 exact afQ
 exact aft
 intro F0 F1 B8 B9 a0 y6 y7 o h
 exact .mk F0 B8 F1 B9 a0 y6 y7 o h
theorem Gx {a0 : af} {r : Int} (h : lD a0 = some r) : ACall Tryz.prog 111 [.agg a0.lit] [] (fun res h => res = .int .i64 r ∧ h = []) := Cy.1 a0 r h
def tw (s6 : ba) (y7 : Int) : Option (ba) :=
 (if y7 = 0 then
 some s6
 else
 (if (y7.tmod 10) < 0 then
 gZ ([UInt8.ofNat (IntKind.u8.wrap (ah (48 + (ah (0 - (y7.tmod 10)))))).toNat] : List UInt8) s6 >>= fun Ua =>
 tw Ua (ah (y7.tdiv 10))
 else
 gZ ([UInt8.ofNat (IntKind.u8.wrap (ah (48 + (y7.tmod 10)))).toNat] : List UInt8) s6 >>= fun Ub =>
 tw Ub (ah (y7.tdiv 10))))
partial_fixpoint
def PL (a0 : Int) : Option (ba) :=
 (if a0 = 0 then
 some [48]
 else
 (
 tw [] a0
 : Option (ba)) >>= fun s2 =>
 (if a0 < 0 then
 gZ [45] s2 >>= fun Uc =>
 some Uc
 else
 some s2))
theorem Lh {a0 : Int} {r : ba} (h : PL a0 = some r) : ACall Tryz.prog 143 [.int .i64 a0] [] (fun res h => res = .str r ∧ h = []) := by
 refine cP Tryz.func143 ?_
 unfold PL at h
 refine .d (.d (.d (sE h (fun de h => ?_) (fun de h => ?_))))
 exact .d (eS h)
 refine .d ?_
 obtain ⟨o3, DH, uQ⟩ := bd h
 replace h := DH
 refine .cut (fun σ η => ∃ s2, s2 = o3 ∧ σ = [(0, .int .i64 a0), (3, .str s2)] ∧ η = []) ?_ ?_
 refine .d ?_
 refine le (tw.partial_correctness  (motive := fun s6 y7 lW => o3 = lW → az _ _ [(0, .int .i64 a0), (3, .str s6), (4, .int .i64 y7)] []) ?_ [] a0 o3 h rfl) (tk [] ⟨.i, .s, .i, ⟨⟩⟩ ⟨⟩)
 intro F9 CQ s6 y7 lW h kc
 subst kc
 refine az.round (.d (.d (sN h (fun eY h => ?_) (fun eY h => ?_))))
 refine .d (.d ⟨by decide, (.d (.d (sD h (fun jU h => ?_) (fun jU h => ?_))))⟩)
 exact ⟨row cB ([UInt8.ofNat (IntKind.u8.wrap (ah (48 + (ah (0 - (y7.tmod 10)))))).toNat] : List UInt8), dN cB ([UInt8.ofNat (IntKind.u8.wrap (ah (48 + (ah (0 - (y7.tmod 10)))))).toNat] : List UInt8) rfl (oY (qj _) ⟨.same _, trivial⟩ trivial), ⟨rfl, ([UInt8.ofNat (IntKind.u8.wrap (ah (48 + (ah (0 - (y7.tmod 10)))))).toNat] : List UInt8), rfl, qk bg rfl, (bk h fun Ua oT h => ⟨bZ oT, Ua, b8 oT, ⟨by decide, (lg (CQ _ _ _ h rfl) (tk [] ⟨.i, .s, .i, ⟨⟩⟩ ⟨⟩))⟩⟩)⟩⟩
 exact ⟨row cB ([UInt8.ofNat (IntKind.u8.wrap (ah (48 + (y7.tmod 10)))).toNat] : List UInt8), dN cB ([UInt8.ofNat (IntKind.u8.wrap (ah (48 + (y7.tmod 10)))).toNat] : List UInt8) rfl (oY (qj _) ⟨.same _, trivial⟩ trivial), ⟨rfl, ([UInt8.ofNat (IntKind.u8.wrap (ah (48 + (y7.tmod 10)))).toNat] : List UInt8), rfl, qk bg rfl, (bk h fun Ub lT h => ⟨bZ lT, Ub, b8 lT, ⟨by decide, (lg (CQ _ _ _ h rfl) (tk [] ⟨.i, .s, .i, ⟨⟩⟩ ⟨⟩))⟩⟩)⟩⟩
 exact ct ⟨_, si h, rfl, rfl⟩ (tk [] ⟨.i, .s, ⟨⟩⟩ ⟨⟩)
 rintro _ _ ⟨s2, rfl, rfl, rfl⟩
 replace h := uQ
 refine .d (.d (sD h (fun oX h => ?_) (fun oX h => ?_)))
 exact .d (bk h fun Uc uK h => ⟨bZ uK, Uc, b8 uK, (eS h)⟩)
 exact .d (eS h)
def vq (a0 : ba) (y8 : Int) (y9 : Int) : Option ((Int) ⊕ (Int × Bool)) :=
 (if y9 < (a0.length : Int) then
 vn a0 y9 >>= fun c13 =>
 wh (ah ((c13.toNat : Int))) 48 57 >>= fun pt =>
 (if pt = true then
 vn a0 y9 >>= fun TD =>
 vq a0 (ah ((ah (10 * y8)) + (ah (IntKind.u8.wrap ((TD.toNat : Int) - 48))))) (ah (y9 + 1))
 else
 some (.inr (0, false)))
 else
 some (.inl y8))
partial_fixpoint
def X5 (a0 : ba) : Option (Int × Bool) :=
 wh (a0.length : Int) 1 13 >>= fun v1 =>
 (if v1 = true then
 ((
 vq a0 0 0
 : Option ((Int) ⊕ (Int × Bool))) >>= fun o5 => match o5 with
 | .inr r => some r
 | .inl y4 =>
 (if y4 > 1000000000000 then
 some (0, false)
 else
 PL y4 >>= fun nZ =>
 (if nZ = a0 then
 some (y4, true)
 else
 some (0, false)))
 )
 else
 some (0, false))
theorem abh {a0 : ba} {r : Int × Bool} (h : X5 a0 = some r) : ACall Tryz.prog 194 [.str a0] [] (fun res h => res = .dG [.int .i64 r.1, .bool r.2] ∧ h = []) := by
 refine cP Tryz.func194 ?_
 unfold X5 at h
 refine .d (.d (.d (bk h fun v1 jT h => (bO (qH jT) (j3 h (fun lJ h => ?_) (fun lJ h => ?_))))))
 refine .d ?_
 exact afy
 refine .d ?_
 obtain ⟨o5, xD, vU⟩ := bd h
 replace h := xD
 refine .cut (fun σ η => ∃ y4, .inl y4 = o5 ∧ σ = [(0, .str a0), (4, .int .i64 y4)] ∧ η = []) ?_ ?_
 refine .d ?_
 refine le (vq.partial_correctness a0 (motive := fun y8 y9 RU => o5 = RU → az _ _ [(0, .str a0), (4, .int .i64 y8), (5, .int .i64 y9)] []) ?_ 0 0 o5 h rfl) (tk [] ⟨.s, .i, .i, ⟨⟩⟩ ⟨⟩)
 intro F11 IL y8 y9 RU h MJ
 subst MJ
 refine az.round (.d (.d (sD h (fun ly h => ?_) (fun ly h => ?_))))
 refine .d (.d (.d (bk h fun c13 qK h => ⟨oy qK, c13, oz qK, (bk h fun pt vo h => (bO (qH vo) (j3 h (fun kR h => ?_) (fun kR h => ?_))))⟩)))
 refine .d ?_
 obtain rfl := si h
 replace h := vU
 exact afy
 exact bk h fun TD da h => ⟨oy da, TD, oz da, (lg (IL _ _ _ h rfl) (tk [] ⟨.s, .i, .i, ⟨⟩⟩ ⟨⟩))⟩
 exact ct ⟨_, si h, rfl, rfl⟩ (tk [] ⟨.s, .i, ⟨⟩⟩ ⟨⟩)
 rintro _ _ ⟨y4, rfl, rfl, rfl⟩
 replace h := vU
 refine .d (.d (sD h (fun kS h => ?_) (fun kS h => ?_)))
 refine .t (.t (.t (.t (.t (.d ?_)))))
 exact afy
 refine .f (bk h fun nZ xB h => (bO (Lh xB) (.f (.f (.f (tc h (fun sJ h => ?_) (fun sJ h => ?_)))))))
 refine .d ?_
 exact afy
 refine .d ?_
 exact afy
def X6 (a0 : ba) : Option (Int × Bool) :=
 (
 (if (a0.length : Int) > 0 then
 vn a0 0 >>= fun c6 =>
 some ((c6.toNat : Int) == 45)
 else
 some false)
 : Option (Bool)) >>= fun b1 =>
 (
 (if b1 = true then
 Gy a0 1 >>= fun s13 =>
 some s13
 else
 some a0)
 : Option (ba)) >>= fun s8 =>
 X5 s8 >>= fun (pt, db) =>
 (if db = true then
 (if pt > 1000000000 then
 some (0, false)
 else
 (if b1 = true then
 (if pt = 0 then
 some (0, false)
 else
 some (ah (0 - pt), true))
 else
 some (pt, true)))
 else
 some (0, false))
theorem abi {a0 : ba} {r : Int × Bool} (h : X6 a0 = some r) : ACall Tryz.prog 179 [.str a0] [] (fun res h => res = .dG [.int .i64 r.1, .bool r.2] ∧ h = []) := by
 refine cP Tryz.func179 ?_
 unfold X6 at h
 refine .d ?_
 obtain ⟨o2, qD, nB⟩ := bd h
 replace h := qD
 refine .cut (fun σ η => ∃ b1, b1 = o2 ∧ σ = [(0, .str a0), (4, .bool b1)] ∧ η = []) ?_ ?_
 refine sD h (fun nW h => ?_) (fun nW h => ?_)
 exact .t (bk h fun c6 X7 h => ⟨oy X7, c6, oz X7, (.t (.t (ct ⟨_, si h, rfl, rfl⟩ (tk [] ⟨.s, .b, ⟨⟩⟩ ⟨⟩))))⟩)
 exact .f (.f (.f (ct ⟨_, si h, rfl, rfl⟩ (tk [] ⟨.s, .b, ⟨⟩⟩ ⟨⟩))))
 rintro _ _ ⟨b1, rfl, rfl, rfl⟩
 replace h := nB
 obtain ⟨o9, Tn, Qd⟩ := bd h
 replace h := Tn
 refine .cut (fun σ η => ∃ s8, s8 = o9 ∧ σ = [(0, .str s8), (4, .bool b1)] ∧ η = []) ?_ ?_
 refine .d (sV h (fun ly h => ?_) (fun ly h => ?_))
 exact bk h fun s13 qK h => ⟨Nd qK, s13, Nf qK, (ct ⟨_, si h, rfl, rfl⟩ (tk [] ⟨.s, .b, ⟨⟩⟩ ⟨⟩))⟩
 exact ct ⟨_, si h, rfl, rfl⟩ (tk [] ⟨.s, .b, ⟨⟩⟩ ⟨⟩)
 rintro _ _ ⟨s8, rfl, rfl, rfl⟩
 replace h := Qd
 refine .d ?_
 obtain ⟨⟨pt, db⟩, rL, h⟩ := bd h
 refine bO (abh rL) (.d (.d (j3 h (fun oX h => ?_) (fun oX h => ?_))))
 refine .t (.t (.t (.t (.t (.t (.t (.d ?_)))))))
 exact afy
 refine .f (.f (sD h (fun qI h => ?_) (fun qI h => ?_)))
 refine .t (.t (.t (.t (.d ?_))))
 exact afy
 refine .f (sV h (fun pf h => ?_) (fun pf h => ?_))
 refine .t (.f (.t (.f (sE h (fun rO h => ?_) (fun rO h => ?_)))))
 refine .d ?_
 exact afy
 refine .d (.d (.kt pf (.d ?_)))
 exact afy
 refine .f (.f (.f (.f (.f (.d (.d (.kf pf (.d ?_))))))))
 exact afy
def m23 (a0 : bJ) : Option (Bool) :=
 (if a0.cr = true then
 X6 a0.bm >>= fun (v5, v6) =>
 (if a0.bb = 0 then
 (if (a0.bm.length : Int) ≤ 400 then
 some (!v6)
 else
 some false)
 else
 some false)
 else
 wh a0.bb (-1000000000) 1000000000 >>= fun v2 =>
 (if v2 = true then
 some (a0.bm == ([] : ba))
 else
 some false))
theorem abj {a0 : bJ} {r : Bool} (h : m23 a0 = some r) : ACall Tryz.prog 140 [.agg a0.lit] [] (fun res h => res = .bool r ∧ h = []) := by
 refine cP Tryz.func140 ?_
 unfold m23 at h
 refine .d (.d (.d ⟨rfl, ⟨rfl, _, rfl, (j3 h (fun de h => ?_) (fun de h => ?_))⟩⟩))
 refine .d ⟨rfl, ⟨rfl, _, rfl, (bk h fun v2 DI h => (bO (qH DI) (sV h (fun oL h => ?_) (fun oL h => ?_))))⟩⟩
 exact ⟨rfl, (.t ⟨rfl, _, rfl, (.t (.t (eB h)))⟩)⟩
 exact .f (.f (.f (eB h)))
 refine .d ⟨rfl, ⟨rfl, _, rfl, ?_⟩⟩
 obtain ⟨⟨v5, v6⟩, P4, h⟩ := bd h
 refine bO (abi P4) (.d ⟨rfl, ⟨rfl, _, rfl, (sE h (fun nh h => ?_) (fun nh h => ?_))⟩⟩)
 refine ⟨rfl, (.t ⟨rfl, _, rfl, (.t (.t (.t (sD h (fun uV h => ?_) (fun uV h => ?_)))))⟩)⟩
 exact .t (.t (eB h))
 exact .f (.f (eB h))
 exact .f (.f (.f (.f (.f (.f (.f (eB h)))))))
mutual
def Sh (a0 : af) : Option (Bool) :=
 ((
 (if a0.aJ = 3 then
 (if a0.aJ = 4 then
 some (.inl ())
 else
 (if a0.bs = 0 then
 (if (a0.ai.length : Int) > 0 then
 some (.inr false)
 else
 some (.inl ()))
 else
 some (.inr false)))
 else
 (if a0.bm = ([] : ba) then
 (if a0.aJ = 4 then
 some (.inl ())
 else
 (if a0.bs = 0 then
 (if (a0.ai.length : Int) > 0 then
 some (.inr false)
 else
 some (.inl ()))
 else
 some (.inr false)))
 else
 some (.inr false)))
 : Option ((Unit) ⊕ Bool)) >>= fun o1 => match o1 with
 | .inr r => some r
 | .inl _ =>
 ((
 (if a0.aJ = 0 then
 some (.inr (a0.bb == 0))
 else
 (if a0.aJ = 1 then
 wh a0.bb 0 1 >>= fun FW =>
 some (.inr FW)
 else
 (if a0.aJ = 2 then
 wh a0.bb (-1000000000) 1000000000 >>= fun v20 =>
 some (.inr v20)
 else
 (if a0.aJ = 3 then
 (if a0.bb = 0 then
 some (.inr (decide ((a0.bm.length : Int) ≤ 400)))
 else
 some (.inr false))
 else
 (
 (if a0.aJ = 6 then
 some (a0.aJ == 6)
 else
 (if a0.aJ = 7 then
 some (a0.aJ == 7)
 else
 some (a0.aJ == 8)))
 : Option (Bool)) >>= fun Ng =>
 (if Ng = true then
 wh a0.bb 0 255 >>= fun v31 =>
 some (.inr v31)
 else
 (if a0.aJ = 4 then
 (if a0.bb = 0 then
 wh a0.bs 0 1000000001 >>= fun qi =>
 (if qi = true then
 ((
 tz a0 0
 : Option ((Unit) ⊕ ((Unit) ⊕ Bool))) >>= fun RP => match RP with
 | .inr r => some r
 | .inl _ =>
 some (.inr true)
 )
 else
 some (.inr false))
 else
 some (.inr false))
 else
 some (.inl ())))))))
 : Option ((Unit) ⊕ Bool)) >>= fun HU => match HU with
 | .inr r => some r
 | .inl _ =>
 some false
 )
 )
partial_fixpoint
def tz (a0 : af) (ik : Int) : Option ((Unit) ⊕ ((Unit) ⊕ Bool)) :=
 (if ik < (a0.ai.length : Int) then
 idx a0.ai ik >>= fun kQ =>
 m23 kQ.aX >>= fun B3 =>
 (if B3 = true then
 (if kQ.aX.cr = true then
 PI a0 kQ.aX >>= fun Cz =>
 (if Cz = ik then
 idx a0.ai ik >>= fun Ud =>
 Sh Ud.aL >>= fun Gg =>
 (if Gg = true then
 tz a0 (ah (ik + 1))
 else
 some (.inr (.inr false)))
 else
 some (.inr (.inr false)))
 else
 (if kQ.aX.bb ≥ a0.bs then
 some (.inr (.inr false))
 else
 PI a0 kQ.aX >>= fun v53 =>
 (if v53 = ik then
 idx a0.ai ik >>= fun Ue =>
 Sh Ue.aL >>= fun yG =>
 (if yG = true then
 tz a0 (ah (ik + 1))
 else
 some (.inr (.inr false)))
 else
 some (.inr (.inr false)))))
 else
 some (.inr (.inr false)))
 else
 some (.inl ()))
partial_fixpoint
end
def Kg (a0 : af) (r : Bool) : Prop := ACall Tryz.prog 95 [.agg a0.lit] [] (fun res h => res = .bool r ∧ h = [])
inductive pA : af → Int → ((Unit) ⊕ ((Unit) ⊕ Bool)) → Prop
 | mk (Uf : af → Option (Bool)) (abk : ∀ a0 r, Uf a0 = some r → Kg a0 r) (nL : af → Int → Option ((Unit) ⊕ ((Unit) ⊕ Bool))) (Li : ∀ a0 ik o, nL a0 ik = some o → pA a0 ik o) (a0 : af) (ik : Int) (o : (Unit) ⊕ ((Unit) ⊕ Bool)) (h : (
 (if ik < (a0.ai.length : Int) then
 idx a0.ai ik >>= fun kQ =>
 m23 kQ.aX >>= fun B3 =>
 (if B3 = true then
 (if kQ.aX.cr = true then
 PI a0 kQ.aX >>= fun Cz =>
 (if Cz = ik then
 idx a0.ai ik >>= fun Ud =>
 Uf Ud.aL >>= fun Gg =>
 (if Gg = true then
 nL a0 (ah (ik + 1))
 else
 some (.inr (.inr false)))
 else
 some (.inr (.inr false)))
 else
 (if kQ.aX.bb ≥ a0.bs then
 some (.inr (.inr false))
 else
 PI a0 kQ.aX >>= fun v53 =>
 (if v53 = ik then
 idx a0.ai ik >>= fun Ue =>
 Uf Ue.aL >>= fun yG =>
 (if yG = true then
 nL a0 (ah (ik + 1))
 else
 some (.inr (.inr false)))
 else
 some (.inr (.inr false)))))
 else
 some (.inr (.inr false)))
 else
 some (.inl ()))
 ) = some o) : pA a0 ik o
theorem IM {motive : af → Int → ((Unit) ⊕ ((Unit) ⊕ Bool)) → Prop} (step : ∀ (Uf : af → Option (Bool)) (abk : ∀ a0 r, Uf a0 = some r → Kg a0 r) (nL : af → Int → Option ((Unit) ⊕ ((Unit) ⊕ Bool))) (Li : ∀ a0 ik o, nL a0 ik = some o → pA a0 ik o) (a0 : af) (ik : Int) (o : (Unit) ⊕ ((Unit) ⊕ Bool)) (h : (
 (if ik < (a0.ai.length : Int) then
 idx a0.ai ik >>= fun kQ =>
 m23 kQ.aX >>= fun B3 =>
 (if B3 = true then
 (if kQ.aX.cr = true then
 PI a0 kQ.aX >>= fun Cz =>
 (if Cz = ik then
 idx a0.ai ik >>= fun Ud =>
 Uf Ud.aL >>= fun Gg =>
 (if Gg = true then
 nL a0 (ah (ik + 1))
 else
 some (.inr (.inr false)))
 else
 some (.inr (.inr false)))
 else
 (if kQ.aX.bb ≥ a0.bs then
 some (.inr (.inr false))
 else
 PI a0 kQ.aX >>= fun v53 =>
 (if v53 = ik then
 idx a0.ai ik >>= fun Ue =>
 Uf Ue.aL >>= fun yG =>
 (if yG = true then
 nL a0 (ah (ik + 1))
 else
 some (.inr (.inr false)))
 else
 some (.inr (.inr false)))))
 else
 some (.inr (.inr false)))
 else
 some (.inl ()))
 ) = some o) (ih : ∀ a0 ik o, nL a0 ik = some o → motive a0 ik o), motive a0 ik o) : ∀ a0 ik o, pA a0 ik o → motive a0 ik o :=
 fun a0 ik o h => pA.rec (motive := fun a0 ik o _ => motive a0 ik o) step h
theorem Ug : (∀ a0 r, Sh a0 = some r → Kg a0 r) ∧ (∀ a0 ik o, tz a0 ik = some o → pA a0 ik o) := by
 refine Sh.mutual_partial_correctness Kg pA ?_ ?_
 intro _ abl a0 r h
 refine cP Tryz.func95 ?_
 refine .d ?_
 obtain ⟨o1, Aw, ow⟩ := bd h
 replace h := Aw
 refine .cut (fun σ η => .inl () = o1 ∧ σ = [(1, .aN 0 0 0 0)] ∧ η = [.row 0 5 1 97 (fun _ => a0.lit)]) ?_ ?_
 refine .d ⟨rfl, ⟨rfl, _, rfl, (sN h (fun oL h => ?_) (fun oL h => ?_))⟩⟩
 refine ⟨rfl, (.t ⟨rfl, _, rfl, (.t (.t (tc h (fun nW h => ?_) (fun nW h => ?_))))⟩)⟩
 refine .t (.t (.t (.t (.t (.t (.d ?_))))))
 exact afk
 refine ⟨rfl, (.f ⟨rfl, _, rfl, (.f (.f (sN h (fun oM h => ?_) (fun oM h => ?_))))⟩)⟩
 refine ⟨rfl, (.t ⟨rfl, _, rfl, (.t (.t (sN h (fun pT h => ?_) (fun pT h => ?_))))⟩)⟩
 refine .t (.t (.t (.t (.t (.f (.t (.f (.t (.d ?_)))))))))
 exact afk
 refine ⟨rfl, (.f ⟨rfl, _, rfl, (.f (.f (.t (.f (.f (.t (.f (sD h (fun nh h => ?_) (fun nh h => ?_)))))))))⟩)⟩
 refine .d ?_
 exact afk
 exact afM
 exact afW
 refine .f (.f (.f (.f ⟨rfl, (.f ⟨rfl, _, rfl, (.f (.f (sN h (fun uV h => ?_) (fun uV h => ?_))))⟩)⟩)))
 refine ⟨rfl, (.t ⟨rfl, _, rfl, (.t (.t (sN h (fun eY h => ?_) (fun eY h => ?_))))⟩)⟩
 refine .t (.t (.t (.t (.t (.f (.t (.f (.t (.d ?_)))))))))
 exact afk
 refine ⟨rfl, (.f ⟨rfl, _, rfl, (.f (.f (.t (.f (.f (.t (.f (sD h (fun jU h => ?_) (fun jU h => ?_)))))))))⟩)⟩
 refine .d ?_
 exact afk
 exact afM
 exact afW
 rintro _ _ ⟨rfl, rfl, rfl⟩
 replace h := ow
 obtain ⟨HU, IP, jX⟩ := bd h
 replace h := IP
 refine .cut (fun σ η => .inl () = HU ∧ σ = [] ∧ η = []) ?_ ?_
 refine .d ⟨rfl, ⟨rfl, _, rfl, (.d (sE h (fun dI h => ?_) (fun dI h => ?_)))⟩⟩
 refine .d ⟨rfl, ⟨rfl, _, rfl, ?_⟩⟩
 exact afj
 refine .d (sE h (fun lx h => ?_) (fun lx h => ?_))
 refine .d ⟨rfl, ⟨rfl, _, rfl, (bk h fun FW MK h => (bO (qH MK) ?_))⟩⟩
 exact afj
 refine .d (sE h (fun qI h => ?_) (fun qI h => ?_))
 refine .d ⟨rfl, ⟨rfl, _, rfl, (bk h fun v20 xw h => (bO (qH xw) ?_))⟩⟩
 exact afj
 refine .d (sE h (fun kS h => ?_) (fun kS h => ?_))
 refine .d ⟨rfl, ⟨rfl, _, rfl, (sE h (fun pW h => ?_) (fun pW h => ?_))⟩⟩
 refine ⟨rfl, (.t ⟨rfl, _, rfl, (.t (.t (.t ?_)))⟩)⟩
 exact afj
 refine .f (.f (.f (.f ?_)))
 exact afj
 obtain ⟨Ii, Nh, Es⟩ := bd h
 replace h := Nh
 refine .cut (fun σ η => ∃ Ng, Ng = Ii ∧ σ = [(1, .aN 0 0 0 0), (30, .int .i64 a0.aJ), (57, .bool Ng)] ∧ η = [.row 0 5 1 97 (fun _ => a0.lit)]) ?_ ?_
 refine .d (sE h (fun rP h => ?_) (fun rP h => ?_))
 exact afI
 refine .d (sE h (fun tA h => ?_) (fun tA h => ?_))
 exact afI
 exact afI
 rintro _ _ ⟨Ng, rfl, rfl, rfl⟩
 replace h := Es
 refine sV h (fun sY h => ?_) (fun sY h => ?_)
 refine .d ⟨rfl, ⟨rfl, _, rfl, (bk h fun v31 DN h => (bO (qH DN) ?_))⟩⟩
 exact afj
 refine .d (sE h (fun xx h => ?_) (fun xx h => ?_))
 refine .d (.d ⟨rfl, ⟨rfl, _, rfl, (sN h (fun xC h => ?_) (fun xC h => ?_))⟩⟩)
 refine .t (.t (.t (.t (.t (.d ?_)))))
 exact afj
 refine ⟨rfl, (.f ⟨rfl, _, rfl, (.f (bk h fun qi MC h => (bO (qH MC) (.f (.f (j3 h (fun Ak h => ?_) (fun Ak h => ?_)))))))⟩)⟩
 refine .d ?_
 exact afj
 obtain ⟨RP, abm, IQ⟩ := bd h
 replace h := abm
 refine .cut (fun σ η => .inl () = RP ∧ σ = [] ∧ η = []) ?_ ?_
 refine .d ?_
 have abn := abl _ _ _ h
 refine le (IM (motive := fun p71 ik o69 => a0 = p71 → RP = o69 → az _ _ [(1, .aN 0 0 0 0), (3, .int .i64 ik)] [.row 0 5 1 97 (fun _ => a0.lit)]) ?_ a0 0 RP abn rfl rfl) (tk [0] ⟨.p, .i, ⟨⟩⟩ ⟨(bf rfl), ⟨⟩⟩)
 intro _ Ni _ _ p71 ik o69 h Nj  Uh abo
 subst Uh
 subst abo
 refine az.round (.d (.d ⟨rfl, ⟨rfl, _, rfl, (sD h (fun Et h => ?_) (fun Et h => ?_))⟩⟩))
 refine .d (.d ⟨rfl, ⟨rfl, _, rfl, (bk h fun kQ Nk h => ⟨aI Nk, _, (aF Nk).trans (ae.au kQ), ⟨rfl, _, fun _ => [.bool kQ.aX.cr, .int .i64 kQ.aX.bb, .str kQ.aX.bm], rfl, aM rfl, (.d ⟨rfl, _, rfl, (bk h fun B3 IS h => (bO (abj IS) (j3 h (fun IU h => ?_) (fun IU h => ?_))))⟩)⟩⟩)⟩⟩)
 refine .t (.t (.t (.t (.t (.t (.t (.t (.t (.t (.t (.t (.t (.t (.t ?_))))))))))))))
 refine .t (.t (.t (.t (.t (.t (.d ?_))))))
 obtain rfl := si h
 replace h := IQ
 exact afj
 refine ⟨rfl, (.f ⟨rfl, _, rfl, (.f (.f (j3 h (fun IV h => ?_) (fun IV h => ?_))))⟩)⟩
 refine ⟨rfl, (.t ⟨rfl, _, rfl, (.t ⟨rfl, (.t ⟨rfl, _, rfl, (.t (.f (.t (.f (sD h (fun Eu h => ?_) (fun Eu h => ?_))))))⟩)⟩)⟩)⟩
 refine .t (.t (.t (.t (.t (.t (.t (.t (.t (.t (.t (.t (.t (.t (.t ?_))))))))))))))
 refine .d ?_
 obtain rfl := si h
 replace h := IQ
 exact afj
 refine ⟨rfl, _, rfl, (.f ⟨rfl, _, rfl, (.f (bk h fun v53 IW h => (bO (XA IW) (.f (.f (.f (sN h (fun Ui h => ?_) (fun Ui h => ?_))))))))⟩)⟩
 refine .t (.t (.t (.t (.t (.t (.t (.t (.t (.d ?_)))))))))
 obtain rfl := si h
 replace h := IQ
 exact afj
 refine ⟨rfl, (.f ⟨rfl, _, rfl, (.f (.f (bk h fun Ue X8 h => ⟨aI X8, _, (aF X8).trans (ae.au Ue), (.f (.f (.f (bk h fun yG Nl h => (bO (Ni _ _ Nl) (.f (.f (j3 h (fun Nn h => ?_) (fun Nn h => ?_)))))))))⟩)))⟩)⟩
 refine .d ?_
 obtain rfl := si h
 replace h := IQ
 exact afj
 exact lg (Nj _ _ _ h rfl rfl) (tk [0] ⟨.p, .i, ⟨⟩⟩ ⟨(bf rfl), ⟨⟩⟩)
 refine .f (.f (.f (.f (.f (.f (.f (.f ⟨rfl, _, rfl, (.f ⟨rfl, _, rfl, (.f (bk h fun Cz Ev h => (bO (XA Ev) (.f ?_))))⟩)⟩)))))))
 refine .f (.f (sN h (fun Uj h => ?_) (fun Uj h => ?_)))
 refine .t (.t (.t (.t (.t (.t (.t (.t (.t (.d ?_)))))))))
 obtain rfl := si h
 replace h := IQ
 exact afj
 refine ⟨rfl, (.f ⟨rfl, _, rfl, (.f (.f (bk h fun Ud X9 h => ⟨aI X9, _, (aF X9).trans (ae.au Ud), (.f (.f (.f (bk h fun Gg Uk h => (bO (Ni _ _ Uk) (.f (.f (j3 h (fun IX h => ?_) (fun IX h => ?_)))))))))⟩)))⟩)⟩
 refine .d ?_
 obtain rfl := si h
 replace h := IQ
 exact afj
 exact lg (Nj _ _ _ h rfl rfl) (tk [0] ⟨.p, .i, ⟨⟩⟩ ⟨(bf rfl), ⟨⟩⟩)
 exact afN
 rintro _ _ ⟨rfl, rfl, rfl⟩
 replace h := IQ
 refine .d ?_
 exact afj
 exact afN
 rintro _ _ ⟨rfl, rfl, rfl⟩
 replace h := jX
 exact afJ
 intro F0 F1 B8 B9 a0 ik o h
 exact .mk F0 B8 F1 B9 a0 ik o h
theorem abp {a0 : af} {r : Bool} (h : Sh a0 = some r) : ACall Tryz.prog 95 [.agg a0.lit] [] (fun res h => res = .bool r ∧ h = []) := Ug.1 a0 r h
def m22 (a0 : af) : Option (Bool) :=
 Sf a0 200 >>= fun v1 =>
 (if v1 ≤ 200 then
 Sh a0 >>= fun v4 =>
 some v4
 else
 some false)
theorem abq {a0 : af} {r : Bool} (h : m22 a0 = some r) : ACall Tryz.prog 46 [.agg a0.lit] [] (fun res h => res = .bool r ∧ h = []) := by
 refine cP Tryz.func46 ?_
 unfold m22 at h
 refine .d (.d ⟨rfl, _, rfl, (bk h fun v1 jT h => (bO (abd jT) (sD h (fun lJ h => ?_) (fun lJ h => ?_))))⟩)
 exact ⟨rfl, _, rfl, (.t (bk h fun v4 xy h => (bO (abp xy) (.t (eB h)))))⟩
 exact .f (.f (eB h))
def Ya (a0 : ba) : Option (Int × Bool) :=
 Yb a0 (-1000000000) 1000000000 >>= fun (v1, v2) =>
 some (v1, v2)
theorem abr {a0 : ba} {r : Int × Bool} (h : Ya a0 = some r) : ACall Tryz.prog 170 [.str a0] [] (fun res h => res = .dG [.int .i64 r.1, .bool r.2] ∧ h = []) := by
 refine cP Tryz.func170 ?_
 unfold Ya at h
 refine .d (.d ?_)
 obtain ⟨⟨v1, v2⟩, DI, h⟩ := bd h
 refine bO (abt DI) ?_
 exact afy
def Ul (a0 : bJ) : Option (Bool) :=
 (if a0.cr = true then
 Ya a0.bm >>= fun (v5, v6) =>
 (if a0.bb = 0 then
 (if (a0.bm.length : Int) ≤ 400 then
 some (!v6)
 else
 some false)
 else
 some false)
 else
 (if a0.bm = ([] : ba) then
 yx a0.bb (-1000000000) 1000000000 >>= fun v3 =>
 some v3
 else
 some false))
theorem abu {a0 : bJ} {r : Bool} (h : Ul a0 = some r) : ACall Tryz.prog 157 [.agg a0.lit] [] (fun res h => res = .bool r ∧ h = []) := by
 refine cP Tryz.func157 ?_
 unfold Ul at h
 refine .d (.d (.d ⟨rfl, ⟨rfl, _, rfl, (j3 h (fun de h => ?_) (fun de h => ?_))⟩⟩))
 refine .d ⟨rfl, ⟨rfl, _, rfl, (sE h (fun jr h => ?_) (fun jr h => ?_))⟩⟩
 exact ⟨rfl, (.t ⟨rfl, _, rfl, (.t (bk h fun v3 CR h => (bO (uM CR) (.t (eB h)))))⟩)⟩
 exact .f (.f (.f (eB h)))
 refine .d ⟨rfl, ⟨rfl, _, rfl, ?_⟩⟩
 obtain ⟨⟨v5, v6⟩, P4, h⟩ := bd h
 refine bO (abr P4) (.d ⟨rfl, ⟨rfl, _, rfl, (sE h (fun nh h => ?_) (fun nh h => ?_))⟩⟩)
 refine ⟨rfl, (.t ⟨rfl, _, rfl, (.t (.t (.t (sD h (fun uV h => ?_) (fun uV h => ?_)))))⟩)⟩
 exact .t (.t (eB h))
 exact .f (.f (eB h))
 exact .f (.f (.f (.f (.f (.f (.f (eB h)))))))
set_option maxRecDepth 100000
mutual
def fq (a0 : af) : Option (Bool) :=
 ((
 (if a0.aJ = 3 then
 (if a0.aJ = 4 then
 some (.inl ())
 else
 (if a0.bs = 0 then
 (if (a0.ai.length : Int) > 0 then
 some (.inr false)
 else
 some (.inl ()))
 else
 some (.inr false)))
 else
 (if a0.bm = ([] : ba) then
 (if a0.aJ = 4 then
 some (.inl ())
 else
 (if a0.bs = 0 then
 (if (a0.ai.length : Int) > 0 then
 some (.inr false)
 else
 some (.inl ()))
 else
 some (.inr false)))
 else
 some (.inr false)))
 : Option ((Unit) ⊕ Bool)) >>= fun o1 => match o1 with
 | .inr r => some r
 | .inl _ =>
 ((
 (if a0.aJ = 0 then
 some (.inr (a0.bb == 0))
 else
 (if a0.aJ = 1 then
 (if a0.bb = 0 then
 some (.inr true)
 else
 some (.inr (a0.bb == 1)))
 else
 (if a0.aJ = 2 then
 yx a0.bb (-1000000000) 1000000000 >>= fun aZ =>
 some (.inr aZ)
 else
 (if a0.aJ = 3 then
 (if a0.bb = 0 then
 some (.inr (decide ((a0.bm.length : Int) ≤ 400)))
 else
 some (.inr false))
 else
 (
 (if a0.aJ = 6 then
 some (a0.aJ == 6)
 else
 (if a0.aJ = 7 then
 some (a0.aJ == 7)
 else
 some (a0.aJ == 8)))
 : Option (Bool)) >>= fun Kh =>
 (if Kh = true then
 yx a0.bb 0 255 >>= fun v30 =>
 some (.inr v30)
 else
 (if a0.aJ = 4 then
 (if a0.bb = 0 then
 yx a0.bs 0 1000000001 >>= fun vW =>
 (if vW = true then
 ((
 dD a0 ([] : List (bJ × Bool)) 0
 : Option ((Unit) ⊕ ((Unit) ⊕ Bool))) >>= fun Np => match Np with
 | .inr r => some r
 | .inl _ =>
 some (.inr true)
 )
 else
 some (.inr false))
 else
 some (.inr false))
 else
 some (.inl ())))))))
 : Option ((Unit) ⊕ Bool)) >>= fun HU => match HU with
 | .inr r => some r
 | .inl _ =>
 some false
 )
 )
partial_fixpoint
def dD (a0 : af) (pU : List (bJ × Bool)) (ik : Int) : Option ((Unit) ⊕ ((Unit) ⊕ Bool)) :=
 (if ik < (a0.ai.length : Int) then
 idx a0.ai ik >>= fun kQ =>
 Ul kQ.aX >>= fun B3 =>
 (if B3 = true then
 (if (rF pU kQ.aX false) = true then
 some (.inr (.inr false))
 else
 (if kQ.aX.cr = true then
 fq kQ.aL >>= fun MS =>
 (if MS = true then
 dD a0 (fp pU kQ.aX true) (ah (ik + 1))
 else
 some (.inr (.inr false)))
 else
 (if kQ.aX.bb ≥ a0.bs then
 some (.inr (.inr false))
 else
 fq kQ.aL >>= fun Ew =>
 (if Ew = true then
 dD a0 (fp pU kQ.aX true) (ah (ik + 1))
 else
 some (.inr (.inr false))))))
 else
 some (.inr (.inr false)))
 else
 some (.inl ()))
partial_fixpoint
end
def Ex (a0 : af) (r : Bool) : Prop := ACall Tryz.prog 112 [.agg a0.lit] [] (fun res h => res = .bool r ∧ h = [])
inductive dz : af → (List (bJ × Bool)) → Int → ((Unit) ⊕ ((Unit) ⊕ Bool)) → Prop
 | mk (IY : af → Option (Bool)) (Yc : ∀ a0 r, IY a0 = some r → Ex a0 r) (cV : af → (List (bJ × Bool)) → Int → Option ((Unit) ⊕ ((Unit) ⊕ Bool))) (tB : ∀ a0 pU ik o, cV a0 pU ik = some o → dz a0 pU ik o) (a0 : af) (pU : List (bJ × Bool)) (ik : Int) (o : (Unit) ⊕ ((Unit) ⊕ Bool)) (h : (
 (if ik < (a0.ai.length : Int) then
 idx a0.ai ik >>= fun kQ =>
 Ul kQ.aX >>= fun B3 =>
 (if B3 = true then
 (if (rF pU kQ.aX false) = true then
 some (.inr (.inr false))
 else
 (if kQ.aX.cr = true then
 IY kQ.aL >>= fun MS =>
 (if MS = true then
 cV a0 (fp pU kQ.aX true) (ah (ik + 1))
 else
 some (.inr (.inr false)))
 else
 (if kQ.aX.bb ≥ a0.bs then
 some (.inr (.inr false))
 else
 IY kQ.aL >>= fun Ew =>
 (if Ew = true then
 cV a0 (fp pU kQ.aX true) (ah (ik + 1))
 else
 some (.inr (.inr false))))))
 else
 some (.inr (.inr false)))
 else
 some (.inl ()))
 ) = some o) : dz a0 pU ik o
theorem sO {motive : af → (List (bJ × Bool)) → Int → ((Unit) ⊕ ((Unit) ⊕ Bool)) → Prop} (step : ∀ (IY : af → Option (Bool)) (Yc : ∀ a0 r, IY a0 = some r → Ex a0 r) (cV : af → (List (bJ × Bool)) → Int → Option ((Unit) ⊕ ((Unit) ⊕ Bool))) (tB : ∀ a0 pU ik o, cV a0 pU ik = some o → dz a0 pU ik o) (a0 : af) (pU : List (bJ × Bool)) (ik : Int) (o : (Unit) ⊕ ((Unit) ⊕ Bool)) (h : (
 (if ik < (a0.ai.length : Int) then
 idx a0.ai ik >>= fun kQ =>
 Ul kQ.aX >>= fun B3 =>
 (if B3 = true then
 (if (rF pU kQ.aX false) = true then
 some (.inr (.inr false))
 else
 (if kQ.aX.cr = true then
 IY kQ.aL >>= fun MS =>
 (if MS = true then
 cV a0 (fp pU kQ.aX true) (ah (ik + 1))
 else
 some (.inr (.inr false)))
 else
 (if kQ.aX.bb ≥ a0.bs then
 some (.inr (.inr false))
 else
 IY kQ.aL >>= fun Ew =>
 (if Ew = true then
 cV a0 (fp pU kQ.aX true) (ah (ik + 1))
 else
 some (.inr (.inr false))))))
 else
 some (.inr (.inr false)))
 else
 some (.inl ()))
 ) = some o) (ih : ∀ a0 pU ik o, cV a0 pU ik = some o → motive a0 pU ik o), motive a0 pU ik o) : ∀ a0 pU ik o, dz a0 pU ik o → motive a0 pU ik o :=
 fun a0 pU ik o h => dz.rec (motive := fun a0 pU ik o _ => motive a0 pU ik o) step h
theorem wz : (∀ a0 r, fq a0 = some r → Ex a0 r) ∧ (∀ a0 pU ik o, dD a0 pU ik = some o → dz a0 pU ik o) := by
 refine fq.mutual_partial_correctness Ex dz ?_ ?_
 intro _ abv a0 r h
 refine cP Tryz.func112 ?_
 refine .d ?_
 obtain ⟨o1, Aw, ow⟩ := bd h
 replace h := Aw
 refine .cut (fun σ η => .inl () = o1 ∧ σ = [(1, .aN 0 0 0 0)] ∧ η = [.row 0 5 1 97 (fun _ => a0.lit)]) ?_ ?_
 refine .d ⟨rfl, ⟨rfl, _, rfl, (sN h (fun oL h => ?_) (fun oL h => ?_))⟩⟩
 refine ⟨rfl, (.t ⟨rfl, _, rfl, (.t (.t (tc h (fun nW h => ?_) (fun nW h => ?_))))⟩)⟩
 refine .t (.t (.t (.t (.t (.t (.d ?_))))))
 exact afk
 refine ⟨rfl, (.f ⟨rfl, _, rfl, (.f (.f (sN h (fun oM h => ?_) (fun oM h => ?_))))⟩)⟩
 refine ⟨rfl, (.t ⟨rfl, _, rfl, (.t (.t (sN h (fun pT h => ?_) (fun pT h => ?_))))⟩)⟩
 refine .t (.t (.t (.t (.t (.f (.t (.f (.t (.d ?_)))))))))
 exact afk
 refine ⟨rfl, (.f ⟨rfl, _, rfl, (.f (.f (.t (.f (.f (.t (.f (sD h (fun nh h => ?_) (fun nh h => ?_)))))))))⟩)⟩
 refine .d ?_
 exact afk
 exact afM
 exact afW
 refine .f (.f (.f (.f ⟨rfl, (.f ⟨rfl, _, rfl, (.f (.f (sN h (fun uV h => ?_) (fun uV h => ?_))))⟩)⟩)))
 refine ⟨rfl, (.t ⟨rfl, _, rfl, (.t (.t (sN h (fun eY h => ?_) (fun eY h => ?_))))⟩)⟩
 refine .t (.t (.t (.t (.t (.f (.t (.f (.t (.d ?_)))))))))
 exact afk
 refine ⟨rfl, (.f ⟨rfl, _, rfl, (.f (.f (.t (.f (.f (.t (.f (sD h (fun jU h => ?_) (fun jU h => ?_)))))))))⟩)⟩
 refine .d ?_
 exact afk
 exact afM
 exact afW
 rintro _ _ ⟨rfl, rfl, rfl⟩
 replace h := ow
 obtain ⟨HU, IP, jX⟩ := bd h
 replace h := IP
 refine .cut (fun σ η => .inl () = HU ∧ σ = [] ∧ η = []) ?_ ?_
 refine .d ⟨rfl, ⟨rfl, _, rfl, (.d (sE h (fun dI h => ?_) (fun dI h => ?_)))⟩⟩
 refine .d ⟨rfl, ⟨rfl, _, rfl, ?_⟩⟩
 exact afj
 refine .d (sE h (fun lx h => ?_) (fun lx h => ?_))
 refine .d ⟨rfl, ⟨rfl, _, rfl, (sE h (fun kR h => ?_) (fun kR h => ?_))⟩⟩
 refine .t (.t (.t ?_))
 exact afj
 refine ⟨rfl, (.f ⟨rfl, _, rfl, (.f (.f ?_))⟩)⟩
 exact afj
 refine .d (sE h (fun oX h => ?_) (fun oX h => ?_))
 refine .d ⟨rfl, ⟨rfl, _, rfl, (bk h fun aZ Af h => (bO (uM Af) ?_))⟩⟩
 exact afj
 refine .d (sE h (fun rO h => ?_) (fun rO h => ?_))
 refine .d ⟨rfl, ⟨rfl, _, rfl, (sE h (fun kS h => ?_) (fun kS h => ?_))⟩⟩
 refine ⟨rfl, (.t ⟨rfl, _, rfl, (.t (.t (.t ?_)))⟩)⟩
 exact afj
 refine .f (.f (.f (.f ?_)))
 exact afj
 obtain ⟨Lj, IZ, Gz⟩ := bd h
 replace h := IZ
 refine .cut (fun σ η => ∃ Kh, Kh = Lj ∧ σ = [(1, .aN 0 0 0 0), (31, .int .i64 a0.aJ), (63, .bool Kh)] ∧ η = [.row 0 5 1 97 (fun _ => a0.lit)]) ?_ ?_
 refine .d (sE h (fun sL h => ?_) (fun sL h => ?_))
 exact afI
 refine .d (sE h (fun rP h => ?_) (fun rP h => ?_))
 exact afI
 exact afI
 rintro _ _ ⟨Kh, rfl, rfl, rfl⟩
 replace h := Gz
 refine sV h (fun tA h => ?_) (fun tA h => ?_)
 refine .d ⟨rfl, ⟨rfl, _, rfl, (bk h fun v30 I0 h => (bO (uM I0) ?_))⟩⟩
 exact afj
 refine .d (sE h (fun xQ h => ?_) (fun xQ h => ?_))
 refine .d (.d ⟨rfl, ⟨rfl, _, rfl, (sN h (fun xx h => ?_) (fun xx h => ?_))⟩⟩)
 refine .t (.t (.t (.t (.t (.d ?_)))))
 exact afj
 refine ⟨rfl, (.f ⟨rfl, _, rfl, (.f (bk h fun vW Ey h => (bO (uM Ey) (.f (.f (j3 h (fun I1 h => ?_) (fun I1 h => ?_)))))))⟩)⟩
 refine .d ?_
 exact afj
 refine .d ⟨row (mc (fun x : bJ => PV.agg x.lit) (PV.bool)) ([] : List (bJ × Bool)), ?_⟩
 obtain ⟨Np, abw, Lk⟩ := bd h
 replace h := abw
 refine .cut (fun σ η => .inl () = Np ∧ σ = [] ∧ η = []) ?_ ?_
 refine .d ⟨rfl, ⟨rfl, _, rfl, ?_⟩⟩
 have abx := abv _ _ _ _ h
 refine le (sO (motive := fun p62 pU ik Si => a0 = p62 → Np = Si → az _ _ [(1, .aN 0 0 0 0), (3, .kN 1), (83, sl 8 ae.cells a0.ai), (84, .int .i64 (a0.ai.length : Int)), (85, .int .i64 ik)] [.row 0 5 1 97 (fun _ => a0.lit), .row 0 2 pU.length 208 (row (mc (fun x : bJ => PV.agg x.lit) (PV.bool)) pU)]) ?_ a0 ([] : List (bJ × Bool)) 0 Np abx rfl rfl) (tk [0, 1] ⟨.p, .m, .l, .i, .i, ⟨⟩⟩ ⟨(bf rfl), ⟨fun h0 => absurd (show 1 < 0 from h0) agj, rfl, .inl rfl, rfl, Ez (fun _ => rfl) (fun _ => rfl)⟩, ⟨⟩⟩)
 intro _ Ni _ _ p62 pU ik Si h Nj  Um aby
 subst Um
 subst aby
 refine az.round (.d (.d (sD h (fun Et h => ?_) (fun Et h => ?_))))
 refine .d (.d (bk h fun kQ Nk h => ⟨aI Nk, _, (aF Nk).trans (ae.au kQ), ⟨rfl, _, fun _ => [.bool kQ.aX.cr, .int .i64 kQ.aX.bb, .str kQ.aX.bm, .int .i64 kQ.aL.aJ, .int .i64 kQ.aL.bb, .str kQ.aL.bm, .int .i64 kQ.aL.bs, sl 8 ae.cells kQ.aL.ai], rfl, aM rfl, (.d (.d ⟨rfl, ⟨rfl, _, rfl, (bk h fun B3 IS h => (bO (abu IS) (j3 h (fun IU h => ?_) (fun IU h => ?_))))⟩⟩))⟩⟩))
 refine .t (.t (.t (.t (.t (.t (.t (.t (.t (.t (.t (.t (.t (.t (.t ?_))))))))))))))
 refine .t (.t (.d ?_))
 obtain rfl := si h
 replace h := Lk
 exact afj
 refine .f ⟨rfl, (.f ⟨rfl, _, rfl, (.f ⟨.bool (rF pU kQ.aX false), sM pU kQ.aX, qY (ti := vr.get 195) (c := fun x : bJ => PV.agg x.lit) (d := PV.bool) (fun x y => congrArg some (bJ.nF x y)) pU kQ.aX false, (.f (sV h (fun IV h => ?_) (fun IV h => ?_)))⟩)⟩)⟩
 refine .t (.t (.t (.t (.t (.t (.t (.t (.t (.t (.t (.t (.d ?_))))))))))))
 obtain rfl := si h
 replace h := Lk
 exact afj
 refine ⟨rfl, (.f ⟨rfl, (.f ⟨rfl, _, rfl, (.f (.f (j3 h (fun Eu h => ?_) (fun Eu h => ?_))))⟩)⟩)⟩
 refine ⟨rfl, (.t ⟨rfl, (.t ⟨rfl, _, rfl, (.t ⟨rfl, (.t ⟨rfl, _, rfl, (.t (.f (.t (.f (sD h (fun Un h => ?_) (fun Un h => ?_))))))⟩)⟩)⟩)⟩)⟩
 refine .t (.t (.t (.t (.t (.d ?_)))))
 obtain rfl := si h
 replace h := Lk
 exact afj
 refine ⟨rfl, (.f ⟨rfl, _, rfl, (.f (bk h fun Ew Uo h => (bO (Ni _ _ Uo) (.f (.f (j3 h (fun Up h => ?_) (fun Up h => ?_)))))))⟩)⟩
 refine .d ?_
 obtain rfl := si h
 replace h := Lk
 exact afj
 exact ⟨rfl, ⟨rfl, _, rfl, ⟨(fp pU kQ.aX true).length, row (mc (fun x : bJ => PV.agg x.lit) (PV.bool)) (fp pU kQ.aX true), um (ti := vr.get 195) (c := fun x : bJ => PV.agg x.lit) (d := PV.bool) (fun x y => congrArg some (bJ.nF x y)) pU kQ.aX true, (lg (Nj _ _ _ _ h rfl rfl) (tk [0, 1] ⟨.p, .m, .l, .i, .i, ⟨⟩⟩ ⟨(bf rfl), ⟨fun h0 => absurd (show 1 < 0 from h0) agj, rfl, .inl rfl, rfl, Ez (fun _ => rfl) (fun _ => rfl)⟩, ⟨⟩⟩))⟩⟩⟩
 refine .f (.f (.f (.f (.f (.f (.f (.f (.f ⟨rfl, (.f ⟨rfl, _, rfl, (.f (bk h fun MS abz h => (bO (Ni _ _ abz) ?_)))⟩)⟩))))))))
 refine .f (.f (j3 h (fun I2 h => ?_) (fun I2 h => ?_)))
 refine .d ?_
 obtain rfl := si h
 replace h := Lk
 exact afj
 exact ⟨rfl, ⟨rfl, _, rfl, ⟨(fp pU kQ.aX true).length, row (mc (fun x : bJ => PV.agg x.lit) (PV.bool)) (fp pU kQ.aX true), um (ti := vr.get 195) (c := fun x : bJ => PV.agg x.lit) (d := PV.bool) (fun x y => congrArg some (bJ.nF x y)) pU kQ.aX true, (lg (Nj _ _ _ _ h rfl rfl) (tk [0, 1] ⟨.p, .m, .l, .i, .i, ⟨⟩⟩ ⟨(bf rfl), ⟨fun h0 => absurd (show 1 < 0 from h0) agj, rfl, .inl rfl, rfl, Ez (fun _ => rfl) (fun _ => rfl)⟩, ⟨⟩⟩))⟩⟩⟩
 exact afN
 rintro _ _ ⟨rfl, rfl, rfl⟩
 replace h := Lk
 refine .d ?_
 exact afj
 exact afN
 rintro _ _ ⟨rfl, rfl, rfl⟩
 replace h := jX
 exact afJ
 intro F0 F1 B8 B9 a0 pU ik o h
 exact .mk F0 B8 F1 B9 a0 pU ik o h
theorem zq {a0 : af} {r : Bool} (h : fq a0 = some r) : ACall Tryz.prog 112 [.agg a0.lit] [] (fun res h => res = .bool r ∧ h = []) := wz.1 a0 r h
def iP (a0 : af) : Option (Bool) :=
 lD a0 >>= fun v1 =>
 (if v1 ≤ 200 then
 fq a0 >>= fun v4 =>
 some v4
 else
 some false)
theorem wA {a0 : af} {r : Bool} (h : iP a0 = some r) : ACall Tryz.prog 56 [.agg a0.lit] [] (fun res h => res = .bool r ∧ h = []) := by
 refine cP Tryz.func56 ?_
 unfold iP at h
 refine .d (.d ⟨rfl, _, rfl, (bk h fun v1 jT h => (bO (Gx jT) (sD h (fun lJ h => ?_) (fun lJ h => ?_))))⟩)
 exact ⟨rfl, _, rfl, (.t (bk h fun v4 xy h => (bO (zq xy) (.t (eB h)))))⟩
 exact .f (.f (eB h))
set_option maxRecDepth 100000
def fR (a0 : aD) (a1 : ba) (y4 : Int) : Option ((Unit) ⊕ Int) :=
 (if y4 < (a0.aG.length : Int) then
 idx a0.aG y4 >>= fun x8 =>
 (if x8.ao = a1 then
 some (.inr y4)
 else
 fR a0 a1 (ah (y4 + 1)))
 else
 some (.inl ()))
partial_fixpoint
def e7 (a0 : aD) (a1 : ba) : Option (Int) :=
 ((
 fR a0 a1 0
 : Option ((Unit) ⊕ Int)) >>= fun o1 => match o1 with
 | .inr r => some r
 | .inl _ =>
 some (-1)
 )
theorem uY {a0 : aD} {a1 : ba} {r : Int} (h : e7 a0 a1 = some r) : ACall Tryz.prog 43 [.agg a0.lit, .str a1] [] (fun res h => res = .int .i64 r ∧ h = []) := by
 refine cP Tryz.func43 ?_
 unfold e7 at h
 refine .d ?_
 obtain ⟨o1, Aw, ow⟩ := bd h
 replace h := Aw
 refine .cut (fun σ η => .inl () = o1 ∧ σ = [] ∧ η = []) ?_ ?_
 refine .d ?_
 refine le (fR.partial_correctness a0 a1 (motive := fun y4 Ic => o1 = Ic → az _ _ [(1, .str a1), (2, .aN 0 0 0 0), (5, .int .i64 y4)] [.row 0 2 1 33 (fun _ => a0.lit)]) ?_ 0 o1 h rfl) (tk [0] ⟨.s, .p, .i, ⟨⟩⟩ ⟨(bf rfl), ⟨⟩⟩)
 intro F6 Qg y4 Ic h Im
 subst Im
 refine az.round (.d (.d ⟨rfl, ⟨rfl, _, rfl, (sD h (fun pT h => ?_) (fun pT h => ?_))⟩⟩))
 refine .d (.d ⟨rfl, ⟨rfl, _, rfl, (bk h fun x8 Gb h => ⟨aI Gb, _, (aF Gb).trans (aC.au x8), (sE h (fun eY h => ?_) (fun eY h => ?_))⟩)⟩⟩)
 refine .d ?_
 obtain rfl := si h
 replace h := ow
 exact eI h
 exact lg (Qg _ _ h rfl) (tk [0] ⟨.s, .p, .i, ⟨⟩⟩ ⟨(bf rfl), ⟨⟩⟩)
 exact afN
 exact afx
def eQ (a0 : List aw) (a1 : ba) (y4 : Int) : Option ((Unit) ⊕ Int) :=
 (if y4 < (a0.length : Int) then
 idx a0 y4 >>= fun x8 =>
 (if x8.ao = a1 then
 some (.inr y4)
 else
 eQ a0 a1 (ah (y4 + 1)))
 else
 some (.inl ()))
partial_fixpoint
def jM (a0 : List aw) (a1 : ba) : Option (Int) :=
 ((
 eQ a0 a1 0
 : Option ((Unit) ⊕ Int)) >>= fun o1 => match o1 with
 | .inr r => some r
 | .inl _ =>
 some (-1)
 )
theorem AF {a0 : List aw} {a1 : ba} {r : Int} (h : jM a0 a1 = some r) : ACall Tryz.prog 45 [sl 4 aw.cells a0, .str a1] [] (fun res h => res = .int .i64 r ∧ h = []) := by
 refine cP Tryz.func45 ?_
 unfold jM at h
 refine .d ?_
 obtain ⟨o1, Aw, ow⟩ := bd h
 replace h := Aw
 refine .cut (fun σ η => .inl () = o1 ∧ σ = [] ∧ η = []) ?_ ?_
 refine .d ?_
 refine le (eQ.partial_correctness a0 a1 (motive := fun y4 Ic => o1 = Ic → az _ _ [(0, sl 4 aw.cells a0), (1, .str a1), (5, .int .i64 y4)] []) ?_ 0 o1 h rfl) (tk [] ⟨.l, .s, .i, ⟨⟩⟩ ⟨⟩)
 intro F6 Qg y4 Ic h Im
 subst Im
 refine az.round (.d (.d (sD h (fun pT h => ?_) (fun pT h => ?_))))
 refine .d (.d (bk h fun x8 Gb h => ⟨aI Gb, _, (aF Gb).trans (aw.au x8), (sE h (fun eY h => ?_) (fun eY h => ?_))⟩))
 refine .d ?_
 obtain rfl := si h
 replace h := ow
 exact eI h
 exact lg (Qg _ _ h rfl) (tk [] ⟨.l, .s, .i, ⟨⟩⟩ ⟨⟩)
 exact afN
 exact afx
def dp (a0 : aD) (la : Int) : Option ((Unit) ⊕ Bool) :=
 (if la < (a0.aG.length : Int) then
 idx a0.aG la >>= fun uT =>
 e7 a0 uT.ao >>= fun nZ =>
 (if nZ = la then
 idx a0.aG la >>= fun Xz =>
 lA Xz >>= fun v28 =>
 (if v28 = true then
 dp a0 (ah (la + 1))
 else
 some (.inr false))
 else
 some (.inr false))
 else
 some (.inl ()))
partial_fixpoint
def bT (PM : Bool) (qL : aw) (CA : aB) (Qw : aB) (C3 : Int) (Ll : Int) : Option ((Int × Bool × ba × Bool × Bool) ⊕ ((Unit) ⊕ ((Unit) ⊕ ((Unit) ⊕ Bool)))) :=
 (if Ll < C3 then
 idx qL.aA Ll >>= fun Qs =>
 idx qL.aA C3 >>= fun x82 =>
 (if Qs.ao = x82.ao then
 some (.inr (.inr (.inr (.inr false))))
 else
 bT PM qL CA Qw C3 (ah (Ll + 1)))
 else
 some (.inl (CA.aH.aJ, (decide (CA.aH.aJ > 3)), Qw.ao, PM, (!PM))))
partial_fixpoint
def cD (qL : aw) (C3 : Int) : Option ((Unit) ⊕ ((Unit) ⊕ ((Unit) ⊕ Bool))) :=
 (if C3 < (qL.aA.length : Int) then
 ((
 idx qL.aA C3 >>= fun x63 =>
 m22 x63.aH >>= fun B2 =>
 (if B2 = true then
 idx qL.aA C3 >>= fun CA =>
 (if CA.aH.aJ > 3 then
 some (.inr (.inr (.inr (.inr false))))
 else
 idx qL.aA C3 >>= fun Qw =>
 gq Qw.ao >>= fun PM =>
 (if PM = true then
 bT PM qL CA Qw C3 0
 else
 some (.inr (.inr (.inr (.inr false))))))
 else
 some (.inr (.inr (.inr (.inr false)))))
 : Option ((Int × Bool × ba × Bool × Bool) ⊕ ((Unit) ⊕ ((Unit) ⊕ ((Unit) ⊕ Bool))))) >>= fun Si => match Si with
 | .inr r => some r
 | .inl (y55, b56, L8, b58, b59) =>
 cD qL (ah (C3 + 1))
 )
 else
 some (.inl ()))
partial_fixpoint
def cE (a0 : aD) (qL : aw) (Uq : Int) : Option ((Unit) ⊕ ((Unit) ⊕ Bool)) :=
 (if Uq < (qL.av.length : Int) then
 idx qL.av Uq >>= fun x93 =>
 gZ x93.fh [58, 58] >>= fun s95 =>
 idx qL.av Uq >>= fun x97 =>
 gZ s95 x97.ao >>= fun s99 =>
 e7 a0 s99 >>= fun Qx =>
 (if Qx < 0 then
 some (.inr (.inr false))
 else
 idx a0.aG Qx >>= fun Ur =>
 ko Ur >>= fun Yd =>
 (if Yd = true then
 some (.inr (.inr false))
 else
 idx a0.aG Qx >>= fun Us =>
 (if (Us.aE.length : Int) > 0 then
 some (.inr (.inr false))
 else
 cE a0 qL (ah (Uq + 1)))))
 else
 some (.inl ()))
partial_fixpoint
def cZ (a0 : aD) (vX : Int) : Option ((Unit) ⊕ Bool) :=
 (if vX < (a0.ay.length : Int) then
 ((
 idx a0.ay vX >>= fun qL =>
 jM a0.ay qL.ao >>= fun Ye =>
 (if Ye = vX then
 ((
 cD qL 0
 : Option ((Unit) ⊕ ((Unit) ⊕ ((Unit) ⊕ Bool)))) >>= fun Yf => match Yf with
 | .inr r => some r
 | .inl _ =>
 cE a0 qL 0
 )
 else
 some (.inr (.inr false)))
 : Option ((Unit) ⊕ ((Unit) ⊕ Bool))) >>= fun Ik => match Ik with
 | .inr r => some r
 | .inl _ =>
 cZ a0 (ah (vX + 1))
 )
 else
 some (.inl ()))
partial_fixpoint
def ll (a0 : aD) : Option (Bool) :=
 (if (a0.aG.length : Int) > 5000 then
 some false
 else
 (if (a0.ay.length : Int) = 0 then
 some false
 else
 idx a0.ay 0 >>= fun x3 =>
 (if x3.ao = ([69, 114, 114, 111, 114] : ba) then
 idx a0.ay 0 >>= fun x6 =>
 (if (x6.aA.length : Int) = 0 then
 some false
 else
 idx a0.ay 0 >>= fun x9 =>
 idx x9.aA 0 >>= fun kP =>
 (if kP.ao = ([109, 101, 115, 115, 97, 103, 101] : ba) then
 ((
 dp a0 0
 : Option ((Unit) ⊕ Bool)) >>= fun HS => match HS with
 | .inr r => some r
 | .inl _ =>
 ((
 cZ a0 0
 : Option ((Unit) ⊕ Bool)) >>= fun Fw => match Fw with
 | .inr r => some r
 | .inl _ =>
 some true
 )
 )
 else
 some false))
 else
 some false)))
theorem AG {a0 : aD} {r : Bool} (h : ll a0 = some r) : ACall Tryz.prog 20 [.agg a0.lit] [] (fun res h => res = .bool r ∧ h = []) := by
 refine cP Tryz.func20 ?_
 unfold ll at h
 refine .d (.d (.d ⟨rfl, ⟨rfl, _, rfl, (sD h (fun de h => ?_) (fun de h => ?_))⟩⟩))
 refine .t (.t (.t (.t (.t (.t (.t (.t (.t (.t (.t (.t (.t (.t (.t ?_))))))))))))))
 refine .t (.t (.t (.t (.t (.t (.t (.t (.t (.t (.t (.t (.t (.t (.t ?_))))))))))))))
 exact afJ
 refine ⟨rfl, (.f ⟨rfl, _, rfl, (.f (.f (.f (sE h (fun jr h => ?_) (fun jr h => ?_)))))⟩)⟩
 refine .t (.t (.t (.t (.t (.t (.t (.t (.t (.t (.t (.t (.t (.t (.t ?_))))))))))))))
 exact .t (.t (.t (.t (.t (.t (.t (.t (.t (.t (.d (eB h)))))))))))
 refine ⟨rfl, (.f ⟨rfl, _, rfl, (.f (bk h fun x3 WM h => ⟨aI WM, _, (aF WM).trans (aw.au x3), (.f (.f (.f (.f (tc h (fun nW h => ?_) (fun nW h => ?_))))))⟩))⟩)⟩
 refine .t (.t (.t (.t (.t (.t (.t (.t (.t (.t (.t (.t (.t (.t (.t ?_))))))))))))))
 exact .t (.t (.t (.d (eB h))))
 refine ⟨rfl, (.f ⟨rfl, _, rfl, (.f (bk h fun x6 X7 h => ⟨aI X7, _, (aF X7).trans (aw.au x6), (.f (.f (.f (.f (.f (sE h (fun nh h => ?_) (fun nh h => ?_)))))))⟩))⟩)⟩
 exact .t (.t (.t (.t (.t (.t (.t (.t (.t (.t (.d (eB h)))))))))))
 refine ⟨rfl, (.f ⟨rfl, _, rfl, (.f (bk h fun x9 jA h => ⟨aI jA, _, (aF jA).trans (aw.au x9), (.f (.f (.f (bk h fun kP dT h => ⟨aI dT, _, (aF dT).trans (aB.au kP), (.f (.f (.f (.f ?_))))⟩))))⟩))⟩)⟩
 refine tc h (fun jS h => ?_) (fun jS h => ?_)
 exact afJ
 obtain ⟨HS, Ut, Nq⟩ := bd h
 replace h := Ut
 refine .cut (fun σ η => .inl () = HS ∧ σ = [(1, .aN 0 0 0 0)] ∧ η = [.row 0 2 1 33 (fun _ => a0.lit)]) ?_ ?_
 refine .d ?_
 refine le (dp.partial_correctness a0 (motive := fun la L3 => HS = L3 → az _ _ [(1, .aN 0 0 0 0), (3, .int .i64 la)] [.row 0 2 1 33 (fun _ => a0.lit)]) ?_ 0 HS h rfl) (tk [0] ⟨.p, .i, ⟨⟩⟩ ⟨(bf rfl), ⟨⟩⟩)
 intro PG My la L3 h Tl
 subst Tl
 refine az.round (.d (.d ⟨rfl, ⟨rfl, _, rfl, (sD h (fun pf h => ?_) (fun pf h => ?_))⟩⟩))
 refine .d (.d (.float [(0, true), (1, true), (2, true), (3, true), (4, true), (5, true), (6, true), (8, true), (7, false), (9, true), (10, true), (11, true), (12, true), (13, true), (14, true), (15, true), (16, false), (17, true), (18, true)] agr ?_))
 refine ⟨rfl, _, rfl, ⟨rfl, ⟨rfl, _, rfl, (bk h fun uT rG h => ⟨aI rG, _, (aF rG).trans (aC.au uT), (bk h fun nZ xB h => (bO (uY xB) (sN h (fun sJ h => ?_) (fun sJ h => ?_))))⟩)⟩⟩⟩
 refine .t (.t (.t (.t (.t (.t (.t (.t (.d ?_))))))))
 obtain rfl := si h
 replace h := Nq
 exact eB h
 refine ⟨rfl, (.f ⟨rfl, _, rfl, (.f (.f (bk h fun Xz Yg h => ⟨aI Yg, _, (aF Yg).trans (aC.au Xz), (.f (.f (bk h fun v28 DM h => (bO (GA DM) (.f (.f (j3 h (fun sY h => ?_) (fun sY h => ?_))))))))⟩)))⟩)⟩
 refine .d ?_
 obtain rfl := si h
 replace h := Nq
 exact eB h
 exact lg (My _ _ h rfl) (tk [0] ⟨.p, .i, ⟨⟩⟩ ⟨(bf rfl), ⟨⟩⟩)
 exact afM
 rintro _ _ ⟨rfl, rfl, rfl⟩
 replace h := Nq
 obtain ⟨Fw, Nr, xR⟩ := bd h
 replace h := Nr
 refine .cut (fun σ η => .inl () = Fw ∧ σ = [] ∧ η = []) ?_ ?_
 refine .d ?_
 refine le (cZ.partial_correctness a0 (motive := fun vX Yh => Fw = Yh → az _ _ [(1, .aN 0 0 0 0), (4, .int .i64 vX)] [.row 0 2 1 33 (fun _ => a0.lit)]) ?_ 0 Fw h rfl) (tk [0] ⟨.p, .i, ⟨⟩⟩ ⟨(bf rfl), ⟨⟩⟩)
 intro PH Lm vX Yh h Yi
 subst Yi
 refine az.round (.d (.d ⟨rfl, ⟨rfl, _, rfl, (sD h (fun tC h => ?_) (fun tC h => ?_))⟩⟩))
 obtain ⟨Ik, Uu, AH⟩ := bd h
 replace h := Uu
 refine .cut (fun σ η => .inl () = Ik ∧ σ = [(1, .aN 0 0 0 0), (4, .int .i64 vX)] ∧ η = [.row 0 2 1 33 (fun _ => a0.lit)]) ?_ ?_
 refine .d ⟨rfl, ⟨rfl, _, rfl, (bk h fun qL GB h => ⟨aI GB, _, (aF GB).trans (aw.au qL), ⟨rfl, _, fun _ => [.str qL.ao, .str qL.bD, sl 8 aB.cells qL.aA, sl 5 ax.cells qL.av], rfl, aM rfl, (.d (.d ⟨rfl, ⟨rfl, _, rfl, ⟨rfl, ⟨rfl, _, rfl, (bk h fun Ye Uv h => (bO (AF Uv) (sN h (fun AI h => ?_) (fun AI h => ?_))))⟩⟩⟩⟩))⟩⟩)⟩⟩
 refine .d ?_
 obtain rfl := si h
 replace h := AH
 exact afq
 obtain ⟨Yf, abA, Ns⟩ := bd h
 replace h := abA
 refine .cut (fun σ η => .inl () = Yf ∧ σ = [(1, .aN 0 0 0 0), (4, .int .i64 vX), (5, .aN 1 0 0 0)] ∧ η = [.row 0 2 1 33 (fun _ => a0.lit), .row 0 4 1 68 (fun _ => qL.lit)]) ?_ ?_
 refine .d ?_
 refine le (cD.partial_correctness qL (motive := fun C3 o87 => Yf = o87 → az _ _ [(1, .aN 0 0 0 0), (4, .int .i64 vX), (5, .aN 1 0 0 0), (6, .int .i64 C3)] [.row 0 2 1 33 (fun _ => a0.lit), .row 0 4 1 68 (fun _ => qL.lit)]) ?_ 0 Yf h rfl) (tk [0, 1] ⟨.p, .i, .p, .i, ⟨⟩⟩ ⟨(bf rfl), (bf rfl), ⟨⟩⟩)
 intro F53 abB C3 o87 h abC
 subst abC
 refine az.round (.d (.d ⟨rfl, ⟨rfl, _, rfl, (sD h (fun abD h => ?_) (fun abD h => ?_))⟩⟩))
 obtain ⟨Si, abE, Nt⟩ := bd h
 replace h := abE
 refine .cut (fun σ η => ∃ y55, ∃ b56, ∃ L8, ∃ b58, ∃ b59, .inl (y55, b56, L8, b58, b59) = Si ∧ σ = [(1, .aN 0 0 0 0), (4, .int .i64 vX), (5, .aN 1 0 0 0), (6, .int .i64 C3), (109, .aN 1 0 0 2), (110, sl 8 aB.cells qL.aA), (111, .int .i64 C3), (115, .int .i64 y55), (116, .bool b56), (119, .aN 1 0 0 2), (120, sl 8 aB.cells qL.aA), (121, .int .i64 C3), (124, .str L8), (125, .bool b58), (126, .bool b59)] ∧ η = [.row 0 2 1 33 (fun _ => a0.lit), .row 0 4 1 68 (fun _ => qL.lit)]) ?_ ?_
 refine .d (.d ⟨rfl, ⟨rfl, _, rfl, (bk h fun x63 Yj h => ⟨aI Yj, _, (aF Yj).trans (aB.au x63), (bk h fun B2 Ln h => (bO (abq Ln) (j3 h (fun Uw h => ?_) (fun Uw h => ?_))))⟩)⟩⟩)
 refine .t (.t (.t (.t (.t (.t (.t (.t (.t (.t (.t (.t (.t (.t (.t ?_))))))))))))))
 refine .t (.t (.t (.d ?_)))
 obtain rfl := si h
 replace h := Nt
 obtain rfl := si h
 replace h := Ns
 obtain rfl := si h
 replace h := AH
 exact afq
 refine ⟨rfl, (.f ⟨rfl, _, rfl, (.f (.f (bk h fun CA GC h => ⟨aI GC, _, (aF GC).trans (aB.au CA), (.f (.f (.f (.f (.f (sD h (fun abF h => ?_) (fun abF h => ?_)))))))⟩)))⟩)⟩
 refine .t (.t (.t (.t (.t (.t (.t (.t (.t (.d ?_)))))))))
 obtain rfl := si h
 replace h := Nt
 obtain rfl := si h
 replace h := Ns
 obtain rfl := si h
 replace h := AH
 exact afq
 refine ⟨rfl, (.f ⟨rfl, _, rfl, (.f (.f (bk h fun Qw Yk h => ⟨aI Yk, _, (aF Yk).trans (aB.au Qw), (.f (.f (.f (bk h fun PM abG h => (bO (oA abG) (.f (.f (j3 h (fun abH h => ?_) (fun abH h => ?_)))))))))⟩)))⟩)⟩
 refine .d ?_
 obtain rfl := si h
 replace h := Nt
 obtain rfl := si h
 replace h := Ns
 obtain rfl := si h
 replace h := AH
 exact afq
 refine .d ?_
 refine le (bT.partial_correctness PM qL CA Qw C3 (motive := fun Ll Yl => Si = Yl → az _ _ [(1, .aN 0 0 0 0), (4, .int .i64 vX), (5, .aN 1 0 0 0), (6, .int .i64 C3), (7, .int .i64 Ll), (109, .aN 1 0 0 2), (110, sl 8 aB.cells qL.aA), (111, .int .i64 C3), (115, .int .i64 CA.aH.aJ), (116, .bool (decide (CA.aH.aJ > 3))), (119, .aN 1 0 0 2), (120, sl 8 aB.cells qL.aA), (121, .int .i64 C3), (124, .str Qw.ao), (125, .bool PM), (126, .bool (!PM))] [.row 0 2 1 33 (fun _ => a0.lit), .row 0 4 1 68 (fun _ => qL.lit)]) ?_ 0 Si h rfl) (tk [0, 1] ⟨.p, .i, .p, .i, .i, .p, .l, .i, .i, .b, .p, .l, .i, .s, .b, .b, ⟨⟩⟩ ⟨(bf rfl), (bf rfl), ⟨⟩⟩)
 intro F78 abI Ll Yl h Ux
 subst Ux
 refine az.round (.d (.d (sD h (fun Uy h => ?_) (fun Uy h => ?_))))
 refine .d (.d ⟨rfl, ⟨rfl, _, rfl, (bk h fun Qs Nu h => ⟨aI Nu, _, (aF Nu).trans (aB.au Qs), ⟨rfl, ⟨rfl, _, rfl, (bk h fun x82 Ym h => ⟨aI Ym, _, (aF Ym).trans (aB.au x82), (sE h (fun Uz h => ?_) (fun Uz h => ?_))⟩)⟩⟩⟩)⟩⟩)
 refine .d ?_
 obtain rfl := si h
 replace h := Nt
 obtain rfl := si h
 replace h := Ns
 obtain rfl := si h
 replace h := AH
 exact afq
 exact lg (abI _ _ h rfl) (tk [0, 1] ⟨.p, .i, .p, .i, .i, .p, .l, .i, .i, .b, .p, .l, .i, .s, .b, .b, ⟨⟩⟩ ⟨(bf rfl), (bf rfl), ⟨⟩⟩)
 exact ct ⟨_, _, _, _, _, si h, rfl, rfl⟩ (tk [0, 1] ⟨.p, .i, .p, .i, .p, .l, .i, .i, .b, .p, .l, .i, .s, .b, .b, ⟨⟩⟩ ⟨(bf rfl), (bf rfl), ⟨⟩⟩)
 rintro _ _ ⟨y55, b56, L8, b58, b59, rfl, rfl, rfl⟩
 replace h := Nt
 exact lg (abB _ _ h rfl) (tk [0, 1] ⟨.p, .i, .p, .i, ⟨⟩⟩ ⟨(bf rfl), (bf rfl), ⟨⟩⟩)
 exact ct ⟨si h, rfl, rfl⟩ (tk [0, 1] ⟨.p, .i, .p, ⟨⟩⟩ ⟨(bf rfl), (bf rfl), ⟨⟩⟩)
 rintro _ _ ⟨rfl, rfl, rfl⟩
 replace h := Ns
 refine .d ?_
 refine le (cE.partial_correctness a0 qL (motive := fun Uq Yn => Ik = Yn → az _ _ [(1, .aN 0 0 0 0), (4, .int .i64 vX), (5, .aN 1 0 0 0), (8, .int .i64 Uq)] [.row 0 2 1 33 (fun _ => a0.lit), .row 0 4 1 68 (fun _ => qL.lit)]) ?_ 0 Ik h rfl) (tk [0, 1] ⟨.p, .i, .p, .i, ⟨⟩⟩ ⟨(bf rfl), (bf rfl), ⟨⟩⟩)
 intro F91 abJ Uq Yn h Yo
 subst Yo
 refine az.round (.d (.d ⟨rfl, ⟨rfl, _, rfl, (sD h (fun abK h => ?_) (fun abK h => ?_))⟩⟩))
 refine .d (.d (.float [(0, true), (1, true), (2, true), (3, true), (4, true), (5, true), (6, true), (7, true), (8, true), (9, true), (10, true), (11, true), (12, true), (13, true), (14, true), (15, false), (16, true)] agr ?_))
 refine ⟨rfl, _, rfl, ⟨rfl, ⟨rfl, _, rfl, (bk h fun x93 Yp h => ⟨aI Yp, _, (aF Yp).trans (ax.au x93), (bk h fun s95 Yq h => ⟨bZ Yq, s95, b8 Yq, ⟨rfl, ⟨rfl, _, rfl, (bk h fun x97 Yr h => ⟨aI Yr, _, (aF Yr).trans (ax.au x97), (bk h fun s99 Sj h => ⟨bZ Sj, s99, b8 Sj, (bk h fun Qx Ys h => (bO (uY Ys) ?_))⟩)⟩)⟩⟩⟩)⟩)⟩⟩⟩
 refine .d (sD h (fun Yt h => ?_) (fun Yt h => ?_))
 refine .t (.t (.t (.t (.t (.t (.t (.t (.t (.t (.t (.t (.t (.t (.t ?_))))))))))))))
 refine .t (.d ?_)
 obtain rfl := si h
 replace h := AH
 exact afq
 refine ⟨rfl, (.f ⟨rfl, _, rfl, (.f (.f (bk h fun Ur Sk h => ⟨aI Sk, _, (aF Sk).trans (aC.au Ur), (.f (.f (bk h fun Yd Yu h => (bO (yH Yu) (.f (sV h (fun Yv h => ?_) (fun Yv h => ?_)))))))⟩)))⟩)⟩
 refine .t (.t (.t (.t (.t (.t (.t (.t (.t (.d ?_)))))))))
 obtain rfl := si h
 replace h := AH
 exact afq
 refine ⟨rfl, (.f ⟨rfl, _, rfl, (.f (.f (bk h fun Us Sl h => ⟨aI Sl, _, (aF Sl).trans (aC.au Us), (.f (.f (.f (.f (.f (sD h (fun Yw h => ?_) (fun Yw h => ?_)))))))⟩)))⟩)⟩
 refine .d ?_
 obtain rfl := si h
 replace h := AH
 exact afq
 exact lg (abJ _ _ h rfl) (tk [0, 1] ⟨.p, .i, .p, .i, ⟨⟩⟩ ⟨(bf rfl), (bf rfl), ⟨⟩⟩)
 exact ct ⟨si h, rfl, rfl⟩ (tk [0] ⟨.p, .i, ⟨⟩⟩ ⟨(bf rfl), ⟨⟩⟩)
 rintro _ _ ⟨rfl, rfl, rfl⟩
 replace h := AH
 exact lg (Lm _ _ h rfl) (tk [0] ⟨.p, .i, ⟨⟩⟩ ⟨(bf rfl), ⟨⟩⟩)
 exact afN
 rintro _ _ ⟨rfl, rfl, rfl⟩
 replace h := xR
 exact afJ
def eR (a0 : aD) (l7 : List (ba × Int)) (y8 : Int) : Option (((List (ba × Int))) ⊕ Bool) :=
 (if y8 < (a0.aG.length : Int) then
 idx a0.aG y8 >>= fun mO =>
 (if (sM l7 mO.ao) = true then
 some (.inr false)
 else
 hU mO >>= fun pt =>
 (if pt = true then
 eR a0 (fp l7 mO.ao y8) (ah (y8 + 1))
 else
 some (.inr false)))
 else
 some (.inl l7))
partial_fixpoint
def cf (oD : aw) (L9 : List (ba × Bool)) (WN : Int) : Option ((Unit) ⊕ (((List (ba × Bool))) ⊕ ((Unit) ⊕ Bool))) :=
 (if WN < (oD.aA.length : Int) then
 idx oD.aA WN >>= fun CC =>
 (if (rF L9 CC.ao false) = true then
 some (.inr (.inr (.inr false)))
 else
 ef CC.ao >>= fun v53 =>
 (if v53 = true then
 iP CC.aH >>= fun HX =>
 (if HX = true then
 yx CC.aH.aJ 0 3 >>= fun v59 =>
 (if v59 = true then
 cf oD (fp L9 CC.ao true) (ah (WN + 1))
 else
 some (.inr (.inr (.inr false))))
 else
 some (.inr (.inr (.inr false))))
 else
 some (.inr (.inr (.inr false)))))
 else
 some (.inl ()))
partial_fixpoint
def cF (a0 : aD) (l3 : List (ba × Int)) (sA : List (ba × Bool)) (oD : aw) (WO : Int) : Option (((List (ba × Bool))) ⊕ ((Unit) ⊕ Bool)) :=
 (if WO < (oD.av.length : Int) then
 idx oD.av WO >>= fun CA =>
 gZ CA.fh [58, 58] >>= fun Nv =>
 gZ Nv CA.ao >>= fun Sn =>
 (if (sM l3 Sn) = true then
 idx a0.aG (rF l3 Sn 0) >>= fun x75 =>
 jx x75 >>= fun GD =>
 (if GD = true then
 some (.inr (.inr false))
 else
 idx a0.aG (rF l3 Sn 0) >>= fun Qs =>
 (if (Qs.aE.length : Int) > 0 then
 some (.inr (.inr false))
 else
 cF a0 l3 sA oD (ah (WO + 1))))
 else
 some (.inr (.inr false)))
 else
 some (.inl (fp sA oD.ao true)))
partial_fixpoint
def cG (a0 : aD) (l3 : List (ba × Int)) (sA : List (ba × Bool)) (xS : Int) : Option ((Unit) ⊕ Bool) :=
 (if xS < (a0.ay.length : Int) then
 ((
 idx a0.ay xS >>= fun oD =>
 (if (rF sA oD.ao false) = true then
 some (.inr (.inr false))
 else
 ((
 cf oD ([] : List (ba × Bool)) 0
 : Option ((Unit) ⊕ (((List (ba × Bool))) ⊕ ((Unit) ⊕ Bool)))) >>= fun I3 => match I3 with
 | .inr r => some r
 | .inl _ =>
 cF a0 l3 sA oD 0
 ))
 : Option (((List (ba × Bool))) ⊕ ((Unit) ⊕ Bool))) >>= fun Nw => match Nw with
 | .inr r => some r
 | .inl vY =>
 cG a0 l3 vY (ah (xS + 1))
 )
 else
 some (.inl ()))
partial_fixpoint
def jN (a0 : aD) : Option (Bool) :=
 (if (a0.aG.length : Int) > 5000 then
 some false
 else
 (if (a0.ay.length : Int) = 0 then
 some false
 else
 ((
 eR a0 ([] : List (ba × Int)) 0
 : Option (((List (ba × Int))) ⊕ Bool)) >>= fun o4 => match o4 with
 | .inr r => some r
 | .inl l3 =>
 idx a0.ay 0 >>= fun Ar =>
 (if Ar.ao = ([69, 114, 114, 111, 114] : ba) then
 (if (Ar.aA.length : Int) = 0 then
 some false
 else
 idx Ar.aA 0 >>= fun HT =>
 (if HT.ao = ([109, 101, 115, 115, 97, 103, 101] : ba) then
 ((
 cG a0 l3 ([] : List (ba × Bool)) 0
 : Option ((Unit) ⊕ Bool)) >>= fun HY => match HY with
 | .inr r => some r
 | .inl _ =>
 some true
 )
 else
 some false))
 else
 some false)
 )))
theorem AJ {a0 : aD} {r : Bool} (h : jN a0 = some r) : ACall Tryz.prog 24 [.agg a0.lit] [] (fun res h => res = .bool r ∧ h = []) := by
 refine cP Tryz.func24 ?_
 unfold jN at h
 refine .d (.d (.d ⟨rfl, ⟨rfl, _, rfl, (sD h (fun de h => ?_) (fun de h => ?_))⟩⟩))
 exact .t (.t (.t (.t (.t (.d (eB h))))))
 refine ⟨rfl, (.f ⟨rfl, _, rfl, (.f (.f (.f (sE h (fun jr h => ?_) (fun jr h => ?_)))))⟩)⟩
 exact afJ
 refine .d ⟨row (mc (PV.str) (PV.int .i64)) ([] : List (ba × Int)), ?_⟩
 obtain ⟨o4, KR, Ia⟩ := bd h
 replace h := KR
 refine .cut (fun σ η => ∃ l3, .inl l3 = o4 ∧ σ = [(1, .aN 0 0 0 0), (3, .kN 1)] ∧ η = [.row 0 2 1 33 (fun _ => a0.lit), .row 0 2 l3.length 112 (row (mc (PV.str) (PV.int .i64)) l3)]) ?_ ?_
 refine .d ⟨rfl, ⟨rfl, _, rfl, ?_⟩⟩
 refine le (eR.partial_correctness a0 (motive := fun l7 y8 Ma => o4 = Ma → az _ _ [(1, .aN 0 0 0 0), (3, .kN 1), (31, sl 6 aC.cells a0.aG), (32, .int .i64 (a0.aG.length : Int)), (33, .int .i64 y8)] [.row 0 2 1 33 (fun _ => a0.lit), .row 0 2 l7.length 112 (row (mc (PV.str) (PV.int .i64)) l7)]) ?_ ([] : List (ba × Int)) 0 o4 h rfl) (tk [0, 1] ⟨.p, .m, .l, .i, .i, ⟨⟩⟩ ⟨(bf rfl), nw, ⟨⟩⟩)
 intro F10 Mr l7 y8 Ma h Nx
 subst Nx
 refine az.round (.d (.d (sD h (fun jU h => ?_) (fun jU h => ?_))))
 refine .d (.d (bk h fun mO oT h => ⟨aI oT, _, (aF oT).trans (aC.au mO), ⟨rfl, _, fun _ => [.str mO.ao, sl 2 TParam.cells mO.ak, sl 2 TParam.cells mO.aE, sl 1 cS mO.ar, .bool mO.dk, sl 5 aR.cells mO.aq], rfl, aM rfl, (.d (.d ⟨rfl, ⟨rfl, _, rfl, ⟨.int .i64 (rF l7 mO.ao 0), sM l7 mO.ao, qY (ti := vr.get 9) (c := PV.str) (d := PV.int .i64) oE l7 mO.ao 0, (.d (sV h (fun kU h => ?_) (fun kU h => ?_)))⟩⟩⟩))⟩⟩))
 refine .t (.t (.t (.t (.d ?_))))
 obtain rfl := si h
 replace h := Ia
 exact eB h
 refine ⟨rfl, _, rfl, (.f (bk h fun pt vo h => (bO (GG vo) (.f (.f (j3 h (fun kR h => ?_) (fun kR h => ?_)))))))⟩
 refine .d ?_
 obtain rfl := si h
 replace h := Ia
 exact eB h
 exact ⟨rfl, ⟨rfl, _, rfl, ⟨(fp l7 mO.ao y8).length, row (mc (PV.str) (PV.int .i64)) (fp l7 mO.ao y8), um (ti := vr.get 9) (c := PV.str) (d := PV.int .i64) oE l7 mO.ao y8, (lg (Mr _ _ _ h rfl) (tk [0, 1] ⟨.p, .m, .l, .i, .i, ⟨⟩⟩ ⟨(bf rfl), nw, ⟨⟩⟩))⟩⟩⟩
 exact ct ⟨_, si h, rfl, rfl⟩ (tk [0, 1] ⟨.p, .m, ⟨⟩⟩ ⟨(bf rfl), nw, ⟨⟩⟩)
 rintro _ _ ⟨l3, rfl, rfl, rfl⟩
 replace h := Ia
 refine .d (.d ⟨rfl, ⟨rfl, _, rfl, (bk h fun Ar xT h => ⟨aI xT, _, (aF xT).trans (aw.au Ar), ⟨rfl, _, fun _ => [.str Ar.ao, .str Ar.bD, sl 8 aB.cells Ar.aA, sl 5 ax.cells Ar.av], rfl, aM rfl, (.d ⟨rfl, ⟨rfl, _, rfl, (tc h (fun kS h => ?_) (fun kS h => ?_))⟩⟩)⟩⟩)⟩⟩)
 exact .t (.t (.t (.t (.t (.t (.t (.t (.t (.t (.t (.t (.d (eB h)))))))))))))
 refine ⟨rfl, (.f ⟨rfl, _, rfl, (.f (.f (.f (sE h (fun pW h => ?_) (fun pW h => ?_)))))⟩)⟩
 exact .t (.t (.t (.t (.t (.t (.t (.d (eB h))))))))
 refine ⟨rfl, (.f ⟨rfl, _, rfl, (.f (bk h fun HT FQ h => ⟨aI FQ, _, (aF FQ).trans (aB.au HT), (.f (.f (.f (.f (tc h (fun wi h => ?_) (fun wi h => ?_))))))⟩))⟩)⟩
 exact afJ
 refine .d ⟨row (mc (PV.str) (PV.bool)) ([] : List (ba × Bool)), ?_⟩
 obtain ⟨HY, Ny, vt⟩ := bd h
 replace h := Ny
 refine .cut (fun σ η => .inl () = HY ∧ σ = [] ∧ η = []) ?_ ?_
 refine .d ⟨rfl, ⟨rfl, _, rfl, ?_⟩⟩
 refine le (cG.partial_correctness a0 l3 (motive := fun sA xS Yl => HY = Yl → az _ _ [(1, .aN 0 0 0 0), (3, .kN 1), (9, .kN 2), (79, sl 4 aw.cells a0.ay), (80, .int .i64 (a0.ay.length : Int)), (81, .int .i64 xS)] [.row 0 2 1 33 (fun _ => a0.lit), .row 0 2 l3.length 112 (row (mc (PV.str) (PV.int .i64)) l3), .row 0 2 sA.length 114 (row (mc (PV.str) (PV.bool)) sA)]) ?_ ([] : List (ba × Bool)) 0 HY h rfl) (tk [0, 1, 3] ⟨.p, .m, .m, .l, .i, .i, ⟨⟩⟩ ⟨(bf rfl), nw, nw, ⟨⟩⟩)
 intro MG NA sA xS Yl h Ux
 subst Ux
 refine az.round (.d (.d (sD h (fun xC h => ?_) (fun xC h => ?_))))
 obtain ⟨Nw, NB, xU⟩ := bd h
 replace h := NB
 refine .cut (fun σ η => ∃ vY, .inl vY = Nw ∧ σ = [(1, .aN 0 0 0 0), (3, .kN 1), (9, .kN 2), (79, sl 4 aw.cells a0.ay), (80, .int .i64 (a0.ay.length : Int)), (81, .int .i64 xS)] ∧ η = [.row 0 2 1 33 (fun _ => a0.lit), .row 0 2 l3.length 112 (row (mc (PV.str) (PV.int .i64)) l3), .row 0 2 vY.length 114 (row (mc (PV.str) (PV.bool)) vY)]) ?_ ?_
 refine .d (bk h fun oD xV h => ⟨aI xV, _, (aF xV).trans (aw.au oD), ⟨rfl, _, fun _ => [.str oD.ao, .str oD.bD, sl 8 aB.cells oD.aA, sl 5 ax.cells oD.av], rfl, aM rfl, (.d (.d ⟨rfl, ⟨rfl, _, rfl, ⟨.bool (rF sA oD.ao false), sM sA oD.ao, qY (ti := vr.get 9) (c := PV.str) (d := PV.bool) oE sA oD.ao false, (sV h (fun I4 h => ?_) (fun I4 h => ?_))⟩⟩⟩))⟩⟩)
 refine .d ?_
 obtain rfl := si h
 replace h := xU
 exact afm
 refine .d ⟨rfl, ⟨rfl, _, rfl, ⟨(fp sA oD.ao true).length, row (mc (PV.str) (PV.bool)) (fp sA oD.ao true), um (ti := vr.get 9) (c := PV.str) (d := PV.bool) oE sA oD.ao true, (.d ⟨row (mc (PV.str) (PV.bool)) ([] : List (ba × Bool)), ?_⟩)⟩⟩⟩
 obtain ⟨I3, I5, zr⟩ := bd h
 replace h := I5
 refine .cut (fun σ η => .inl () = I3 ∧ σ = [(1, .aN 0 0 0 0), (3, .kN 1), (9, .kN 2), (11, .aN 3 0 0 0), (79, sl 4 aw.cells a0.ay), (80, .int .i64 (a0.ay.length : Int)), (81, .int .i64 xS)] ∧ η = [.row 0 2 1 33 (fun _ => a0.lit), .row 0 2 l3.length 112 (row (mc (PV.str) (PV.int .i64)) l3), .row 0 2 (fp sA oD.ao true).length 114 (row (mc (PV.str) (PV.bool)) (fp sA oD.ao true)), .row 0 4 1 68 (fun _ => oD.lit)]) ?_ ?_
 refine .d ⟨rfl, ⟨rfl, _, rfl, ?_⟩⟩
 refine le (cf.partial_correctness oD (motive := fun L9 WN o62 => I3 = o62 → az _ _ [(1, .aN 0 0 0 0), (3, .kN 1), (9, .kN 2), (11, .aN 3 0 0 0), (12, .kN 4), (79, sl 4 aw.cells a0.ay), (80, .int .i64 (a0.ay.length : Int)), (81, .int .i64 xS), (94, sl 8 aB.cells oD.aA), (95, .int .i64 (oD.aA.length : Int)), (96, .int .i64 WN)] [.row 0 2 1 33 (fun _ => a0.lit), .row 0 2 l3.length 112 (row (mc (PV.str) (PV.int .i64)) l3), .row 0 2 (fp sA oD.ao true).length 114 (row (mc (PV.str) (PV.bool)) (fp sA oD.ao true)), .row 0 4 1 68 (fun _ => oD.lit), .row 0 2 L9.length 114 (row (mc (PV.str) (PV.bool)) L9)]) ?_ ([] : List (ba × Bool)) 0 I3 h rfl) (tk [0, 1, 2, 3, 4] ⟨.p, .m, .m, .p, .m, .l, .i, .i, .l, .i, .i, ⟨⟩⟩ ⟨(bf rfl), nw, nw, (bf rfl), nw, ⟨⟩⟩)
 intro Qf abL L9 WN o62 h abM
 subst abM
 refine az.round (.d (.d (sD h (fun EA h => ?_) (fun EA h => ?_))))
 refine .d (.d (bk h fun CC Yx h => ⟨aI Yx, _, (aF Yx).trans (aB.au CC), ⟨rfl, _, fun _ => [.str CC.ao, .str CC.bn, .bool CC.bc, .int .i64 CC.aH.aJ, .int .i64 CC.aH.bb, .str CC.aH.bm, .int .i64 CC.aH.bs, sl 8 ae.cells CC.aH.ai], rfl, aM rfl, (.d (.d ⟨rfl, ⟨rfl, _, rfl, ⟨.bool (rF L9 CC.ao false), sM L9 CC.ao, qY (ti := vr.get 9) (c := PV.str) (d := PV.bool) oE L9 CC.ao false, (sV h (fun Eu h => ?_) (fun Eu h => ?_))⟩⟩⟩))⟩⟩))
 refine .t (.t (.t (.t (.t (.t (.t (.t (.t (.t (.t (.t (.t (.t (.t ?_))))))))))))))
 refine .t (.d ?_)
 obtain rfl := si h
 replace h := zr
 obtain rfl := si h
 replace h := xU
 exact afm
 refine ⟨rfl, (.f ⟨rfl, _, rfl, (.f (bk h fun v53 IW h => (bO (nn IW) (.f (.f (j3 h (fun Ui h => ?_) (fun Ui h => ?_)))))))⟩)⟩
 refine .t (.t (.t (.t (.t (.t (.t (.t (.t (.t (.t (.d ?_)))))))))))
 obtain rfl := si h
 replace h := zr
 obtain rfl := si h
 replace h := xU
 exact afm
 refine ⟨rfl, (.f ⟨rfl, _, rfl, (.f (bk h fun HX NC h => (bO (wA NC) (.f (.f (j3 h (fun I6 h => ?_) (fun I6 h => ?_)))))))⟩)⟩
 refine .t (.t (.t (.t (.t (.t (.d ?_))))))
 obtain rfl := si h
 replace h := zr
 obtain rfl := si h
 replace h := xU
 exact afm
 refine ⟨rfl, (.f ⟨rfl, (.f ⟨rfl, _, rfl, (.f (bk h fun v59 I7 h => (bO (uM I7) (.f (.f (j3 h (fun abN h => ?_) (fun abN h => ?_)))))))⟩)⟩)⟩
 refine .d ?_
 obtain rfl := si h
 replace h := zr
 obtain rfl := si h
 replace h := xU
 exact afm
 exact ⟨rfl, ⟨rfl, _, rfl, ⟨(fp L9 CC.ao true).length, row (mc (PV.str) (PV.bool)) (fp L9 CC.ao true), um (ti := vr.get 9) (c := PV.str) (d := PV.bool) oE L9 CC.ao true, (lg (abL _ _ _ h rfl) (tk [0, 1, 2, 3, 4] ⟨.p, .m, .m, .p, .m, .l, .i, .i, .l, .i, .i, ⟨⟩⟩ ⟨(bf rfl), nw, nw, (bf rfl), nw, ⟨⟩⟩))⟩⟩⟩
 exact ct ⟨si h, rfl, rfl⟩ (tk [0, 1, 2, 3] ⟨.p, .m, .m, .p, .l, .i, .i, ⟨⟩⟩ ⟨(bf rfl), nw, nw, (bf rfl), ⟨⟩⟩)
 rintro _ _ ⟨rfl, rfl, rfl⟩
 replace h := zr
 refine .d ⟨rfl, ⟨rfl, _, rfl, ?_⟩⟩
 refine le (cF.partial_correctness a0 l3 sA oD (motive := fun WO o83 => Nw = o83 → az _ _ [(1, .aN 0 0 0 0), (3, .kN 1), (9, .kN 2), (79, sl 4 aw.cells a0.ay), (80, .int .i64 (a0.ay.length : Int)), (81, .int .i64 xS), (128, sl 5 ax.cells oD.av), (129, .int .i64 (oD.av.length : Int)), (130, .int .i64 WO)] [.row 0 2 1 33 (fun _ => a0.lit), .row 0 2 l3.length 112 (row (mc (PV.str) (PV.int .i64)) l3), .row 0 2 (fp sA oD.ao true).length 114 (row (mc (PV.str) (PV.bool)) (fp sA oD.ao true))]) ?_ 0 Nw h rfl) (tk [0, 1, 2] ⟨.p, .m, .m, .l, .i, .i, .l, .i, .i, ⟨⟩⟩ ⟨(bf rfl), nw, nw, ⟨⟩⟩)
 intro F66 abO WO o83 h abP
 subst abP
 refine az.round (.d (.d (sD h (fun Uw h => ?_) (fun Uw h => ?_))))
 refine .d (.d (bk h fun CA GC h => ⟨aI GC, _, (aF GC).trans (ax.au CA), ⟨rfl, _, fun _ => [.str CA.ao, .str CA.bn, .str CA.fh, .bool CA.bc, .bool CA.fZ], rfl, aM rfl, (.d ⟨rfl, ⟨rfl, _, rfl, (bk h fun Nv Yy h => ⟨bZ Yy, Nv, b8 Yy, ⟨rfl, ⟨rfl, _, rfl, (bk h fun Sn Yz h => ⟨bZ Yz, Sn, b8 Yz, ⟨.int .i64 (rF l3 Sn 0), sM l3 Sn, qY (ti := vr.get 9) (c := PV.str) (d := PV.int .i64) oE l3 Sn 0, ?_⟩⟩)⟩⟩⟩)⟩⟩)⟩⟩))
 refine .d (j3 h (fun UA h => ?_) (fun UA h => ?_))
 refine .t (.t (.t (.t (.t (.t (.t (.t (.t (.t (.t (.t (.t (.t (.t ?_))))))))))))))
 refine .t (.d ?_)
 obtain rfl := si h
 replace h := xU
 exact afm
 refine ⟨rfl, (.f ⟨rfl, _, rfl, (.f (.f (bk h fun x75 YA h => ⟨aI YA, _, (aF YA).trans (aC.au x75), (.f (.f (bk h fun GD ND h => (bO (yI ND) (.f (sV h (fun Uy h => ?_) (fun Uy h => ?_)))))))⟩)))⟩)⟩
 refine .t (.t (.t (.t (.t (.t (.t (.t (.t (.d ?_)))))))))
 obtain rfl := si h
 replace h := xU
 exact afm
 refine ⟨rfl, (.f ⟨rfl, _, rfl, (.f (.f (bk h fun Qs Nu h => ⟨aI Nu, _, (aF Nu).trans (aC.au Qs), (.f (.f (.f (.f (.f (sD h (fun abQ h => ?_) (fun abQ h => ?_)))))))⟩)))⟩)⟩
 refine .d ?_
 obtain rfl := si h
 replace h := xU
 exact afm
 exact lg (abO _ _ h rfl) (tk [0, 1, 2] ⟨.p, .m, .m, .l, .i, .i, .l, .i, .i, ⟨⟩⟩ ⟨(bf rfl), nw, nw, ⟨⟩⟩)
 exact ct ⟨_, si h, rfl, rfl⟩ (tk [0, 1, 2] ⟨.p, .m, .m, .l, .i, .i, ⟨⟩⟩ ⟨(bf rfl), nw, nw, ⟨⟩⟩)
 rintro _ _ ⟨vY, rfl, rfl, rfl⟩
 replace h := xU
 exact lg (NA _ _ _ h rfl) (tk [0, 1, 2] ⟨.p, .m, .m, .l, .i, .i, ⟨⟩⟩ ⟨(bf rfl), nw, nw, ⟨⟩⟩)
 exact afN
 rintro _ _ ⟨rfl, rfl, rfl⟩
 replace h := vt
 exact afJ
set_option maxRecDepth 100000
mutual
def kq (a0 : af) : Option (Bool) :=
 ((
 (if a0.aJ = 4 then
 ((
 hZ a0 0
 : Option ((Unit) ⊕ ((Unit) ⊕ Bool))) >>= fun o5 => match o5 with
 | .inr r => some r
 | .inl _ =>
 some (.inr true)
 )
 else
 some (.inl ()))
 : Option ((Unit) ⊕ Bool)) >>= fun o1 => match o1 with
 | .inr r => some r
 | .inl _ =>
 yx a0.aJ 0 3 >>= fun nZ =>
 some nZ
 )
partial_fixpoint
def hZ (a0 : af) (y8 : Int) : Option ((Unit) ⊕ ((Unit) ⊕ Bool)) :=
 (if y8 < (a0.ai.length : Int) then
 idx a0.ai y8 >>= fun sx =>
 kq sx.aL >>= fun pt =>
 (if pt = true then
 hZ a0 (ah (y8 + 1))
 else
 some (.inr (.inr false)))
 else
 some (.inl ()))
partial_fixpoint
end
def EB (a0 : af) (r : Bool) : Prop := ACall Tryz.prog 114 [.agg a0.lit] [] (fun res h => res = .bool r ∧ h = [])
inductive eT : af → Int → ((Unit) ⊕ ((Unit) ⊕ Bool)) → Prop
 | mk (NF : af → Option (Bool)) (YB : ∀ a0 r, NF a0 = some r → EB a0 r) (gQ : af → Int → Option ((Unit) ⊕ ((Unit) ⊕ Bool))) (wB : ∀ a0 y8 o, gQ a0 y8 = some o → eT a0 y8 o) (a0 : af) (y8 : Int) (o : (Unit) ⊕ ((Unit) ⊕ Bool)) (h : (
 (if y8 < (a0.ai.length : Int) then
 idx a0.ai y8 >>= fun sx =>
 NF sx.aL >>= fun pt =>
 (if pt = true then
 gQ a0 (ah (y8 + 1))
 else
 some (.inr (.inr false)))
 else
 some (.inl ()))
 ) = some o) : eT a0 y8 o
theorem vu {motive : af → Int → ((Unit) ⊕ ((Unit) ⊕ Bool)) → Prop} (step : ∀ (NF : af → Option (Bool)) (YB : ∀ a0 r, NF a0 = some r → EB a0 r) (gQ : af → Int → Option ((Unit) ⊕ ((Unit) ⊕ Bool))) (wB : ∀ a0 y8 o, gQ a0 y8 = some o → eT a0 y8 o) (a0 : af) (y8 : Int) (o : (Unit) ⊕ ((Unit) ⊕ Bool)) (h : (
 (if y8 < (a0.ai.length : Int) then
 idx a0.ai y8 >>= fun sx =>
 NF sx.aL >>= fun pt =>
 (if pt = true then
 gQ a0 (ah (y8 + 1))
 else
 some (.inr (.inr false)))
 else
 some (.inl ()))
 ) = some o) (ih : ∀ a0 y8 o, gQ a0 y8 = some o → motive a0 y8 o), motive a0 y8 o) : ∀ a0 y8 o, eT a0 y8 o → motive a0 y8 o :=
 fun a0 y8 o h => eT.rec (motive := fun a0 y8 o _ => motive a0 y8 o) step h
theorem AK : (∀ a0 r, kq a0 = some r → EB a0 r) ∧ (∀ a0 y8 o, hZ a0 y8 = some o → eT a0 y8 o) := by
 refine kq.mutual_partial_correctness EB eT ?_ ?_
 intro _ T5 a0 r h
 refine cP Tryz.func114 ?_
 refine .d ?_
 obtain ⟨o1, Aw, ow⟩ := bd h
 replace h := Aw
 refine .cut (fun σ η => .inl () = o1 ∧ σ = [(1, .aN 0 0 0 0)] ∧ η = [.row 0 5 1 97 (fun _ => a0.lit)]) ?_ ?_
 refine .d ⟨rfl, ⟨rfl, _, rfl, (sE h (fun oL h => ?_) (fun oL h => ?_))⟩⟩
 obtain ⟨o5, xD, vU⟩ := bd h
 replace h := xD
 refine .cut (fun σ η => .inl () = o5 ∧ σ = [] ∧ η = []) ?_ ?_
 refine .d ⟨rfl, ⟨rfl, _, rfl, ?_⟩⟩
 have T6 := T5 _ _ _ h
 refine le (vu (motive := fun X3 y8 Ma => a0 = X3 → o5 = Ma → az _ _ [(9, sl 8 ae.cells a0.ai), (10, .int .i64 (a0.ai.length : Int)), (11, .int .i64 y8)] []) ?_ a0 0 o5 T6 rfl rfl) (tk [] ⟨.l, .i, .i, ⟨⟩⟩ ⟨⟩)
 intro _ abR _ _ X3 y8 Ma h Mr  IK Nx
 subst IK
 subst Nx
 refine az.round (.d (.d (sD h (fun ly h => ?_) (fun ly h => ?_))))
 refine .d (.d (bk h fun sx qK h => ⟨aI qK, _, (aF qK).trans (ae.au sx), ⟨rfl, _, fun _ => [.bool sx.aX.cr, .int .i64 sx.aX.bb, .str sx.aX.bm, .int .i64 sx.aL.aJ, .int .i64 sx.aL.bb, .str sx.aL.bm, .int .i64 sx.aL.bs, sl 8 ae.cells sx.aL.ai], rfl, aM rfl, (.d ⟨rfl, ⟨rfl, _, rfl, (bk h fun pt vo h => (bO (abR _ _ vo) (j3 h (fun kR h => ?_) (fun kR h => ?_))))⟩⟩)⟩⟩))
 refine .d ?_
 obtain rfl := si h
 replace h := vU
 exact afk
 exact lg (Mr _ _ _ h rfl rfl) (tk [] ⟨.l, .i, .i, ⟨⟩⟩ ⟨⟩)
 exact afN
 rintro _ _ ⟨rfl, rfl, rfl⟩
 replace h := vU
 refine .d ?_
 exact afk
 exact afM
 rintro _ _ ⟨rfl, rfl, rfl⟩
 replace h := ow
 exact .d ⟨rfl, ⟨rfl, _, rfl, (bk h fun nZ xB h => (bO (uM xB) (eB h)))⟩⟩
 intro F0 F1 B8 B9 a0 y8 o h
 exact .mk F0 B8 F1 B9 a0 y8 o h
theorem EC {a0 : af} {r : Bool} (h : kq a0 = some r) : ACall Tryz.prog 114 [.agg a0.lit] [] (fun res h => res = .bool r ∧ h = []) := AK.1 a0 r h
def e8 (a0 : Int) : Option (ba) :=
 m73 a0 >>= fun v1 =>
 some v1
theorem kr {a0 : Int} {r : ba} (h : e8 a0 = some r) : ACall Tryz.prog 159 [.int .i64 a0] [] (fun res h => res = .str r ∧ h = []) := by
 refine cP Tryz.func159 ?_
 unfold e8 at h
 exact .d (.d (bk h fun v1 jT h => (bO (abS jT) (eS h))))
mutual
def dq (a0 : List UInt8) (a1 : af) : Option ((List UInt8)) :=
 (if a1.aJ = 0 then
 kV 1 a0 ([78, 59] : ba) >>= fun l2 =>
 some l2
 else
 (if a1.aJ = 1 then
 e8 a1.bb >>= fun v5 =>
 gZ [98, 58] v5 >>= fun s7 =>
 gZ s7 [59] >>= fun s9 =>
 kV 1 a0 s9 >>= fun xr =>
 some xr
 else
 (if a1.aJ = 2 then
 e8 a1.bb >>= fun Qv =>
 gZ [105, 58] Qv >>= fun s16 =>
 gZ s16 [59] >>= fun s18 =>
 kV 1 a0 s18 >>= fun WL =>
 some WL
 else
 (if a1.aJ = 3 then
 e8 (a1.bm.length : Int) >>= fun nZ =>
 gZ [115, 58] nZ >>= fun UB =>
 gZ UB [58] >>= fun s27 =>
 gZ s27 a1.bm >>= fun UC =>
 gZ UC [59] >>= fun UD =>
 kV 1 a0 UD >>= fun Mb =>
 some Mb
 else
 e8 (a1.ai.length : Int) >>= fun qi =>
 gZ [97, 58] qi >>= fun So =>
 gZ So [58] >>= fun Qy =>
 e8 a1.bs >>= fun zJ =>
 gZ Qy zJ >>= fun sP =>
 gZ sP [123] >>= fun s45 =>
 kV 1 a0 s45 >>= fun YC =>
 (
 dA a1 YC 0
 : Option ((List UInt8))) >>= fun FD =>
 kV 1 FD ([(125 : UInt8)] : List UInt8) >>= fun l76 =>
 some l76))))
partial_fixpoint
def dA (a1 : af) (tD : List UInt8) (sW : Int) : Option ((List UInt8)) :=
 (if sW < (a1.ai.length : Int) then
 idx a1.ai sW >>= fun C4 =>
 jv C4.aX >>= fun B4 =>
 dq tD B4 >>= fun B2 =>
 dq B2 C4.aL >>= fun Qz =>
 dA a1 Qz (ah (sW + 1))
 else
 some tD)
partial_fixpoint
end
def ED (a0 : List UInt8) (a1 : af) (r : (List UInt8)) : Prop := ∀ g1000 : Nat, ACall Tryz.prog 115 [.own 0 g1000 0 a0.length, .agg a1.lit] [.row g1000 1 a0.length 5 (row cB a0)] (fun res h => ∃ G0 : Nat, res = .own 0 G0 0 r.length ∧ h = [.row G0 1 r.length 5 (row cB r)])
inductive cW : af → (List UInt8) → Int → ((List UInt8)) → Prop
 | mk (I8 : (List UInt8) → af → Option ((List UInt8))) (YD : ∀ a0 a1 r, I8 a0 a1 = some r → ED a0 a1 r) (dH : af → (List UInt8) → Int → Option ((List UInt8))) (rR : ∀ a1 tD sW o, dH a1 tD sW = some o → cW a1 tD sW o) (a1 : af) (tD : List UInt8) (sW : Int) (o : (List UInt8)) (h : (
 (if sW < (a1.ai.length : Int) then
 idx a1.ai sW >>= fun C4 =>
 jv C4.aX >>= fun B4 =>
 I8 tD B4 >>= fun B2 =>
 I8 B2 C4.aL >>= fun Qz =>
 dH a1 Qz (ah (sW + 1))
 else
 some tD)
 ) = some o) : cW a1 tD sW o
theorem qZ {motive : af → (List UInt8) → Int → ((List UInt8)) → Prop} (step : ∀ (I8 : (List UInt8) → af → Option ((List UInt8))) (YD : ∀ a0 a1 r, I8 a0 a1 = some r → ED a0 a1 r) (dH : af → (List UInt8) → Int → Option ((List UInt8))) (rR : ∀ a1 tD sW o, dH a1 tD sW = some o → cW a1 tD sW o) (a1 : af) (tD : List UInt8) (sW : Int) (o : (List UInt8)) (h : (
 (if sW < (a1.ai.length : Int) then
 idx a1.ai sW >>= fun C4 =>
 jv C4.aX >>= fun B4 =>
 I8 tD B4 >>= fun B2 =>
 I8 B2 C4.aL >>= fun Qz =>
 dH a1 Qz (ah (sW + 1))
 else
 some tD)
 ) = some o) (ih : ∀ a1 tD sW o, dH a1 tD sW = some o → motive a1 tD sW o), motive a1 tD sW o) : ∀ a1 tD sW o, cW a1 tD sW o → motive a1 tD sW o :=
 fun a1 tD sW o h => cW.rec (motive := fun a1 tD sW o _ => motive a1 tD sW o) step h
theorem uN : (∀ a0 a1 r, dq a0 a1 = some r → ED a0 a1 r) ∧ (∀ a1 tD sW o, dA a1 tD sW = some o → cW a1 tD sW o) := by
 refine dq.mutual_partial_correctness ED cW ?_ ?_
 intro _ abT a0 a1 r h g1000
 refine cP Tryz.func115 ?_
 refine .d (.d (.d ⟨rfl, ⟨rfl, _, rfl, (.d (sE h (fun de h => ?_) (fun de h => ?_)))⟩⟩))
 refine .d (bk h fun l2 Ki h => ⟨rfl, gd Ki, l2.length, row cB l2, dP Ki, eo Ki bg rS, ?_⟩)
 exact afC
 refine .d (sE h (fun oL h => ?_) (fun oL h => ?_))
 refine .d ⟨rfl, ⟨rfl, _, rfl, (bk h fun v5 DJ h => (bO (kr DJ) (bk h fun s7 YE h => ⟨bZ YE, s7, b8 YE, (bk h fun s9 jA h => ⟨bZ jA, s9, b8 jA, (bk h fun xr dT h => ⟨rfl, gd dT, xr.length, row cB xr, dP dT, eo dT bg rS, ?_⟩)⟩)⟩)))⟩⟩
 exact afC
 refine .d (sE h (fun jS h => ?_) (fun jS h => ?_))
 refine .d ⟨rfl, ⟨rfl, _, rfl, (bk h fun Qv T9 h => (bO (kr T9) (bk h fun s16 qF h => ⟨bZ qF, s16, b8 qF, (bk h fun s18 da h => ⟨bZ da, s18, b8 da, (bk h fun WL xT h => ⟨rfl, gd xT, WL.length, row cB WL, dP xT, eo xT bg rS, ?_⟩)⟩)⟩)))⟩⟩
 exact afC
 refine .d (sE h (fun kS h => ?_) (fun kS h => ?_))
 refine .d (.float [(0, true), (1, true), (2, true), (3, true), (7, true), (8, true), (4, false), (5, true), (6, true), (9, true), (10, true), (11, false), (12, true)] agr ?_)
 refine ⟨rfl, ⟨rfl, _, rfl, ⟨rfl, ⟨rfl, _, rfl, (bk h fun nZ xB h => (bO (kr xB) ⟨rfl, ⟨rfl, (bk h fun UB GH h => ⟨bZ GH, UB, b8 GH, (bk h fun s27 YF h => ⟨bZ YF, s27, b8 YF, (bk h fun UC EE h => ⟨bZ EE, UC, b8 EE, (bk h fun UD NG h => ?_)⟩)⟩)⟩)⟩⟩))⟩⟩⟩⟩
 refine ⟨bZ NG, UD, b8 NG, (bk h fun Mb Lo h => ⟨rfl, gd Lo, Mb.length, row cB Mb, dP Lo, eo Lo bg rS, ?_⟩)⟩
 exact afC
 refine .d (.float [(0, true), (1, true), (2, true), (3, true), (7, true), (8, true), (4, false), (5, true), (6, true), (9, false), (10, true), (11, true), (12, false), (13, true)] agr ?_)
 refine ⟨rfl, ⟨rfl, _, rfl, ⟨rfl, ⟨rfl, _, rfl, (bk h fun qi MC h => (bO (kr MC) ⟨rfl, ⟨rfl, (bk h fun So GI h => ⟨bZ GI, So, b8 GI, (bk h fun Qy xV h => ⟨bZ xV, Qy, b8 xV, (bk h fun zJ Il h => (bO (kr Il) (bk h fun sP GB h => ?_)))⟩)⟩)⟩⟩))⟩⟩⟩⟩
 refine ⟨bZ GB, sP, b8 GB, (bk h fun s45 NH h => ⟨bZ NH, s45, b8 NH, (bk h fun YC UE h => ⟨rfl, gd UE, YC.length, row cB YC, dP UE, eo UE bg rS, ?_⟩)⟩)⟩
 obtain ⟨o51, abU, abV⟩ := bd h
 replace h := abU
 refine .cut (fun σ η => ∃ FD, ∃ g49 : Nat, FD = o51 ∧ σ = [(0, .own 0 g49 0 FD.length)] ∧ η = [.row g49 1 FD.length 5 (row cB FD)]) ?_ ?_
 refine .d ⟨rfl, ⟨rfl, _, rfl, ?_⟩⟩
 have abW := abT _ _ _ _ h
 refine le (qZ (motive := fun p73 tD sW o71 => ∀ g54 : Nat, a1 = p73 → o51 = o71 → az _ _ [(0, .own 0 g54 0 tD.length), (59, sl 8 ae.cells a1.ai), (60, .int .i64 (a1.ai.length : Int)), (61, .int .i64 sW)] [.row g54 1 tD.length 5 (row cB tD)]) ?_ a1 YC 0 o51 abW (g1000 + 1) rfl rfl) (tk [0] ⟨.o, .l, .i, .i, ⟨⟩⟩ ⟨od, ⟨⟩⟩)
 intro _ YG _ _ p73 tD sW o71 h abX g54 UF abY
 subst UF
 subst abY
 refine az.round (.d (.d (sD h (fun Nn h => ?_) (fun Nn h => ?_))))
 refine .d (.d (bk h fun C4 NI h => ⟨aI NI, _, (aF NI).trans (ae.au C4), ⟨rfl, _, fun _ => [.bool C4.aX.cr, .int .i64 C4.aX.bb, .str C4.aX.bm, .int .i64 C4.aL.aJ, .int .i64 C4.aL.bb, .str C4.aL.bm, .int .i64 C4.aL.bs, sl 8 ae.cells C4.aL.ai], rfl, aM rfl, (.d ⟨rfl, ⟨rfl, _, rfl, (bk h fun B4 NJ h => (bO (Cl NJ) (bk h fun B2 Ln h => (ks (YG _ _ _ Ln _) [0] ⟨ov, ⟨⟩⟩ (fun g67 => .own 0 g67 0 B2.length) (fun g67 => [.row g67 1 B2.length 5 (row cB B2), .row 0 8 1 197 (fun _ => C4.lit)]) fun g67 => ⟨rfl, ⟨rfl, _, rfl, (bk h fun Qz abZ h => ?_)⟩⟩))))⟩⟩)⟩⟩))
 exact ks (YG _ _ _ abZ _) [0] ⟨ov, ⟨⟩⟩ (fun NK => .own 0 NK 0 Qz.length) (fun NK => [.row NK 1 Qz.length 5 (row cB Qz), .row 0 8 1 197 (fun _ => C4.lit)]) fun NK => (lg (abX _ _ _ _ h NK rfl rfl) (tk [0] ⟨.o, .l, .i, .i, ⟨⟩⟩ ⟨od, ⟨⟩⟩))
 exact ct ⟨_, g54, si h, rfl, rfl⟩ (tk [0] ⟨.o, ⟨⟩⟩ ⟨od, ⟨⟩⟩)
 rintro _ _ ⟨FD, g49, rfl, rfl, rfl⟩
 replace h := abV
 refine .d ⟨row cB ([(125 : UInt8)] : List UInt8), dN cB ([(125 : UInt8)] : List UInt8) rfl (eg rfl), (bk h fun l76 UG h => ⟨rfl, rfl, rT (l := ([(125 : UInt8)] : List UInt8)) bg, gd UG, l76.length, row cB l76, dP UG, eo UG bg (oF bg), ?_⟩)⟩
 obtain rfl := si h
 exact en [0] ⟨(g49 + 1), rfl, rfl⟩ .o ⟨od, ⟨⟩⟩
 intro F0 F1 B8 B9 a1 tD sW o h
 exact .mk F0 B8 F1 B9 a1 tD sW o h
theorem wC {a0 : List UInt8} {a1 : af} {r : (List UInt8)} {g1000 : Nat} (h : dq a0 a1 = some r) : ACall Tryz.prog 115 [.own 0 g1000 0 a0.length, .agg a1.lit] [.row g1000 1 a0.length 5 (row cB a0)] (fun res h => ∃ G0 : Nat, res = .own 0 G0 0 r.length ∧ h = [.row G0 1 r.length 5 (row cB r)]) := uN.1 a0 a1 r h g1000
def jO (a0 : af) : Option (ba × Bool) :=
 iP a0 >>= fun v1 =>
 (if v1 = true then
 kq a0 >>= fun v4 =>
 (if v4 = true then
 dq ([] : List UInt8) a0 >>= fun v7 =>
 some (v7, true)
 else
 some ([], false))
 else
 some ([], false))
theorem AL {a0 : af} {r : ba × Bool} (h : jO a0 = some r) : ACall Tryz.prog 62 [.agg a0.lit] [] (fun res h => res = .dG [.str r.1, .bool r.2] ∧ h = []) := by
 refine cP Tryz.func62 ?_
 unfold jO at h
 refine .d (.d (.d ⟨rfl, _, rfl, (bk h fun v1 jT h => (bO (wA jT) (j3 h (fun lJ h => ?_) (fun lJ h => ?_))))⟩))
 refine .t (.t (.t (.t (.d ?_))))
 exact afH
 refine ⟨rfl, _, rfl, (.f (bk h fun v4 xy h => (bO (EC xy) (.f (.f (j3 h (fun oM h => ?_) (fun oM h => ?_)))))))⟩
 refine .d ?_
 exact afH
 refine .d ⟨rfl, _, rfl, (bk h fun v7 Ib h => ⟨fun res h' => ∃ g9 : Nat, res = .own 1 g9 0 v7.length ∧ h' = [.row 0 5 1 97 (fun _ => a0.lit), .row g9 1 v7.length 5 (row cB v7)], ((ACall.ab0 (wC (g1000 := 0) Ib) rfl).frame [.row 0 5 1 97 (fun _ => a0.lit)] rfl).mono (by rintro _ _ ⟨_, _, ⟨g9, rfl, rfl⟩, rfl, rfl⟩; exact ⟨g9, rfl, by simp only [aeg, aem, AM Kj]; rfl⟩), ?_⟩)⟩
 rintro _ _ ⟨g9, rfl, rfl⟩
 refine ⟨rfl, v7, rfl, qk bg rfl, ?_⟩
 exact afH
set_option maxRecDepth 100000
def iR (a0 : List UInt8) (a1 : Bool) : Option ((List UInt8)) :=
 (if a1 = true then
 kV 1 a0 ([(1 : UInt8)] : List UInt8) >>= fun l2 =>
 some l2
 else
 kV 1 a0 ([(0 : UInt8)] : List UInt8) >>= fun l4 =>
 some l4)
theorem my {a0 : List UInt8} {a1 : Bool} {r : (List UInt8)} {g1000 : Nat} (h : iR a0 a1 = some r) : ACall Tryz.prog 100 [.own 0 g1000 0 a0.length, .bool a1] [.row g1000 1 a0.length 5 (row cB a0)] (fun res h => ∃ G0 : Nat, res = .own 0 G0 0 r.length ∧ h = [.row G0 1 r.length 5 (row cB r)]) := by
 refine cP Tryz.func100 ?_
 unfold iR at h
 refine .d (.d (.d (sV h (fun de h => ?_) (fun de h => ?_))))
 refine .d ⟨row cB ([(1 : UInt8)] : List UInt8), dN cB ([(1 : UInt8)] : List UInt8) rfl (eg rfl), (bk h fun l2 Ki h => ⟨rfl, rfl, rT (l := ([(1 : UInt8)] : List UInt8)) bg, gd Ki, l2.length, row cB l2, dP Ki, eo Ki bg (oF bg), ?_⟩)⟩
 exact afC
 refine .d ⟨row cB ([(0 : UInt8)] : List UInt8), dN cB ([(0 : UInt8)] : List UInt8) rfl (eg rfl), (bk h fun l4 UH h => ⟨rfl, rfl, rT (l := ([(0 : UInt8)] : List UInt8)) bg, gd UH, l4.length, row cB l4, dP UH, eo UH bg (oF bg), ?_⟩)⟩
 exact afC
def jP (l8 : List UInt8) (y9 : Int) : Option ((List UInt8) × Int) :=
 (if y9 > 127 then
 kV 1 l8 ([UInt8.ofNat (IntKind.u8.wrap (bits .or .i64 (bits .and .i64 y9 127) 128)).toNat] : List UInt8) >>= fun Mc =>
 jP Mc (y9.fdiv (2 ^ min (7 : Int).toNat IntKind.i64.bits))
 else
 some (l8, y9))
partial_fixpoint
def dB (a0 : List UInt8) (a1 : Int) : Option ((List UInt8)) :=
 (
 jP a0 a1
 : Option ((List UInt8) × Int)) >>= fun (l2, y3) =>
 kV 1 l2 ([UInt8.ofNat (IntKind.u8.wrap (y3)).toNat] : List UInt8) >>= fun l17 =>
 some l17
theorem ft {a0 : List UInt8} {a1 : Int} {r : (List UInt8)} {g1000 : Nat} (h : dB a0 a1 = some r) : ACall Tryz.prog 49 [.own 0 g1000 0 a0.length, .int .i64 a1] [.row g1000 1 a0.length 5 (row cB a0)] (fun res h => ∃ G0 : Nat, res = .own 0 G0 0 r.length ∧ h = [.row G0 1 r.length 5 (row cB r)]) := by
 refine cP Tryz.func49 ?_
 unfold dB at h
 refine .d ?_
 obtain ⟨o4, KR, Ia⟩ := bd h
 replace h := KR
 refine .cut (fun σ η => ∃ l2, ∃ y3, ∃ g1 : Nat, (l2, y3) = o4 ∧ σ = [(0, .own 0 g1 0 l2.length), (1, .int .i64 y3)] ∧ η = [.row g1 1 l2.length 5 (row cB l2)]) ?_ ?_
 refine le (jP.partial_correctness  (motive := fun l8 y9 WQ => ∀ g7 : Nat, o4 = WQ → az _ _ [(0, .own 0 g7 0 l8.length), (1, .int .i64 y9)] [.row g7 1 l8.length 5 (row cB l8)]) ?_ a0 a1 o4 h g1000 rfl) (tk [0] ⟨.o, .i, ⟨⟩⟩ ⟨od, ⟨⟩⟩)
 intro F11 IL l8 y9 WQ h g7 ab1
 subst ab1
 refine az.round (.d (.d (sD h (fun ly h => ?_) (fun ly h => ?_))))
 exact .d ⟨row cB ([UInt8.ofNat (IntKind.u8.wrap (bits .or .i64 (bits .and .i64 y9 127) 128)).toNat] : List UInt8), dN cB ([UInt8.ofNat (IntKind.u8.wrap (bits .or .i64 (bits .and .i64 y9 127) 128)).toNat] : List UInt8) rfl (oY (qj _) ⟨.same _, trivial⟩ trivial), (bk h fun Mc qK h => ⟨rfl, rfl, rT (l := ([UInt8.ofNat (IntKind.u8.wrap (bits .or .i64 (bits .and .i64 y9 127) 128)).toNat] : List UInt8)) bg, gd qK, Mc.length, row cB Mc, dP qK, eo qK bg (oF bg), ⟨by decide, (lg (IL _ _ _ h (g7 + 1) rfl) (tk [0] ⟨.o, .i, ⟨⟩⟩ ⟨od, ⟨⟩⟩))⟩⟩)⟩
 exact ct ⟨_, _, g7, si h, rfl, rfl⟩ (tk [0] ⟨.o, .i, ⟨⟩⟩ ⟨od, ⟨⟩⟩)
 rintro _ _ ⟨l2, y3, g1, rfl, rfl, rfl⟩
 replace h := Ia
 refine .d ⟨row cB ([UInt8.ofNat (IntKind.u8.wrap (y3)).toNat] : List UInt8), dN cB ([UInt8.ofNat (IntKind.u8.wrap (y3)).toNat] : List UInt8) rfl (oY (qj _) ⟨.same _, trivial⟩ trivial), (bk h fun l17 k9 h => ⟨rfl, rfl, rT (l := ([UInt8.ofNat (IntKind.u8.wrap (y3)).toNat] : List UInt8)) bg, gd k9, l17.length, row cB l17, dP k9, eo k9 bg (oF bg), ?_⟩)⟩
 obtain rfl := si h
 exact en [0] ⟨(g1 + 1), rfl, rfl⟩ .o ⟨od, ⟨⟩⟩
def cH (a0 : List UInt8) (a1 : ba) : Option ((List UInt8)) :=
 dB a0 (a1.length : Int) >>= fun v1 =>
 kV 1 v1 a1 >>= fun l4 =>
 some l4
theorem dr {a0 : List UInt8} {a1 : ba} {r : (List UInt8)} {g1000 : Nat} (h : cH a0 a1 = some r) : ACall Tryz.prog 99 [.own 0 g1000 0 a0.length, .str a1] [.row g1000 1 a0.length 5 (row cB a0)] (fun res h => ∃ G0 : Nat, res = .own 0 G0 0 r.length ∧ h = [.row G0 1 r.length 5 (row cB r)]) := by
 refine cP Tryz.func99 ?_
 unfold cH at h
 refine .d (.d (bk h fun v1 jT h => (ks (ft (g1000 := g1000) jT) [0] ⟨ov, ⟨⟩⟩ (fun g3 => .own 0 g3 0 v1.length) (fun g3 => [.row g3 1 v1.length 5 (row cB v1)]) fun g3 => (bk h fun l4 UH h => ⟨rfl, gd UH, l4.length, row cB l4, dP UH, eo UH bg rS, ?_⟩))))
 obtain rfl := si h
 exact en [0] ⟨(g3 + 1), rfl, rfl⟩ .o ⟨od, ⟨⟩⟩
def eU (a1 : List TParam) (l10 : List UInt8) (aU : Int) : Option ((List UInt8)) :=
 (if aU < (a1.length : Int) then
 idx a1 aU >>= fun xH =>
 idx a1 aU >>= fun kH =>
 cH l10 xH.ao >>= fun aZ =>
 iR aZ kH.vh >>= fun vV =>
 eU a1 vV (ah (aU + 1))
 else
 some l10)
partial_fixpoint
def gw (a0 : List UInt8) (a1 : List TParam) : Option ((List UInt8)) :=
 dB a0 (a1.length : Int) >>= fun v1 =>
 (
 eU a1 v1 0
 : Option ((List UInt8))) >>= fun l5 =>
 some l5
theorem tE {a0 : List UInt8} {a1 : List TParam} {r : (List UInt8)} {g1000 : Nat} (h : gw a0 a1 = some r) : ACall Tryz.prog 98 [.own 0 g1000 0 a0.length, sl 2 TParam.cells a1] [.row g1000 1 a0.length 5 (row cB a0)] (fun res h => ∃ G0 : Nat, res = .own 0 G0 0 r.length ∧ h = [.row G0 1 r.length 5 (row cB r)]) := by
 refine cP Tryz.func98 ?_
 unfold gw at h
 refine .d (.d (bk h fun v1 jT h => (ks (ft (g1000 := g1000) jT) [0] ⟨ov, ⟨⟩⟩ (fun g3 => .own 0 g3 0 v1.length) (fun g3 => [.row g3 1 v1.length 5 (row cB v1)]) fun g3 => ?_)))
 obtain ⟨o6, ho7, hk8⟩ := bd h
 replace h := ho7
 refine .cut (fun σ η => ∃ l5, ∃ g4 : Nat, l5 = o6 ∧ σ = [(0, .own 0 g4 0 l5.length)] ∧ η = [.row g4 1 l5.length 5 (row cB l5)]) ?_ ?_
 refine .d ?_
 refine le (eU.partial_correctness a1 (motive := fun l10 aU Ii => ∀ g9 : Nat, o6 = Ii → az _ _ [(0, .own 0 g9 0 l10.length), (1, sl 2 TParam.cells a1), (5, .int .i64 aU)] [.row g9 1 l10.length 5 (row cB l10)]) ?_ v1 0 o6 h g3 rfl) (tk [0] ⟨.o, .l, .i, ⟨⟩⟩ ⟨od, ⟨⟩⟩)
 intro F13 H9 l10 aU Ii h g9 Tu
 subst Tu
 refine az.round (.d (.d (sD h (fun kU h => ?_) (fun kU h => ?_))))
 refine .d (.float [(0, true), (1, true), (2, true), (3, true), (4, true), (5, true), (7, true), (8, true), (9, true), (10, true), (11, true), (6, false), (12, false), (13, true)] agr ?_)
 exact bk h fun xH rK h => ⟨aI rK, _, (aF rK).trans (TParam.au xH), (bk h fun kH k9 h => ⟨aI k9, _, (aF k9).trans (TParam.au kH), (bk h fun aZ Af h => (ks (dr (g1000 := g9) Af) [0] ⟨ov, ⟨⟩⟩ (fun g21 => .own 0 g21 0 aZ.length) (fun g21 => [.row g21 1 aZ.length 5 (row cB aZ)]) fun g21 => (bk h fun vV MD h => (ks (my (g1000 := g21) MD) [0] ⟨ov, ⟨⟩⟩ (fun g24 => .own 0 g24 0 vV.length) (fun g24 => [.row g24 1 vV.length 5 (row cB vV)]) fun g24 => (lg (H9 _ _ _ h g24 rfl) (tk [0] ⟨.o, .l, .i, ⟨⟩⟩ ⟨od, ⟨⟩⟩))))))⟩)⟩
 exact ct ⟨_, g9, si h, rfl, rfl⟩ (tk [0] ⟨.o, ⟨⟩⟩ ⟨od, ⟨⟩⟩)
 rintro _ _ ⟨l5, g4, rfl, rfl, rfl⟩
 replace h := hk8
 refine .d ?_
 obtain rfl := si h
 exact en [0] ⟨g4, rfl, rfl⟩ .o ⟨od, ⟨⟩⟩
def ia (a1 : aC) (FE : List UInt8) (WR : Int) : Option ((List UInt8)) :=
 (if WR < (a1.ar.length : Int) then
 idx a1.ar WR >>= fun HT =>
 cH FE HT >>= fun dj =>
 ia a1 dj (ah (WR + 1))
 else
 some FE)
partial_fixpoint
def ib (a1 : aC) (AO : List UInt8) (nM : Int) : Option ((List UInt8)) :=
 (if nM < (a1.aq.length : Int) then
 idx a1.aq nM >>= fun yJ =>
 dB AO yJ.aW >>= fun NL =>
 dB NL yJ.fA >>= fun v53 =>
 dB v53 yJ.fB >>= fun HX =>
 cH HX yJ.fS >>= fun v59 =>
 cH v59 yJ.fT >>= fun TM =>
 ib a1 TM (ah (nM + 1))
 else
 some AO)
partial_fixpoint
def nN (a0 : List UInt8) (a1 : aC) : Option ((List UInt8)) :=
 cH a0 a1.ao >>= fun v1 =>
 gw v1 a1.ak >>= fun v4 =>
 gw v4 a1.aE >>= fun v7 =>
 dB v7 (a1.ar.length : Int) >>= fun v10 =>
 (
 ia a1 v10 0
 : Option ((List UInt8))) >>= fun pV =>
 iR pV a1.dk >>= fun v31 =>
 dB v31 (a1.aq.length : Int) >>= fun vW =>
 (
 ib a1 vW 0
 : Option ((List UInt8))) >>= fun UI =>
 some UI
theorem EF {a0 : List UInt8} {a1 : aC} {r : (List UInt8)} {g1000 : Nat} (h : nN a0 a1 = some r) : ACall Tryz.prog 50 [.own 0 g1000 0 a0.length, .agg a1.lit] [.row g1000 1 a0.length 5 (row cB a0)] (fun res h => ∃ G0 : Nat, res = .own 0 G0 0 r.length ∧ h = [.row G0 1 r.length 5 (row cB r)]) := by
 refine cP Tryz.func50 ?_
 unfold nN at h
 refine .d (.d (.float [(0, true), (1, true), (2, true), (4, true), (5, true), (7, true), (8, true), (3, false), (6, false), (9, false), (10, true)] agr ?_))
 refine ⟨rfl, ⟨rfl, _, rfl, ⟨rfl, ⟨rfl, _, rfl, ⟨rfl, ⟨rfl, _, rfl, (bk h fun v1 jT h => (ks (dr (g1000 := g1000) jT) [0] ⟨ov, ⟨⟩⟩ (fun g3 => .own 0 g3 0 v1.length) (fun g3 => [.row g3 1 v1.length 5 (row cB v1), .row 0 6 1 57 (fun _ => a1.lit)]) fun g3 => ⟨rfl, ⟨rfl, ⟨rfl, ⟨rfl, (bk h fun v4 xy h => (ks (tE (g1000 := g3) xy) [0] ⟨ov, ⟨⟩⟩ (fun g6 => .own 0 g6 0 v4.length) (fun g6 => [.row g6 1 v4.length 5 (row cB v4), .row 0 6 1 57 (fun _ => a1.lit)]) fun g6 => ⟨rfl, ?_⟩))⟩⟩⟩⟩))⟩⟩⟩⟩⟩⟩
 refine ⟨rfl, (bk h fun v7 Ib h => (ks (tE (g1000 := g6) Ib) [0] ⟨ov, ⟨⟩⟩ (fun g9 => .own 0 g9 0 v7.length) (fun g9 => [.row g9 1 v7.length 5 (row cB v7), .row 0 6 1 57 (fun _ => a1.lit)]) fun g9 => (.d ⟨rfl, ⟨rfl, _, rfl, (bk h fun v10 NM h => (ks (ft (g1000 := g9) NM) [0] ⟨ov, ⟨⟩⟩ (fun g12 => .own 0 g12 0 v10.length) (fun g12 => [.row g12 1 v10.length 5 (row cB v10), .row 0 6 1 57 (fun _ => a1.lit)]) fun g12 => ?_))⟩⟩)))⟩
 obtain ⟨WQ, ab2, ab3⟩ := bd h
 replace h := ab2
 refine .cut (fun σ η => ∃ pV, ∃ g13 : Nat, pV = WQ ∧ σ = [(0, .own 0 g13 0 pV.length), (3, .aN 1 0 0 0)] ∧ η = [.row g13 1 pV.length 5 (row cB pV), .row 0 6 1 57 (fun _ => a1.lit)]) ?_ ?_
 refine .d ?_
 refine le (ia.partial_correctness a1 (motive := fun FE WR YH => ∀ g18 : Nat, WQ = YH → az _ _ [(0, .own 0 g18 0 FE.length), (3, .aN 1 0 0 0), (5, .int .i64 WR)] [.row g18 1 FE.length 5 (row cB FE), .row 0 6 1 57 (fun _ => a1.lit)]) ?_ v10 0 WQ h g12 rfl) (tk [0, 1] ⟨.o, .p, .i, ⟨⟩⟩ ⟨od, (bf rfl), ⟨⟩⟩)
 intro KV ab4 FE WR YH h g18 UJ
 subst UJ
 refine az.round (.d (.d ⟨rfl, ⟨rfl, _, rfl, (sD h (fun pW h => ?_) (fun pW h => ?_))⟩⟩))
 exact .d ⟨rfl, ⟨rfl, _, rfl, (bk h fun HT FQ h => ⟨aI FQ, _, (aF FQ).trans rfl, (bk h fun dj DV h => (ks (dr (g1000 := g18) DV) [0] ⟨ov, ⟨⟩⟩ (fun NN => .own 0 NN 0 dj.length) (fun NN => [.row NN 1 dj.length 5 (row cB dj), .row 0 6 1 57 (fun _ => a1.lit)]) fun NN => (lg (ab4 _ _ _ h NN rfl) (tk [0, 1] ⟨.o, .p, .i, ⟨⟩⟩ ⟨od, (bf rfl), ⟨⟩⟩))))⟩)⟩⟩
 exact ct ⟨_, g18, si h, rfl, rfl⟩ (tk [0, 1] ⟨.o, .p, ⟨⟩⟩ ⟨od, (bf rfl), ⟨⟩⟩)
 rintro _ _ ⟨pV, g13, rfl, rfl, rfl⟩
 replace h := ab3
 refine .d (.float [(0, true), (1, true), (2, true), (4, true), (5, true), (6, true), (3, false), (7, false), (8, true)] agr ?_)
 refine ⟨rfl, ⟨rfl, _, rfl, ⟨rfl, ⟨rfl, _, rfl, (bk h fun v31 DN h => (ks (my (g1000 := g13) DN) [0] ⟨ov, ⟨⟩⟩ (fun YI => .own 0 YI 0 v31.length) (fun YI => [.row YI 1 v31.length 5 (row cB v31), .row 0 6 1 57 (fun _ => a1.lit)]) fun YI => ⟨rfl, ⟨rfl, (bk h fun vW Ey h => (ks (ft (g1000 := YI) Ey) [0] ⟨ov, ⟨⟩⟩ (fun HZ => .own 0 HZ 0 vW.length) (fun HZ => [.row HZ 1 vW.length 5 (row cB vW), .row 0 6 1 57 (fun _ => a1.lit)]) fun HZ => ?_))⟩⟩))⟩⟩⟩⟩
 obtain ⟨o39, ab5, ab6⟩ := bd h
 replace h := ab5
 refine .cut (fun σ η => ∃ UI, ∃ g37 : Nat, UI = o39 ∧ σ = [(0, .own 0 g37 0 UI.length)] ∧ η = [.row g37 1 UI.length 5 (row cB UI)]) ?_ ?_
 refine .d ?_
 refine le (ib.partial_correctness a1 (motive := fun AO nM WS => ∀ PN : Nat, o39 = WS → az _ _ [(0, .own 0 PN 0 AO.length), (3, .aN 1 0 0 0), (6, .int .i64 nM)] [.row PN 1 AO.length 5 (row cB AO), .row 0 6 1 57 (fun _ => a1.lit)]) ?_ vW 0 o39 h HZ rfl) (tk [0, 1] ⟨.o, .p, .i, ⟨⟩⟩ ⟨od, (bf rfl), ⟨⟩⟩)
 intro FA NP AO nM WS h PN ab7
 subst ab7
 refine az.round (.d (.d ⟨rfl, ⟨rfl, _, rfl, (sD h (fun AI h => ?_) (fun AI h => ?_))⟩⟩))
 refine .d (.d ⟨rfl, ⟨rfl, _, rfl, (bk h fun yJ NQ h => ⟨aI NQ, _, (aF NQ).trans (aR.au yJ), ⟨rfl, _, fun _ => [.int .i64 yJ.aW, .int .i64 yJ.fA, .int .i64 yJ.fB, .str yJ.fS, .str yJ.fT], rfl, aM rfl, (.float [(0, true), (1, true), (2, true), (4, true), (5, true), (7, true), (8, true), (10, true), (11, true), (13, true), (14, true), (3, false), (6, false), (9, false), (12, false), (15, false), (16, true)] agr ?_)⟩⟩)⟩⟩)
 refine ⟨rfl, ⟨rfl, _, rfl, ⟨rfl, ⟨rfl, _, rfl, ⟨rfl, ⟨rfl, _, rfl, ⟨rfl, ⟨rfl, _, rfl, ⟨rfl, ⟨rfl, _, rfl, (bk h fun NL UK h => (ks (ft (g1000 := PN) UK) [0] ⟨ov, ⟨⟩⟩ (fun YJ => .own 0 YJ 0 NL.length) (fun YJ => [.row YJ 1 NL.length 5 (row cB NL), .row 0 6 1 57 (fun _ => a1.lit), .row 0 5 1 64 (fun _ => yJ.lit)]) fun YJ => ⟨rfl, ⟨rfl, ⟨rfl, ?_⟩⟩⟩))⟩⟩⟩⟩⟩⟩⟩⟩⟩⟩
 refine ⟨rfl, ⟨rfl, ⟨rfl, ⟨rfl, ⟨rfl, (bk h fun v53 IW h => (ks (ft (g1000 := YJ) IW) [0] ⟨ov, ⟨⟩⟩ (fun YK => .own 0 YK 0 v53.length) (fun YK => [.row YK 1 v53.length 5 (row cB v53), .row 0 6 1 57 (fun _ => a1.lit), .row 0 5 1 64 (fun _ => yJ.lit)]) fun YK => ⟨rfl, ⟨rfl, ⟨rfl, ⟨rfl, ⟨rfl, ⟨rfl, (bk h fun HX NC h => (ks (ft (g1000 := YK) NC) [0] ⟨ov, ⟨⟩⟩ (fun Kk => .own 0 Kk 0 HX.length) (fun Kk => [.row Kk 1 HX.length 5 (row cB HX), .row 0 6 1 57 (fun _ => a1.lit), .row 0 5 1 64 (fun _ => yJ.lit)]) fun Kk => ?_))⟩⟩⟩⟩⟩⟩))⟩⟩⟩⟩⟩
 exact ⟨rfl, ⟨rfl, ⟨rfl, ⟨rfl, (bk h fun v59 I7 h => (ks (dr (g1000 := Kk) I7) [0] ⟨ov, ⟨⟩⟩ (fun YL => .own 0 YL 0 v59.length) (fun YL => [.row YL 1 v59.length 5 (row cB v59), .row 0 6 1 57 (fun _ => a1.lit), .row 0 5 1 64 (fun _ => yJ.lit)]) fun YL => ⟨rfl, ⟨rfl, (bk h fun TM ab8 h => (ks (dr (g1000 := YL) ab8) [0] ⟨ov, ⟨⟩⟩ (fun YM => .own 0 YM 0 TM.length) (fun YM => [.row YM 1 TM.length 5 (row cB TM), .row 0 6 1 57 (fun _ => a1.lit), .row 0 5 1 64 (fun _ => yJ.lit)]) fun YM => (lg (NP _ _ _ h YM rfl) (tk [0, 1] ⟨.o, .p, .i, ⟨⟩⟩ ⟨od, (bf rfl), ⟨⟩⟩))))⟩⟩))⟩⟩⟩⟩
 exact ct ⟨_, PN, si h, rfl, rfl⟩ (tk [0] ⟨.o, ⟨⟩⟩ ⟨od, ⟨⟩⟩)
 rintro _ _ ⟨UI, g37, rfl, rfl, rfl⟩
 replace h := ab6
 refine .d ?_
 obtain rfl := si h
 exact en [0] ⟨g37, rfl, rfl⟩ .o ⟨od, ⟨⟩⟩
mutual
def js (a0 : af) : Option (ba) :=
 (if a0.aJ = 0 then
 some [78, 59]
 else
 (if a0.aJ = 1 then
 PL a0.bb >>= fun v3 =>
 gZ [98, 58] v3 >>= fun s5 =>
 gZ s5 [59] >>= fun s7 =>
 some s7
 else
 (if a0.aJ = 2 then
 PL a0.bb >>= fun v10 =>
 gZ [105, 58] v10 >>= fun Ua =>
 gZ Ua [59] >>= fun Ub =>
 some Ub
 else
 (if a0.aJ = 3 then
 PL (a0.bm.length : Int) >>= fun FW =>
 gZ [115, 58] FW >>= fun Uc =>
 gZ Uc [58] >>= fun s21 =>
 gZ s21 a0.bm >>= fun s23 =>
 gZ s23 [59] >>= fun UB =>
 some UB
 else
 PL (a0.ai.length : Int) >>= fun uL =>
 gZ [97, 58] uL >>= fun UC =>
 gZ UC [58] >>= fun UD =>
 PL a0.bs >>= fun J7 =>
 gZ UD J7 >>= fun s35 =>
 gZ s35 [123] >>= fun So =>
 (
 pB a0 So 0
 : Option (ba)) >>= fun Qy =>
 gZ Qy [125] >>= fun s68 =>
 some s68))))
partial_fixpoint
def pB (a0 : af) (sP : ba) (nM : Int) : Option (ba) :=
 (if nM < (a0.ai.length : Int) then
 idx a0.ai nM >>= fun H0 =>
 idx a0.ai nM >>= fun UL =>
 mo H0.aX >>= fun v53 =>
 js v53 >>= fun zs =>
 gZ sP zs >>= fun L8 =>
 js UL.aL >>= fun v59 =>
 gZ L8 v59 >>= fun UM =>
 pB a0 UM (ah (nM + 1))
 else
 some sP)
partial_fixpoint
end
def EG (a0 : af) (r : ba) : Prop := ACall Tryz.prog 101 [.agg a0.lit] [] (fun res h => res = .str r ∧ h = [])
inductive eV : af → ba → Int → (ba) → Prop
 | mk (I9 : af → Option (ba)) (YN : ∀ a0 r, I9 a0 = some r → EG a0 r) (gT : af → ba → Int → Option (ba)) (wD : ∀ a0 sP nM o, gT a0 sP nM = some o → eV a0 sP nM o) (a0 : af) (sP : ba) (nM : Int) (o : ba) (h : (
 (if nM < (a0.ai.length : Int) then
 idx a0.ai nM >>= fun H0 =>
 idx a0.ai nM >>= fun UL =>
 mo H0.aX >>= fun v53 =>
 I9 v53 >>= fun zs =>
 gZ sP zs >>= fun L8 =>
 I9 UL.aL >>= fun v59 =>
 gZ L8 v59 >>= fun UM =>
 gT a0 UM (ah (nM + 1))
 else
 some sP)
 ) = some o) : eV a0 sP nM o
theorem vw {motive : af → ba → Int → (ba) → Prop} (step : ∀ (I9 : af → Option (ba)) (YN : ∀ a0 r, I9 a0 = some r → EG a0 r) (gT : af → ba → Int → Option (ba)) (wD : ∀ a0 sP nM o, gT a0 sP nM = some o → eV a0 sP nM o) (a0 : af) (sP : ba) (nM : Int) (o : ba) (h : (
 (if nM < (a0.ai.length : Int) then
 idx a0.ai nM >>= fun H0 =>
 idx a0.ai nM >>= fun UL =>
 mo H0.aX >>= fun v53 =>
 I9 v53 >>= fun zs =>
 gZ sP zs >>= fun L8 =>
 I9 UL.aL >>= fun v59 =>
 gZ L8 v59 >>= fun UM =>
 gT a0 UM (ah (nM + 1))
 else
 some sP)
 ) = some o) (ih : ∀ a0 sP nM o, gT a0 sP nM = some o → motive a0 sP nM o), motive a0 sP nM o) : ∀ a0 sP nM o, eV a0 sP nM o → motive a0 sP nM o :=
 fun a0 sP nM o h => eV.rec (motive := fun a0 sP nM o _ => motive a0 sP nM o) step h
theorem AP : (∀ a0 r, js a0 = some r → EG a0 r) ∧ (∀ a0 sP nM o, pB a0 sP nM = some o → eV a0 sP nM o) := by
 refine js.mutual_partial_correctness EG eV ?_ ?_
 intro _ ab9 a0 r h
 refine cP Tryz.func101 ?_
 refine .d (.d (.d ⟨rfl, ⟨rfl, _, rfl, (.d (sE h (fun de h => ?_) (fun de h => ?_)))⟩⟩))
 exact .d (eS h)
 refine .d (sE h (fun jr h => ?_) (fun jr h => ?_))
 exact .d ⟨rfl, ⟨rfl, _, rfl, (bk h fun v3 CR h => (bO (Lh CR) (bk h fun s5 WH h => ⟨bZ WH, s5, b8 WH, (bk h fun s7 YE h => ⟨bZ YE, s7, b8 YE, (eS h)⟩)⟩)))⟩⟩
 refine .d (sE h (fun uV h => ?_) (fun uV h => ?_))
 exact .d ⟨rfl, ⟨rfl, _, rfl, (bk h fun v10 NM h => (bO (Lh NM) (bk h fun Ua oT h => ⟨bZ oT, Ua, b8 oT, (bk h fun Ub lT h => ⟨bZ lT, Ub, b8 lT, (eS h)⟩)⟩)))⟩⟩
 refine .d (sE h (fun lx h => ?_) (fun lx h => ?_))
 refine .d (.float [(0, true), (1, true), (2, true), (6, true), (7, true), (3, false), (4, true), (5, true), (8, true), (9, true), (10, true)] agr ?_)
 refine ⟨rfl, ⟨rfl, _, rfl, ⟨rfl, ⟨rfl, _, rfl, (bk h fun FW MK h => (bO (Lh MK) ⟨rfl, ⟨rfl, (bk h fun Uc uK h => ⟨bZ uK, Uc, b8 uK, (bk h fun s21 rG h => ⟨bZ rG, s21, b8 rG, (bk h fun s23 uI h => ⟨bZ uI, s23, b8 uI, (bk h fun UB GH h => ?_)⟩)⟩)⟩)⟩⟩))⟩⟩⟩⟩
 exact ⟨bZ GH, UB, b8 GH, (eS h)⟩
 refine .d (.float [(0, true), (1, true), (2, true), (6, true), (7, true), (3, false), (4, true), (5, true), (8, false), (9, true), (10, true), (11, true)] agr ?_)
 refine ⟨rfl, ⟨rfl, _, rfl, ⟨rfl, ⟨rfl, _, rfl, (bk h fun uL NR h => (bO (Lh NR) ⟨rfl, ⟨rfl, (bk h fun UC EE h => ⟨bZ EE, UC, b8 EE, (bk h fun UD NG h => ⟨bZ NG, UD, b8 NG, (bk h fun J7 Tz h => (bO (Lh Tz) (bk h fun s35 NS h => ?_)))⟩)⟩)⟩⟩))⟩⟩⟩⟩
 refine ⟨bZ NS, s35, b8 NS, (bk h fun So GI h => ⟨bZ GI, So, b8 GI, ?_⟩)⟩
 obtain ⟨Ik, Uu, AH⟩ := bd h
 replace h := Uu
 refine .cut (fun σ η => ∃ Qy, Qy = Ik ∧ σ = [(3, .str Qy)] ∧ η = []) ?_ ?_
 refine .d ?_
 have aca := ab9 _ _ _ _ h
 refine le (vw (motive := fun p65 sP nM o63 => a0 = p65 → Ik = o63 → az _ _ [(1, .aN 0 0 0 0), (3, .str sP), (4, .int .i64 nM)] [.row 0 5 1 97 (fun _ => a0.lit)]) ?_ a0 So 0 Ik aca rfl rfl) (tk [0] ⟨.p, .s, .i, ⟨⟩⟩ ⟨(bf rfl), ⟨⟩⟩)
 intro _ YO _ _ p65 sP nM o63 h NP  UN acb
 subst UN
 subst acb
 refine az.round (.d (.d ⟨rfl, ⟨rfl, _, rfl, (sD h (fun Ja h => ?_) (fun Ja h => ?_))⟩⟩))
 refine .d (.float [(0, true), (1, true), (2, true), (3, true), (4, true), (5, true), (6, true), (10, true), (11, true), (12, true), (13, true), (14, true), (15, true), (7, false), (8, false), (9, true), (16, false), (17, true), (18, true)] agr ?_)
 refine ⟨rfl, ⟨rfl, _, rfl, (bk h fun H0 NT h => ⟨aI NT, _, (aF NT).trans (ae.au H0), ⟨rfl, ⟨rfl, _, rfl, (bk h fun UL YP h => ⟨aI YP, _, (aF YP).trans (ae.au UL), (bk h fun v53 IW h => (bO (Cm IW) ⟨rfl, ⟨rfl, (bk h fun zs Jb h => (bO (YO _ _ Jb) ⟨rfl, ?_⟩))⟩⟩))⟩)⟩⟩⟩)⟩⟩
 exact ⟨rfl, (bk h fun L8 YQ h => ⟨bZ YQ, L8, b8 YQ, (bk h fun v59 I7 h => (bO (YO _ _ I7) (bk h fun UM NI h => ⟨bZ NI, UM, b8 NI, (lg (NP _ _ _ _ h rfl rfl) (tk [0] ⟨.p, .s, .i, ⟨⟩⟩ ⟨(bf rfl), ⟨⟩⟩))⟩)))⟩)⟩
 exact ct ⟨_, si h, rfl, rfl⟩ (tk [] ⟨.s, ⟨⟩⟩ ⟨⟩)
 rintro _ _ ⟨Qy, rfl, rfl, rfl⟩
 replace h := AH
 exact .d (bk h fun s68 GC h => ⟨bZ GC, s68, b8 GC, (eS h)⟩)
 intro F0 F1 B8 B9 a0 sP nM o h
 exact .mk F0 B8 F1 B9 a0 sP nM o h
theorem EH {a0 : af} {r : ba} (h : js a0 = some r) : ACall Tryz.prog 101 [.agg a0.lit] [] (fun res h => res = .str r ∧ h = []) := AP.1 a0 r h
def fV (a1 : aw) (UO : List UInt8) (la : Int) : Option ((List UInt8)) :=
 (if la < (a1.aA.length : Int) then
 idx a1.aA la >>= fun uT =>
 cH UO uT.ao >>= fun nZ =>
 cH nZ uT.bn >>= fun dj =>
 iR dj uT.bc >>= fun KU =>
 js uT.aH >>= fun Qb =>
 cH KU Qb >>= fun vW =>
 fV a1 vW (ah (la + 1))
 else
 some UO)
partial_fixpoint
def fW (a1 : aw) (UP : List UInt8) (WT : Int) : Option ((List UInt8)) :=
 (if WT < (a1.av.length : Int) then
 idx a1.av WT >>= fun GJ =>
 cH UP GJ.ao >>= fun zs =>
 cH zs GJ.bn >>= fun yG =>
 cH yG GJ.fh >>= fun Cz =>
 iR Cz GJ.bc >>= fun HV =>
 iR HV GJ.fZ >>= fun NU =>
 fW a1 NU (ah (WT + 1))
 else
 some UP)
partial_fixpoint
def mz (a0 : List UInt8) (a1 : aw) : Option ((List UInt8)) :=
 cH a0 a1.ao >>= fun v1 =>
 cH v1 a1.bD >>= fun v4 =>
 dB v4 (a1.aA.length : Int) >>= fun v7 =>
 (
 fV a1 v7 0
 : Option ((List UInt8))) >>= fun xr =>
 dB xr (a1.av.length : Int) >>= fun L6 =>
 (
 fW a1 L6 0
 : Option ((List UInt8))) >>= fun AO =>
 some AO
theorem CD {a0 : List UInt8} {a1 : aw} {r : (List UInt8)} {g1000 : Nat} (h : mz a0 a1 = some r) : ACall Tryz.prog 51 [.own 0 g1000 0 a0.length, .agg a1.lit] [.row g1000 1 a0.length 5 (row cB a0)] (fun res h => ∃ G0 : Nat, res = .own 0 G0 0 r.length ∧ h = [.row G0 1 r.length 5 (row cB r)]) := by
 refine cP Tryz.func51 ?_
 unfold mz at h
 refine .d (.d (.float [(0, true), (1, true), (2, true), (4, true), (5, true), (7, true), (8, true), (9, true), (3, false), (6, false), (10, false), (11, true)] agr ?_))
 refine ⟨rfl, ⟨rfl, _, rfl, ⟨rfl, ⟨rfl, _, rfl, ⟨rfl, ⟨rfl, _, rfl, (bk h fun v1 jT h => (ks (dr (g1000 := g1000) jT) [0] ⟨ov, ⟨⟩⟩ (fun g3 => .own 0 g3 0 v1.length) (fun g3 => [.row g3 1 v1.length 5 (row cB v1), .row 0 4 1 68 (fun _ => a1.lit)]) fun g3 => ⟨rfl, ⟨rfl, ⟨rfl, ⟨rfl, (bk h fun v4 xy h => (ks (dr (g1000 := g3) xy) [0] ⟨ov, ⟨⟩⟩ (fun g6 => .own 0 g6 0 v4.length) (fun g6 => [.row g6 1 v4.length 5 (row cB v4), .row 0 4 1 68 (fun _ => a1.lit)]) fun g6 => ⟨rfl, ?_⟩))⟩⟩⟩⟩))⟩⟩⟩⟩⟩⟩
 refine ⟨rfl, (bk h fun v7 Ib h => (ks (ft (g1000 := g6) Ib) [0] ⟨ov, ⟨⟩⟩ (fun g9 => .own 0 g9 0 v7.length) (fun g9 => [.row g9 1 v7.length 5 (row cB v7), .row 0 4 1 68 (fun _ => a1.lit)]) fun g9 => ?_))⟩
 obtain ⟨HU, IP, jX⟩ := bd h
 replace h := IP
 refine .cut (fun σ η => ∃ xr, ∃ g10 : Nat, xr = HU ∧ σ = [(0, .own 0 g10 0 xr.length), (3, .aN 1 0 0 0)] ∧ η = [.row g10 1 xr.length 5 (row cB xr), .row 0 4 1 68 (fun _ => a1.lit)]) ?_ ?_
 refine .d ?_
 refine le (fV.partial_correctness a1 (motive := fun UO la Np => ∀ g15 : Nat, HU = Np → az _ _ [(0, .own 0 g15 0 UO.length), (3, .aN 1 0 0 0), (5, .int .i64 la)] [.row g15 1 UO.length 5 (row cB UO), .row 0 4 1 68 (fun _ => a1.lit)]) ?_ v7 0 HU h g9 rfl) (tk [0, 1] ⟨.o, .p, .i, ⟨⟩⟩ ⟨od, (bf rfl), ⟨⟩⟩)
 intro PG My UO la Np h g15 UQ
 subst UQ
 refine az.round (.d (.d ⟨rfl, ⟨rfl, _, rfl, (sD h (fun pf h => ?_) (fun pf h => ?_))⟩⟩))
 refine .d (.d ⟨rfl, ⟨rfl, _, rfl, (bk h fun uT rG h => ⟨aI rG, _, (aF rG).trans (aB.au uT), ⟨rfl, _, fun _ => [.str uT.ao, .str uT.bn, .bool uT.bc, .int .i64 uT.aH.aJ, .int .i64 uT.aH.bb, .str uT.aH.bm, .int .i64 uT.aH.bs, sl 8 ae.cells uT.aH.ai], rfl, aM rfl, (.float [(0, true), (1, true), (2, true), (4, true), (5, true), (7, true), (8, true), (10, true), (11, true), (3, false), (6, false), (9, false), (12, false), (13, false), (14, true)] agr ?_)⟩⟩)⟩⟩)
 refine ⟨rfl, ⟨rfl, _, rfl, ⟨rfl, ⟨rfl, _, rfl, ⟨rfl, ⟨rfl, _, rfl, ⟨rfl, ⟨rfl, _, rfl, (bk h fun nZ xB h => (ks (dr (g1000 := g15) xB) [0] ⟨ov, ⟨⟩⟩ (fun YR => .own 0 YR 0 nZ.length) (fun YR => [.row YR 1 nZ.length 5 (row cB nZ), .row 0 4 1 68 (fun _ => a1.lit), .row 0 8 1 99 (fun _ => uT.lit)]) fun YR => ⟨rfl, ⟨rfl, ⟨rfl, ⟨rfl, ⟨rfl, ?_⟩⟩⟩⟩⟩))⟩⟩⟩⟩⟩⟩⟩⟩
 refine ⟨rfl, (bk h fun dj DV h => (ks (dr (g1000 := YR) DV) [0] ⟨ov, ⟨⟩⟩ (fun NN => .own 0 NN 0 dj.length) (fun NN => [.row NN 1 dj.length 5 (row cB dj), .row 0 4 1 68 (fun _ => a1.lit), .row 0 8 1 99 (fun _ => uT.lit)]) fun NN => ⟨rfl, ⟨rfl, ⟨rfl, ⟨rfl, (bk h fun KU Tx h => (ks (my (g1000 := NN) Tx) [0] ⟨ov, ⟨⟩⟩ (fun YS => .own 0 YS 0 KU.length) (fun YS => [.row YS 1 KU.length 5 (row cB KU), .row 0 4 1 68 (fun _ => a1.lit), .row 0 8 1 99 (fun _ => uT.lit)]) fun YS => ⟨rfl, ⟨rfl, (bk h fun Qb Tr h => (bO (EH Tr) (bk h fun vW Ey h => (ks (dr (g1000 := YS) Ey) [0] ⟨ov, ⟨⟩⟩ (fun HZ => .own 0 HZ 0 vW.length) (fun HZ => [.row HZ 1 vW.length 5 (row cB vW), .row 0 4 1 68 (fun _ => a1.lit), .row 0 8 1 99 (fun _ => uT.lit)]) fun HZ => ?_))))⟩⟩))⟩⟩⟩⟩))⟩
 exact lg (My _ _ _ h HZ rfl) (tk [0, 1] ⟨.o, .p, .i, ⟨⟩⟩ ⟨od, (bf rfl), ⟨⟩⟩)
 exact ct ⟨_, g15, si h, rfl, rfl⟩ (tk [0, 1] ⟨.o, .p, ⟨⟩⟩ ⟨od, (bf rfl), ⟨⟩⟩)
 rintro _ _ ⟨xr, g10, rfl, rfl, rfl⟩
 replace h := jX
 refine .d ⟨rfl, ⟨rfl, _, rfl, (bk h fun L6 UR h => (ks (ft (g1000 := g10) UR) [0] ⟨ov, ⟨⟩⟩ (fun YT => .own 0 YT 0 L6.length) (fun YT => [.row YT 1 L6.length 5 (row cB L6), .row 0 4 1 68 (fun _ => a1.lit)]) fun YT => ?_))⟩⟩
 obtain ⟨o44, acd, ace⟩ := bd h
 replace h := acd
 refine .cut (fun σ η => ∃ AO, ∃ PN : Nat, AO = o44 ∧ σ = [(0, .own 0 PN 0 AO.length)] ∧ η = [.row PN 1 AO.length 5 (row cB AO)]) ?_ ?_
 refine .d ?_
 refine le (fW.partial_correctness a1 (motive := fun UP WT o70 => ∀ YU : Nat, o44 = o70 → az _ _ [(0, .own 0 YU 0 UP.length), (3, .aN 1 0 0 0), (7, .int .i64 WT)] [.row YU 1 UP.length 5 (row cB UP), .row 0 4 1 68 (fun _ => a1.lit)]) ?_ L6 0 o44 h YT rfl) (tk [0, 1] ⟨.o, .p, .i, ⟨⟩⟩ ⟨od, (bf rfl), ⟨⟩⟩)
 intro F51 acf UP WT o70 h YU acg
 subst acg
 refine az.round (.d (.d ⟨rfl, ⟨rfl, _, rfl, (sD h (fun Eu h => ?_) (fun Eu h => ?_))⟩⟩))
 refine .d (.d ⟨rfl, ⟨rfl, _, rfl, (bk h fun GJ YV h => ⟨aI YV, _, (aF YV).trans (ax.au GJ), ⟨rfl, _, fun _ => [.str GJ.ao, .str GJ.bn, .str GJ.fh, .bool GJ.bc, .bool GJ.fZ], rfl, aM rfl, (.float [(0, true), (1, true), (2, true), (4, true), (5, true), (7, true), (8, true), (10, true), (11, true), (13, true), (14, true), (3, false), (6, false), (9, false), (12, false), (15, false), (16, true)] agr ?_)⟩⟩)⟩⟩)
 refine ⟨rfl, ⟨rfl, _, rfl, ⟨rfl, ⟨rfl, _, rfl, ⟨rfl, ⟨rfl, _, rfl, ⟨rfl, ⟨rfl, _, rfl, ⟨rfl, ⟨rfl, _, rfl, (bk h fun zs Jb h => (ks (dr (g1000 := YU) Jb) [0] ⟨ov, ⟨⟩⟩ (fun Kl => .own 0 Kl 0 zs.length) (fun Kl => [.row Kl 1 zs.length 5 (row cB zs), .row 0 4 1 68 (fun _ => a1.lit), .row 0 5 1 106 (fun _ => GJ.lit)]) fun Kl => ⟨rfl, ⟨rfl, ⟨rfl, ?_⟩⟩⟩))⟩⟩⟩⟩⟩⟩⟩⟩⟩⟩
 refine ⟨rfl, ⟨rfl, ⟨rfl, ⟨rfl, ⟨rfl, (bk h fun yG Nl h => (ks (dr (g1000 := Kl) Nl) [0] ⟨ov, ⟨⟩⟩ (fun YW => .own 0 YW 0 yG.length) (fun YW => [.row YW 1 yG.length 5 (row cB yG), .row 0 4 1 68 (fun _ => a1.lit), .row 0 5 1 106 (fun _ => GJ.lit)]) fun YW => ⟨rfl, ⟨rfl, ⟨rfl, ⟨rfl, ⟨rfl, ⟨rfl, (bk h fun Cz Ev h => (ks (dr (g1000 := YW) Ev) [0] ⟨ov, ⟨⟩⟩ (fun YX => .own 0 YX 0 Cz.length) (fun YX => [.row YX 1 Cz.length 5 (row cB Cz), .row 0 4 1 68 (fun _ => a1.lit), .row 0 5 1 106 (fun _ => GJ.lit)]) fun YX => ?_))⟩⟩⟩⟩⟩⟩))⟩⟩⟩⟩⟩
 exact ⟨rfl, ⟨rfl, ⟨rfl, ⟨rfl, (bk h fun HV US h => (ks (my (g1000 := YX) US) [0] ⟨ov, ⟨⟩⟩ (fun YY => .own 0 YY 0 HV.length) (fun YY => [.row YY 1 HV.length 5 (row cB HV), .row 0 4 1 68 (fun _ => a1.lit), .row 0 5 1 106 (fun _ => GJ.lit)]) fun YY => ⟨rfl, ⟨rfl, (bk h fun NU UT h => (ks (my (g1000 := YY) UT) [0] ⟨ov, ⟨⟩⟩ (fun NV => .own 0 NV 0 NU.length) (fun NV => [.row NV 1 NU.length 5 (row cB NU), .row 0 4 1 68 (fun _ => a1.lit), .row 0 5 1 106 (fun _ => GJ.lit)]) fun NV => (lg (acf _ _ _ h NV rfl) (tk [0, 1] ⟨.o, .p, .i, ⟨⟩⟩ ⟨od, (bf rfl), ⟨⟩⟩))))⟩⟩))⟩⟩⟩⟩
 exact ct ⟨_, YU, si h, rfl, rfl⟩ (tk [0] ⟨.o, ⟨⟩⟩ ⟨od, ⟨⟩⟩)
 rintro _ _ ⟨AO, PN, rfl, rfl, rfl⟩
 replace h := ace
 refine .d ?_
 obtain rfl := si h
 exact en [0] ⟨PN, rfl, rfl⟩ .o ⟨od, ⟨⟩⟩
def gU (a0 : aD) (l8 : List UInt8) (y9 : Int) : Option ((List UInt8)) :=
 (if y9 < (a0.aG.length : Int) then
 idx a0.aG y9 >>= fun sx =>
 nN l8 sx >>= fun pt =>
 gU a0 pt (ah (y9 + 1))
 else
 some l8)
partial_fixpoint
def gV (a0 : aD) (UU : List UInt8) (WU : Int) : Option ((List UInt8)) :=
 (if WU < (a0.ay.length : Int) then
 idx a0.ay WU >>= fun x32 =>
 mz UU x32 >>= fun vW =>
 gV a0 vW (ah (WU + 1))
 else
 some UU)
partial_fixpoint
def lp (a0 : aD) : Option ((List UInt8)) :=
 dB ([] : List UInt8) (a0.aG.length : Int) >>= fun v1 =>
 (
 gU a0 v1 0
 : Option ((List UInt8))) >>= fun l4 =>
 dB l4 (a0.ay.length : Int) >>= fun v20 =>
 (
 gV a0 v20 0
 : Option ((List UInt8))) >>= fun UW =>
 some UW
theorem AQ {a0 : aD} {r : (List UInt8)} (h : lp a0 = some r) : ACall Tryz.prog 21 [.agg a0.lit] [] (fun res h => res = .own 0 0 0 r.length ∧ h = [.row 0 1 r.length 5 (row cB r)]) := by
 refine cP Tryz.func21 ?_
 unfold lp at h
 refine .d (.d ⟨row cB ([] : List UInt8), dN cB ([] : List UInt8) rfl (eg rfl), ⟨rfl, ⟨rfl, _, rfl, (bk h fun v1 jT h => (ks (ft (g1000 := 0) jT) [1] ⟨ov, ⟨⟩⟩ (fun g3 => .own 1 g3 0 v1.length) (fun g3 => [.row 0 2 1 33 (fun _ => a0.lit), .row g3 1 v1.length 5 (row cB v1)]) fun g3 => ?_))⟩⟩⟩)
 obtain ⟨o5, xD, vU⟩ := bd h
 replace h := xD
 refine .cut (fun σ η => ∃ l4, l4 = o5 ∧ σ = [(1, .aN 0 0 0 0), (3, .own 1 0 0 l4.length)] ∧ η = [.row 0 2 1 33 (fun _ => a0.lit), .row 0 1 l4.length 5 (row cB l4)]) ?_ ?_
 refine .d ?_
 refine le (gU.partial_correctness a0 (motive := fun l8 y9 Ma => o5 = Ma → az _ _ [(1, .aN 0 0 0 0), (3, .own 1 0 0 l8.length), (4, .int .i64 y9)] [.row 0 2 1 33 (fun _ => a0.lit), .row 0 1 l8.length 5 (row cB l8)]) ?_ v1 0 o5 h rfl) (tk [0, 1] ⟨.p, .o, .i, ⟨⟩⟩ ⟨(bf rfl), nw, ⟨⟩⟩)
 intro F11 IL l8 y9 Ma h Nx
 subst Nx
 refine az.round (.d (.d ⟨rfl, ⟨rfl, _, rfl, (sD h (fun ly h => ?_) (fun ly h => ?_))⟩⟩))
 exact .d ⟨rfl, ⟨rfl, _, rfl, (bk h fun sx qK h => ⟨aI qK, _, (aF qK).trans (aC.au sx), (bk h fun pt vo h => (ks (EF (g1000 := 0) vo) [1] ⟨ov, ⟨⟩⟩ (fun g17 => .own 1 g17 0 pt.length) (fun g17 => [.row 0 2 1 33 (fun _ => a0.lit), .row g17 1 pt.length 5 (row cB pt)]) fun g17 => (lg (IL _ _ _ h rfl) (tk [0, 1] ⟨.p, .o, .i, ⟨⟩⟩ ⟨(bf rfl), nw, ⟨⟩⟩))))⟩)⟩⟩
 exact ct ⟨_, si h, rfl, rfl⟩ (tk [0, 1] ⟨.p, .o, ⟨⟩⟩ ⟨(bf rfl), nw, ⟨⟩⟩)
 rintro _ _ ⟨l4, rfl, rfl, rfl⟩
 replace h := vU
 refine .d ⟨rfl, ⟨rfl, _, rfl, (bk h fun v20 xw h => (ks (ft (g1000 := 0) xw) [1] ⟨ov, ⟨⟩⟩ (fun g22 => .own 1 g22 0 v20.length) (fun g22 => [.row 0 2 1 33 (fun _ => a0.lit), .row g22 1 v20.length 5 (row cB v20)]) fun g22 => ?_))⟩⟩
 obtain ⟨Lj, IZ, Gz⟩ := bd h
 replace h := IZ
 refine .cut (fun σ η => ∃ UW, UW = Lj ∧ σ = [(3, .own 0 0 0 UW.length)] ∧ η = [.row 0 1 UW.length 5 (row cB UW)]) ?_ ?_
 refine .d ?_
 refine le (gV.partial_correctness a0 (motive := fun UU WU Np => Lj = Np → az _ _ [(1, .aN 0 0 0 0), (3, .own 1 0 0 UU.length), (5, .int .i64 WU)] [.row 0 2 1 33 (fun _ => a0.lit), .row 0 1 UU.length 5 (row cB UU)]) ?_ v20 0 Lj h rfl) (tk [0, 1] ⟨.p, .o, .i, ⟨⟩⟩ ⟨(bf rfl), nw, ⟨⟩⟩)
 intro yw ach UU WU Np h UQ
 subst UQ
 refine az.round (.d (.d ⟨rfl, ⟨rfl, _, rfl, (sD h (fun AR h => ?_) (fun AR h => ?_))⟩⟩))
 exact .d ⟨rfl, ⟨rfl, _, rfl, (bk h fun x32 YZ h => ⟨aI YZ, _, (aF YZ).trans (aw.au x32), (bk h fun vW Ey h => (ks (CD (g1000 := 0) Ey) [1] ⟨ov, ⟨⟩⟩ (fun HZ => .own 1 HZ 0 vW.length) (fun HZ => [.row 0 2 1 33 (fun _ => a0.lit), .row HZ 1 vW.length 5 (row cB vW)]) fun HZ => (lg (ach _ _ _ h rfl) (tk [0, 1] ⟨.p, .o, .i, ⟨⟩⟩ ⟨(bf rfl), nw, ⟨⟩⟩))))⟩)⟩⟩
 exact ct ⟨_, si h, rfl, rfl⟩ (tk [1] ⟨.o, ⟨⟩⟩ ⟨nw, ⟨⟩⟩)
 rintro _ _ ⟨UW, rfl, rfl, rfl⟩
 replace h := Gz
 refine .d ?_
 exact afA
def fL (a0 : aD) : Option ((List UInt8) × Bool) :=
 ll a0 >>= fun v1 =>
 (if v1 = true then
 lp a0 >>= fun v4 =>
 some (v4, true)
 else
 some (([] : List UInt8), false))
theorem vx {a0 : aD} {r : (List UInt8) × Bool} (h : fL a0 = some r) : ACall Tryz.prog 6 [.agg a0.lit] [] (fun res h => res = .dG [.own 0 0 0 r.1.length, .bool r.2] ∧ h = [.row 0 1 r.1.length 5 (row cB r.1)]) := by
 refine cP Tryz.func6 ?_
 unfold fL at h
 refine .d (.d (.d ⟨rfl, _, rfl, (bk h fun v1 jT h => (bO (AG jT) (j3 h (fun lJ h => ?_) (fun lJ h => ?_))))⟩))
 refine .d ⟨row cB ([] : List UInt8), dN cB ([] : List UInt8) rfl (eg rfl), ?_⟩
 exact afG
 refine .d ⟨rfl, _, rfl, (bk h fun v4 xy h => (P6 (AQ xy) (.own 1 0 0 v4.length) [.row 0 2 1 33 (fun _ => a0.lit), .row 0 1 v4.length 5 (row cB v4)] ?_))⟩
 exact afG
end Go.Am
