/- Texts of the proof, joined and shortened. -/
import Derived.Test.YtiigfbapjeefbaaGreatDoorPk5
import Derived.Test.YtiigfbapjeefbaaGreatDoorShelf
import Derived.Shelf.Strings.Builder1
import Derived.Lib.UnsafeStr
set_option linter.unusedVariables false
set_option linter.unusedSimpArgs false
set_option maxRecDepth 100000
namespace Go.Am
open Go Go.RowKit Go.Proofs
def jH (a0 : Int) : Option (aq) :=
 m73 a0 >>= fun v1 =>
 some v1
theorem wv {a0 : Int} {r : aq} (h : jH a0 = some r) : ACall Tryz.prog 152 [.int .i64 a0] [] (fun res h => res = .str r ∧ h = []) := by
 refine gq Tryz.func152 ?_
 unfold jH at h
 exact .d (.d (bk h fun v1 mq h => (aR (apV mq) (eS h))))
def ko (a0 : aq) : Option (Bool) :=
 nX a0 [58, 58] >>= fun (v1, v2, v3) =>
 (if v3 = true then
 (if v1 = ([115, 116, 97, 116, 105, 99] : aq) then
 aX v2 >>= fun v7 =>
 some v7
 else
 aX v1 >>= fun v9 =>
 (if v9 = true then
 aX v2 >>= fun v12 =>
 some v12
 else
 some false))
 else
 some false)
theorem xZ {a0 : aq} {r : Bool} (h : ko a0 = some r) : ACall Tryz.prog 144 [.str a0] [] (fun res h => res = .bool r ∧ h = []) := by
 refine gq Tryz.func144 ?_
 unfold ko at h
 refine .d (.d ?_)
 obtain ⟨⟨v1, v2, v3⟩, hv4, h⟩ := bd h
 refine aR (xY hv4) (.d (sV h (fun Bc h => ?_) (fun Bc h => ?_)))
 refine .t (.t (sE h (fun vA h => ?_) (fun vA h => ?_)))
 exact .t (.t (.t (.t (.t (.t (bk h fun v7 hv8 h => (aR (bQ hv8) (.t (eB h)))))))))
 refine .f (bk h fun v9 aae h => (aR (bQ aae) (.t (.f (.t (sV h (fun rS h => ?_) (fun rS h => ?_)))))))
 exact .t (bk h fun v12 XG h => (aR (bQ XG) (.t (eB h))))
 exact .f (.f (eB h))
 exact .f (.f (.f (.f (.f (.f (.f (eB h)))))))
def gu (a1 : Bool) (tH : List ae) (DD : Bool) (DE : Int) : Option ((Unit) ⊕ Bool) :=
 (if DE < (tH.length : Int) then
 idx tH DE >>= fun tI =>
 ((
 (if tI.ai = 25 then
 (if a1 = true then
 some (.inl true)
 else
 (if tI.ai = 24 then
 (if DD = true then
 some (.inr (.inr false))
 else
 some (.inl DD))
 else
 some (.inr (.inr false))))
 else
 (if tI.ai = 24 then
 (if DD = true then
 some (.inr (.inr false))
 else
 some (.inl DD))
 else
 some (.inr (.inr false))))
 : Option ((Bool) ⊕ ((Unit) ⊕ Bool))) >>= fun aaf => match aaf with
 | .inr r => some r
 | .inl KF =>
 BU tI.aC 0 1 >>= fun v222 =>
 (if v222 = true then
 aX tI.aj >>= fun ahG =>
 (if ahG = true then
 (if (tI.ah.length : Int) > 0 then
 some (.inr false)
 else
 gu a1 tH KF (aS (DE + 1)))
 else
 some (.inr false))
 else
 some (.inr false))
 )
 else
 some (.inl ()))
partial_fixpoint
mutual
def bh (a0 : ae) : Option (Bool) :=
 ((
 (if a0.ai = 1 then
 BU a0.aC 0 1000000000 >>= fun v5 =>
 (if v5 = true then
 (if a0.aj = ([] : aq) then
 some (.inr ((a0.ah.length : Int) == 0))
 else
 some (.inr false))
 else
 some (.inr false))
 else
 (if a0.ai = 2 then
 (if a0.aC = 0 then
 (if (a0.aj.length : Int) ≤ 400 then
 some (.inr ((a0.ah.length : Int) == 0))
 else
 some (.inr false))
 else
 some (.inr false))
 else
 (if a0.ai = 3 then
 BU a0.aC 0 2 >>= fun o9 =>
 (if o9 = true then
 (if a0.aj = ([] : aq) then
 some (.inr ((a0.ah.length : Int) == 0))
 else
 some (.inr false))
 else
 some (.inr false))
 else
 (if a0.ai = 4 then
 fq a0 >>= fun KG =>
 some (.inr KG)
 else
 (if a0.ai = 5 then
 ((
 jI a0 0
 : Option ((Unit) ⊕ ((Unit) ⊕ Bool))) >>= fun o21 => match o21 with
 | .inr r => some r
 | .inl _ =>
 (if a0.aC = 0 then
 some (.inr (a0.aj == ([] : aq)))
 else
 some (.inr false))
 )
 else
 (
 (if a0.ai = 7 then
 some (a0.ai == 7)
 else
 (if a0.ai = 11 then
 some (a0.ai == 11)
 else
 (if a0.ai = 12 then
 some (a0.ai == 12)
 else
 some (a0.ai == 13))))
 : Option (Bool)) >>= fun b52 =>
 (if b52 = true then
 (if a0.aC = 0 then
 (if a0.aj = ([] : aq) then
 (if (a0.ah.length : Int) = 2 then
 bz a0.ah >>= fun KH =>
 some (.inr KH)
 else
 some (.inr false))
 else
 some (.inr false))
 else
 some (.inr false))
 else
 (if a0.ai = 8 then
 (if a0.aC = 0 then
 aX a0.aj >>= fun v67 =>
 (if v67 = true then
 (if (a0.ah.length : Int) = 1 then
 bz a0.ah >>= fun v71 =>
 some (.inr v71)
 else
 some (.inr false))
 else
 some (.inr false))
 else
 some (.inr false))
 else
 (if a0.ai = 9 then
 (if a0.aC = 1 then
 (if a0.aj = ([] : aq) then
 (if (a0.ah.length : Int) = 1 then
 bz a0.ah >>= fun v77 =>
 some (.inr v77)
 else
 some (.inr false))
 else
 some (.inr false))
 else
 (if a0.aC = 2 then
 (if a0.aj = ([] : aq) then
 (if (a0.ah.length : Int) = 1 then
 bz a0.ah >>= fun R6 =>
 some (.inr R6)
 else
 some (.inr false))
 else
 some (.inr false))
 else
 some (.inr false)))
 else
 (if a0.ai = 10 then
 BU a0.aC 1 15 >>= fun v85 =>
 (if v85 = true then
 (if a0.aj = ([] : aq) then
 (if (a0.ah.length : Int) = 2 then
 bz a0.ah >>= fun v90 =>
 some (.inr v90)
 else
 some (.inr false))
 else
 some (.inr false))
 else
 some (.inr false))
 else
 (if a0.ai = 14 then
 (if a0.aC = 0 then
 (if a0.aj = ([] : aq) then
 (if (a0.ah.length : Int) = 3 then
 bz a0.ah >>= fun v96 =>
 some (.inr v96)
 else
 some (.inr false))
 else
 some (.inr false))
 else
 some (.inr false))
 else
 (
 (if a0.ai = 15 then
 some (a0.ai == 15)
 else
 some (a0.ai == 16))
 : Option (Bool)) >>= fun b98 =>
 (if b98 = true then
 (if a0.aC = 0 then
 (if a0.aj = ([] : aq) then
 (if (a0.ah.length : Int) = 2 then
 bz a0.ah >>= fun v107 =>
 (if v107 = true then
 idx a0.ah 0 >>= fun aag =>
 jx aag >>= fun IK =>
 some (.inr IK)
 else
 some (.inr false))
 else
 some (.inr false))
 else
 some (.inr false))
 else
 some (.inr false))
 else
 (if a0.ai = 17 then
 (if a0.aC = 0 then
 aX a0.aj >>= fun ahH =>
 (if ahH = true then
 (if (a0.ah.length : Int) = 1 then
 idx a0.ah 0 >>= fun aah =>
 fq aah >>= fun ahI =>
 some (.inr ahI)
 else
 some (.inr false))
 else
 some (.inr false))
 else
 some (.inr false))
 else
 (if a0.ai = 18 then
 (if a0.aC = 0 then
 aX a0.aj >>= fun ahJ =>
 (if ahJ = true then
 bz a0.ah >>= fun J2 =>
 some (.inr J2)
 else
 some (.inr false))
 else
 some (.inr false))
 else
 (if a0.ai = 19 then
 (if a0.aC = 0 then
 (if a0.aj = ([] : aq) then
 (if (a0.ah.length : Int) ≥ 1 then
 bz a0.ah >>= fun ahK =>
 some (.inr ahK)
 else
 some (.inr false))
 else
 some (.inr false))
 else
 some (.inr false))
 else
 (if a0.ai = 20 then
 (if a0.aC = 0 then
 aX a0.aj >>= fun v139 =>
 (if v139 = true then
 (if (a0.ah.length : Int) ≥ 1 then
 bz a0.ah >>= fun v143 =>
 some (.inr v143)
 else
 some (.inr false))
 else
 some (.inr false))
 else
 some (.inr false))
 else
 (if a0.ai = 21 then
 (if a0.aC = 0 then
 ko a0.aj >>= fun BV =>
 (if BV = true then
 bz a0.ah >>= fun ahL =>
 some (.inr ahL)
 else
 some (.inr false))
 else
 some (.inr false))
 else
 (if a0.ai = 22 then
 (if a0.aC = 0 then
 (if a0.aj = ([115, 116, 97, 116, 105, 99] : aq) then
 bz a0.ah >>= fun wm =>
 some (.inr wm)
 else
 aX a0.aj >>= fun v157 =>
 (if v157 = true then
 bz a0.ah >>= fun v160 =>
 some (.inr v160)
 else
 some (.inr false)))
 else
 some (.inr false))
 else
 (if a0.ai = 23 then
 (if a0.aC = 0 then
 (if a0.aj = ([] : aq) then
 dY a0.ah true >>= fun vX =>
 some (.inr vX)
 else
 some (.inr false))
 else
 some (.inr false))
 else
 some (.inl ())))))))))))))))))))
 : Option ((Unit) ⊕ Bool)) >>= fun o1 => match o1 with
 | .inr r => some r
 | .inl _ =>
 some false
 )
partial_fixpoint
def bz (a0 : List ae) : Option (Bool) :=
 ((
 iq a0 0
 : Option ((Unit) ⊕ Bool)) >>= fun KI => match KI with
 | .inr r => some r
 | .inl _ =>
 some true
 )
partial_fixpoint
def dY (a0 : List ae) (a1 : Bool) : Option (Bool) :=
 (if (aS ((a0.length : Int) - 1)) < 0 then
 some false
 else
 idx a0 (aS ((a0.length : Int) - 1)) >>= fun aai =>
 (if aai.ai = 48 then
 idx a0 (aS ((a0.length : Int) - 1)) >>= fun aaj =>
 bE aaj >>= fun J3 =>
 (if J3 = true then
 ((
 Ir a0 (aS ((a0.length : Int) - 1)) >>= fun tH =>
 gu a1 tH false 0
 : Option ((Unit) ⊕ Bool)) >>= fun KJ => match KJ with
 | .inr r => some r
 | .inl _ =>
 some true
 )
 else
 some false)
 else
 some false))
partial_fixpoint
def bE (a0 : ae) : Option (Bool) :=
 (if a0.aC = 0 then
 ((
 (if a0.ai = 31 then
 (if a0.aj = ([] : aq) then
 some (.inr false)
 else
 kn a0.aj [60, 63] >>= fun ahM =>
 (if ahM = true then
 some (.inr false)
 else
 some (.inr ((a0.ah.length : Int) == 0))))
 else
 (
 (if a0.ai = 32 then
 some (a0.ai == 32)
 else
 (if a0.ai = 33 then
 some (a0.ai == 33)
 else
 some (a0.ai == 42)))
 : Option (Bool)) >>= fun KK =>
 (if KK = true then
 (if a0.aj = ([] : aq) then
 (if (a0.ah.length : Int) = 1 then
 idx a0.ah 0 >>= fun aak =>
 bh aak >>= fun ahN =>
 some (.inr ahN)
 else
 some (.inr false))
 else
 some (.inr false))
 else
 (if a0.ai = 34 then
 (if a0.aj = ([] : aq) then
 BU (a0.ah.length : Int) 2 3 >>= fun IW =>
 (if IW = true then
 idx a0.ah 0 >>= fun wo =>
 bh wo >>= fun zV =>
 (if zV = true then
 j5 a0.ah 1 >>= fun Pv =>
 dM Pv >>= fun ahO =>
 some (.inr ahO)
 else
 some (.inr false))
 else
 some (.inr false))
 else
 some (.inr false))
 else
 (if a0.ai = 35 then
 (if a0.aj = ([] : aq) then
 (if (a0.ah.length : Int) = 2 then
 idx a0.ah 0 >>= fun aal =>
 bh aal >>= fun ahP =>
 (if ahP = true then
 j5 a0.ah 1 >>= fun Pw =>
 dM Pw >>= fun ahQ =>
 some (.inr ahQ)
 else
 some (.inr false))
 else
 some (.inr false))
 else
 some (.inr false))
 else
 (if a0.ai = 36 then
 (if a0.aj = ([] : aq) then
 BU (a0.ah.length : Int) 3 4 >>= fun ahR =>
 (if ahR = true then
 idx a0.ah 0 >>= fun aam =>
 bh aam >>= fun ahS =>
 (if ahS = true then
 idx a0.ah 1 >>= fun aan =>
 fq aan >>= fun ahT =>
 (if ahT = true then
 (if (a0.ah.length : Int) = 3 then
 j5 a0.ah (aS ((a0.ah.length : Int) - 1)) >>= fun Px =>
 dM Px >>= fun ahU =>
 some (.inr ahU)
 else
 idx a0.ah 2 >>= fun aao =>
 fq aao >>= fun ahV =>
 (if ahV = true then
 j5 a0.ah (aS ((a0.ah.length : Int) - 1)) >>= fun Py =>
 dM Py >>= fun I3 =>
 some (.inr I3)
 else
 some (.inr false)))
 else
 some (.inr false))
 else
 some (.inr false))
 else
 some (.inr false))
 else
 some (.inr false))
 else
 (
 (if a0.ai = 37 then
 some (a0.ai == 37)
 else
 some (a0.ai == 38))
 : Option (Bool)) >>= fun KL =>
 (if KL = true then
 (if a0.aj = ([] : aq) then
 some (.inr ((a0.ah.length : Int) == 0))
 else
 some (.inr false))
 else
 (if a0.ai = 39 then
 (if a0.aj = ([] : aq) then
 (if (a0.ah.length : Int) ≤ 1 then
 bz a0.ah >>= fun ahW =>
 some (.inr ahW)
 else
 some (.inr false))
 else
 some (.inr false))
 else
 (if a0.ai = 40 then
 aX a0.aj >>= fun BW =>
 (if BW = true then
 some (.inr ((a0.ah.length : Int) == 0))
 else
 some (.inr false))
 else
 (if a0.ai = 41 then
 (if a0.aj = ([] : aq) then
 (if (a0.ah.length : Int) = 1 then
 idx a0.ah 0 >>= fun Dq =>
 nY Dq >>= fun nW =>
 some (.inr nW)
 else
 some (.inr false))
 else
 some (.inr false))
 else
 (if a0.ai = 46 then
 (if a0.aj = ([] : aq) then
 (if (a0.ah.length : Int) = 1 then
 idx a0.ah (aS ((a0.ah.length : Int) - 1)) >>= fun aap =>
 bh aap >>= fun ahX =>
 some (.inr ahX)
 else
 (if (a0.ah.length : Int) = 2 then
 idx a0.ah 0 >>= fun hI =>
 fq hI >>= fun vY =>
 (if vY = true then
 idx a0.ah (aS ((a0.ah.length : Int) - 1)) >>= fun aaq =>
 bh aaq >>= fun ahY =>
 some (.inr ahY)
 else
 some (.inr false))
 else
 some (.inr false)))
 else
 some (.inr false))
 else
 (if a0.ai = 47 then
 (if (a0.aj.length : Int) ≤ 400 then
 some (.inr ((a0.ah.length : Int) == 0))
 else
 some (.inr false))
 else
 (if a0.ai = 48 then
 ((
 jJ a0 0
 : Option ((Unit) ⊕ ((Unit) ⊕ Bool))) >>= fun BX => match BX with
 | .inr r => some r
 | .inl _ =>
 some (.inr (a0.aj == ([] : aq)))
 )
 else
 (if a0.ai = 43 then
 (if a0.aj = ([] : aq) then
 p9 a0.ah >>= fun ahZ =>
 some (.inr ahZ)
 else
 some (.inr false))
 else
 some (.inl ()))))))))))))))
 : Option ((Unit) ⊕ Bool)) >>= fun aar => match aar with
 | .inr r => some r
 | .inl _ =>
 some false
 )
 else
 some false)
partial_fixpoint
def dM (a0 : List ae) : Option (Bool) :=
 ((
 jK a0 0
 : Option ((Unit) ⊕ Bool)) >>= fun KM => match KM with
 | .inr r => some r
 | .inl _ =>
 some true
 )
partial_fixpoint
def p9 (a0 : List ae) : Option (Bool) :=
 (if (a0.length : Int) < 2 then
 some false
 else
 Ir a0 1 >>= fun Pz =>
 dM Pz >>= fun BY =>
 (if BY = true then
 j5 a0 1 >>= fun Gr =>
 ((
 idx Gr 0 >>= fun vd =>
 (if vd.ai = 44 then
 (if vd.aC = 0 then
 aX vd.aj >>= fun PA =>
 (if PA = true then
 (if (vd.ah.length : Int) = 2 then
 idx vd.ah 0 >>= fun z6 =>
 fq z6 >>= fun x5 =>
 (if x5 = true then
 j5 vd.ah 1 >>= fun Gs =>
 dM Gs >>= fun PB =>
 (if PB = true then
 j5 Gr 1 >>= fun PC =>
 some (.inl PC)
 else
 some (.inr false))
 else
 some (.inr false))
 else
 some (.inr false))
 else
 some (.inr false))
 else
 some (.inr false))
 else
 some (.inl Gr))
 : Option (((List ae)) ⊕ Bool)) >>= fun aas => match aas with
 | .inr r => some r
 | .inl DF =>
 (if (DF.length : Int) = 0 then
 some true
 else
 idx DF 0 >>= fun pf =>
 (if (DF.length : Int) = 1 then
 (if pf.ai = 45 then
 (if pf.aC = 0 then
 (if pf.aj = ([] : aq) then
 (if (pf.ah.length : Int) = 1 then
 dM pf.ah >>= fun Gt =>
 some Gt
 else
 some false)
 else
 some false)
 else
 some false)
 else
 some false)
 else
 some false))
 )
 else
 some false))
partial_fixpoint
def nY (a0 : ae) : Option (Bool) :=
 jx a0 >>= fun ah0 =>
 (if ah0 = true then
 bh a0 >>= fun J6 =>
 some J6
 else
 some false)
partial_fixpoint
def jI (a0 : ae) (oX : Int) : Option ((Unit) ⊕ ((Unit) ⊕ Bool)) :=
 (if oX < (a0.ah.length : Int) then
 idx a0.ah oX >>= fun wx =>
 (if wx.ai = 6 then
 (if wx.aC = 0 then
 (if wx.aj = ([] : aq) then
 BU (wx.ah.length : Int) 1 2 >>= fun v40 =>
 (if v40 = true then
 bz wx.ah >>= fun PE =>
 (if PE = true then
 jI a0 (aS (oX + 1))
 else
 some (.inr (.inr false)))
 else
 some (.inr (.inr false)))
 else
 some (.inr (.inr false)))
 else
 some (.inr (.inr false)))
 else
 some (.inr (.inr false)))
 else
 some (.inl ()))
partial_fixpoint
def iq (a0 : List ae) (iY : Int) : Option ((Unit) ⊕ Bool) :=
 (if iY < (a0.length : Int) then
 idx a0 iY >>= fun ri =>
 bh ri >>= fun v183 =>
 (if v183 = true then
 iq a0 (aS (iY + 1))
 else
 some (.inr false))
 else
 some (.inl ()))
partial_fixpoint
def jJ (a0 : ae) (iZ : Int) : Option ((Unit) ⊕ ((Unit) ⊕ Bool)) :=
 (if iZ < (a0.ah.length : Int) then
 idx a0.ah iZ >>= fun qV =>
 bE qV >>= fun Gu =>
 (if Gu = true then
 jJ a0 (aS (iZ + 1))
 else
 some (.inr (.inr false)))
 else
 some (.inl ()))
partial_fixpoint
def jK (a0 : List ae) (ja : Int) : Option ((Unit) ⊕ Bool) :=
 (if ja < (a0.length : Int) then
 idx a0 ja >>= fun sj =>
 (if sj.ai = 48 then
 bE sj >>= fun Gv =>
 (if Gv = true then
 jK a0 (aS (ja + 1))
 else
 some (.inr false))
 else
 some (.inr false))
 else
 some (.inl ()))
partial_fixpoint
end
def EZ (a0 : ae) (r : Bool) : Prop := ACall Tryz.prog 72 [.agg a0.lit] [] (fun res h => res = .bool r ∧ h = [])
def z7 (a0 : List ae) (r : Bool) : Prop := ACall Tryz.prog 139 [sl 4 ae.cells a0] [] (fun res h => res = .bool r ∧ h = [])
def KN (a0 : List ae) (a1 : Bool) (r : Bool) : Prop := ACall Tryz.prog 134 [sl 4 ae.cells a0, .bool a1] [] (fun res h => res = .bool r ∧ h = [])
def yL (a0 : ae) (r : Bool) : Prop := ACall Tryz.prog 68 [.agg a0.lit] [] (fun res h => res = .bool r ∧ h = [])
def KO (a0 : List ae) (r : Bool) : Prop := ACall Tryz.prog 137 [sl 4 ae.cells a0] [] (fun res h => res = .bool r ∧ h = [])
def KP (a0 : List ae) (r : Bool) : Prop := ACall Tryz.prog 141 [sl 4 ae.cells a0] [] (fun res h => res = .bool r ∧ h = [])
def KQ (a0 : ae) (r : Bool) : Prop := ACall Tryz.prog 140 [.agg a0.lit] [] (fun res h => res = .bool r ∧ h = [])
inductive eC : ae → Int → ((Unit) ⊕ ((Unit) ⊕ Bool)) → Prop
 | mk (KR : (List ae) → Option (Bool)) (ah1 : ∀ a0 r, KR a0 = some r → z7 a0 r) (gd : ae → Int → Option ((Unit) ⊕ ((Unit) ⊕ Bool))) (tJ : ∀ a0 oX o, gd a0 oX = some o → eC a0 oX o) (a0 : ae) (oX : Int) (o : (Unit) ⊕ ((Unit) ⊕ Bool)) (h : (
 (if oX < (a0.ah.length : Int) then
 idx a0.ah oX >>= fun wx =>
 (if wx.ai = 6 then
 (if wx.aC = 0 then
 (if wx.aj = ([] : aq) then
 BU (wx.ah.length : Int) 1 2 >>= fun v40 =>
 (if v40 = true then
 KR wx.ah >>= fun PE =>
 (if PE = true then
 gd a0 (aS (oX + 1))
 else
 some (.inr (.inr false)))
 else
 some (.inr (.inr false)))
 else
 some (.inr (.inr false)))
 else
 some (.inr (.inr false)))
 else
 some (.inr (.inr false)))
 else
 some (.inl ()))
 ) = some o) : eC a0 oX o
theorem sn {motive : ae → Int → ((Unit) ⊕ ((Unit) ⊕ Bool)) → Prop} (step : ∀ (KR : (List ae) → Option (Bool)) (ah1 : ∀ a0 r, KR a0 = some r → z7 a0 r) (gd : ae → Int → Option ((Unit) ⊕ ((Unit) ⊕ Bool))) (tJ : ∀ a0 oX o, gd a0 oX = some o → eC a0 oX o) (a0 : ae) (oX : Int) (o : (Unit) ⊕ ((Unit) ⊕ Bool)) (h : (
 (if oX < (a0.ah.length : Int) then
 idx a0.ah oX >>= fun wx =>
 (if wx.ai = 6 then
 (if wx.aC = 0 then
 (if wx.aj = ([] : aq) then
 BU (wx.ah.length : Int) 1 2 >>= fun v40 =>
 (if v40 = true then
 KR wx.ah >>= fun PE =>
 (if PE = true then
 gd a0 (aS (oX + 1))
 else
 some (.inr (.inr false)))
 else
 some (.inr (.inr false)))
 else
 some (.inr (.inr false)))
 else
 some (.inr (.inr false)))
 else
 some (.inr (.inr false)))
 else
 some (.inl ()))
 ) = some o) (ih : ∀ a0 oX o, gd a0 oX = some o → motive a0 oX o), motive a0 oX o) : ∀ a0 oX o, eC a0 oX o → motive a0 oX o :=
 fun a0 oX o h => eC.rec (motive := fun a0 oX o _ => motive a0 oX o) step h
inductive dm : (List ae) → Int → ((Unit) ⊕ Bool) → Prop
 | mk (G72 : ae → Option (Bool)) (apW : ∀ a0 r, G72 a0 = some r → EZ a0 r) (er : (List ae) → Int → Option ((Unit) ⊕ Bool)) (rj : ∀ a0 iY o, er a0 iY = some o → dm a0 iY o) (a0 : List ae) (iY : Int) (o : (Unit) ⊕ Bool) (h : (
 (if iY < (a0.length : Int) then
 idx a0 iY >>= fun ri =>
 G72 ri >>= fun v183 =>
 (if v183 = true then
 er a0 (aS (iY + 1))
 else
 some (.inr false))
 else
 some (.inl ()))
 ) = some o) : dm a0 iY o
theorem qu {motive : (List ae) → Int → ((Unit) ⊕ Bool) → Prop} (step : ∀ (G72 : ae → Option (Bool)) (apW : ∀ a0 r, G72 a0 = some r → EZ a0 r) (er : (List ae) → Int → Option ((Unit) ⊕ Bool)) (rj : ∀ a0 iY o, er a0 iY = some o → dm a0 iY o) (a0 : List ae) (iY : Int) (o : (Unit) ⊕ Bool) (h : (
 (if iY < (a0.length : Int) then
 idx a0 iY >>= fun ri =>
 G72 ri >>= fun v183 =>
 (if v183 = true then
 er a0 (aS (iY + 1))
 else
 some (.inr false))
 else
 some (.inl ()))
 ) = some o) (ih : ∀ a0 iY o, er a0 iY = some o → motive a0 iY o), motive a0 iY o) : ∀ a0 iY o, dm a0 iY o → motive a0 iY o :=
 fun a0 iY o h => dm.rec (motive := fun a0 iY o _ => motive a0 iY o) step h
inductive eD : ae → Int → ((Unit) ⊕ ((Unit) ⊕ Bool)) → Prop
 | mk (KS : ae → Option (Bool)) (aat : ∀ a0 r, KS a0 = some r → yL a0 r) (gf : ae → Int → Option ((Unit) ⊕ ((Unit) ⊕ Bool))) (tK : ∀ a0 iZ o, gf a0 iZ = some o → eD a0 iZ o) (a0 : ae) (iZ : Int) (o : (Unit) ⊕ ((Unit) ⊕ Bool)) (h : (
 (if iZ < (a0.ah.length : Int) then
 idx a0.ah iZ >>= fun qV =>
 KS qV >>= fun Gu =>
 (if Gu = true then
 gf a0 (aS (iZ + 1))
 else
 some (.inr (.inr false)))
 else
 some (.inl ()))
 ) = some o) : eD a0 iZ o
theorem sq {motive : ae → Int → ((Unit) ⊕ ((Unit) ⊕ Bool)) → Prop} (step : ∀ (KS : ae → Option (Bool)) (aat : ∀ a0 r, KS a0 = some r → yL a0 r) (gf : ae → Int → Option ((Unit) ⊕ ((Unit) ⊕ Bool))) (tK : ∀ a0 iZ o, gf a0 iZ = some o → eD a0 iZ o) (a0 : ae) (iZ : Int) (o : (Unit) ⊕ ((Unit) ⊕ Bool)) (h : (
 (if iZ < (a0.ah.length : Int) then
 idx a0.ah iZ >>= fun qV =>
 KS qV >>= fun Gu =>
 (if Gu = true then
 gf a0 (aS (iZ + 1))
 else
 some (.inr (.inr false)))
 else
 some (.inl ()))
 ) = some o) (ih : ∀ a0 iZ o, gf a0 iZ = some o → motive a0 iZ o), motive a0 iZ o) : ∀ a0 iZ o, eD a0 iZ o → motive a0 iZ o :=
 fun a0 iZ o h => eD.rec (motive := fun a0 iZ o _ => motive a0 iZ o) step h
inductive eF : (List ae) → Int → ((Unit) ⊕ Bool) → Prop
 | mk (KS : ae → Option (Bool)) (aat : ∀ a0 r, KS a0 = some r → yL a0 r) (gg : (List ae) → Int → Option ((Unit) ⊕ Bool)) (tL : ∀ a0 ja o, gg a0 ja = some o → eF a0 ja o) (a0 : List ae) (ja : Int) (o : (Unit) ⊕ Bool) (h : (
 (if ja < (a0.length : Int) then
 idx a0 ja >>= fun sj =>
 (if sj.ai = 48 then
 KS sj >>= fun Gv =>
 (if Gv = true then
 gg a0 (aS (ja + 1))
 else
 some (.inr false))
 else
 some (.inr false))
 else
 some (.inl ()))
 ) = some o) : eF a0 ja o
theorem sr {motive : (List ae) → Int → ((Unit) ⊕ Bool) → Prop} (step : ∀ (KS : ae → Option (Bool)) (aat : ∀ a0 r, KS a0 = some r → yL a0 r) (gg : (List ae) → Int → Option ((Unit) ⊕ Bool)) (tL : ∀ a0 ja o, gg a0 ja = some o → eF a0 ja o) (a0 : List ae) (ja : Int) (o : (Unit) ⊕ Bool) (h : (
 (if ja < (a0.length : Int) then
 idx a0 ja >>= fun sj =>
 (if sj.ai = 48 then
 KS sj >>= fun Gv =>
 (if Gv = true then
 gg a0 (aS (ja + 1))
 else
 some (.inr false))
 else
 some (.inr false))
 else
 some (.inl ()))
 ) = some o) (ih : ∀ a0 ja o, gg a0 ja = some o → motive a0 ja o), motive a0 ja o) : ∀ a0 ja o, eF a0 ja o → motive a0 ja o :=
 fun a0 ja o h => eF.rec (motive := fun a0 ja o _ => motive a0 ja o) step h
theorem mR : (∀ a0 r, bh a0 = some r → EZ a0 r) ∧ (∀ a0 a1 r, dY a0 a1 = some r → KN a0 a1 r) ∧ (∀ a0 r, bE a0 = some r → yL a0 r) ∧ (∀ a0 r, p9 a0 = some r → KP a0 r) ∧ (∀ a0 r, dM a0 = some r → KO a0 r) ∧ (∀ a0 ja o, jK a0 ja = some o → eF a0 ja o) ∧ (∀ a0 iZ o, jJ a0 iZ = some o → eD a0 iZ o) ∧ (∀ a0 r, nY a0 = some r → KQ a0 r) ∧ (∀ a0 r, bz a0 = some r → z7 a0 r) ∧ (∀ a0 iY o, iq a0 iY = some o → dm a0 iY o) ∧ (∀ a0 oX o, jI a0 oX = some o → eC a0 oX o) := by
 refine bh.mutual_partial_correctness EZ KN yL KP KO eF eD KQ z7 dm eC ?_ ?_ ?_ ?_ ?_ ?_ ?_ ?_ ?_ ?_ ?_
 intro _ _ _ aau jW apX a0 r h
 refine gq Tryz.func72 ?_
 refine .d (.d ⟨rfl, ⟨rfl, _, rfl, (.d ⟨rfl, ⟨rfl, _, rfl, (.d ⟨rfl, ⟨rfl, _, rfl, ?_⟩⟩)⟩⟩)⟩⟩)
 obtain ⟨o1, JW, gH⟩ := bd h
 replace h := JW
 refine .cut (fun σ η => .inl () = o1 ∧ σ = [] ∧ η = []) ?_ ?_
 refine .d ⟨rfl, ⟨rfl, _, rfl, (.d (sE h (fun Bb h => ?_) (fun Bb h => ?_)))⟩⟩
 refine .d ⟨rfl, ⟨rfl, _, rfl, (bk h fun v5 hv6 h => (aR (x6 hv6) (sV h (fun C9 h => ?_) (fun C9 h => ?_))))⟩⟩
 refine .t (sE h (fun Be h => ?_) (fun Be h => ?_))
 refine .t (.t ?_)
 exact aup
 refine .f (.f ?_)
 exact aup
 refine .f (.f (.f (.f ?_)))
 exact aup
 refine .d (sE h (fun C8 h => ?_) (fun C8 h => ?_))
 refine .d (sE h (fun mo h => ?_) (fun mo h => ?_))
 refine ⟨rfl, (.t ⟨rfl, _, rfl, (.t (.t (.t (sD h (fun rS h => ?_) (fun rS h => ?_)))))⟩)⟩
 refine .t (.t ?_)
 exact aup
 refine .f (.f ?_)
 exact aup
 refine .f (.f (.f (.f (.f (.f (.f ?_))))))
 exact aup
 refine .d (sE h (fun oO h => ?_) (fun oO h => ?_))
 refine .d ⟨rfl, ⟨rfl, _, rfl, (bk h fun o9 qL h => (aR (x6 qL) (sV h (fun lI h => ?_) (fun lI h => ?_))))⟩⟩
 refine .t (sE h (fun oN h => ?_) (fun oN h => ?_))
 refine .t (.t ?_)
 exact aup
 refine .f (.f ?_)
 exact aup
 refine .f (.f (.f (.f ?_)))
 exact aup
 refine .d (sE h (fun rX h => ?_) (fun rX h => ?_))
 refine .d ⟨rfl, _, rfl, (bk h fun KG aav h => (aR (kR aav) ?_))⟩
 exact aup
 refine .d (sE h (fun uZ h => ?_) (fun uZ h => ?_))
 obtain ⟨o21, apY, Gw⟩ := bd h
 replace h := apY
 refine .cut (fun σ η => .inl () = o21 ∧ σ = [(4, .bool (a0.aC == 0)), (5, .bool (a0.aj == ([] : aq)))] ∧ η = []) ?_ ?_
 refine .d ⟨rfl, ⟨rfl, _, rfl, ?_⟩⟩
 have apZ := apX _ _ _ h
 refine le (sn (motive := fun p48 oX o46 => a0 = p48 → o21 = o46 → aG _ _ [(4, .bool (a0.aC == 0)), (5, .bool (a0.aj == ([] : aq))), (63, sl 4 ae.cells a0.ah), (64, .int .i64 (a0.ah.length : Int)), (65, .int .i64 oX)] []) ?_ a0 0 o21 apZ rfl rfl) (tk [] ⟨.b, .b, .l, .i, .i, ⟨⟩⟩ ⟨⟩)
 intro _ ap0 _ _ p48 oX o46 h ap1  aaw ap2
 subst aaw
 subst ap2
 refine aG.round (.d (.d (sD h (fun wc h => ?_) (fun wc h => ?_))))
 refine .d (.d (bk h fun wx J1 h => ⟨aA J1, _, (ax J1).trans (ae.au wx), ⟨rfl, _, fun _ => [.int .i64 wx.ai, .int .i64 wx.aC, .str wx.aj, sl 4 ae.cells wx.ah], rfl, bI rfl, (.d ⟨rfl, ⟨rfl, _, rfl, (sN h (fun zL h => ?_) (fun zL h => ?_))⟩⟩)⟩⟩))
 refine .t (.t (.t (.t (.t (.t (.t (.t (.t (.t (.t (.t (.t (.t (.t ?_))))))))))))))
 refine .t (.t (.t (.t (.d ?_))))
 obtain rfl := si h
 replace h := Gw
 exact aup
 refine ⟨rfl, (.f ⟨rfl, _, rfl, (.f (.f (sN h (fun zQ h => ?_) (fun zQ h => ?_))))⟩)⟩
 refine .t (.t (.t (.t (.t (.t (.t (.t (.t (.t (.t (.t (.t (.t (.t ?_))))))))))))))
 refine .d ?_
 obtain rfl := si h
 replace h := Gw
 exact aup
 refine ⟨rfl, (.f ⟨rfl, _, rfl, (.f (.f (Pd h (fun wh h => ?_) (fun wh h => ?_))))⟩)⟩
 refine .t (.t (.t (.t (.t (.t (.t (.t (.t (.t (.t (.d ?_)))))))))))
 obtain rfl := si h
 replace h := Gw
 exact aup
 refine ⟨rfl, (.f ⟨rfl, _, rfl, (.f (.f (bk h fun v40 KT h => (aR (x6 KT) (.f (.f (jV h (fun KU h => ?_) (fun KU h => ?_))))))))⟩)⟩
 refine .t (.t (.t (.t (.t (.d ?_)))))
 obtain rfl := si h
 replace h := Gw
 exact aup
 refine ⟨rfl, (.f ⟨rfl, _, rfl, (.f (bk h fun PE aax h => (aR (ap0 _ _ aax) (.f (.f (jV h (fun aay h => ?_) (fun aay h => ?_)))))))⟩)⟩
 refine .d ?_
 obtain rfl := si h
 replace h := Gw
 exact aup
 exact lg (ap1 _ _ _ h rfl rfl) (tk [] ⟨.b, .b, .l, .i, .i, ⟨⟩⟩ ⟨⟩)
 exact ct ⟨si h, rfl, rfl⟩ (tk [] ⟨.b, .b, ⟨⟩⟩ ⟨⟩)
 rintro _ _ ⟨rfl, rfl, rfl⟩
 replace h := Gw
 refine .d (sE h (fun Jb h => ?_) (fun Jb h => ?_))
 refine .t ?_
 exact aup
 refine .f ?_
 exact aup
 obtain ⟨o53, ap3, ap4⟩ := bd h
 replace h := ap3
 refine .cut (fun σ η => ∃ b52, b52 = o53 ∧ σ = [(1, .aL 0 0 0 0), (3, .int .i64 (a0.ah.length : Int)), (4, .bool (a0.aC == 0)), (5, .bool (a0.aj == ([] : aq))), (18, .int .i64 a0.ai), (100, .bool b52)] ∧ η = [.row 0 4 1 29 (fun _ => a0.lit)]) ?_ ?_
 refine .d (sE h (fun aaz h => ?_) (fun aaz h => ?_))
 exact auN
 refine .d (sE h (fun ap5 h => ?_) (fun ap5 h => ?_))
 exact auN
 refine .d (sE h (fun aaA h => ?_) (fun aaA h => ?_))
 exact auN
 exact auN
 rintro _ _ ⟨b52, rfl, rfl, rfl⟩
 replace h := ap4
 refine sV h (fun ap6 h => ?_) (fun ap6 h => ?_)
 refine .d (sE h (fun ap7 h => ?_) (fun ap7 h => ?_))
 refine .t (sE h (fun Jd h => ?_) (fun Jd h => ?_))
 refine .t (.t (sE h (fun Je h => ?_) (fun Je h => ?_)))
 refine ⟨rfl, (.t ⟨rfl, _, rfl, (.t (bk h fun KH KV h => (aR (jW _ _ KV) (.t ?_))))⟩)⟩
 exact aup
 refine .f (.f (.f ?_))
 exact aup
 refine .f (.f (.f (.f (.f (.f ?_)))))
 exact aup
 refine .f (.f (.f (.f (.f (.f (.f (.f ?_)))))))
 exact aup
 refine .d (sE h (fun Jf h => ?_) (fun Jf h => ?_))
 refine .d (sE h (fun Xw h => ?_) (fun Xw h => ?_))
 refine ⟨rfl, (.t ⟨rfl, _, rfl, (.t (bk h fun v67 Xx h => (aR (bQ Xx) (.t (sV h (fun Xy h => ?_) (fun Xy h => ?_))))))⟩)⟩
 refine .t (.t (sE h (fun Jg h => ?_) (fun Jg h => ?_)))
 refine ⟨rfl, (.t ⟨rfl, _, rfl, (.t (bk h fun v71 Xz h => (aR (jW _ _ Xz) (.t ?_))))⟩)⟩
 exact aup
 refine .f (.f (.f ?_))
 exact aup
 refine .f (.f (.f (.f (.f (.f ?_)))))
 exact aup
 refine .f (.f (.f (.f (.f (.f (.f (.f (.f (.f ?_)))))))))
 exact aup
 refine .d (sE h (fun aaB h => ?_) (fun aaB h => ?_))
 refine .d ⟨rfl, ⟨rfl, _, rfl, (sE h (fun aaC h => ?_) (fun aaC h => ?_))⟩⟩
 refine .t (.t (.t (.t (.t (sE h (fun ap8 h => ?_) (fun ap8 h => ?_))))))
 refine .t (.t (sE h (fun ap9 h => ?_) (fun ap9 h => ?_)))
 refine ⟨rfl, (.t ⟨rfl, _, rfl, (.t (bk h fun v77 aqa h => (aR (jW _ _ aqa) (.t ?_))))⟩)⟩
 exact aup
 refine .f (.f (.f ?_))
 exact aup
 refine .f (.f (.f (.f (.f (.f ?_)))))
 exact aup
 refine ⟨rfl, (.f ⟨rfl, _, rfl, (.f (.f (sE h (fun XB h => ?_) (fun XB h => ?_))))⟩)⟩
 refine .t (sE h (fun aqb h => ?_) (fun aqb h => ?_))
 refine .t (.t (sE h (fun Z5 h => ?_) (fun Z5 h => ?_)))
 refine ⟨rfl, (.t ⟨rfl, _, rfl, (.t (bk h fun R6 Jh h => (aR (jW _ _ Jh) (.t ?_))))⟩)⟩
 exact aup
 refine .f (.f (.f ?_))
 exact aup
 refine .f (.f (.f (.f (.f (.f ?_)))))
 exact aup
 refine .f (.f (.f (.f (.f (.f (.f (.f ?_)))))))
 exact aup
 refine .d (sE h (fun XC h => ?_) (fun XC h => ?_))
 refine .d ⟨rfl, ⟨rfl, _, rfl, (bk h fun v85 XD h => (aR (x6 XD) (sV h (fun XE h => ?_) (fun XE h => ?_))))⟩⟩
 refine .t (sE h (fun XF h => ?_) (fun XF h => ?_))
 refine .t (.t (sE h (fun aaD h => ?_) (fun aaD h => ?_)))
 refine ⟨rfl, (.t ⟨rfl, _, rfl, (.t (bk h fun v90 aaE h => (aR (jW _ _ aaE) (.t ?_))))⟩)⟩
 exact aup
 refine .f (.f (.f ?_))
 exact aup
 refine .f (.f (.f (.f (.f (.f ?_)))))
 exact aup
 refine .f (.f (.f (.f (.f (.f (.f (.f ?_)))))))
 exact aup
 refine .d (sE h (fun aqc h => ?_) (fun aqc h => ?_))
 refine .d (sE h (fun aqd h => ?_) (fun aqd h => ?_))
 refine .t (sE h (fun aqe h => ?_) (fun aqe h => ?_))
 refine .t (.t (sE h (fun Z6 h => ?_) (fun Z6 h => ?_)))
 refine ⟨rfl, (.t ⟨rfl, _, rfl, (.t (bk h fun v96 aqf h => (aR (jW _ _ aqf) (.t ?_))))⟩)⟩
 exact aup
 refine .f (.f (.f ?_))
 exact aup
 refine .f (.f (.f (.f (.f (.f ?_)))))
 exact aup
 refine .f (.f (.f (.f (.f (.f (.f (.f ?_)))))))
 exact aup
 obtain ⟨o99, ah2, ah3⟩ := bd h
 replace h := ah2
 refine .cut (fun σ η => ∃ b98, b98 = o99 ∧ σ = [(1, .aL 0 0 0 0), (3, .int .i64 (a0.ah.length : Int)), (4, .bool (a0.aC == 0)), (5, .bool (a0.aj == ([] : aq))), (18, .int .i64 a0.ai), (189, .bool b98)] ∧ η = [.row 0 4 1 29 (fun _ => a0.lit)]) ?_ ?_
 refine .d (sE h (fun Jj h => ?_) (fun Jj h => ?_))
 exact auN
 exact auN
 rintro _ _ ⟨b98, rfl, rfl, rfl⟩
 replace h := ah3
 refine sV h (fun ah4 h => ?_) (fun ah4 h => ?_)
 refine .d (sE h (fun Kj h => ?_) (fun Kj h => ?_))
 refine .t (sE h (fun KW h => ?_) (fun KW h => ?_))
 refine .t (.t (sE h (fun ah5 h => ?_) (fun ah5 h => ?_)))
 refine ⟨rfl, (.t ⟨rfl, _, rfl, (.t (bk h fun v107 Kk h => (aR (jW _ _ Kk) (.t (sV h (fun Bn h => ?_) (fun Bn h => ?_))))))⟩)⟩
 refine ⟨rfl, (.t ⟨rfl, _, rfl, (.t (bk h fun aag US h => ⟨aA US, _, (ax US).trans (ae.au aag), (.t (.t (bk h fun IK Jk h => (aR (qC Jk) (.t ?_)))))⟩))⟩)⟩
 exact aup
 refine .f (.f (.f (.f (.f ?_))))
 exact aup
 refine .f (.f (.f (.f (.f (.f (.f (.f (.f ?_))))))))
 exact aup
 refine .f (.f (.f (.f (.f (.f (.f (.f (.f (.f (.f (.f ?_)))))))))))
 exact aup
 refine .f (.f (.f (.f (.f (.f (.f (.f (.f (.f (.f (.f (.f (.f ?_)))))))))))))
 exact aup
 refine .d (sE h (fun Jl h => ?_) (fun Jl h => ?_))
 refine .d (sE h (fun ah6 h => ?_) (fun ah6 h => ?_))
 refine ⟨rfl, (.t ⟨rfl, _, rfl, (.t (bk h fun ahH ah7 h => (aR (bQ ah7) (.t (sV h (fun ah8 h => ?_) (fun ah8 h => ?_))))))⟩)⟩
 refine .t (.t (sE h (fun ah9 h => ?_) (fun ah9 h => ?_)))
 refine ⟨rfl, (.t ⟨rfl, _, rfl, (.t (bk h fun aah UT h => ⟨aA UT, _, (ax UT).trans (ae.au aah), (.t (.t (bk h fun ahI aia h => (aR (kR aia) (.t ?_)))))⟩))⟩)⟩
 exact aup
 refine .f (.f (.f (.f (.f ?_))))
 exact aup
 refine .f (.f (.f (.f (.f (.f (.f (.f ?_)))))))
 exact aup
 refine .f (.f (.f (.f (.f (.f (.f (.f (.f (.f (.f (.f ?_)))))))))))
 exact aup
 refine .d (sE h (fun aib h => ?_) (fun aib h => ?_))
 refine .d (sE h (fun aic h => ?_) (fun aic h => ?_))
 refine ⟨rfl, (.t ⟨rfl, _, rfl, (.t (bk h fun ahJ aid h => (aR (bQ aid) (.t (sV h (fun JT h => ?_) (fun JT h => ?_))))))⟩)⟩
 refine ⟨rfl, (.t ⟨rfl, _, rfl, (.t (bk h fun J2 Km h => (aR (jW _ _ Km) (.t ?_))))⟩)⟩
 exact aup
 refine .f (.f (.f ?_))
 exact aup
 refine .f (.f (.f (.f (.f (.f (.f ?_))))))
 exact aup
 refine .d (sE h (fun aie h => ?_) (fun aie h => ?_))
 refine .d (sE h (fun aif h => ?_) (fun aif h => ?_))
 refine .t (sE h (fun JV h => ?_) (fun JV h => ?_))
 refine .t (.t (sD h (fun KX h => ?_) (fun KX h => ?_)))
 refine ⟨rfl, (.t ⟨rfl, _, rfl, (.t (bk h fun ahK aih h => (aR (jW _ _ aih) (.t ?_))))⟩)⟩
 exact aup
 refine .f (.f (.f ?_))
 exact aup
 refine .f (.f (.f (.f (.f (.f ?_)))))
 exact aup
 refine .f (.f (.f (.f (.f (.f (.f (.f ?_)))))))
 exact aup
 refine .d (sE h (fun Kn h => ?_) (fun Kn h => ?_))
 refine .d (sE h (fun aii h => ?_) (fun aii h => ?_))
 refine ⟨rfl, (.t ⟨rfl, _, rfl, (.t (bk h fun v139 aij h => (aR (bQ aij) (.t (sV h (fun aik h => ?_) (fun aik h => ?_))))))⟩)⟩
 refine .t (.t (sD h (fun ail h => ?_) (fun ail h => ?_)))
 refine ⟨rfl, (.t ⟨rfl, _, rfl, (.t (bk h fun v143 aim h => (aR (jW _ _ aim) (.t ?_))))⟩)⟩
 exact aup
 refine .f (.f (.f ?_))
 exact aup
 refine .f (.f (.f (.f (.f (.f ?_)))))
 exact aup
 refine .f (.f (.f (.f (.f (.f (.f (.f (.f (.f ?_)))))))))
 exact aup
 refine .d (sE h (fun KY h => ?_) (fun KY h => ?_))
 refine .d (sE h (fun Bo h => ?_) (fun Bo h => ?_))
 refine ⟨rfl, (.t ⟨rfl, _, rfl, (.t (bk h fun BV KZ h => (aR (xZ KZ) (.t (sV h (fun ain h => ?_) (fun ain h => ?_))))))⟩)⟩
 refine ⟨rfl, (.t ⟨rfl, _, rfl, (.t (bk h fun ahL aio h => (aR (jW _ _ aio) (.t ?_))))⟩)⟩
 exact aup
 refine .f (.f (.f ?_))
 exact aup
 refine .f (.f (.f (.f (.f (.f (.f ?_))))))
 exact aup
 refine .d (sE h (fun Ko h => ?_) (fun Ko h => ?_))
 refine .d (sE h (fun Jo h => ?_) (fun Jo h => ?_))
 refine ⟨rfl, (.t ⟨rfl, _, rfl, (.t (.t (sE h (fun Bp h => ?_) (fun Bp h => ?_))))⟩)⟩
 refine .t (.t (.t (.t (.t (.t ⟨rfl, (.t ⟨rfl, _, rfl, (.t (bk h fun wm BF h => (aR (jW _ _ BF) (.t ?_))))⟩)⟩)))))
 exact aup
 refine ⟨rfl, (.f ⟨rfl, _, rfl, (.f (bk h fun v157 aip h => (aR (bQ aip) (.t (.f (.t (sV h (fun Kp h => ?_) (fun Kp h => ?_))))))))⟩)⟩
 refine ⟨rfl, (.t ⟨rfl, _, rfl, (.t (bk h fun v160 aiq h => (aR (jW _ _ aiq) (.t ?_))))⟩)⟩
 exact aup
 refine .f (.f (.f ?_))
 exact aup
 refine .f (.f (.f (.f (.f (.f (.f (.f (.f ?_))))))))
 exact aup
 refine .d (sE h (fun Bq h => ?_) (fun Bq h => ?_))
 refine .d (sE h (fun Jq h => ?_) (fun Jq h => ?_))
 refine .t (sE h (fun Jr h => ?_) (fun Jr h => ?_))
 refine ⟨rfl, (.t ⟨rfl, _, rfl, (.t (bk h fun vX Br h => (aR (aau _ _ _ Br) (.t ?_))))⟩)⟩
 exact aup
 refine .f (.f (.f ?_))
 exact aup
 refine .f (.f (.f (.f (.f ?_))))
 exact aup
 exact auK
 exact auD
 intro _ air a0 a1 r h
 refine gq Tryz.func134 ?_
 refine .d (.d (.d (.d (sD h (fun ais h => ?_) (fun ais h => ?_)))))
 refine .t (.t (.t (.t (.t (.t (.t (.t (.t (.t (.t (.t (.t (.t (.d ?_))))))))))))))
 exact eB h
 refine .f (.f (bk h fun aai UU h => ⟨aA UU, _, (ax UU).trans (ae.au aai), (.f (.f (.f (.f (sN h (fun ait h => ?_) (fun ait h => ?_))))))⟩))
 exact .t (.t (.t (.t (.t (.t (.t (.d (eB h))))))))
 refine .f (.f (bk h fun aaj UW h => ⟨aA UW, _, (ax UW).trans (ae.au aaj), (.f (.f (bk h fun J3 Kq h => (aR (air _ _ Kq) (.f (.f (jV h (fun aiu h => ?_) (fun aiu h => ?_))))))))⟩))
 exact auL
 refine .d ?_
 obtain ⟨KJ, aiv, uG⟩ := bd h
 replace h := aiv
 refine .cut (fun σ η => .inl () = KJ ∧ σ = [] ∧ η = []) ?_ ?_
 refine .d (bk h fun tH yC h => ⟨trivial, zM yC, tH.length, row ae.cells tH, vz yC, zN yC, ?_⟩)
 refine le (gu.partial_correctness a1 tH (motive := fun DD DE aiw => KJ = aiw → aG _ _ [(1, .bool a1), (6, .bool DD), (32, sl 4 ae.cells tH), (33, .int .i64 (tH.length : Int)), (34, .int .i64 DE)] []) ?_ false 0 KJ h rfl) (tk [] ⟨.b, .b, .l, .i, .i, ⟨⟩⟩ ⟨⟩)
 intro asv aix DD DE aiw h aiy
 subst aiy
 refine aG.round (.d (.d (sD h (fun aiz h => ?_) (fun aiz h => ?_))))
 refine .d (.d (bk h fun tI UX h => ⟨aA UX, _, (ax UX).trans (ae.au tI), ⟨rfl, _, fun _ => [.int .i64 tI.ai, .int .i64 tI.aC, .str tI.aj, sl 4 ae.cells tI.ah], rfl, bI rfl, ?_⟩⟩))
 obtain ⟨aaf, aiA, BZ⟩ := bd h
 replace h := aiA
 refine .cut (fun σ η => ∃ KF, .inl KF = aaf ∧ σ = [(1, .bool a1), (6, .bool KF), (8, .aL 0 0 0 0), (32, sl 4 ae.cells tH), (33, .int .i64 (tH.length : Int)), (34, .int .i64 DE)] ∧ η = [.row 0 4 1 29 (fun _ => tI.lit)]) ?_ ?_
 refine .d ⟨rfl, ⟨rfl, _, rfl, (sE h (fun Ju h => ?_) (fun Ju h => ?_))⟩⟩
 refine .t (sV h (fun Jv h => ?_) (fun Jv h => ?_))
 exact auV
 refine .d ⟨rfl, ⟨rfl, _, rfl, (sN h (fun aiB h => ?_) (fun aiB h => ?_))⟩⟩
 refine .t (.t (.d ?_))
 obtain rfl := si h
 replace h := BZ
 exact auA
 refine .f (sV h (fun aiC h => ?_) (fun aiC h => ?_))
 refine .d ?_
 obtain rfl := si h
 replace h := BZ
 exact auA
 exact auV
 refine .f (.f (.d ⟨rfl, ⟨rfl, _, rfl, (sN h (fun aiD h => ?_) (fun aiD h => ?_))⟩⟩))
 refine .t (.t (.d ?_))
 obtain rfl := si h
 replace h := BZ
 exact auA
 refine .f (sV h (fun aiE h => ?_) (fun aiE h => ?_))
 refine .d ?_
 obtain rfl := si h
 replace h := BZ
 exact auA
 exact auV
 rintro _ _ ⟨KF, rfl, rfl, rfl⟩
 replace h := BZ
 refine .d ⟨rfl, ⟨rfl, _, rfl, (bk h fun v222 aiF h => (aR (x6 aiF) (jV h (fun aiG h => ?_) (fun aiG h => ?_))))⟩⟩
 refine .t (.t (.t (.t (.t (.t (.t (.t (.t (.t (.d ?_))))))))))
 exact auA
 refine ⟨rfl, (.f ⟨rfl, _, rfl, (.f (bk h fun ahG aiH h => (aR (bQ aiH) (.f (.f (jV h (fun Jw h => ?_) (fun Jw h => ?_)))))))⟩)⟩
 refine .t (.t (.t (.t (.t (.d ?_)))))
 exact auA
 refine ⟨rfl, (.f ⟨rfl, _, rfl, (.f (.f (.f (sD h (fun Jx h => ?_) (fun Jx h => ?_)))))⟩)⟩
 refine .d ?_
 exact auA
 exact lg (aix _ _ _ h rfl) (tk [] ⟨.b, .b, .l, .i, .i, ⟨⟩⟩ ⟨⟩)
 exact auK
 rintro _ _ ⟨rfl, rfl, rfl⟩
 replace h := uG
 exact auL
 intro _ _ _ _ _ _ uH aaF pg aiI aaG jW a0 r h
 refine gq Tryz.func68 ?_
 refine .d (.d ⟨rfl, ⟨rfl, _, rfl, (.d ⟨rfl, ⟨rfl, _, rfl, (.d (.d ⟨rfl, ⟨rfl, _, rfl, (sN h (fun aiJ h => ?_) (fun aiJ h => ?_))⟩⟩))⟩⟩)⟩⟩)
 exact auL
 obtain ⟨aar, aiK, cG⟩ := bd h
 replace h := aiK
 refine .cut (fun σ η => .inl () = aar ∧ σ = [] ∧ η = []) ?_ ?_
 refine .d ⟨rfl, ⟨rfl, _, rfl, (.d (sE h (fun Jy h => ?_) (fun Jy h => ?_)))⟩⟩
 refine .d (Pd h (fun Jz h => ?_) (fun Jz h => ?_))
 refine ⟨rfl, (.t ⟨rfl, _, rfl, (.t (bk h fun ahM aiL h => (aR (rh aiL) (.t (.t (jV h (fun aiM h => ?_) (fun aiM h => ?_)))))))⟩)⟩
 refine .t (.t ?_)
 exact auq
 refine .f (.f ?_)
 exact auq
 refine .f (.f (.f (.f (.f (.f (.f ?_))))))
 exact auq
 obtain ⟨aqg, aiN, aiO⟩ := bd h
 replace h := aiN
 refine .cut (fun σ η => ∃ KK, KK = aqg ∧ σ = [(1, .aL 0 0 0 0), (3, .int .i64 (a0.ah.length : Int)), (4, .bool (a0.aj == ([] : aq))), (17, .int .i64 a0.ai), (32, .bool KK)] ∧ η = [.row 0 4 1 29 (fun _ => a0.lit)]) ?_ ?_
 refine .d (sE h (fun aiP h => ?_) (fun aiP h => ?_))
 exact auQ
 refine .d (sE h (fun K0 h => ?_) (fun K0 h => ?_))
 exact auQ
 exact auQ
 rintro _ _ ⟨KK, rfl, rfl, rfl⟩
 replace h := aiO
 refine sV h (fun JA h => ?_) (fun JA h => ?_)
 refine .d (sE h (fun JB h => ?_) (fun JB h => ?_))
 refine .t (.t (sE h (fun K1 h => ?_) (fun K1 h => ?_)))
 refine ⟨rfl, (.t ⟨rfl, _, rfl, (.t (bk h fun aak UY h => ⟨aA UY, _, (ax UY).trans (ae.au aak), (.t (.t (bk h fun ahN aiQ h => (aR (uH _ _ aiQ) (.t ?_)))))⟩))⟩)⟩
 exact auq
 refine .f (.f (.f (.f (.f ?_))))
 exact auq
 refine .f (.f (.f (.f (.f (.f (.f (.f ?_)))))))
 exact auq
 refine .d (sE h (fun aiR h => ?_) (fun aiR h => ?_))
 refine .d (sE h (fun KB h => ?_) (fun KB h => ?_))
 refine .t (bk h fun IW JC h => (aR (x6 JC) (.t (sV h (fun JD h => ?_) (fun JD h => ?_)))))
 refine ⟨rfl, (.t ⟨rfl, _, rfl, (.t (bk h fun wo BR h => ⟨aA BR, _, (ax BR).trans (ae.au wo), (.t (.t (bk h fun zV KC h => (aR (uH _ _ KC) (.t (sV h (fun aiS h => ?_) (fun aiS h => ?_)))))))⟩))⟩)⟩
 refine ⟨rfl, (.t ⟨rfl, _, rfl, (.t (bk h fun Pv K2 h => ⟨trivial, ir K2, Pv.length, row ae.cells Pv, gh K2, gl K2, (.t (bk h fun ahO aiT h => (aR (pg _ _ aiT) (.t ?_))))⟩))⟩)⟩
 exact auq
 refine .f (.f (.f (.f ?_)))
 exact auq
 refine .f (.f (.f (.f (.f (.f (.f (.f (.f (.f ?_)))))))))
 exact auq
 refine .f (.f (.f (.f (.f (.f (.f (.f (.f (.f (.f (.f (.f ?_))))))))))))
 exact auq
 refine .d (sE h (fun aiU h => ?_) (fun aiU h => ?_))
 refine .d (sE h (fun aiV h => ?_) (fun aiV h => ?_))
 refine .t (.t (sE h (fun aiW h => ?_) (fun aiW h => ?_)))
 refine ⟨rfl, (.t ⟨rfl, _, rfl, (.t (bk h fun aal UZ h => ⟨aA UZ, _, (ax UZ).trans (ae.au aal), (.t (.t (bk h fun ahP aiX h => (aR (uH _ _ aiX) (.t (sV h (fun aiY h => ?_) (fun aiY h => ?_)))))))⟩))⟩)⟩
 refine ⟨rfl, (.t ⟨rfl, _, rfl, (.t (bk h fun Pw K3 h => ⟨trivial, ir K3, Pw.length, row ae.cells Pw, gh K3, gl K3, (.t (bk h fun ahQ aiZ h => (aR (pg _ _ aiZ) (.t ?_))))⟩))⟩)⟩
 exact auq
 refine .f (.f (.f (.f ?_)))
 exact auq
 refine .f (.f (.f (.f (.f (.f (.f (.f (.f (.f ?_)))))))))
 exact auq
 refine .f (.f (.f (.f (.f (.f (.f (.f (.f (.f (.f (.f (.f ?_))))))))))))
 exact auq
 refine .d (sE h (fun ai0 h => ?_) (fun ai0 h => ?_))
 refine .d (sE h (fun ai1 h => ?_) (fun ai1 h => ?_))
 refine .t (bk h fun ahR ai2 h => (aR (x6 ai2) (.t (sV h (fun ai3 h => ?_) (fun ai3 h => ?_)))))
 refine ⟨rfl, (.t ⟨rfl, _, rfl, (.t (bk h fun aam U0 h => ⟨aA U0, _, (ax U0).trans (ae.au aam), (.t (.t (bk h fun ahS ai4 h => (aR (uH _ _ ai4) (.t (sV h (fun ai5 h => ?_) (fun ai5 h => ?_)))))))⟩))⟩)⟩
 refine ⟨rfl, (.t ⟨rfl, _, rfl, (.t (bk h fun aan U1 h => ⟨aA U1, _, (ax U1).trans (ae.au aan), (.t (.t (bk h fun ahT ai6 h => (aR (kR ai6) (.t (sV h (fun ai7 h => ?_) (fun ai7 h => ?_)))))))⟩))⟩)⟩
 refine .t (.t (sE h (fun Bv h => ?_) (fun Bv h => ?_)))
 refine .t (.t (.t (.t (.t (.t (.t (.t ⟨rfl, (.t ⟨rfl, _, rfl, (.t (.t (.t (bk h fun Px rY h => ?_))))⟩)⟩)))))))
 refine ⟨trivial, ir rY, Px.length, row ae.cells Px, gh rY, gl rY, (.t (bk h fun ahU ai8 h => (aR (pg _ _ ai8) (.t ?_))))⟩
 exact auq
 refine ⟨rfl, (.f ⟨rfl, _, rfl, (.f (bk h fun aao U2 h => ⟨aA U2, _, (ax U2).trans (ae.au aao), (.f (.f (bk h fun ahV ai9 h => (aR (kR ai9) (.t (.f (.t (sV h (fun aja h => ?_) (fun aja h => ?_)))))))))⟩))⟩)⟩
 refine ⟨rfl, (.t ⟨rfl, _, rfl, (.t (.t (.t (bk h fun Py K4 h => ⟨trivial, ir K4, Py.length, row ae.cells Py, gh K4, gl K4, (.t (bk h fun I3 JH h => (aR (pg _ _ JH) (.t ?_))))⟩))))⟩)⟩
 exact auq
 refine .f (.f (.f (.f (.f (.f ?_)))))
 exact auq
 refine .f (.f (.f (.f (.f (.f (.f (.f (.f (.f (.f ?_))))))))))
 exact auq
 refine .f (.f (.f (.f (.f (.f (.f (.f (.f (.f (.f (.f (.f (.f (.f ?_))))))))))))))
 refine .f (.f ?_)
 exact auq
 refine .f (.f (.f (.f (.f (.f (.f (.f (.f (.f (.f (.f (.f (.f (.f ?_))))))))))))))
 refine .f (.f (.f (.f (.f (.f (.f (.f ?_)))))))
 exact auq
 refine .f (.f (.f (.f (.f (.f (.f (.f (.f (.f (.f (.f (.f (.f (.f ?_))))))))))))))
 refine .f (.f (.f (.f (.f (.f (.f (.f (.f (.f (.f ?_))))))))))
 exact auq
 obtain ⟨aqh, ajb, ajc⟩ := bd h
 replace h := ajb
 refine .cut (fun σ η => ∃ KL, KL = aqh ∧ σ = [(1, .aL 0 0 0 0), (3, .int .i64 (a0.ah.length : Int)), (4, .bool (a0.aj == ([] : aq))), (17, .int .i64 a0.ai), (128, .bool KL)] ∧ η = [.row 0 4 1 29 (fun _ => a0.lit)]) ?_ ?_
 refine .d (sE h (fun JI h => ?_) (fun JI h => ?_))
 exact auQ
 exact auQ
 rintro _ _ ⟨KL, rfl, rfl, rfl⟩
 replace h := ajc
 refine sV h (fun ajd h => ?_) (fun ajd h => ?_)
 refine .d (sE h (fun Kt h => ?_) (fun Kt h => ?_))
 refine .t (.t ?_)
 exact auq
 refine .f (.f ?_)
 exact auq
 refine .d (sE h (fun JJ h => ?_) (fun JJ h => ?_))
 refine .d (sE h (fun aje h => ?_) (fun aje h => ?_))
 refine .t (.t (sD h (fun ajf h => ?_) (fun ajf h => ?_)))
 refine ⟨rfl, (.t ⟨rfl, _, rfl, (.t (bk h fun ahW ajg h => (aR (jW _ _ ajg) (.t ?_))))⟩)⟩
 exact auq
 refine .f (.f (.f ?_))
 exact auq
 refine .f (.f (.f (.f (.f (.f ?_)))))
 exact auq
 refine .d (sE h (fun ajh h => ?_) (fun ajh h => ?_))
 refine .d ⟨rfl, ⟨rfl, _, rfl, (bk h fun BW K5 h => (aR (bQ K5) (sV h (fun aji h => ?_) (fun aji h => ?_))))⟩⟩
 refine .t (.t ?_)
 exact auq
 refine .f (.f ?_)
 exact auq
 refine .d (sE h (fun ajj h => ?_) (fun ajj h => ?_))
 refine .d (sE h (fun ajk h => ?_) (fun ajk h => ?_))
 refine .t (.t (sE h (fun JK h => ?_) (fun JK h => ?_)))
 refine ⟨rfl, (.t ⟨rfl, _, rfl, (.t (bk h fun Dq BH h => ⟨aA BH, _, (ax BH).trans (ae.au Dq), (.t (.t (bk h fun nW BI h => (aR (aaG _ _ BI) (.t ?_)))))⟩))⟩)⟩
 exact auq
 refine .f (.f (.f (.f (.f ?_))))
 exact auq
 refine .f (.f (.f (.f (.f (.f (.f (.f ?_)))))))
 exact auq
 refine .d (sE h (fun ajl h => ?_) (fun ajl h => ?_))
 refine .d (sE h (fun ajm h => ?_) (fun ajm h => ?_))
 refine .t (.t (sE h (fun Ku h => ?_) (fun Ku h => ?_)))
 refine .t (.t (.t (.t (.t (.t (.t ⟨rfl, (.t ⟨rfl, _, rfl, (.t (.t (.t (bk h fun aap BJ h => ⟨aA BJ, _, (ax BJ).trans (ae.au aap), ?_⟩))))⟩)⟩))))))
 refine .t (.t (bk h fun ahX ajn h => (aR (uH _ _ ajn) (.t ?_))))
 exact auq
 refine .f (.f (sE h (fun JL h => ?_) (fun JL h => ?_)))
 refine ⟨rfl, (.t ⟨rfl, _, rfl, (.t (bk h fun hI Bw h => ⟨aA Bw, _, (ax Bw).trans (ae.au hI), (.t (.t (bk h fun vY ajo h => (aR (kR ajo) (.f (.t (.t (.f (.t ?_)))))))))⟩))⟩)⟩
 refine sV h (fun K6 h => ?_) (fun K6 h => ?_)
 refine ⟨rfl, (.t ⟨rfl, _, rfl, (.t (.t (.t (bk h fun aaq U3 h => ⟨aA U3, _, (ax U3).trans (ae.au aaq), (.t (.t (bk h fun ahY ajp h => (aR (uH _ _ ajp) (.t ?_)))))⟩))))⟩)⟩
 exact auq
 refine .f (.f (.f (.f (.f (.f (.f ?_))))))
 exact auq
 refine .f (.f (.f (.f (.f (.f (.t (.f (.t (.f (.f (.f (.f (.f (.f ?_))))))))))))))
 refine .f (.f ?_)
 exact auq
 refine .f (.f (.f (.f (.f (.f (.f (.f (.f (.f (.f (.f ?_)))))))))))
 exact auq
 refine .d (sE h (fun JM h => ?_) (fun JM h => ?_))
 refine .d ⟨rfl, ⟨rfl, _, rfl, (sD h (fun JN h => ?_) (fun JN h => ?_))⟩⟩
 refine .t (.t ?_)
 exact auq
 refine .f (.f ?_)
 exact auq
 refine .d (sE h (fun JO h => ?_) (fun JO h => ?_))
 obtain ⟨BX, ajq, U4⟩ := bd h
 replace h := ajq
 refine .cut (fun σ η => .inl () = BX ∧ σ = [(4, .bool (a0.aj == ([] : aq)))] ∧ η = []) ?_ ?_
 refine .d ⟨rfl, ⟨rfl, _, rfl, ?_⟩⟩
 have ajr := aiI _ _ _ h
 refine le (sq (motive := fun ajs iZ ajt => a0 = ajs → BX = ajt → aG _ _ [(4, .bool (a0.aj == ([] : aq))), (211, sl 4 ae.cells a0.ah), (212, .int .i64 (a0.ah.length : Int)), (213, .int .i64 iZ)] []) ?_ a0 0 BX ajr rfl rfl) (tk [] ⟨.b, .l, .i, .i, ⟨⟩⟩ ⟨⟩)
 intro _ aju _ _ ajs iZ ajt h ajv  PF ajw
 subst PF
 subst ajw
 refine aG.round (.d (.d (sD h (fun ajx h => ?_) (fun ajx h => ?_))))
 refine .d (.d (bk h fun qV BK h => ⟨aA BK, _, (ax BK).trans (ae.au qV), ⟨rfl, _, fun _ => [.int .i64 qV.ai, .int .i64 qV.aC, .str qV.aj, sl 4 ae.cells qV.ah], rfl, bI rfl, (.d ⟨rfl, _, rfl, (bk h fun Gu ajy h => (aR (aju _ _ ajy) (jV h (fun JQ h => ?_) (fun JQ h => ?_))))⟩)⟩⟩))
 refine .d ?_
 obtain rfl := si h
 replace h := U4
 exact auq
 exact lg (ajv _ _ _ h rfl rfl) (tk [] ⟨.b, .l, .i, .i, ⟨⟩⟩ ⟨⟩)
 exact ct ⟨si h, rfl, rfl⟩ (tk [] ⟨.b, ⟨⟩⟩ ⟨⟩)
 rintro _ _ ⟨rfl, rfl, rfl⟩
 replace h := U4
 refine .d ?_
 exact auq
 refine .d (sE h (fun JR h => ?_) (fun JR h => ?_))
 refine .d (sE h (fun JS h => ?_) (fun JS h => ?_))
 refine ⟨rfl, (.t ⟨rfl, _, rfl, (.t (bk h fun ahZ ajz h => (aR (aaF _ _ ajz) (.t ?_))))⟩)⟩
 exact auq
 refine .f (.f (.f ?_))
 exact auq
 exact auK
 rintro _ _ ⟨rfl, rfl, rfl⟩
 replace h := cG
 exact auL
 intro _ pg a0 r h
 refine gq Tryz.func141 ?_
 refine .d (.d (.d (sD h (fun ajA h => ?_) (fun ajA h => ?_))))
 exact .t (.t (.t (.t (.t (.d (eB h))))))
 refine .f (bk h fun Pz yJ h => ⟨trivial, zM yJ, Pz.length, row ae.cells Pz, vz yJ, zN yJ, (.f (bk h fun BY K7 h => (aR (pg _ _ K7) (.f (.f (jV h (fun ajB h => ?_) (fun ajB h => ?_)))))))⟩)
 exact auL
 refine .d (bk h fun Gr yK h => ⟨trivial, ir yK, Gr.length, row ae.cells Gr, gh yK, gl yK, ?_⟩)
 obtain ⟨aas, ajC, yM⟩ := bd h
 replace h := ajC
 refine .cut (fun σ η => ∃ DF, .inl DF = aas ∧ σ = [(3, sl 4 ae.cells DF)] ∧ η = []) ?_ ?_
 refine .d (bk h fun vd BM h => ⟨aA BM, _, (ax BM).trans (ae.au vd), ⟨rfl, _, fun _ => [.int .i64 vd.ai, .int .i64 vd.aC, .str vd.aj, sl 4 ae.cells vd.ah], rfl, bI rfl, (.d ⟨rfl, ⟨rfl, _, rfl, (sE h (fun K8 h => ?_) (fun K8 h => ?_))⟩⟩)⟩⟩)
 refine .d (.d ⟨rfl, ⟨rfl, _, rfl, (sN h (fun ajD h => ?_) (fun ajD h => ?_))⟩⟩)
 refine .t (.t (.t (.t (.t (.t (.t (.t (.t (.t (.t (.t (.t (.t (.t ?_))))))))))))))
 refine .t (.t (.t (.t (.t (.t (.t (.t (.d ?_))))))))
 exact auB
 refine ⟨rfl, (.f ⟨rfl, _, rfl, (.f (bk h fun PA ajE h => (aR (bQ ajE) (.f (.f (jV h (fun ajF h => ?_) (fun ajF h => ?_)))))))⟩)⟩
 refine .t (.t (.t (.t (.t (.t (.t (.t (.t (.t (.t (.t (.t (.t (.t ?_))))))))))))))
 refine .t (.t (.t (.d ?_)))
 exact auB
 refine ⟨rfl, (.f ⟨rfl, _, rfl, (.f (.f (.f (sN h (fun K9 h => ?_) (fun K9 h => ?_)))))⟩)⟩
 refine .t (.t (.t (.t (.t (.t (.t (.t (.t (.t (.t (.t (.t (.d ?_)))))))))))))
 exact auB
 refine ⟨rfl, (.f ⟨rfl, _, rfl, (.f (bk h fun z6 uF h => ⟨aA uF, _, (ax uF).trans (ae.au z6), (.f (.f (bk h fun x5 La h => (aR (kR La) (.f (.f (jV h (fun ajG h => ?_) (fun ajG h => ?_))))))))⟩))⟩)⟩
 refine .t (.t (.t (.t (.t (.t (.d ?_))))))
 exact auB
 refine ⟨rfl, (.f ⟨rfl, _, rfl, (.f (bk h fun Gs Lb h => ⟨trivial, ir Lb, Gs.length, row ae.cells Gs, gh Lb, gl Lb, (.f (bk h fun PB ajH h => (aR (pg _ _ ajH) (.f (.f (jV h (fun ajI h => ?_) (fun ajI h => ?_)))))))⟩))⟩)⟩
 refine .d ?_
 exact auB
 exact bk h fun PC Lc h => ⟨trivial, ir Lc, PC.length, row ae.cells PC, gh Lc, gl Lc, (ct ⟨_, si h, rfl, rfl⟩ (tk [] ⟨.l, ⟨⟩⟩ ⟨⟩))⟩
 exact ct ⟨_, si h, rfl, rfl⟩ (tk [] ⟨.l, ⟨⟩⟩ ⟨⟩)
 rintro _ _ ⟨DF, rfl, rfl, rfl⟩
 replace h := yM
 refine .d (.d (sE h (fun ajJ h => ?_) (fun ajJ h => ?_)))
 exact auL
 refine .d (bk h fun pf BO h => ⟨aA BO, _, (ax BO).trans (ae.au pf), ⟨rfl, _, fun _ => [.int .i64 pf.ai, .int .i64 pf.aC, .str pf.aj, sl 4 ae.cells pf.ah], rfl, bI rfl, (.d (sE h (fun Kx h => ?_) (fun Kx h => ?_)))⟩⟩)
 refine ⟨rfl, (.t ⟨rfl, _, rfl, (.t (.t (sE h (fun ajK h => ?_) (fun ajK h => ?_))))⟩)⟩
 refine ⟨rfl, (.t ⟨rfl, _, rfl, (.t (.t (sE h (fun ajL h => ?_) (fun ajL h => ?_))))⟩)⟩
 refine ⟨rfl, (.t ⟨rfl, _, rfl, (.t (.t (sE h (fun ajM h => ?_) (fun ajM h => ?_))))⟩)⟩
 refine ⟨rfl, (.t ⟨rfl, _, rfl, (.t (.t (.t (sE h (fun ajN h => ?_) (fun ajN h => ?_)))))⟩)⟩
 exact ⟨rfl, (.t ⟨rfl, _, rfl, (.t (bk h fun Gt ajO h => (aR (pg _ _ ajO) (.t (eB h)))))⟩)⟩
 exact auY
 exact avf
 exact .f (.f (.f (.f (.f (.f (.f (.f (.f (.f (.f (.f (eB h))))))))))))
 refine .f (.f (.f (.f (.f (.f (.f (.f (.f (.f (.f (.f (.f (.f (.f ?_))))))))))))))
 exact .f (eB h)
 refine .f (.f (.f (.f (.f (.f (.f (.f (.f (.f (.f (.f (.f (.f (.f ?_))))))))))))))
 exact .f (.f (.f (.f (.f (eB h)))))
 intro _ ajP a0 r h
 refine gq Tryz.func137 ?_
 refine .d ?_
 obtain ⟨KM, ajQ, Ld⟩ := bd h
 replace h := ajQ
 refine .cut (fun σ η => .inl () = KM ∧ σ = [] ∧ η = []) ?_ ?_
 refine .d ?_
 have ajR := ajP _ _ _ h
 refine le (sr (motive := fun ajS ja ajT => a0 = ajS → KM = ajT → aG _ _ [(5, sl 4 ae.cells a0), (6, .int .i64 (a0.length : Int)), (7, .int .i64 ja)] []) ?_ a0 0 KM ajR rfl rfl) (tk [] ⟨.l, .i, .i, ⟨⟩⟩ ⟨⟩)
 intro _ ajU _ _ ajS ja ajT h ajV  PG ajW
 subst PG
 subst ajW
 refine aG.round (.d (.d (sD h (fun ajX h => ?_) (fun ajX h => ?_))))
 refine .d (.d (bk h fun sj U5 h => ⟨aA U5, _, (ax U5).trans (ae.au sj), ⟨rfl, _, fun _ => [.int .i64 sj.ai, .int .i64 sj.aC, .str sj.aj, sl 4 ae.cells sj.ah], rfl, bI rfl, (.d ⟨rfl, ⟨rfl, _, rfl, (sN h (fun ajY h => ?_) (fun ajY h => ?_))⟩⟩)⟩⟩))
 refine .t (.t (.t (.t (.d ?_))))
 obtain rfl := si h
 replace h := Ld
 exact eB h
 refine ⟨rfl, _, rfl, (.f (bk h fun Gv ajZ h => (aR (ajU _ _ ajZ) (.f (.f (jV h (fun Kw h => ?_) (fun Kw h => ?_)))))))⟩
 refine .d ?_
 obtain rfl := si h
 replace h := Ld
 exact eB h
 exact lg (ajV _ _ _ h rfl rfl) (tk [] ⟨.l, .i, .i, ⟨⟩⟩ ⟨⟩)
 exact auK
 rintro _ _ ⟨rfl, rfl, rfl⟩
 replace h := Ld
 exact auL
 intro F0 F1 lQ lR a0 ja o h
 exact .mk F0 lQ F1 lR a0 ja o h
 intro F0 F1 lQ lR a0 iZ o h
 exact .mk F0 lQ F1 lR a0 iZ o h
 intro _ uH a0 r h
 refine gq Tryz.func140 ?_
 refine .d (.d ⟨rfl, _, rfl, (bk h fun ah0 aj0 h => (aR (qC aj0) (sV h (fun aj1 h => ?_) (fun aj1 h => ?_))))⟩)
 exact ⟨rfl, _, rfl, (.t (bk h fun J6 Ky h => (aR (uH _ _ Ky) (.t (eB h)))))⟩
 exact .f (.f (eB h))
 intro _ aj2 a0 r h
 refine gq Tryz.func139 ?_
 refine .d ?_
 obtain ⟨KI, aj3, U6⟩ := bd h
 replace h := aj3
 refine .cut (fun σ η => .inl () = KI ∧ σ = [] ∧ η = []) ?_ ?_
 refine .d ?_
 have aj4 := aj2 _ _ _ h
 refine le (qu (motive := fun aj5 iY aj6 => a0 = aj5 → KI = aj6 → aG _ _ [(5, sl 4 ae.cells a0), (6, .int .i64 (a0.length : Int)), (7, .int .i64 iY)] []) ?_ a0 0 KI aj4 rfl rfl) (tk [] ⟨.l, .i, .i, ⟨⟩⟩ ⟨⟩)
 intro _ aj7 _ _ aj5 iY aj6 h aj8  PH aj9
 subst PH
 subst aj9
 refine aG.round (.d (.d (sD h (fun Bt h => ?_) (fun Bt h => ?_))))
 refine .d (.d (bk h fun ri B1 h => ⟨aA B1, _, (ax B1).trans (ae.au ri), ⟨rfl, _, fun _ => [.int .i64 ri.ai, .int .i64 ri.aC, .str ri.aj, sl 4 ae.cells ri.ah], rfl, bI rfl, (.d ⟨rfl, _, rfl, (bk h fun v183 Le h => (aR (aj7 _ _ Le) (jV h (fun aka h => ?_) (fun aka h => ?_))))⟩)⟩⟩))
 refine .d ?_
 obtain rfl := si h
 replace h := U6
 exact eB h
 exact lg (aj8 _ _ _ h rfl rfl) (tk [] ⟨.l, .i, .i, ⟨⟩⟩ ⟨⟩)
 exact auK
 rintro _ _ ⟨rfl, rfl, rfl⟩
 replace h := U6
 exact auL
 intro F0 F1 lQ lR a0 iY o h
 exact .mk F0 lQ F1 lR a0 iY o h
 intro F0 F1 lQ lR a0 oX o h
 exact .mk F0 lQ F1 lR a0 oX o h
theorem uI {a0 : ae} {r : Bool} (h : bh a0 = some r) : ACall Tryz.prog 72 [.agg a0.lit] [] (fun res h => res = .bool r ∧ h = []) := mR.1 a0 r h
theorem oH {a0 : List ae} {a1 : Bool} {r : Bool} (h : dY a0 a1 = some r) : ACall Tryz.prog 134 [sl 4 ae.cells a0, .bool a1] [] (fun res h => res = .bool r ∧ h = []) := mR.2.1 a0 a1 r h
theorem B2 {a0 : ae} {r : Bool} (h : bE a0 = some r) : ACall Tryz.prog 68 [.agg a0.lit] [] (fun res h => res = .bool r ∧ h = []) := mR.2.2.1 a0 r h
def eM (a0 : ae) (y20 : Int) (lS : Int) : Option ((Unit) ⊕ ((Unit) ⊕ Bool)) :=
 (if lS < (a0.ah.length : Int) then
 idx a0.ah lS >>= fun qq =>
 aX qq.aj >>= fun Ph =>
 (if Ph = true then
 (if qq.ai = 52 then
 (if a0.ai = 51 then
 some (.inr (.inr false))
 else
 (if y20 > 0 then
 some (.inr (.inr false))
 else
 (if qq.aC = 0 then
 (if (qq.ah.length : Int) > 0 then
 some (.inr (.inr false))
 else
 eM a0 1 (aS (lS + 1)))
 else
 some (.inr (.inr false)))))
 else
 (if qq.ai = 53 then
 (if y20 > 1 then
 some (.inr (.inr false))
 else
 (if qq.aC = 0 then
 (if (qq.ah.length : Int) > 0 then
 some (.inr (.inr false))
 else
 eM a0 1 (aS (lS + 1)))
 else
 some (.inr (.inr false))))
 else
 (if qq.ai = 54 then
 (if qq.aC = 0 then
 (if (qq.ah.length : Int) = 1 then
 idx qq.ah 0 >>= fun x54 =>
 BU x54.ai 1 3 >>= fun v56 =>
 (if v56 = true then
 idx qq.ah 0 >>= fun Gn =>
 bh Gn >>= fun v61 =>
 (if v61 = true then
 eM a0 2 (aS (lS + 1))
 else
 some (.inr (.inr false)))
 else
 some (.inr (.inr false)))
 else
 some (.inr (.inr false)))
 else
 (if qq.aC = 1 then
 (if (qq.ah.length : Int) = 1 then
 idx qq.ah 0 >>= fun x43 =>
 BU x43.ai 1 3 >>= fun E0 =>
 (if E0 = true then
 idx qq.ah 0 >>= fun x48 =>
 bh x48 >>= fun v50 =>
 (if v50 = true then
 eM a0 2 (aS (lS + 1))
 else
 some (.inr (.inr false)))
 else
 some (.inr (.inr false)))
 else
 some (.inr (.inr false)))
 else
 some (.inr (.inr false))))
 else
 (if qq.ai = 55 then
 BU qq.aC 0 3 >>= fun v65 =>
 (if v65 = true then
 dY qq.ah false >>= fun Po =>
 (if Po = true then
 eM a0 2 (aS (lS + 1))
 else
 some (.inr (.inr false)))
 else
 some (.inr (.inr false)))
 else
 some (.inr (.inr false))))))
 else
 some (.inr (.inr false)))
 else
 some (.inl ()))
partial_fixpoint
def nu (a0 : ae) : Option (Bool) :=
 (if a0.aC = 0 then
 aX a0.aj >>= fun v2 =>
 (if v2 = true then
 ((
 (if a0.ai = 49 then
 dY a0.ah false >>= fun v9 =>
 some (.inr v9)
 else
 (
 (if a0.ai = 50 then
 some (a0.ai == 50)
 else
 some (a0.ai == 51))
 : Option (Bool)) >>= fun b11 =>
 (if b11 = true then
 ((
 eM a0 0 0
 : Option ((Unit) ⊕ ((Unit) ⊕ Bool))) >>= fun Iy => match Iy with
 | .inr r => some r
 | .inl _ =>
 some (.inr true)
 )
 else
 some (.inl ())))
 : Option ((Unit) ⊕ Bool)) >>= fun o5 => match o5 with
 | .inr r => some r
 | .inl _ =>
 some false
 )
 else
 some false)
 else
 some false)
theorem DG {a0 : ae} {r : Bool} (h : nu a0 = some r) : ACall Tryz.prog 67 [.agg a0.lit] [] (fun res h => res = .bool r ∧ h = []) := by
 refine gq Tryz.func67 ?_
 unfold nu at h
 refine .d (.d (.d ⟨rfl, ⟨rfl, _, rfl, (sN h (fun kS h => ?_) (fun kS h => ?_))⟩⟩))
 exact .t (.t (.t (.t (.t (.d (eB h))))))
 refine ⟨rfl, (.f ⟨rfl, _, rfl, (.f (bk h fun v2 I7 h => (aR (bQ I7) (.f (.f (jV h (fun Bb h => ?_) (fun Bb h => ?_)))))))⟩)⟩
 exact auL
 obtain ⟨o5, ho6, ve⟩ := bd h
 replace h := ho6
 refine .cut (fun σ η => .inl () = o5 ∧ σ = [] ∧ η = []) ?_ ?_
 refine .d ⟨rfl, ⟨rfl, _, rfl, (.d (sE h (fun Be h => ?_) (fun Be h => ?_)))⟩⟩
 refine .d ⟨rfl, ⟨rfl, _, rfl, (bk h fun v9 aae h => (aR (oH aae) ?_))⟩⟩
 exact auv
 obtain ⟨o12, Z1, k8⟩ := bd h
 replace h := Z1
 refine .cut (fun σ η => ∃ b11, b11 = o12 ∧ σ = [(1, .aL 0 0 0 0), (22, .bool b11)] ∧ η = [.row 0 4 1 29 (fun _ => a0.lit)]) ?_ ?_
 refine .d (sE h (fun lI h => ?_) (fun lI h => ?_))
 exact ct ⟨_, si h, rfl, rfl⟩ (tk [0] ⟨.p, .b, ⟨⟩⟩ ⟨(bZ rfl), ⟨⟩⟩)
 exact ct ⟨_, si h, rfl, rfl⟩ (tk [0] ⟨.p, .b, ⟨⟩⟩ ⟨(bZ rfl), ⟨⟩⟩)
 rintro _ _ ⟨b11, rfl, rfl, rfl⟩
 replace h := k8
 refine sV h (fun oN h => ?_) (fun oN h => ?_)
 refine .d ?_
 obtain ⟨Iy, aqi, nZ⟩ := bd h
 replace h := aqi
 refine .cut (fun σ η => .inl () = Iy ∧ σ = [] ∧ η = []) ?_ ?_
 refine .d ⟨rfl, ⟨rfl, _, rfl, ?_⟩⟩
 refine le (eM.partial_correctness a0 (motive := fun y20 lS o71 => Iy = o71 → aG _ _ [(1, .aL 0 0 0 0), (3, .int .i64 y20), (26, sl 4 ae.cells a0.ah), (27, .int .i64 (a0.ah.length : Int)), (28, .int .i64 lS)] [.row 0 4 1 29 (fun _ => a0.lit)]) ?_ 0 0 Iy h rfl) (tk [0] ⟨.p, .i, .l, .i, .i, ⟨⟩⟩ ⟨(bZ rfl), ⟨⟩⟩)
 intro F23 Dl y20 lS o71 h aqj
 subst aqj
 refine aG.round (.d (.d (sD h (fun BA h => ?_) (fun BA h => ?_))))
 refine .d (.d (bk h fun qq wg h => ⟨aA wg, _, (ax wg).trans (ae.au qq), ⟨rfl, _, fun _ => [.int .i64 qq.ai, .int .i64 qq.aC, .str qq.aj, sl 4 ae.cells qq.ah], rfl, bI rfl, (.d (.d ⟨rfl, ⟨rfl, _, rfl, (bk h fun Ph XH h => (aR (bQ XH) (jV h (fun zJ h => ?_) (fun zJ h => ?_))))⟩⟩))⟩⟩))
 refine .d ?_
 obtain rfl := si h
 exact auE
 refine .d ⟨rfl, ⟨rfl, _, rfl, (.d (sE h (fun Lf h => ?_) (fun Lf h => ?_)))⟩⟩
 refine .d (.d ⟨rfl, ⟨rfl, _, rfl, (sE h (fun aaH h => ?_) (fun aaH h => ?_))⟩⟩)
 refine .t (.t (.t (.t (.t (.t (.t (.t (.t (.t (.t (.t (.d ?_))))))))))))
 obtain rfl := si h
 exact auE
 refine .f (.f (sD h (fun zK h => ?_) (fun zK h => ?_)))
 refine .t (.t (.t (.t (.t (.t (.t (.t (.t (.d ?_)))))))))
 obtain rfl := si h
 exact auE
 refine ⟨rfl, (.f ⟨rfl, _, rfl, (.f (.f (sN h (fun Dm h => ?_) (fun Dm h => ?_))))⟩)⟩
 refine .t (.t (.t (.t (.t (.d ?_)))))
 obtain rfl := si h
 exact auE
 refine ⟨rfl, (.f ⟨rfl, _, rfl, (.f (.f (.f (sD h (fun wc h => ?_) (fun wc h => ?_)))))⟩)⟩
 refine .d ?_
 obtain rfl := si h
 exact auE
 exact auR
 refine .d (sE h (fun JY h => ?_) (fun JY h => ?_))
 refine .d (.d (sD h (fun aaI h => ?_) (fun aaI h => ?_)))
 refine .t (.t (.t (.t (.t (.t (.t (.t (.t (.d ?_)))))))))
 obtain rfl := si h
 exact auE
 refine ⟨rfl, (.f ⟨rfl, _, rfl, (.f (.f (sN h (fun zL h => ?_) (fun zL h => ?_))))⟩)⟩
 refine .t (.t (.t (.t (.t (.d ?_)))))
 obtain rfl := si h
 exact auE
 refine ⟨rfl, (.f ⟨rfl, _, rfl, (.f (.f (.f (sD h (fun zQ h => ?_) (fun zQ h => ?_)))))⟩)⟩
 refine .d ?_
 obtain rfl := si h
 exact auE
 exact auR
 refine .d (sE h (fun wh h => ?_) (fun wh h => ?_))
 refine .d (.d ⟨rfl, ⟨rfl, _, rfl, (sN h (fun Ja h => ?_) (fun Ja h => ?_))⟩⟩)
 refine ⟨rfl, (.t ⟨rfl, _, rfl, (.t (.t (sN h (fun aqk h => ?_) (fun aqk h => ?_))))⟩)⟩
 refine .t (.t (.t (.t (.t (.t (.t (.t (.t (.t (.t (.t (.t (.t (.t ?_))))))))))))))
 refine .t (.t (.t (.t (.t (.d ?_)))))
 obtain rfl := si h
 exact auE
 refine ⟨rfl, (.f ⟨rfl, _, rfl, (.f (.f (.f (sN h (fun KU h => ?_) (fun KU h => ?_)))))⟩)⟩
 refine .t (.t (.t (.t (.t (.t (.t (.t (.t (.t (.t (.t (.t (.t (.t ?_))))))))))))))
 refine .d ?_
 obtain rfl := si h
 exact auE
 refine ⟨rfl, (.f ⟨rfl, _, rfl, (.f (bk h fun x43 akb h => ⟨aA akb, _, (ax akb).trans (ae.au x43), (.f (.f (.f (bk h fun E0 Lg h => (aR (x6 Lg) (.f (.f (jV h (fun aql h => ?_) (fun aql h => ?_)))))))))⟩))⟩)⟩
 refine .t (.t (.t (.t (.t (.t (.t (.d ?_)))))))
 obtain rfl := si h
 exact auE
 refine ⟨rfl, (.f ⟨rfl, _, rfl, (.f (bk h fun x48 akc h => ⟨aA akc, _, (ax akc).trans (ae.au x48), (.f (.f (bk h fun v50 aqm h => (aR (uI aqm) (.f (.f (jV h (fun Xs h => ?_) (fun Xs h => ?_))))))))⟩))⟩)⟩
 refine .d ?_
 obtain rfl := si h
 exact auE
 exact auR
 refine .f (.f (.f (.f ⟨rfl, (.f ⟨rfl, _, rfl, (.f (.f (.f (sN h (fun aqn h => ?_) (fun aqn h => ?_)))))⟩)⟩)))
 refine .t (.t (.t (.t (.t (.t (.t (.t (.t (.t (.t (.t (.t (.t (.t ?_))))))))))))))
 refine .d ?_
 obtain rfl := si h
 exact auE
 refine ⟨rfl, (.f ⟨rfl, _, rfl, (.f (bk h fun x54 akd h => ⟨aA akd, _, (ax akd).trans (ae.au x54), (.f (.f (.f (bk h fun v56 aqo h => (aR (x6 aqo) (.f (.f (jV h (fun aaA h => ?_) (fun aaA h => ?_)))))))))⟩))⟩)⟩
 refine .t (.t (.t (.t (.t (.t (.t (.d ?_)))))))
 obtain rfl := si h
 exact auE
 refine ⟨rfl, (.f ⟨rfl, _, rfl, (.f (bk h fun Gn Kg h => ⟨aA Kg, _, (ax Kg).trans (ae.au Gn), (.f (.f (bk h fun v61 aqp h => (aR (uI aqp) (.f (.f (jV h (fun Xu h => ?_) (fun Xu h => ?_))))))))⟩))⟩)⟩
 refine .d ?_
 obtain rfl := si h
 exact auE
 exact auR
 refine .d (sE h (fun Xv h => ?_) (fun Xv h => ?_))
 refine .d (.d ⟨rfl, ⟨rfl, _, rfl, (bk h fun v65 aqq h => (aR (x6 aqq) (jV h (fun aaJ h => ?_) (fun aaJ h => ?_))))⟩⟩)
 refine .t (.t (.t (.t (.t (.d ?_)))))
 obtain rfl := si h
 exact auE
 refine ⟨rfl, (.f ⟨rfl, _, rfl, (.f (bk h fun Po Z4 h => (aR (oH Z4) (.f (.f (jV h (fun Jg h => ?_) (fun Jg h => ?_)))))))⟩)⟩
 refine .d ?_
 obtain rfl := si h
 exact auE
 exact auR
 refine .d ?_
 obtain rfl := si h
 exact auE
 exact auK
 rintro _ _ ⟨rfl, rfl, rfl⟩
 replace h := nZ
 refine .d ?_
 exact auv
 exact auK
 rintro _ _ ⟨rfl, rfl, rfl⟩
 replace h := ve
 exact auL
def gm (a0 : ae) (fA : Int) : Option ((Unit) ⊕ Bool) :=
 (if fA < (a0.ah.length : Int) then
 idx a0.ah fA >>= fun wi =>
 nu wi >>= fun Gk =>
 (if Gk = true then
 gm a0 (aS (fA + 1))
 else
 bE wi >>= fun u6 =>
 (if u6 = true then
 gm a0 (aS (fA + 1))
 else
 some (.inr false)))
 else
 some (.inl ()))
partial_fixpoint
def kq (a0 : ae) : Option (Bool) :=
 (if a0.ai = 56 then
 (if a0.aC = 0 then
 (if a0.aj = ([] : aq) then
 jG a0 >>= fun v4 =>
 (if v4 = true then
 ((
 gm a0 0
 : Option ((Unit) ⊕ Bool)) >>= fun o7 => match o7 with
 | .inr r => some r
 | .inl _ =>
 some true
 )
 else
 some false)
 else
 some false)
 else
 some false)
 else
 some false)
theorem ye {a0 : ae} {r : Bool} (h : kq a0 = some r) : ACall Tryz.prog 27 [.agg a0.lit] [] (fun res h => res = .bool r ∧ h = []) := by
 refine gq Tryz.func27 ?_
 unfold kq at h
 refine .d (.d (.d ⟨rfl, ⟨rfl, _, rfl, (sN h (fun kS h => ?_) (fun kS h => ?_))⟩⟩))
 exact .t (.t (.t (.t (.t (.t (.t (.t (.t (.t (.t (.t (.d (eB h)))))))))))))
 refine ⟨rfl, (.f ⟨rfl, _, rfl, (.f (.f (sN h (fun np h => ?_) (fun np h => ?_))))⟩)⟩
 exact avd
 refine ⟨rfl, (.f ⟨rfl, _, rfl, (.f (.f (Pd h (fun oV h => ?_) (fun oV h => ?_))))⟩)⟩
 exact .t (.t (.t (.t (.d (eB h)))))
 refine ⟨rfl, _, rfl, (.f (bk h fun v4 vW h => (aR (vV vW) (.f (.f (jV h (fun vA h => ?_) (fun vA h => ?_)))))))⟩
 exact auL
 obtain ⟨o7, XJ, zR⟩ := bd h
 replace h := XJ
 refine .cut (fun σ η => .inl () = o7 ∧ σ = [] ∧ η = []) ?_ ?_
 refine .d ⟨rfl, ⟨rfl, _, rfl, ?_⟩⟩
 refine le (gm.partial_correctness a0 (motive := fun fA OS => o7 = OS → aG _ _ [(24, sl 4 ae.cells a0.ah), (25, .int .i64 (a0.ah.length : Int)), (26, .int .i64 fA)] []) ?_ 0 o7 h rfl) (tk [] ⟨.l, .i, .i, ⟨⟩⟩ ⟨⟩)
 intro F12 zS fA OS h Lh
 subst Lh
 refine aG.round (.d (.d (sD h (fun rW h => ?_) (fun rW h => ?_))))
 refine .d (.d (bk h fun wi wj h => ⟨aA wj, _, (ax wj).trans (ae.au wi), ⟨rfl, _, fun _ => [.int .i64 wi.ai, .int .i64 wi.aC, .str wi.aj, sl 4 ae.cells wi.ah], rfl, bI rfl, (.d ⟨rfl, _, rfl, (bk h fun Gk Ke h => (aR (DG Ke) (jV h (fun sf h => ?_) (fun sf h => ?_))))⟩)⟩⟩))
 refine ⟨rfl, _, rfl, (.t (bk h fun u6 zT h => (aR (B2 zT) (.t (.t (jV h (fun qs h => ?_) (fun qs h => ?_)))))))⟩
 refine .d ?_
 exact auy
 exact lg (zS _ _ h rfl) (tk [] ⟨.l, .i, .i, ⟨⟩⟩ ⟨⟩)
 exact .f (.f (.f (.f (lg (zS _ _ h rfl) (tk [] ⟨.l, .i, .i, ⟨⟩⟩ ⟨⟩)))))
 exact auK
 rintro _ _ ⟨rfl, rfl, rfl⟩
 replace h := zR
 exact auL
end Go.Am
namespace Go.Am
open Go Go.RowKit
def aM (G id g : Nat) : PV := match G with
 | 0 => .dA
 | _ + 1 => .aL id g 0 0
theorem PI (σ : Nat → Nat) (G id g : Nat) : lV σ (aM G id g) = aM G (σ id) g := by cases G <;> rfl
theorem jb (σ : Nat → Nat) (gp sz n : Nat) (e : TypeId) (G id g b g2 off len : Nat) : ph σ (.row gp sz n e (fun _ => [aM G id g, .own b g2 off len])) = .row gp sz n e (fun _ => [aM G (σ id) g, .own (σ b) g2 off len]) := by
 show ar.row gp sz n e (fun _ => [lV σ (aM G id g), _]) = _
 rw [PI]; rfl
theorem cz {σ : Nat → Nat} {gp sz n : Nat} {e : TypeId} {G id g b g2 off len : Nat} {x : Option ar} (hx : x = some (.row gp sz n e (fun _ => [aM G (σ id) g, .own (σ b) g2 off len])) := by rfl) : x = some (ph σ (.row gp sz n e (fun _ => [aM G id g, .own b g2 off len]))) := by rw [jb]; exact hx
theorem Fz.aM {h η : List ar} {k : List Nat} {G id id' g g' sz bx n n' : Nat} {e e' : TypeId} {f f' : Nat → List PV} (hk : k[id']? = some id := by rfl) (ho : h[id]? = some (ar.row g sz n e f) := by rfl) (hη : η[id']? = some (ar.row g' bx (n' + 1) e' f') := by rfl) : Fz h η k (Go.Am.aM G id g) (Go.Am.aM G id' g') := by
 cases G with
 | zero => exact .dA
 | succ G => exact Fz.p hk ho hη
section
variable {P : Program} {f : FuncId} {h : List ar} {K : PV → List ar → Prop}
theorem cQ {γ : Type} {h0 : γ → List ar} {args k9 : List PV} {R0 : γ → PV} {hc : List ar} (hA : ACall P f args hc (fun res h => ∃ g, res = R0 g ∧ h = h0 g)) (is : List Nat) (gF : U7 h (fO is h.length) hc is) (R1 : γ → PV) (H1 : γ → List ar) (k : ∀ g, K (R1 g) (H1 g))
  (e2 : ∀ g, bO h is (h0 g) = H1 g := by intro g; simp only [bO, aK, adr, asB, List.drop, an, mg, jc, jb]; rfl) (e1 : ∀ g, DH (fO is h.length) (R0 g) = R1 g := by intro _; rfl)
  (hl : hc.length = is.length := by rfl) (hd : is.Nodup := by decide) (cM : is.all (fun id => Nat.blt id h.length) = true := by rfl) (nv : k9 = args.map (wy (fO is h.length)) := by rfl) : su P f k9 h K :=
 ⟨_, hA.Li is h gF hl hd cM nv, by rintro _ _ ⟨_, _, ⟨g, rfl, rfl⟩, rfl, rfl⟩; rw [e1, e2]; exact k g⟩
end
theorem ACall.aaK {P : Program} {f : FuncId} {args : List PV} {h : List ar} {R : PV → List ar → Prop} {i g : Nat} {e lK : Nat} {e2 : TypeId} {f2 : Nat → List PV} (hi : h[i]? = some (.row g 2 1 e (fun _ => [.dA, .bm])))
  (hA : ACall P f args ((h ++ [ar.row 0 lK 0 e2 f2]).set i (.row g 2 1 e (fun _ => [.dA, .own h.length 0 0 0]))) R) : ACall P f args h R := by
 refine ⟨hA.1, fun w vs μ S hH hM fQ ha => ?_⟩
 have cM : i < h.length := (At.1 hi).1
 obtain ⟨fr1, c1⟩ := lW (w1 := w) ⟨hH, hM⟩ lK 0 e2 f2 none rfl (bK.refl w) (fun i hi => absurd hi (atq _)) (fun i j pv hi => absurd hi (atq _))
 have hi1 : (h ++ [ar.row 0 lK 0 e2 f2])[i]? = some (.row g 2 1 e (fun _ => [.dA, .bm])) := by rw [ata cM]; exact hi
 have hN : (h ++ [ar.row 0 lK 0 e2 f2])[h.length]? = some (.row 0 lK 0 e2 f2) := by simp
 obtain ⟨_, hc⟩ := c1.heap i _ _ _ _ _ hi1
 have yf : lG μ h.length none i = μ i := dn μ _ avh
 cases eg : μ i with
 | none => rw [yf, eg] at hc; cases hc
 | some p =>
  obtain ⟨b, base⟩ := p
  rw [yf, eg] at hc
  obtain ⟨o, ho, hr⟩ := hc
  cases o with
  | cells cur e' z =>
   obtain ⟨rfl, rfl, q3, q4⟩ := hr
   have aJ : ∀ (k j : Nat) (pv : PV), k < 1 → ((fun _ => [PV.dA, .own h.length 0 0 0]) k)[j]? = some pv → ∃ v : Value, cur[base + k * 2 + j]? = some v ∧ lz (lG μ h.length none) (h ++ [ar.row 0 lK 0 e2 f2]) S w pv v := fun k j pv hk hj => by
    match j, hj with
    | 0, hj => cases hj; exact q4 k 0 _ hk rfl
    | 1, hj =>
     cases hj
     obtain ⟨v, r1, r2⟩ := q4 k 1 _ hk rfl
     have r2 : aF S w .bm v := r2
     cases r2
     refine ⟨_, r1, ?_⟩
     show aW _ _ w h.length 0 0 0 _
     unfold aW
     rw [hN, bn]
     exact ⟨⟨_, _, _, rfl⟩, asA _, fun _ => ⟨asA _, rfl⟩⟩
   obtain ⟨fr2, c2⟩ := nx (w1 := w) c1 i g g 2 1 1 e' _ (fun _ => [.dA, .own h.length 0 0 0]) hi1 b base cur (asA _) (fun _ => ⟨by rw [yf]; exact eg, rfl⟩) (.inr ⟨base, cur, by rw [yf]; exact eg, ho, rfl⟩) ho avh
    (fun _ _ _ => rfl) (asA _) rfl rfl rfl (fun _ _ => rfl) (fun b' j6 uJ hx => by
     rw [yf, eg] at uJ
     injection uJ with uJ; injection uJ with h1 _; subst h1
     obtain ⟨es, clock, hx⟩ := hx
     rw [ho] at hx; cases hx) aJ 0 (fun k j bx n' e'' f' F' hk hj => by
     match j, hj with
     | 0, hj => cases hj
     | 1, hj => cases hj)
   have fr := fr1.trans fr2
   refine (hA.2 w vs _ S c2.heap c2.ok fQ (fun j pv hj => ?_)).mono ?_
   ·obtain ⟨v, h1, h2⟩ := ha j pv hj
    exact ⟨v, h1, h2.fr fr hM⟩
   ·rintro x w' ⟨v, res, h', μ', S', rfl, hr, hv, hH', hM', hF⟩
    exact ⟨v, res, h', μ', S', rfl, hr, hv, hH', hM', fr.trans hF⟩
  | map es c =>
   obtain ⟨kp, vp, en, y1, y2, y3, _⟩ := hr.2 0 atV
   injection y1 with y1 _; subst y1; cases y2
  | _ => exact hr.elim
theorem pcG {P : Program} {f : FuncId} {args : List PV} {h h2 : List ar} {K : PV → List ar → Prop} (i : Nat) {g : Nat} {e lK : Nat} {e2 : TypeId} {f2 : Nat → List PV} (k : su P f args h2 K) (hi : h[i]? = some (.row g 2 1 e (fun _ => [.dA, .bm])) := by rfl)
  (h3 : h2 = (h ++ [ar.row 0 lK 0 e2 f2]).set i (.row g 2 1 e (fun _ => [.dA, .own h.length 0 0 0])) := by rfl) : su P f args h K := by
 subst h3
 obtain ⟨R, hA, hk⟩ := k
 exact ⟨R, ACall.aaK hi hA, hk⟩
end Go.Am
namespace Go.Am
open Go Go.RowKit Go.Proofs
theorem U8 : (Tryz.prog.info? 49).map (·.size) = some 2 := by kernel_rfl
theorem aaL : Tryz.prog.underlying 47 = some (.pointer 49) := by kernel_rfl
theorem ake : Tryz.prog.underlying 151 = some .unsafePointer := by kernel_rfl
set_option maxHeartbeats 1000000 in
set_option maxRecDepth 100000 in
theorem PJ (b : Nat) (w : World) (h0 : w.cell? ⟨b, 0, none⟩ = some (.pointer (some ⟨b, 0, none⟩))) :
  Calls Tryz.prog 158 #[.pointer (some ⟨b, 0, none⟩)] w fun e w' => e = .returned (.tuple #[]) ∧ w' = w := by
 obtain ⟨j, hj, _⟩ := Option.map_eq_some_iff.1 U8
 go_enter Tryz.func158, Tryz.ntmps158
 go_wp2
 rw [Lib.run_neq_ptr_same w _ aaL hj]
 go_wp2
 go_end0
 exact ⟨rfl, rfl⟩
set_option maxHeartbeats 1000000 in
set_option maxRecDepth 100000 in
theorem Lj (b c : Nat) (w : World) (h0 : w.cell? ⟨b, 0, none⟩ = some (.pointer none)) (Lk : w.shape? b = some (51, c)) (hc : 0 < c) (hl : liesAt Tryz.prog Tryz.prog.depth 51 (c / Tryz.prog.cellsOf 51) 0 49 1 = true) (hfz : w.frozen? ⟨b, 0, none⟩ = false) :
  Calls Tryz.prog 158 #[.pointer (some ⟨b, 0, none⟩)] w fun e w' => e = .returned (.tuple #[]) ∧ w' = w.setCell ⟨b, 0, none⟩ (.pointer (some ⟨b, 0, none⟩)) := by
 obtain ⟨j, hj, B3⟩ := Option.map_eq_some_iff.1 U8
 go_enter Tryz.func158, Tryz.ntmps158
 go_wp2
 rw [Lib.run_to_unsafe w ⟨b, 0, none⟩ aaL ake hj (by rw [B3]; decide) Lk hc]
 simp only [Result.andThen]
 rw [Oper.upon_value]
 go_wp2
 rw [run_callFunc_extern Tryz.func202 avs avs avs (e := Extern.AbiNoEscape.same) avs]
 rw [Lib.run_noEscape]
 simp only [Result.andThen]
 rw [Oper.upon_value]
 go_wp2
 rw [Lib.run_from_unsafe w ⟨b, 0, none⟩ ake aaL hj Lk hl]
 simp only [Result.andThen]
 rw [Oper.upon_value]
 go_wp2
 go_end0
 exact ⟨rfl, rfl⟩
theorem PK : Tryz.prog.cellsOf 51 = 2 := by kernel_rfl
set_option maxRecDepth 100000 in
theorem aaM (k : Nat) : liesAt Tryz.prog Tryz.prog.depth 51 (k + 1) 0 49 1 = true := by kernel_rfl
theorem z8 {w : World} {b i : Nat} {cs : Array Value} {T : TypeId} {fr : Nat × Nat} (hb : w.heap[b]? = some (.cells cs T fr)) (v : Value) : (w.setCell ⟨b, i, none⟩ v).heap[b]? = some (.cells (cs.setIfInBounds i v) T fr) := by
 unfold World.setCell
 simp [atB, hb]
theorem DI {w : World} {b i k : Nat} (h : k ≠ b) (v : Value) : (w.setCell ⟨b, i, none⟩ v).heap[k]? = w.heap[k]? := by
 unfold World.setCell
 simp only [atB]
 rw [if_neg (atH h)]
theorem Aa {w : World} {b i : Nat} (v : Value) : (w.setCell ⟨b, i, none⟩ v).heap.size = w.heap.size := by
 unfold World.setCell
 simp
theorem aqr {G n g G2 : Nat} {f : Nat → List PV} : ACall Tryz.prog 158 [.aL 0 g 0 0] [.row g 2 1 51 (fun _ => [aM G 0 g, .own 1 G2 0 n]), .row G2 1 n 5 f]
  (fun res h => res = .aV [] ∧ h = [.row g 2 1 51 (fun _ => [.aL 0 g 0 0, .own 1 G2 0 n]), .row G2 1 n 5 f]) := by
 refine ⟨⟨_, _, Tryz.func158, rfl, by kernel_rfl⟩, fun w vs μ S hH hM fQ ha => ?_⟩
 obtain ⟨v0, hv, hp⟩ := ha 0 _ rfl
 have hp : ba μ [.row g 2 1 51 (fun _ => [aM G 0 g, .own 1 G2 0 n]), .row G2 1 n 5 f] w 0 g 0 0 v0 := hp
 obtain ⟨_, _, hr⟩ := hp
 obtain ⟨_, b, base, eg, ⟨dZ, hb0⟩, rfl⟩ := hr rfl
 obtain rfl : base = 0 := hb0 rfl
 obtain rfl := KD fQ hv
 obtain ⟨_, hc⟩ := hH 0 _ _ _ _ _ rfl
 rw [eg] at hc
 obtain ⟨cur, jL, ny, aJ⟩ := bA.cells dZ hc
 obtain ⟨u, hu, hk⟩ := aJ 0 0 _ atV rfl
 obtain ⟨u1, Bf, E1⟩ := aJ 0 1 _ atV rfl
 simp only [Nat.zero_mul, asN, aty, Nat.one_mul] at hu Bf ny ⊢
 have hk : u = .pointer none ∨ u = .pointer (some ⟨b, 0, none⟩) := by
  cases G with
  | zero =>
   have hk : aF S w .dA u := hk
   cases hk; exact .inl rfl
  | succ G =>
   have hk : ba μ [.row g 2 1 51 (fun _ => [aM (G + 1) 0 g, .own 1 G2 0 n]), .row G2 1 n 5 f] w 0 g 0 0 u := hk
   obtain ⟨_, _, h2⟩ := hk
   obtain ⟨_, b', j6, uJ, ⟨_, kU⟩, rfl⟩ := h2 rfl
   rw [eg] at uJ
   injection uJ with uJ
   injection uJ with e1 e2
   subst e1; subst e2
   exact .inr rfl
 have fin : ∀ (w' : World) (kr : Array Value), w'.heap[b]? = some (.cells kr 51 (0, 0)) → kr.size = cur.size → kr[0]? = some (.pointer (some ⟨b, 0, none⟩)) → kr[1]? = cur[1]? → (∀ k, k ≠ b → w'.heap[k]? = w.heap[k]?) → w'.heap.size = w.heap.size → w'.os = w.os → w'.tape = w.tape → w'.output = w.output →
   ∃ (v : Value) (res : PV) (h' : List ar) (μ' : Mu) (S' : Nat → Prop), Ending.returned (.tuple #[]) = .returned v ∧ (res = .aV [] ∧ h' = [.row g 2 1 51 (fun _ => [.aL 0 g 0 0, .own 1 G2 0 n]), .row G2 1 n 5 f]) ∧ aZ μ' h' S' w' res v ∧ bA μ' h' S' w' ∧ n7 μ' h' S' w' ∧ Fr μ [.row g 2 1 51 (fun _ => [aM G 0 g, .own 1 G2 0 n]), .row G2 1 n 5 f] S w μ' h' S' w' := fun w' kr q1 q2 q3 q4 q5 q6 q7 q8 q9 => by
  obtain ⟨jC, nz⟩ := nx (w1 := w') ⟨hH, hM⟩ 0 g g 2 1 1 51 _ (fun _ => [.aL 0 g 0 0, .own 1 G2 0 n]) rfl b 0 kr (asA _) (fun _ => ⟨eg, rfl⟩) (.inr ⟨0, cur, eg, jL, q2.symm⟩) q1 avh (fun k _ hk => q5 k hk) avh q7 q8 q9
   (fun _ _ => rfl) (fun b' j6 uJ => by rw [eg] at uJ; injection uJ with uJ; injection uJ with h1 _; subst h1; exact dZ.rk)
   (fun i j pv hi hj => by
    obtain rfl : i = 0 := by omega
    match j, hj with
    | 0, hj =>
     cases hj
     refine ⟨_, q3, ?_⟩
     show ba μ [.row g 2 1 51 (fun _ => [aM G 0 g, .own 1 G2 0 n]), .row G2 1 n 5 f] w 0 g 0 0 _
     exact ⟨⟨_, rfl⟩, asA _, fun _ => ⟨atV, b, 0, eg, ⟨dZ, fun _ => rfl⟩, rfl⟩⟩
    | 1, hj =>
     cases hj
     exact ⟨u1, by rw [← Bf]; exact q4, E1⟩) 0 (fun i j bx n' e' f' F' hi hj => by
    match j, hj with
    | 0, hj => cases hj
    | 1, hj => cases hj)
  exact ⟨_, _, _, _, S, rfl, ⟨rfl, rfl⟩, ⟨#[], rfl, rfl, fun j pv hj => by simp at hj⟩, nz.heap, nz.ok, jC⟩
 have hc0 : w.cell? ⟨b, 0, none⟩ = some u := by rw [cell_of_row w b 0 cur 51 (0, 0) jL]; exact hu
 rcases hk with rfl | rfl
 ·obtain ⟨k, hk⟩ : ∃ k, cur.size / Tryz.prog.cellsOf 51 = k + 1 := by rw [PK]; exact ⟨cur.size / 2 - 1, by omega⟩
  refine (Lj b cur.size w hc0 (by simp [World.shape?, jL]) avh (by rw [hk]; exact aaM k) (Lib.frozen_of_heap jL 0)).mono ?_
  rintro e w' ⟨rfl, rfl⟩
  refine fin _ (cur.setIfInBounds 0 (.pointer (some ⟨b, 0, none⟩))) (z8 jL _) Array.size_setIfInBounds (by rw [Array.getElem?_setIfInBounds_self, if_pos avh]) (by rw [atK avn]) (fun k hk => DI hk _) (Aa _) rfl rfl rfl
 ·refine (PJ b w hc0).mono ?_
  rintro e w' ⟨rfl, rfl⟩
  exact fin _ cur jL rfl hu rfl (fun _ _ => rfl) rfl rfl rfl rfl
def eN (a0 : aE) (a1 : aq) : Option (Int × Unit × aE) :=
 if (a0.ao.length + a1.length) * 1 ≤ 140737488355328 then some ((a1.length : Int), (), aE.mk () (a0.ao ++ a1)) else none
theorem lA {a0 : aE} {a1 : aq} {r : Int × Unit × aE} {g1000 g1001 : Nat} (h : eN a0 a1 = some r) : ACall Tryz.prog 94 [.aL 0 g1000 0 0, .str a1] [.row g1000 2 1 51 (fun _ => [aM g1001 0 g1000, .own 1 g1001 0 a0.ao.length]), .row g1001 1 a0.ao.length 5 (row cB a0.ao)]
  (fun res h => ∃ G1 : Nat, res = .aV [.int .i64 r.1, .gv] ∧ h = [.row g1000 2 1 51 (fun _ => [aM G1 0 g1000, .own 1 G1 0 r.2.2.ao.length]), .row G1 1 r.2.2.ao.length 5 (row cB r.2.2.ao)]) := by
 obtain ⟨hb, rfl⟩ := bB h
 refine gq Tryz.func94 ?_
 refine .d (.d ?_)
 refine pcO aqr [0, 1] ⟨cz, ov, ⟨⟩⟩ (.aV []) [.row g1000 2 1 51 (fun _ => [.aL 0 g1000 0 0, .own 1 g1001 0 a0.ao.length]), .row g1001 1 a0.ao.length 5 (row cB a0.ao)] ?_
 have hl : n8 1 a0.ao a1 = some (a0.ao ++ a1) := if_pos hb
 refine .d ⟨rfl, ⟨rfl, ⟨rfl, _, rfl, ⟨rfl, hb, (a0.ao ++ a1).length, row cB (a0.ao ++ a1), gw hl, gN hl aN PL, ?_⟩⟩⟩⟩
 refine ⟨rfl, ⟨rfl, ⟨rfl, _, fun _ => [.aL 0 g1000 0 0, .own 1 (g1001 + 1) 0 (a0.ao ++ a1).length], rfl, bI rfl, ?_⟩⟩⟩
 refine .d ?_
 exact en [0, 1] ⟨g1001 + 1, rfl, rfl⟩ (.bu ⟨.i, .j, ⟨⟩⟩) ⟨(ob rfl ⟨Fz.aM (G := g1001 + 1), .o, ⟨⟩⟩), od, ⟨⟩⟩
theorem Gx {P : Program} {e : TypeId} (hc : P.cellsOf e = 1) (count off n : Nat) (hn : off + n ≤ count) : liesAt P P.depth e count off e n = true := by
 have hd : P.depth = (2 * (P.types.size + Made.depth) + 1) + 1 := rfl
 rw [hd]
 simp only [liesAt, atg]
 left
 rw [hd]
 simp [rowAt, hc, hn, sameLayout, Nat.mod_one]
theorem qv {P : Program} {w : World} (pt it ty e : TypeId) (hp : P.underlying pt = some (.pointer e)) (hc : P.cellsOf e = 1) (g base cells : Nat) (Lk : w.shape? g = some (e, cells)) (l : List UInt8) (h0 : l ≠ []) (hn : base + l.length ≤ cells) (h63 : l.length ≤ 9223372036854775807)
  (aJ : ∀ j x, l[j]? = some x → w.cell? ((⟨g, base, none⟩ : Addr).add j) = some (.int .u8 x.toNat)) :
  (Builtin.unsafeString_ #[pt, it] ty #[.pointer (some ⟨g, base, none⟩), .int .i64 l.length]).run P w = .ok (.string ⟨l.toArray⟩) (w.freeze ⟨g, base, none⟩ l.length) := by
 have hl : l.length ≠ 0 := by simpa using h0
 have hlb := Lib.run_loadBytes (P := P) w l ⟨g, base, none⟩ .empty aJ
 have akf := Gx (P := P) hc (cells / P.cellsOf e) base l.length (by rw [hc]; simpa using hn)
 have aaN : ¬ (9223372036854775807 : Int) < (l.length : Int) := by omega
 have aqs : Builtin.unsafeString_ #[pt, it] ty #[.pointer (some ⟨g, base, none⟩), .int .i64 l.length] =
   (do
    let n ← asInt (.int .i64 l.length)
    if n < 0 then runtimePanic (.error "unsafe.String: len out of range")
    if n > IntKind.i64.max then unsupported (.unsafePointer "String: a length above the largest int")
    if n = 0 then pure (.string .empty)
    else if ← variablesAt ⟨g, base, none⟩ (← elemOf pt) n.toNat then do
     let s ← loadBytes ⟨g, base, none⟩ .empty n.toNat
     freeze ⟨g, base, none⟩ n.toNat
     pure (.string s)
    else unsupported (.unsafePointer "String: not so many bytes at ptr")) := rfl
 rw [aqs]
 have aqt : IntKind.i64.max = 9223372036854775807 := rfl
 have aqu : ¬ (l.length : Int) < 0 := by omega
 simp [asInt, asIntOf, aqt, aaN, aqu, hl, variablesAt, Lk, elemOf, run_underlying hp, akf, hlb]
theorem akg : Tryz.prog.underlying 88 = some (.pointer 5) := by kernel_rfl
theorem aaO : Tryz.prog.cellsOf 5 = 1 := by kernel_rfl
set_option maxHeartbeats 2000000 in
set_option maxRecDepth 100000 in
theorem Ll (b gb base cap : Nat) (l : List UInt8) (cur : Array Value) (w : World) (h1 : w.cell? ⟨b, 1, none⟩ = some (.slice (some ⟨gb, base, none⟩) l.length cap)) (hc : cap ≠ 0) (Bg : l ≠ []) (hg : w.heap[gb]? = some (.cells cur 5 (0, 0))) (ny : base + l.length ≤ cur.size) (h63 : l.length ≤ 9223372036854775807)
  (aJ : ∀ j x, l[j]? = some x → cur[base + j]? = some (.int .u8 x.toNat)) :
  Calls Tryz.prog 43 #[.pointer (some ⟨b, 0, none⟩)] w fun e w' => e = .returned (.string ⟨l.toArray⟩) ∧ w' = w.drew.freeze ⟨gb, base, none⟩ l.length := by
 have c1 : w.drew.cell? ⟨b, 1, none⟩ = some (.slice (some ⟨gb, base, none⟩) l.length cap) := h1
 have hSD : (Builtin.unsafeSliceData_ #[39] 88 #[.slice (some ⟨gb, base, none⟩) l.length cap]).run Tryz.prog w.drew = .ok (.pointer (some ⟨gb, base, none⟩)) w.drew :=
  Lib.run_unsafeSliceData_row _ _ _ _ _ _ hc
 have hUS : (Builtin.unsafeString_ #[88, 3] 9 #[.pointer (some ⟨gb, base, none⟩), .int .i64 l.length]).run Tryz.prog w.drew = .ok (.string ⟨l.toArray⟩) (w.drew.freeze ⟨gb, base, none⟩ l.length) := by
  refine qv 88 3 9 5 akg aaO gb base cur.size (by have hg' : w.drew.heap[gb]? = some (.cells cur 5 (0, 0)) := hg; simp [World.shape?, hg']) l Bg ny h63 (fun j x hx => ?_)
  have hg' : w.drew.heap[gb]? = some (.cells cur 5 (0, 0)) := hg
  rw [Addr.add_lit, cell_of_row w.drew gb (base + j) cur 5 (0, 0) hg']
  exact aJ j x hx
 clear hc Bg aJ
 go_enter Tryz.func43, Tryz.ntmps43
 go_wp2
 go_region
 all_goals (go_wp2; go_ret; exact ⟨rfl, rfl⟩)
theorem Gy {w : World} {p : Addr} {n k : Nat} (h : k ≠ p.block) : (w.freeze p n).heap[k]? = w.heap[k]? := by
 unfold World.freeze
 split
 ·rfl
 ·simp only [atB]
  rw [if_neg (atH h)]
theorem Gz {w : World} {g base n : Nat} {cur : Array Value} {e : TypeId} {z : Nat × Nat} (h : w.heap[g]? = some (.cells cur e z)) : ∃ z', (w.freeze ⟨g, base, none⟩ n).heap[g]? = some (.cells cur e z') := by
 unfold World.freeze
 split
 ·exact ⟨z, h⟩
 ·simp only [atB]
  rw [if_pos trivial, h]
  obtain ⟨lo, hi⟩ := z
  exact ⟨_, rfl⟩
theorem B4 {w : World} {p : Addr} {n : Nat} : (w.freeze p n).heap.size = w.heap.size ∧ (w.freeze p n).os = w.os ∧ (w.freeze p n).tape = w.tape ∧ (w.freeze p n).output = w.output := by
 unfold World.freeze
 split
 ·exact ⟨rfl, rfl, rfl, rfl⟩
 ·exact ⟨by simp, rfl, rfl, rfl⟩
def eO (a0 : aE) : Option (aq × aE) := if a0.ao ≠ [] ∧ a0.ao.length ≤ 9223372036854775807 then some (a0.ao, a0) else none
theorem nA {a0 : aE} {r : aq × aE} {g1000 g1001 : Nat} (h : eO a0 = some r) : ACall Tryz.prog 43 [.aL 0 g1000 0 0] [.row g1000 2 1 51 (fun _ => [aM g1001 0 g1000, .own 1 g1001 0 a0.ao.length]), .row g1001 1 a0.ao.length 5 (row cB a0.ao)]
  (fun res h => res = .str r.1 ∧ h = [.dead, .dead]) := by
 obtain ⟨⟨nS, h63⟩, rfl⟩ := bB h
 generalize hl : a0.ao = l at *
 have yg : 0 < l.length := List.length_pos_iff.2 nS
 refine ⟨⟨_, _, Tryz.func43, rfl, by kernel_rfl⟩, fun w vs μ S hH hM fQ ha => ?_⟩
 obtain ⟨v0, hv, hp⟩ := ha 0 _ rfl
 have hp : ba μ [.row g1000 2 1 51 (fun _ => [aM g1001 0 g1000, .own 1 g1001 0 l.length]), .row g1001 1 l.length 5 (row cB l)] w 0 g1000 0 0 v0 := hp
 obtain ⟨_, _, hr⟩ := hp
 obtain ⟨_, b, base, eg, ⟨dZ, hb0⟩, rfl⟩ := hr rfl
 obtain rfl : base = 0 := hb0 rfl
 obtain rfl := KD fQ hv
 obtain ⟨_, hc⟩ := hH 0 _ _ _ _ _ rfl
 rw [eg] at hc
 obtain ⟨cur, jL, ny, aJ⟩ := bA.cells dZ hc
 obtain ⟨u1, Bf, E1⟩ := aJ 0 1 _ atV rfl
 have E1 : aW μ [.row g1000 2 1 51 (fun _ => [aM g1001 0 g1000, .own 1 g1001 0 l.length]), .row g1001 1 l.length 5 (row cB l)] w 1 g1001 0 l.length u1 := E1
 obtain ⟨_, _, E1⟩ := E1
 obtain ⟨_, E1⟩ := E1 rfl
 obtain ⟨_, hc1⟩ := hH 1 _ _ _ _ _ rfl
 cases yf : μ 1 with
 | none => rw [yf] at hc1; omega
 | some p =>
  obtain ⟨gb, bb⟩ := p
  rw [yf] at E1 hc1
  obtain ⟨a, cap, rfl, hle, hx, U9⟩ := E1
  obtain rfl := hx avh
  obtain ⟨aqv, Lm, Va, aaP⟩ := bA.cells U9 hc1
  simp only [Nat.zero_mul, asN, aty, Nat.mul_one] at Bf Va
  have hoG : bP μ [.row g1000 2 1 51 (fun _ => [aM g1001 0 g1000, .own 1 g1001 0 l.length]), .row g1001 1 l.length 5 (row cB l)] gb := .inl ⟨1, _, _, _, _, _, bb, rfl, yf⟩
  have OT : ∀ (id g sz n : Nat) (e : TypeId) (f : Nat → List PV) (b' j6 : Nat), [ar.row g1000 2 1 51 (fun _ => [aM g1001 0 g1000, .own 1 g1001 0 l.length]), .row g1001 1 l.length 5 (row cB l)][id]? = some (ar.row g sz n e f) → μ id = some (b', j6) → ¬ mS w b' := fun id g sz n e f b' j6 h1 h2 => by
   match id, h1, h2 with
   | 0, h1, h2 => rw [eg] at h2; injection h2 with h2; injection h2 with h2 _; subst h2; exact dZ.rk
   | 1, h1, h2 => rw [yf] at h2; injection h2 with h2; injection h2 with h2 _; subst h2; exact U9.rk
   | id + 2, h1, h2 => simp at h1
  have hnh : ∀ b' id i j, ¬ cH [ar.row g1000 2 1 51 (fun _ => [aM g1001 0 g1000, .own 1 g1001 0 l.length]), .row g1001 1 l.length 5 (row cB l)] id i j b' := fun b' id i j ⟨g', bx, n', e', f', _, _, _, _, _, q1, q2, q3, _⟩ => by
   match id, q1 with
   | 0, q1 =>
    simp at q1; obtain ⟨rfl, rfl, rfl, rfl, rfl⟩ := q1
    match j, q3 with
    | 0, q3 => cases g1001 <;> cases q3
    | 1, q3 => cases q3
   | 1, q1 =>
    simp at q1; obtain ⟨rfl, rfl, rfl, rfl, rfl⟩ := q1
    rw [lX q2] at q3
    match j, q3 with
    | 0, q3 => cases q3
   | id + 2, q1 => simp at q1
  have yh : ∀ b', ¬ bP μ [ar.dead, .dead] b' := fun b' kU => by
   rcases kU with ⟨id, g, sz, n, e, f, base, h1, _⟩ | ⟨id, i, j, g, sz, n, e, f, _, _, _, _, _, h1, _⟩
   ·match id, h1 with
    | 0, h1 => cases h1
    | 1, h1 => cases h1
    | id + 2, h1 => simp at h1
   ·match id, h1 with
    | 0, h1 => cases h1
    | 1, h1 => cases h1
    | id + 2, h1 => simp at h1
  have hnr : ∀ (id g sz n : Nat) (e : TypeId) (f : Nat → List PV), [ar.dead, .dead][id]? = some (ar.row g sz n e f) → False := fun id g sz n e f h1 => by
   match id, h1 with
   | 0, h1 => cases h1
   | 1, h1 => cases h1
   | id + 2, h1 => simp at h1
  refine (Ll b gb bb cap l aqv w (by rw [cell_of_row w b 1 cur 51 (0, 0) jL]; exact Bf) avh nS Lm Va h63 (fun j x hx => ?_)).mono ?_
  ·obtain ⟨hj, rfl⟩ := At.1 hx
   obtain ⟨v, h1, h2⟩ := aaP j 0 (.int .u8 (l[j]).toNat) hj (by rw [lX hj]; rfl)
   have h2 : aF S w (.int .u8 (l[j]).toNat) v := h2
   cases h2
   simpa using h1
  ·rintro e w' ⟨rfl, rfl⟩
   have ne : ∀ k, k ≠ gb → (w.drew.freeze ⟨gb, bb, none⟩ l.length).heap[k]? = w.heap[k]? := fun k hk => Gy hk
   obtain ⟨z', hz⟩ := Gz (n := l.length) (base := bb) (w := w.drew) (g := gb) (show w.drew.heap[gb]? = _ from Lm)
   obtain ⟨s1, s2, s3, s4⟩ := B4 (w := w.drew) (p := ⟨gb, bb, none⟩) (n := l.length)
   have hS : ∀ k, S k → (w.drew.freeze ⟨gb, bb, none⟩ l.length).heap[k]? = w.heap[k]? := fun k hk => ne k (fun q => by subst q; exact hM.apart _ hoG hk)
   refine ⟨_, .str l, [.dead, .dead], μ, S, rfl, ⟨rfl, rfl⟩, .str _, fun id g sz n e f h1 => (hnr _ _ _ _ _ _ h1).elim, ⟨fun b' h1 => absurd h1 (yh b'), fun b' h1 => absurd h1 (yh b'), fun k hk => by rw [s1]; exact hM.slt k hk, fun i j g sz n e f _ _ _ _ _ _ _ _ h1 => (hnr _ _ _ _ _ _ h1).elim, hM.known.PM hS (fun _ q => q), fun b' h1 => absurd (.inl h1) (yh b'), fun b' id i j _ _ _ h1 => absurd (.inr ⟨id, i, j, h1⟩) (yh b')⟩,
    ⟨asA _, fun k _ hk => ne k (fun q => by subst q; exact hk hoG), fun _ q => q, fun _ q => .inl q, fun b' h1 => absurd h1 (yh b'), by rw [s1]; exact asA _, s2, s3, s4, fun id g sz n e f h1 => ?_, fun id h1 => ?_, fun k c _ hc => ?_, fun id g sz n e f b' j6 h1 h2 h3 => absurd h3 (OT _ _ _ _ _ _ _ _ h1 h2), fun b' id i j h1 => absurd h1 (hnh _ _ _ _)⟩⟩
   ·match id, h1 with
    | 0, h1 => trivial
    | 1, h1 => trivial
    | id + 2, h1 => simp at h1
   ·match id, h1 with
    | 0, h1 => rfl
    | 1, h1 => rfl
    | id + 2, h1 => simp at h1
   ·by_cases hk : k = gb
    ·subst hk
     obtain ⟨c1, e1, z1, q1, q2⟩ := hc
     rw [Lm] at q1
     injection q1 with q1
     injection q1 with q1 _ _
     subst q1
     exact ⟨_, _, _, hz, q2⟩
    ·exact iJ.of_same (ne k hk) hc
end Go.Am
