/- Texts of the proof, joined and shortened. -/
import Derived.Test.YtiigfbapjeefbaaGreatDoorPk5
import Derived.Test.YtiigfbapjeefbaaGreatDoorShelf
import Derived.Shelf.Strings.Builder1
import Derived.Lib.UnsafeStr
set_option linter.unusedVariables false
set_option linter.unusedSimpArgs false
set_option maxRecDepth 100000
namespace Go.Am
open Go Go.RowKit Go.Proofs
def jq (a0 : Int) : Option (ar) :=
 m73 a0 >>= fun v1 =>
 some v1
theorem uZ {a0 : Int} {r : ar} (h : jq a0 = some r) : ACall Tryz.prog 152 [.int .i64 a0] [] (fun res h => res = .str r ∧ h = []) := by
 refine gd Tryz.func152 ?_
 unfold jq at h
 exact .d (.d (bk h fun v1 lx h => (aS (aoh lx) (eS h))))
def jY (a0 : ar) : Option (Bool) :=
 nA a0 [58, 58] >>= fun (v1, v2, v3) =>
 (if v3 = true then
 (if v1 = ([115, 116, 97, 116, 105, 99] : ar) then
 a8 v2 >>= fun v7 =>
 some v7
 else
 a8 v1 >>= fun v9 =>
 (if v9 = true then
 a8 v2 >>= fun v12 =>
 some v12
 else
 some false))
 else
 some false)
theorem wV {a0 : ar} {r : Bool} (h : jY a0 = some r) : ACall Tryz.prog 144 [.str a0] [] (fun res h => res = .bool r ∧ h = []) := by
 refine gd Tryz.func144 ?_
 unfold jY at h
 refine .d (.d ?_)
 obtain ⟨⟨v1, v2, v3⟩, hv4, h⟩ := bd h
 refine aS (wU hv4) (.d (sV h (fun BZ h => ?_) (fun BZ h => ?_)))
 refine .t (.t (sE h (fun xA h => ?_) (fun xA h => ?_)))
 exact .t (.t (.t (.t (.t (.t (bk h fun v7 hv8 h => (aS (cj hv8) (.t (eB h)))))))))
 refine .f (bk h fun v9 aoi h => (aS (cj aoi) (.t (.f (.t (sV h (fun qZ h => ?_) (fun qZ h => ?_)))))))
 exact .t (bk h fun v12 aoj h => (aS (cj aoj) (.t (eB h))))
 exact .f (.f (eB h))
 exact .f (.f (.f (.f (.f (.f (.f (eB h)))))))
def fN (a1 : Bool) (sC : List ae) (Cr : Bool) (Cs : Int) : Option ((Unit) ⊕ Bool) :=
 (if Cs < (sC.length : Int) then
 idx sC Cs >>= fun sF =>
 ((
 (if sF.ai = 25 then
 (if a1 = true then
 some (.inl true)
 else
 (if sF.ai = 24 then
 (if Cr = true then
 some (.inr (.inr false))
 else
 some (.inl Cr))
 else
 some (.inr (.inr false))))
 else
 (if sF.ai = 24 then
 (if Cr = true then
 some (.inr (.inr false))
 else
 some (.inl Cr))
 else
 some (.inr (.inr false))))
 : Option ((Bool) ⊕ ((Unit) ⊕ Bool))) >>= fun Yv => match Yv with
 | .inr r => some r
 | .inl Jl =>
 EU sF.aD 0 1 >>= fun v222 =>
 (if v222 = true then
 a8 sF.aj >>= fun af5 =>
 (if af5 = true then
 (if (sF.ah.length : Int) > 0 then
 some (.inr false)
 else
 fN a1 sC Jl (aT (Cs + 1)))
 else
 some (.inr false))
 else
 some (.inr false))
 )
 else
 some (.inl ()))
partial_fixpoint
mutual
def bz (a0 : ae) : Option (Bool) :=
 ((
 (if a0.ai = 1 then
 EU a0.aD 0 1000000000 >>= fun v5 =>
 (if v5 = true then
 (if a0.aj = ([] : ar) then
 some (.inr ((a0.ah.length : Int) == 0))
 else
 some (.inr false))
 else
 some (.inr false))
 else
 (if a0.ai = 2 then
 (if a0.aD = 0 then
 (if (a0.aj.length : Int) ≤ 400 then
 some (.inr ((a0.ah.length : Int) == 0))
 else
 some (.inr false))
 else
 some (.inr false))
 else
 (if a0.ai = 3 then
 EU a0.aD 0 2 >>= fun oD =>
 (if oD = true then
 (if a0.aj = ([] : ar) then
 some (.inr ((a0.ah.length : Int) == 0))
 else
 some (.inr false))
 else
 some (.inr false))
 else
 (if a0.ai = 4 then
 eU a0 >>= fun Jm =>
 some (.inr Jm)
 else
 (if a0.ai = 5 then
 ((
 jr a0 0
 : Option ((Unit) ⊕ ((Unit) ⊕ Bool))) >>= fun o21 => match o21 with
 | .inr r => some r
 | .inl _ =>
 (if a0.aD = 0 then
 some (.inr (a0.aj == ([] : ar)))
 else
 some (.inr false))
 )
 else
 (
 (if a0.ai = 7 then
 some (a0.ai == 7)
 else
 (if a0.ai = 11 then
 some (a0.ai == 11)
 else
 (if a0.ai = 12 then
 some (a0.ai == 12)
 else
 some (a0.ai == 13))))
 : Option (Bool)) >>= fun b52 =>
 (if b52 = true then
 (if a0.aD = 0 then
 (if a0.aj = ([] : ar) then
 (if (a0.ah.length : Int) = 2 then
 bu a0.ah >>= fun Jn =>
 some (.inr Jn)
 else
 some (.inr false))
 else
 some (.inr false))
 else
 some (.inr false))
 else
 (if a0.ai = 8 then
 (if a0.aD = 0 then
 a8 a0.aj >>= fun v67 =>
 (if v67 = true then
 (if (a0.ah.length : Int) = 1 then
 bu a0.ah >>= fun v71 =>
 some (.inr v71)
 else
 some (.inr false))
 else
 some (.inr false))
 else
 some (.inr false))
 else
 (if a0.ai = 9 then
 (if a0.aD = 1 then
 (if a0.aj = ([] : ar) then
 (if (a0.ah.length : Int) = 1 then
 bu a0.ah >>= fun v77 =>
 some (.inr v77)
 else
 some (.inr false))
 else
 some (.inr false))
 else
 (if a0.aD = 2 then
 (if a0.aj = ([] : ar) then
 (if (a0.ah.length : Int) = 1 then
 bu a0.ah >>= fun QC =>
 some (.inr QC)
 else
 some (.inr false))
 else
 some (.inr false))
 else
 some (.inr false)))
 else
 (if a0.ai = 10 then
 EU a0.aD 1 15 >>= fun v85 =>
 (if v85 = true then
 (if a0.aj = ([] : ar) then
 (if (a0.ah.length : Int) = 2 then
 bu a0.ah >>= fun v90 =>
 some (.inr v90)
 else
 some (.inr false))
 else
 some (.inr false))
 else
 some (.inr false))
 else
 (if a0.ai = 14 then
 (if a0.aD = 0 then
 (if a0.aj = ([] : ar) then
 (if (a0.ah.length : Int) = 3 then
 bu a0.ah >>= fun v96 =>
 some (.inr v96)
 else
 some (.inr false))
 else
 some (.inr false))
 else
 some (.inr false))
 else
 (
 (if a0.ai = 15 then
 some (a0.ai == 15)
 else
 some (a0.ai == 16))
 : Option (Bool)) >>= fun b98 =>
 (if b98 = true then
 (if a0.aD = 0 then
 (if a0.aj = ([] : ar) then
 (if (a0.ah.length : Int) = 2 then
 bu a0.ah >>= fun v107 =>
 (if v107 = true then
 idx a0.ah 0 >>= fun Yw =>
 jc Yw >>= fun Hi =>
 some (.inr Hi)
 else
 some (.inr false))
 else
 some (.inr false))
 else
 some (.inr false))
 else
 some (.inr false))
 else
 (if a0.ai = 17 then
 (if a0.aD = 0 then
 a8 a0.aj >>= fun af6 =>
 (if af6 = true then
 (if (a0.ah.length : Int) = 1 then
 idx a0.ah 0 >>= fun Yx =>
 eU Yx >>= fun af7 =>
 some (.inr af7)
 else
 some (.inr false))
 else
 some (.inr false))
 else
 some (.inr false))
 else
 (if a0.ai = 18 then
 (if a0.aD = 0 then
 a8 a0.aj >>= fun af8 =>
 (if af8 = true then
 bu a0.ah >>= fun Iz =>
 some (.inr Iz)
 else
 some (.inr false))
 else
 some (.inr false))
 else
 (if a0.ai = 19 then
 (if a0.aD = 0 then
 (if a0.aj = ([] : ar) then
 (if (a0.ah.length : Int) ≥ 1 then
 bu a0.ah >>= fun af9 =>
 some (.inr af9)
 else
 some (.inr false))
 else
 some (.inr false))
 else
 some (.inr false))
 else
 (if a0.ai = 20 then
 (if a0.aD = 0 then
 a8 a0.aj >>= fun v139 =>
 (if v139 = true then
 (if (a0.ah.length : Int) ≥ 1 then
 bu a0.ah >>= fun v143 =>
 some (.inr v143)
 else
 some (.inr false))
 else
 some (.inr false))
 else
 some (.inr false))
 else
 (if a0.ai = 21 then
 (if a0.aD = 0 then
 jY a0.aj >>= fun AL =>
 (if AL = true then
 bu a0.ah >>= fun aga =>
 some (.inr aga)
 else
 some (.inr false))
 else
 some (.inr false))
 else
 (if a0.ai = 22 then
 (if a0.aD = 0 then
 (if a0.aj = ([115, 116, 97, 116, 105, 99] : ar) then
 bu a0.ah >>= fun uS =>
 some (.inr uS)
 else
 a8 a0.aj >>= fun v157 =>
 (if v157 = true then
 bu a0.ah >>= fun v160 =>
 some (.inr v160)
 else
 some (.inr false)))
 else
 some (.inr false))
 else
 (if a0.ai = 23 then
 (if a0.aD = 0 then
 (if a0.aj = ([] : ar) then
 iN a0.ah true >>= fun uN =>
 some (.inr uN)
 else
 some (.inr false))
 else
 some (.inr false))
 else
 some (.inl ())))))))))))))))))))
 : Option ((Unit) ⊕ Bool)) >>= fun o1 => match o1 with
 | .inr r => some r
 | .inl _ =>
 some false
 )
partial_fixpoint
def bu (a0 : List ae) : Option (Bool) :=
 ((
 gT a0 0
 : Option ((Unit) ⊕ Bool)) >>= fun Jo => match Jo with
 | .inr r => some r
 | .inl _ =>
 some true
 )
partial_fixpoint
def iN (a0 : List ae) (a1 : Bool) : Option (Bool) :=
 (if (aT ((a0.length : Int) - 1)) < 0 then
 some false
 else
 idx a0 (aT ((a0.length : Int) - 1)) >>= fun Yy =>
 (if Yy.ai = 48 then
 idx a0 (aT ((a0.length : Int) - 1)) >>= fun Yz =>
 bT Yz >>= fun IA =>
 (if IA = true then
 ((
 G4 a0 (aT ((a0.length : Int) - 1)) >>= fun sC =>
 fN a1 sC false 0
 : Option ((Unit) ⊕ Bool)) >>= fun Jp => match Jp with
 | .inr r => some r
 | .inl _ =>
 some true
 )
 else
 some false)
 else
 some false))
partial_fixpoint
def bT (a0 : ae) : Option (Bool) :=
 (if a0.aD = 0 then
 ((
 (if a0.ai = 31 then
 (if a0.aj = ([] : ar) then
 some (.inr false)
 else
 jX a0.aj [60, 63] >>= fun agb =>
 (if agb = true then
 some (.inr false)
 else
 some (.inr ((a0.ah.length : Int) == 0))))
 else
 (
 (if a0.ai = 32 then
 some (a0.ai == 32)
 else
 (if a0.ai = 33 then
 some (a0.ai == 33)
 else
 some (a0.ai == 42)))
 : Option (Bool)) >>= fun Jq =>
 (if Jq = true then
 (if a0.aj = ([] : ar) then
 (if (a0.ah.length : Int) = 1 then
 idx a0.ah 0 >>= fun YA =>
 bz YA >>= fun agc =>
 some (.inr agc)
 else
 some (.inr false))
 else
 some (.inr false))
 else
 (if a0.ai = 34 then
 (if a0.aj = ([] : ar) then
 EU (a0.ah.length : Int) 2 3 >>= fun Hp =>
 (if Hp = true then
 idx a0.ah 0 >>= fun uV =>
 bz uV >>= fun yF =>
 (if yF = true then
 jK a0.ah 1 >>= fun NY =>
 dG NY >>= fun agd =>
 some (.inr agd)
 else
 some (.inr false))
 else
 some (.inr false))
 else
 some (.inr false))
 else
 (if a0.ai = 35 then
 (if a0.aj = ([] : ar) then
 (if (a0.ah.length : Int) = 2 then
 idx a0.ah 0 >>= fun YB =>
 bz YB >>= fun age =>
 (if age = true then
 jK a0.ah 1 >>= fun NZ =>
 dG NZ >>= fun agf =>
 some (.inr agf)
 else
 some (.inr false))
 else
 some (.inr false))
 else
 some (.inr false))
 else
 (if a0.ai = 36 then
 (if a0.aj = ([] : ar) then
 EU (a0.ah.length : Int) 3 4 >>= fun agh =>
 (if agh = true then
 idx a0.ah 0 >>= fun YC =>
 bz YC >>= fun agi =>
 (if agi = true then
 idx a0.ah 1 >>= fun YD =>
 eU YD >>= fun agj =>
 (if agj = true then
 (if (a0.ah.length : Int) = 3 then
 jK a0.ah (aT ((a0.ah.length : Int) - 1)) >>= fun N0 =>
 dG N0 >>= fun agk =>
 some (.inr agk)
 else
 idx a0.ah 2 >>= fun YE =>
 eU YE >>= fun agl =>
 (if agl = true then
 jK a0.ah (aT ((a0.ah.length : Int) - 1)) >>= fun N1 =>
 dG N1 >>= fun Hr =>
 some (.inr Hr)
 else
 some (.inr false)))
 else
 some (.inr false))
 else
 some (.inr false))
 else
 some (.inr false))
 else
 some (.inr false))
 else
 (
 (if a0.ai = 37 then
 some (a0.ai == 37)
 else
 some (a0.ai == 38))
 : Option (Bool)) >>= fun Jr =>
 (if Jr = true then
 (if a0.aj = ([] : ar) then
 some (.inr ((a0.ah.length : Int) == 0))
 else
 some (.inr false))
 else
 (if a0.ai = 39 then
 (if a0.aj = ([] : ar) then
 (if (a0.ah.length : Int) ≤ 1 then
 bu a0.ah >>= fun agm =>
 some (.inr agm)
 else
 some (.inr false))
 else
 some (.inr false))
 else
 (if a0.ai = 40 then
 a8 a0.aj >>= fun AM =>
 (if AM = true then
 some (.inr ((a0.ah.length : Int) == 0))
 else
 some (.inr false))
 else
 (if a0.ai = 41 then
 (if a0.aj = ([] : ar) then
 (if (a0.ah.length : Int) = 1 then
 idx a0.ah 0 >>= fun Ce =>
 nB Ce >>= fun nz =>
 some (.inr nz)
 else
 some (.inr false))
 else
 some (.inr false))
 else
 (if a0.ai = 46 then
 (if a0.aj = ([] : ar) then
 (if (a0.ah.length : Int) = 1 then
 idx a0.ah (aT ((a0.ah.length : Int) - 1)) >>= fun YF =>
 bz YF >>= fun agn =>
 some (.inr agn)
 else
 (if (a0.ah.length : Int) = 2 then
 idx a0.ah 0 >>= fun gG =>
 eU gG >>= fun uP =>
 (if uP = true then
 idx a0.ah (aT ((a0.ah.length : Int) - 1)) >>= fun YG =>
 bz YG >>= fun ago =>
 some (.inr ago)
 else
 some (.inr false))
 else
 some (.inr false)))
 else
 some (.inr false))
 else
 (if a0.ai = 47 then
 (if (a0.aj.length : Int) ≤ 400 then
 some (.inr ((a0.ah.length : Int) == 0))
 else
 some (.inr false))
 else
 (if a0.ai = 48 then
 ((
 js a0 0
 : Option ((Unit) ⊕ ((Unit) ⊕ Bool))) >>= fun AN => match AN with
 | .inr r => some r
 | .inl _ =>
 some (.inr (a0.aj == ([] : ar)))
 )
 else
 (if a0.ai = 43 then
 (if a0.aj = ([] : ar) then
 pD a0.ah >>= fun agp =>
 some (.inr agp)
 else
 some (.inr false))
 else
 some (.inl ()))))))))))))))
 : Option ((Unit) ⊕ Bool)) >>= fun YH => match YH with
 | .inr r => some r
 | .inl _ =>
 some false
 )
 else
 some false)
partial_fixpoint
def dG (a0 : List ae) : Option (Bool) :=
 ((
 jt a0 0
 : Option ((Unit) ⊕ Bool)) >>= fun Js => match Js with
 | .inr r => some r
 | .inl _ =>
 some true
 )
partial_fixpoint
def pD (a0 : List ae) : Option (Bool) :=
 (if (a0.length : Int) < 2 then
 some false
 else
 G4 a0 1 >>= fun N2 =>
 dG N2 >>= fun AO =>
 (if AO = true then
 jK a0 1 >>= fun EV =>
 ((
 idx EV 0 >>= fun uf =>
 (if uf.ai = 44 then
 (if uf.aD = 0 then
 a8 uf.aj >>= fun N3 =>
 (if N3 = true then
 (if (uf.ah.length : Int) = 2 then
 idx uf.ah 0 >>= fun yK =>
 eU yK >>= fun wW =>
 (if wW = true then
 jK uf.ah 1 >>= fun EW =>
 dG EW >>= fun N4 =>
 (if N4 = true then
 jK EV 1 >>= fun N5 =>
 some (.inl N5)
 else
 some (.inr false))
 else
 some (.inr false))
 else
 some (.inr false))
 else
 some (.inr false))
 else
 some (.inr false))
 else
 some (.inl EV))
 : Option (((List ae)) ⊕ Bool)) >>= fun YI => match YI with
 | .inr r => some r
 | .inl Ct =>
 (if (Ct.length : Int) = 0 then
 some true
 else
 idx Ct 0 >>= fun oI =>
 (if (Ct.length : Int) = 1 then
 (if oI.ai = 45 then
 (if oI.aD = 0 then
 (if oI.aj = ([] : ar) then
 (if (oI.ah.length : Int) = 1 then
 dG oI.ah >>= fun EZ =>
 some EZ
 else
 some false)
 else
 some false)
 else
 some false)
 else
 some false)
 else
 some false))
 )
 else
 some false))
partial_fixpoint
def nB (a0 : ae) : Option (Bool) :=
 jc a0 >>= fun agq =>
 (if agq = true then
 bz a0 >>= fun IG =>
 some IG
 else
 some false)
partial_fixpoint
def jr (a0 : ae) (oA : Int) : Option ((Unit) ⊕ ((Unit) ⊕ Bool)) :=
 (if oA < (a0.ah.length : Int) then
 idx a0.ah oA >>= fun u5 =>
 (if u5.ai = 6 then
 (if u5.aD = 0 then
 (if u5.aj = ([] : ar) then
 EU (u5.ah.length : Int) 1 2 >>= fun v40 =>
 (if v40 = true then
 bu u5.ah >>= fun N6 =>
 (if N6 = true then
 jr a0 (aT (oA + 1))
 else
 some (.inr (.inr false)))
 else
 some (.inr (.inr false)))
 else
 some (.inr (.inr false)))
 else
 some (.inr (.inr false)))
 else
 some (.inr (.inr false)))
 else
 some (.inl ()))
partial_fixpoint
def gT (a0 : List ae) (iD : Int) : Option ((Unit) ⊕ Bool) :=
 (if iD < (a0.length : Int) then
 idx a0 iD >>= fun qu =>
 bz qu >>= fun v183 =>
 (if v183 = true then
 gT a0 (aT (iD + 1))
 else
 some (.inr false))
 else
 some (.inl ()))
partial_fixpoint
def js (a0 : ae) (iF : Int) : Option ((Unit) ⊕ ((Unit) ⊕ Bool)) :=
 (if iF < (a0.ah.length : Int) then
 idx a0.ah iF >>= fun qm =>
 bT qm >>= fun E0 =>
 (if E0 = true then
 js a0 (aT (iF + 1))
 else
 some (.inr (.inr false)))
 else
 some (.inl ()))
partial_fixpoint
def jt (a0 : List ae) (iG : Int) : Option ((Unit) ⊕ Bool) :=
 (if iG < (a0.length : Int) then
 idx a0 iG >>= fun rr =>
 (if rr.ai = 48 then
 bT rr >>= fun E1 =>
 (if E1 = true then
 jt a0 (aT (iG + 1))
 else
 some (.inr false))
 else
 some (.inr false))
 else
 some (.inl ()))
partial_fixpoint
end
def DK (a0 : ae) (r : Bool) : Prop := ACall Tryz.prog 72 [.agg a0.lit] [] (fun res h => res = .bool r ∧ h = [])
def yL (a0 : List ae) (r : Bool) : Prop := ACall Tryz.prog 139 [sl 4 ae.cells a0] [] (fun res h => res = .bool r ∧ h = [])
def Jt (a0 : List ae) (a1 : Bool) (r : Bool) : Prop := ACall Tryz.prog 134 [sl 4 ae.cells a0, .bool a1] [] (fun res h => res = .bool r ∧ h = [])
def xB (a0 : ae) (r : Bool) : Prop := ACall Tryz.prog 68 [.agg a0.lit] [] (fun res h => res = .bool r ∧ h = [])
def Ju (a0 : List ae) (r : Bool) : Prop := ACall Tryz.prog 137 [sl 4 ae.cells a0] [] (fun res h => res = .bool r ∧ h = [])
def Jv (a0 : List ae) (r : Bool) : Prop := ACall Tryz.prog 141 [sl 4 ae.cells a0] [] (fun res h => res = .bool r ∧ h = [])
def Jw (a0 : ae) (r : Bool) : Prop := ACall Tryz.prog 140 [.agg a0.lit] [] (fun res h => res = .bool r ∧ h = [])
inductive eo : ae → Int → ((Unit) ⊕ ((Unit) ⊕ Bool)) → Prop
 | mk (Jx : (List ae) → Option (Bool)) (agr : ∀ a0 r, Jx a0 = some r → yL a0 r) (fF : ae → Int → Option ((Unit) ⊕ ((Unit) ⊕ Bool))) (sG : ∀ a0 oA o, fF a0 oA = some o → eo a0 oA o) (a0 : ae) (oA : Int) (o : (Unit) ⊕ ((Unit) ⊕ Bool)) (h : (
 (if oA < (a0.ah.length : Int) then
 idx a0.ah oA >>= fun u5 =>
 (if u5.ai = 6 then
 (if u5.aD = 0 then
 (if u5.aj = ([] : ar) then
 EU (u5.ah.length : Int) 1 2 >>= fun v40 =>
 (if v40 = true then
 Jx u5.ah >>= fun N6 =>
 (if N6 = true then
 fF a0 (aT (oA + 1))
 else
 some (.inr (.inr false)))
 else
 some (.inr (.inr false)))
 else
 some (.inr (.inr false)))
 else
 some (.inr (.inr false)))
 else
 some (.inr (.inr false)))
 else
 some (.inl ()))
 ) = some o) : eo a0 oA o
theorem ru {motive : ae → Int → ((Unit) ⊕ ((Unit) ⊕ Bool)) → Prop} (step : ∀ (Jx : (List ae) → Option (Bool)) (agr : ∀ a0 r, Jx a0 = some r → yL a0 r) (fF : ae → Int → Option ((Unit) ⊕ ((Unit) ⊕ Bool))) (sG : ∀ a0 oA o, fF a0 oA = some o → eo a0 oA o) (a0 : ae) (oA : Int) (o : (Unit) ⊕ ((Unit) ⊕ Bool)) (h : (
 (if oA < (a0.ah.length : Int) then
 idx a0.ah oA >>= fun u5 =>
 (if u5.ai = 6 then
 (if u5.aD = 0 then
 (if u5.aj = ([] : ar) then
 EU (u5.ah.length : Int) 1 2 >>= fun v40 =>
 (if v40 = true then
 Jx u5.ah >>= fun N6 =>
 (if N6 = true then
 fF a0 (aT (oA + 1))
 else
 some (.inr (.inr false)))
 else
 some (.inr (.inr false)))
 else
 some (.inr (.inr false)))
 else
 some (.inr (.inr false)))
 else
 some (.inr (.inr false)))
 else
 some (.inl ()))
 ) = some o) (ih : ∀ a0 oA o, fF a0 oA = some o → motive a0 oA o), motive a0 oA o) : ∀ a0 oA o, eo a0 oA o → motive a0 oA o :=
 fun a0 oA o h => eo.rec (motive := fun a0 oA o _ => motive a0 oA o) step h
inductive dc : (List ae) → Int → ((Unit) ⊕ Bool) → Prop
 | mk (G72 : ae → Option (Bool)) (aok : ∀ a0 r, G72 a0 = some r → DK a0 r) (ee : (List ae) → Int → Option ((Unit) ⊕ Bool)) (qv : ∀ a0 iD o, ee a0 iD = some o → dc a0 iD o) (a0 : List ae) (iD : Int) (o : (Unit) ⊕ Bool) (h : (
 (if iD < (a0.length : Int) then
 idx a0 iD >>= fun qu =>
 G72 qu >>= fun v183 =>
 (if v183 = true then
 ee a0 (aT (iD + 1))
 else
 some (.inr false))
 else
 some (.inl ()))
 ) = some o) : dc a0 iD o
theorem pU {motive : (List ae) → Int → ((Unit) ⊕ Bool) → Prop} (step : ∀ (G72 : ae → Option (Bool)) (aok : ∀ a0 r, G72 a0 = some r → DK a0 r) (ee : (List ae) → Int → Option ((Unit) ⊕ Bool)) (qv : ∀ a0 iD o, ee a0 iD = some o → dc a0 iD o) (a0 : List ae) (iD : Int) (o : (Unit) ⊕ Bool) (h : (
 (if iD < (a0.length : Int) then
 idx a0 iD >>= fun qu =>
 G72 qu >>= fun v183 =>
 (if v183 = true then
 ee a0 (aT (iD + 1))
 else
 some (.inr false))
 else
 some (.inl ()))
 ) = some o) (ih : ∀ a0 iD o, ee a0 iD = some o → motive a0 iD o), motive a0 iD o) : ∀ a0 iD o, dc a0 iD o → motive a0 iD o :=
 fun a0 iD o h => dc.rec (motive := fun a0 iD o _ => motive a0 iD o) step h
inductive ep : ae → Int → ((Unit) ⊕ ((Unit) ⊕ Bool)) → Prop
 | mk (Jy : ae → Option (Bool)) (YJ : ∀ a0 r, Jy a0 = some r → xB a0 r) (fG : ae → Int → Option ((Unit) ⊕ ((Unit) ⊕ Bool))) (sH : ∀ a0 iF o, fG a0 iF = some o → ep a0 iF o) (a0 : ae) (iF : Int) (o : (Unit) ⊕ ((Unit) ⊕ Bool)) (h : (
 (if iF < (a0.ah.length : Int) then
 idx a0.ah iF >>= fun qm =>
 Jy qm >>= fun E0 =>
 (if E0 = true then
 fG a0 (aT (iF + 1))
 else
 some (.inr (.inr false)))
 else
 some (.inl ()))
 ) = some o) : ep a0 iF o
theorem rv {motive : ae → Int → ((Unit) ⊕ ((Unit) ⊕ Bool)) → Prop} (step : ∀ (Jy : ae → Option (Bool)) (YJ : ∀ a0 r, Jy a0 = some r → xB a0 r) (fG : ae → Int → Option ((Unit) ⊕ ((Unit) ⊕ Bool))) (sH : ∀ a0 iF o, fG a0 iF = some o → ep a0 iF o) (a0 : ae) (iF : Int) (o : (Unit) ⊕ ((Unit) ⊕ Bool)) (h : (
 (if iF < (a0.ah.length : Int) then
 idx a0.ah iF >>= fun qm =>
 Jy qm >>= fun E0 =>
 (if E0 = true then
 fG a0 (aT (iF + 1))
 else
 some (.inr (.inr false)))
 else
 some (.inl ()))
 ) = some o) (ih : ∀ a0 iF o, fG a0 iF = some o → motive a0 iF o), motive a0 iF o) : ∀ a0 iF o, ep a0 iF o → motive a0 iF o :=
 fun a0 iF o h => ep.rec (motive := fun a0 iF o _ => motive a0 iF o) step h
inductive er : (List ae) → Int → ((Unit) ⊕ Bool) → Prop
 | mk (Jy : ae → Option (Bool)) (YJ : ∀ a0 r, Jy a0 = some r → xB a0 r) (fJ : (List ae) → Int → Option ((Unit) ⊕ Bool)) (sI : ∀ a0 iG o, fJ a0 iG = some o → er a0 iG o) (a0 : List ae) (iG : Int) (o : (Unit) ⊕ Bool) (h : (
 (if iG < (a0.length : Int) then
 idx a0 iG >>= fun rr =>
 (if rr.ai = 48 then
 Jy rr >>= fun E1 =>
 (if E1 = true then
 fJ a0 (aT (iG + 1))
 else
 some (.inr false))
 else
 some (.inr false))
 else
 some (.inl ()))
 ) = some o) : er a0 iG o
theorem rz {motive : (List ae) → Int → ((Unit) ⊕ Bool) → Prop} (step : ∀ (Jy : ae → Option (Bool)) (YJ : ∀ a0 r, Jy a0 = some r → xB a0 r) (fJ : (List ae) → Int → Option ((Unit) ⊕ Bool)) (sI : ∀ a0 iG o, fJ a0 iG = some o → er a0 iG o) (a0 : List ae) (iG : Int) (o : (Unit) ⊕ Bool) (h : (
 (if iG < (a0.length : Int) then
 idx a0 iG >>= fun rr =>
 (if rr.ai = 48 then
 Jy rr >>= fun E1 =>
 (if E1 = true then
 fJ a0 (aT (iG + 1))
 else
 some (.inr false))
 else
 some (.inr false))
 else
 some (.inl ()))
 ) = some o) (ih : ∀ a0 iG o, fJ a0 iG = some o → motive a0 iG o), motive a0 iG o) : ∀ a0 iG o, er a0 iG o → motive a0 iG o :=
 fun a0 iG o h => er.rec (motive := fun a0 iG o _ => motive a0 iG o) step h
theorem wX : (∀ a0 r, bz a0 = some r → DK a0 r) ∧ (∀ a0 a1 r, iN a0 a1 = some r → Jt a0 a1 r) ∧ (∀ a0 r, bT a0 = some r → xB a0 r) ∧ (∀ a0 r, pD a0 = some r → Jv a0 r) ∧ (∀ a0 r, dG a0 = some r → Ju a0 r) ∧ (∀ a0 iG o, jt a0 iG = some o → er a0 iG o) ∧ (∀ a0 iF o, js a0 iF = some o → ep a0 iF o) ∧ (∀ a0 r, nB a0 = some r → Jw a0 r) ∧ (∀ a0 r, bu a0 = some r → yL a0 r) ∧ (∀ a0 iD o, gT a0 iD = some o → dc a0 iD o) ∧ (∀ a0 oA o, jr a0 oA = some o → eo a0 oA o) := by
 refine bz.mutual_partial_correctness DK Jt xB Jv Ju er ep Jw yL dc eo ?_ ?_ ?_ ?_ ?_ ?_ ?_ ?_ ?_ ?_ ?_
 intro _ _ _ YK jE aol a0 r h
 refine gd Tryz.func72 ?_
 refine .d (.d ⟨rfl, ⟨rfl, _, rfl, (.d ⟨rfl, ⟨rfl, _, rfl, (.d ⟨rfl, ⟨rfl, _, rfl, ?_⟩⟩)⟩⟩)⟩⟩)
 obtain ⟨o1, N7, gL⟩ := bd h
 replace h := N7
 refine .cut (fun σ η => .inl () = o1 ∧ σ = [] ∧ η = []) ?_ ?_
 refine .d ⟨rfl, ⟨rfl, _, rfl, (.d (sE h (fun DH h => ?_) (fun DH h => ?_)))⟩⟩
 refine .d ⟨rfl, ⟨rfl, _, rfl, (bk h fun v5 hv6 h => (aS (Cu hv6) (sV h (fun B2 h => ?_) (fun B2 h => ?_))))⟩⟩
 refine .t (sE h (fun DL h => ?_) (fun DL h => ?_))
 refine .t (.t ?_)
 exact asJ
 refine .f (.f ?_)
 exact asJ
 refine .f (.f (.f (.f ?_)))
 exact asJ
 refine .d (sE h (fun B1 h => ?_) (fun B1 h => ?_))
 refine .d (sE h (fun lT h => ?_) (fun lT h => ?_))
 refine ⟨rfl, (.t ⟨rfl, _, rfl, (.t (.t (.t (sD h (fun qZ h => ?_) (fun qZ h => ?_)))))⟩)⟩
 refine .t (.t ?_)
 exact asJ
 refine .f (.f ?_)
 exact asJ
 refine .f (.f (.f (.f (.f (.f (.f ?_))))))
 exact asJ
 refine .d (sE h (fun oa h => ?_) (fun oa h => ?_))
 refine .d ⟨rfl, ⟨rfl, _, rfl, (bk h fun oD qf h => (aS (Cu qf) (sV h (fun lU h => ?_) (fun lU h => ?_))))⟩⟩
 refine .t (sE h (fun pT h => ?_) (fun pT h => ?_))
 refine .t (.t ?_)
 exact asJ
 refine .f (.f ?_)
 exact asJ
 refine .f (.f (.f (.f ?_)))
 exact asJ
 refine .d (sE h (fun ri h => ?_) (fun ri h => ?_))
 refine .d ⟨rfl, _, rfl, (bk h fun Jm YL h => (aS (kq YL) ?_))⟩
 exact asJ
 refine .d (sE h (fun wY h => ?_) (fun wY h => ?_))
 obtain ⟨o21, aom, E2⟩ := bd h
 replace h := aom
 refine .cut (fun σ η => .inl () = o21 ∧ σ = [(4, .bool (a0.aD == 0)), (5, .bool (a0.aj == ([] : ar)))] ∧ η = []) ?_ ?_
 refine .d ⟨rfl, ⟨rfl, _, rfl, ?_⟩⟩
 have aon := aol _ _ _ h
 refine le (ru (motive := fun p48 oA o46 => a0 = p48 → o21 = o46 → aG _ _ [(4, .bool (a0.aD == 0)), (5, .bool (a0.aj == ([] : ar))), (63, sl 4 ae.cells a0.ah), (64, .int .i64 (a0.ah.length : Int)), (65, .int .i64 oA)] []) ?_ a0 0 o21 aon rfl rfl) (tk [] ⟨.b, .b, .l, .i, .i, ⟨⟩⟩ ⟨⟩)
 intro _ aoo _ _ p48 oA o46 h aop  YM aoq
 subst YM
 subst aoq
 refine aG.round (.d (.d (sD h (fun Hw h => ?_) (fun Hw h => ?_))))
 refine .d (.d (bk h fun u5 Iy h => ⟨aA Iy, _, (ax Iy).trans (ae.au u5), ⟨rfl, _, fun _ => [.int .i64 u5.ai, .int .i64 u5.aD, .str u5.aj, sl 4 ae.cells u5.ah], rfl, bX rfl, (.d ⟨rfl, ⟨rfl, _, rfl, (sN h (fun Hy h => ?_) (fun Hy h => ?_))⟩⟩)⟩⟩))
 refine .t (.t (.t (.t (.t (.t (.t (.t (.t (.t (.t (.t (.t (.t (.t ?_))))))))))))))
 refine .t (.t (.t (.t (.d ?_))))
 obtain rfl := si h
 replace h := E2
 exact asJ
 refine ⟨rfl, (.f ⟨rfl, _, rfl, (.f (.f (sN h (fun YN h => ?_) (fun YN h => ?_))))⟩)⟩
 refine .t (.t (.t (.t (.t (.t (.t (.t (.t (.t (.t (.t (.t (.t (.t ?_))))))))))))))
 refine .d ?_
 obtain rfl := si h
 replace h := E2
 exact asJ
 refine ⟨rfl, (.f ⟨rfl, _, rfl, (.f (.f (VN h (fun Jz h => ?_) (fun Jz h => ?_))))⟩)⟩
 refine .t (.t (.t (.t (.t (.t (.t (.t (.t (.t (.t (.d ?_)))))))))))
 obtain rfl := si h
 replace h := E2
 exact asJ
 refine ⟨rfl, (.f ⟨rfl, _, rfl, (.f (.f (bk h fun v40 JA h => (aS (Cu JA) (.f (.f (l8 h (fun YO h => ?_) (fun YO h => ?_))))))))⟩)⟩
 refine .t (.t (.t (.t (.t (.d ?_)))))
 obtain rfl := si h
 replace h := E2
 exact asJ
 refine ⟨rfl, (.f ⟨rfl, _, rfl, (.f (bk h fun N6 YP h => (aS (aoo _ _ YP) (.f (.f (l8 h (fun YQ h => ?_) (fun YQ h => ?_)))))))⟩)⟩
 refine .d ?_
 obtain rfl := si h
 replace h := E2
 exact asJ
 exact lg (aop _ _ _ h rfl rfl) (tk [] ⟨.b, .b, .l, .i, .i, ⟨⟩⟩ ⟨⟩)
 exact ct ⟨si h, rfl, rfl⟩ (tk [] ⟨.b, .b, ⟨⟩⟩ ⟨⟩)
 rintro _ _ ⟨rfl, rfl, rfl⟩
 replace h := E2
 refine .d (sE h (fun Hz h => ?_) (fun Hz h => ?_))
 refine .t ?_
 exact asJ
 refine .f ?_
 exact asJ
 obtain ⟨o53, aor, aos⟩ := bd h
 replace h := aor
 refine .cut (fun σ η => ∃ b52, b52 = o53 ∧ σ = [(1, .aM 0 0 0 0), (3, .int .i64 (a0.ah.length : Int)), (4, .bool (a0.aD == 0)), (5, .bool (a0.aj == ([] : ar))), (18, .int .i64 a0.ai), (100, .bool b52)] ∧ η = [.row 0 4 1 29 (fun _ => a0.lit)]) ?_ ?_
 refine .d (sE h (fun YR h => ?_) (fun YR h => ?_))
 exact atb
 refine .d (sE h (fun aot h => ?_) (fun aot h => ?_))
 exact atb
 refine .d (sE h (fun aou h => ?_) (fun aou h => ?_))
 exact atb
 exact atb
 rintro _ _ ⟨b52, rfl, rfl, rfl⟩
 replace h := aos
 refine sV h (fun aov h => ?_) (fun aov h => ?_)
 refine .d (sE h (fun aow h => ?_) (fun aow h => ?_))
 refine .t (sE h (fun HD h => ?_) (fun HD h => ?_))
 refine .t (.t (sE h (fun HG h => ?_) (fun HG h => ?_)))
 refine ⟨rfl, (.t ⟨rfl, _, rfl, (.t (bk h fun Jn JB h => (aS (jE _ _ JB) (.t ?_))))⟩)⟩
 exact asJ
 refine .f (.f (.f ?_))
 exact asJ
 refine .f (.f (.f (.f (.f (.f ?_)))))
 exact asJ
 refine .f (.f (.f (.f (.f (.f (.f (.f ?_)))))))
 exact asJ
 refine .d (sE h (fun HH h => ?_) (fun HH h => ?_))
 refine .d (sE h (fun VP h => ?_) (fun VP h => ?_))
 refine ⟨rfl, (.t ⟨rfl, _, rfl, (.t (bk h fun v67 VQ h => (aS (cj VQ) (.t (sV h (fun VR h => ?_) (fun VR h => ?_))))))⟩)⟩
 refine .t (.t (sE h (fun VS h => ?_) (fun VS h => ?_)))
 refine ⟨rfl, (.t ⟨rfl, _, rfl, (.t (bk h fun v71 VT h => (aS (jE _ _ VT) (.t ?_))))⟩)⟩
 exact asJ
 refine .f (.f (.f ?_))
 exact asJ
 refine .f (.f (.f (.f (.f (.f ?_)))))
 exact asJ
 refine .f (.f (.f (.f (.f (.f (.f (.f (.f (.f ?_)))))))))
 exact asJ
 refine .d (sE h (fun YS h => ?_) (fun YS h => ?_))
 refine .d ⟨rfl, ⟨rfl, _, rfl, (sE h (fun YT h => ?_) (fun YT h => ?_))⟩⟩
 refine .t (.t (.t (.t (.t (sE h (fun aox h => ?_) (fun aox h => ?_))))))
 refine .t (.t (sE h (fun aoy h => ?_) (fun aoy h => ?_)))
 refine ⟨rfl, (.t ⟨rfl, _, rfl, (.t (bk h fun v77 aoz h => (aS (jE _ _ aoz) (.t ?_))))⟩)⟩
 exact asJ
 refine .f (.f (.f ?_))
 exact asJ
 refine .f (.f (.f (.f (.f (.f ?_)))))
 exact asJ
 refine ⟨rfl, (.f ⟨rfl, _, rfl, (.f (.f (sE h (fun VV h => ?_) (fun VV h => ?_))))⟩)⟩
 refine .t (sE h (fun aoA h => ?_) (fun aoA h => ?_))
 refine .t (.t (sE h (fun Ym h => ?_) (fun Ym h => ?_)))
 refine ⟨rfl, (.t ⟨rfl, _, rfl, (.t (bk h fun QC HI h => (aS (jE _ _ HI) (.t ?_))))⟩)⟩
 exact asJ
 refine .f (.f (.f ?_))
 exact asJ
 refine .f (.f (.f (.f (.f (.f ?_)))))
 exact asJ
 refine .f (.f (.f (.f (.f (.f (.f (.f ?_)))))))
 exact asJ
 refine .d (sE h (fun VW h => ?_) (fun VW h => ?_))
 refine .d ⟨rfl, ⟨rfl, _, rfl, (bk h fun v85 VX h => (aS (Cu VX) (sV h (fun VY h => ?_) (fun VY h => ?_))))⟩⟩
 refine .t (sE h (fun VZ h => ?_) (fun VZ h => ?_))
 refine .t (.t (sE h (fun YU h => ?_) (fun YU h => ?_)))
 refine ⟨rfl, (.t ⟨rfl, _, rfl, (.t (bk h fun v90 YV h => (aS (jE _ _ YV) (.t ?_))))⟩)⟩
 exact asJ
 refine .f (.f (.f ?_))
 exact asJ
 refine .f (.f (.f (.f (.f (.f ?_)))))
 exact asJ
 refine .f (.f (.f (.f (.f (.f (.f (.f ?_)))))))
 exact asJ
 refine .d (sE h (fun aoB h => ?_) (fun aoB h => ?_))
 refine .d (sE h (fun aoC h => ?_) (fun aoC h => ?_))
 refine .t (sE h (fun aoD h => ?_) (fun aoD h => ?_))
 refine .t (.t (sE h (fun Yn h => ?_) (fun Yn h => ?_)))
 refine ⟨rfl, (.t ⟨rfl, _, rfl, (.t (bk h fun v96 aoE h => (aS (jE _ _ aoE) (.t ?_))))⟩)⟩
 exact asJ
 refine .f (.f (.f ?_))
 exact asJ
 refine .f (.f (.f (.f (.f (.f ?_)))))
 exact asJ
 refine .f (.f (.f (.f (.f (.f (.f (.f ?_)))))))
 exact asJ
 obtain ⟨o99, ags, agt⟩ := bd h
 replace h := ags
 refine .cut (fun σ η => ∃ b98, b98 = o99 ∧ σ = [(1, .aM 0 0 0 0), (3, .int .i64 (a0.ah.length : Int)), (4, .bool (a0.aD == 0)), (5, .bool (a0.aj == ([] : ar))), (18, .int .i64 a0.ai), (189, .bool b98)] ∧ η = [.row 0 4 1 29 (fun _ => a0.lit)]) ?_ ?_
 refine .d (sE h (fun HK h => ?_) (fun HK h => ?_))
 exact atb
 exact atb
 rintro _ _ ⟨b98, rfl, rfl, rfl⟩
 replace h := agt
 refine sV h (fun agu h => ?_) (fun agu h => ?_)
 refine .d (sE h (fun IZ h => ?_) (fun IZ h => ?_))
 refine .t (sE h (fun JC h => ?_) (fun JC h => ?_))
 refine .t (.t (sE h (fun agv h => ?_) (fun agv h => ?_)))
 refine ⟨rfl, (.t ⟨rfl, _, rfl, (.t (bk h fun v107 I0 h => (aS (jE _ _ I0) (.t (sV h (fun z8 h => ?_) (fun z8 h => ?_))))))⟩)⟩
 refine ⟨rfl, (.t ⟨rfl, _, rfl, (.t (bk h fun Yw Tr h => ⟨aA Tr, _, (ax Tr).trans (ae.au Yw), (.t (.t (bk h fun Hi HL h => (aS (p5 HL) (.t ?_)))))⟩))⟩)⟩
 exact asJ
 refine .f (.f (.f (.f (.f ?_))))
 exact asJ
 refine .f (.f (.f (.f (.f (.f (.f (.f (.f ?_))))))))
 exact asJ
 refine .f (.f (.f (.f (.f (.f (.f (.f (.f (.f (.f (.f ?_)))))))))))
 exact asJ
 refine .f (.f (.f (.f (.f (.f (.f (.f (.f (.f (.f (.f (.f (.f ?_)))))))))))))
 exact asJ
 refine .d (sE h (fun HM h => ?_) (fun HM h => ?_))
 refine .d (sE h (fun agw h => ?_) (fun agw h => ?_))
 refine ⟨rfl, (.t ⟨rfl, _, rfl, (.t (bk h fun af6 agx h => (aS (cj agx) (.t (sV h (fun agy h => ?_) (fun agy h => ?_))))))⟩)⟩
 refine .t (.t (sE h (fun agz h => ?_) (fun agz h => ?_)))
 refine ⟨rfl, (.t ⟨rfl, _, rfl, (.t (bk h fun Yx Ts h => ⟨aA Ts, _, (ax Ts).trans (ae.au Yx), (.t (.t (bk h fun af7 agA h => (aS (kq agA) (.t ?_)))))⟩))⟩)⟩
 exact asJ
 refine .f (.f (.f (.f (.f ?_))))
 exact asJ
 refine .f (.f (.f (.f (.f (.f (.f (.f ?_)))))))
 exact asJ
 refine .f (.f (.f (.f (.f (.f (.f (.f (.f (.f (.f (.f ?_)))))))))))
 exact asJ
 refine .d (sE h (fun agB h => ?_) (fun agB h => ?_))
 refine .d (sE h (fun agC h => ?_) (fun agC h => ?_))
 refine ⟨rfl, (.t ⟨rfl, _, rfl, (.t (bk h fun af8 agD h => (aS (cj agD) (.t (sV h (fun Is h => ?_) (fun Is h => ?_))))))⟩)⟩
 refine ⟨rfl, (.t ⟨rfl, _, rfl, (.t (bk h fun Iz I2 h => (aS (jE _ _ I2) (.t ?_))))⟩)⟩
 exact asJ
 refine .f (.f (.f ?_))
 exact asJ
 refine .f (.f (.f (.f (.f (.f (.f ?_))))))
 exact asJ
 refine .d (sE h (fun agE h => ?_) (fun agE h => ?_))
 refine .d (sE h (fun agF h => ?_) (fun agF h => ?_))
 refine .t (sE h (fun Iu h => ?_) (fun Iu h => ?_))
 refine .t (.t (sD h (fun JD h => ?_) (fun JD h => ?_)))
 refine ⟨rfl, (.t ⟨rfl, _, rfl, (.t (bk h fun af9 agG h => (aS (jE _ _ agG) (.t ?_))))⟩)⟩
 exact asJ
 refine .f (.f (.f ?_))
 exact asJ
 refine .f (.f (.f (.f (.f (.f ?_)))))
 exact asJ
 refine .f (.f (.f (.f (.f (.f (.f (.f ?_)))))))
 exact asJ
 refine .d (sE h (fun I3 h => ?_) (fun I3 h => ?_))
 refine .d (sE h (fun agH h => ?_) (fun agH h => ?_))
 refine ⟨rfl, (.t ⟨rfl, _, rfl, (.t (bk h fun v139 agI h => (aS (cj agI) (.t (sV h (fun agJ h => ?_) (fun agJ h => ?_))))))⟩)⟩
 refine .t (.t (sD h (fun agK h => ?_) (fun agK h => ?_)))
 refine ⟨rfl, (.t ⟨rfl, _, rfl, (.t (bk h fun v143 agL h => (aS (jE _ _ agL) (.t ?_))))⟩)⟩
 exact asJ
 refine .f (.f (.f ?_))
 exact asJ
 refine .f (.f (.f (.f (.f (.f ?_)))))
 exact asJ
 refine .f (.f (.f (.f (.f (.f (.f (.f (.f (.f ?_)))))))))
 exact asJ
 refine .d (sE h (fun JE h => ?_) (fun JE h => ?_))
 refine .d (sE h (fun Aa h => ?_) (fun Aa h => ?_))
 refine ⟨rfl, (.t ⟨rfl, _, rfl, (.t (bk h fun AL JF h => (aS (wV JF) (.t (sV h (fun agM h => ?_) (fun agM h => ?_))))))⟩)⟩
 refine ⟨rfl, (.t ⟨rfl, _, rfl, (.t (bk h fun aga agN h => (aS (jE _ _ agN) (.t ?_))))⟩)⟩
 exact asJ
 refine .f (.f (.f ?_))
 exact asJ
 refine .f (.f (.f (.f (.f (.f (.f ?_))))))
 exact asJ
 refine .d (sE h (fun I4 h => ?_) (fun I4 h => ?_))
 refine .d (sE h (fun HP h => ?_) (fun HP h => ?_))
 refine ⟨rfl, (.t ⟨rfl, _, rfl, (.t (.t (sE h (fun Ab h => ?_) (fun Ab h => ?_))))⟩)⟩
 refine .t (.t (.t (.t (.t (.t ⟨rfl, (.t ⟨rfl, _, rfl, (.t (bk h fun uS Av h => (aS (jE _ _ Av) (.t ?_))))⟩)⟩)))))
 exact asJ
 refine ⟨rfl, (.f ⟨rfl, _, rfl, (.f (bk h fun v157 agO h => (aS (cj agO) (.t (.f (.t (sV h (fun I5 h => ?_) (fun I5 h => ?_))))))))⟩)⟩
 refine ⟨rfl, (.t ⟨rfl, _, rfl, (.t (bk h fun v160 agP h => (aS (jE _ _ agP) (.t ?_))))⟩)⟩
 exact asJ
 refine .f (.f (.f ?_))
 exact asJ
 refine .f (.f (.f (.f (.f (.f (.f (.f (.f ?_))))))))
 exact asJ
 refine .d (sE h (fun Ac h => ?_) (fun Ac h => ?_))
 refine .d (sE h (fun HR h => ?_) (fun HR h => ?_))
 refine .t (sE h (fun HT h => ?_) (fun HT h => ?_))
 refine ⟨rfl, (.t ⟨rfl, _, rfl, (.t (bk h fun uN Ad h => (aS (YK _ _ _ Ad) (.t ?_))))⟩)⟩
 exact asJ
 refine .f (.f (.f ?_))
 exact asJ
 refine .f (.f (.f (.f (.f ?_))))
 exact asJ
 exact asZ
 rintro _ _ ⟨rfl, rfl, rfl⟩
 replace h := gL
 exact atd
 intro _ agQ a0 a1 r h
 refine gd Tryz.func134 ?_
 refine .d (.d (.d (.d (sD h (fun agR h => ?_) (fun agR h => ?_)))))
 refine .t (.t (.t (.t (.t (.t (.t (.t (.t (.t (.t (.t (.t (.t (.d ?_))))))))))))))
 exact eB h
 refine .f (.f (bk h fun Yy Tt h => ⟨aA Tt, _, (ax Tt).trans (ae.au Yy), (.f (.f (.f (.f (sN h (fun agS h => ?_) (fun agS h => ?_))))))⟩))
 exact .t (.t (.t (.t (.t (.t (.t (.d (eB h))))))))
 refine .f (.f (bk h fun Yz Tu h => ⟨aA Tu, _, (ax Tu).trans (ae.au Yz), (.f (.f (bk h fun IA I6 h => (aS (agQ _ _ I6) (.f (.f (l8 h (fun agT h => ?_) (fun agT h => ?_))))))))⟩))
 exact atd
 refine .d ?_
 obtain ⟨Jp, agU, tE⟩ := bd h
 replace h := agU
 refine .cut (fun σ η => .inl () = Jp ∧ σ = [] ∧ η = []) ?_ ?_
 refine .d (bk h fun sC xp h => ⟨trivial, yA xp, sC.length, row ae.cells sC, uz xp, yB xp, ?_⟩)
 refine le (fN.partial_correctness a1 sC (motive := fun Cr Cs agV => Jp = agV → aG _ _ [(1, .bool a1), (6, .bool Cr), (32, sl 4 ae.cells sC), (33, .int .i64 (sC.length : Int)), (34, .int .i64 Cs)] []) ?_ false 0 Jp h rfl) (tk [] ⟨.b, .b, .l, .i, .i, ⟨⟩⟩ ⟨⟩)
 intro aqL agW Cr Cs agV h agX
 subst agX
 refine aG.round (.d (.d (sD h (fun agY h => ?_) (fun agY h => ?_))))
 refine .d (.d (bk h fun sF Tv h => ⟨aA Tv, _, (ax Tv).trans (ae.au sF), ⟨rfl, _, fun _ => [.int .i64 sF.ai, .int .i64 sF.aD, .str sF.aj, sl 4 ae.cells sF.ah], rfl, bX rfl, ?_⟩⟩))
 obtain ⟨Yv, agZ, AP⟩ := bd h
 replace h := agZ
 refine .cut (fun σ η => ∃ Jl, .inl Jl = Yv ∧ σ = [(1, .bool a1), (6, .bool Jl), (8, .aM 0 0 0 0), (32, sl 4 ae.cells sC), (33, .int .i64 (sC.length : Int)), (34, .int .i64 Cs)] ∧ η = [.row 0 4 1 29 (fun _ => sF.lit)]) ?_ ?_
 refine .d ⟨rfl, ⟨rfl, _, rfl, (sE h (fun HW h => ?_) (fun HW h => ?_))⟩⟩
 refine .t (sV h (fun HZ h => ?_) (fun HZ h => ?_))
 exact atj
 refine .d ⟨rfl, ⟨rfl, _, rfl, (sN h (fun ag0 h => ?_) (fun ag0 h => ?_))⟩⟩
 refine .t (.t (.d ?_))
 obtain rfl := si h
 replace h := AP
 exact asR
 refine .f (sV h (fun ag1 h => ?_) (fun ag1 h => ?_))
 refine .d ?_
 obtain rfl := si h
 replace h := AP
 exact asR
 exact atj
 refine .f (.f (.d ⟨rfl, ⟨rfl, _, rfl, (sN h (fun ag2 h => ?_) (fun ag2 h => ?_))⟩⟩))
 refine .t (.t (.d ?_))
 obtain rfl := si h
 replace h := AP
 exact asR
 refine .f (sV h (fun ag3 h => ?_) (fun ag3 h => ?_))
 refine .d ?_
 obtain rfl := si h
 replace h := AP
 exact asR
 exact atj
 rintro _ _ ⟨Jl, rfl, rfl, rfl⟩
 replace h := AP
 refine .d ⟨rfl, ⟨rfl, _, rfl, (bk h fun v222 ag4 h => (aS (Cu ag4) (l8 h (fun ag5 h => ?_) (fun ag5 h => ?_))))⟩⟩
 refine .t (.t (.t (.t (.t (.t (.t (.t (.t (.t (.d ?_))))))))))
 exact asR
 refine ⟨rfl, (.f ⟨rfl, _, rfl, (.f (bk h fun af5 ag6 h => (aS (cj ag6) (.f (.f (l8 h (fun H0 h => ?_) (fun H0 h => ?_)))))))⟩)⟩
 refine .t (.t (.t (.t (.t (.d ?_)))))
 exact asR
 refine ⟨rfl, (.f ⟨rfl, _, rfl, (.f (.f (.f (sD h (fun H2 h => ?_) (fun H2 h => ?_)))))⟩)⟩
 refine .d ?_
 exact asR
 exact lg (agW _ _ _ h rfl) (tk [] ⟨.b, .b, .l, .i, .i, ⟨⟩⟩ ⟨⟩)
 exact asZ
 rintro _ _ ⟨rfl, rfl, rfl⟩
 replace h := tE
 exact atd
 intro _ _ _ _ _ _ tF YW oJ ag7 YX jE a0 r h
 refine gd Tryz.func68 ?_
 refine .d (.d ⟨rfl, ⟨rfl, _, rfl, (.d ⟨rfl, ⟨rfl, _, rfl, (.d (.d ⟨rfl, ⟨rfl, _, rfl, (sN h (fun ag8 h => ?_) (fun ag8 h => ?_))⟩⟩))⟩⟩)⟩⟩)
 exact atd
 obtain ⟨YH, ag9, cz⟩ := bd h
 replace h := ag9
 refine .cut (fun σ η => .inl () = YH ∧ σ = [] ∧ η = []) ?_ ?_
 refine .d ⟨rfl, ⟨rfl, _, rfl, (.d (sE h (fun H3 h => ?_) (fun H3 h => ?_)))⟩⟩
 refine .d (VN h (fun H4 h => ?_) (fun H4 h => ?_))
 refine ⟨rfl, (.t ⟨rfl, _, rfl, (.t (bk h fun agb aha h => (aS (qs aha) (.t (.t (l8 h (fun ahb h => ?_) (fun ahb h => ?_)))))))⟩)⟩
 refine .t (.t ?_)
 exact asK
 refine .f (.f ?_)
 exact asK
 refine .f (.f (.f (.f (.f (.f (.f ?_))))))
 exact asK
 obtain ⟨aoF, ahc, ahd⟩ := bd h
 replace h := ahc
 refine .cut (fun σ η => ∃ Jq, Jq = aoF ∧ σ = [(1, .aM 0 0 0 0), (3, .int .i64 (a0.ah.length : Int)), (4, .bool (a0.aj == ([] : ar))), (17, .int .i64 a0.ai), (32, .bool Jq)] ∧ η = [.row 0 4 1 29 (fun _ => a0.lit)]) ?_ ?_
 refine .d (sE h (fun ahe h => ?_) (fun ahe h => ?_))
 exact atf
 refine .d (sE h (fun JG h => ?_) (fun JG h => ?_))
 exact atf
 exact atf
 rintro _ _ ⟨Jq, rfl, rfl, rfl⟩
 replace h := ahd
 refine sV h (fun H5 h => ?_) (fun H5 h => ?_)
 refine .d (sE h (fun H6 h => ?_) (fun H6 h => ?_))
 refine .t (.t (sE h (fun JH h => ?_) (fun JH h => ?_)))
 refine ⟨rfl, (.t ⟨rfl, _, rfl, (.t (bk h fun YA Tw h => ⟨aA Tw, _, (ax Tw).trans (ae.au YA), (.t (.t (bk h fun agc ahf h => (aS (tF _ _ ahf) (.t ?_)))))⟩))⟩)⟩
 exact asK
 refine .f (.f (.f (.f (.f ?_))))
 exact asK
 refine .f (.f (.f (.f (.f (.f (.f (.f ?_)))))))
 exact asK
 refine .d (sE h (fun ahg h => ?_) (fun ahg h => ?_))
 refine .d (sE h (fun Jh h => ?_) (fun Jh h => ?_))
 refine .t (bk h fun Hp H7 h => (aS (Cu H7) (.t (sV h (fun H8 h => ?_) (fun H8 h => ?_)))))
 refine ⟨rfl, (.t ⟨rfl, _, rfl, (.t (bk h fun uV AI h => ⟨aA AI, _, (ax AI).trans (ae.au uV), (.t (.t (bk h fun yF Ji h => (aS (tF _ _ Ji) (.t (sV h (fun ahh h => ?_) (fun ahh h => ?_)))))))⟩))⟩)⟩
 refine ⟨rfl, (.t ⟨rfl, _, rfl, (.t (bk h fun NY JI h => ⟨trivial, gU JI, NY.length, row ae.cells NY, fK JI, fL JI, (.t (bk h fun agd ahi h => (aS (oJ _ _ ahi) (.t ?_))))⟩))⟩)⟩
 exact asK
 refine .f (.f (.f (.f ?_)))
 exact asK
 refine .f (.f (.f (.f (.f (.f (.f (.f (.f (.f ?_)))))))))
 exact asK
 refine .f (.f (.f (.f (.f (.f (.f (.f (.f (.f (.f (.f (.f ?_))))))))))))
 exact asK
 refine .d (sE h (fun ahj h => ?_) (fun ahj h => ?_))
 refine .d (sE h (fun ahk h => ?_) (fun ahk h => ?_))
 refine .t (.t (sE h (fun ahl h => ?_) (fun ahl h => ?_)))
 refine ⟨rfl, (.t ⟨rfl, _, rfl, (.t (bk h fun YB Tx h => ⟨aA Tx, _, (ax Tx).trans (ae.au YB), (.t (.t (bk h fun age ahm h => (aS (tF _ _ ahm) (.t (sV h (fun ahn h => ?_) (fun ahn h => ?_)))))))⟩))⟩)⟩
 refine ⟨rfl, (.t ⟨rfl, _, rfl, (.t (bk h fun NZ JJ h => ⟨trivial, gU JJ, NZ.length, row ae.cells NZ, fK JJ, fL JJ, (.t (bk h fun agf aho h => (aS (oJ _ _ aho) (.t ?_))))⟩))⟩)⟩
 exact asK
 refine .f (.f (.f (.f ?_)))
 exact asK
 refine .f (.f (.f (.f (.f (.f (.f (.f (.f (.f ?_)))))))))
 exact asK
 refine .f (.f (.f (.f (.f (.f (.f (.f (.f (.f (.f (.f (.f ?_))))))))))))
 exact asK
 refine .d (sE h (fun ahp h => ?_) (fun ahp h => ?_))
 refine .d (sE h (fun ahq h => ?_) (fun ahq h => ?_))
 refine .t (bk h fun agh ahr h => (aS (Cu ahr) (.t (sV h (fun ahs h => ?_) (fun ahs h => ?_)))))
 refine ⟨rfl, (.t ⟨rfl, _, rfl, (.t (bk h fun YC Ty h => ⟨aA Ty, _, (ax Ty).trans (ae.au YC), (.t (.t (bk h fun agi aht h => (aS (tF _ _ aht) (.t (sV h (fun ahu h => ?_) (fun ahu h => ?_)))))))⟩))⟩)⟩
 refine ⟨rfl, (.t ⟨rfl, _, rfl, (.t (bk h fun YD Tz h => ⟨aA Tz, _, (ax Tz).trans (ae.au YD), (.t (.t (bk h fun agj ahv h => (aS (kq ahv) (.t (sV h (fun ahw h => ?_) (fun ahw h => ?_)))))))⟩))⟩)⟩
 refine .t (.t (sE h (fun Ah h => ?_) (fun Ah h => ?_)))
 refine .t (.t (.t (.t (.t (.t (.t (.t ⟨rfl, (.t ⟨rfl, _, rfl, (.t (.t (.t (bk h fun N0 rj h => ?_))))⟩)⟩)))))))
 refine ⟨trivial, gU rj, N0.length, row ae.cells N0, fK rj, fL rj, (.t (bk h fun agk ahx h => (aS (oJ _ _ ahx) (.t ?_))))⟩
 exact asK
 refine ⟨rfl, (.f ⟨rfl, _, rfl, (.f (bk h fun YE TA h => ⟨aA TA, _, (ax TA).trans (ae.au YE), (.f (.f (bk h fun agl ahy h => (aS (kq ahy) (.t (.f (.t (sV h (fun ahz h => ?_) (fun ahz h => ?_)))))))))⟩))⟩)⟩
 refine ⟨rfl, (.t ⟨rfl, _, rfl, (.t (.t (.t (bk h fun N1 JK h => ⟨trivial, gU JK, N1.length, row ae.cells N1, fK JK, fL JK, (.t (bk h fun Hr Ic h => (aS (oJ _ _ Ic) (.t ?_))))⟩))))⟩)⟩
 exact asK
 refine .f (.f (.f (.f (.f (.f ?_)))))
 exact asK
 refine .f (.f (.f (.f (.f (.f (.f (.f (.f (.f (.f ?_))))))))))
 exact asK
 refine .f (.f (.f (.f (.f (.f (.f (.f (.f (.f (.f (.f (.f (.f (.f ?_))))))))))))))
 refine .f (.f ?_)
 exact asK
 refine .f (.f (.f (.f (.f (.f (.f (.f (.f (.f (.f (.f (.f (.f (.f ?_))))))))))))))
 refine .f (.f (.f (.f (.f (.f (.f (.f ?_)))))))
 exact asK
 refine .f (.f (.f (.f (.f (.f (.f (.f (.f (.f (.f (.f (.f (.f (.f ?_))))))))))))))
 refine .f (.f (.f (.f (.f (.f (.f (.f (.f (.f (.f ?_))))))))))
 exact asK
 obtain ⟨aoG, ahA, ahB⟩ := bd h
 replace h := ahA
 refine .cut (fun σ η => ∃ Jr, Jr = aoG ∧ σ = [(1, .aM 0 0 0 0), (3, .int .i64 (a0.ah.length : Int)), (4, .bool (a0.aj == ([] : ar))), (17, .int .i64 a0.ai), (128, .bool Jr)] ∧ η = [.row 0 4 1 29 (fun _ => a0.lit)]) ?_ ?_
 refine .d (sE h (fun Ie h => ?_) (fun Ie h => ?_))
 exact atf
 exact atf
 rintro _ _ ⟨Jr, rfl, rfl, rfl⟩
 replace h := ahB
 refine sV h (fun ahC h => ?_) (fun ahC h => ?_)
 refine .d (sE h (fun I9 h => ?_) (fun I9 h => ?_))
 refine .t (.t ?_)
 exact asK
 refine .f (.f ?_)
 exact asK
 refine .d (sE h (fun Ig h => ?_) (fun Ig h => ?_))
 refine .d (sE h (fun ahD h => ?_) (fun ahD h => ?_))
 refine .t (.t (sD h (fun ahE h => ?_) (fun ahE h => ?_)))
 refine ⟨rfl, (.t ⟨rfl, _, rfl, (.t (bk h fun agm ahF h => (aS (jE _ _ ahF) (.t ?_))))⟩)⟩
 exact asK
 refine .f (.f (.f ?_))
 exact asK
 refine .f (.f (.f (.f (.f (.f ?_)))))
 exact asK
 refine .d (sE h (fun ahG h => ?_) (fun ahG h => ?_))
 refine .d ⟨rfl, ⟨rfl, _, rfl, (bk h fun AM JL h => (aS (cj JL) (sV h (fun ahH h => ?_) (fun ahH h => ?_))))⟩⟩
 refine .t (.t ?_)
 exact asK
 refine .f (.f ?_)
 exact asK
 refine .d (sE h (fun ahI h => ?_) (fun ahI h => ?_))
 refine .d (sE h (fun ahJ h => ?_) (fun ahJ h => ?_))
 refine .t (.t (sE h (fun Ih h => ?_) (fun Ih h => ?_)))
 refine ⟨rfl, (.t ⟨rfl, _, rfl, (.t (bk h fun Ce Ax h => ⟨aA Ax, _, (ax Ax).trans (ae.au Ce), (.t (.t (bk h fun nz Ay h => (aS (YX _ _ Ay) (.t ?_)))))⟩))⟩)⟩
 exact asK
 refine .f (.f (.f (.f (.f ?_))))
 exact asK
 refine .f (.f (.f (.f (.f (.f (.f (.f ?_)))))))
 exact asK
 refine .d (sE h (fun ahK h => ?_) (fun ahK h => ?_))
 refine .d (sE h (fun ahL h => ?_) (fun ahL h => ?_))
 refine .t (.t (sE h (fun Ja h => ?_) (fun Ja h => ?_)))
 refine .t (.t (.t (.t (.t (.t (.t ⟨rfl, (.t ⟨rfl, _, rfl, (.t (.t (.t (bk h fun YF Az h => ⟨aA Az, _, (ax Az).trans (ae.au YF), ?_⟩))))⟩)⟩))))))
 refine .t (.t (bk h fun agn ahM h => (aS (tF _ _ ahM) (.t ?_))))
 exact asK
 refine .f (.f (sE h (fun Ii h => ?_) (fun Ii h => ?_)))
 refine ⟨rfl, (.t ⟨rfl, _, rfl, (.t (bk h fun gG Ai h => ⟨aA Ai, _, (ax Ai).trans (ae.au gG), (.t (.t (bk h fun uP ahN h => (aS (kq ahN) (.f (.t (.t (.f (.t ?_)))))))))⟩))⟩)⟩
 refine sV h (fun JM h => ?_) (fun JM h => ?_)
 refine ⟨rfl, (.t ⟨rfl, _, rfl, (.t (.t (.t (bk h fun YG TB h => ⟨aA TB, _, (ax TB).trans (ae.au YG), (.t (.t (bk h fun ago ahO h => (aS (tF _ _ ahO) (.t ?_)))))⟩))))⟩)⟩
 exact asK
 refine .f (.f (.f (.f (.f (.f (.f ?_))))))
 exact asK
 refine .f (.f (.f (.f (.f (.f (.t (.f (.t (.f (.f (.f (.f (.f (.f ?_))))))))))))))
 refine .f (.f ?_)
 exact asK
 refine .f (.f (.f (.f (.f (.f (.f (.f (.f (.f (.f (.f ?_)))))))))))
 exact asK
 refine .d (sE h (fun Ij h => ?_) (fun Ij h => ?_))
 refine .d ⟨rfl, ⟨rfl, _, rfl, (sD h (fun Ik h => ?_) (fun Ik h => ?_))⟩⟩
 refine .t (.t ?_)
 exact asK
 refine .f (.f ?_)
 exact asK
 refine .d (sE h (fun Il h => ?_) (fun Il h => ?_))
 obtain ⟨AN, ahP, TC⟩ := bd h
 replace h := ahP
 refine .cut (fun σ η => .inl () = AN ∧ σ = [(4, .bool (a0.aj == ([] : ar)))] ∧ η = []) ?_ ?_
 refine .d ⟨rfl, ⟨rfl, _, rfl, ?_⟩⟩
 have ahQ := ag7 _ _ _ h
 refine le (rv (motive := fun ahR iF ahS => a0 = ahR → AN = ahS → aG _ _ [(4, .bool (a0.aj == ([] : ar))), (211, sl 4 ae.cells a0.ah), (212, .int .i64 (a0.ah.length : Int)), (213, .int .i64 iF)] []) ?_ a0 0 AN ahQ rfl rfl) (tk [] ⟨.b, .l, .i, .i, ⟨⟩⟩ ⟨⟩)
 intro _ ahT _ _ ahR iF ahS h ahU  N8 ahV
 subst N8
 subst ahV
 refine aG.round (.d (.d (sD h (fun ahW h => ?_) (fun ahW h => ?_))))
 refine .d (.d (bk h fun qm AA h => ⟨aA AA, _, (ax AA).trans (ae.au qm), ⟨rfl, _, fun _ => [.int .i64 qm.ai, .int .i64 qm.aD, .str qm.aj, sl 4 ae.cells qm.ah], rfl, bX rfl, (.d ⟨rfl, _, rfl, (bk h fun E0 ahX h => (aS (ahT _ _ ahX) (l8 h (fun Ip h => ?_) (fun Ip h => ?_))))⟩)⟩⟩))
 refine .d ?_
 obtain rfl := si h
 replace h := TC
 exact asK
 exact lg (ahU _ _ _ h rfl rfl) (tk [] ⟨.b, .l, .i, .i, ⟨⟩⟩ ⟨⟩)
 exact ct ⟨si h, rfl, rfl⟩ (tk [] ⟨.b, ⟨⟩⟩ ⟨⟩)
 rintro _ _ ⟨rfl, rfl, rfl⟩
 replace h := TC
 refine .d ?_
 exact asK
 refine .d (sE h (fun Iq h => ?_) (fun Iq h => ?_))
 refine .d (sE h (fun Ir h => ?_) (fun Ir h => ?_))
 refine ⟨rfl, (.t ⟨rfl, _, rfl, (.t (bk h fun agp ahY h => (aS (YW _ _ ahY) (.t ?_))))⟩)⟩
 exact asK
 refine .f (.f (.f ?_))
 exact asK
 exact asZ
 rintro _ _ ⟨rfl, rfl, rfl⟩
 replace h := cz
 exact atd
 intro _ oJ a0 r h
 refine gd Tryz.func141 ?_
 refine .d (.d (.d (sD h (fun ahZ h => ?_) (fun ahZ h => ?_))))
 exact .t (.t (.t (.t (.t (.d (eB h))))))
 refine .f (bk h fun N2 xy h => ⟨trivial, yA xy, N2.length, row ae.cells N2, uz xy, yB xy, (.f (bk h fun AO JN h => (aS (oJ _ _ JN) (.f (.f (l8 h (fun ah0 h => ?_) (fun ah0 h => ?_)))))))⟩)
 exact atd
 refine .d (bk h fun EV xz h => ⟨trivial, gU xz, EV.length, row ae.cells EV, fK xz, fL xz, ?_⟩)
 obtain ⟨YI, ah1, xC⟩ := bd h
 replace h := ah1
 refine .cut (fun σ η => ∃ Ct, .inl Ct = YI ∧ σ = [(3, sl 4 ae.cells Ct)] ∧ η = []) ?_ ?_
 refine .d (bk h fun uf AD h => ⟨aA AD, _, (ax AD).trans (ae.au uf), ⟨rfl, _, fun _ => [.int .i64 uf.ai, .int .i64 uf.aD, .str uf.aj, sl 4 ae.cells uf.ah], rfl, bX rfl, (.d ⟨rfl, ⟨rfl, _, rfl, (sE h (fun JO h => ?_) (fun JO h => ?_))⟩⟩)⟩⟩)
 refine .d (.d ⟨rfl, ⟨rfl, _, rfl, (sN h (fun ah2 h => ?_) (fun ah2 h => ?_))⟩⟩)
 refine .t (.t (.t (.t (.t (.t (.t (.t (.t (.t (.t (.t (.t (.t (.t ?_))))))))))))))
 refine .t (.t (.t (.t (.t (.t (.t (.t (.d ?_))))))))
 exact asS
 refine ⟨rfl, (.f ⟨rfl, _, rfl, (.f (bk h fun N3 ah3 h => (aS (cj ah3) (.f (.f (l8 h (fun ah4 h => ?_) (fun ah4 h => ?_)))))))⟩)⟩
 refine .t (.t (.t (.t (.t (.t (.t (.t (.t (.t (.t (.t (.t (.t (.t ?_))))))))))))))
 refine .t (.t (.t (.d ?_)))
 exact asS
 refine ⟨rfl, (.f ⟨rfl, _, rfl, (.f (.f (.f (sN h (fun JP h => ?_) (fun JP h => ?_)))))⟩)⟩
 refine .t (.t (.t (.t (.t (.t (.t (.t (.t (.t (.t (.t (.t (.d ?_)))))))))))))
 exact asS
 refine ⟨rfl, (.f ⟨rfl, _, rfl, (.f (bk h fun yK tD h => ⟨aA tD, _, (ax tD).trans (ae.au yK), (.f (.f (bk h fun wW JQ h => (aS (kq JQ) (.f (.f (l8 h (fun ah5 h => ?_) (fun ah5 h => ?_))))))))⟩))⟩)⟩
 refine .t (.t (.t (.t (.t (.t (.d ?_))))))
 exact asS
 refine ⟨rfl, (.f ⟨rfl, _, rfl, (.f (bk h fun EW JR h => ⟨trivial, gU JR, EW.length, row ae.cells EW, fK JR, fL JR, (.f (bk h fun N4 ah6 h => (aS (oJ _ _ ah6) (.f (.f (l8 h (fun ah7 h => ?_) (fun ah7 h => ?_)))))))⟩))⟩)⟩
 refine .d ?_
 exact asS
 exact bk h fun N5 JS h => ⟨trivial, gU JS, N5.length, row ae.cells N5, fK JS, fL JS, (ct ⟨_, si h, rfl, rfl⟩ (tk [] ⟨.l, ⟨⟩⟩ ⟨⟩))⟩
 exact ct ⟨_, si h, rfl, rfl⟩ (tk [] ⟨.l, ⟨⟩⟩ ⟨⟩)
 rintro _ _ ⟨Ct, rfl, rfl, rfl⟩
 replace h := xC
 refine .d (.d (sE h (fun ah8 h => ?_) (fun ah8 h => ?_)))
 exact atd
 refine .d (bk h fun oI AF h => ⟨aA AF, _, (ax AF).trans (ae.au oI), ⟨rfl, _, fun _ => [.int .i64 oI.ai, .int .i64 oI.aD, .str oI.aj, sl 4 ae.cells oI.ah], rfl, bX rfl, (.d (sE h (fun Jd h => ?_) (fun Jd h => ?_)))⟩⟩)
 refine ⟨rfl, (.t ⟨rfl, _, rfl, (.t (.t (sE h (fun ah9 h => ?_) (fun ah9 h => ?_))))⟩)⟩
 refine ⟨rfl, (.t ⟨rfl, _, rfl, (.t (.t (sE h (fun aia h => ?_) (fun aia h => ?_))))⟩)⟩
 refine ⟨rfl, (.t ⟨rfl, _, rfl, (.t (.t (sE h (fun aib h => ?_) (fun aib h => ?_))))⟩)⟩
 refine ⟨rfl, (.t ⟨rfl, _, rfl, (.t (.t (.t (sE h (fun aic h => ?_) (fun aic h => ?_)))))⟩)⟩
 exact ⟨rfl, (.t ⟨rfl, _, rfl, (.t (bk h fun EZ aid h => (aS (oJ _ _ aid) (.t (eB h)))))⟩)⟩
 exact atl
 exact atr
 exact .f (.f (.f (.f (.f (.f (.f (.f (.f (.f (.f (.f (eB h))))))))))))
 refine .f (.f (.f (.f (.f (.f (.f (.f (.f (.f (.f (.f (.f (.f (.f ?_))))))))))))))
 exact .f (eB h)
 refine .f (.f (.f (.f (.f (.f (.f (.f (.f (.f (.f (.f (.f (.f (.f ?_))))))))))))))
 exact .f (.f (.f (.f (.f (eB h)))))
 intro _ aie a0 r h
 refine gd Tryz.func137 ?_
 refine .d ?_
 obtain ⟨Js, aif, JT⟩ := bd h
 replace h := aif
 refine .cut (fun σ η => .inl () = Js ∧ σ = [] ∧ η = []) ?_ ?_
 refine .d ?_
 have aih := aie _ _ _ h
 refine le (rz (motive := fun aii iG aij => a0 = aii → Js = aij → aG _ _ [(5, sl 4 ae.cells a0), (6, .int .i64 (a0.length : Int)), (7, .int .i64 iG)] []) ?_ a0 0 Js aih rfl rfl) (tk [] ⟨.l, .i, .i, ⟨⟩⟩ ⟨⟩)
 intro _ aik _ _ aii iG aij h ail  N9 aim
 subst N9
 subst aim
 refine aG.round (.d (.d (sD h (fun ain h => ?_) (fun ain h => ?_))))
 refine .d (.d (bk h fun rr TD h => ⟨aA TD, _, (ax TD).trans (ae.au rr), ⟨rfl, _, fun _ => [.int .i64 rr.ai, .int .i64 rr.aD, .str rr.aj, sl 4 ae.cells rr.ah], rfl, bX rfl, (.d ⟨rfl, ⟨rfl, _, rfl, (sN h (fun aio h => ?_) (fun aio h => ?_))⟩⟩)⟩⟩))
 refine .t (.t (.t (.t (.d ?_))))
 obtain rfl := si h
 replace h := JT
 exact eB h
 refine ⟨rfl, _, rfl, (.f (bk h fun E1 aip h => (aS (aik _ _ aip) (.f (.f (l8 h (fun Jc h => ?_) (fun Jc h => ?_)))))))⟩
 refine .d ?_
 obtain rfl := si h
 replace h := JT
 exact eB h
 exact lg (ail _ _ _ h rfl rfl) (tk [] ⟨.l, .i, .i, ⟨⟩⟩ ⟨⟩)
 exact asZ
 rintro _ _ ⟨rfl, rfl, rfl⟩
 replace h := JT
 exact atd
 intro F0 F1 lu lv a0 iG o h
 exact .mk F0 lu F1 lv a0 iG o h
 intro F0 F1 lu lv a0 iF o h
 exact .mk F0 lu F1 lv a0 iF o h
 intro _ tF a0 r h
 refine gd Tryz.func140 ?_
 refine .d (.d ⟨rfl, _, rfl, (bk h fun agq aiq h => (aS (p5 aiq) (sV h (fun air h => ?_) (fun air h => ?_))))⟩)
 exact ⟨rfl, _, rfl, (.t (bk h fun IG Je h => (aS (tF _ _ Je) (.t (eB h)))))⟩
 exact .f (.f (eB h))
 intro _ ais a0 r h
 refine gd Tryz.func139 ?_
 refine .d ?_
 obtain ⟨Jo, ait, TE⟩ := bd h
 replace h := ait
 refine .cut (fun σ η => .inl () = Jo ∧ σ = [] ∧ η = []) ?_ ?_
 refine .d ?_
 have aiu := ais _ _ _ h
 refine le (pU (motive := fun aiv iD aiw => a0 = aiv → Jo = aiw → aG _ _ [(5, sl 4 ae.cells a0), (6, .int .i64 (a0.length : Int)), (7, .int .i64 iD)] []) ?_ a0 0 Jo aiu rfl rfl) (tk [] ⟨.l, .i, .i, ⟨⟩⟩ ⟨⟩)
 intro _ aix _ _ aiv iD aiw h aiy  Oa aiz
 subst Oa
 subst aiz
 refine aG.round (.d (.d (sD h (fun Af h => ?_) (fun Af h => ?_))))
 refine .d (.d (bk h fun qu AQ h => ⟨aA AQ, _, (ax AQ).trans (ae.au qu), ⟨rfl, _, fun _ => [.int .i64 qu.ai, .int .i64 qu.aD, .str qu.aj, sl 4 ae.cells qu.ah], rfl, bX rfl, (.d ⟨rfl, _, rfl, (bk h fun v183 JU h => (aS (aix _ _ JU) (l8 h (fun aiA h => ?_) (fun aiA h => ?_))))⟩)⟩⟩))
 refine .d ?_
 obtain rfl := si h
 replace h := TE
 exact eB h
 exact lg (aiy _ _ _ h rfl rfl) (tk [] ⟨.l, .i, .i, ⟨⟩⟩ ⟨⟩)
 exact asZ
 rintro _ _ ⟨rfl, rfl, rfl⟩
 replace h := TE
 exact atd
 intro F0 F1 lu lv a0 iD o h
 exact .mk F0 lu F1 lv a0 iD o h
 intro F0 F1 lu lv a0 oA o h
 exact .mk F0 lu F1 lv a0 oA o h
theorem AR {a0 : ae} {r : Bool} (h : bz a0 = some r) : ACall Tryz.prog 72 [.agg a0.lit] [] (fun res h => res = .bool r ∧ h = []) := wX.1 a0 r h
def lB (a0 : ae) : Option (Bool) :=
 jm a0 >>= fun v1 =>
 (if v1 = true then
 bz a0 >>= fun v4 =>
 some v4
 else
 some false)
theorem AS {a0 : ae} {r : Bool} (h : lB a0 = some r) : ACall Tryz.prog 31 [.agg a0.lit] [] (fun res h => res = .bool r ∧ h = []) := by
 refine gd Tryz.func31 ?_
 unfold lB at h
 refine .d (.d ⟨rfl, _, rfl, (bk h fun v1 lx h => (aS (uM lx) (sV h (fun ow h => ?_) (fun ow h => ?_))))⟩)
 exact ⟨rfl, _, rfl, (.t (bk h fun v4 tV h => (aS (AR tV) (.t (eB h)))))⟩
 exact .f (.f (eB h))
end Go.Am
namespace Go.Am
open Go Go.RowKit
def aN (G id g : Nat) : PV := match G with
 | 0 => .dt
 | _ + 1 => .aM id g 0 0
theorem Ob (σ : Nat → Nat) (G id g : Nat) : lC σ (aN G id g) = aN G (σ id) g := by cases G <;> rfl
theorem iP (σ : Nat → Nat) (gp sz n : Nat) (e : TypeId) (G id g b g2 off len : Nat) : oK σ (.row gp sz n e (fun _ => [aN G id g, .own b g2 off len])) = .row gp sz n e (fun _ => [aN G (σ id) g, .own (σ b) g2 off len]) := by
 show ak.row gp sz n e (fun _ => [lC σ (aN G id g), _]) = _
 rw [Ob]; rfl
theorem cw {σ : Nat → Nat} {gp sz n : Nat} {e : TypeId} {G id g b g2 off len : Nat} {x : Option ak} (hx : x = some (.row gp sz n e (fun _ => [aN G (σ id) g, .own (σ b) g2 off len])) := by rfl) : x = some (oK σ (.row gp sz n e (fun _ => [aN G id g, .own b g2 off len]))) := by rw [iP]; exact hx
theorem Fz.aN {h η : List ak} {k : List Nat} {G id id' g g' sz bs n n' : Nat} {e e' : TypeId} {f f' : Nat → List PV} (hk : k[id']? = some id := by rfl) (ho : h[id]? = some (ak.row g sz n e f) := by rfl) (hη : η[id']? = some (ak.row g' bs (n' + 1) e' f') := by rfl) : Fz h η k (Go.Am.aN G id g) (Go.Am.aN G id' g') := by
 cases G with
 | zero => exact .dt
 | succ G => exact Fz.p hk ho hη
section
variable {P : Program} {f : FuncId} {h : List ak} {K : PV → List ak → Prop}
theorem cH {γ : Type} {h0 : γ → List ak} {args kJ : List PV} {R0 : γ → PV} {hc : List ak} (hA : ACall P f args hc (fun res h => ∃ g, res = R0 g ∧ h = h0 g)) (is : List Nat) (gh : TF h (ft is h.length) hc is) (R1 : γ → PV) (H1 : γ → List ak) (k : ∀ g, K (R1 g) (H1 g))
  (e2 : ∀ g, bK h is (h0 g) = H1 g := by intro g; simp only [bK, aK, adr, aqS, List.drop, an, mg, iR, iP]; rfl) (e1 : ∀ g, Cv (ft is h.length) (R0 g) = R1 g := by intro _; rfl)
  (hl : hc.length = is.length := by rfl) (hd : is.Nodup := by decide) (cD : is.all (fun id => Nat.blt id h.length) = true := by rfl) (mN : kJ = args.map (u6 (ft is h.length)) := by rfl) : rA P f kJ h K :=
 ⟨_, hA.JV is h gh hl hd cD mN, by rintro _ _ ⟨_, _, ⟨g, rfl, rfl⟩, rfl, rfl⟩; rw [e1, e2]; exact k g⟩
end
theorem ACall.YY {P : Program} {f : FuncId} {args : List PV} {h : List ak} {R : PV → List ak → Prop} {i g : Nat} {e lh : Nat} {e2 : TypeId} {f2 : Nat → List PV} (hi : h[i]? = some (.row g 2 1 e (fun _ => [.dt, .bf])))
  (hA : ACall P f args ((h ++ [ak.row 0 lh 0 e2 f2]).set i (.row g 2 1 e (fun _ => [.dt, .own h.length 0 0 0]))) R) : ACall P f args h R := by
 refine ⟨hA.1, fun w vs μ S hH hM fv ha => ?_⟩
 have cD : i < h.length := (At.1 hi).1
 obtain ⟨fr1, c1⟩ := lD (w1 := w) ⟨hH, hM⟩ lh 0 e2 f2 none rfl (bF.refl w) (fun i hi => absurd hi (arK _)) (fun i j pv hi => absurd hi (arK _))
 have hi1 : (h ++ [ak.row 0 lh 0 e2 f2])[i]? = some (.row g 2 1 e (fun _ => [.dt, .bf])) := by rw [art cD]; exact hi
 have hN : (h ++ [ak.row 0 lh 0 e2 f2])[h.length]? = some (.row 0 lh 0 e2 f2) := by simp
 obtain ⟨_, hc⟩ := c1.heap i _ _ _ _ _ hi1
 have wZ : la μ h.length none i = μ i := de μ _ att
 cases dX : μ i with
 | none => rw [wZ, dX] at hc; cases hc
 | some p =>
  obtain ⟨b, base⟩ := p
  rw [wZ, dX] at hc
  obtain ⟨o, ho, hr⟩ := hc
  cases o with
  | cells cur e' z =>
   obtain ⟨rfl, rfl, q3, q4⟩ := hr
   have aI : ∀ (k j : Nat) (pv : PV), k < 1 → ((fun _ => [PV.dt, .own h.length 0 0 0]) k)[j]? = some pv → ∃ v : Value, cur[base + k * 2 + j]? = some v ∧ k4 (la μ h.length none) (h ++ [ak.row 0 lh 0 e2 f2]) S w pv v := fun k j pv hk hj => by
    match j, hj with
    | 0, hj => cases hj; exact q4 k 0 _ hk rfl
    | 1, hj =>
     cases hj
     obtain ⟨v, r1, r2⟩ := q4 k 1 _ hk rfl
     have r2 : aE S w .bf v := r2
     cases r2
     refine ⟨_, r1, ?_⟩
     show aV _ _ w h.length 0 0 0 _
     unfold aV
     rw [hN, bg]
     exact ⟨⟨_, _, _, rfl⟩, aqP _, fun _ => ⟨aqP _, rfl⟩⟩
   obtain ⟨fr2, c2⟩ := mO (w1 := w) c1 i g g 2 1 1 e' _ (fun _ => [.dt, .own h.length 0 0 0]) hi1 b base cur (aqP _) (fun _ => ⟨by rw [wZ]; exact dX, rfl⟩) (.inr ⟨base, cur, by rw [wZ]; exact dX, ho, rfl⟩) ho att
    (fun _ _ _ => rfl) (aqP _) rfl rfl rfl (fun _ _ => rfl) (fun b' jL tG hx => by
     rw [wZ, dX] at tG
     injection tG with tG; injection tG with h1 _; subst h1
     obtain ⟨es, clock, hx⟩ := hx
     rw [ho] at hx; cases hx) aI 0 (fun k j bs n' e'' f' F' hk hj => by
     match j, hj with
     | 0, hj => cases hj
     | 1, hj => cases hj)
   have fr := fr1.trans fr2
   refine (hA.2 w vs _ S c2.heap c2.ok fv (fun j pv hj => ?_)).mono ?_
   ·obtain ⟨v, h1, h2⟩ := ha j pv hj
    exact ⟨v, h1, h2.fr fr hM⟩
   ·rintro x w' ⟨v, res, h', μ', S', rfl, hr, hv, hH', hM', hF⟩
    exact ⟨v, res, h', μ', S', rfl, hr, hv, hH', hM', fr.trans hF⟩
  | map es c =>
   obtain ⟨kp, vp, en, y1, y2, y3, _⟩ := hr.2 0 asp
   injection y1 with y1 _; subst y1; cases y2
  | _ => exact hr.elim
theorem pcG {P : Program} {f : FuncId} {args : List PV} {h h2 : List ak} {K : PV → List ak → Prop} (i : Nat) {g : Nat} {e lh : Nat} {e2 : TypeId} {f2 : Nat → List PV} (k : rA P f args h2 K) (hi : h[i]? = some (.row g 2 1 e (fun _ => [.dt, .bf])) := by rfl)
  (h3 : h2 = (h ++ [ak.row 0 lh 0 e2 f2]).set i (.row g 2 1 e (fun _ => [.dt, .own h.length 0 0 0])) := by rfl) : rA P f args h K := by
 subst h3
 obtain ⟨R, hA, hk⟩ := k
 exact ⟨R, ACall.YY hi hA, hk⟩
end Go.Am
namespace Go.Am
open Go Go.RowKit Go.Proofs
theorem TG : (Tryz.prog.info? 49).map (·.size) = some 2 := by kernel_rfl
theorem YZ : Tryz.prog.underlying 47 = some (.pointer 49) := by kernel_rfl
theorem aiB : Tryz.prog.underlying 151 = some .unsafePointer := by kernel_rfl
set_option maxHeartbeats 1000000 in
set_option maxRecDepth 100000 in
theorem Oc (b : Nat) (w : World) (h0 : w.cell? ⟨b, 0, none⟩ = some (.pointer (some ⟨b, 0, none⟩))) :
  Calls Tryz.prog 158 #[.pointer (some ⟨b, 0, none⟩)] w fun e w' => e = .returned (.tuple #[]) ∧ w' = w := by
 obtain ⟨j, hj, _⟩ := Option.map_eq_some_iff.1 TG
 go_enter Tryz.func158, Tryz.ntmps158
 go_wp2
 rw [Lib.run_neq_ptr_same w _ YZ hj]
 go_wp2
 go_end0
 exact ⟨rfl, rfl⟩
set_option maxHeartbeats 1000000 in
set_option maxRecDepth 100000 in
theorem JW (b c : Nat) (w : World) (h0 : w.cell? ⟨b, 0, none⟩ = some (.pointer none)) (JX : w.shape? b = some (51, c)) (hc : 0 < c) (hl : liesAt Tryz.prog Tryz.prog.depth 51 (c / Tryz.prog.cellsOf 51) 0 49 1 = true) (hfz : w.frozen? ⟨b, 0, none⟩ = false) :
  Calls Tryz.prog 158 #[.pointer (some ⟨b, 0, none⟩)] w fun e w' => e = .returned (.tuple #[]) ∧ w' = w.setCell ⟨b, 0, none⟩ (.pointer (some ⟨b, 0, none⟩)) := by
 obtain ⟨j, hj, AU⟩ := Option.map_eq_some_iff.1 TG
 go_enter Tryz.func158, Tryz.ntmps158
 go_wp2
 rw [Lib.run_to_unsafe w ⟨b, 0, none⟩ YZ aiB hj (by rw [AU]; decide) JX hc]
 simp only [Result.andThen]
 rw [Oper.upon_value]
 go_wp2
 rw [run_callFunc_extern Tryz.func202 atD atD atD (e := Extern.AbiNoEscape.same) atD]
 rw [Lib.run_noEscape]
 simp only [Result.andThen]
 rw [Oper.upon_value]
 go_wp2
 rw [Lib.run_from_unsafe w ⟨b, 0, none⟩ aiB YZ hj JX hl]
 simp only [Result.andThen]
 rw [Oper.upon_value]
 go_wp2
 go_end0
 exact ⟨rfl, rfl⟩
theorem Od : Tryz.prog.cellsOf 51 = 2 := by kernel_rfl
set_option maxRecDepth 100000 in
theorem Y0 (k : Nat) : liesAt Tryz.prog Tryz.prog.depth 51 (k + 1) 0 49 1 = true := by kernel_rfl
theorem yM {w : World} {b i : Nat} {cs : Array Value} {T : TypeId} {fr : Nat × Nat} (hb : w.heap[b]? = some (.cells cs T fr)) (v : Value) : (w.setCell ⟨b, i, none⟩ v).heap[b]? = some (.cells (cs.setIfInBounds i v) T fr) := by
 unfold World.setCell
 simp [arU, hb]
theorem Cw {w : World} {b i k : Nat} (h : k ≠ b) (v : Value) : (w.setCell ⟨b, i, none⟩ v).heap[k]? = w.heap[k]? := by
 unfold World.setCell
 simp only [arU]
 rw [if_neg (asa h)]
theorem yN {w : World} {b i : Nat} (v : Value) : (w.setCell ⟨b, i, none⟩ v).heap.size = w.heap.size := by
 unfold World.setCell
 simp
theorem aoH {G n g G2 : Nat} {f : Nat → List PV} : ACall Tryz.prog 158 [.aM 0 g 0 0] [.row g 2 1 51 (fun _ => [aN G 0 g, .own 1 G2 0 n]), .row G2 1 n 5 f]
  (fun res h => res = .aU [] ∧ h = [.row g 2 1 51 (fun _ => [.aM 0 g 0 0, .own 1 G2 0 n]), .row G2 1 n 5 f]) := by
 refine ⟨⟨_, _, Tryz.func158, rfl, by kernel_rfl⟩, fun w vs μ S hH hM fv ha => ?_⟩
 obtain ⟨v0, hv, hp⟩ := ha 0 _ rfl
 have hp : a6 μ [.row g 2 1 51 (fun _ => [aN G 0 g, .own 1 G2 0 n]), .row G2 1 n 5 f] w 0 g 0 0 v0 := hp
 obtain ⟨_, _, hr⟩ := hp
 obtain ⟨_, b, base, dX, ⟨dT, Y1⟩, rfl⟩ := hr rfl
 obtain rfl : base = 0 := Y1 rfl
 obtain rfl := Jj fv hv
 obtain ⟨_, hc⟩ := hH 0 _ _ _ _ _ rfl
 rw [dX] at hc
 obtain ⟨cur, ju, mP, aI⟩ := bw.cells dT hc
 obtain ⟨u, hu, hk⟩ := aI 0 0 _ asp rfl
 obtain ⟨u1, zV, DM⟩ := aI 0 1 _ asp rfl
 simp only [Nat.zero_mul, ard, arR, Nat.one_mul] at hu zV mP ⊢
 have hk : u = .pointer none ∨ u = .pointer (some ⟨b, 0, none⟩) := by
  cases G with
  | zero =>
   have hk : aE S w .dt u := hk
   cases hk; exact .inl rfl
  | succ G =>
   have hk : a6 μ [.row g 2 1 51 (fun _ => [aN (G + 1) 0 g, .own 1 G2 0 n]), .row G2 1 n 5 f] w 0 g 0 0 u := hk
   obtain ⟨_, _, h2⟩ := hk
   obtain ⟨_, b', jL, tG, ⟨_, kr⟩, rfl⟩ := h2 rfl
   rw [dX] at tG
   injection tG with tG
   injection tG with e1 e2
   subst e1; subst e2
   exact .inr rfl
 have fin : ∀ (w' : World) (jZ : Array Value), w'.heap[b]? = some (.cells jZ 51 (0, 0)) → jZ.size = cur.size → jZ[0]? = some (.pointer (some ⟨b, 0, none⟩)) → jZ[1]? = cur[1]? → (∀ k, k ≠ b → w'.heap[k]? = w.heap[k]?) → w'.heap.size = w.heap.size → w'.os = w.os → w'.tape = w.tape → w'.output = w.output →
   ∃ (v : Value) (res : PV) (h' : List ak) (μ' : Mu) (S' : Nat → Prop), Ending.returned (.tuple #[]) = .returned v ∧ (res = .aU [] ∧ h' = [.row g 2 1 51 (fun _ => [.aM 0 g 0 0, .own 1 G2 0 n]), .row G2 1 n 5 f]) ∧ aY μ' h' S' w' res v ∧ bw μ' h' S' w' ∧ nC μ' h' S' w' ∧ Fr μ [.row g 2 1 51 (fun _ => [aN G 0 g, .own 1 G2 0 n]), .row G2 1 n 5 f] S w μ' h' S' w' := fun w' jZ q1 q2 q3 q4 q5 q6 q7 q8 q9 => by
  obtain ⟨ji, mQ⟩ := mO (w1 := w') ⟨hH, hM⟩ 0 g g 2 1 1 51 _ (fun _ => [.aM 0 g 0 0, .own 1 G2 0 n]) rfl b 0 jZ (aqP _) (fun _ => ⟨dX, rfl⟩) (.inr ⟨0, cur, dX, ju, q2.symm⟩) q1 att (fun k _ hk => q5 k hk) att q7 q8 q9
   (fun _ _ => rfl) (fun b' jL tG => by rw [dX] at tG; injection tG with tG; injection tG with h1 _; subst h1; exact dT.qw)
   (fun i j pv hi hj => by
    obtain rfl : i = 0 := by omega
    match j, hj with
    | 0, hj =>
     cases hj
     refine ⟨_, q3, ?_⟩
     show a6 μ [.row g 2 1 51 (fun _ => [aN G 0 g, .own 1 G2 0 n]), .row G2 1 n 5 f] w 0 g 0 0 _
     exact ⟨⟨_, rfl⟩, aqP _, fun _ => ⟨asp, b, 0, dX, ⟨dT, fun _ => rfl⟩, rfl⟩⟩
    | 1, hj =>
     cases hj
     exact ⟨u1, by rw [← zV]; exact q4, DM⟩) 0 (fun i j bs n' e' f' F' hi hj => by
    match j, hj with
    | 0, hj => cases hj
    | 1, hj => cases hj)
  exact ⟨_, _, _, _, S, rfl, ⟨rfl, rfl⟩, ⟨#[], rfl, rfl, fun j pv hj => by simp at hj⟩, mQ.heap, mQ.ok, ji⟩
 have hc0 : w.cell? ⟨b, 0, none⟩ = some u := by rw [cell_of_row w b 0 cur 51 (0, 0) ju]; exact hu
 rcases hk with rfl | rfl
 ·obtain ⟨k, hk⟩ : ∃ k, cur.size / Tryz.prog.cellsOf 51 = k + 1 := by rw [Od]; exact ⟨cur.size / 2 - 1, by omega⟩
  refine (JW b cur.size w hc0 (by simp [World.shape?, ju]) att (by rw [hk]; exact Y0 k) (Lib.frozen_of_heap ju 0)).mono ?_
  rintro e w' ⟨rfl, rfl⟩
  refine fin _ (cur.setIfInBounds 0 (.pointer (some ⟨b, 0, none⟩))) (yM ju _) Array.size_setIfInBounds (by rw [Array.getElem?_setIfInBounds_self, if_pos att]) (by rw [asd atB]) (fun k hk => Cw hk _) (yN _) rfl rfl rfl
 ·refine (Oc b w hc0).mono ?_
  rintro e w' ⟨rfl, rfl⟩
  exact fin _ cur ju rfl hu rfl (fun _ _ => rfl) rfl rfl rfl rfl
def eE (a0 : aF) (a1 : ar) : Option (Int × Unit × aF) :=
 if (a0.aq.length + a1.length) * 1 ≤ 140737488355328 then some ((a1.length : Int), (), aF.mk () (a0.aq ++ a1)) else none
theorem k5 {a0 : aF} {a1 : ar} {r : Int × Unit × aF} {g1000 g1001 : Nat} (h : eE a0 a1 = some r) : ACall Tryz.prog 94 [.aM 0 g1000 0 0, .str a1] [.row g1000 2 1 51 (fun _ => [aN g1001 0 g1000, .own 1 g1001 0 a0.aq.length]), .row g1001 1 a0.aq.length 5 (row cB a0.aq)]
  (fun res h => ∃ G1 : Nat, res = .aU [.int .i64 r.1, .fO] ∧ h = [.row g1000 2 1 51 (fun _ => [aN G1 0 g1000, .own 1 G1 0 r.2.2.aq.length]), .row G1 1 r.2.2.aq.length 5 (row cB r.2.2.aq)]) := by
 obtain ⟨hb, rfl⟩ := bx h
 refine gd Tryz.func94 ?_
 refine .d (.d ?_)
 refine pcO aoH [0, 1] ⟨cw, ov, ⟨⟩⟩ (.aU []) [.row g1000 2 1 51 (fun _ => [.aM 0 g1000 0 0, .own 1 g1001 0 a0.aq.length]), .row g1001 1 a0.aq.length 5 (row cB a0.aq)] ?_
 have hl : nD 1 a0.aq a1 = some (a0.aq ++ a1) := if_pos hb
 refine .d ⟨rfl, ⟨rfl, ⟨rfl, _, rfl, ⟨rfl, hb, (a0.aq ++ a1).length, row cB (a0.aq ++ a1), fP hl, gv hl aO Oe, ?_⟩⟩⟩⟩
 refine ⟨rfl, ⟨rfl, ⟨rfl, _, fun _ => [.aM 0 g1000 0 0, .own 1 (g1001 + 1) 0 (a0.aq ++ a1).length], rfl, bX rfl, ?_⟩⟩⟩
 refine .d ?_
 exact en [0, 1] ⟨g1001 + 1, rfl, rfl⟩ (.bq ⟨.i, .j, ⟨⟩⟩) ⟨(ob rfl ⟨Fz.aN (G := g1001 + 1), .o, ⟨⟩⟩), od, ⟨⟩⟩
theorem E3 {P : Program} {e : TypeId} (hc : P.cellsOf e = 1) (count off n : Nat) (hn : off + n ≤ count) : liesAt P P.depth e count off e n = true := by
 have hd : P.depth = (2 * (P.types.size + Made.depth) + 1) + 1 := rfl
 rw [hd]
 simp only [liesAt, arC]
 left
 rw [hd]
 simp [rowAt, hc, hn, sameLayout, Nat.mod_one]
theorem pV {P : Program} {w : World} (pt it ty e : TypeId) (hp : P.underlying pt = some (.pointer e)) (hc : P.cellsOf e = 1) (g base cells : Nat) (JX : w.shape? g = some (e, cells)) (l : List UInt8) (h0 : l ≠ []) (hn : base + l.length ≤ cells) (h63 : l.length ≤ 9223372036854775807)
  (aI : ∀ j x, l[j]? = some x → w.cell? ((⟨g, base, none⟩ : Addr).add j) = some (.int .u8 x.toNat)) :
  (Builtin.unsafeString_ #[pt, it] ty #[.pointer (some ⟨g, base, none⟩), .int .i64 l.length]).run P w = .ok (.string ⟨l.toArray⟩) (w.freeze ⟨g, base, none⟩ l.length) := by
 have hl : l.length ≠ 0 := by simpa using h0
 have hlb := Lib.run_loadBytes (P := P) w l ⟨g, base, none⟩ .empty aI
 have aiC := E3 (P := P) hc (cells / P.cellsOf e) base l.length (by rw [hc]; simpa using hn)
 have Y2 : ¬ (9223372036854775807 : Int) < (l.length : Int) := by omega
 have aoI : Builtin.unsafeString_ #[pt, it] ty #[.pointer (some ⟨g, base, none⟩), .int .i64 l.length] =
   (do
    let n ← asInt (.int .i64 l.length)
    if n < 0 then runtimePanic (.error "unsafe.String: len out of range")
    if n > IntKind.i64.max then unsupported (.unsafePointer "String: a length above the largest int")
    if n = 0 then pure (.string .empty)
    else if ← variablesAt ⟨g, base, none⟩ (← elemOf pt) n.toNat then do
     let s ← loadBytes ⟨g, base, none⟩ .empty n.toNat
     freeze ⟨g, base, none⟩ n.toNat
     pure (.string s)
    else unsupported (.unsafePointer "String: not so many bytes at ptr")) := rfl
 rw [aoI]
 have aoJ : IntKind.i64.max = 9223372036854775807 := rfl
 have aoK : ¬ (l.length : Int) < 0 := by omega
 simp [asInt, asIntOf, aoJ, Y2, aoK, hl, variablesAt, JX, elemOf, run_underlying hp, aiC, hlb]
theorem aiD : Tryz.prog.underlying 88 = some (.pointer 5) := by kernel_rfl
theorem Y3 : Tryz.prog.cellsOf 5 = 1 := by kernel_rfl
set_option maxHeartbeats 2000000 in
set_option maxRecDepth 100000 in
theorem JY (b gb base cap : Nat) (l : List UInt8) (cur : Array Value) (w : World) (h1 : w.cell? ⟨b, 1, none⟩ = some (.slice (some ⟨gb, base, none⟩) l.length cap)) (hc : cap ≠ 0) (zW : l ≠ []) (hg : w.heap[gb]? = some (.cells cur 5 (0, 0))) (mP : base + l.length ≤ cur.size) (h63 : l.length ≤ 9223372036854775807)
  (aI : ∀ j x, l[j]? = some x → cur[base + j]? = some (.int .u8 x.toNat)) :
  Calls Tryz.prog 43 #[.pointer (some ⟨b, 0, none⟩)] w fun e w' => e = .returned (.string ⟨l.toArray⟩) ∧ w' = w.drew.freeze ⟨gb, base, none⟩ l.length := by
 have c1 : w.drew.cell? ⟨b, 1, none⟩ = some (.slice (some ⟨gb, base, none⟩) l.length cap) := h1
 have hSD : (Builtin.unsafeSliceData_ #[39] 88 #[.slice (some ⟨gb, base, none⟩) l.length cap]).run Tryz.prog w.drew = .ok (.pointer (some ⟨gb, base, none⟩)) w.drew :=
  Lib.run_unsafeSliceData_row _ _ _ _ _ _ hc
 have hUS : (Builtin.unsafeString_ #[88, 3] 9 #[.pointer (some ⟨gb, base, none⟩), .int .i64 l.length]).run Tryz.prog w.drew = .ok (.string ⟨l.toArray⟩) (w.drew.freeze ⟨gb, base, none⟩ l.length) := by
  refine pV 88 3 9 5 aiD Y3 gb base cur.size (by have hg' : w.drew.heap[gb]? = some (.cells cur 5 (0, 0)) := hg; simp [World.shape?, hg']) l zW mP h63 (fun j x hx => ?_)
  have hg' : w.drew.heap[gb]? = some (.cells cur 5 (0, 0)) := hg
  rw [Addr.add_lit, cell_of_row w.drew gb (base + j) cur 5 (0, 0) hg']
  exact aI j x hx
 clear hc zW aI
 go_enter Tryz.func43, Tryz.ntmps43
 go_wp2
 go_region
 all_goals (go_wp2; go_ret; exact ⟨rfl, rfl⟩)
theorem E4 {w : World} {p : Addr} {n k : Nat} (h : k ≠ p.block) : (w.freeze p n).heap[k]? = w.heap[k]? := by
 unfold World.freeze
 split
 ·rfl
 ·simp only [arU]
  rw [if_neg (asa h)]
theorem E5 {w : World} {g base n : Nat} {cur : Array Value} {e : TypeId} {z : Nat × Nat} (h : w.heap[g]? = some (.cells cur e z)) : ∃ z', (w.freeze ⟨g, base, none⟩ n).heap[g]? = some (.cells cur e z') := by
 unfold World.freeze
 split
 ·exact ⟨z, h⟩
 ·simp only [arU]
  rw [if_pos trivial, h]
  obtain ⟨lo, hi⟩ := z
  exact ⟨_, rfl⟩
theorem AV {w : World} {p : Addr} {n : Nat} : (w.freeze p n).heap.size = w.heap.size ∧ (w.freeze p n).os = w.os ∧ (w.freeze p n).tape = w.tape ∧ (w.freeze p n).output = w.output := by
 unfold World.freeze
 split
 ·exact ⟨rfl, rfl, rfl, rfl⟩
 ·exact ⟨by simp, rfl, rfl, rfl⟩
def eF (a0 : aF) : Option (ar × aF) := if a0.aq ≠ [] ∧ a0.aq.length ≤ 9223372036854775807 then some (a0.aq, a0) else none
theorem mR {a0 : aF} {r : ar × aF} {g1000 g1001 : Nat} (h : eF a0 = some r) : ACall Tryz.prog 43 [.aM 0 g1000 0 0] [.row g1000 2 1 51 (fun _ => [aN g1001 0 g1000, .own 1 g1001 0 a0.aq.length]), .row g1001 1 a0.aq.length 5 (row cB a0.aq)]
  (fun res h => res = .str r.1 ∧ h = [.dead, .dead]) := by
 obtain ⟨⟨nr, h63⟩, rfl⟩ := bx h
 generalize hl : a0.aq = l at *
 have w3 : 0 < l.length := List.length_pos_iff.2 nr
 refine ⟨⟨_, _, Tryz.func43, rfl, by kernel_rfl⟩, fun w vs μ S hH hM fv ha => ?_⟩
 obtain ⟨v0, hv, hp⟩ := ha 0 _ rfl
 have hp : a6 μ [.row g1000 2 1 51 (fun _ => [aN g1001 0 g1000, .own 1 g1001 0 l.length]), .row g1001 1 l.length 5 (row cB l)] w 0 g1000 0 0 v0 := hp
 obtain ⟨_, _, hr⟩ := hp
 obtain ⟨_, b, base, dX, ⟨dT, Y1⟩, rfl⟩ := hr rfl
 obtain rfl : base = 0 := Y1 rfl
 obtain rfl := Jj fv hv
 obtain ⟨_, hc⟩ := hH 0 _ _ _ _ _ rfl
 rw [dX] at hc
 obtain ⟨cur, ju, mP, aI⟩ := bw.cells dT hc
 obtain ⟨u1, zV, DM⟩ := aI 0 1 _ asp rfl
 have DM : aV μ [.row g1000 2 1 51 (fun _ => [aN g1001 0 g1000, .own 1 g1001 0 l.length]), .row g1001 1 l.length 5 (row cB l)] w 1 g1001 0 l.length u1 := DM
 obtain ⟨_, _, DM⟩ := DM
 obtain ⟨_, DM⟩ := DM rfl
 obtain ⟨_, hc1⟩ := hH 1 _ _ _ _ _ rfl
 cases wZ : μ 1 with
 | none => rw [wZ] at hc1; omega
 | some p =>
  obtain ⟨gb, bb⟩ := p
  rw [wZ] at DM hc1
  obtain ⟨a, cap, rfl, hle, hx, TH⟩ := DM
  obtain rfl := hx att
  obtain ⟨aoL, JZ, TJ, Y4⟩ := bw.cells TH hc1
  simp only [Nat.zero_mul, ard, arR, Nat.mul_one] at zV TJ
  have hoG : bH μ [.row g1000 2 1 51 (fun _ => [aN g1001 0 g1000, .own 1 g1001 0 l.length]), .row g1001 1 l.length 5 (row cB l)] gb := .inl ⟨1, _, _, _, _, _, bb, rfl, wZ⟩
  have Np : ∀ (id g sz n : Nat) (e : TypeId) (f : Nat → List PV) (b' jL : Nat), [ak.row g1000 2 1 51 (fun _ => [aN g1001 0 g1000, .own 1 g1001 0 l.length]), .row g1001 1 l.length 5 (row cB l)][id]? = some (ak.row g sz n e f) → μ id = some (b', jL) → ¬ my w b' := fun id g sz n e f b' jL h1 h2 => by
   match id, h1, h2 with
   | 0, h1, h2 => rw [dX] at h2; injection h2 with h2; injection h2 with h2 _; subst h2; exact dT.qw
   | 1, h1, h2 => rw [wZ] at h2; injection h2 with h2; injection h2 with h2 _; subst h2; exact TH.qw
   | id + 2, h1, h2 => simp at h1
  have hnh : ∀ b' id i j, ¬ cA [ak.row g1000 2 1 51 (fun _ => [aN g1001 0 g1000, .own 1 g1001 0 l.length]), .row g1001 1 l.length 5 (row cB l)] id i j b' := fun b' id i j ⟨g', bs, n', e', f', _, _, _, _, _, q1, q2, q3, _⟩ => by
   match id, q1 with
   | 0, q1 =>
    simp at q1; obtain ⟨rfl, rfl, rfl, rfl, rfl⟩ := q1
    match j, q3 with
    | 0, q3 => cases g1001 <;> cases q3
    | 1, q3 => cases q3
   | 1, q1 =>
    simp at q1; obtain ⟨rfl, rfl, rfl, rfl, rfl⟩ := q1
    rw [lE q2] at q3
    match j, q3 with
    | 0, q3 => cases q3
   | id + 2, q1 => simp at q1
  have w4 : ∀ b', ¬ bH μ [ak.dead, .dead] b' := fun b' kr => by
   rcases kr with ⟨id, g, sz, n, e, f, base, h1, _⟩ | ⟨id, i, j, g, sz, n, e, f, _, _, _, _, _, h1, _⟩
   ·match id, h1 with
    | 0, h1 => cases h1
    | 1, h1 => cases h1
    | id + 2, h1 => simp at h1
   ·match id, h1 with
    | 0, h1 => cases h1
    | 1, h1 => cases h1
    | id + 2, h1 => simp at h1
  have hnr : ∀ (id g sz n : Nat) (e : TypeId) (f : Nat → List PV), [ak.dead, .dead][id]? = some (ak.row g sz n e f) → False := fun id g sz n e f h1 => by
   match id, h1 with
   | 0, h1 => cases h1
   | 1, h1 => cases h1
   | id + 2, h1 => simp at h1
  refine (JY b gb bb cap l aoL w (by rw [cell_of_row w b 1 cur 51 (0, 0) ju]; exact zV) att nr JZ TJ h63 (fun j x hx => ?_)).mono ?_
  ·obtain ⟨hj, rfl⟩ := At.1 hx
   obtain ⟨v, h1, h2⟩ := Y4 j 0 (.int .u8 (l[j]).toNat) hj (by rw [lE hj]; rfl)
   have h2 : aE S w (.int .u8 (l[j]).toNat) v := h2
   cases h2
   simpa using h1
  ·rintro e w' ⟨rfl, rfl⟩
   have ne : ∀ k, k ≠ gb → (w.drew.freeze ⟨gb, bb, none⟩ l.length).heap[k]? = w.heap[k]? := fun k hk => E4 hk
   obtain ⟨z', hz⟩ := E5 (n := l.length) (base := bb) (w := w.drew) (g := gb) (show w.drew.heap[gb]? = _ from JZ)
   obtain ⟨s1, s2, s3, s4⟩ := AV (w := w.drew) (p := ⟨gb, bb, none⟩) (n := l.length)
   have hS : ∀ k, S k → (w.drew.freeze ⟨gb, bb, none⟩ l.length).heap[k]? = w.heap[k]? := fun k hk => ne k (fun q => by subst q; exact hM.apart _ hoG hk)
   refine ⟨_, .str l, [.dead, .dead], μ, S, rfl, ⟨rfl, rfl⟩, .str _, fun id g sz n e f h1 => (hnr _ _ _ _ _ _ h1).elim, ⟨fun b' h1 => absurd h1 (w4 b'), fun b' h1 => absurd h1 (w4 b'), fun k hk => by rw [s1]; exact hM.slt k hk, fun i j g sz n e f _ _ _ _ _ _ _ _ h1 => (hnr _ _ _ _ _ _ h1).elim, hM.known.Og hS (fun _ q => q), fun b' h1 => absurd (.inl h1) (w4 b'), fun b' id i j _ _ _ h1 => absurd (.inr ⟨id, i, j, h1⟩) (w4 b')⟩,
    ⟨aqP _, fun k _ hk => ne k (fun q => by subst q; exact hk hoG), fun _ q => q, fun _ q => .inl q, fun b' h1 => absurd h1 (w4 b'), by rw [s1]; exact aqP _, s2, s3, s4, fun id g sz n e f h1 => ?_, fun id h1 => ?_, fun k c _ hc => ?_, fun id g sz n e f b' jL h1 h2 h3 => absurd h3 (Np _ _ _ _ _ _ _ _ h1 h2), fun b' id i j h1 => absurd h1 (hnh _ _ _ _)⟩⟩
   ·match id, h1 with
    | 0, h1 => trivial
    | 1, h1 => trivial
    | id + 2, h1 => simp at h1
   ·match id, h1 with
    | 0, h1 => rfl
    | 1, h1 => rfl
    | id + 2, h1 => simp at h1
   ·by_cases hk : k = gb
    ·subst hk
     obtain ⟨c1, e1, z1, q1, q2⟩ := hc
     rw [JZ] at q1
     injection q1 with q1
     injection q1 with q1 _ _
     subst q1
     exact ⟨_, _, _, hz, q2⟩
    ·exact iq.of_same (ne k hk) hc
end Go.Am
