/- Texts of the proof, joined and shortened. -/
import Derived.Test.YtiigfbapjeefbaaGreatDoorPk5
import Derived.Test.YtiigfbapjeefbaaGreatDoorShelf
import Derived.Shelf.Strings.Builder1
import Derived.Lib.UnsafeStr
set_option linter.unusedVariables false
set_option linter.unusedSimpArgs false
set_option maxRecDepth 100000
namespace Go.Am
open Go Go.RowKit Go.Proofs
def jr (a0 : Int) : Option (ar) :=
 m73 a0 >>= fun v1 =>
 some v1
theorem u6 {a0 : Int} {r : ar} (h : jr a0 = some r) : ACall Tryz.prog 152 [.int .i64 a0] [] (fun res h => res = .str r ∧ h = []) := by
 refine gd Tryz.func152 ?_
 unfold jr at h
 exact .d (.d (bk h fun v1 lz h => (aS (aoi lz) (eS h))))
def jY (a0 : ar) : Option (Bool) :=
 nA a0 [58, 58] >>= fun (v1, v2, v3) =>
 (if v3 = true then
 (if v1 = ([115, 116, 97, 116, 105, 99] : ar) then
 a8 v2 >>= fun v7 =>
 some v7
 else
 a8 v1 >>= fun v9 =>
 (if v9 = true then
 a8 v2 >>= fun v12 =>
 some v12
 else
 some false))
 else
 some false)
theorem w3 {a0 : ar} {r : Bool} (h : jY a0 = some r) : ACall Tryz.prog 144 [.str a0] [] (fun res h => res = .bool r ∧ h = []) := by
 refine gd Tryz.func144 ?_
 unfold jY at h
 refine .d (.d ?_)
 obtain ⟨⟨v1, v2, v3⟩, hv4, h⟩ := bd h
 refine aS (wX hv4) (.d (sV h (fun B2 h => ?_) (fun B2 h => ?_)))
 refine .t (.t (sE h (fun xF h => ?_) (fun xF h => ?_)))
 exact .t (.t (.t (.t (.t (.t (bk h fun v7 hv8 h => (aS (cj hv8) (.t (eB h)))))))))
 refine .f (bk h fun v9 aon h => (aS (cj aon) (.t (.f (.t (sV h (fun qZ h => ?_) (fun qZ h => ?_)))))))
 exact .t (bk h fun v12 aoo h => (aS (cj aoo) (.t (eB h))))
 exact .f (.f (eB h))
 exact .f (.f (.f (.f (.f (.f (.f (eB h)))))))
def fO (a1 : Bool) (sI : List ae) (Ct : Bool) (Cu : Int) : Option ((Unit) ⊕ Bool) :=
 (if Cu < (sI.length : Int) then
 idx sI Cu >>= fun sJ =>
 ((
 (if sJ.ai = 25 then
 (if a1 = true then
 some (.inl true)
 else
 (if sJ.ai = 24 then
 (if Ct = true then
 some (.inr (.inr false))
 else
 some (.inl Ct))
 else
 some (.inr (.inr false))))
 else
 (if sJ.ai = 24 then
 (if Ct = true then
 some (.inr (.inr false))
 else
 some (.inl Ct))
 else
 some (.inr (.inr false))))
 : Option ((Bool) ⊕ ((Unit) ⊕ Bool))) >>= fun Yy => match Yy with
 | .inr r => some r
 | .inl Jn =>
 EW sJ.aD 0 1 >>= fun v222 =>
 (if v222 = true then
 a8 sJ.aj >>= fun af8 =>
 (if af8 = true then
 (if (sJ.ah.length : Int) > 0 then
 some (.inr false)
 else
 fO a1 sI Jn (aU (Cu + 1)))
 else
 some (.inr false))
 else
 some (.inr false))
 )
 else
 some (.inl ()))
partial_fixpoint
mutual
def bP (a0 : ae) : Option (Bool) :=
 ((
 (if a0.ai = 1 then
 EW a0.aD 0 1000000000 >>= fun v5 =>
 (if v5 = true then
 (if a0.aj = ([] : ar) then
 some (.inr ((a0.ah.length : Int) == 0))
 else
 some (.inr false))
 else
 some (.inr false))
 else
 (if a0.ai = 2 then
 (if a0.aD = 0 then
 (if (a0.aj.length : Int) ≤ 400 then
 some (.inr ((a0.ah.length : Int) == 0))
 else
 some (.inr false))
 else
 some (.inr false))
 else
 (if a0.ai = 3 then
 EW a0.aD 0 2 >>= fun oD =>
 (if oD = true then
 (if a0.aj = ([] : ar) then
 some (.inr ((a0.ah.length : Int) == 0))
 else
 some (.inr false))
 else
 some (.inr false))
 else
 (if a0.ai = 4 then
 eU a0 >>= fun Jo =>
 some (.inr Jo)
 else
 (if a0.ai = 5 then
 ((
 js a0 0
 : Option ((Unit) ⊕ ((Unit) ⊕ Bool))) >>= fun o21 => match o21 with
 | .inr r => some r
 | .inl _ =>
 (if a0.aD = 0 then
 some (.inr (a0.aj == ([] : ar)))
 else
 some (.inr false))
 )
 else
 (
 (if a0.ai = 7 then
 some (a0.ai == 7)
 else
 (if a0.ai = 11 then
 some (a0.ai == 11)
 else
 (if a0.ai = 12 then
 some (a0.ai == 12)
 else
 some (a0.ai == 13))))
 : Option (Bool)) >>= fun b52 =>
 (if b52 = true then
 (if a0.aD = 0 then
 (if a0.aj = ([] : ar) then
 (if (a0.ah.length : Int) = 2 then
 bw a0.ah >>= fun Jp =>
 some (.inr Jp)
 else
 some (.inr false))
 else
 some (.inr false))
 else
 some (.inr false))
 else
 (if a0.ai = 8 then
 (if a0.aD = 0 then
 a8 a0.aj >>= fun v67 =>
 (if v67 = true then
 (if (a0.ah.length : Int) = 1 then
 bw a0.ah >>= fun v71 =>
 some (.inr v71)
 else
 some (.inr false))
 else
 some (.inr false))
 else
 some (.inr false))
 else
 (if a0.ai = 9 then
 (if a0.aD = 1 then
 (if a0.aj = ([] : ar) then
 (if (a0.ah.length : Int) = 1 then
 bw a0.ah >>= fun v77 =>
 some (.inr v77)
 else
 some (.inr false))
 else
 some (.inr false))
 else
 (if a0.aD = 2 then
 (if a0.aj = ([] : ar) then
 (if (a0.ah.length : Int) = 1 then
 bw a0.ah >>= fun QF =>
 some (.inr QF)
 else
 some (.inr false))
 else
 some (.inr false))
 else
 some (.inr false)))
 else
 (if a0.ai = 10 then
 EW a0.aD 1 15 >>= fun v85 =>
 (if v85 = true then
 (if a0.aj = ([] : ar) then
 (if (a0.ah.length : Int) = 2 then
 bw a0.ah >>= fun v90 =>
 some (.inr v90)
 else
 some (.inr false))
 else
 some (.inr false))
 else
 some (.inr false))
 else
 (if a0.ai = 14 then
 (if a0.aD = 0 then
 (if a0.aj = ([] : ar) then
 (if (a0.ah.length : Int) = 3 then
 bw a0.ah >>= fun v96 =>
 some (.inr v96)
 else
 some (.inr false))
 else
 some (.inr false))
 else
 some (.inr false))
 else
 (
 (if a0.ai = 15 then
 some (a0.ai == 15)
 else
 some (a0.ai == 16))
 : Option (Bool)) >>= fun b98 =>
 (if b98 = true then
 (if a0.aD = 0 then
 (if a0.aj = ([] : ar) then
 (if (a0.ah.length : Int) = 2 then
 bw a0.ah >>= fun v107 =>
 (if v107 = true then
 idx a0.ah 0 >>= fun Yz =>
 je Yz >>= fun Hi =>
 some (.inr Hi)
 else
 some (.inr false))
 else
 some (.inr false))
 else
 some (.inr false))
 else
 some (.inr false))
 else
 (if a0.ai = 17 then
 (if a0.aD = 0 then
 a8 a0.aj >>= fun af9 =>
 (if af9 = true then
 (if (a0.ah.length : Int) = 1 then
 idx a0.ah 0 >>= fun YA =>
 eU YA >>= fun aga =>
 some (.inr aga)
 else
 some (.inr false))
 else
 some (.inr false))
 else
 some (.inr false))
 else
 (if a0.ai = 18 then
 (if a0.aD = 0 then
 a8 a0.aj >>= fun agb =>
 (if agb = true then
 bw a0.ah >>= fun Iz =>
 some (.inr Iz)
 else
 some (.inr false))
 else
 some (.inr false))
 else
 (if a0.ai = 19 then
 (if a0.aD = 0 then
 (if a0.aj = ([] : ar) then
 (if (a0.ah.length : Int) ≥ 1 then
 bw a0.ah >>= fun agc =>
 some (.inr agc)
 else
 some (.inr false))
 else
 some (.inr false))
 else
 some (.inr false))
 else
 (if a0.ai = 20 then
 (if a0.aD = 0 then
 a8 a0.aj >>= fun v139 =>
 (if v139 = true then
 (if (a0.ah.length : Int) ≥ 1 then
 bw a0.ah >>= fun v143 =>
 some (.inr v143)
 else
 some (.inr false))
 else
 some (.inr false))
 else
 some (.inr false))
 else
 (if a0.ai = 21 then
 (if a0.aD = 0 then
 jY a0.aj >>= fun AQ =>
 (if AQ = true then
 bw a0.ah >>= fun agd =>
 some (.inr agd)
 else
 some (.inr false))
 else
 some (.inr false))
 else
 (if a0.ai = 22 then
 (if a0.aD = 0 then
 (if a0.aj = ([115, 116, 97, 116, 105, 99] : ar) then
 bw a0.ah >>= fun uV =>
 some (.inr uV)
 else
 a8 a0.aj >>= fun v157 =>
 (if v157 = true then
 bw a0.ah >>= fun v160 =>
 some (.inr v160)
 else
 some (.inr false)))
 else
 some (.inr false))
 else
 (if a0.ai = 23 then
 (if a0.aD = 0 then
 (if a0.aj = ([] : ar) then
 iN a0.ah true >>= fun uQ =>
 some (.inr uQ)
 else
 some (.inr false))
 else
 some (.inr false))
 else
 some (.inl ())))))))))))))))))))
 : Option ((Unit) ⊕ Bool)) >>= fun o1 => match o1 with
 | .inr r => some r
 | .inl _ =>
 some false
 )
partial_fixpoint
def bw (a0 : List ae) : Option (Bool) :=
 ((
 gT a0 0
 : Option ((Unit) ⊕ Bool)) >>= fun Jq => match Jq with
 | .inr r => some r
 | .inl _ =>
 some true
 )
partial_fixpoint
def iN (a0 : List ae) (a1 : Bool) : Option (Bool) :=
 (if (aU ((a0.length : Int) - 1)) < 0 then
 some false
 else
 idx a0 (aU ((a0.length : Int) - 1)) >>= fun YB =>
 (if YB.ai = 48 then
 idx a0 (aU ((a0.length : Int) - 1)) >>= fun YC =>
 bC YC >>= fun IA =>
 (if IA = true then
 ((
 G4 a0 (aU ((a0.length : Int) - 1)) >>= fun sI =>
 fO a1 sI false 0
 : Option ((Unit) ⊕ Bool)) >>= fun Jr => match Jr with
 | .inr r => some r
 | .inl _ =>
 some true
 )
 else
 some false)
 else
 some false))
partial_fixpoint
def bC (a0 : ae) : Option (Bool) :=
 (if a0.aD = 0 then
 ((
 (if a0.ai = 31 then
 (if a0.aj = ([] : ar) then
 some (.inr false)
 else
 jX a0.aj [60, 63] >>= fun age =>
 (if age = true then
 some (.inr false)
 else
 some (.inr ((a0.ah.length : Int) == 0))))
 else
 (
 (if a0.ai = 32 then
 some (a0.ai == 32)
 else
 (if a0.ai = 33 then
 some (a0.ai == 33)
 else
 some (a0.ai == 42)))
 : Option (Bool)) >>= fun Js =>
 (if Js = true then
 (if a0.aj = ([] : ar) then
 (if (a0.ah.length : Int) = 1 then
 idx a0.ah 0 >>= fun YD =>
 bP YD >>= fun agf =>
 some (.inr agf)
 else
 some (.inr false))
 else
 some (.inr false))
 else
 (if a0.ai = 34 then
 (if a0.aj = ([] : ar) then
 EW (a0.ah.length : Int) 2 3 >>= fun Hp =>
 (if Hp = true then
 idx a0.ah 0 >>= fun uY =>
 bP uY >>= fun yK =>
 (if yK = true then
 jL a0.ah 1 >>= fun N4 =>
 dG N4 >>= fun agh =>
 some (.inr agh)
 else
 some (.inr false))
 else
 some (.inr false))
 else
 some (.inr false))
 else
 (if a0.ai = 35 then
 (if a0.aj = ([] : ar) then
 (if (a0.ah.length : Int) = 2 then
 idx a0.ah 0 >>= fun YE =>
 bP YE >>= fun agi =>
 (if agi = true then
 jL a0.ah 1 >>= fun N5 =>
 dG N5 >>= fun agj =>
 some (.inr agj)
 else
 some (.inr false))
 else
 some (.inr false))
 else
 some (.inr false))
 else
 (if a0.ai = 36 then
 (if a0.aj = ([] : ar) then
 EW (a0.ah.length : Int) 3 4 >>= fun agk =>
 (if agk = true then
 idx a0.ah 0 >>= fun YF =>
 bP YF >>= fun agl =>
 (if agl = true then
 idx a0.ah 1 >>= fun YG =>
 eU YG >>= fun agm =>
 (if agm = true then
 (if (a0.ah.length : Int) = 3 then
 jL a0.ah (aU ((a0.ah.length : Int) - 1)) >>= fun N6 =>
 dG N6 >>= fun agn =>
 some (.inr agn)
 else
 idx a0.ah 2 >>= fun YH =>
 eU YH >>= fun ago =>
 (if ago = true then
 jL a0.ah (aU ((a0.ah.length : Int) - 1)) >>= fun N7 =>
 dG N7 >>= fun Hr =>
 some (.inr Hr)
 else
 some (.inr false)))
 else
 some (.inr false))
 else
 some (.inr false))
 else
 some (.inr false))
 else
 some (.inr false))
 else
 (
 (if a0.ai = 37 then
 some (a0.ai == 37)
 else
 some (a0.ai == 38))
 : Option (Bool)) >>= fun Jt =>
 (if Jt = true then
 (if a0.aj = ([] : ar) then
 some (.inr ((a0.ah.length : Int) == 0))
 else
 some (.inr false))
 else
 (if a0.ai = 39 then
 (if a0.aj = ([] : ar) then
 (if (a0.ah.length : Int) ≤ 1 then
 bw a0.ah >>= fun agp =>
 some (.inr agp)
 else
 some (.inr false))
 else
 some (.inr false))
 else
 (if a0.ai = 40 then
 a8 a0.aj >>= fun AR =>
 (if AR = true then
 some (.inr ((a0.ah.length : Int) == 0))
 else
 some (.inr false))
 else
 (if a0.ai = 41 then
 (if a0.aj = ([] : ar) then
 (if (a0.ah.length : Int) = 1 then
 idx a0.ah 0 >>= fun Cg =>
 nB Cg >>= fun nz =>
 some (.inr nz)
 else
 some (.inr false))
 else
 some (.inr false))
 else
 (if a0.ai = 46 then
 (if a0.aj = ([] : ar) then
 (if (a0.ah.length : Int) = 1 then
 idx a0.ah (aU ((a0.ah.length : Int) - 1)) >>= fun YI =>
 bP YI >>= fun agq =>
 some (.inr agq)
 else
 (if (a0.ah.length : Int) = 2 then
 idx a0.ah 0 >>= fun gG =>
 eU gG >>= fun uS =>
 (if uS = true then
 idx a0.ah (aU ((a0.ah.length : Int) - 1)) >>= fun YJ =>
 bP YJ >>= fun agr =>
 some (.inr agr)
 else
 some (.inr false))
 else
 some (.inr false)))
 else
 some (.inr false))
 else
 (if a0.ai = 47 then
 (if (a0.aj.length : Int) ≤ 400 then
 some (.inr ((a0.ah.length : Int) == 0))
 else
 some (.inr false))
 else
 (if a0.ai = 48 then
 ((
 jt a0 0
 : Option ((Unit) ⊕ ((Unit) ⊕ Bool))) >>= fun AS => match AS with
 | .inr r => some r
 | .inl _ =>
 some (.inr (a0.aj == ([] : ar)))
 )
 else
 (if a0.ai = 43 then
 (if a0.aj = ([] : ar) then
 pD a0.ah >>= fun ags =>
 some (.inr ags)
 else
 some (.inr false))
 else
 some (.inl ()))))))))))))))
 : Option ((Unit) ⊕ Bool)) >>= fun YK => match YK with
 | .inr r => some r
 | .inl _ =>
 some false
 )
 else
 some false)
partial_fixpoint
def dG (a0 : List ae) : Option (Bool) :=
 ((
 ju a0 0
 : Option ((Unit) ⊕ Bool)) >>= fun Ju => match Ju with
 | .inr r => some r
 | .inl _ =>
 some true
 )
partial_fixpoint
def pD (a0 : List ae) : Option (Bool) :=
 (if (a0.length : Int) < 2 then
 some false
 else
 G4 a0 1 >>= fun N8 =>
 dG N8 >>= fun AU =>
 (if AU = true then
 jL a0 1 >>= fun EZ =>
 ((
 idx EZ 0 >>= fun ug =>
 (if ug.ai = 44 then
 (if ug.aD = 0 then
 a8 ug.aj >>= fun N9 =>
 (if N9 = true then
 (if (ug.ah.length : Int) = 2 then
 idx ug.ah 0 >>= fun yP =>
 eU yP >>= fun w4 =>
 (if w4 = true then
 jL ug.ah 1 >>= fun E0 =>
 dG E0 >>= fun Oa =>
 (if Oa = true then
 jL EZ 1 >>= fun Ob =>
 some (.inl Ob)
 else
 some (.inr false))
 else
 some (.inr false))
 else
 some (.inr false))
 else
 some (.inr false))
 else
 some (.inr false))
 else
 some (.inl EZ))
 : Option (((List ae)) ⊕ Bool)) >>= fun YL => match YL with
 | .inr r => some r
 | .inl Cv =>
 (if (Cv.length : Int) = 0 then
 some true
 else
 idx Cv 0 >>= fun oJ =>
 (if (Cv.length : Int) = 1 then
 (if oJ.ai = 45 then
 (if oJ.aD = 0 then
 (if oJ.aj = ([] : ar) then
 (if (oJ.ah.length : Int) = 1 then
 dG oJ.ah >>= fun E1 =>
 some E1
 else
 some false)
 else
 some false)
 else
 some false)
 else
 some false)
 else
 some false))
 )
 else
 some false))
partial_fixpoint
def nB (a0 : ae) : Option (Bool) :=
 je a0 >>= fun agt =>
 (if agt = true then
 bP a0 >>= fun IG =>
 some IG
 else
 some false)
partial_fixpoint
def js (a0 : ae) (oA : Int) : Option ((Unit) ⊕ ((Unit) ⊕ Bool)) :=
 (if oA < (a0.ah.length : Int) then
 idx a0.ah oA >>= fun u7 =>
 (if u7.ai = 6 then
 (if u7.aD = 0 then
 (if u7.aj = ([] : ar) then
 EW (u7.ah.length : Int) 1 2 >>= fun v40 =>
 (if v40 = true then
 bw u7.ah >>= fun Oc =>
 (if Oc = true then
 js a0 (aU (oA + 1))
 else
 some (.inr (.inr false)))
 else
 some (.inr (.inr false)))
 else
 some (.inr (.inr false)))
 else
 some (.inr (.inr false)))
 else
 some (.inr (.inr false)))
 else
 some (.inl ()))
partial_fixpoint
def gT (a0 : List ae) (iD : Int) : Option ((Unit) ⊕ Bool) :=
 (if iD < (a0.length : Int) then
 idx a0 iD >>= fun qu =>
 bP qu >>= fun v183 =>
 (if v183 = true then
 gT a0 (aU (iD + 1))
 else
 some (.inr false))
 else
 some (.inl ()))
partial_fixpoint
def jt (a0 : ae) (iE : Int) : Option ((Unit) ⊕ ((Unit) ⊕ Bool)) :=
 (if iE < (a0.ah.length : Int) then
 idx a0.ah iE >>= fun qm =>
 bC qm >>= fun E2 =>
 (if E2 = true then
 jt a0 (aU (iE + 1))
 else
 some (.inr (.inr false)))
 else
 some (.inl ()))
partial_fixpoint
def ju (a0 : List ae) (iF : Int) : Option ((Unit) ⊕ Bool) :=
 (if iF < (a0.length : Int) then
 idx a0 iF >>= fun rr =>
 (if rr.ai = 48 then
 bC rr >>= fun E3 =>
 (if E3 = true then
 ju a0 (aU (iF + 1))
 else
 some (.inr false))
 else
 some (.inr false))
 else
 some (.inl ()))
partial_fixpoint
end
def DL (a0 : ae) (r : Bool) : Prop := ACall Tryz.prog 72 [.agg a0.lit] [] (fun res h => res = .bool r ∧ h = [])
def yQ (a0 : List ae) (r : Bool) : Prop := ACall Tryz.prog 139 [sl 4 ae.cells a0] [] (fun res h => res = .bool r ∧ h = [])
def Jv (a0 : List ae) (a1 : Bool) (r : Bool) : Prop := ACall Tryz.prog 134 [sl 4 ae.cells a0, .bool a1] [] (fun res h => res = .bool r ∧ h = [])
def xG (a0 : ae) (r : Bool) : Prop := ACall Tryz.prog 68 [.agg a0.lit] [] (fun res h => res = .bool r ∧ h = [])
def Jw (a0 : List ae) (r : Bool) : Prop := ACall Tryz.prog 137 [sl 4 ae.cells a0] [] (fun res h => res = .bool r ∧ h = [])
def Jx (a0 : List ae) (r : Bool) : Prop := ACall Tryz.prog 141 [sl 4 ae.cells a0] [] (fun res h => res = .bool r ∧ h = [])
def Jy (a0 : ae) (r : Bool) : Prop := ACall Tryz.prog 140 [.agg a0.lit] [] (fun res h => res = .bool r ∧ h = [])
inductive eh : ae → Int → ((Unit) ⊕ ((Unit) ⊕ Bool)) → Prop
 | mk (Jz : (List ae) → Option (Bool)) (agu : ∀ a0 r, Jz a0 = some r → yQ a0 r) (fF : ae → Int → Option ((Unit) ⊕ ((Unit) ⊕ Bool))) (sK : ∀ a0 oA o, fF a0 oA = some o → eh a0 oA o) (a0 : ae) (oA : Int) (o : (Unit) ⊕ ((Unit) ⊕ Bool)) (h : (
 (if oA < (a0.ah.length : Int) then
 idx a0.ah oA >>= fun u7 =>
 (if u7.ai = 6 then
 (if u7.aD = 0 then
 (if u7.aj = ([] : ar) then
 EW (u7.ah.length : Int) 1 2 >>= fun v40 =>
 (if v40 = true then
 Jz u7.ah >>= fun Oc =>
 (if Oc = true then
 fF a0 (aU (oA + 1))
 else
 some (.inr (.inr false)))
 else
 some (.inr (.inr false)))
 else
 some (.inr (.inr false)))
 else
 some (.inr (.inr false)))
 else
 some (.inr (.inr false)))
 else
 some (.inl ()))
 ) = some o) : eh a0 oA o
theorem ru {motive : ae → Int → ((Unit) ⊕ ((Unit) ⊕ Bool)) → Prop} (step : ∀ (Jz : (List ae) → Option (Bool)) (agu : ∀ a0 r, Jz a0 = some r → yQ a0 r) (fF : ae → Int → Option ((Unit) ⊕ ((Unit) ⊕ Bool))) (sK : ∀ a0 oA o, fF a0 oA = some o → eh a0 oA o) (a0 : ae) (oA : Int) (o : (Unit) ⊕ ((Unit) ⊕ Bool)) (h : (
 (if oA < (a0.ah.length : Int) then
 idx a0.ah oA >>= fun u7 =>
 (if u7.ai = 6 then
 (if u7.aD = 0 then
 (if u7.aj = ([] : ar) then
 EW (u7.ah.length : Int) 1 2 >>= fun v40 =>
 (if v40 = true then
 Jz u7.ah >>= fun Oc =>
 (if Oc = true then
 fF a0 (aU (oA + 1))
 else
 some (.inr (.inr false)))
 else
 some (.inr (.inr false)))
 else
 some (.inr (.inr false)))
 else
 some (.inr (.inr false)))
 else
 some (.inr (.inr false)))
 else
 some (.inl ()))
 ) = some o) (ih : ∀ a0 oA o, fF a0 oA = some o → motive a0 oA o), motive a0 oA o) : ∀ a0 oA o, eh a0 oA o → motive a0 oA o :=
 fun a0 oA o h => eh.rec (motive := fun a0 oA o _ => motive a0 oA o) step h
inductive de : (List ae) → Int → ((Unit) ⊕ Bool) → Prop
 | mk (G72 : ae → Option (Bool)) (aop : ∀ a0 r, G72 a0 = some r → DL a0 r) (ed : (List ae) → Int → Option ((Unit) ⊕ Bool)) (qv : ∀ a0 iD o, ed a0 iD = some o → de a0 iD o) (a0 : List ae) (iD : Int) (o : (Unit) ⊕ Bool) (h : (
 (if iD < (a0.length : Int) then
 idx a0 iD >>= fun qu =>
 G72 qu >>= fun v183 =>
 (if v183 = true then
 ed a0 (aU (iD + 1))
 else
 some (.inr false))
 else
 some (.inl ()))
 ) = some o) : de a0 iD o
theorem pU {motive : (List ae) → Int → ((Unit) ⊕ Bool) → Prop} (step : ∀ (G72 : ae → Option (Bool)) (aop : ∀ a0 r, G72 a0 = some r → DL a0 r) (ed : (List ae) → Int → Option ((Unit) ⊕ Bool)) (qv : ∀ a0 iD o, ed a0 iD = some o → de a0 iD o) (a0 : List ae) (iD : Int) (o : (Unit) ⊕ Bool) (h : (
 (if iD < (a0.length : Int) then
 idx a0 iD >>= fun qu =>
 G72 qu >>= fun v183 =>
 (if v183 = true then
 ed a0 (aU (iD + 1))
 else
 some (.inr false))
 else
 some (.inl ()))
 ) = some o) (ih : ∀ a0 iD o, ed a0 iD = some o → motive a0 iD o), motive a0 iD o) : ∀ a0 iD o, de a0 iD o → motive a0 iD o :=
 fun a0 iD o h => de.rec (motive := fun a0 iD o _ => motive a0 iD o) step h
inductive eo : ae → Int → ((Unit) ⊕ ((Unit) ⊕ Bool)) → Prop
 | mk (JA : ae → Option (Bool)) (YM : ∀ a0 r, JA a0 = some r → xG a0 r) (fG : ae → Int → Option ((Unit) ⊕ ((Unit) ⊕ Bool))) (sL : ∀ a0 iE o, fG a0 iE = some o → eo a0 iE o) (a0 : ae) (iE : Int) (o : (Unit) ⊕ ((Unit) ⊕ Bool)) (h : (
 (if iE < (a0.ah.length : Int) then
 idx a0.ah iE >>= fun qm =>
 JA qm >>= fun E2 =>
 (if E2 = true then
 fG a0 (aU (iE + 1))
 else
 some (.inr (.inr false)))
 else
 some (.inl ()))
 ) = some o) : eo a0 iE o
theorem rv {motive : ae → Int → ((Unit) ⊕ ((Unit) ⊕ Bool)) → Prop} (step : ∀ (JA : ae → Option (Bool)) (YM : ∀ a0 r, JA a0 = some r → xG a0 r) (fG : ae → Int → Option ((Unit) ⊕ ((Unit) ⊕ Bool))) (sL : ∀ a0 iE o, fG a0 iE = some o → eo a0 iE o) (a0 : ae) (iE : Int) (o : (Unit) ⊕ ((Unit) ⊕ Bool)) (h : (
 (if iE < (a0.ah.length : Int) then
 idx a0.ah iE >>= fun qm =>
 JA qm >>= fun E2 =>
 (if E2 = true then
 fG a0 (aU (iE + 1))
 else
 some (.inr (.inr false)))
 else
 some (.inl ()))
 ) = some o) (ih : ∀ a0 iE o, fG a0 iE = some o → motive a0 iE o), motive a0 iE o) : ∀ a0 iE o, eo a0 iE o → motive a0 iE o :=
 fun a0 iE o h => eo.rec (motive := fun a0 iE o _ => motive a0 iE o) step h
inductive ep : (List ae) → Int → ((Unit) ⊕ Bool) → Prop
 | mk (JA : ae → Option (Bool)) (YM : ∀ a0 r, JA a0 = some r → xG a0 r) (fJ : (List ae) → Int → Option ((Unit) ⊕ Bool)) (sM : ∀ a0 iF o, fJ a0 iF = some o → ep a0 iF o) (a0 : List ae) (iF : Int) (o : (Unit) ⊕ Bool) (h : (
 (if iF < (a0.length : Int) then
 idx a0 iF >>= fun rr =>
 (if rr.ai = 48 then
 JA rr >>= fun E3 =>
 (if E3 = true then
 fJ a0 (aU (iF + 1))
 else
 some (.inr false))
 else
 some (.inr false))
 else
 some (.inl ()))
 ) = some o) : ep a0 iF o
theorem rz {motive : (List ae) → Int → ((Unit) ⊕ Bool) → Prop} (step : ∀ (JA : ae → Option (Bool)) (YM : ∀ a0 r, JA a0 = some r → xG a0 r) (fJ : (List ae) → Int → Option ((Unit) ⊕ Bool)) (sM : ∀ a0 iF o, fJ a0 iF = some o → ep a0 iF o) (a0 : List ae) (iF : Int) (o : (Unit) ⊕ Bool) (h : (
 (if iF < (a0.length : Int) then
 idx a0 iF >>= fun rr =>
 (if rr.ai = 48 then
 JA rr >>= fun E3 =>
 (if E3 = true then
 fJ a0 (aU (iF + 1))
 else
 some (.inr false))
 else
 some (.inr false))
 else
 some (.inl ()))
 ) = some o) (ih : ∀ a0 iF o, fJ a0 iF = some o → motive a0 iF o), motive a0 iF o) : ∀ a0 iF o, ep a0 iF o → motive a0 iF o :=
 fun a0 iF o h => ep.rec (motive := fun a0 iF o _ => motive a0 iF o) step h
theorem w5 : (∀ a0 r, bP a0 = some r → DL a0 r) ∧ (∀ a0 a1 r, iN a0 a1 = some r → Jv a0 a1 r) ∧ (∀ a0 r, bC a0 = some r → xG a0 r) ∧ (∀ a0 r, pD a0 = some r → Jx a0 r) ∧ (∀ a0 r, dG a0 = some r → Jw a0 r) ∧ (∀ a0 iF o, ju a0 iF = some o → ep a0 iF o) ∧ (∀ a0 iE o, jt a0 iE = some o → eo a0 iE o) ∧ (∀ a0 r, nB a0 = some r → Jy a0 r) ∧ (∀ a0 r, bw a0 = some r → yQ a0 r) ∧ (∀ a0 iD o, gT a0 iD = some o → de a0 iD o) ∧ (∀ a0 oA o, js a0 oA = some o → eh a0 oA o) := by
 refine bP.mutual_partial_correctness DL Jv xG Jx Jw ep eo Jy yQ de eh ?_ ?_ ?_ ?_ ?_ ?_ ?_ ?_ ?_ ?_ ?_
 intro _ _ _ YN jE aoq a0 r h
 refine gd Tryz.func72 ?_
 refine .d (.d ⟨rfl, ⟨rfl, _, rfl, (.d ⟨rfl, ⟨rfl, _, rfl, (.d ⟨rfl, ⟨rfl, _, rfl, ?_⟩⟩)⟩⟩)⟩⟩)
 obtain ⟨o1, Od, gL⟩ := bd h
 replace h := Od
 refine .cut (fun σ η => .inl () = o1 ∧ σ = [] ∧ η = []) ?_ ?_
 refine .d ⟨rfl, ⟨rfl, _, rfl, (.d (sE h (fun B1 h => ?_) (fun B1 h => ?_)))⟩⟩
 refine .d ⟨rfl, ⟨rfl, _, rfl, (bk h fun v5 hv6 h => (aS (Cw hv6) (sV h (fun B4 h => ?_) (fun B4 h => ?_))))⟩⟩
 refine .t (sE h (fun DM h => ?_) (fun DM h => ?_))
 refine .t (.t ?_)
 exact asK
 refine .f (.f ?_)
 exact asK
 refine .f (.f (.f (.f ?_)))
 exact asK
 refine .d (sE h (fun B3 h => ?_) (fun B3 h => ?_))
 refine .d (sE h (fun lT h => ?_) (fun lT h => ?_))
 refine ⟨rfl, (.t ⟨rfl, _, rfl, (.t (.t (.t (sD h (fun qZ h => ?_) (fun qZ h => ?_)))))⟩)⟩
 refine .t (.t ?_)
 exact asK
 refine .f (.f ?_)
 exact asK
 refine .f (.f (.f (.f (.f (.f (.f ?_))))))
 exact asK
 refine .d (sE h (fun oc h => ?_) (fun oc h => ?_))
 refine .d ⟨rfl, ⟨rfl, _, rfl, (bk h fun oD qf h => (aS (Cw qf) (sV h (fun lU h => ?_) (fun lU h => ?_))))⟩⟩
 refine .t (sE h (fun pT h => ?_) (fun pT h => ?_))
 refine .t (.t ?_)
 exact asK
 refine .f (.f ?_)
 exact asK
 refine .f (.f (.f (.f ?_)))
 exact asK
 refine .d (sE h (fun ri h => ?_) (fun ri h => ?_))
 refine .d ⟨rfl, _, rfl, (bk h fun Jo YO h => (aS (kq YO) ?_))⟩
 exact asK
 refine .d (sE h (fun w6 h => ?_) (fun w6 h => ?_))
 obtain ⟨o21, aor, E4⟩ := bd h
 replace h := aor
 refine .cut (fun σ η => .inl () = o21 ∧ σ = [(4, .bool (a0.aD == 0)), (5, .bool (a0.aj == ([] : ar)))] ∧ η = []) ?_ ?_
 refine .d ⟨rfl, ⟨rfl, _, rfl, ?_⟩⟩
 have aos := aoq _ _ _ h
 refine le (ru (motive := fun p48 oA o46 => a0 = p48 → o21 = o46 → aG _ _ [(4, .bool (a0.aD == 0)), (5, .bool (a0.aj == ([] : ar))), (63, sl 4 ae.cells a0.ah), (64, .int .i64 (a0.ah.length : Int)), (65, .int .i64 oA)] []) ?_ a0 0 o21 aos rfl rfl) (tk [] ⟨.b, .b, .l, .i, .i, ⟨⟩⟩ ⟨⟩)
 intro _ aot _ _ p48 oA o46 h aou  YP aov
 subst YP
 subst aov
 refine aG.round (.d (.d (sD h (fun Hw h => ?_) (fun Hw h => ?_))))
 refine .d (.d (bk h fun u7 Iy h => ⟨aA Iy, _, (ax Iy).trans (ae.au u7), ⟨rfl, _, fun _ => [.int .i64 u7.ai, .int .i64 u7.aD, .str u7.aj, sl 4 ae.cells u7.ah], rfl, bX rfl, (.d ⟨rfl, ⟨rfl, _, rfl, (sN h (fun Hy h => ?_) (fun Hy h => ?_))⟩⟩)⟩⟩))
 refine .t (.t (.t (.t (.t (.t (.t (.t (.t (.t (.t (.t (.t (.t (.t ?_))))))))))))))
 refine .t (.t (.t (.t (.d ?_))))
 obtain rfl := si h
 replace h := E4
 exact asK
 refine ⟨rfl, (.f ⟨rfl, _, rfl, (.f (.f (sN h (fun YQ h => ?_) (fun YQ h => ?_))))⟩)⟩
 refine .t (.t (.t (.t (.t (.t (.t (.t (.t (.t (.t (.t (.t (.t (.t ?_))))))))))))))
 refine .d ?_
 obtain rfl := si h
 replace h := E4
 exact asK
 refine ⟨rfl, (.f ⟨rfl, _, rfl, (.f (.f (VP h (fun JB h => ?_) (fun JB h => ?_))))⟩)⟩
 refine .t (.t (.t (.t (.t (.t (.t (.t (.t (.t (.t (.d ?_)))))))))))
 obtain rfl := si h
 replace h := E4
 exact asK
 refine ⟨rfl, (.f ⟨rfl, _, rfl, (.f (.f (bk h fun v40 JC h => (aS (Cw JC) (.f (.f (l7 h (fun YR h => ?_) (fun YR h => ?_))))))))⟩)⟩
 refine .t (.t (.t (.t (.t (.d ?_)))))
 obtain rfl := si h
 replace h := E4
 exact asK
 refine ⟨rfl, (.f ⟨rfl, _, rfl, (.f (bk h fun Oc YS h => (aS (aot _ _ YS) (.f (.f (l7 h (fun YT h => ?_) (fun YT h => ?_)))))))⟩)⟩
 refine .d ?_
 obtain rfl := si h
 replace h := E4
 exact asK
 exact lg (aou _ _ _ h rfl rfl) (tk [] ⟨.b, .b, .l, .i, .i, ⟨⟩⟩ ⟨⟩)
 exact ct ⟨si h, rfl, rfl⟩ (tk [] ⟨.b, .b, ⟨⟩⟩ ⟨⟩)
 rintro _ _ ⟨rfl, rfl, rfl⟩
 replace h := E4
 refine .d (sE h (fun Hz h => ?_) (fun Hz h => ?_))
 refine .t ?_
 exact asK
 refine .f ?_
 exact asK
 obtain ⟨o53, aow, aox⟩ := bd h
 replace h := aow
 refine .cut (fun σ η => ∃ b52, b52 = o53 ∧ σ = [(1, .aL 0 0 0 0), (3, .int .i64 (a0.ah.length : Int)), (4, .bool (a0.aD == 0)), (5, .bool (a0.aj == ([] : ar))), (18, .int .i64 a0.ai), (100, .bool b52)] ∧ η = [.row 0 4 1 29 (fun _ => a0.lit)]) ?_ ?_
 refine .d (sE h (fun YU h => ?_) (fun YU h => ?_))
 exact atc
 refine .d (sE h (fun aoy h => ?_) (fun aoy h => ?_))
 exact atc
 refine .d (sE h (fun aoz h => ?_) (fun aoz h => ?_))
 exact atc
 exact atc
 rintro _ _ ⟨b52, rfl, rfl, rfl⟩
 replace h := aox
 refine sV h (fun aoA h => ?_) (fun aoA h => ?_)
 refine .d (sE h (fun aoB h => ?_) (fun aoB h => ?_))
 refine .t (sE h (fun HD h => ?_) (fun HD h => ?_))
 refine .t (.t (sE h (fun HG h => ?_) (fun HG h => ?_)))
 refine ⟨rfl, (.t ⟨rfl, _, rfl, (.t (bk h fun Jp JD h => (aS (jE _ _ JD) (.t ?_))))⟩)⟩
 exact asK
 refine .f (.f (.f ?_))
 exact asK
 refine .f (.f (.f (.f (.f (.f ?_)))))
 exact asK
 refine .f (.f (.f (.f (.f (.f (.f (.f ?_)))))))
 exact asK
 refine .d (sE h (fun HH h => ?_) (fun HH h => ?_))
 refine .d (sE h (fun VR h => ?_) (fun VR h => ?_))
 refine ⟨rfl, (.t ⟨rfl, _, rfl, (.t (bk h fun v67 VS h => (aS (cj VS) (.t (sV h (fun VT h => ?_) (fun VT h => ?_))))))⟩)⟩
 refine .t (.t (sE h (fun VU h => ?_) (fun VU h => ?_)))
 refine ⟨rfl, (.t ⟨rfl, _, rfl, (.t (bk h fun v71 VV h => (aS (jE _ _ VV) (.t ?_))))⟩)⟩
 exact asK
 refine .f (.f (.f ?_))
 exact asK
 refine .f (.f (.f (.f (.f (.f ?_)))))
 exact asK
 refine .f (.f (.f (.f (.f (.f (.f (.f (.f (.f ?_)))))))))
 exact asK
 refine .d (sE h (fun YV h => ?_) (fun YV h => ?_))
 refine .d ⟨rfl, ⟨rfl, _, rfl, (sE h (fun YW h => ?_) (fun YW h => ?_))⟩⟩
 refine .t (.t (.t (.t (.t (sE h (fun aoC h => ?_) (fun aoC h => ?_))))))
 refine .t (.t (sE h (fun aoD h => ?_) (fun aoD h => ?_)))
 refine ⟨rfl, (.t ⟨rfl, _, rfl, (.t (bk h fun v77 aoE h => (aS (jE _ _ aoE) (.t ?_))))⟩)⟩
 exact asK
 refine .f (.f (.f ?_))
 exact asK
 refine .f (.f (.f (.f (.f (.f ?_)))))
 exact asK
 refine ⟨rfl, (.f ⟨rfl, _, rfl, (.f (.f (sE h (fun VX h => ?_) (fun VX h => ?_))))⟩)⟩
 refine .t (sE h (fun aoF h => ?_) (fun aoF h => ?_))
 refine .t (.t (sE h (fun Yo h => ?_) (fun Yo h => ?_)))
 refine ⟨rfl, (.t ⟨rfl, _, rfl, (.t (bk h fun QF HI h => (aS (jE _ _ HI) (.t ?_))))⟩)⟩
 exact asK
 refine .f (.f (.f ?_))
 exact asK
 refine .f (.f (.f (.f (.f (.f ?_)))))
 exact asK
 refine .f (.f (.f (.f (.f (.f (.f (.f ?_)))))))
 exact asK
 refine .d (sE h (fun VY h => ?_) (fun VY h => ?_))
 refine .d ⟨rfl, ⟨rfl, _, rfl, (bk h fun v85 VZ h => (aS (Cw VZ) (sV h (fun V0 h => ?_) (fun V0 h => ?_))))⟩⟩
 refine .t (sE h (fun V1 h => ?_) (fun V1 h => ?_))
 refine .t (.t (sE h (fun YX h => ?_) (fun YX h => ?_)))
 refine ⟨rfl, (.t ⟨rfl, _, rfl, (.t (bk h fun v90 YY h => (aS (jE _ _ YY) (.t ?_))))⟩)⟩
 exact asK
 refine .f (.f (.f ?_))
 exact asK
 refine .f (.f (.f (.f (.f (.f ?_)))))
 exact asK
 refine .f (.f (.f (.f (.f (.f (.f (.f ?_)))))))
 exact asK
 refine .d (sE h (fun aoG h => ?_) (fun aoG h => ?_))
 refine .d (sE h (fun aoH h => ?_) (fun aoH h => ?_))
 refine .t (sE h (fun aoI h => ?_) (fun aoI h => ?_))
 refine .t (.t (sE h (fun Yp h => ?_) (fun Yp h => ?_)))
 refine ⟨rfl, (.t ⟨rfl, _, rfl, (.t (bk h fun v96 aoJ h => (aS (jE _ _ aoJ) (.t ?_))))⟩)⟩
 exact asK
 refine .f (.f (.f ?_))
 exact asK
 refine .f (.f (.f (.f (.f (.f ?_)))))
 exact asK
 refine .f (.f (.f (.f (.f (.f (.f (.f ?_)))))))
 exact asK
 obtain ⟨o99, agv, agw⟩ := bd h
 replace h := agv
 refine .cut (fun σ η => ∃ b98, b98 = o99 ∧ σ = [(1, .aL 0 0 0 0), (3, .int .i64 (a0.ah.length : Int)), (4, .bool (a0.aD == 0)), (5, .bool (a0.aj == ([] : ar))), (18, .int .i64 a0.ai), (189, .bool b98)] ∧ η = [.row 0 4 1 29 (fun _ => a0.lit)]) ?_ ?_
 refine .d (sE h (fun HK h => ?_) (fun HK h => ?_))
 exact atc
 exact atc
 rintro _ _ ⟨b98, rfl, rfl, rfl⟩
 replace h := agw
 refine sV h (fun agx h => ?_) (fun agx h => ?_)
 refine .d (sE h (fun IZ h => ?_) (fun IZ h => ?_))
 refine .t (sE h (fun JE h => ?_) (fun JE h => ?_))
 refine .t (.t (sE h (fun agy h => ?_) (fun agy h => ?_)))
 refine ⟨rfl, (.t ⟨rfl, _, rfl, (.t (bk h fun v107 I0 h => (aS (jE _ _ I0) (.t (sV h (fun Ad h => ?_) (fun Ad h => ?_))))))⟩)⟩
 refine ⟨rfl, (.t ⟨rfl, _, rfl, (.t (bk h fun Yz Tv h => ⟨aA Tv, _, (ax Tv).trans (ae.au Yz), (.t (.t (bk h fun Hi HL h => (aS (p5 HL) (.t ?_)))))⟩))⟩)⟩
 exact asK
 refine .f (.f (.f (.f (.f ?_))))
 exact asK
 refine .f (.f (.f (.f (.f (.f (.f (.f (.f ?_))))))))
 exact asK
 refine .f (.f (.f (.f (.f (.f (.f (.f (.f (.f (.f (.f ?_)))))))))))
 exact asK
 refine .f (.f (.f (.f (.f (.f (.f (.f (.f (.f (.f (.f (.f (.f ?_)))))))))))))
 exact asK
 refine .d (sE h (fun HM h => ?_) (fun HM h => ?_))
 refine .d (sE h (fun agz h => ?_) (fun agz h => ?_))
 refine ⟨rfl, (.t ⟨rfl, _, rfl, (.t (bk h fun af9 agA h => (aS (cj agA) (.t (sV h (fun agB h => ?_) (fun agB h => ?_))))))⟩)⟩
 refine .t (.t (sE h (fun agC h => ?_) (fun agC h => ?_)))
 refine ⟨rfl, (.t ⟨rfl, _, rfl, (.t (bk h fun YA Tw h => ⟨aA Tw, _, (ax Tw).trans (ae.au YA), (.t (.t (bk h fun aga agD h => (aS (kq agD) (.t ?_)))))⟩))⟩)⟩
 exact asK
 refine .f (.f (.f (.f (.f ?_))))
 exact asK
 refine .f (.f (.f (.f (.f (.f (.f (.f ?_)))))))
 exact asK
 refine .f (.f (.f (.f (.f (.f (.f (.f (.f (.f (.f (.f ?_)))))))))))
 exact asK
 refine .d (sE h (fun agE h => ?_) (fun agE h => ?_))
 refine .d (sE h (fun agF h => ?_) (fun agF h => ?_))
 refine ⟨rfl, (.t ⟨rfl, _, rfl, (.t (bk h fun agb agG h => (aS (cj agG) (.t (sV h (fun Is h => ?_) (fun Is h => ?_))))))⟩)⟩
 refine ⟨rfl, (.t ⟨rfl, _, rfl, (.t (bk h fun Iz I2 h => (aS (jE _ _ I2) (.t ?_))))⟩)⟩
 exact asK
 refine .f (.f (.f ?_))
 exact asK
 refine .f (.f (.f (.f (.f (.f (.f ?_))))))
 exact asK
 refine .d (sE h (fun agH h => ?_) (fun agH h => ?_))
 refine .d (sE h (fun agI h => ?_) (fun agI h => ?_))
 refine .t (sE h (fun Iu h => ?_) (fun Iu h => ?_))
 refine .t (.t (sD h (fun JF h => ?_) (fun JF h => ?_)))
 refine ⟨rfl, (.t ⟨rfl, _, rfl, (.t (bk h fun agc agJ h => (aS (jE _ _ agJ) (.t ?_))))⟩)⟩
 exact asK
 refine .f (.f (.f ?_))
 exact asK
 refine .f (.f (.f (.f (.f (.f ?_)))))
 exact asK
 refine .f (.f (.f (.f (.f (.f (.f (.f ?_)))))))
 exact asK
 refine .d (sE h (fun I3 h => ?_) (fun I3 h => ?_))
 refine .d (sE h (fun agK h => ?_) (fun agK h => ?_))
 refine ⟨rfl, (.t ⟨rfl, _, rfl, (.t (bk h fun v139 agL h => (aS (cj agL) (.t (sV h (fun agM h => ?_) (fun agM h => ?_))))))⟩)⟩
 refine .t (.t (sD h (fun agN h => ?_) (fun agN h => ?_)))
 refine ⟨rfl, (.t ⟨rfl, _, rfl, (.t (bk h fun v143 agO h => (aS (jE _ _ agO) (.t ?_))))⟩)⟩
 exact asK
 refine .f (.f (.f ?_))
 exact asK
 refine .f (.f (.f (.f (.f (.f ?_)))))
 exact asK
 refine .f (.f (.f (.f (.f (.f (.f (.f (.f (.f ?_)))))))))
 exact asK
 refine .d (sE h (fun JG h => ?_) (fun JG h => ?_))
 refine .d (sE h (fun Ae h => ?_) (fun Ae h => ?_))
 refine ⟨rfl, (.t ⟨rfl, _, rfl, (.t (bk h fun AQ JH h => (aS (w3 JH) (.t (sV h (fun agP h => ?_) (fun agP h => ?_))))))⟩)⟩
 refine ⟨rfl, (.t ⟨rfl, _, rfl, (.t (bk h fun agd agQ h => (aS (jE _ _ agQ) (.t ?_))))⟩)⟩
 exact asK
 refine .f (.f (.f ?_))
 exact asK
 refine .f (.f (.f (.f (.f (.f (.f ?_))))))
 exact asK
 refine .d (sE h (fun I4 h => ?_) (fun I4 h => ?_))
 refine .d (sE h (fun HP h => ?_) (fun HP h => ?_))
 refine ⟨rfl, (.t ⟨rfl, _, rfl, (.t (.t (sE h (fun Af h => ?_) (fun Af h => ?_))))⟩)⟩
 refine .t (.t (.t (.t (.t (.t ⟨rfl, (.t ⟨rfl, _, rfl, (.t (bk h fun uV Ay h => (aS (jE _ _ Ay) (.t ?_))))⟩)⟩)))))
 exact asK
 refine ⟨rfl, (.f ⟨rfl, _, rfl, (.f (bk h fun v157 agR h => (aS (cj agR) (.t (.f (.t (sV h (fun I5 h => ?_) (fun I5 h => ?_))))))))⟩)⟩
 refine ⟨rfl, (.t ⟨rfl, _, rfl, (.t (bk h fun v160 agS h => (aS (jE _ _ agS) (.t ?_))))⟩)⟩
 exact asK
 refine .f (.f (.f ?_))
 exact asK
 refine .f (.f (.f (.f (.f (.f (.f (.f (.f ?_))))))))
 exact asK
 refine .d (sE h (fun Ag h => ?_) (fun Ag h => ?_))
 refine .d (sE h (fun HR h => ?_) (fun HR h => ?_))
 refine .t (sE h (fun HT h => ?_) (fun HT h => ?_))
 refine ⟨rfl, (.t ⟨rfl, _, rfl, (.t (bk h fun uQ Ah h => (aS (YN _ _ _ Ah) (.t ?_))))⟩)⟩
 exact asK
 refine .f (.f (.f ?_))
 exact asK
 refine .f (.f (.f (.f (.f ?_))))
 exact asK
 exact ata
 rintro _ _ ⟨rfl, rfl, rfl⟩
 replace h := gL
 exact ate
 intro _ agT a0 a1 r h
 refine gd Tryz.func134 ?_
 refine .d (.d (.d (.d (sD h (fun agU h => ?_) (fun agU h => ?_)))))
 refine .t (.t (.t (.t (.t (.t (.t (.t (.t (.t (.t (.t (.t (.t (.d ?_))))))))))))))
 exact eB h
 refine .f (.f (bk h fun YB Tx h => ⟨aA Tx, _, (ax Tx).trans (ae.au YB), (.f (.f (.f (.f (sN h (fun agV h => ?_) (fun agV h => ?_))))))⟩))
 exact .t (.t (.t (.t (.t (.t (.t (.d (eB h))))))))
 refine .f (.f (bk h fun YC Ty h => ⟨aA Ty, _, (ax Ty).trans (ae.au YC), (.f (.f (bk h fun IA I6 h => (aS (agT _ _ I6) (.f (.f (l7 h (fun agW h => ?_) (fun agW h => ?_))))))))⟩))
 exact ate
 refine .d ?_
 obtain ⟨Jr, agX, tF⟩ := bd h
 replace h := agX
 refine .cut (fun σ η => .inl () = Jr ∧ σ = [] ∧ η = []) ?_ ?_
 refine .d (bk h fun sI xu h => ⟨trivial, yF xu, sI.length, row ae.cells sI, uB xu, yG xu, ?_⟩)
 refine le (fO.partial_correctness a1 sI (motive := fun Ct Cu agY => Jr = agY → aG _ _ [(1, .bool a1), (6, .bool Ct), (32, sl 4 ae.cells sI), (33, .int .i64 (sI.length : Int)), (34, .int .i64 Cu)] []) ?_ false 0 Jr h rfl) (tk [] ⟨.b, .b, .l, .i, .i, ⟨⟩⟩ ⟨⟩)
 intro aqN agZ Ct Cu agY h ag0
 subst ag0
 refine aG.round (.d (.d (sD h (fun ag1 h => ?_) (fun ag1 h => ?_))))
 refine .d (.d (bk h fun sJ Tz h => ⟨aA Tz, _, (ax Tz).trans (ae.au sJ), ⟨rfl, _, fun _ => [.int .i64 sJ.ai, .int .i64 sJ.aD, .str sJ.aj, sl 4 ae.cells sJ.ah], rfl, bX rfl, ?_⟩⟩))
 obtain ⟨Yy, ag2, AV⟩ := bd h
 replace h := ag2
 refine .cut (fun σ η => ∃ Jn, .inl Jn = Yy ∧ σ = [(1, .bool a1), (6, .bool Jn), (8, .aL 0 0 0 0), (32, sl 4 ae.cells sI), (33, .int .i64 (sI.length : Int)), (34, .int .i64 Cu)] ∧ η = [.row 0 4 1 29 (fun _ => sJ.lit)]) ?_ ?_
 refine .d ⟨rfl, ⟨rfl, _, rfl, (sE h (fun HW h => ?_) (fun HW h => ?_))⟩⟩
 refine .t (sV h (fun HZ h => ?_) (fun HZ h => ?_))
 exact atk
 refine .d ⟨rfl, ⟨rfl, _, rfl, (sN h (fun ag3 h => ?_) (fun ag3 h => ?_))⟩⟩
 refine .t (.t (.d ?_))
 obtain rfl := si h
 replace h := AV
 exact asS
 refine .f (sV h (fun ag4 h => ?_) (fun ag4 h => ?_))
 refine .d ?_
 obtain rfl := si h
 replace h := AV
 exact asS
 exact atk
 refine .f (.f (.d ⟨rfl, ⟨rfl, _, rfl, (sN h (fun ag5 h => ?_) (fun ag5 h => ?_))⟩⟩))
 refine .t (.t (.d ?_))
 obtain rfl := si h
 replace h := AV
 exact asS
 refine .f (sV h (fun ag6 h => ?_) (fun ag6 h => ?_))
 refine .d ?_
 obtain rfl := si h
 replace h := AV
 exact asS
 exact atk
 rintro _ _ ⟨Jn, rfl, rfl, rfl⟩
 replace h := AV
 refine .d ⟨rfl, ⟨rfl, _, rfl, (bk h fun v222 ag7 h => (aS (Cw ag7) (l7 h (fun ag8 h => ?_) (fun ag8 h => ?_))))⟩⟩
 refine .t (.t (.t (.t (.t (.t (.t (.t (.t (.t (.d ?_))))))))))
 exact asS
 refine ⟨rfl, (.f ⟨rfl, _, rfl, (.f (bk h fun af8 ag9 h => (aS (cj ag9) (.f (.f (l7 h (fun H0 h => ?_) (fun H0 h => ?_)))))))⟩)⟩
 refine .t (.t (.t (.t (.t (.d ?_)))))
 exact asS
 refine ⟨rfl, (.f ⟨rfl, _, rfl, (.f (.f (.f (sD h (fun H2 h => ?_) (fun H2 h => ?_)))))⟩)⟩
 refine .d ?_
 exact asS
 exact lg (agZ _ _ _ h rfl) (tk [] ⟨.b, .b, .l, .i, .i, ⟨⟩⟩ ⟨⟩)
 exact ata
 rintro _ _ ⟨rfl, rfl, rfl⟩
 replace h := tF
 exact ate
 intro _ _ _ _ _ _ tG YZ oK aha Y0 jE a0 r h
 refine gd Tryz.func68 ?_
 refine .d (.d ⟨rfl, ⟨rfl, _, rfl, (.d ⟨rfl, ⟨rfl, _, rfl, (.d (.d ⟨rfl, ⟨rfl, _, rfl, (sN h (fun ahb h => ?_) (fun ahb h => ?_))⟩⟩))⟩⟩)⟩⟩)
 exact ate
 obtain ⟨YK, ahc, cz⟩ := bd h
 replace h := ahc
 refine .cut (fun σ η => .inl () = YK ∧ σ = [] ∧ η = []) ?_ ?_
 refine .d ⟨rfl, ⟨rfl, _, rfl, (.d (sE h (fun H3 h => ?_) (fun H3 h => ?_)))⟩⟩
 refine .d (VP h (fun H4 h => ?_) (fun H4 h => ?_))
 refine ⟨rfl, (.t ⟨rfl, _, rfl, (.t (bk h fun age ahd h => (aS (qs ahd) (.t (.t (l7 h (fun ahe h => ?_) (fun ahe h => ?_)))))))⟩)⟩
 refine .t (.t ?_)
 exact asL
 refine .f (.f ?_)
 exact asL
 refine .f (.f (.f (.f (.f (.f (.f ?_))))))
 exact asL
 obtain ⟨aoK, ahf, ahg⟩ := bd h
 replace h := ahf
 refine .cut (fun σ η => ∃ Js, Js = aoK ∧ σ = [(1, .aL 0 0 0 0), (3, .int .i64 (a0.ah.length : Int)), (4, .bool (a0.aj == ([] : ar))), (17, .int .i64 a0.ai), (32, .bool Js)] ∧ η = [.row 0 4 1 29 (fun _ => a0.lit)]) ?_ ?_
 refine .d (sE h (fun ahh h => ?_) (fun ahh h => ?_))
 exact atg
 refine .d (sE h (fun JI h => ?_) (fun JI h => ?_))
 exact atg
 exact atg
 rintro _ _ ⟨Js, rfl, rfl, rfl⟩
 replace h := ahg
 refine sV h (fun H5 h => ?_) (fun H5 h => ?_)
 refine .d (sE h (fun H6 h => ?_) (fun H6 h => ?_))
 refine .t (.t (sE h (fun JJ h => ?_) (fun JJ h => ?_)))
 refine ⟨rfl, (.t ⟨rfl, _, rfl, (.t (bk h fun YD TA h => ⟨aA TA, _, (ax TA).trans (ae.au YD), (.t (.t (bk h fun agf ahi h => (aS (tG _ _ ahi) (.t ?_)))))⟩))⟩)⟩
 exact asL
 refine .f (.f (.f (.f (.f ?_))))
 exact asL
 refine .f (.f (.f (.f (.f (.f (.f (.f ?_)))))))
 exact asL
 refine .d (sE h (fun ahj h => ?_) (fun ahj h => ?_))
 refine .d (sE h (fun Jh h => ?_) (fun Jh h => ?_))
 refine .t (bk h fun Hp H7 h => (aS (Cw H7) (.t (sV h (fun H8 h => ?_) (fun H8 h => ?_)))))
 refine ⟨rfl, (.t ⟨rfl, _, rfl, (.t (bk h fun uY AL h => ⟨aA AL, _, (ax AL).trans (ae.au uY), (.t (.t (bk h fun yK Ji h => (aS (tG _ _ Ji) (.t (sV h (fun ahk h => ?_) (fun ahk h => ?_)))))))⟩))⟩)⟩
 refine ⟨rfl, (.t ⟨rfl, _, rfl, (.t (bk h fun N4 JK h => ⟨trivial, gU JK, N4.length, row ae.cells N4, fK JK, fL JK, (.t (bk h fun agh ahl h => (aS (oK _ _ ahl) (.t ?_))))⟩))⟩)⟩
 exact asL
 refine .f (.f (.f (.f ?_)))
 exact asL
 refine .f (.f (.f (.f (.f (.f (.f (.f (.f (.f ?_)))))))))
 exact asL
 refine .f (.f (.f (.f (.f (.f (.f (.f (.f (.f (.f (.f (.f ?_))))))))))))
 exact asL
 refine .d (sE h (fun ahm h => ?_) (fun ahm h => ?_))
 refine .d (sE h (fun ahn h => ?_) (fun ahn h => ?_))
 refine .t (.t (sE h (fun aho h => ?_) (fun aho h => ?_)))
 refine ⟨rfl, (.t ⟨rfl, _, rfl, (.t (bk h fun YE TB h => ⟨aA TB, _, (ax TB).trans (ae.au YE), (.t (.t (bk h fun agi ahp h => (aS (tG _ _ ahp) (.t (sV h (fun ahq h => ?_) (fun ahq h => ?_)))))))⟩))⟩)⟩
 refine ⟨rfl, (.t ⟨rfl, _, rfl, (.t (bk h fun N5 JL h => ⟨trivial, gU JL, N5.length, row ae.cells N5, fK JL, fL JL, (.t (bk h fun agj ahr h => (aS (oK _ _ ahr) (.t ?_))))⟩))⟩)⟩
 exact asL
 refine .f (.f (.f (.f ?_)))
 exact asL
 refine .f (.f (.f (.f (.f (.f (.f (.f (.f (.f ?_)))))))))
 exact asL
 refine .f (.f (.f (.f (.f (.f (.f (.f (.f (.f (.f (.f (.f ?_))))))))))))
 exact asL
 refine .d (sE h (fun ahs h => ?_) (fun ahs h => ?_))
 refine .d (sE h (fun aht h => ?_) (fun aht h => ?_))
 refine .t (bk h fun agk ahu h => (aS (Cw ahu) (.t (sV h (fun ahv h => ?_) (fun ahv h => ?_)))))
 refine ⟨rfl, (.t ⟨rfl, _, rfl, (.t (bk h fun YF TC h => ⟨aA TC, _, (ax TC).trans (ae.au YF), (.t (.t (bk h fun agl ahw h => (aS (tG _ _ ahw) (.t (sV h (fun ahx h => ?_) (fun ahx h => ?_)))))))⟩))⟩)⟩
 refine ⟨rfl, (.t ⟨rfl, _, rfl, (.t (bk h fun YG TD h => ⟨aA TD, _, (ax TD).trans (ae.au YG), (.t (.t (bk h fun agm ahy h => (aS (kq ahy) (.t (sV h (fun ahz h => ?_) (fun ahz h => ?_)))))))⟩))⟩)⟩
 refine .t (.t (sE h (fun Al h => ?_) (fun Al h => ?_)))
 refine .t (.t (.t (.t (.t (.t (.t (.t ⟨rfl, (.t ⟨rfl, _, rfl, (.t (.t (.t (bk h fun N6 rj h => ?_))))⟩)⟩)))))))
 refine ⟨trivial, gU rj, N6.length, row ae.cells N6, fK rj, fL rj, (.t (bk h fun agn ahA h => (aS (oK _ _ ahA) (.t ?_))))⟩
 exact asL
 refine ⟨rfl, (.f ⟨rfl, _, rfl, (.f (bk h fun YH TE h => ⟨aA TE, _, (ax TE).trans (ae.au YH), (.f (.f (bk h fun ago ahB h => (aS (kq ahB) (.t (.f (.t (sV h (fun ahC h => ?_) (fun ahC h => ?_)))))))))⟩))⟩)⟩
 refine ⟨rfl, (.t ⟨rfl, _, rfl, (.t (.t (.t (bk h fun N7 JM h => ⟨trivial, gU JM, N7.length, row ae.cells N7, fK JM, fL JM, (.t (bk h fun Hr Ic h => (aS (oK _ _ Ic) (.t ?_))))⟩))))⟩)⟩
 exact asL
 refine .f (.f (.f (.f (.f (.f ?_)))))
 exact asL
 refine .f (.f (.f (.f (.f (.f (.f (.f (.f (.f (.f ?_))))))))))
 exact asL
 refine .f (.f (.f (.f (.f (.f (.f (.f (.f (.f (.f (.f (.f (.f (.f ?_))))))))))))))
 refine .f (.f ?_)
 exact asL
 refine .f (.f (.f (.f (.f (.f (.f (.f (.f (.f (.f (.f (.f (.f (.f ?_))))))))))))))
 refine .f (.f (.f (.f (.f (.f (.f (.f ?_)))))))
 exact asL
 refine .f (.f (.f (.f (.f (.f (.f (.f (.f (.f (.f (.f (.f (.f (.f ?_))))))))))))))
 refine .f (.f (.f (.f (.f (.f (.f (.f (.f (.f (.f ?_))))))))))
 exact asL
 obtain ⟨aoL, ahD, ahE⟩ := bd h
 replace h := ahD
 refine .cut (fun σ η => ∃ Jt, Jt = aoL ∧ σ = [(1, .aL 0 0 0 0), (3, .int .i64 (a0.ah.length : Int)), (4, .bool (a0.aj == ([] : ar))), (17, .int .i64 a0.ai), (128, .bool Jt)] ∧ η = [.row 0 4 1 29 (fun _ => a0.lit)]) ?_ ?_
 refine .d (sE h (fun Ie h => ?_) (fun Ie h => ?_))
 exact atg
 exact atg
 rintro _ _ ⟨Jt, rfl, rfl, rfl⟩
 replace h := ahE
 refine sV h (fun ahF h => ?_) (fun ahF h => ?_)
 refine .d (sE h (fun I9 h => ?_) (fun I9 h => ?_))
 refine .t (.t ?_)
 exact asL
 refine .f (.f ?_)
 exact asL
 refine .d (sE h (fun Ig h => ?_) (fun Ig h => ?_))
 refine .d (sE h (fun ahG h => ?_) (fun ahG h => ?_))
 refine .t (.t (sD h (fun ahH h => ?_) (fun ahH h => ?_)))
 refine ⟨rfl, (.t ⟨rfl, _, rfl, (.t (bk h fun agp ahI h => (aS (jE _ _ ahI) (.t ?_))))⟩)⟩
 exact asL
 refine .f (.f (.f ?_))
 exact asL
 refine .f (.f (.f (.f (.f (.f ?_)))))
 exact asL
 refine .d (sE h (fun ahJ h => ?_) (fun ahJ h => ?_))
 refine .d ⟨rfl, ⟨rfl, _, rfl, (bk h fun AR JN h => (aS (cj JN) (sV h (fun ahK h => ?_) (fun ahK h => ?_))))⟩⟩
 refine .t (.t ?_)
 exact asL
 refine .f (.f ?_)
 exact asL
 refine .d (sE h (fun ahL h => ?_) (fun ahL h => ?_))
 refine .d (sE h (fun ahM h => ?_) (fun ahM h => ?_))
 refine .t (.t (sE h (fun Ih h => ?_) (fun Ih h => ?_)))
 refine ⟨rfl, (.t ⟨rfl, _, rfl, (.t (bk h fun Cg AA h => ⟨aA AA, _, (ax AA).trans (ae.au Cg), (.t (.t (bk h fun nz AB h => (aS (Y0 _ _ AB) (.t ?_)))))⟩))⟩)⟩
 exact asL
 refine .f (.f (.f (.f (.f ?_))))
 exact asL
 refine .f (.f (.f (.f (.f (.f (.f (.f ?_)))))))
 exact asL
 refine .d (sE h (fun ahN h => ?_) (fun ahN h => ?_))
 refine .d (sE h (fun ahO h => ?_) (fun ahO h => ?_))
 refine .t (.t (sE h (fun Ja h => ?_) (fun Ja h => ?_)))
 refine .t (.t (.t (.t (.t (.t (.t ⟨rfl, (.t ⟨rfl, _, rfl, (.t (.t (.t (bk h fun YI AD h => ⟨aA AD, _, (ax AD).trans (ae.au YI), ?_⟩))))⟩)⟩))))))
 refine .t (.t (bk h fun agq ahP h => (aS (tG _ _ ahP) (.t ?_))))
 exact asL
 refine .f (.f (sE h (fun Ii h => ?_) (fun Ii h => ?_)))
 refine ⟨rfl, (.t ⟨rfl, _, rfl, (.t (bk h fun gG Ao h => ⟨aA Ao, _, (ax Ao).trans (ae.au gG), (.t (.t (bk h fun uS ahQ h => (aS (kq ahQ) (.f (.t (.t (.f (.t ?_)))))))))⟩))⟩)⟩
 refine sV h (fun JO h => ?_) (fun JO h => ?_)
 refine ⟨rfl, (.t ⟨rfl, _, rfl, (.t (.t (.t (bk h fun YJ TF h => ⟨aA TF, _, (ax TF).trans (ae.au YJ), (.t (.t (bk h fun agr ahR h => (aS (tG _ _ ahR) (.t ?_)))))⟩))))⟩)⟩
 exact asL
 refine .f (.f (.f (.f (.f (.f (.f ?_))))))
 exact asL
 refine .f (.f (.f (.f (.f (.f (.t (.f (.t (.f (.f (.f (.f (.f (.f ?_))))))))))))))
 refine .f (.f ?_)
 exact asL
 refine .f (.f (.f (.f (.f (.f (.f (.f (.f (.f (.f (.f ?_)))))))))))
 exact asL
 refine .d (sE h (fun Ij h => ?_) (fun Ij h => ?_))
 refine .d ⟨rfl, ⟨rfl, _, rfl, (sD h (fun Ik h => ?_) (fun Ik h => ?_))⟩⟩
 refine .t (.t ?_)
 exact asL
 refine .f (.f ?_)
 exact asL
 refine .d (sE h (fun Il h => ?_) (fun Il h => ?_))
 obtain ⟨AS, ahS, TG⟩ := bd h
 replace h := ahS
 refine .cut (fun σ η => .inl () = AS ∧ σ = [(4, .bool (a0.aj == ([] : ar)))] ∧ η = []) ?_ ?_
 refine .d ⟨rfl, ⟨rfl, _, rfl, ?_⟩⟩
 have ahT := aha _ _ _ h
 refine le (rv (motive := fun ahU iE ahV => a0 = ahU → AS = ahV → aG _ _ [(4, .bool (a0.aj == ([] : ar))), (211, sl 4 ae.cells a0.ah), (212, .int .i64 (a0.ah.length : Int)), (213, .int .i64 iE)] []) ?_ a0 0 AS ahT rfl rfl) (tk [] ⟨.b, .l, .i, .i, ⟨⟩⟩ ⟨⟩)
 intro _ ahW _ _ ahU iE ahV h ahX  Oe ahY
 subst Oe
 subst ahY
 refine aG.round (.d (.d (sD h (fun ahZ h => ?_) (fun ahZ h => ?_))))
 refine .d (.d (bk h fun qm AE h => ⟨aA AE, _, (ax AE).trans (ae.au qm), ⟨rfl, _, fun _ => [.int .i64 qm.ai, .int .i64 qm.aD, .str qm.aj, sl 4 ae.cells qm.ah], rfl, bX rfl, (.d ⟨rfl, _, rfl, (bk h fun E2 ah0 h => (aS (ahW _ _ ah0) (l7 h (fun Ip h => ?_) (fun Ip h => ?_))))⟩)⟩⟩))
 refine .d ?_
 obtain rfl := si h
 replace h := TG
 exact asL
 exact lg (ahX _ _ _ h rfl rfl) (tk [] ⟨.b, .l, .i, .i, ⟨⟩⟩ ⟨⟩)
 exact ct ⟨si h, rfl, rfl⟩ (tk [] ⟨.b, ⟨⟩⟩ ⟨⟩)
 rintro _ _ ⟨rfl, rfl, rfl⟩
 replace h := TG
 refine .d ?_
 exact asL
 refine .d (sE h (fun Iq h => ?_) (fun Iq h => ?_))
 refine .d (sE h (fun Ir h => ?_) (fun Ir h => ?_))
 refine ⟨rfl, (.t ⟨rfl, _, rfl, (.t (bk h fun ags ah1 h => (aS (YZ _ _ ah1) (.t ?_))))⟩)⟩
 exact asL
 refine .f (.f (.f ?_))
 exact asL
 exact ata
 rintro _ _ ⟨rfl, rfl, rfl⟩
 replace h := cz
 exact ate
 intro _ oK a0 r h
 refine gd Tryz.func141 ?_
 refine .d (.d (.d (sD h (fun ah2 h => ?_) (fun ah2 h => ?_))))
 exact .t (.t (.t (.t (.t (.d (eB h))))))
 refine .f (bk h fun N8 xC h => ⟨trivial, yF xC, N8.length, row ae.cells N8, uB xC, yG xC, (.f (bk h fun AU JP h => (aS (oK _ _ JP) (.f (.f (l7 h (fun ah3 h => ?_) (fun ah3 h => ?_)))))))⟩)
 exact ate
 refine .d (bk h fun EZ xD h => ⟨trivial, gU xD, EZ.length, row ae.cells EZ, fK xD, fL xD, ?_⟩)
 obtain ⟨YL, ah4, xH⟩ := bd h
 replace h := ah4
 refine .cut (fun σ η => ∃ Cv, .inl Cv = YL ∧ σ = [(3, sl 4 ae.cells Cv)] ∧ η = []) ?_ ?_
 refine .d (bk h fun ug AG h => ⟨aA AG, _, (ax AG).trans (ae.au ug), ⟨rfl, _, fun _ => [.int .i64 ug.ai, .int .i64 ug.aD, .str ug.aj, sl 4 ae.cells ug.ah], rfl, bX rfl, (.d ⟨rfl, ⟨rfl, _, rfl, (sE h (fun JQ h => ?_) (fun JQ h => ?_))⟩⟩)⟩⟩)
 refine .d (.d ⟨rfl, ⟨rfl, _, rfl, (sN h (fun ah5 h => ?_) (fun ah5 h => ?_))⟩⟩)
 refine .t (.t (.t (.t (.t (.t (.t (.t (.t (.t (.t (.t (.t (.t (.t ?_))))))))))))))
 refine .t (.t (.t (.t (.t (.t (.t (.t (.d ?_))))))))
 exact asT
 refine ⟨rfl, (.f ⟨rfl, _, rfl, (.f (bk h fun N9 ah6 h => (aS (cj ah6) (.f (.f (l7 h (fun ah7 h => ?_) (fun ah7 h => ?_)))))))⟩)⟩
 refine .t (.t (.t (.t (.t (.t (.t (.t (.t (.t (.t (.t (.t (.t (.t ?_))))))))))))))
 refine .t (.t (.t (.d ?_)))
 exact asT
 refine ⟨rfl, (.f ⟨rfl, _, rfl, (.f (.f (.f (sN h (fun JR h => ?_) (fun JR h => ?_)))))⟩)⟩
 refine .t (.t (.t (.t (.t (.t (.t (.t (.t (.t (.t (.t (.t (.d ?_)))))))))))))
 exact asT
 refine ⟨rfl, (.f ⟨rfl, _, rfl, (.f (bk h fun yP tE h => ⟨aA tE, _, (ax tE).trans (ae.au yP), (.f (.f (bk h fun w4 JS h => (aS (kq JS) (.f (.f (l7 h (fun ah8 h => ?_) (fun ah8 h => ?_))))))))⟩))⟩)⟩
 refine .t (.t (.t (.t (.t (.t (.d ?_))))))
 exact asT
 refine ⟨rfl, (.f ⟨rfl, _, rfl, (.f (bk h fun E0 JT h => ⟨trivial, gU JT, E0.length, row ae.cells E0, fK JT, fL JT, (.f (bk h fun Oa ah9 h => (aS (oK _ _ ah9) (.f (.f (l7 h (fun aia h => ?_) (fun aia h => ?_)))))))⟩))⟩)⟩
 refine .d ?_
 exact asT
 exact bk h fun Ob JU h => ⟨trivial, gU JU, Ob.length, row ae.cells Ob, fK JU, fL JU, (ct ⟨_, si h, rfl, rfl⟩ (tk [] ⟨.l, ⟨⟩⟩ ⟨⟩))⟩
 exact ct ⟨_, si h, rfl, rfl⟩ (tk [] ⟨.l, ⟨⟩⟩ ⟨⟩)
 rintro _ _ ⟨Cv, rfl, rfl, rfl⟩
 replace h := xH
 refine .d (.d (sE h (fun aib h => ?_) (fun aib h => ?_)))
 exact ate
 refine .d (bk h fun oJ AI h => ⟨aA AI, _, (ax AI).trans (ae.au oJ), ⟨rfl, _, fun _ => [.int .i64 oJ.ai, .int .i64 oJ.aD, .str oJ.aj, sl 4 ae.cells oJ.ah], rfl, bX rfl, (.d (sE h (fun Jd h => ?_) (fun Jd h => ?_)))⟩⟩)
 refine ⟨rfl, (.t ⟨rfl, _, rfl, (.t (.t (sE h (fun aic h => ?_) (fun aic h => ?_))))⟩)⟩
 refine ⟨rfl, (.t ⟨rfl, _, rfl, (.t (.t (sE h (fun aid h => ?_) (fun aid h => ?_))))⟩)⟩
 refine ⟨rfl, (.t ⟨rfl, _, rfl, (.t (.t (sE h (fun aie h => ?_) (fun aie h => ?_))))⟩)⟩
 refine ⟨rfl, (.t ⟨rfl, _, rfl, (.t (.t (.t (sE h (fun aif h => ?_) (fun aif h => ?_)))))⟩)⟩
 exact ⟨rfl, (.t ⟨rfl, _, rfl, (.t (bk h fun E1 aih h => (aS (oK _ _ aih) (.t (eB h)))))⟩)⟩
 exact atm
 exact ats
 exact .f (.f (.f (.f (.f (.f (.f (.f (.f (.f (.f (.f (eB h))))))))))))
 refine .f (.f (.f (.f (.f (.f (.f (.f (.f (.f (.f (.f (.f (.f (.f ?_))))))))))))))
 exact .f (eB h)
 refine .f (.f (.f (.f (.f (.f (.f (.f (.f (.f (.f (.f (.f (.f (.f ?_))))))))))))))
 exact .f (.f (.f (.f (.f (eB h)))))
 intro _ aii a0 r h
 refine gd Tryz.func137 ?_
 refine .d ?_
 obtain ⟨Ju, aij, JV⟩ := bd h
 replace h := aij
 refine .cut (fun σ η => .inl () = Ju ∧ σ = [] ∧ η = []) ?_ ?_
 refine .d ?_
 have aik := aii _ _ _ h
 refine le (rz (motive := fun ail iF aim => a0 = ail → Ju = aim → aG _ _ [(5, sl 4 ae.cells a0), (6, .int .i64 (a0.length : Int)), (7, .int .i64 iF)] []) ?_ a0 0 Ju aik rfl rfl) (tk [] ⟨.l, .i, .i, ⟨⟩⟩ ⟨⟩)
 intro _ ain _ _ ail iF aim h aio  Og aip
 subst Og
 subst aip
 refine aG.round (.d (.d (sD h (fun aiq h => ?_) (fun aiq h => ?_))))
 refine .d (.d (bk h fun rr TH h => ⟨aA TH, _, (ax TH).trans (ae.au rr), ⟨rfl, _, fun _ => [.int .i64 rr.ai, .int .i64 rr.aD, .str rr.aj, sl 4 ae.cells rr.ah], rfl, bX rfl, (.d ⟨rfl, ⟨rfl, _, rfl, (sN h (fun air h => ?_) (fun air h => ?_))⟩⟩)⟩⟩))
 refine .t (.t (.t (.t (.d ?_))))
 obtain rfl := si h
 replace h := JV
 exact eB h
 refine ⟨rfl, _, rfl, (.f (bk h fun E3 ais h => (aS (ain _ _ ais) (.f (.f (l7 h (fun Jc h => ?_) (fun Jc h => ?_)))))))⟩
 refine .d ?_
 obtain rfl := si h
 replace h := JV
 exact eB h
 exact lg (aio _ _ _ h rfl rfl) (tk [] ⟨.l, .i, .i, ⟨⟩⟩ ⟨⟩)
 exact ata
 rintro _ _ ⟨rfl, rfl, rfl⟩
 replace h := JV
 exact ate
 intro F0 F1 lx ly a0 iF o h
 exact .mk F0 lx F1 ly a0 iF o h
 intro F0 F1 lx ly a0 iE o h
 exact .mk F0 lx F1 ly a0 iE o h
 intro _ tG a0 r h
 refine gd Tryz.func140 ?_
 refine .d (.d ⟨rfl, _, rfl, (bk h fun agt ait h => (aS (p5 ait) (sV h (fun aiu h => ?_) (fun aiu h => ?_))))⟩)
 exact ⟨rfl, _, rfl, (.t (bk h fun IG Je h => (aS (tG _ _ Je) (.t (eB h)))))⟩
 exact .f (.f (eB h))
 intro _ aiv a0 r h
 refine gd Tryz.func139 ?_
 refine .d ?_
 obtain ⟨Jq, aiw, TJ⟩ := bd h
 replace h := aiw
 refine .cut (fun σ η => .inl () = Jq ∧ σ = [] ∧ η = []) ?_ ?_
 refine .d ?_
 have aix := aiv _ _ _ h
 refine le (pU (motive := fun aiy iD aiz => a0 = aiy → Jq = aiz → aG _ _ [(5, sl 4 ae.cells a0), (6, .int .i64 (a0.length : Int)), (7, .int .i64 iD)] []) ?_ a0 0 Jq aix rfl rfl) (tk [] ⟨.l, .i, .i, ⟨⟩⟩ ⟨⟩)
 intro _ aiA _ _ aiy iD aiz h aiB  Oh aiC
 subst Oh
 subst aiC
 refine aG.round (.d (.d (sD h (fun Aj h => ?_) (fun Aj h => ?_))))
 refine .d (.d (bk h fun qu AW h => ⟨aA AW, _, (ax AW).trans (ae.au qu), ⟨rfl, _, fun _ => [.int .i64 qu.ai, .int .i64 qu.aD, .str qu.aj, sl 4 ae.cells qu.ah], rfl, bX rfl, (.d ⟨rfl, _, rfl, (bk h fun v183 JW h => (aS (aiA _ _ JW) (l7 h (fun aiD h => ?_) (fun aiD h => ?_))))⟩)⟩⟩))
 refine .d ?_
 obtain rfl := si h
 replace h := TJ
 exact eB h
 exact lg (aiB _ _ _ h rfl rfl) (tk [] ⟨.l, .i, .i, ⟨⟩⟩ ⟨⟩)
 exact ata
 rintro _ _ ⟨rfl, rfl, rfl⟩
 replace h := TJ
 exact ate
 intro F0 F1 lx ly a0 iD o h
 exact .mk F0 lx F1 ly a0 iD o h
 intro F0 F1 lx ly a0 oA o h
 exact .mk F0 lx F1 ly a0 oA o h
theorem AX {a0 : ae} {r : Bool} (h : bC a0 = some r) : ACall Tryz.prog 68 [.agg a0.lit] [] (fun res h => res = .bool r ∧ h = []) := w5.2.2.1 a0 r h
def kK (a0 : ae) : Option (Bool) :=
 jq a0 >>= fun v1 =>
 (if v1 = true then
 (if a0.ai = 48 then
 bC a0 >>= fun v5 =>
 some v5
 else
 some false)
 else
 some false)
theorem yR {a0 : ae} {r : Bool} (h : kK a0 = some r) : ACall Tryz.prog 41 [.agg a0.lit] [] (fun res h => res = .bool r ∧ h = []) := by
 refine gd Tryz.func41 ?_
 unfold kK at h
 refine .d (.d ⟨rfl, _, rfl, (bk h fun v1 lz h => (aS (uO lz) (sV h (fun ow h => ?_) (fun ow h => ?_))))⟩)
 refine ⟨rfl, (.t ⟨rfl, _, rfl, (.t (.t (sE h (fun B1 h => ?_) (fun B1 h => ?_))))⟩)⟩
 exact ⟨rfl, _, rfl, (.t (bk h fun v5 hv6 h => (aS (AX hv6) (.t (eB h)))))⟩
 exact .f (.f (eB h))
 exact .f (.f (.f (.f (.f (.f (eB h))))))
end Go.Am
namespace Go.Am
open Go Go.RowKit
def aM (G id g : Nat) : PV := match G with
 | 0 => .dt
 | _ + 1 => .aL id g 0 0
theorem Oi (σ : Nat → Nat) (G id g : Nat) : lC σ (aM G id g) = aM G (σ id) g := by cases G <;> rfl
theorem iP (σ : Nat → Nat) (gp sz n : Nat) (e : TypeId) (G id g b g2 off len : Nat) : oL σ (.row gp sz n e (fun _ => [aM G id g, .own b g2 off len])) = .row gp sz n e (fun _ => [aM G (σ id) g, .own (σ b) g2 off len]) := by
 show ak.row gp sz n e (fun _ => [lC σ (aM G id g), _]) = _
 rw [Oi]; rfl
theorem cw {σ : Nat → Nat} {gp sz n : Nat} {e : TypeId} {G id g b g2 off len : Nat} {x : Option ak} (hx : x = some (.row gp sz n e (fun _ => [aM G (σ id) g, .own (σ b) g2 off len])) := by rfl) : x = some (oL σ (.row gp sz n e (fun _ => [aM G id g, .own b g2 off len]))) := by rw [iP]; exact hx
theorem Fz.aM {h η : List ak} {k : List Nat} {G id id' g g' sz bu n n' : Nat} {e e' : TypeId} {f f' : Nat → List PV} (hk : k[id']? = some id := by rfl) (ho : h[id]? = some (ak.row g sz n e f) := by rfl) (hη : η[id']? = some (ak.row g' bu (n' + 1) e' f') := by rfl) : Fz h η k (Go.Am.aM G id g) (Go.Am.aM G id' g') := by
 cases G with
 | zero => exact .dt
 | succ G => exact Fz.p hk ho hη
section
variable {P : Program} {f : FuncId} {h : List ak} {K : PV → List ak → Prop}
theorem cH {γ : Type} {h0 : γ → List ak} {args kL : List PV} {R0 : γ → PV} {hc : List ak} (hA : ACall P f args hc (fun res h => ∃ g, res = R0 g ∧ h = h0 g)) (is : List Nat) (gh : TK h (ft is h.length) hc is) (R1 : γ → PV) (H1 : γ → List ak) (k : ∀ g, K (R1 g) (H1 g))
  (e2 : ∀ g, bK h is (h0 g) = H1 g := by intro g; simp only [bK, aJ, adr, aqT, List.drop, an, mg, iR, iP]; rfl) (e1 : ∀ g, Cx (ft is h.length) (R0 g) = R1 g := by intro _; rfl)
  (hl : hc.length = is.length := by rfl) (hd : is.Nodup := by decide) (cD : is.all (fun id => Nat.blt id h.length) = true := by rfl) (mM : kL = args.map (u9 (ft is h.length)) := by rfl) : rA P f kL h K :=
 ⟨_, hA.JX is h gh hl hd cD mM, by rintro _ _ ⟨_, _, ⟨g, rfl, rfl⟩, rfl, rfl⟩; rw [e1, e2]; exact k g⟩
end
theorem ACall.Y1 {P : Program} {f : FuncId} {args : List PV} {h : List ak} {R : PV → List ak → Prop} {i g : Nat} {e lk : Nat} {e2 : TypeId} {f2 : Nat → List PV} (hi : h[i]? = some (.row g 2 1 e (fun _ => [.dt, .bf])))
  (hA : ACall P f args ((h ++ [ak.row 0 lk 0 e2 f2]).set i (.row g 2 1 e (fun _ => [.dt, .own h.length 0 0 0]))) R) : ACall P f args h R := by
 refine ⟨hA.1, fun w vs μ S hH hM fv ha => ?_⟩
 have cD : i < h.length := (At.1 hi).1
 obtain ⟨fr1, c1⟩ := lD (w1 := w) ⟨hH, hM⟩ lk 0 e2 f2 none rfl (bF.refl w) (fun i hi => absurd hi (arL _)) (fun i j pv hi => absurd hi (arL _))
 have hi1 : (h ++ [ak.row 0 lk 0 e2 f2])[i]? = some (.row g 2 1 e (fun _ => [.dt, .bf])) := by rw [aru cD]; exact hi
 have hN : (h ++ [ak.row 0 lk 0 e2 f2])[h.length]? = some (.row 0 lk 0 e2 f2) := by simp
 obtain ⟨_, hc⟩ := c1.heap i _ _ _ _ _ hi1
 have w7 : ld μ h.length none i = μ i := df μ _ atu
 cases dW : μ i with
 | none => rw [w7, dW] at hc; cases hc
 | some p =>
  obtain ⟨b, base⟩ := p
  rw [w7, dW] at hc
  obtain ⟨o, ho, hr⟩ := hc
  cases o with
  | cells cur e' z =>
   obtain ⟨rfl, rfl, q3, q4⟩ := hr
   have aI : ∀ (k j : Nat) (pv : PV), k < 1 → ((fun _ => [PV.dt, .own h.length 0 0 0]) k)[j]? = some pv → ∃ v : Value, cur[base + k * 2 + j]? = some v ∧ k6 (ld μ h.length none) (h ++ [ak.row 0 lk 0 e2 f2]) S w pv v := fun k j pv hk hj => by
    match j, hj with
    | 0, hj => cases hj; exact q4 k 0 _ hk rfl
    | 1, hj =>
     cases hj
     obtain ⟨v, r1, r2⟩ := q4 k 1 _ hk rfl
     have r2 : aE S w .bf v := r2
     cases r2
     refine ⟨_, r1, ?_⟩
     show aX _ _ w h.length 0 0 0 _
     unfold aX
     rw [hN, bg]
     exact ⟨⟨_, _, _, rfl⟩, aqQ _, fun _ => ⟨aqQ _, rfl⟩⟩
   obtain ⟨fr2, c2⟩ := mN (w1 := w) c1 i g g 2 1 1 e' _ (fun _ => [.dt, .own h.length 0 0 0]) hi1 b base cur (aqQ _) (fun _ => ⟨by rw [w7]; exact dW, rfl⟩) (.inr ⟨base, cur, by rw [w7]; exact dW, ho, rfl⟩) ho atu
    (fun _ _ _ => rfl) (aqQ _) rfl rfl rfl (fun _ _ => rfl) (fun b' jM tH hx => by
     rw [w7, dW] at tH
     injection tH with tH; injection tH with h1 _; subst h1
     obtain ⟨es, clock, hx⟩ := hx
     rw [ho] at hx; cases hx) aI 0 (fun k j bu n' e'' f' F' hk hj => by
     match j, hj with
     | 0, hj => cases hj
     | 1, hj => cases hj)
   have fr := fr1.trans fr2
   refine (hA.2 w vs _ S c2.heap c2.ok fv (fun j pv hj => ?_)).mono ?_
   ·obtain ⟨v, h1, h2⟩ := ha j pv hj
    exact ⟨v, h1, h2.fr fr hM⟩
   ·rintro x w' ⟨v, res, h', μ', S', rfl, hr, hv, hH', hM', hF⟩
    exact ⟨v, res, h', μ', S', rfl, hr, hv, hH', hM', fr.trans hF⟩
  | map es c =>
   obtain ⟨kp, vp, en, y1, y2, y3, _⟩ := hr.2 0 asq
   injection y1 with y1 _; subst y1; cases y2
  | _ => exact hr.elim
theorem pcG {P : Program} {f : FuncId} {args : List PV} {h h2 : List ak} {K : PV → List ak → Prop} (i : Nat) {g : Nat} {e lk : Nat} {e2 : TypeId} {f2 : Nat → List PV} (k : rA P f args h2 K) (hi : h[i]? = some (.row g 2 1 e (fun _ => [.dt, .bf])) := by rfl)
  (h3 : h2 = (h ++ [ak.row 0 lk 0 e2 f2]).set i (.row g 2 1 e (fun _ => [.dt, .own h.length 0 0 0])) := by rfl) : rA P f args h K := by
 subst h3
 obtain ⟨R, hA, hk⟩ := k
 exact ⟨R, ACall.Y1 hi hA, hk⟩
end Go.Am
namespace Go.Am
open Go Go.RowKit Go.Proofs
theorem TL : (Tryz.prog.info? 49).map (·.size) = some 2 := by kernel_rfl
theorem Y2 : Tryz.prog.underlying 47 = some (.pointer 49) := by kernel_rfl
theorem aiE : Tryz.prog.underlying 151 = some .unsafePointer := by kernel_rfl
set_option maxHeartbeats 1000000 in
set_option maxRecDepth 100000 in
theorem Oj (b : Nat) (w : World) (h0 : w.cell? ⟨b, 0, none⟩ = some (.pointer (some ⟨b, 0, none⟩))) :
  Calls Tryz.prog 158 #[.pointer (some ⟨b, 0, none⟩)] w fun e w' => e = .returned (.tuple #[]) ∧ w' = w := by
 obtain ⟨j, hj, _⟩ := Option.map_eq_some_iff.1 TL
 go_enter Tryz.func158, Tryz.ntmps158
 go_wp2
 rw [Lib.run_neq_ptr_same w _ Y2 hj]
 go_wp2
 go_end0
 exact ⟨rfl, rfl⟩
set_option maxHeartbeats 1000000 in
set_option maxRecDepth 100000 in
theorem JY (b c : Nat) (w : World) (h0 : w.cell? ⟨b, 0, none⟩ = some (.pointer none)) (Jl : w.shape? b = some (51, c)) (hc : 0 < c) (hl : liesAt Tryz.prog Tryz.prog.depth 51 (c / Tryz.prog.cellsOf 51) 0 49 1 = true) (hfz : w.frozen? ⟨b, 0, none⟩ = false) :
  Calls Tryz.prog 158 #[.pointer (some ⟨b, 0, none⟩)] w fun e w' => e = .returned (.tuple #[]) ∧ w' = w.setCell ⟨b, 0, none⟩ (.pointer (some ⟨b, 0, none⟩)) := by
 obtain ⟨j, hj, AY⟩ := Option.map_eq_some_iff.1 TL
 go_enter Tryz.func158, Tryz.ntmps158
 go_wp2
 rw [Lib.run_to_unsafe w ⟨b, 0, none⟩ Y2 aiE hj (by rw [AY]; decide) Jl hc]
 simp only [Result.andThen]
 rw [Oper.upon_value]
 go_wp2
 rw [run_callFunc_extern Tryz.func202 atE atE atE (e := Extern.AbiNoEscape.same) atE]
 rw [Lib.run_noEscape]
 simp only [Result.andThen]
 rw [Oper.upon_value]
 go_wp2
 rw [Lib.run_from_unsafe w ⟨b, 0, none⟩ aiE Y2 hj Jl hl]
 simp only [Result.andThen]
 rw [Oper.upon_value]
 go_wp2
 go_end0
 exact ⟨rfl, rfl⟩
theorem Ol : Tryz.prog.cellsOf 51 = 2 := by kernel_rfl
set_option maxRecDepth 100000 in
theorem Y3 (k : Nat) : liesAt Tryz.prog Tryz.prog.depth 51 (k + 1) 0 49 1 = true := by kernel_rfl
theorem yS {w : World} {b i : Nat} {cs : Array Value} {T : TypeId} {fr : Nat × Nat} (hb : w.heap[b]? = some (.cells cs T fr)) (v : Value) : (w.setCell ⟨b, i, none⟩ v).heap[b]? = some (.cells (cs.setIfInBounds i v) T fr) := by
 unfold World.setCell
 simp [arV, hb]
theorem Cy {w : World} {b i k : Nat} (h : k ≠ b) (v : Value) : (w.setCell ⟨b, i, none⟩ v).heap[k]? = w.heap[k]? := by
 unfold World.setCell
 simp only [arV]
 rw [if_neg (asb h)]
theorem yT {w : World} {b i : Nat} (v : Value) : (w.setCell ⟨b, i, none⟩ v).heap.size = w.heap.size := by
 unfold World.setCell
 simp
theorem aoM {G n g G2 : Nat} {f : Nat → List PV} : ACall Tryz.prog 158 [.aL 0 g 0 0] [.row g 2 1 51 (fun _ => [aM G 0 g, .own 1 G2 0 n]), .row G2 1 n 5 f]
  (fun res h => res = .aV [] ∧ h = [.row g 2 1 51 (fun _ => [.aL 0 g 0 0, .own 1 G2 0 n]), .row G2 1 n 5 f]) := by
 refine ⟨⟨_, _, Tryz.func158, rfl, by kernel_rfl⟩, fun w vs μ S hH hM fv ha => ?_⟩
 obtain ⟨v0, hv, hp⟩ := ha 0 _ rfl
 have hp : a7 μ [.row g 2 1 51 (fun _ => [aM G 0 g, .own 1 G2 0 n]), .row G2 1 n 5 f] w 0 g 0 0 v0 := hp
 obtain ⟨_, _, hr⟩ := hp
 obtain ⟨_, b, base, dW, ⟨dS, Y4⟩, rfl⟩ := hr rfl
 obtain rfl : base = 0 := Y4 rfl
 obtain rfl := Jj fv hv
 obtain ⟨_, hc⟩ := hH 0 _ _ _ _ _ rfl
 rw [dW] at hc
 obtain ⟨cur, jv, mO, aI⟩ := bx.cells dS hc
 obtain ⟨u, hu, hk⟩ := aI 0 0 _ asq rfl
 obtain ⟨u1, zZ, DN⟩ := aI 0 1 _ asq rfl
 simp only [Nat.zero_mul, are, arS, Nat.one_mul] at hu zZ mO ⊢
 have hk : u = .pointer none ∨ u = .pointer (some ⟨b, 0, none⟩) := by
  cases G with
  | zero =>
   have hk : aE S w .dt u := hk
   cases hk; exact .inl rfl
  | succ G =>
   have hk : a7 μ [.row g 2 1 51 (fun _ => [aM (G + 1) 0 g, .own 1 G2 0 n]), .row G2 1 n 5 f] w 0 g 0 0 u := hk
   obtain ⟨_, _, h2⟩ := hk
   obtain ⟨_, b', jM, tH, ⟨_, kr⟩, rfl⟩ := h2 rfl
   rw [dW] at tH
   injection tH with tH
   injection tH with e1 e2
   subst e1; subst e2
   exact .inr rfl
 have fin : ∀ (w' : World) (jZ : Array Value), w'.heap[b]? = some (.cells jZ 51 (0, 0)) → jZ.size = cur.size → jZ[0]? = some (.pointer (some ⟨b, 0, none⟩)) → jZ[1]? = cur[1]? → (∀ k, k ≠ b → w'.heap[k]? = w.heap[k]?) → w'.heap.size = w.heap.size → w'.os = w.os → w'.tape = w.tape → w'.output = w.output →
   ∃ (v : Value) (res : PV) (h' : List ak) (μ' : Mu) (S' : Nat → Prop), Ending.returned (.tuple #[]) = .returned v ∧ (res = .aV [] ∧ h' = [.row g 2 1 51 (fun _ => [.aL 0 g 0 0, .own 1 G2 0 n]), .row G2 1 n 5 f]) ∧ aZ μ' h' S' w' res v ∧ bx μ' h' S' w' ∧ nC μ' h' S' w' ∧ Fr μ [.row g 2 1 51 (fun _ => [aM G 0 g, .own 1 G2 0 n]), .row G2 1 n 5 f] S w μ' h' S' w' := fun w' jZ q1 q2 q3 q4 q5 q6 q7 q8 q9 => by
  obtain ⟨jk, mP⟩ := mN (w1 := w') ⟨hH, hM⟩ 0 g g 2 1 1 51 _ (fun _ => [.aL 0 g 0 0, .own 1 G2 0 n]) rfl b 0 jZ (aqQ _) (fun _ => ⟨dW, rfl⟩) (.inr ⟨0, cur, dW, jv, q2.symm⟩) q1 atu (fun k _ hk => q5 k hk) atu q7 q8 q9
   (fun _ _ => rfl) (fun b' jM tH => by rw [dW] at tH; injection tH with tH; injection tH with h1 _; subst h1; exact dS.qw)
   (fun i j pv hi hj => by
    obtain rfl : i = 0 := by omega
    match j, hj with
    | 0, hj =>
     cases hj
     refine ⟨_, q3, ?_⟩
     show a7 μ [.row g 2 1 51 (fun _ => [aM G 0 g, .own 1 G2 0 n]), .row G2 1 n 5 f] w 0 g 0 0 _
     exact ⟨⟨_, rfl⟩, aqQ _, fun _ => ⟨asq, b, 0, dW, ⟨dS, fun _ => rfl⟩, rfl⟩⟩
    | 1, hj =>
     cases hj
     exact ⟨u1, by rw [← zZ]; exact q4, DN⟩) 0 (fun i j bu n' e' f' F' hi hj => by
    match j, hj with
    | 0, hj => cases hj
    | 1, hj => cases hj)
  exact ⟨_, _, _, _, S, rfl, ⟨rfl, rfl⟩, ⟨#[], rfl, rfl, fun j pv hj => by simp at hj⟩, mP.heap, mP.ok, jk⟩
 have hc0 : w.cell? ⟨b, 0, none⟩ = some u := by rw [cell_of_row w b 0 cur 51 (0, 0) jv]; exact hu
 rcases hk with rfl | rfl
 ·obtain ⟨k, hk⟩ : ∃ k, cur.size / Tryz.prog.cellsOf 51 = k + 1 := by rw [Ol]; exact ⟨cur.size / 2 - 1, by omega⟩
  refine (JY b cur.size w hc0 (by simp [World.shape?, jv]) atu (by rw [hk]; exact Y3 k) (Lib.frozen_of_heap jv 0)).mono ?_
  rintro e w' ⟨rfl, rfl⟩
  refine fin _ (cur.setIfInBounds 0 (.pointer (some ⟨b, 0, none⟩))) (yS jv _) Array.size_setIfInBounds (by rw [Array.getElem?_setIfInBounds_self, if_pos atu]) (by rw [ase atC]) (fun k hk => Cy hk _) (yT _) rfl rfl rfl
 ·refine (Oj b w hc0).mono ?_
  rintro e w' ⟨rfl, rfl⟩
  exact fin _ cur jv rfl hu rfl (fun _ _ => rfl) rfl rfl rfl rfl
def eD (a0 : aF) (a1 : ar) : Option (Int × Unit × aF) :=
 if (a0.aq.length + a1.length) * 1 ≤ 140737488355328 then some ((a1.length : Int), (), aF.mk () (a0.aq ++ a1)) else none
theorem k7 {a0 : aF} {a1 : ar} {r : Int × Unit × aF} {g1000 g1001 : Nat} (h : eD a0 a1 = some r) : ACall Tryz.prog 94 [.aL 0 g1000 0 0, .str a1] [.row g1000 2 1 51 (fun _ => [aM g1001 0 g1000, .own 1 g1001 0 a0.aq.length]), .row g1001 1 a0.aq.length 5 (row cB a0.aq)]
  (fun res h => ∃ G1 : Nat, res = .aV [.int .i64 r.1, .fP] ∧ h = [.row g1000 2 1 51 (fun _ => [aM G1 0 g1000, .own 1 G1 0 r.2.2.aq.length]), .row G1 1 r.2.2.aq.length 5 (row cB r.2.2.aq)]) := by
 obtain ⟨hb, rfl⟩ := bz h
 refine gd Tryz.func94 ?_
 refine .d (.d ?_)
 refine pcO aoM [0, 1] ⟨cw, ov, ⟨⟩⟩ (.aV []) [.row g1000 2 1 51 (fun _ => [.aL 0 g1000 0 0, .own 1 g1001 0 a0.aq.length]), .row g1001 1 a0.aq.length 5 (row cB a0.aq)] ?_
 have hl : nD 1 a0.aq a1 = some (a0.aq ++ a1) := if_pos hb
 refine .d ⟨rfl, ⟨rfl, ⟨rfl, _, rfl, ⟨rfl, hb, (a0.aq ++ a1).length, row cB (a0.aq ++ a1), fQ hl, gv hl aN Om, ?_⟩⟩⟩⟩
 refine ⟨rfl, ⟨rfl, ⟨rfl, _, fun _ => [.aL 0 g1000 0 0, .own 1 (g1001 + 1) 0 (a0.aq ++ a1).length], rfl, bX rfl, ?_⟩⟩⟩
 refine .d ?_
 exact en [0, 1] ⟨g1001 + 1, rfl, rfl⟩ (.br ⟨.i, .j, ⟨⟩⟩) ⟨(ob rfl ⟨Fz.aM (G := g1001 + 1), .o, ⟨⟩⟩), od, ⟨⟩⟩
theorem E5 {P : Program} {e : TypeId} (hc : P.cellsOf e = 1) (count off n : Nat) (hn : off + n ≤ count) : liesAt P P.depth e count off e n = true := by
 have hd : P.depth = (2 * (P.types.size + Made.depth) + 1) + 1 := rfl
 rw [hd]
 simp only [liesAt, arD]
 left
 rw [hd]
 simp [rowAt, hc, hn, sameLayout, Nat.mod_one]
theorem pV {P : Program} {w : World} (pt it ty e : TypeId) (hp : P.underlying pt = some (.pointer e)) (hc : P.cellsOf e = 1) (g base cells : Nat) (Jl : w.shape? g = some (e, cells)) (l : List UInt8) (h0 : l ≠ []) (hn : base + l.length ≤ cells) (h63 : l.length ≤ 9223372036854775807)
  (aI : ∀ j x, l[j]? = some x → w.cell? ((⟨g, base, none⟩ : Addr).add j) = some (.int .u8 x.toNat)) :
  (Builtin.unsafeString_ #[pt, it] ty #[.pointer (some ⟨g, base, none⟩), .int .i64 l.length]).run P w = .ok (.string ⟨l.toArray⟩) (w.freeze ⟨g, base, none⟩ l.length) := by
 have hl : l.length ≠ 0 := by simpa using h0
 have hlb := Lib.run_loadBytes (P := P) w l ⟨g, base, none⟩ .empty aI
 have aiF := E5 (P := P) hc (cells / P.cellsOf e) base l.length (by rw [hc]; simpa using hn)
 have Y5 : ¬ (9223372036854775807 : Int) < (l.length : Int) := by omega
 have aoN : Builtin.unsafeString_ #[pt, it] ty #[.pointer (some ⟨g, base, none⟩), .int .i64 l.length] =
   (do
    let n ← asInt (.int .i64 l.length)
    if n < 0 then runtimePanic (.error "unsafe.String: len out of range")
    if n > IntKind.i64.max then unsupported (.unsafePointer "String: a length above the largest int")
    if n = 0 then pure (.string .empty)
    else if ← variablesAt ⟨g, base, none⟩ (← elemOf pt) n.toNat then do
     let s ← loadBytes ⟨g, base, none⟩ .empty n.toNat
     freeze ⟨g, base, none⟩ n.toNat
     pure (.string s)
    else unsupported (.unsafePointer "String: not so many bytes at ptr")) := rfl
 rw [aoN]
 have aoO : IntKind.i64.max = 9223372036854775807 := rfl
 have aoP : ¬ (l.length : Int) < 0 := by omega
 simp [asInt, asIntOf, aoO, Y5, aoP, hl, variablesAt, Jl, elemOf, run_underlying hp, aiF, hlb]
theorem aiG : Tryz.prog.underlying 88 = some (.pointer 5) := by kernel_rfl
theorem Y6 : Tryz.prog.cellsOf 5 = 1 := by kernel_rfl
set_option maxHeartbeats 2000000 in
set_option maxRecDepth 100000 in
theorem JZ (b gb base cap : Nat) (l : List UInt8) (cur : Array Value) (w : World) (h1 : w.cell? ⟨b, 1, none⟩ = some (.slice (some ⟨gb, base, none⟩) l.length cap)) (hc : cap ≠ 0) (z6 : l ≠ []) (hg : w.heap[gb]? = some (.cells cur 5 (0, 0))) (mO : base + l.length ≤ cur.size) (h63 : l.length ≤ 9223372036854775807)
  (aI : ∀ j x, l[j]? = some x → cur[base + j]? = some (.int .u8 x.toNat)) :
  Calls Tryz.prog 43 #[.pointer (some ⟨b, 0, none⟩)] w fun e w' => e = .returned (.string ⟨l.toArray⟩) ∧ w' = w.drew.freeze ⟨gb, base, none⟩ l.length := by
 have c1 : w.drew.cell? ⟨b, 1, none⟩ = some (.slice (some ⟨gb, base, none⟩) l.length cap) := h1
 have hSD : (Builtin.unsafeSliceData_ #[39] 88 #[.slice (some ⟨gb, base, none⟩) l.length cap]).run Tryz.prog w.drew = .ok (.pointer (some ⟨gb, base, none⟩)) w.drew :=
  Lib.run_unsafeSliceData_row _ _ _ _ _ _ hc
 have hUS : (Builtin.unsafeString_ #[88, 3] 9 #[.pointer (some ⟨gb, base, none⟩), .int .i64 l.length]).run Tryz.prog w.drew = .ok (.string ⟨l.toArray⟩) (w.drew.freeze ⟨gb, base, none⟩ l.length) := by
  refine pV 88 3 9 5 aiG Y6 gb base cur.size (by have hg' : w.drew.heap[gb]? = some (.cells cur 5 (0, 0)) := hg; simp [World.shape?, hg']) l z6 mO h63 (fun j x hx => ?_)
  have hg' : w.drew.heap[gb]? = some (.cells cur 5 (0, 0)) := hg
  rw [Addr.add_lit, cell_of_row w.drew gb (base + j) cur 5 (0, 0) hg']
  exact aI j x hx
 clear hc z6 aI
 go_enter Tryz.func43, Tryz.ntmps43
 go_wp2
 go_region
 all_goals (go_wp2; go_ret; exact ⟨rfl, rfl⟩)
theorem E6 {w : World} {p : Addr} {n k : Nat} (h : k ≠ p.block) : (w.freeze p n).heap[k]? = w.heap[k]? := by
 unfold World.freeze
 split
 ·rfl
 ·simp only [arV]
  rw [if_neg (asb h)]
theorem E7 {w : World} {g base n : Nat} {cur : Array Value} {e : TypeId} {z : Nat × Nat} (h : w.heap[g]? = some (.cells cur e z)) : ∃ z', (w.freeze ⟨g, base, none⟩ n).heap[g]? = some (.cells cur e z') := by
 unfold World.freeze
 split
 ·exact ⟨z, h⟩
 ·simp only [arV]
  rw [if_pos trivial, h]
  obtain ⟨lo, hi⟩ := z
  exact ⟨_, rfl⟩
theorem AZ {w : World} {p : Addr} {n : Nat} : (w.freeze p n).heap.size = w.heap.size ∧ (w.freeze p n).os = w.os ∧ (w.freeze p n).tape = w.tape ∧ (w.freeze p n).output = w.output := by
 unfold World.freeze
 split
 ·exact ⟨rfl, rfl, rfl, rfl⟩
 ·exact ⟨by simp, rfl, rfl, rfl⟩
def eE (a0 : aF) : Option (ar × aF) := if a0.aq ≠ [] ∧ a0.aq.length ≤ 9223372036854775807 then some (a0.aq, a0) else none
theorem mQ {a0 : aF} {r : ar × aF} {g1000 g1001 : Nat} (h : eE a0 = some r) : ACall Tryz.prog 43 [.aL 0 g1000 0 0] [.row g1000 2 1 51 (fun _ => [aM g1001 0 g1000, .own 1 g1001 0 a0.aq.length]), .row g1001 1 a0.aq.length 5 (row cB a0.aq)]
  (fun res h => res = .str r.1 ∧ h = [.dead, .dead]) := by
 obtain ⟨⟨nq, h63⟩, rfl⟩ := bz h
 generalize hl : a0.aq = l at *
 have w8 : 0 < l.length := List.length_pos_iff.2 nq
 refine ⟨⟨_, _, Tryz.func43, rfl, by kernel_rfl⟩, fun w vs μ S hH hM fv ha => ?_⟩
 obtain ⟨v0, hv, hp⟩ := ha 0 _ rfl
 have hp : a7 μ [.row g1000 2 1 51 (fun _ => [aM g1001 0 g1000, .own 1 g1001 0 l.length]), .row g1001 1 l.length 5 (row cB l)] w 0 g1000 0 0 v0 := hp
 obtain ⟨_, _, hr⟩ := hp
 obtain ⟨_, b, base, dW, ⟨dS, Y4⟩, rfl⟩ := hr rfl
 obtain rfl : base = 0 := Y4 rfl
 obtain rfl := Jj fv hv
 obtain ⟨_, hc⟩ := hH 0 _ _ _ _ _ rfl
 rw [dW] at hc
 obtain ⟨cur, jv, mO, aI⟩ := bx.cells dS hc
 obtain ⟨u1, zZ, DN⟩ := aI 0 1 _ asq rfl
 have DN : aX μ [.row g1000 2 1 51 (fun _ => [aM g1001 0 g1000, .own 1 g1001 0 l.length]), .row g1001 1 l.length 5 (row cB l)] w 1 g1001 0 l.length u1 := DN
 obtain ⟨_, _, DN⟩ := DN
 obtain ⟨_, DN⟩ := DN rfl
 obtain ⟨_, hc1⟩ := hH 1 _ _ _ _ _ rfl
 cases w7 : μ 1 with
 | none => rw [w7] at hc1; omega
 | some p =>
  obtain ⟨gb, bb⟩ := p
  rw [w7] at DN hc1
  obtain ⟨a, cap, rfl, hle, hx, TM⟩ := DN
  obtain rfl := hx atu
  obtain ⟨aoQ, J0, TN, Y7⟩ := bx.cells TM hc1
  simp only [Nat.zero_mul, are, arS, Nat.mul_one] at zZ TN
  have hoG : bH μ [.row g1000 2 1 51 (fun _ => [aM g1001 0 g1000, .own 1 g1001 0 l.length]), .row g1001 1 l.length 5 (row cB l)] gb := .inl ⟨1, _, _, _, _, _, bb, rfl, w7⟩
  have Nt : ∀ (id g sz n : Nat) (e : TypeId) (f : Nat → List PV) (b' jM : Nat), [ak.row g1000 2 1 51 (fun _ => [aM g1001 0 g1000, .own 1 g1001 0 l.length]), .row g1001 1 l.length 5 (row cB l)][id]? = some (ak.row g sz n e f) → μ id = some (b', jM) → ¬ mw w b' := fun id g sz n e f b' jM h1 h2 => by
   match id, h1, h2 with
   | 0, h1, h2 => rw [dW] at h2; injection h2 with h2; injection h2 with h2 _; subst h2; exact dS.qw
   | 1, h1, h2 => rw [w7] at h2; injection h2 with h2; injection h2 with h2 _; subst h2; exact TM.qw
   | id + 2, h1, h2 => simp at h1
  have hnh : ∀ b' id i j, ¬ cA [ak.row g1000 2 1 51 (fun _ => [aM g1001 0 g1000, .own 1 g1001 0 l.length]), .row g1001 1 l.length 5 (row cB l)] id i j b' := fun b' id i j ⟨g', bu, n', e', f', _, _, _, _, _, q1, q2, q3, _⟩ => by
   match id, q1 with
   | 0, q1 =>
    simp at q1; obtain ⟨rfl, rfl, rfl, rfl, rfl⟩ := q1
    match j, q3 with
    | 0, q3 => cases g1001 <;> cases q3
    | 1, q3 => cases q3
   | 1, q1 =>
    simp at q1; obtain ⟨rfl, rfl, rfl, rfl, rfl⟩ := q1
    rw [lE q2] at q3
    match j, q3 with
    | 0, q3 => cases q3
   | id + 2, q1 => simp at q1
  have w9 : ∀ b', ¬ bH μ [ak.dead, .dead] b' := fun b' kr => by
   rcases kr with ⟨id, g, sz, n, e, f, base, h1, _⟩ | ⟨id, i, j, g, sz, n, e, f, _, _, _, _, _, h1, _⟩
   ·match id, h1 with
    | 0, h1 => cases h1
    | 1, h1 => cases h1
    | id + 2, h1 => simp at h1
   ·match id, h1 with
    | 0, h1 => cases h1
    | 1, h1 => cases h1
    | id + 2, h1 => simp at h1
  have hnr : ∀ (id g sz n : Nat) (e : TypeId) (f : Nat → List PV), [ak.dead, .dead][id]? = some (ak.row g sz n e f) → False := fun id g sz n e f h1 => by
   match id, h1 with
   | 0, h1 => cases h1
   | 1, h1 => cases h1
   | id + 2, h1 => simp at h1
  refine (JZ b gb bb cap l aoQ w (by rw [cell_of_row w b 1 cur 51 (0, 0) jv]; exact zZ) atu nq J0 TN h63 (fun j x hx => ?_)).mono ?_
  ·obtain ⟨hj, rfl⟩ := At.1 hx
   obtain ⟨v, h1, h2⟩ := Y7 j 0 (.int .u8 (l[j]).toNat) hj (by rw [lE hj]; rfl)
   have h2 : aE S w (.int .u8 (l[j]).toNat) v := h2
   cases h2
   simpa using h1
  ·rintro e w' ⟨rfl, rfl⟩
   have ne : ∀ k, k ≠ gb → (w.drew.freeze ⟨gb, bb, none⟩ l.length).heap[k]? = w.heap[k]? := fun k hk => E6 hk
   obtain ⟨z', hz⟩ := E7 (n := l.length) (base := bb) (w := w.drew) (g := gb) (show w.drew.heap[gb]? = _ from J0)
   obtain ⟨s1, s2, s3, s4⟩ := AZ (w := w.drew) (p := ⟨gb, bb, none⟩) (n := l.length)
   have hS : ∀ k, S k → (w.drew.freeze ⟨gb, bb, none⟩ l.length).heap[k]? = w.heap[k]? := fun k hk => ne k (fun q => by subst q; exact hM.apart _ hoG hk)
   refine ⟨_, .str l, [.dead, .dead], μ, S, rfl, ⟨rfl, rfl⟩, .str _, fun id g sz n e f h1 => (hnr _ _ _ _ _ _ h1).elim, ⟨fun b' h1 => absurd h1 (w9 b'), fun b' h1 => absurd h1 (w9 b'), fun k hk => by rw [s1]; exact hM.slt k hk, fun i j g sz n e f _ _ _ _ _ _ _ _ h1 => (hnr _ _ _ _ _ _ h1).elim, hM.known.On hS (fun _ q => q), fun b' h1 => absurd (.inl h1) (w9 b'), fun b' id i j _ _ _ h1 => absurd (.inr ⟨id, i, j, h1⟩) (w9 b')⟩,
    ⟨aqQ _, fun k _ hk => ne k (fun q => by subst q; exact hk hoG), fun _ q => q, fun _ q => .inl q, fun b' h1 => absurd h1 (w9 b'), by rw [s1]; exact aqQ _, s2, s3, s4, fun id g sz n e f h1 => ?_, fun id h1 => ?_, fun k c _ hc => ?_, fun id g sz n e f b' jM h1 h2 h3 => absurd h3 (Nt _ _ _ _ _ _ _ _ h1 h2), fun b' id i j h1 => absurd h1 (hnh _ _ _ _)⟩⟩
   ·match id, h1 with
    | 0, h1 => trivial
    | 1, h1 => trivial
    | id + 2, h1 => simp at h1
   ·match id, h1 with
    | 0, h1 => rfl
    | 1, h1 => rfl
    | id + 2, h1 => simp at h1
   ·by_cases hk : k = gb
    ·subst hk
     obtain ⟨c1, e1, z1, q1, q2⟩ := hc
     rw [J0] at q1
     injection q1 with q1
     injection q1 with q1 _ _
     subst q1
     exact ⟨_, _, _, hz, q2⟩
    ·exact iq.of_same (ne k hk) hc
end Go.Am
