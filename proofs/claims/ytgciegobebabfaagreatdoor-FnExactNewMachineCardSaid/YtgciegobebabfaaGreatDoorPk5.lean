/- Texts of the proof, joined and shortened. -/
import Derived.Test.YtgciegobebabfaaGreatDoorPk4
import Derived.Test.YtgciegobebabfaaGreatDoorProg
import Derived.Test.YtgciegobebabfaaGreatDoorShelf
import Derived.WalkKit
import Derived.BigCall
import Derived.DataReads
import Derived.ChangeArms
set_option linter.unusedVariables false
set_option linter.unusedSimpArgs false
set_option maxRecDepth 100000
namespace Go.Am
open Go Go.RowKit Go.Proofs
structure TParam where
 az:bZ
 TL:Bool
 deriving DecidableEq,Inhabited
abbrev TParam.lit (x:TParam):List PV:=[.str x.az,.bool x.TL]
def TParam.cells (x:TParam):List PV:=x.lit
theorem TParam.ak (x:TParam):x.cells=x.lit:=rfl
theorem TParam.bB (x:TParam):x.cells.all cr=true:=rfl
instance:rh TParam.cells:=⟨TParam.bB⟩
structure bV where
 bY:Int
 fA:Int
 fB:Int
 fS:bZ
 fT:bZ
 deriving DecidableEq,Inhabited
abbrev bV.lit (x:bV):List PV:=[.int .i64 x.bY,.int .i64 x.fA,.int .i64 x.fB,.str x.fS,.str x.fT]
def bV.cells (x:bV):List PV:=x.lit
theorem bV.ak (x:bV):x.cells=x.lit:=rfl
theorem bV.bB (x:bV):x.cells.all cr=true:=rfl
instance:rh bV.cells:=⟨bV.bB⟩
structure aW where
 az:bZ
 bf:List TParam
 cx:List TParam
 ah:List bZ
 df:Bool
 aR:List bV
 deriving DecidableEq,Inhabited
abbrev aW.lit (x:aW):List PV:=[.str x.az,sl 2 TParam.cells x.bf,sl 2 TParam.cells x.cx,sl 1 cS x.ah,.bool x.df,sl 5 bV.cells x.aR]
def aW.cells (x:aW):List PV:=x.lit
theorem aW.ak (x:aW):x.cells=x.lit:=rfl
theorem aW.bB (x:aW):x.cells.all cr=true:=rfl
instance:rh aW.cells:=⟨aW.bB⟩
structure cw where
 dy:Bool
 bS:Int
 ck:bZ
 deriving DecidableEq,Inhabited
abbrev cw.lit (x:cw):List PV:=[.bool x.dy,.int .i64 x.bS,.str x.ck]
def cw.cells (x:cw):List PV:=x.lit
theorem cw.ak (x:cw):x.cells=x.lit:=rfl
theorem cw.bB (x:cw):x.cells.all cr=true:=rfl
instance:rh cw.cells:=⟨cw.bB⟩
mutual
inductive ae where
 | mk (bJ:Int) (bS:Int) (ck:bZ) (aF:Int) (al:List aj)
inductive aj where
 | mk (bA:cw) (aA:ae)
end
def ae.bJ:ae->Int | .mk x _ _ _ _=>x
def ae.bS:ae->Int | .mk _ x _ _ _=>x
def ae.ck:ae->bZ | .mk _ _ x _ _=>x
def ae.aF:ae->Int | .mk _ _ _ x _=>x
def ae.al:ae->List aj | .mk _ _ _ _ x=>x
@[simp] theorem ae.cu (a:Int) (b:Int) (c:bZ) (d:Int) (e:List aj):(ae.mk a b c d e).bJ=a:=rfl
@[simp] theorem ae.cR (b:Int) (a:Int) (c:bZ) (d:Int) (e:List aj):(ae.mk b a c d e).bS=a:=rfl
@[simp] theorem ae.cU (b:Int) (c:Int) (a:bZ) (d:Int) (e:List aj):(ae.mk b c a d e).ck=a:=rfl
@[simp] theorem ae.cy (b:Int) (c:Int) (d:bZ) (a:Int) (e:List aj):(ae.mk b c d a e).aF=a:=rfl
@[simp] theorem ae.bQ (b:Int) (c:Int) (d:bZ) (e:Int) (a:List aj):(ae.mk b c d e a).al=a:=rfl
def aj.bA:aj->cw | .mk x _=>x
def aj.aA:aj->ae | .mk _ x=>x
@[simp] theorem aj.Y5 (a:cw) (b:ae):(aj.mk a b).bA=a:=rfl
@[simp] theorem aj.Y6 (b:cw) (a:ae):(aj.mk b a).aA=a:=rfl
instance:Inhabited ae:=⟨.mk 0 0 [] 0 []⟩
instance:Inhabited aj:=⟨.mk default default⟩
mutual
def ae.cells:ae->List PV | .mk b c d e a=>[.int .i64 b]++[.int .i64 c]++[.str d]++[.int .i64 e]++[.jk 8 a.length (λi=>(aj.Lr a).getD i [])]
def aj.cells:aj->List PV | .mk a b=>a.lit++b.cells
def aj.Lr:List aj->List (List PV) | []=>[] | x::r=>x.cells::aj.Lr r
end
theorem aj.GJ:∀(l:List aj),aj.Lr l=l.map aj.cells
 | []=>rfl
 | a::r=>by unfold aj.Lr;rw[aj.GJ r];rfl
abbrev ae.lit (x:ae):List PV:=[.int .i64 x.bJ,.int .i64 x.bS,.str x.ck,.int .i64 x.aF,sl 8 aj.cells x.al]
abbrev aj.lit (x:aj):List PV:=[.bool x.bA.dy,.int .i64 x.bA.bS,.str x.bA.ck,.int .i64 x.aA.bJ,.int .i64 x.aA.bS,.str x.aA.ck,.int .i64 x.aA.aF,sl 8 aj.cells x.aA.al]
theorem ae.ak (x:ae):x.cells=x.lit:=by
 cases x with
 | mk a b c d e=>
  unfold ae.cells;rw[aj.GJ];rfl
theorem ae.bB (x:ae):x.cells.all cr=true:=by rw[ae.ak];rfl
instance:rh ae.cells:=⟨ae.bB⟩
theorem aj.ak (x:aj):x.cells=x.lit:=by
 cases x with
 | mk a b=>
  unfold aj.cells;rw[ae.ak];rfl
theorem aj.bB (x:aj):x.cells.all cr=true:=by rw[aj.ak];rfl
instance:rh aj.cells:=⟨aj.bB⟩
structure aU where
 az:bZ
 fq:bZ
 eM:Bool
 bR:ae
 deriving Inhabited
abbrev aU.lit (x:aU):List PV:=[.str x.az,.str x.fq,.bool x.eM,.int .i64 x.bR.bJ,.int .i64 x.bR.bS,.str x.bR.ck,.int .i64 x.bR.aF,sl 8 aj.cells x.bR.al]
def aU.cells (x:aU):List PV:=x.lit
theorem aU.ak (x:aU):x.cells=x.lit:=rfl
theorem aU.bB (x:aU):x.cells.all cr=true:=rfl
instance:rh aU.cells:=⟨aU.bB⟩
structure aQ where
 az:bZ
 fq:bZ
 tq:bZ
 eM:Bool
 bm:Bool
 deriving DecidableEq,Inhabited
abbrev aQ.lit (x:aQ):List PV:=[.str x.az,.str x.fq,.str x.tq,.bool x.eM,.bool x.bm]
def aQ.cells (x:aQ):List PV:=x.lit
theorem aQ.ak (x:aQ):x.cells=x.lit:=rfl
theorem aQ.bB (x:aQ):x.cells.all cr=true:=rfl
instance:rh aQ.cells:=⟨aQ.bB⟩
structure aN where
 az:bZ
 iE:bZ
 bp:List aU
 bM:List aQ
 deriving Inhabited
abbrev aN.lit (x:aN):List PV:=[.str x.az,.str x.iE,sl 8 aU.cells x.bp,sl 5 aQ.cells x.bM]
def aN.cells (x:aN):List PV:=x.lit
theorem aN.ak (x:aN):x.cells=x.lit:=rfl
theorem aN.bB (x:aN):x.cells.all cr=true:=rfl
instance:rh aN.cells:=⟨aN.bB⟩
structure bb where
 bT:List aW
 bs:List aN
 deriving Inhabited
abbrev bb.lit (x:bb):List PV:=[sl 6 aW.cells x.bT,sl 4 aN.cells x.bs]
def bb.cells (x:bb):List PV:=x.lit
theorem bb.ak (x:bb):x.cells=x.lit:=rfl
theorem bb.bB (x:bb):x.cells.all cr=true:=rfl
instance:rh bb.cells:=⟨bb.bB⟩
structure aB where
 bA:cw
 aA:ae
 eY:Bool
 me:Int
 deriving Inhabited
abbrev aB.lit (x:aB):List PV:=[.bool x.bA.dy,.int .i64 x.bA.bS,.str x.bA.ck,.int .i64 x.aA.bJ,.int .i64 x.aA.bS,.str x.aA.ck,.int .i64 x.aA.aF,sl 8 aj.cells x.aA.al,.bool x.eY,.int .i64 x.me]
def aB.cells (x:aB):List PV:=x.lit
theorem aB.ak (x:aB):x.cells=x.lit:=rfl
theorem aB.bB (x:aB):x.cells.all cr=true:=rfl
instance:rh aB.cells:=⟨aB.bB⟩
structure ba where
 bC:Bool
 aG:List Int
 ah:List aB
 aF:Int
 bq:Int
 deriving Inhabited
abbrev ba.lit (x:ba):List PV:=[.bool x.bC,sl 1 cI x.aG,sl 10 aB.cells x.ah,.int .i64 x.aF,.int .i64 x.bq]
def ba.cells (x:ba):List PV:=x.lit
theorem ba.ak (x:ba):x.cells=x.lit:=rfl
theorem ba.bB (x:ba):x.cells.all cr=true:=rfl
instance:rh ba.cells:=⟨ba.bB⟩
structure aE where
 bq:Int
 aP:ba
 deriving Inhabited
abbrev aE.lit (x:aE):List PV:=[.int .i64 x.bq,.bool x.aP.bC,sl 1 cI x.aP.aG,sl 10 aB.cells x.aP.ah,.int .i64 x.aP.aF,.int .i64 x.aP.bq]
def aE.cells (x:aE):List PV:=x.lit
theorem aE.ak (x:aE):x.cells=x.lit:=rfl
theorem aE.bB (x:aE):x.cells.all cr=true:=rfl
instance:rh aE.cells:=⟨aE.bB⟩
structure dL where
 bw:List aE
 deriving Inhabited
abbrev dL.lit (x:dL):List PV:=[sl 6 aE.cells x.bw]
def dL.cells (x:dL):List PV:=x.lit
theorem dL.ak (x:dL):x.cells=x.lit:=rfl
theorem dL.bB (x:dL):x.cells.all cr=true:=rfl
instance:rh dL.cells:=⟨dL.bB⟩
structure aI where
 az:bZ
 BI:bZ
 deriving DecidableEq,Inhabited
abbrev aI.lit (x:aI):List PV:=[.str x.az,.str x.BI]
def aI.cells (x:aI):List PV:=x.lit
theorem aI.ak (x:aI):x.cells=x.lit:=rfl
theorem aI.bB (x:aI):x.cells.all cr=true:=rfl
instance:rh aI.cells:=⟨aI.bB⟩
structure aJ where
 AM:Int
 dy:bZ
 deriving DecidableEq,Inhabited
abbrev aJ.lit (x:aJ):List PV:=[.int .i64 x.AM,.str x.dy]
def aJ.cells (x:aJ):List PV:=x.lit
theorem aJ.ak (x:aJ):x.cells=x.lit:=rfl
theorem aJ.bB (x:aJ):x.cells.all cr=true:=rfl
instance:rh aJ.cells:=⟨aJ.bB⟩
structure cp where
 dW:bZ
 aY:List aI
 aZ:List aJ
 deriving DecidableEq,Inhabited
abbrev cp.lit (x:cp):List PV:=[.str x.dW,sl 2 aI.cells x.aY,sl 2 aJ.cells x.aZ]
def cp.cells (x:cp):List PV:=x.lit
theorem cp.ak (x:cp):x.cells=x.lit:=rfl
theorem cp.bB (x:cp):x.cells.all cr=true:=rfl
instance:rh cp.cells:=⟨cp.bB⟩
structure aK where
 az:bZ
 vD:Int
 deriving DecidableEq,Inhabited
abbrev aK.lit (x:aK):List PV:=[.str x.az,.int .i64 x.vD]
def aK.cells (x:aK):List PV:=x.lit
theorem aK.ak (x:aK):x.cells=x.lit:=rfl
theorem aK.bB (x:aK):x.cells.all cr=true:=rfl
instance:rh aK.cells:=⟨aK.bB⟩
structure aq where
 az:bZ
 aA:ae
 deriving Inhabited
abbrev aq.lit (x:aq):List PV:=[.str x.az,.int .i64 x.aA.bJ,.int .i64 x.aA.bS,.str x.aA.ck,.int .i64 x.aA.aF,sl 8 aj.cells x.aA.al]
def aq.cells (x:aq):List PV:=x.lit
theorem aq.ak (x:aq):x.cells=x.lit:=rfl
theorem aq.bB (x:aq):x.cells.all cr=true:=rfl
instance:rh aq.cells:=⟨aq.bB⟩
structure aH where
 ri:bZ
 ES:Bool
 bp:List aq
 deriving Inhabited
abbrev aH.lit (x:aH):List PV:=[.str x.ri,.bool x.ES,sl 6 aq.cells x.bp]
def aH.cells (x:aH):List PV:=x.lit
theorem aH.ak (x:aH):x.cells=x.lit:=rfl
theorem aH.bB (x:aH):x.cells.all cr=true:=rfl
instance:rh aH.cells:=⟨aH.bB⟩
structure aC where
 hC:Int
 bX:List Int
 cH:Int
 cD:bZ
 bm:bZ
 deriving DecidableEq,Inhabited
abbrev aC.lit (x:aC):List PV:=[.int .i64 x.hC,sl 1 cI x.bX,.int .i64 x.cH,.str x.cD,.str x.bm]
def aC.cells (x:aC):List PV:=x.lit
theorem aC.ak (x:aC):x.cells=x.lit:=rfl
theorem aC.bB (x:aC):x.cells.all cr=true:=rfl
instance:rh aC.cells:=⟨aC.bB⟩
structure dM where
 vD:Int
 aA:ae
 deriving Inhabited
abbrev dM.lit (x:dM):List PV:=[.int .i64 x.vD,.int .i64 x.aA.bJ,.int .i64 x.aA.bS,.str x.aA.ck,.int .i64 x.aA.aF,sl 8 aj.cells x.aA.al]
def dM.cells (x:dM):List PV:=x.lit
theorem dM.ak (x:dM):x.cells=x.lit:=rfl
theorem dM.bB (x:dM):x.cells.all cr=true:=rfl
instance:rh dM.cells:=⟨dM.bB⟩
structure cz where
 hC:Int
 az:bZ
 yr:Bool
 cH:Int
 cJ:Int
 cD:bZ
 bm:bZ
 bX:List Int
 fArgs:List dM
 deriving Inhabited
abbrev cz.lit (x:cz):List PV:=[.int .i64 x.hC,.str x.az,.bool x.yr,.int .i64 x.cH,.int .i64 x.cJ,.str x.cD,.str x.bm,sl 1 cI x.bX,sl 6 dM.cells x.fArgs]
def cz.cells (x:cz):List PV:=x.lit
theorem cz.ak (x:cz):x.cells=x.lit:=rfl
theorem cz.bB (x:cz):x.cells.all cr=true:=rfl
instance:rh cz.cells:=⟨cz.bB⟩
structure cP where
 D6:Bool
 ri:bZ
 uV:Int
 eV:Int
 bH:Int
 cj:Int
 deriving DecidableEq,Inhabited
abbrev cP.lit (x:cP):List PV:=[.bool x.D6,.str x.ri,.int .i64 x.uV,.int .i64 x.eV,.int .i64 x.bH,.int .i64 x.cj]
def cP.cells (x:cP):List PV:=x.lit
theorem cP.ak (x:cP):x.cells=x.lit:=rfl
theorem cP.bB (x:cP):x.cells.all cr=true:=rfl
instance:rh cP.cells:=⟨cP.bB⟩
structure dx where
 Qr:Int
 aA:ae
 uV:Int
 oL:Int
 eV:Int
 deriving Inhabited
abbrev dx.lit (x:dx):List PV:=[.int .i64 x.Qr,.int .i64 x.aA.bJ,.int .i64 x.aA.bS,.str x.aA.ck,.int .i64 x.aA.aF,sl 8 aj.cells x.aA.al,.int .i64 x.uV,.int .i64 x.oL,.int .i64 x.eV]
def dx.cells (x:dx):List PV:=x.lit
theorem dx.ak (x:dx):x.cells=x.lit:=rfl
theorem dx.bB (x:dx):x.cells.all cr=true:=rfl
instance:rh dx.cells:=⟨dx.bB⟩
structure aM where
 hC:Int
 uV:Int
 ah:List Int
 bu:List ae
 bH:List cz
 bg:List cP
 cj:List dx
 cH:Int
 cD:bZ
 bm:bZ
 df:Int
 dc:Int
 cJ:Int
 deriving Inhabited
abbrev aM.lit (x:aM):List PV:=[.int .i64 x.hC,.int .i64 x.uV,sl 1 cI x.ah,sl 5 ae.cells x.bu,sl 9 cz.cells x.bH,sl 6 cP.cells x.bg,sl 9 dx.cells x.cj,.int .i64 x.cH,.str x.cD,.str x.bm,.int .i64 x.df,.int .i64 x.dc,.int .i64 x.cJ]
def aM.cells (x:aM):List PV:=x.lit
theorem aM.ak (x:aM):x.cells=x.lit:=rfl
theorem aM.bB (x:aM):x.cells.all cr=true:=rfl
instance:rh aM.cells:=⟨aM.bB⟩
structure cc where
 BJ:Int
 bh:ae
 ai:aM
 deriving Inhabited
abbrev cc.lit (x:cc):List PV:=[.int .i64 x.BJ,.int .i64 x.bh.bJ,.int .i64 x.bh.bS,.str x.bh.ck,.int .i64 x.bh.aF,sl 8 aj.cells x.bh.al,.int .i64 x.ai.hC,.int .i64 x.ai.uV,sl 1 cI x.ai.ah,sl 5 ae.cells x.ai.bu,sl 9 cz.cells x.ai.bH,sl 6 cP.cells x.ai.bg,sl 9 dx.cells x.ai.cj,.int .i64 x.ai.cH,.str x.ai.cD,.str x.ai.bm,.int .i64 x.ai.df,.int .i64 x.ai.dc,.int .i64 x.ai.cJ]
def cc.cells (x:cc):List PV:=x.lit
theorem cc.ak (x:cc):x.cells=x.lit:=rfl
theorem cc.bB (x:cc):x.cells.all cr=true:=rfl
instance:rh cc.cells:=⟨cc.bB⟩
structure aS where
 cF:Int
 cg:bZ
 dZ:Int
 aF:Int
 bO:List ae
 a8:List aK
 cA:dL
 bL:List aH
 bx:List aC
 de:List cc
 bW:List aM
 bF:cp
 deriving Inhabited
abbrev aS.lit (x:aS):List PV:=[.int .i64 x.cF,.str x.cg,.int .i64 x.dZ,.int .i64 x.aF,sl 5 ae.cells x.bO,sl 2 aK.cells x.a8,sl 6 aE.cells x.cA.bw,sl 3 aH.cells x.bL,sl 5 aC.cells x.bx,sl 19 cc.cells x.de,sl 13 aM.cells x.bW,.str x.bF.dW,sl 2 aI.cells x.bF.aY,sl 2 aJ.cells x.bF.aZ]
def aS.cells (x:aS):List PV:=x.lit
theorem aS.ak (x:aS):x.cells=x.lit:=rfl
theorem aS.bB (x:aS):x.cells.all cr=true:=rfl
instance:rh aS.cells:=⟨aS.bB⟩
instance:Qs aQ.cells:=⟨λ_=>rfl⟩
instance:Qs cw.cells:=⟨λ_=>rfl⟩
instance:Qs bV.cells:=⟨λ_=>rfl⟩
instance:Qs aK.cells:=⟨λ_=>rfl⟩
instance:Qs TParam.cells:=⟨λ_=>rfl⟩
instance:Qs cP.cells:=⟨λ_=>rfl⟩
instance:Qs aI.cells:=⟨λ_=>rfl⟩
instance:Qs aJ.cells:=⟨λ_=>rfl⟩
inductive aj.D:List PV->aj->Prop
 | mk (x:aj) (n0:Nat) (F0:Nat->Prop) (kz:x.aA.al.length=n0) (f0:Nat->List PV) (h0:∀i (hi:i<x.aA.al.length),aj.D (f0 i) x.aA.al[i]) (tz:∀i,n0<=i->f0 i=[]):aj.D [.bool x.bA.dy,.int .i64 x.bA.bS,.str x.bA.ck,.int .i64 x.aA.bJ,.int .i64 x.aA.bS,.str x.aA.ck,.int .i64 x.aA.aF,.aX 8 n0 150 f0 F0] x
theorem aj.lr {x:aj} {b:Nat} {F0:Nat->Prop} {c:Nat->List PV} (a:DR aj.D b c x.aA.al):aj.D [.bool x.bA.dy,.int .i64 x.bA.bS,.str x.bA.ck,.int .i64 x.aA.bJ,.int .i64 x.aA.bS,.str x.aA.ck,.int .i64 x.aA.aF,.aX 8 b 150 c F0] x:=.mk x _ _ a.len _ a.at_ a.z
theorem aj.iD {cs:List PV} {x:aj} (h:aj.D cs x):∃(F0:Nat->Prop),∃a:Nat->List PV,cs=[.bool x.bA.dy,.int .i64 x.bA.bS,.str x.bA.ck,.int .i64 x.aA.bJ,.int .i64 x.aA.bS,.str x.aA.ck,.int .i64 x.aA.aF,.aX 8 x.aA.al.length 150 a F0]/\DR aj.D x.aA.al.length a x.aA.al:=by
 cases h with
 | mk _ c F0 b a h0 tz=>subst b;exact⟨F0,a,rfl,⟨rfl,h0,tz⟩⟩
theorem aj.hI:∀cs x,aj.D cs x->wE cs x.cells:=λcs x h=>aj.D.rec (motive:=λcs x _=>wE cs x.cells) (λx c F0 b d h0 tz a=>by rw[aj.ak];exact⟨.p rfl,.p rfl,.p rfl,.p rfl,.p rfl,.p rfl,.p rfl,.o (lu a b 8 150 F0),trivial⟩) h
instance:ET aj.D aj.cells:=⟨aj.hI⟩
theorem aj.iJ:∀cs x,aj.D cs x->kd cs:=λcs x h=>aj.D.rec (motive:=λcs x _=>kd cs) (λx c F0 b d h0 tz a=>(gq (gq (gq (gq (gq (gq (gq (wF (λi hi=>a i (alG hi b.symm)) D7))))))))) h
instance:U8 aj.D:=⟨aj.iJ⟩
inductive aq.D:List PV->aq->Prop
 | mk (x:aq) (n0:Nat) (F0:Nat->Prop) (kz:x.aA.al.length=n0) (f0:Nat->List PV) (h0:∀i (hi:i<x.aA.al.length),aj.D (f0 i) x.aA.al[i]) (tz:∀i,n0<=i->f0 i=[]):aq.D [.str x.az,.int .i64 x.aA.bJ,.int .i64 x.aA.bS,.str x.aA.ck,.int .i64 x.aA.aF,.aX 8 n0 150 f0 F0] x
theorem aq.lr {x:aq} {b:Nat} {F0:Nat->Prop} {c:Nat->List PV} (a:DR aj.D b c x.aA.al):aq.D [.str x.az,.int .i64 x.aA.bJ,.int .i64 x.aA.bS,.str x.aA.ck,.int .i64 x.aA.aF,.aX 8 b 150 c F0] x:=.mk x _ _ a.len _ a.at_ a.z
theorem aq.iD {cs:List PV} {x:aq} (h:aq.D cs x):∃(F0:Nat->Prop),∃a:Nat->List PV,cs=[.str x.az,.int .i64 x.aA.bJ,.int .i64 x.aA.bS,.str x.aA.ck,.int .i64 x.aA.aF,.aX 8 x.aA.al.length 150 a F0]/\DR aj.D x.aA.al.length a x.aA.al:=by
 cases h with
 | mk _ c F0 b a h0 tz=>subst b;exact⟨F0,a,rfl,⟨rfl,h0,tz⟩⟩
theorem aq.hI:∀cs x,aq.D cs x->wE cs x.cells:=λcs x h=>aq.D.rec (motive:=λcs x _=>wE cs x.cells) (λx b F0 a c h0 tz=>by rw[aq.ak];exact⟨.p rfl,.p rfl,.p rfl,.p rfl,.p rfl,.o (lu (λi hi=>aj.hI _ _ (h0 i hi)) a 8 150 F0),trivial⟩) h
instance:ET aq.D aq.cells:=⟨aq.hI⟩
theorem aq.iJ:∀cs x,aq.D cs x->kd cs:=λcs x h=>aq.D.rec (motive:=λcs x _=>kd cs) (λx b F0 a c h0 tz=>(gq (gq (gq (gq (gq (wF (λi hi=>aj.iJ _ _ (h0 i (alG hi a.symm))) D7))))))) h
instance:U8 aq.D:=⟨aq.iJ⟩
inductive dM.D:List PV->dM->Prop
 | mk (x:dM) (n0:Nat) (F0:Nat->Prop) (kz:x.aA.al.length=n0) (f0:Nat->List PV) (h0:∀i (hi:i<x.aA.al.length),aj.D (f0 i) x.aA.al[i]) (tz:∀i,n0<=i->f0 i=[]):dM.D [.int .i64 x.vD,.int .i64 x.aA.bJ,.int .i64 x.aA.bS,.str x.aA.ck,.int .i64 x.aA.aF,.aX 8 n0 150 f0 F0] x
theorem dM.lr {x:dM} {b:Nat} {F0:Nat->Prop} {c:Nat->List PV} (a:DR aj.D b c x.aA.al):dM.D [.int .i64 x.vD,.int .i64 x.aA.bJ,.int .i64 x.aA.bS,.str x.aA.ck,.int .i64 x.aA.aF,.aX 8 b 150 c F0] x:=.mk x _ _ a.len _ a.at_ a.z
theorem dM.iD {cs:List PV} {x:dM} (h:dM.D cs x):∃(F0:Nat->Prop),∃a:Nat->List PV,cs=[.int .i64 x.vD,.int .i64 x.aA.bJ,.int .i64 x.aA.bS,.str x.aA.ck,.int .i64 x.aA.aF,.aX 8 x.aA.al.length 150 a F0]/\DR aj.D x.aA.al.length a x.aA.al:=by
 cases h with
 | mk _ c F0 b a h0 tz=>subst b;exact⟨F0,a,rfl,⟨rfl,h0,tz⟩⟩
theorem dM.hI:∀cs x,dM.D cs x->wE cs x.cells:=λcs x h=>dM.D.rec (motive:=λcs x _=>wE cs x.cells) (λx b F0 a c h0 tz=>by rw[dM.ak];exact⟨.p rfl,.p rfl,.p rfl,.p rfl,.p rfl,.o (lu (λi hi=>aj.hI _ _ (h0 i hi)) a 8 150 F0),trivial⟩) h
instance:ET dM.D dM.cells:=⟨dM.hI⟩
theorem dM.iJ:∀cs x,dM.D cs x->kd cs:=λcs x h=>dM.D.rec (motive:=λcs x _=>kd cs) (λx b F0 a c h0 tz=>(gq (gq (gq (gq (gq (wF (λi hi=>aj.iJ _ _ (h0 i (alG hi a.symm))) D7))))))) h
instance:U8 dM.D:=⟨dM.iJ⟩
inductive cz.D:List PV->cz->Prop
 | mk (x:cz) (n0:Nat) (F0:Nat->Prop) (kz:x.bX.length=n0) (n1:Nat) (F1:Nat->Prop) (xn:x.fArgs.length=n1) (f1:Nat->List PV) (h1:∀i (hi:i<x.fArgs.length),dM.D (f1 i) x.fArgs[i]) (Jo:∀i,n1<=i->f1 i=[]):cz.D [.int .i64 x.hC,.str x.az,.bool x.yr,.int .i64 x.cH,.int .i64 x.cJ,.str x.cD,.str x.bm,.aX 1 n0 3 (row cI x.bX) F0,.aX 6 n1 293 f1 F1] x
theorem cz.lr {x:cz} {b:Nat} {F0:Nat->Prop} {c:Nat} {F1:Nat->Prop} {d:Nat->List PV} (e:x.bX.length=b) (a:DR dM.D c d x.fArgs):cz.D [.int .i64 x.hC,.str x.az,.bool x.yr,.int .i64 x.cH,.int .i64 x.cJ,.str x.cD,.str x.bm,.aX 1 b 3 (row cI x.bX) F0,.aX 6 c 293 d F1] x:=.mk x _ _ e _ _ a.len _ a.at_ a.z
theorem cz.iD {cs:List PV} {x:cz} (h:cz.D cs x):∃(F0:Nat->Prop),∃(F1:Nat->Prop),∃a:Nat->List PV,cs=[.int .i64 x.hC,.str x.az,.bool x.yr,.int .i64 x.cH,.int .i64 x.cJ,.str x.cD,.str x.bm,.aX 1 x.bX.length 3 (row cI x.bX) F0,.aX 6 x.fArgs.length 293 a F1]/\DR dM.D x.fArgs.length a x.fArgs:=by
 cases h with
 | mk _ e F0 b f F1 c a h1 d=>subst b;subst c;exact⟨F0,F1,a,rfl,⟨rfl,h1,d⟩⟩
theorem cz.hI:∀cs x,cz.D cs x->wE cs x.cells:=λcs x h=>cz.D.rec (motive:=λcs x _=>wE cs x.cells) (λx c F0 a d F1 b e h1 f=>by rw[cz.ak];exact⟨.p rfl,.p rfl,.p rfl,.p rfl,.p rfl,.p rfl,.p rfl,.o (ib a 1 3 F0),.o (lu (λi hi=>dM.hI _ _ (h1 i hi)) b 6 293 F1),trivial⟩) h
instance:ET cz.D cz.cells:=⟨cz.hI⟩
theorem cz.iJ:∀cs x,cz.D cs x->kd cs:=λcs x h=>cz.D.rec (motive:=λcs x _=>kd cs) (λx b F0 c d F1 a e h1 f=>(gq (gq (gq (gq (gq (gq (gq (wF zC (wF (λi hi=>dM.iJ _ _ (h1 i (alG hi a.symm))) D7)))))))))) h
instance:U8 cz.D:=⟨cz.iJ⟩
inductive dx.D:List PV->dx->Prop
 | mk (x:dx) (n0:Nat) (F0:Nat->Prop) (kz:x.aA.al.length=n0) (f0:Nat->List PV) (h0:∀i (hi:i<x.aA.al.length),aj.D (f0 i) x.aA.al[i]) (tz:∀i,n0<=i->f0 i=[]):dx.D [.int .i64 x.Qr,.int .i64 x.aA.bJ,.int .i64 x.aA.bS,.str x.aA.ck,.int .i64 x.aA.aF,.aX 8 n0 150 f0 F0,.int .i64 x.uV,.int .i64 x.oL,.int .i64 x.eV] x
theorem dx.lr {x:dx} {b:Nat} {F0:Nat->Prop} {c:Nat->List PV} (a:DR aj.D b c x.aA.al):dx.D [.int .i64 x.Qr,.int .i64 x.aA.bJ,.int .i64 x.aA.bS,.str x.aA.ck,.int .i64 x.aA.aF,.aX 8 b 150 c F0,.int .i64 x.uV,.int .i64 x.oL,.int .i64 x.eV] x:=.mk x _ _ a.len _ a.at_ a.z
theorem dx.iD {cs:List PV} {x:dx} (h:dx.D cs x):∃(F0:Nat->Prop),∃a:Nat->List PV,cs=[.int .i64 x.Qr,.int .i64 x.aA.bJ,.int .i64 x.aA.bS,.str x.aA.ck,.int .i64 x.aA.aF,.aX 8 x.aA.al.length 150 a F0,.int .i64 x.uV,.int .i64 x.oL,.int .i64 x.eV]/\DR aj.D x.aA.al.length a x.aA.al:=by
 cases h with
 | mk _ c F0 b a h0 tz=>subst b;exact⟨F0,a,rfl,⟨rfl,h0,tz⟩⟩
theorem dx.hI:∀cs x,dx.D cs x->wE cs x.cells:=λcs x h=>dx.D.rec (motive:=λcs x _=>wE cs x.cells) (λx b F0 a c h0 tz=>by rw[dx.ak];exact⟨.p rfl,.p rfl,.p rfl,.p rfl,.p rfl,.o (lu (λi hi=>aj.hI _ _ (h0 i hi)) a 8 150 F0),.p rfl,.p rfl,.p rfl,trivial⟩) h
instance:ET dx.D dx.cells:=⟨dx.hI⟩
theorem dx.iJ:∀cs x,dx.D cs x->kd cs:=λcs x h=>dx.D.rec (motive:=λcs x _=>kd cs) (λx b F0 a c h0 tz=>(gq (gq (gq (gq (gq (wF (λi hi=>aj.iJ _ _ (h0 i (alG hi a.symm))) (gq (gq (gq D7)))))))))) h
instance:U8 dx.D:=⟨dx.iJ⟩
inductive aM.D:List PV->aM->Prop
 | mk (x:aM) (n0:Nat) (F0:Nat->Prop) (kz:x.ah.length=n0) (n1:Nat) (F1:Nat->Prop) (xn:x.bu.length=n1) (n2:Nat) (F2:Nat->Prop) (EU:x.bH.length=n2) (f2:Nat->List PV) (h2:∀i (hi:i<x.bH.length),cz.D (f2 i) x.bH[i]) (U9:∀i,n2<=i->f2 i=[]) (n3:Nat) (F3:Nat->Prop) (Qt:x.bg.length=n3) (n4:Nat) (F4:Nat->Prop) (Y7:x.cj.length=n4) (f4:Nat->List PV) (h4:∀i (hi:i<x.cj.length),dx.D (f4 i) x.cj[i]) (hz4:∀i,n4<=i->f4 i=[]):aM.D [.int .i64 x.hC,.int .i64 x.uV,.aX 1 n0 3 (row cI x.ah) F0,.aX 5 n1 74 (row ae.cells x.bu) F1,.aX 9 n2 244 f2 F2,.aX 6 n3 247 (row cP.cells x.bg) F3,.aX 9 n4 249 f4 F4,.int .i64 x.cH,.str x.cD,.str x.bm,.int .i64 x.df,.int .i64 x.dc,.int .i64 x.cJ] x
theorem aM.lr {x:aM} {b:Nat} {F0:Nat->Prop} {c:Nat} {F1:Nat->Prop} {n2:Nat} {F2:Nat->Prop} {f2:Nat->List PV} {d:Nat} {F3:Nat->Prop} {e:Nat} {F4:Nat->Prop} {f:Nat->List PV} (g:x.ah.length=b) (h:x.bu.length=c) (a:DR cz.D n2 f2 x.bH) (i:x.bg.length=d) (d4:DR dx.D e f x.cj):aM.D [.int .i64 x.hC,.int .i64 x.uV,.aX 1 b 3 (row cI x.ah) F0,.aX 5 c 74 (row ae.cells x.bu) F1,.aX 9 n2 244 f2 F2,.aX 6 d 247 (row cP.cells x.bg) F3,.aX 9 e 249 f F4,.int .i64 x.cH,.str x.cD,.str x.bm,.int .i64 x.df,.int .i64 x.dc,.int .i64 x.cJ] x:=.mk x _ _ g _ _ h _ _ a.len _ a.at_ a.z _ _ i _ _ d4.len _ d4.at_ d4.z
theorem aM.iD {cs:List PV} {x:aM} (h:aM.D cs x):∃(F0:Nat->Prop),∃(F1:Nat->Prop),∃(F2:Nat->Prop),∃f2:Nat->List PV,∃(F3:Nat->Prop),∃(F4:Nat->Prop),∃a:Nat->List PV,cs=[.int .i64 x.hC,.int .i64 x.uV,.aX 1 x.ah.length 3 (row cI x.ah) F0,.aX 5 x.bu.length 74 (row ae.cells x.bu) F1,.aX 9 x.bH.length 244 f2 F2,.aX 6 x.bg.length 247 (row cP.cells x.bg) F3,.aX 9 x.cj.length 249 a F4,.int .i64 x.cH,.str x.cD,.str x.bm,.int .i64 x.df,.int .i64 x.dc,.int .i64 x.cJ]/\DR cz.D x.bH.length f2 x.bH/\DR dx.D x.cj.length a x.cj:=by
 cases h with
 | mk _ j F0 c k F1 d n2 F2 e f2 h2 f l F3 g m F4 i a h4 b=>subst c;subst d;subst e;subst g;subst i;exact⟨F0,F1,F2,f2,F3,F4,a,rfl,⟨rfl,h2,f⟩,⟨rfl,h4,b⟩⟩
theorem aM.hI:∀cs x,aM.D cs x->wE cs x.cells:=λcs x h=>aM.D.rec (motive:=λcs x _=>wE cs x.cells) (λx g F0 a j F1 b n2 F2 c f2 h2 k l F3 d m F4 e n h4 f=>by rw[aM.ak];exact⟨.p rfl,.p rfl,.o (ib a 1 3 F0),.o (ib b 5 74 F1),.o (lu (λi hi=>cz.hI _ _ (h2 i hi)) c 9 244 F2),.o (ib d 6 247 F3),.o (lu (λi hi=>dx.hI _ _ (h4 i hi)) e 9 249 F4),.p rfl,.p rfl,.p rfl,.p rfl,.p rfl,.p rfl,trivial⟩) h
instance:ET aM.D aM.cells:=⟨aM.hI⟩
inductive aW.D:List PV->aW->Prop
 | mk (x:aW) (n0:Nat) (F0:Nat->Prop) (kz:x.bf.length=n0) (n1:Nat) (F1:Nat->Prop) (xn:x.cx.length=n1) (n2:Nat) (F2:Nat->Prop) (EU:x.ah.length=n2) (n3:Nat) (F3:Nat->Prop) (Qt:x.aR.length=n3):aW.D [.str x.az,.aX 2 n0 216 (row TParam.cells x.bf) F0,.aX 2 n1 216 (row TParam.cells x.cx) F1,.aX 1 n2 9 (row cS x.ah) F2,.bool x.df,.aX 5 n3 197 (row bV.cells x.aR) F3] x
theorem aW.lr {x:aW} {a:Nat} {F0:Nat->Prop} {b:Nat} {F1:Nat->Prop} {n2:Nat} {F2:Nat->Prop} {c:Nat} {F3:Nat->Prop} (d:x.bf.length=a) (e:x.cx.length=b) (f:x.ah.length=n2) (g:x.aR.length=c):aW.D [.str x.az,.aX 2 a 216 (row TParam.cells x.bf) F0,.aX 2 b 216 (row TParam.cells x.cx) F1,.aX 1 n2 9 (row cS x.ah) F2,.bool x.df,.aX 5 c 197 (row bV.cells x.aR) F3] x:=.mk x _ _ d _ _ e _ _ f _ _ g
theorem aW.iD {cs:List PV} {x:aW} (h:aW.D cs x):∃(F0:Nat->Prop),∃(F1:Nat->Prop),∃(F2:Nat->Prop),∃(F3:Nat->Prop),cs=[.str x.az,.aX 2 x.bf.length 216 (row TParam.cells x.bf) F0,.aX 2 x.cx.length 216 (row TParam.cells x.cx) F1,.aX 1 x.ah.length 9 (row cS x.ah) F2,.bool x.df,.aX 5 x.aR.length 197 (row bV.cells x.aR) F3]:=by
 cases h with
 | mk _ e F0 a f F1 b n2 F2 c g F3 d=>subst a;subst b;subst c;subst d;exact⟨F0,F1,F2,F3,rfl⟩
theorem aW.hI:∀cs x,aW.D cs x->wE cs x.cells:=λcs x h=>aW.D.rec (motive:=λcs x _=>wE cs x.cells) (λx e F0 a f F1 b n2 F2 c g F3 d=>by rw[aW.ak];exact⟨.p rfl,.o (ib a 2 216 F0),.o (ib b 2 216 F1),.o (ib c 1 9 F2),.p rfl,.o (ib d 5 197 F3),trivial⟩) h
instance:ET aW.D aW.cells:=⟨aW.hI⟩
theorem aW.iJ:∀cs x,aW.D cs x->kd cs:=λcs x h=>aW.D.rec (motive:=λcs x _=>kd cs) (λx a F0 b c F1 d n2 F2 e f F3 g=>(gq (wF zC (wF zC (wF zC (gq (wF zC D7))))))) h
instance:U8 aW.D:=⟨aW.iJ⟩
inductive aU.D:List PV->aU->Prop
 | mk (x:aU) (n0:Nat) (F0:Nat->Prop) (kz:x.bR.al.length=n0) (f0:Nat->List PV) (h0:∀i (hi:i<x.bR.al.length),aj.D (f0 i) x.bR.al[i]) (tz:∀i,n0<=i->f0 i=[]):aU.D [.str x.az,.str x.fq,.bool x.eM,.int .i64 x.bR.bJ,.int .i64 x.bR.bS,.str x.bR.ck,.int .i64 x.bR.aF,.aX 8 n0 150 f0 F0] x
theorem aU.lr {x:aU} {b:Nat} {F0:Nat->Prop} {c:Nat->List PV} (a:DR aj.D b c x.bR.al):aU.D [.str x.az,.str x.fq,.bool x.eM,.int .i64 x.bR.bJ,.int .i64 x.bR.bS,.str x.bR.ck,.int .i64 x.bR.aF,.aX 8 b 150 c F0] x:=.mk x _ _ a.len _ a.at_ a.z
theorem aU.iD {cs:List PV} {x:aU} (h:aU.D cs x):∃(F0:Nat->Prop),∃a:Nat->List PV,cs=[.str x.az,.str x.fq,.bool x.eM,.int .i64 x.bR.bJ,.int .i64 x.bR.bS,.str x.bR.ck,.int .i64 x.bR.aF,.aX 8 x.bR.al.length 150 a F0]/\DR aj.D x.bR.al.length a x.bR.al:=by
 cases h with
 | mk _ c F0 b a h0 tz=>subst b;exact⟨F0,a,rfl,⟨rfl,h0,tz⟩⟩
theorem aU.hI:∀cs x,aU.D cs x->wE cs x.cells:=λcs x h=>aU.D.rec (motive:=λcs x _=>wE cs x.cells) (λx b F0 a c h0 tz=>by rw[aU.ak];exact⟨.p rfl,.p rfl,.p rfl,.p rfl,.p rfl,.p rfl,.p rfl,.o (lu (λi hi=>aj.hI _ _ (h0 i hi)) a 8 150 F0),trivial⟩) h
instance:ET aU.D aU.cells:=⟨aU.hI⟩
theorem aU.iJ:∀cs x,aU.D cs x->kd cs:=λcs x h=>aU.D.rec (motive:=λcs x _=>kd cs) (λx b F0 a c h0 tz=>(gq (gq (gq (gq (gq (gq (gq (wF (λi hi=>aj.iJ _ _ (h0 i (alG hi a.symm))) D7))))))))) h
instance:U8 aU.D:=⟨aU.iJ⟩
inductive aN.D:List PV->aN->Prop
 | mk (x:aN) (n0:Nat) (F0:Nat->Prop) (kz:x.bp.length=n0) (f0:Nat->List PV) (h0:∀i (hi:i<x.bp.length),aU.D (f0 i) x.bp[i]) (tz:∀i,n0<=i->f0 i=[]) (n1:Nat) (F1:Nat->Prop) (xn:x.bM.length=n1):aN.D [.str x.az,.str x.iE,.aX 8 n0 135 f0 F0,.aX 5 n1 141 (row aQ.cells x.bM) F1] x
theorem aN.lr {x:aN} {b:Nat} {F0:Nat->Prop} {c:Nat->List PV} {d:Nat} {F1:Nat->Prop} (a:DR aU.D b c x.bp) (e:x.bM.length=d):aN.D [.str x.az,.str x.iE,.aX 8 b 135 c F0,.aX 5 d 141 (row aQ.cells x.bM) F1] x:=.mk x _ _ a.len _ a.at_ a.z _ _ e
theorem aN.iD {cs:List PV} {x:aN} (h:aN.D cs x):∃(F0:Nat->Prop),∃a:Nat->List PV,∃(F1:Nat->Prop),cs=[.str x.az,.str x.iE,.aX 8 x.bp.length 135 a F0,.aX 5 x.bM.length 141 (row aQ.cells x.bM) F1]/\DR aU.D x.bp.length a x.bp:=by
 cases h with
 | mk _ d F0 b a h0 tz e F1 c=>subst b;subst c;exact⟨F0,a,F1,rfl,⟨rfl,h0,tz⟩⟩
theorem aN.hI:∀cs x,aN.D cs x->wE cs x.cells:=λcs x h=>aN.D.rec (motive:=λcs x _=>wE cs x.cells) (λx c F0 a d h0 tz e F1 b=>by rw[aN.ak];exact⟨.p rfl,.p rfl,.o (lu (λi hi=>aU.hI _ _ (h0 i hi)) a 8 135 F0),.o (ib b 5 141 F1),trivial⟩) h
instance:ET aN.D aN.cells:=⟨aN.hI⟩
theorem aN.iJ:∀cs x,aN.D cs x->kd cs:=λcs x h=>aN.D.rec (motive:=λcs x _=>kd cs) (λx b F0 a c h0 tz d F1 e=>(gq (gq (wF (λi hi=>aU.iJ _ _ (h0 i (alG hi a.symm))) (wF zC D7))))) h
instance:U8 aN.D:=⟨aN.iJ⟩
inductive aH.D:List PV->aH->Prop
 | mk (x:aH) (n0:Nat) (F0:Nat->Prop) (kz:x.bp.length=n0) (f0:Nat->List PV) (h0:∀i (hi:i<x.bp.length),aq.D (f0 i) x.bp[i]) (tz:∀i,n0<=i->f0 i=[]):aH.D [.str x.ri,.bool x.ES,.aX 6 n0 79 f0 F0] x
theorem aH.lr {x:aH} {b:Nat} {F0:Nat->Prop} {c:Nat->List PV} (a:DR aq.D b c x.bp):aH.D [.str x.ri,.bool x.ES,.aX 6 b 79 c F0] x:=.mk x _ _ a.len _ a.at_ a.z
theorem aH.iD {cs:List PV} {x:aH} (h:aH.D cs x):∃(F0:Nat->Prop),∃a:Nat->List PV,cs=[.str x.ri,.bool x.ES,.aX 6 x.bp.length 79 a F0]/\DR aq.D x.bp.length a x.bp:=by
 cases h with
 | mk _ c F0 b a h0 tz=>subst b;exact⟨F0,a,rfl,⟨rfl,h0,tz⟩⟩
theorem aH.hI:∀cs x,aH.D cs x->wE cs x.cells:=λcs x h=>aH.D.rec (motive:=λcs x _=>wE cs x.cells) (λx b F0 a c h0 tz=>by rw[aH.ak];exact⟨.p rfl,.p rfl,.o (lu (λi hi=>aq.hI _ _ (h0 i hi)) a 6 79 F0),trivial⟩) h
instance:ET aH.D aH.cells:=⟨aH.hI⟩
theorem aH.iJ:∀cs x,aH.D cs x->kd cs:=λcs x h=>aH.D.rec (motive:=λcs x _=>kd cs) (λx b F0 a c h0 tz=>(gq (gq (wF (λi hi=>aq.iJ _ _ (h0 i (alG hi a.symm))) D7)))) h
instance:U8 aH.D:=⟨aH.iJ⟩
inductive aC.D:List PV->aC->Prop
 | mk (x:aC) (n0:Nat) (F0:Nat->Prop) (kz:x.bX.length=n0):aC.D [.int .i64 x.hC,.aX 1 n0 3 (row cI x.bX) F0,.int .i64 x.cH,.str x.cD,.str x.bm] x
theorem aC.lr {x:aC} {a:Nat} {F0:Nat->Prop} (b:x.bX.length=a):aC.D [.int .i64 x.hC,.aX 1 a 3 (row cI x.bX) F0,.int .i64 x.cH,.str x.cD,.str x.bm] x:=.mk x _ _ b
theorem aC.iD {cs:List PV} {x:aC} (h:aC.D cs x):∃(F0:Nat->Prop),cs=[.int .i64 x.hC,.aX 1 x.bX.length 3 (row cI x.bX) F0,.int .i64 x.cH,.str x.cD,.str x.bm]:=by
 cases h with
 | mk _ b F0 a=>subst a;exact⟨F0,rfl⟩
theorem aC.hI:∀cs x,aC.D cs x->wE cs x.cells:=λcs x h=>aC.D.rec (motive:=λcs x _=>wE cs x.cells) (λx b F0 a=>by rw[aC.ak];exact⟨.p rfl,.o (ib a 1 3 F0),.p rfl,.p rfl,.p rfl,trivial⟩) h
instance:ET aC.D aC.cells:=⟨aC.hI⟩
theorem aC.iJ:∀cs x,aC.D cs x->kd cs:=λcs x h=>aC.D.rec (motive:=λcs x _=>kd cs) (λx a F0 b=>(gq (wF zC (gq (gq (gq D7)))))) h
instance:U8 aC.D:=⟨aC.iJ⟩
inductive cc.D:List PV->cc->Prop
 | mk (x:cc) (n0:Nat) (F0:Nat->Prop) (kz:x.bh.al.length=n0) (f0:Nat->List PV) (h0:∀i (hi:i<x.bh.al.length),aj.D (f0 i) x.bh.al[i]) (tz:∀i,n0<=i->f0 i=[]) (n1:Nat) (F1:Nat->Prop) (xn:x.ai.ah.length=n1) (n2:Nat) (F2:Nat->Prop) (EU:x.ai.bu.length=n2) (n3:Nat) (F3:Nat->Prop) (Qt:x.ai.bH.length=n3) (f3:Nat->List PV) (h3:∀i (hi:i<x.ai.bH.length),cz.D (f3 i) x.ai.bH[i]) (hz3:∀i,n3<=i->f3 i=[]) (n4:Nat) (F4:Nat->Prop) (Y7:x.ai.bg.length=n4) (n5:Nat) (F5:Nat->Prop) (hl5:x.ai.cj.length=n5) (f5:Nat->List PV) (h5:∀i (hi:i<x.ai.cj.length),dx.D (f5 i) x.ai.cj[i]) (hz5:∀i,n5<=i->f5 i=[]):cc.D [.int .i64 x.BJ,.int .i64 x.bh.bJ,.int .i64 x.bh.bS,.str x.bh.ck,.int .i64 x.bh.aF,.aX 8 n0 150 f0 F0,.int .i64 x.ai.hC,.int .i64 x.ai.uV,.aX 1 n1 3 (row cI x.ai.ah) F1,.aX 5 n2 74 (row ae.cells x.ai.bu) F2,.aX 9 n3 244 f3 F3,.aX 6 n4 247 (row cP.cells x.ai.bg) F4,.aX 9 n5 249 f5 F5,.int .i64 x.ai.cH,.str x.ai.cD,.str x.ai.bm,.int .i64 x.ai.df,.int .i64 x.ai.dc,.int .i64 x.ai.cJ] x
theorem cc.lr {x:cc} {d:Nat} {F0:Nat->Prop} {e:Nat->List PV} {f:Nat} {F1:Nat->Prop} {n2:Nat} {F2:Nat->Prop} {g:Nat} {F3:Nat->Prop} {f3:Nat->List PV} {h:Nat} {F4:Nat->Prop} {i:Nat} {j:Nat->Prop} {f5:Nat->List PV} (a:DR aj.D d e x.bh.al) (k:x.ai.ah.length=f) (l:x.ai.bu.length=n2) (b:DR cz.D g f3 x.ai.bH) (d4:x.ai.bg.length=h) (c:DR dx.D i f5 x.ai.cj):cc.D [.int .i64 x.BJ,.int .i64 x.bh.bJ,.int .i64 x.bh.bS,.str x.bh.ck,.int .i64 x.bh.aF,.aX 8 d 150 e F0,.int .i64 x.ai.hC,.int .i64 x.ai.uV,.aX 1 f 3 (row cI x.ai.ah) F1,.aX 5 n2 74 (row ae.cells x.ai.bu) F2,.aX 9 g 244 f3 F3,.aX 6 h 247 (row cP.cells x.ai.bg) F4,.aX 9 i 249 f5 j,.int .i64 x.ai.cH,.str x.ai.cD,.str x.ai.bm,.int .i64 x.ai.df,.int .i64 x.ai.dc,.int .i64 x.ai.cJ] x:=.mk x _ _ a.len _ a.at_ a.z _ _ k _ _ l _ _ b.len _ b.at_ b.z _ _ d4 _ _ c.len _ c.at_ c.z
theorem cc.iD {cs:List PV} {x:cc} (h:cc.D cs x):∃(F0:Nat->Prop),∃a:Nat->List PV,∃(F1:Nat->Prop),∃(F2:Nat->Prop),∃(F3:Nat->Prop),∃f3:Nat->List PV,∃(F4:Nat->Prop),∃(b:Nat->Prop),∃f5:Nat->List PV,cs=[.int .i64 x.BJ,.int .i64 x.bh.bJ,.int .i64 x.bh.bS,.str x.bh.ck,.int .i64 x.bh.aF,.aX 8 x.bh.al.length 150 a F0,.int .i64 x.ai.hC,.int .i64 x.ai.uV,.aX 1 x.ai.ah.length 3 (row cI x.ai.ah) F1,.aX 5 x.ai.bu.length 74 (row ae.cells x.ai.bu) F2,.aX 9 x.ai.bH.length 244 f3 F3,.aX 6 x.ai.bg.length 247 (row cP.cells x.ai.bg) F4,.aX 9 x.ai.cj.length 249 f5 b,.int .i64 x.ai.cH,.str x.ai.cD,.str x.ai.bm,.int .i64 x.ai.df,.int .i64 x.ai.dc,.int .i64 x.ai.cJ]/\DR aj.D x.bh.al.length a x.bh.al/\DR cz.D x.ai.bH.length f3 x.ai.bH/\DR dx.D x.ai.cj.length f5 x.ai.cj:=by
 cases h with
 | mk _ l F0 f a h0 tz m F1 g n2 F2 i n F3 j f3 h3 c o F4 k p b d f5 h5 e=>subst f;subst g;subst i;subst j;subst k;subst d;exact⟨F0,a,F1,F2,F3,f3,F4,b,f5,rfl,⟨rfl,h0,tz⟩,⟨rfl,h3,c⟩,⟨rfl,h5,e⟩⟩
theorem cc.hI:∀cs x,cc.D cs x->wE cs x.cells:=λcs x h=>cc.D.rec (motive:=λcs x _=>wE cs x.cells) (λx l F0 b m h0 tz n F1 c n2 F2 d q F3 e f3 h3 f r F4 g s j a f5 h5 k=>by rw[cc.ak];exact⟨.p rfl,.p rfl,.p rfl,.p rfl,.p rfl,.o (lu (λi hi=>aj.hI _ _ (h0 i hi)) b 8 150 F0),.p rfl,.p rfl,.o (ib c 1 3 F1),.o (ib d 5 74 F2),.o (lu (λi hi=>cz.hI _ _ (h3 i hi)) e 9 244 F3),.o (ib g 6 247 F4),.o (lu (λi hi=>dx.hI _ _ (h5 i hi)) a 9 249 j),.p rfl,.p rfl,.p rfl,.p rfl,.p rfl,.p rfl,trivial⟩) h
instance:ET cc.D cc.cells:=⟨cc.hI⟩
inductive aE.D:List PV->aE->Prop
 | mk (x:aE) (n0:Nat) (F0:Nat->Prop) (kz:x.aP.aG.length=n0) (n1:Nat) (F1:Nat->Prop) (xn:x.aP.ah.length=n1):aE.D [.int .i64 x.bq,.bool x.aP.bC,.aX 1 n0 3 (row cI x.aP.aG) F0,.aX 10 n1 203 (row aB.cells x.aP.ah) F1,.int .i64 x.aP.aF,.int .i64 x.aP.bq] x
theorem aE.lr {x:aE} {a:Nat} {F0:Nat->Prop} {b:Nat} {F1:Nat->Prop} (c:x.aP.aG.length=a) (d:x.aP.ah.length=b):aE.D [.int .i64 x.bq,.bool x.aP.bC,.aX 1 a 3 (row cI x.aP.aG) F0,.aX 10 b 203 (row aB.cells x.aP.ah) F1,.int .i64 x.aP.aF,.int .i64 x.aP.bq] x:=.mk x _ _ c _ _ d
theorem aE.iD {cs:List PV} {x:aE} (h:aE.D cs x):∃(F0:Nat->Prop),∃(F1:Nat->Prop),cs=[.int .i64 x.bq,.bool x.aP.bC,.aX 1 x.aP.aG.length 3 (row cI x.aP.aG) F0,.aX 10 x.aP.ah.length 203 (row aB.cells x.aP.ah) F1,.int .i64 x.aP.aF,.int .i64 x.aP.bq]:=by
 cases h with
 | mk _ c F0 a d F1 b=>subst a;subst b;exact⟨F0,F1,rfl⟩
theorem aE.hI:∀cs x,aE.D cs x->wE cs x.cells:=λcs x h=>aE.D.rec (motive:=λcs x _=>wE cs x.cells) (λx c F0 a d F1 b=>by rw[aE.ak];exact⟨.p rfl,.p rfl,.o (ib a 1 3 F0),.o (ib b 10 203 F1),.p rfl,.p rfl,trivial⟩) h
instance:ET aE.D aE.cells:=⟨aE.hI⟩
theorem aK.jt (x y:aK):((x.az==y.az)&&((x.vD==y.vD)&&true))=decide (x=y):=by
 rw[akX];simp only[An,alk,alL,akO];constructor
 ·intro h;cases x;cases y;simp only[aK.mk.injEq];simpa using h
 ·rintro rfl;simp
theorem aQ.jt (x y:aQ):((x.az==y.az)&&((x.fq==y.fq)&&((x.tq==y.tq)&&((x.eM==y.eM)&&((x.bm==y.bm)&&true)))))=decide (x=y):=by
 rw[akX];simp only[An,alk,alL,akO];constructor
 ·intro h;cases x;cases y;simp only[aQ.mk.injEq];simpa using h
 ·rintro rfl;simp
theorem cw.jt (x y:cw):((x.dy==y.dy)&&((x.bS==y.bS)&&((x.ck==y.ck)&&true)))=decide (x=y):=by
 rw[akX];simp only[An,alk,alL,akO];constructor
 ·intro h;cases x;cases y;simp only[cw.mk.injEq];simpa using h
 ·rintro rfl;simp
theorem bV.jt (x y:bV):((x.bY==y.bY)&&((x.fA==y.fA)&&((x.fB==y.fB)&&((x.fS==y.fS)&&((x.fT==y.fT)&&true)))))=decide (x=y):=by
 rw[akX];simp only[An,alk,alL,akO];constructor
 ·intro h;cases x;cases y;simp only[bV.mk.injEq];simpa using h
 ·rintro rfl;simp
theorem TParam.jt (x y:TParam):((x.az==y.az)&&((x.TL==y.TL)&&true))=decide (x=y):=by
 rw[akX];simp only[An,alk,alL,akO];constructor
 ·intro h;cases x;cases y;simp only[TParam.mk.injEq];simpa using h
 ·rintro rfl;simp
theorem aI.jt (x y:aI):((x.az==y.az)&&((x.BI==y.BI)&&true))=decide (x=y):=by
 rw[akX];simp only[An,alk,alL,akO];constructor
 ·intro h;cases x;cases y;simp only[aI.mk.injEq];simpa using h
 ·rintro rfl;simp
theorem aJ.jt (x y:aJ):((x.AM==y.AM)&&((x.dy==y.dy)&&true))=decide (x=y):=by
 rw[akX];simp only[An,alk,alL,akO];constructor
 ·intro h;cases x;cases y;simp only[aJ.mk.injEq];simpa using h
 ·rintro rfl;simp
theorem cP.jt (x y:cP):((x.D6==y.D6)&&((x.ri==y.ri)&&((x.uV==y.uV)&&((x.eV==y.eV)&&((x.bH==y.bH)&&((x.cj==y.cj)&&true))))))=decide (x=y):=by
 rw[akX];simp only[An,alk,alL,akO];constructor
 ·intro h;cases x;cases y;simp only[cP.mk.injEq];simpa using h
 ·rintro rfl;simp
def zD:vE:=Bf [(3,.int .i64),
 (4,.bool),
 (5,.int .u8),
 (9,.str),
 (22,.slice 119 6 120 [.str [],.bn,.bn,.bn,.bool false,.bn]),
 (23,.slice 124 4 80 [.str [],.str [],.bn,.bn]),
 (25,.struct 2 [(0,1,false),(1,1,false)] [.bn,.bn]),
 (26,.slice 67 6 80 [.str [],.int .i64 0,.int .i64 0,.str [],.int .i64 0,.bn]),
 (29,.slice 74 5 64 [.int .i64 0,.int .i64 0,.str [],.int .i64 0,.bn]),
 (30,.slice 81 2 24 [.str [],.int .i64 0]),
 (31,.slice 207 6 80 [.int .i64 0,.bool false,.bn,.bn,.int .i64 0,.int .i64 0]),
 (33,.struct 1 [(0,1,false)] [.bn]),
 (34,.slice 166 3 48 [.str [],.bool false,.bn]),
 (35,.slice 169 5 72 [.int .i64 0,.bn,.int .i64 0,.str [],.str []]),
 (36,.slice 172 19 272 [.int .i64 0,.int .i64 0,.int .i64 0,.str [],.int .i64 0,.bn,.int .i64 0,.int .i64 0,.bn,.bn,.bn,.bn,.bn,.int .i64 0,.str [],.str [],.int .i64 0,.int .i64 0,.int .i64 0]),
 (37,.slice 87 13 200 [.int .i64 0,.int .i64 0,.bn,.bn,.bn,.bn,.bn,.int .i64 0,.str [],.str [],.int .i64 0,.int .i64 0,.int .i64 0]),
 (38,.slice 232 2 32 [.str [],.str []]),
 (39,.slice 235 2 24 [.int .i64 0,.str []]),
 (41,.struct 3 [(0,1,false),(1,1,false),(2,1,false)] [.str [],.bn,.bn]),
 (43,.struct 14 [(0,1,false),(1,1,false),(2,1,false),(3,1,false),(4,1,false),(5,1,false),(6,1,true),(7,1,false),(8,1,false),(9,1,false),(10,1,false),(11,3,true)] [.int .i64 0,.str [],.int .i64 0,.int .i64 0,.bn,.bn,.bn,.bn,.bn,.bn,.bn,.str [],.bn,.bn]),
 (46,.slice 129 6 120 [.str [],.bn,.bn,.bn,.bool false,.bn]),
 (47,.slice 133 4 80 [.str [],.str [],.bn,.bn]),
 (49,.struct 2 [(0,1,false),(1,1,false)] [.bn,.bn]),
 (51,.slice 79 6 80 [.str [],.int .i64 0,.int .i64 0,.str [],.int .i64 0,.bn]),
 (63,.slice 262 8 96 [.bool false,.int .i64 0,.str [],.int .i64 0,.int .i64 0,.str [],.int .i64 0,.bn]),
 (65,.struct 5 [(0,1,false),(1,1,false),(2,1,false),(3,1,false),(4,1,false)] [.int .i64 0,.int .i64 0,.str [],.int .i64 0,.bn]),
 (67,.struct 6 [(0,1,false),(1,5,true)] [.str [],.int .i64 0,.int .i64 0,.str [],.int .i64 0,.bn]),
 (72,.slice 150 8 96 [.bool false,.int .i64 0,.str [],.int .i64 0,.int .i64 0,.str [],.int .i64 0,.bn]),
 (74,.struct 5 [(0,1,false),(1,1,false),(2,1,false),(3,1,false),(4,1,false)] [.int .i64 0,.int .i64 0,.str [],.int .i64 0,.bn]),
 (79,.struct 6 [(0,1,false),(1,5,true)] [.str [],.int .i64 0,.int .i64 0,.str [],.int .i64 0,.bn]),
 (81,.struct 2 [(0,1,false),(1,1,false)] [.str [],.int .i64 0]),
 (82,.slice 3 1 8 [.int .i64 0]),
 (83,.slice 244 9 128 [.int .i64 0,.str [],.bool false,.int .i64 0,.int .i64 0,.str [],.str [],.bn,.bn]),
 (84,.slice 247 6 56 [.bool false,.str [],.int .i64 0,.int .i64 0,.int .i64 0,.int .i64 0]),
 (85,.slice 249 9 96 [.int .i64 0,.int .i64 0,.int .i64 0,.str [],.int .i64 0,.bn,.int .i64 0,.int .i64 0,.int .i64 0]),
 (87,.struct 13 [(0,1,false),(1,1,false),(2,1,false),(3,1,false),(4,1,false),(5,1,false),(6,1,false),(7,1,false),(8,1,false),(9,1,false),(10,1,false),(11,1,false),(12,1,false)] [.int .i64 0,.int .i64 0,.bn,.bn,.bn,.bn,.bn,.int .i64 0,.str [],.str [],.int .i64 0,.int .i64 0,.int .i64 0]),
 (115,.slice 251 2 24 [.str [],.bool false]),
 (116,.slice 9 1 16 [.str []]),
 (117,.slice 253 5 56 [.int .i64 0,.int .i64 0,.int .i64 0,.str [],.str []]),
 (119,.struct 6 [(0,1,false),(1,1,false),(2,1,false),(3,1,false),(4,1,false),(5,1,false)] [.str [],.bn,.bn,.bn,.bool false,.bn]),
 (121,.slice 256 8 104 [.str [],.str [],.bool false,.int .i64 0,.int .i64 0,.str [],.int .i64 0,.bn]),
 (122,.slice 258 5 56 [.str [],.str [],.str [],.bool false,.bool false]),
 (124,.struct 4 [(0,1,false),(1,1,false),(2,1,false),(3,1,false)] [.str [],.str [],.bn,.bn]),
 (126,.slice 216 2 24 [.str [],.bool false]),
 (127,.slice 197 5 56 [.int .i64 0,.int .i64 0,.int .i64 0,.str [],.str []]),
 (129,.struct 6 [(0,1,false),(1,1,false),(2,1,false),(3,1,false),(4,1,false),(5,1,false)] [.str [],.bn,.bn,.bn,.bool false,.bn]),
 (130,.slice 135 8 104 [.str [],.str [],.bool false,.int .i64 0,.int .i64 0,.str [],.int .i64 0,.bn]),
 (131,.slice 141 5 56 [.str [],.str [],.str [],.bool false,.bool false]),
 (133,.struct 4 [(0,1,false),(1,1,false),(2,1,false),(3,1,false)] [.str [],.str [],.bn,.bn]),
 (135,.struct 8 [(0,1,false),(1,1,false),(2,1,false),(3,5,true)] [.str [],.str [],.bool false,.int .i64 0,.int .i64 0,.str [],.int .i64 0,.bn]),
 (141,.struct 5 [(0,1,false),(1,1,false),(2,1,false),(3,1,false),(4,1,false)] [.str [],.str [],.str [],.bool false,.bool false]),
 (142,.slice 203 10 112 [.bool false,.int .i64 0,.str [],.int .i64 0,.int .i64 0,.str [],.int .i64 0,.bn,.bool false,.int .i64 0]),
 (144,.struct 5 [(0,1,false),(1,1,false),(2,1,false),(3,1,false),(4,1,false)] [.bool false,.bn,.bn,.int .i64 0,.int .i64 0]),
 (148,.struct 3 [(0,1,false),(1,1,false),(2,1,false)] [.bool false,.int .i64 0,.str []]),
 (150,.struct 8 [(0,3,true),(3,5,true)] [.bool false,.int .i64 0,.str [],.int .i64 0,.int .i64 0,.str [],.int .i64 0,.bn]),
 (155,.map 9 3 (.int .i64 0)),
 (157,.map 9 4 (.bool false)),
 (166,.struct 3 [(0,1,false),(1,1,false),(2,1,false)] [.str [],.bool false,.bn]),
 (169,.struct 5 [(0,1,false),(1,1,false),(2,1,false),(3,1,false),(4,1,false)] [.int .i64 0,.bn,.int .i64 0,.str [],.str []]),
 (172,.struct 19 [(0,1,false),(1,5,true),(6,13,true)] [.int .i64 0,.int .i64 0,.int .i64 0,.str [],.int .i64 0,.bn,.int .i64 0,.int .i64 0,.bn,.bn,.bn,.bn,.bn,.int .i64 0,.str [],.str [],.int .i64 0,.int .i64 0,.int .i64 0]),
 (183,.slice 5 1 1 [.int .u8 0]),
 (197,.struct 5 [(0,1,false),(1,1,false),(2,1,false),(3,1,false),(4,1,false)] [.int .i64 0,.int .i64 0,.int .i64 0,.str [],.str []]),
 (203,.struct 10 [(0,3,true),(3,5,true),(8,1,false),(9,1,false)] [.bool false,.int .i64 0,.str [],.int .i64 0,.int .i64 0,.str [],.int .i64 0,.bn,.bool false,.int .i64 0]),
 (207,.struct 6 [(0,1,false),(1,5,true)] [.int .i64 0,.bool false,.bn,.bn,.int .i64 0,.int .i64 0]),
 (216,.struct 2 [(0,1,false),(1,1,false)] [.str [],.bool false]),
 (232,.struct 2 [(0,1,false),(1,1,false)] [.str [],.str []]),
 (235,.struct 2 [(0,1,false),(1,1,false)] [.int .i64 0,.str []]),
 (242,.slice 293 6 72 [.int .i64 0,.int .i64 0,.int .i64 0,.str [],.int .i64 0,.bn]),
 (244,.struct 9 [(0,1,false),(1,1,false),(2,1,false),(3,1,false),(4,1,false),(5,1,false),(6,1,false),(7,1,false),(8,1,false)] [.int .i64 0,.str [],.bool false,.int .i64 0,.int .i64 0,.str [],.str [],.bn,.bn]),
 (247,.struct 6 [(0,1,false),(1,1,false),(2,1,false),(3,1,false),(4,1,false),(5,1,false)] [.bool false,.str [],.int .i64 0,.int .i64 0,.int .i64 0,.int .i64 0]),
 (249,.struct 9 [(0,1,false),(1,5,true),(6,1,false),(7,1,false),(8,1,false)] [.int .i64 0,.int .i64 0,.int .i64 0,.str [],.int .i64 0,.bn,.int .i64 0,.int .i64 0,.int .i64 0]),
 (251,.struct 2 [(0,1,false),(1,1,false)] [.str [],.bool false]),
 (253,.struct 5 [(0,1,false),(1,1,false),(2,1,false),(3,1,false),(4,1,false)] [.int .i64 0,.int .i64 0,.int .i64 0,.str [],.str []]),
 (256,.struct 8 [(0,1,false),(1,1,false),(2,1,false),(3,5,true)] [.str [],.str [],.bool false,.int .i64 0,.int .i64 0,.str [],.int .i64 0,.bn]),
 (258,.struct 5 [(0,1,false),(1,1,false),(2,1,false),(3,1,false),(4,1,false)] [.str [],.str [],.str [],.bool false,.bool false]),
 (260,.struct 3 [(0,1,false),(1,1,false),(2,1,false)] [.bool false,.int .i64 0,.str []]),
 (262,.struct 8 [(0,3,true),(3,5,true)] [.bool false,.int .i64 0,.str [],.int .i64 0,.int .i64 0,.str [],.int .i64 0,.bn]),
 (281,.map 148 4 (.bool false)),
 (293,.struct 6 [(0,1,false),(1,5,true)] [.int .i64 0,.int .i64 0,.int .i64 0,.str [],.int .i64 0,.bn])]
theorem Y8:fH Tryz.prog zD:=aeB aom
theorem mixed:Tryz.prog.follows .mixedOrders=true:=by kernel_rfl
theorem cQ {f:FuncId} {fn:Func} {c:Code} {args:List PV} {h:List au} {R:PV->List au->Prop} (hf:Tryz.prog.funcs[f]? =some fn) (hv:vc Tryz.prog zD h.length c (aeC zD fn.results.toList h.length R) (zE args) h) (a:fn.body=some c:=by rfl) (b:(fn.name== "runtime.NumGoroutine")=false:=by kernel_rfl) (hn:Nat.ble args.length fn.ntmps=true:=by rfl) (zF:codeOk fn.ntmps c=true:=by kernel_rfl):ACall Tryz.prog f args h R:=ACall.aeD Y8 mixed hf a b _ _ _ hn zF hv
theorem ACall.ext {P:Program} {f:FuncId} {args:List PV} {r:PV} (zF:aeE P f)
  (H:∀(w:World) (vs:Array Value) (S:Nat->Prop),Va S w->(∀b,S b->b<w.heap.size)->vs.size=args.length->(∀(j:Nat) (pv:PV),args[j]? =some pv->∃v,vs[j]? =some v/\bN S w pv v)->
   Calls P f vs w (λe w'=>∃v,e=.returned v/\(∀μ h S w,da μ h S w r v)/\Below w.heap.size w w'))
  (hp:args.all Cx=true) (h:List au):ACall P f args h (λres h'=>res=r/\h'=h):=by
 refine⟨zF,λw vs μ S g c i k=>(H w vs S c.known c.slt i (λj pv hj=>?_)).mono ?_⟩
 ·obtain⟨v,h1,h2⟩:=k j pv hj;have h3:=akA.1 hp pv (akF hj);cases pv<;>first | exact⟨v,h1,h2⟩ | (simp [Cx]at h3)
 ·rintro e w' ⟨v,rfl,hv,a⟩;have d:dV w w':=⟨a.block,a.size,a.os,a.tape,a.output⟩;exact⟨v,r,h,μ,S,rfl,⟨rfl,rfl⟩,hv _ _ _ _,g.agree d c,c.agree d,Fr.Cy d⟩
theorem aeF {vs:Array Value} {a b:Value} (hs:vs.size=2) (h0:vs[0]? =some a) (h1:vs[1]? =some b):vs=#[a,b]:=by
 obtain⟨l⟩:=vs;rcases l with _ | ⟨x,_ | ⟨y,_ | ⟨z,l⟩⟩⟩<;>simp at hs;simp at h0 h1;subst h0;subst h1;rfl
theorem aeG {vs:Array Value} {a b c:Value} (hs:vs.size=3) (h0:vs[0]? =some a) (h1:vs[1]? =some b) (h2:vs[2]? =some c):vs=#[a,b,c]:=by
 obtain⟨l⟩:=vs;rcases l with _ | ⟨x,_ | ⟨y,_ | ⟨z,_ | ⟨u,l⟩⟩⟩⟩<;>simp at hs;simp at h0 h1 h2;subst h0;subst h1;subst h2;rfl
theorem Qu {P:Program} {w:World} {n:String} {g:Nat} {cs:Array Value} {t:TypeId} {z:Nat×Nat} (hg:P.globalNamed n=some g) (h:w.heap[g]? =some (.cells cs t z)):w.var? P n=some cs:=by
 unfold World.var?;rw[hg];simp [h]
theorem abK:Tryz.prog.globalNamed "internal/strconv.uint64pow10" =some 2:=by kernel_rfl
theorem abL:Tryz.prog.globalNamed "strconv.ErrSyntax" =some 0:=by kernel_rfl
theorem abM:Tryz.prog.globalNamed "strconv.ErrRange" =some 1:=by kernel_rfl
theorem Vl:Lib.pow10Tab=NN:=by decide
theorem Y9 {S:Nat->Prop} {w:World} (h:Va S w):Lib.TabIs Tryz.prog w "internal/strconv.uint64pow10" .u64 Lib.pow10Tab:=by
 obtain⟨_,t,z,hh⟩:=h.1 (2,_) (by simp [Ls];rfl);unfold Lib.TabIs;rw[Qu abK hh,Vl]
theorem Za {S:Nat->Prop} {w:World} (h:Va S w):∃b p,w.var? Tryz.prog "strconv.ErrSyntax" =some #[.iface b p]:=by
 obtain⟨_,b,p,t,z,hh⟩:=h.2.1 0 (by simp [Cz]);exact⟨b,p,Qu abL hh⟩
theorem Zb {S:Nat->Prop} {w:World} (h:Va S w):∃b p,w.var? Tryz.prog "strconv.ErrRange" =some #[.iface b p]:=by
 obtain⟨_,b,p,t,z,hh⟩:=h.2.1 1 (by simp [Cz]);exact⟨b,p,Qu abM hh⟩
theorem Qv (w:World) (k:Nat) (os:Array Obj):Below w.heap.size w (Sort.grow (w.drewN k) os):=by
 refine⟨rfl,rfl,rfl,?_,λi hi=>?_⟩
 ·show w.heap.size<=(w.heap++os).size;simp
 ·show(w.heap++os)[i]? =w.heap[i]?;rw[alo hi]
theorem Lt (s p:List UInt8) (h:List au):ACall Tryz.prog 152 [.str s,.str p] h (λres h'=>res=.bool (Lib.hasPrefix s p)/\h'=h):=by
 refine ACall.ext ⟨_,_,Tryz.func152,rfl,by kernel_rfl⟩ (λw vs S d f b hj=>?_) rfl h;obtain⟨v,hv,hp⟩:=hj 0 _ rfl;cases hp;obtain⟨g,a,c⟩:=hj 1 _ rfl;cases c;obtain rfl:=aeF b hv a;refine(Tryz.strings_HasPrefix ⟨⟨s⟩⟩ ⟨⟨p⟩⟩ w).mono ?_;rintro e w' ⟨rfl,rfl⟩;exact⟨_,rfl,λ_ _ _ _=>.bool _,Below.refl _ _⟩
def pw (s:List UInt8) (lo hi:Int):Option Int:=
 if 20<s.length then none else match Lib.atoiAll s with
  | .ok n=>if Lib.itoa n=s/\lo<=n/\n<=hi then some n else none
  | _=>none
def pwR (o:Option Int):PV:=match o with | some n=>.kc [.int .i64 n,.bool true] | none=>.kc [.int .i64 0,.bool false]
def pwV (o:Option Int):Value:=match o with | some n=>.tuple #[.int .i64 n,.bool true] | none=>.tuple #[.int .i64 0,.bool false]
set_option maxRecDepth 100000 in
theorem CA (s:ByteArray) (lo hi:Int) (w:World) (S:Nat->Prop) (d:Va S w) (l:∀b,S b->b<w.heap.size):
  Calls Tryz.prog 240 #[.string s,.int .i64 lo,.int .i64 hi] w λe w'=>e=.returned (pwV (pw s.data.toList lo hi))/\Below w.heap.size w w':=by
 have hlen:s.data.toList.length=s.size:=rfl;by_cases hl:20<s.size
 ·have c:pw s.data.toList lo hi=none:=by unfold pw;rw[an aol]
  rw[c]
  go_enter Tryz.func240,Tryz.ntmps240
  go_wp2
  go_ret2
  exact⟨rfl,Below.refl _ _⟩
 ·cases h:Lib.atoiAll s.data.toList with
  | range=>
   have c:pw s.data.toList lo hi=none:=by unfold pw;rw[mg aol,h]
   rw[c];obtain⟨f,p,hv⟩:=Zb d
   go_enter Tryz.func240,Tryz.ntmps240
   go_wp2_with (go_at_call 244;refine(Tryz.strconv_Atoi_range_var s aol h f p _ hv).mono ?_;rintro e w1 ⟨N,rfl,-,-,a⟩)
   go_ret2
   exact⟨rfl,a⟩
  | ok n=>
   obtain⟨m,o⟩:=Lib.atoiAll_bounds h
   have key:∀(r:Value) (w1 g:World),((w1=w\/∃t,w1=Lib.bytesWorld w 5 t)->Below w.heap.size w w1):=λr w1 g a=>by
    rcases a with rfl | ⟨t,rfl⟩
    ·exact Below.refl _ _
    ·exact Lib.bytesWorld_below _ _ _
   go_enter Tryz.func240,Tryz.ntmps240
   go_wp2_with (go_at_call 244;refine(Tryz.strconv_Atoi_ok s aol n h _).mono ?_;rintro e w1 ⟨rfl,a⟩)
   go_wp2_with (go_at_call 245;refine(Tryz.strconv_Itoa n m o _ (Y9 (d.pO (λb q=>(key undef _ w a).block b (l b q)) (λ_ a=>a)))).mono ?_;rintro e g ⟨rfl,k,os,rfl⟩)
   all_goals go_ret2
   all_goals refine⟨?_,(key undef _ w a).trans ((Qv _ _ _).mono (key undef _ w a).size)⟩
   all_goals
    have i:s.toList=s.data.toList:=ByteArray.toList_eq s
    have j:pw s.data.toList lo hi=if Lib.itoa n=s.data.toList/\lo<=n/\n<=hi then some n else none:=by
     unfold pw;rw[mg aol,h]
    rw[j,<-i];clear i j h;split
    ·rename_i hc
     first
      | rfl
      | (exfalso;obtain⟨u,v,x⟩:=hc;first | omega | contradiction)
    ·rename_i hc
     first
      | rfl
      | (exfalso;apply hc;refine⟨?_,?_,?_⟩<;>first | assumption | omega)
  | _=>
   have c:pw s.data.toList lo hi=none:=by unfold pw;rw[mg aol,h]
   rw[c];obtain⟨f,p,hv⟩:=Za d
   go_enter Tryz.func240,Tryz.ntmps240
   go_wp2_with (go_at_call 244;refine(Tryz.strconv_Atoi_syntax_var s aol h f p _ hv).mono ?_;rintro e w1 ⟨N,rfl,-,-,a⟩)
   go_ret2
   exact⟨rfl,a⟩
theorem GK (s:List UInt8) (lo hi:Int) (h:List au):ACall Tryz.prog 240 [.str s,.int .i64 lo,.int .i64 hi] h (λres h'=>res=pwR (pw s lo hi)/\h'=h):=by
 refine ACall.ext ⟨_,_,Tryz.func240,rfl,by kernel_rfl⟩ (λw vs S d f g hj=>?_) rfl h;obtain⟨o,i,a⟩:=hj 0 _ rfl;cases a;obtain⟨p,b,c⟩:=hj 1 _ rfl;cases c;obtain⟨q,k,l⟩:=hj 2 _ rfl;cases l;obtain rfl:=aeG g i b k;refine(CA ⟨⟨s⟩⟩ lo hi w S d f).mono ?_;rintro e w' ⟨rfl,m⟩;refine⟨_,rfl,λμ h S w=>?_,m⟩;show da μ h S w (pwR (pw s lo hi)) (pwV (pw s lo hi));cases pw s lo hi with
 | some n=>
  refine⟨_,rfl,rfl,λj pv hj=>?_⟩
  match j with
  | 0=>cases hj;exact⟨_,rfl,.int _ _⟩
  | 1=>cases hj;exact⟨_,rfl,.bool _⟩
  | j+2=>simp at hj
 | none=>
  refine⟨_,rfl,rfl,λj pv hj=>?_⟩
  match j with
  | 0=>cases hj;exact⟨_,rfl,.int _ _⟩
  | 1=>cases hj;exact⟨_,rfl,.bool _⟩
  | j+2=>simp at hj
def m98 (s:bZ) (lo hi:Int):Option (Int×Bool):=match pw s lo hi with | some n=>some (n,true) | none=>some (0,false)
theorem ahr {s:bZ} {lo hi:Int} {r:Int×Bool} (h:m98 s lo hi=some r):ACall Tryz.prog 240 [.str s,.int .i64 lo,.int .i64 hi] [] (λres h=>res=.kc [.int .i64 r.1,.bool r.2]/\h=[]):=by
 refine(GK s lo hi []).mono ?_;rintro _ _ ⟨rfl,rfl⟩;unfold m98 at h;split at h
 ·rename_i n e;rw[e];cases h;exact⟨rfl,rfl⟩
 ·rename_i e;rw[e];cases h;exact⟨rfl,rfl⟩
def m66 (s p:bZ):Option Bool:=some (Lib.hasPrefix s p)
theorem ahs {s p:bZ} {r:Bool} (h:m66 s p=some r):ACall Tryz.prog 152 [.str s,.str p] [] (λres h=>res=.bool r/\h=[]):=by
 cases h;exact Lt s p []
def cV (S:Nat->Prop) (w:World) (a:List PV) (cs:List Value):Prop:=cs.length=a.length/\∀(j:Nat) (pv:PV),a[j]? =some pv->∃u,cs[j]? =some u/\bN S w pv u
theorem Lu {α:Type} {l:List α} (h:l.length=2):∃a c,l=[a,c]:=by
 rcases l with _ | ⟨a,_ | ⟨c,_ | ⟨b,l⟩⟩⟩<;>simp at h;exact⟨a,c,rfl⟩
theorem aeH {α:Type} {l:List α} (h:l.length=3):∃a c d,l=[a,c,d]:=by
 rcases l with _ | ⟨a,_ | ⟨c,_ | ⟨d,_ | ⟨b,l⟩⟩⟩⟩<;>simp at h;exact⟨a,c,d,rfl⟩
theorem abN {α:Type} {l:List α} (h:l.length=4):∃a c d e,l=[a,c,d,e]:=by
 rcases l with _ | ⟨a,_ | ⟨c,_ | ⟨d,_ | ⟨e,_ | ⟨b,l⟩⟩⟩⟩⟩<;>simp at h;exact⟨a,c,d,e,rfl⟩
theorem TN {α:Type} {l:List α} (h:l.length=5):∃a c d e f,l=[a,c,d,e,f]:=by
 rcases l with _ | ⟨a,_ | ⟨c,_ | ⟨d,_ | ⟨e,_ | ⟨f,_ | ⟨b,l⟩⟩⟩⟩⟩⟩<;>simp at h;exact⟨a,c,d,e,f,rfl⟩
theorem abO {α:Type} {l:List α} (h:l.length=6):∃a c d e f g,l=[a,c,d,e,f,g]:=by
 rcases l with _ | ⟨a,_ | ⟨c,_ | ⟨d,_ | ⟨e,_ | ⟨f,_ | ⟨g,_ | ⟨b,l⟩⟩⟩⟩⟩⟩⟩<;>simp at h;exact⟨a,c,d,e,f,g,rfl⟩
theorem len8 {α:Type} {l:List α} (h:l.length=8):∃a c d e f g i j,l=[a,c,d,e,f,g,i,j]:=by
 rcases l with _ | ⟨a,_ | ⟨c,_ | ⟨d,_ | ⟨e,_ | ⟨f,_ | ⟨g,_ | ⟨i,_ | ⟨j,_ | ⟨b,l⟩⟩⟩⟩⟩⟩⟩⟩⟩<;>simp at h;exact⟨a,c,d,e,f,g,i,j,rfl⟩
section
variable {P:Program}{H:Type}{enc:TypeId×Value->H}{w:World}{spare:Nat->Bool}{held:Bool}{S:Nat->Prop}
theorem Zd {α:Type} (cells:α->List PV) (uD:α->Prop) (m:α) {z o:TypeId} {sz:Nat} (hu:P.underlying z=some (.slice o)) (hc:P.cellsOf o=sz) (C:0<sz) (hlen:∀a,(cells a).length=sz)
  (D:∀b,b<w.heap.size->S b) {fuel:Nat} (p:∀n,n<fuel->∀(cs:List Value) (x:DataW H×List MemPlace),DataW.trod enc P w 0 spare held n o cs=some x->∃a,uD a/\cV S w (cells a) cs)
  {e:Value} {x:DataW H×List MemPlace} (h:DataW.trod enc P w 0 spare held fuel z [e]=some x):
  ∃(n:Nat) (f:Nat->α),n<=9223372036854775807/\(∀i,i<n->uD (f i))/\bN S w (.jk sz n (λi=>cells (f i))) e:=by
 rcases DataW.trod_slice hu h with⟨d,_⟩ | ⟨A,len,cap,elems,rest,E,F,d,_,O,G,I,J,gg,_⟩
 ·simp at d;subst d;exact⟨0,λ_=>m,by omega,λi hi=>absurd hi (akG _),.uW _ _ _ _⟩
 ·simp at d;subst d;rw[hc]at gg
  have each:∀i,∃a:α,i<len->uD a/\∃g,w.cells? 0 (A.add (i*sz)) sz=some g/\cV S w (cells a) g:=λi=>by
   by_cases hi:i<len
   ·have hg:=gg i hi;rw[Is aol]at hg;obtain⟨g,q1,q2⟩:=Option.bind_eq_some_iff.1 hg;obtain⟨a,K,g2⟩:=p E aol _ _ q2;exact⟨a,λ_=>⟨K,g,q1,g2⟩⟩
   ·exact⟨m,λh=>absurd h hi⟩
  obtain⟨kv,B⟩:=Classical.axiomOfChoice each;rcases alp len with q | c
  ·subst q;exact⟨0,λ_=>m,by omega,λi hi=>absurd hi (akG _),.uW _ _ _ _⟩
  ·refine⟨len,kv,by simp [maxLen]at I;omega,λi hi=>(B i hi).1,?_⟩;obtain⟨l,off,spot⟩:=A
   have r:∀i,i<len->∀j pv,(cells (kv i))[j]? =some pv->∃u,w.cell? ((Addr.add ⟨l,off,spot⟩ (i*sz)).add j)=some u/\bN S w pv u:=λi hi j pv hj=>by
    obtain⟨_,g,q1,q2,q3⟩:=B i hi;obtain⟨u,hu,s⟩:=q3 j pv hj;obtain⟨_,_,L⟩:=World.cells?_some q1;have t:j<sz:=by have:=(As.1 hj).1;rw[hlen]at this;exact this
    exact⟨u,by rw[L j t,hu],s⟩
   have h0:∃pv,(cells (kv 0))[0]? =some pv:=⟨_,Is (by rw[hlen];exact C)⟩;obtain⟨M,v⟩:=h0;obtain⟨Q,k,_⟩:=r 0 c 0 _ v
   have y:spot=none:=by
    have:=World.cell?_spot k;simpa[Addr.add]using this
   subst y
   have N:l<w.heap.size:=by
    have:=World.block_lt_of_cell? _ _ k;simpa[Addr.add_lit]using this
   refine .jk sz len _ l off cap (λi j=>(w.cell? ⟨l,off+i*sz+j,none⟩).getD undef) (D _ N) (λi hi=>hlen _) G (λi j pv hi hj=>?_) (λi j pv hi hj=>?_)
   ·obtain⟨u,hu,_⟩:=r i hi j pv hj;rw[Addr.add_lit,Addr.add_lit]at hu;rw[hu];rfl
   ·obtain⟨u,hu,s⟩:=r i hi j pv hj;rw[Addr.add_lit,Addr.add_lit]at hu;rw[hu];exact s
end
theorem Zf {P:Program} {H:Type} {enc:TypeId×Value->H} {w:World} {spare:Nat->Bool} {held:Bool} {S:Nat->Prop} {t:TypeId} (hu:P.underlying t=some (.string)) (fuel:Nat) (cs:List Value) (x:DataW H×List MemPlace)
  (h:DataW.trod enc P w 0 spare held fuel t cs=some x):∃l:List UInt8,l.length<=9223372036854775807/\cV S w [.str l] cs:=by
 obtain⟨a,e2,_,hs⟩:=DataW.trod_string hu h;subst e2;obtain⟨⟨l⟩⟩:=a;refine⟨l,by have h':l.length<=maxLen:=hs;simpa[maxLen]using h',rfl,λj pv hj=>?_⟩
 match j with
 | 0=>simp at hj;subst hj;exact⟨_,rfl,.str _⟩
 | j+1=>simp at hj
theorem ahu {H:Type} {enc:TypeId×Value->H} {w:World} {spare:Nat->Bool} {held:Bool} {α:Type} (cells:α->List PV) (uD:α->Prop) {P:Program} {t:TypeId}
  (c:∀(fuel:Nat) (cs:List Value) (x:DataW H×List MemPlace),DataW.trod enc P w 0 spare held fuel t cs=some x->∃a,uD a/\cV (λb=>b<w.heap.size) w (cells a) cs)
  {cs:Array Value} {d:DataW H} {p:List MemPlace} (h:DataW.Trod enc P w 0 spare held t (.agg cs) d p):∃a,uD a/\mh (λ_=>none) [] (λb=>b<w.heap.size) w (.agg (cells a)) (.agg cs):=by
 obtain⟨fuel,hf⟩:=h;obtain⟨a,e,hl,hc⟩:=c fuel _ _ hf;refine⟨a,e,cs,rfl,by have h':cs.toList.length=_:=hl;simpa using h',λj pv hj=>?_⟩;obtain⟨u,hu,f⟩:=hc j pv hj;exact⟨u,by have h':cs.toList[j]? =some u:=hu;simpa using h',dA.pP f⟩
theorem Qw {S:Nat->Prop} {w:World} {sz n:Nat} {f g:Nat->List PV} {v:Value} (h:bN S w (.jk sz n f) v) (e:∀i,i<n->f i=g i):bN S w (.jk sz n g) v:=by
 cases h with
 | uW=>exact .uW _ _ _ _
 | jk _ _ _ b off c a d hlen hc k l=>
  exact .jk sz n g b off c a d (λi hi=>by rw[<-e i hi];exact hlen i hi) hc (λi j pv hi hj=>k i j pv hi (by rw[e i hi];exact hj)) (λi j pv hi hj=>l i j pv hi (by rw[e i hi];exact hj))
theorem Bg {P:Program} {H:Type} {enc:TypeId×Value->H} {w:World} {spare:Nat->Bool} {held:Bool} {S:Nat->Prop} {α:Type} (cells:α->List PV) (uD:α->Prop) (j:α) {g c:TypeId} {sz:Nat} (hu:P.underlying g=some (.slice c)) (hc:P.cellsOf c=sz) (k:0<sz) (hlen:∀a,(cells a).length=sz)
  (m:∀b,b<w.heap.size->S b) {fuel:Nat} (d:∀n,n<fuel->∀(cs:List Value) (x:DataW H×List MemPlace),DataW.trod enc P w 0 spare held n c cs=some x->∃a,uD a/\cV S w (cells a) cs)
  {e:Value} {x:DataW H×List MemPlace} (h:DataW.trod enc P w 0 spare held fuel g [e]=some x):
  ∃l:List α,l.length<=9223372036854775807/\(∀a∈l,uD a)/\bN S w (sl sz cells l) e:=by
 obtain⟨n,f,h1,h2,h3⟩:=Zd cells uD j hu hc k hlen m d h;have hl:((List.range n).map f).length=n:=by simp
 have hi:∀i,i<n->((List.range n).map f)[i]? =some (f i):=λi hi=>by simp [hi]
 refine⟨(List.range n).map f,by rw[hl];exact h1,λa o=>?_,?_⟩
 ·obtain⟨i,hi,rfl⟩:=akZ.1 o;exact h2 i (amk.1 hi)
 ·show bN S w (.jk sz ((List.range n).map f).length (row cells _)) e;rw[hl];exact Qw h3 (λi p=>(nr (hi i p)).symm)
theorem Vn {P:Program} {f:FuncId} {args:List PV} {vs:Array Value} {w:World} (d:Va (λb=>b<w.heap.size) w) (k:ACall P f args [] (λres _=>res=.bool true)) (l:vs.size=args.length)
  (m:∀(j:Nat) (pv:PV),args[j]? =some pv->∃v,vs[j]? =some v/\mh (λ_=>none) [] (λb=>b<w.heap.size) w pv v):
  Calls P f vs w λe w'=>e=.returned (.bool true)/\Below w.heap.size w w':=by
 refine(k.2 w vs (λ_=>none) (λb=>b<w.heap.size) (λid g sz n e f hid=>by simp at hid) ⟨λb a=>absurd a pQ,λb a=>absurd a pQ,λb a=>a,λi j g sz n e f p q r s t b o u hi=>by simp at hi,d,λb _ x y z h=>CC h,λb _ _ _ _ _ _ h=>absurd h CC⟩ l m).mono ?_;rintro e w' ⟨v,res,h',μ',S',rfl,rfl,hv,A,B,c⟩;exact⟨by rw[hv.rX],c.os,c.tape,c.output,c.size,λb a=>c.blocks b a pQ⟩
section
variable {H:Type}{enc:TypeId×Value->H}{w:World}{spare:Nat->Bool}{held:Bool}{S:Nat->Prop}
theorem ct3:Tryz.prog.cellsOf 3=1:=by kernel_rfl
theorem ct4:Tryz.prog.cellsOf 4=1:=by kernel_rfl
theorem YL:Tryz.prog.cellsOf 9=1:=by kernel_rfl
theorem ahx:Tryz.prog.cellsOf 22=1:=by kernel_rfl
theorem ahy:Tryz.prog.cellsOf 23=1:=by kernel_rfl
theorem ahz:Tryz.prog.cellsOf 25=2:=by kernel_rfl
theorem ahA:Tryz.prog.cellsOf 63=1:=by kernel_rfl
theorem Zg:Tryz.prog.cellsOf 65=5:=by kernel_rfl
theorem aeJ:Tryz.prog.cellsOf 67=6:=by kernel_rfl
theorem aeK:Tryz.prog.cellsOf 115=1:=by kernel_rfl
theorem aeL:Tryz.prog.cellsOf 116=1:=by kernel_rfl
theorem aeM:Tryz.prog.cellsOf 117=1:=by kernel_rfl
theorem aaS:Tryz.prog.cellsOf 119=6:=by kernel_rfl
theorem aeN:Tryz.prog.cellsOf 121=1:=by kernel_rfl
theorem aeO:Tryz.prog.cellsOf 122=1:=by kernel_rfl
theorem aaT:Tryz.prog.cellsOf 124=4:=by kernel_rfl
theorem Vo:Tryz.prog.cellsOf 251=2:=by kernel_rfl
theorem aaU:Tryz.prog.cellsOf 253=5:=by kernel_rfl
theorem aaV:Tryz.prog.cellsOf 256=8:=by kernel_rfl
theorem aaW:Tryz.prog.cellsOf 258=5:=by kernel_rfl
theorem aaX:Tryz.prog.cellsOf 260=3:=by kernel_rfl
theorem aaY:Tryz.prog.cellsOf 262=8:=by kernel_rfl
structure TParam.Ok (a:TParam):Prop where
 h0:a.az.length<=9223372036854775807
theorem TParam.rY {w:World} {S:Nat->Prop} {cs:List Value} (h:∃a:TParam,a.Ok/\cV S w a.lit cs):∃a:TParam,a.Ok/\cV S w a.cells cs:=by
 obtain⟨a,h1,h2⟩:=h;exact⟨a,h1,by rw[TParam.ak];exact h2⟩
theorem GL (l:∀b,b<w.heap.size->S b) (fuel:Nat) (cs:List Value) (x:DataW H×List MemPlace) (h:DataW.trod enc Tryz.prog w 0 spare held fuel 251 cs=some x):∃a:TParam,a.Ok/\cV S w a.lit cs:=by
 obtain⟨xs,n,hn,_,hl,hlen,hf⟩:=DataW.trod_struct Tryz.underlying251 h;have h0:=hf 0 _ rfl;have h1:=hf 1 _ rfl;rw[Vo]at hl;obtain⟨z0,e,rfl⟩:=Lu hl;obtain⟨m,o,rfl⟩:=Lu (show xs.length=2 from hlen);simp [ct4,YL]at h0 h1;obtain⟨f,g,_,c⟩:=DataW.trod_string Tryz.underlying9 h0;obtain rfl:z0=_:=by simpa using g
 obtain⟨⟨d⟩⟩:=f;replace c:d.length<=9223372036854775807:=by have h':d.length<=maxLen:=c;simpa[maxLen]using h'
 obtain⟨i,k,_⟩:=DataW.trod_bool Tryz.underlying4 h1;obtain rfl:e=_:=by simpa using k
 refine⟨.mk d i,⟨c⟩,rfl,λj pv hj=>?_⟩
 match j with
 | 0=>cases hj;exact⟨_,rfl,.str _⟩
 | 1=>cases hj;exact⟨_,rfl,.bool _⟩
 | j+2=>simp [TParam.lit,sl]at hj
structure bV.Ok (a:bV):Prop where
 h0:a.fS.length<=9223372036854775807
 h1:a.fT.length<=9223372036854775807
theorem bV.rY {w:World} {S:Nat->Prop} {cs:List Value} (h:∃a:bV,a.Ok/\cV S w a.lit cs):∃a:bV,a.Ok/\cV S w a.cells cs:=by
 obtain⟨a,h1,h2⟩:=h;exact⟨a,h1,by rw[bV.ak];exact h2⟩
theorem Vp (u:∀b,b<w.heap.size->S b) (fuel:Nat) (cs:List Value) (x:DataW H×List MemPlace) (h:DataW.trod enc Tryz.prog w 0 spare held fuel 253 cs=some x):∃a:bV,a.Ok/\cV S w a.lit cs:=by
 obtain⟨xs,n,hn,_,hl,hlen,hf⟩:=DataW.trod_struct Tryz.underlying253 h;have h0:=hf 0 _ rfl;have h1:=hf 1 _ rfl;have h2:=hf 2 _ rfl;have h3:=hf 3 _ rfl;have h4:=hf 4 _ rfl;rw[aaU]at hl;obtain⟨z0,e,f,g,i,rfl⟩:=TN hl;obtain⟨v,y,z,A,B,rfl⟩:=TN (show xs.length=5 from hlen);simp [ct3,YL]at h0 h1 h2 h3 h4;obtain⟨k,l,_⟩:=DataW.trod_int Tryz.underlying3 h0;obtain rfl:z0=_:=by simpa using l
 obtain⟨m,o,_⟩:=DataW.trod_int Tryz.underlying3 h1;obtain rfl:e=_:=by simpa using o
 obtain⟨p,e2,_⟩:=DataW.trod_int Tryz.underlying3 h2;obtain rfl:f=_:=by simpa using e2
 obtain⟨q,r,_,q3⟩:=DataW.trod_string Tryz.underlying9 h3;obtain rfl:g=_:=by simpa using r
 obtain⟨⟨c⟩⟩:=q;replace q3:c.length<=9223372036854775807:=by have h':c.length<=maxLen:=q3;simpa[maxLen]using h'
 obtain⟨s,t,_,q4⟩:=DataW.trod_string Tryz.underlying9 h4;obtain rfl:i=_:=by simpa using t
 obtain⟨⟨d⟩⟩:=s;replace q4:d.length<=9223372036854775807:=by have h':d.length<=maxLen:=q4;simpa[maxLen]using h'
 refine⟨.mk k m p c d,⟨q3,q4⟩,rfl,λj pv hj=>?_⟩
 match j with
 | 0=>cases hj;exact⟨_,rfl,.int _ _⟩
 | 1=>cases hj;exact⟨_,rfl,.int _ _⟩
 | 2=>cases hj;exact⟨_,rfl,.int _ _⟩
 | 3=>cases hj;exact⟨_,rfl,.str _⟩
 | 4=>cases hj;exact⟨_,rfl,.str _⟩
 | j+5=>simp [bV.lit,sl]at hj
structure aW.Ok (a:aW):Prop where
 h0:a.az.length<=9223372036854775807
 h1:a.bf.length<=9223372036854775807
 h2:∀x∈a.bf,TParam.Ok x
 h3:a.cx.length<=9223372036854775807
 h4:∀x∈a.cx,TParam.Ok x
 h5:a.ah.length<=9223372036854775807
 h6:∀x∈a.ah,x.length<=9223372036854775807
 h7:a.aR.length<=9223372036854775807
 h8:∀x∈a.aR,bV.Ok x
theorem aW.rY {w:World} {S:Nat->Prop} {cs:List Value} (h:∃a:aW,a.Ok/\cV S w a.lit cs):∃a:aW,a.Ok/\cV S w a.cells cs:=by
 obtain⟨a,h1,h2⟩:=h;exact⟨a,h1,by rw[aW.ak];exact h2⟩
theorem TO (c:∀b,b<w.heap.size->S b) (fuel:Nat) (cs:List Value) (x:DataW H×List MemPlace) (h:DataW.trod enc Tryz.prog w 0 spare held fuel 119 cs=some x):∃a:aW,a.Ok/\cV S w a.lit cs:=by
 obtain⟨xs,n,hn,_,hl,hlen,hf⟩:=DataW.trod_struct Tryz.underlying119 h;have h0:=hf 0 _ rfl;have h1:=hf 1 _ rfl;have h2:=hf 2 _ rfl;have h3:=hf 3 _ rfl;have h4:=hf 4 _ rfl;have h5:=hf 5 _ rfl;rw[aaS]at hl;obtain⟨z0,A,B,C,f,D,rfl⟩:=abO hl;obtain⟨E,F,G,I,J,K,rfl⟩:=abO (show xs.length=6 from hlen);simp [ct4,YL,aeK,aeL,aeM]at h0 h1 h2 h3 h4 h5;obtain⟨g,i,_,d⟩:=DataW.trod_string Tryz.underlying9 h0;obtain rfl:z0=_:=by simpa using i
 obtain⟨⟨e⟩⟩:=g;replace d:e.length<=9223372036854775807:=by have h':e.length<=maxLen:=d;simpa[maxLen]using h'
 obtain⟨k,q1,o,p1⟩:=Bg TParam.cells TParam.Ok default Tryz.underlying115 Vo aop (λa=>by rw[TParam.ak];rfl) c (λm hm cs x h=>TParam.rY (GL c m cs x h)) h1;obtain⟨p,q2,g2,p2⟩:=Bg TParam.cells TParam.Ok default Tryz.underlying115 Vo aop (λa=>by rw[TParam.ak];rfl) c (λm hm cs x h=>TParam.rY (GL c m cs x h)) h2;obtain⟨q,q3,r,p3⟩:=Bg cS (λl=>l.length<=9223372036854775807) [] Tryz.underlying116 YL aop (λ_=>rfl) c (λm _ cs x h=>Zf Tryz.underlying9 m cs x h) h3;obtain⟨s,t,_⟩:=DataW.trod_bool Tryz.underlying4 h4;obtain rfl:f=_:=by simpa using t
 obtain⟨u,v,y,z⟩:=Bg bV.cells bV.Ok default Tryz.underlying117 aaU aop (λa=>by rw[bV.ak];rfl) c (λm hm cs x h=>bV.rY (Vp c m cs x h)) h5;refine⟨.mk e k p q s u,⟨d,q1,o,q2,g2,q3,r,v,y⟩,rfl,λj pv hj=>?_⟩
 match j with
 | 0=>cases hj;exact⟨_,rfl,.str _⟩
 | 1=>cases hj;exact⟨_,rfl,p1⟩
 | 2=>cases hj;exact⟨_,rfl,p2⟩
 | 3=>cases hj;exact⟨_,rfl,p3⟩
 | 4=>cases hj;exact⟨_,rfl,.bool _⟩
 | 5=>cases hj;exact⟨_,rfl,z⟩
 | j+6=>simp [aW.lit,sl]at hj
structure cw.Ok (a:cw):Prop where
 h0:a.ck.length<=9223372036854775807
theorem cw.rY {w:World} {S:Nat->Prop} {cs:List Value} (h:∃a:cw,a.Ok/\cV S w a.lit cs):∃a:cw,a.Ok/\cV S w a.cells cs:=by
 obtain⟨a,h1,h2⟩:=h;exact⟨a,h1,by rw[cw.ak];exact h2⟩
theorem Vq (m:∀b,b<w.heap.size->S b) (fuel:Nat) (cs:List Value) (x:DataW H×List MemPlace) (h:DataW.trod enc Tryz.prog w 0 spare held fuel 260 cs=some x):∃a:cw,a.Ok/\cV S w a.lit cs:=by
 obtain⟨xs,n,hn,_,hl,hlen,hf⟩:=DataW.trod_struct Tryz.underlying260 h;have h0:=hf 0 _ rfl;have h1:=hf 1 _ rfl;have h2:=hf 2 _ rfl;rw[aaX]at hl;obtain⟨z0,d,e,rfl⟩:=aeH hl;obtain⟨o,p,q,rfl⟩:=aeH (show xs.length=3 from hlen);simp [ct3,ct4,YL]at h0 h1 h2;obtain⟨f,g,_⟩:=DataW.trod_bool Tryz.underlying4 h0;obtain rfl:z0=_:=by simpa using g
 obtain⟨i,k,_⟩:=DataW.trod_int Tryz.underlying3 h1;obtain rfl:d=_:=by simpa using k
 obtain⟨l,e2,_,q2⟩:=DataW.trod_string Tryz.underlying9 h2;obtain rfl:e=_:=by simpa using e2
 obtain⟨⟨c⟩⟩:=l;replace q2:c.length<=9223372036854775807:=by have h':c.length<=maxLen:=q2;simpa[maxLen]using h'
 refine⟨.mk f i c,⟨q2⟩,rfl,λj pv hj=>?_⟩
 match j with
 | 0=>cases hj;exact⟨_,rfl,.bool _⟩
 | 1=>cases hj;exact⟨_,rfl,.int _ _⟩
 | 2=>cases hj;exact⟨_,rfl,.str _⟩
 | j+3=>simp [cw.lit,sl]at hj
mutual
inductive aj.Ok:aj->Prop where
 | mk (a0:cw) (a1:ae) (h0:cw.Ok a0) (h1:ae.Ok a1):aj.Ok (.mk a0 a1)
inductive ae.Ok:ae->Prop where
 | mk (a0:Int) (a1:Int) (a2:bZ) (a3:Int) (a4:List aj) (h0:a2.length<=9223372036854775807) (h1:a4.length<=9223372036854775807) (h2:∀x∈a4,aj.Ok x):ae.Ok (.mk a0 a1 a2 a3 a4)
end
theorem aj.Ok.inv {a:aj} (h:a.Ok):(cw.Ok a.bA)/\(ae.Ok a.aA):=by
 cases h;exact⟨by assumption,by assumption⟩
theorem ae.Ok.inv {a:ae} (h:a.Ok):(a.ck.length<=9223372036854775807)/\(a.al.length<=9223372036854775807)/\(∀x∈a.al,aj.Ok x):=by
 cases h;exact⟨by assumption,by assumption,by assumption⟩
theorem aj.rY {w:World} {S:Nat->Prop} {cs:List Value} (h:∃a:aj,a.Ok/\cV S w a.lit cs):∃a:aj,a.Ok/\cV S w a.cells cs:=by
 obtain⟨a,h1,h2⟩:=h;exact⟨a,h1,by rw[aj.ak];exact h2⟩
theorem ae.rY {w:World} {S:Nat->Prop} {cs:List Value} (h:∃a:ae,a.Ok/\cV S w a.lit cs):∃a:ae,a.Ok/\cV S w a.cells cs:=by
 obtain⟨a,h1,h2⟩:=h;exact⟨a,h1,by rw[ae.ak];exact h2⟩
theorem NP (f:∀b,b<w.heap.size->S b):∀fuel:Nat,(∀(cs:List Value) (x:DataW H×List MemPlace),DataW.trod enc Tryz.prog w 0 spare held fuel 262 cs=some x->∃a:aj,a.Ok/\cV S w a.lit cs)/\(∀(cs:List Value) (x:DataW H×List MemPlace),DataW.trod enc Tryz.prog w 0 spare held fuel 65 cs=some x->∃a:ae,a.Ok/\cV S w a.lit cs):=by
 intro fuel;induction fuel using Nat.strongRecOn with
 | _ fuel g=>
  refine⟨?_,?_⟩
  ·intro cs x h;obtain⟨xs,n,hn,_,hl,hlen,hf⟩:=DataW.trod_struct Tryz.underlying262 h;have h0:=hf 0 _ rfl;have h1:=hf 1 _ rfl;rw[aaY]at hl;obtain⟨z0,i,k,l,o,C,D,E,rfl⟩:=len8 hl;obtain⟨p,q,rfl⟩:=Lu (show xs.length=2 from hlen);simp [Zg,aaX]at h0 h1;obtain⟨c,r,p0⟩:=Vq f n _ _ h0;obtain⟨d,q1,p1⟩:=(g n aol).2 _ _ h1;refine⟨.mk c d,.mk _ _ r q1,rfl,λj pv hj=>?_⟩
   match j with
   | 0=>exact p0.2 0 pv hj
   | 1=>exact p0.2 1 pv hj
   | 2=>exact p0.2 2 pv hj
   | 3=>exact p1.2 0 pv hj
   | 4=>exact p1.2 1 pv hj
   | 5=>exact p1.2 2 pv hj
   | 6=>exact p1.2 3 pv hj
   | 7=>exact p1.2 4 pv hj
   | j+8=>simp [aj.lit,sl]at hj
  ·intro cs x h;obtain⟨xs,n,hn,_,hl,hlen,hf⟩:=DataW.trod_struct Tryz.underlying65 h;have h0:=hf 0 _ rfl;have h1:=hf 1 _ rfl;have h2:=hf 2 _ rfl;have h3:=hf 3 _ rfl;have h4:=hf 4 _ rfl;rw[Zg]at hl;obtain⟨z0,i,k,l,o,rfl⟩:=TN hl;obtain⟨p,q,F,G,I,rfl⟩:=TN (show xs.length=5 from hlen);simp [ct3,YL,ahA]at h0 h1 h2 h3 h4;obtain⟨c,s,_⟩:=DataW.trod_int Tryz.underlying3 h0;obtain rfl:z0=_:=by simpa using s
   obtain⟨d,t,_⟩:=DataW.trod_int Tryz.underlying3 h1;obtain rfl:i=_:=by simpa using t
   obtain⟨u,e2,_,q2⟩:=DataW.trod_string Tryz.underlying9 h2;obtain rfl:k=_:=by simpa using e2
   obtain⟨⟨e⟩⟩:=u;replace q2:e.length<=9223372036854775807:=by have h':e.length<=maxLen:=q2;simpa[maxLen]using h'
   obtain⟨v,y,_⟩:=DataW.trod_int Tryz.underlying3 h3;obtain rfl:l=_:=by simpa using y
   obtain⟨z,q4,A,B⟩:=Bg aj.cells aj.Ok default Tryz.underlying63 aaY aop (λa=>by rw[aj.ak];rfl) f (λm hm cs x h=>aj.rY ((g m aol).1 cs x h)) h4;refine⟨.mk c d e v z,.mk _ _ _ _ _ q2 q4 A,rfl,λj pv hj=>?_⟩
   match j with
   | 0=>cases hj;exact⟨_,rfl,.int _ _⟩
   | 1=>cases hj;exact⟨_,rfl,.int _ _⟩
   | 2=>cases hj;exact⟨_,rfl,.str _⟩
   | 3=>cases hj;exact⟨_,rfl,.int _ _⟩
   | 4=>cases hj;exact⟨_,rfl,B⟩
   | j+5=>simp [ae.lit,sl]at hj
theorem GM (c:∀b,b<w.heap.size->S b) (fuel:Nat) (cs:List Value) (x:DataW H×List MemPlace) (h:DataW.trod enc Tryz.prog w 0 spare held fuel 65 cs=some x):∃a:ae,a.Ok/\cV S w a.lit cs:=(NP c fuel).2 cs x h
structure aU.Ok (a:aU):Prop where
 h0:a.az.length<=9223372036854775807
 h1:a.fq.length<=9223372036854775807
 h2:ae.Ok a.bR
theorem aU.rY {w:World} {S:Nat->Prop} {cs:List Value} (h:∃a:aU,a.Ok/\cV S w a.lit cs):∃a:aU,a.Ok/\cV S w a.cells cs:=by
 obtain⟨a,h1,h2⟩:=h;exact⟨a,h1,by rw[aU.ak];exact h2⟩
theorem Qx (f:∀b,b<w.heap.size->S b) (fuel:Nat) (cs:List Value) (x:DataW H×List MemPlace) (h:DataW.trod enc Tryz.prog w 0 spare held fuel 256 cs=some x):∃a:aU,a.Ok/\cV S w a.lit cs:=by
 obtain⟨xs,n,hn,_,hl,hlen,hf⟩:=DataW.trod_struct Tryz.underlying256 h;have h0:=hf 0 _ rfl;have h1:=hf 1 _ rfl;have h2:=hf 2 _ rfl;have h3:=hf 3 _ rfl;rw[aaV]at hl;obtain⟨z0,g,i,r,s,t,u,v,rfl⟩:=len8 hl;obtain⟨y,z,A,B,rfl⟩:=abN (show xs.length=4 from hlen);simp [ct4,YL,Zg]at h0 h1 h2 h3;obtain⟨k,l,_,c⟩:=DataW.trod_string Tryz.underlying9 h0;obtain rfl:z0=_:=by simpa using l
 obtain⟨⟨d⟩⟩:=k;replace c:d.length<=9223372036854775807:=by have h':d.length<=maxLen:=c;simpa[maxLen]using h'
 obtain⟨m,o,_,q1⟩:=DataW.trod_string Tryz.underlying9 h1;obtain rfl:g=_:=by simpa using o
 obtain⟨⟨e⟩⟩:=m;replace q1:e.length<=9223372036854775807:=by have h':e.length<=maxLen:=q1;simpa[maxLen]using h'
 obtain⟨p,e2,_⟩:=DataW.trod_bool Tryz.underlying4 h2;obtain rfl:i=_:=by simpa using e2
 obtain⟨q,q3,p3⟩:=GM f n _ _ h3;refine⟨.mk d e p q,⟨c,q1,q3⟩,rfl,λj pv hj=>?_⟩
 match j with
 | 0=>cases hj;exact⟨_,rfl,.str _⟩
 | 1=>cases hj;exact⟨_,rfl,.str _⟩
 | 2=>cases hj;exact⟨_,rfl,.bool _⟩
 | 3=>exact p3.2 0 pv hj
 | 4=>exact p3.2 1 pv hj
 | 5=>exact p3.2 2 pv hj
 | 6=>exact p3.2 3 pv hj
 | 7=>exact p3.2 4 pv hj
 | j+8=>simp [aU.lit,sl]at hj
structure aQ.Ok (a:aQ):Prop where
 h0:a.az.length<=9223372036854775807
 h1:a.fq.length<=9223372036854775807
 h2:a.tq.length<=9223372036854775807
theorem aQ.rY {w:World} {S:Nat->Prop} {cs:List Value} (h:∃a:aQ,a.Ok/\cV S w a.lit cs):∃a:aQ,a.Ok/\cV S w a.cells cs:=by
 obtain⟨a,h1,h2⟩:=h;exact⟨a,h1,by rw[aQ.ak];exact h2⟩
theorem NQ (y:∀b,b<w.heap.size->S b) (fuel:Nat) (cs:List Value) (x:DataW H×List MemPlace) (h:DataW.trod enc Tryz.prog w 0 spare held fuel 258 cs=some x):∃a:aQ,a.Ok/\cV S w a.lit cs:=by
 obtain⟨xs,n,hn,_,hl,hlen,hf⟩:=DataW.trod_struct Tryz.underlying258 h;have h0:=hf 0 _ rfl;have h1:=hf 1 _ rfl;have h2:=hf 2 _ rfl;have h3:=hf 3 _ rfl;have h4:=hf 4 _ rfl;rw[aaW]at hl;obtain⟨z0,g,i,k,l,rfl⟩:=TN hl;obtain⟨z,A,B,C,D,rfl⟩:=TN (show xs.length=5 from hlen);simp [ct4,YL]at h0 h1 h2 h3 h4;obtain⟨m,o,_,c⟩:=DataW.trod_string Tryz.underlying9 h0;obtain rfl:z0=_:=by simpa using o
 obtain⟨⟨d⟩⟩:=m;replace c:d.length<=9223372036854775807:=by have h':d.length<=maxLen:=c;simpa[maxLen]using h'
 obtain⟨p,q,_,q1⟩:=DataW.trod_string Tryz.underlying9 h1;obtain rfl:g=_:=by simpa using q
 obtain⟨⟨e⟩⟩:=p;replace q1:e.length<=9223372036854775807:=by have h':e.length<=maxLen:=q1;simpa[maxLen]using h'
 obtain⟨r,e2,_,q2⟩:=DataW.trod_string Tryz.underlying9 h2;obtain rfl:i=_:=by simpa using e2
 obtain⟨⟨f⟩⟩:=r;replace q2:f.length<=9223372036854775807:=by have h':f.length<=maxLen:=q2;simpa[maxLen]using h'
 obtain⟨s,t,_⟩:=DataW.trod_bool Tryz.underlying4 h3;obtain rfl:k=_:=by simpa using t
 obtain⟨u,v,_⟩:=DataW.trod_bool Tryz.underlying4 h4;obtain rfl:l=_:=by simpa using v
 refine⟨.mk d e f s u,⟨c,q1,q2⟩,rfl,λj pv hj=>?_⟩
 match j with
 | 0=>cases hj;exact⟨_,rfl,.str _⟩
 | 1=>cases hj;exact⟨_,rfl,.str _⟩
 | 2=>cases hj;exact⟨_,rfl,.str _⟩
 | 3=>cases hj;exact⟨_,rfl,.bool _⟩
 | 4=>cases hj;exact⟨_,rfl,.bool _⟩
 | j+5=>simp [aQ.lit,sl]at hj
structure aN.Ok (a:aN):Prop where
 h0:a.az.length<=9223372036854775807
 h1:a.iE.length<=9223372036854775807
 h2:a.bp.length<=9223372036854775807
 h3:∀x∈a.bp,aU.Ok x
 h4:a.bM.length<=9223372036854775807
 h5:∀x∈a.bM,aQ.Ok x
theorem aN.rY {w:World} {S:Nat->Prop} {cs:List Value} (h:∃a:aN,a.Ok/\cV S w a.lit cs):∃a:aN,a.Ok/\cV S w a.cells cs:=by
 obtain⟨a,h1,h2⟩:=h;exact⟨a,h1,by rw[aN.ak];exact h2⟩
theorem Qy (c:∀b,b<w.heap.size->S b) (fuel:Nat) (cs:List Value) (x:DataW H×List MemPlace) (h:DataW.trod enc Tryz.prog w 0 spare held fuel 124 cs=some x):∃a:aN,a.Ok/\cV S w a.lit cs:=by
 obtain⟨xs,n,hn,_,hl,hlen,hf⟩:=DataW.trod_struct Tryz.underlying124 h;have h0:=hf 0 _ rfl;have h1:=hf 1 _ rfl;have h2:=hf 2 _ rfl;have h3:=hf 3 _ rfl;rw[aaT]at hl;obtain⟨z0,g,s,t,rfl⟩:=abN hl;obtain⟨u,v,y,z,rfl⟩:=abN (show xs.length=4 from hlen);simp [YL,aeN,aeO]at h0 h1 h2 h3;obtain⟨i,k,_,d⟩:=DataW.trod_string Tryz.underlying9 h0;obtain rfl:z0=_:=by simpa using k
 obtain⟨⟨e⟩⟩:=i;replace d:e.length<=9223372036854775807:=by have h':e.length<=maxLen:=d;simpa[maxLen]using h'
 obtain⟨l,o,_,q1⟩:=DataW.trod_string Tryz.underlying9 h1;obtain rfl:g=_:=by simpa using o
 obtain⟨⟨f⟩⟩:=l;replace q1:f.length<=9223372036854775807:=by have h':f.length<=maxLen:=q1;simpa[maxLen]using h'
 obtain⟨p,q2,g2,p2⟩:=Bg aU.cells aU.Ok default Tryz.underlying121 aaV aop (λa=>by rw[aU.ak];rfl) c (λm hm cs x h=>aU.rY (Qx c m cs x h)) h2;obtain⟨q,q3,r,p3⟩:=Bg aQ.cells aQ.Ok default Tryz.underlying122 aaW aop (λa=>by rw[aQ.ak];rfl) c (λm hm cs x h=>aQ.rY (NQ c m cs x h)) h3;refine⟨.mk e f p q,⟨d,q1,q2,g2,q3,r⟩,rfl,λj pv hj=>?_⟩
 match j with
 | 0=>cases hj;exact⟨_,rfl,.str _⟩
 | 1=>cases hj;exact⟨_,rfl,.str _⟩
 | 2=>cases hj;exact⟨_,rfl,p2⟩
 | 3=>cases hj;exact⟨_,rfl,p3⟩
 | j+4=>simp [aN.lit,sl]at hj
structure bb.Ok (a:bb):Prop where
 h0:a.bT.length<=9223372036854775807
 h1:∀x∈a.bT,aW.Ok x
 h2:a.bs.length<=9223372036854775807
 h3:∀x∈a.bs,aN.Ok x
theorem bb.rY {w:World} {S:Nat->Prop} {cs:List Value} (h:∃a:bb,a.Ok/\cV S w a.lit cs):∃a:bb,a.Ok/\cV S w a.cells cs:=by
 obtain⟨a,h1,h2⟩:=h;exact⟨a,h1,by rw[bb.ak];exact h2⟩
theorem Lw (c:∀b,b<w.heap.size->S b) (fuel:Nat) (cs:List Value) (x:DataW H×List MemPlace) (h:DataW.trod enc Tryz.prog w 0 spare held fuel 25 cs=some x):∃a:bb,a.Ok/\cV S w a.lit cs:=by
 obtain⟨xs,n,hn,_,hl,hlen,hf⟩:=DataW.trod_struct Tryz.underlying25 h;have h0:=hf 0 _ rfl;have h1:=hf 1 _ rfl;rw[ahz]at hl;obtain⟨z0,k,rfl⟩:=Lu hl;obtain⟨l,o,rfl⟩:=Lu (show xs.length=2 from hlen);simp [ahx,ahy]at h0 h1;obtain⟨d,e,f,p0⟩:=Bg aW.cells aW.Ok default Tryz.underlying22 aaS aop (λa=>by rw[aW.ak];rfl) c (λm hm cs x h=>aW.rY (TO c m cs x h)) h0;obtain⟨g,q1,i,p1⟩:=Bg aN.cells aN.Ok default Tryz.underlying23 aaT aop (λa=>by rw[aN.ak];rfl) c (λm hm cs x h=>aN.rY (Qy c m cs x h)) h1;refine⟨.mk d g,⟨e,f,q1,i⟩,rfl,λj pv hj=>?_⟩
 match j with
 | 0=>cases hj;exact⟨_,rfl,p0⟩
 | 1=>cases hj;exact⟨_,rfl,p1⟩
 | j+2=>simp [bb.lit,sl]at hj
structure aq.Ok (a:aq):Prop where
 h0:a.az.length<=9223372036854775807
 h1:ae.Ok a.aA
theorem aq.rY {w:World} {S:Nat->Prop} {cs:List Value} (h:∃a:aq,a.Ok/\cV S w a.lit cs):∃a:aq,a.Ok/\cV S w a.cells cs:=by
 obtain⟨a,h1,h2⟩:=h;exact⟨a,h1,by rw[aq.ak];exact h2⟩
theorem Lx (e:∀b,b<w.heap.size->S b) (fuel:Nat) (cs:List Value) (x:DataW H×List MemPlace) (h:DataW.trod enc Tryz.prog w 0 spare held fuel 67 cs=some x):∃a:aq,a.Ok/\cV S w a.lit cs:=by
 obtain⟨xs,n,hn,_,hl,hlen,hf⟩:=DataW.trod_struct Tryz.underlying67 h;have h0:=hf 0 _ rfl;have h1:=hf 1 _ rfl;rw[aeJ]at hl;obtain⟨z0,k,l,m,o,p,rfl⟩:=abO hl;obtain⟨q,r,rfl⟩:=Lu (show xs.length=2 from hlen);simp [YL,Zg]at h0 h1;obtain⟨f,g,_,c⟩:=DataW.trod_string Tryz.underlying9 h0;obtain rfl:z0=_:=by simpa using g
 obtain⟨⟨d⟩⟩:=f;replace c:d.length<=9223372036854775807:=by have h':d.length<=maxLen:=c;simpa[maxLen]using h'
 obtain⟨i,q1,p1⟩:=GM e n _ _ h1;refine⟨.mk d i,⟨c,q1⟩,rfl,λj pv hj=>?_⟩
 match j with
 | 0=>cases hj;exact⟨_,rfl,.str _⟩
 | 1=>exact p1.2 0 pv hj
 | 2=>exact p1.2 1 pv hj
 | 3=>exact p1.2 2 pv hj
 | 4=>exact p1.2 3 pv hj
 | 5=>exact p1.2 4 pv hj
 | j+6=>simp [aq.lit,sl]at hj
end
end Go.Am
namespace Go.Am
open Go Go.RowKit
def Zh (f:Nat->List PV):Prop:=∀g:PV->PV,(∀x,cr x=true\/fI x=true->g x=x)->(λi=>(f i).map g)=f
theorem DR.abQ {α:Type} {D:List PV->α->Prop} {c:α->List PV} [hc:ET D c] {n:Nat} {f:Nat->List PV} {l:List α} (d:DR D n f l):Zh f:=λg hg=>d.ren (c:=c) hg
theorem GN {α:Type} {c:α->List PV} [hp:rh c] {l:List α}:Zh (row c l):=λg hg=>by
 funext i;exact Ly (λx a=>hg x (.inl (akA.1 (ns hp.pure i) x a)))
theorem GO {cs:List PV} (h:cs.all cr=true):Zh (λ_=>cs):=λg hg=>by
 funext i;exact Ly (λx a=>hg x (.inl (akA.1 h x a)))
theorem rfx {f:Nat->List PV} (h:Zh f) (σ:Nat->Nat) (g sz n:Nat) (e:TypeId):xJ σ (.row g sz n e f)=.row g sz n e f:=by
 show au.row g sz n e (λi=>(f i).map (rj σ))=_;rw[h _ (λx=>Vr)]
theorem GP {cs:List PV} {σ:Nat->Nat} {g sz n:Nat} {e:TypeId}:xJ σ (.row g sz n e (λ_=>cs))=.row g sz n e (λ_=>cs.map (rj σ)):=rfl
theorem D9 {σ:Nat->Nat}:xJ σ .dead=.dead:=rfl
theorem nx {h h0 h1:List au} {is:List Nat} {r0 r1:PV} {K:PV->List au->Prop} (k:K r1 h1)
  (a:FC (gX is h.length) r0=r1:=by simp only[FC,CD,rj,gX,akB,akE,akz,akD,alH,aln,alX,Nat.reduceAdd,Nat.reduceSub];rfl)
  (hh:vF h is h0=h1:=by
   simp (disch:=first | rfl | exact DR.abQ aou | exact GN | exact GO rfl) only[vF,mX,rfx,GP,D9,rj,gX,akB,akE,amb,ald,List.drop_nil,akz,akD,amw,amx,alQ,alD,alH,aln,alX,Nat.reduceAdd,Nat.reduceSub];rfl):∃r1 h1,FC (gX is h.length) r0=r1/\vF h is h0=h1/\K r1 h1:=⟨r1,h1,a,hh,k⟩
section
variable {P:Program}{f:FuncId}{h:List au}{K:PV->List au->Prop}{r0 r1:PV}{h0 h1:List au}
theorem CE {hc:List au} {args a:List PV} (b:ACall P f args hc (λres h=>res=r0/\h=h0)) (is:List Nat) (c:OvL h (gX is h.length) hc is) (k:K r1 h1)
  (d:FC (gX is h.length) r0=r1:=by simp only[FC,CD,rj,gX,akB,akE,akz,akD,alH,aln,alX,Nat.reduceAdd,Nat.reduceSub];rfl)
  (hh:vF h is h0=h1:=by
   simp (disch:=first | rfl | exact DR.abQ aou | exact GN | exact GO rfl) only[vF,mX,rfx,GP,D9,rj,gX,akB,akE,amb,ald,List.drop_nil,akz,akD,amw,amx,alQ,alD,alH,aln,alX,Nat.reduceAdd,Nat.reduceSub];rfl)
  (hl:hc.length=is.length:=by rfl) (hd:is.Nodup:=by decide) (e:is.all (λid=>Nat.blt id h.length)=true:=by rfl) (g:a=args.map (CD (gX is h.length)):=by rfl):Bh P f a h K:=
 ⟨_,b.Vs is h c hl hd e g,by rintro _ _ ⟨_,_,⟨rfl,rfl⟩,rfl,rfl⟩;rw[d,hh];exact k⟩
theorem yo {α:Type} {D:List PV->α->Prop} {n:Nat} {l:List α} {hc:List au} {args a:List PV} {X b:(Nat->List PV)->PV} {H H1:(Nat->List PV)->List au} (c:ACall P f args hc (λres h=>∃F,DR D n F l/\res=X F/\h=H F)) (is:List Nat) (e:OvL h (gX is h.length) hc is) (k:∀F,DR D n F l->K (b F) (H1 F))
  (g:∀F,DR D n F l->FC (gX is h.length) (X F)=b F:=by intro F d;simp only[FC,CD,rj,gX,akB,akE,akz,akD,alH,aln,alX,Nat.reduceAdd,Nat.reduceSub];rfl)
  (hh:∀F,DR D n F l->vF h is (H F)=H1 F:=by
   intro F d;simp (disch:=first | rfl | exact DR.abQ aou | exact GN | exact GO rfl) only[vF,mX,rfx,GP,D9,rj,gX,akB,akE,amb,ald,List.drop_nil,akz,akD,amw,amx,alQ,alD,alH,aln,alX,Nat.reduceAdd,Nat.reduceSub];rfl)
  (hl:hc.length=is.length:=by rfl) (hd:is.Nodup:=by decide) (i:is.all (λid=>Nat.blt id h.length)=true:=by rfl) (j:a=args.map (CD (gX is h.length)):=by rfl):Bh P f a h K:=
 ⟨_,c.Vs is h e hl hd i j,by rintro _ _ ⟨_,_,⟨F,d,rfl,rfl⟩,rfl,rfl⟩;rw[g F d,hh F d];exact k F d⟩
end
theorem bD {a b:List PV} {off:Nat} {f:Nat->List PV}:∀j,j<1->rF (bz f 0 (fJ a off b) j) ((λ_=>fJ a off b) j):=CF rfl
section
variable {h:List au}{id sub g sz n g2 tB n2:Nat}{e e2:TypeId}{f2:Nat->List PV}{i j:Nat}{F:Nat->Prop}
theorem wD {f:Nat->List PV} {a b:List PV} (hi:i<n) (hp:∀k,k<n2->∀x,x∈f2 k->cr x=true\/fI x=true) (d:h[id]? =some (.row g sz n e (bz f i a)):=by rfl) (hj:a[j]? =some (.own sub g2 0 n2):=by rfl)
  (c:h[sub]? =some (.row g2 tB n2 e2 f2):=by rfl) (hs:a.set j (.aX tB n2 e2 f2 F)=b:=by rfl) (l:id≠sub:=by decide) {h2:List au} (h3:h2=(h.set id (.row g sz n e (bz f i b))).set sub .dead:=by rfl):Lz h id i j sub F h2:=
 ahB a b (bz f i b) hi aD aD eK hp hj hs.symm d c l h3
end
theorem Fz.oe {h η:List au} {k:List Nat} {id a g b sz i j c n2 d:Nat} {e l:TypeId} {f m:Nat->List PV} (h1:c=n2:=by first | rfl | exact DR.len aou | exact(DR.len aou).symm) (h2:n2=d:=by first | rfl | exact DR.len aou | exact(DR.len aou).symm) (n:k[a]? =some id:=by rfl) (o:h[id]? =some (au.row g sz j e f):=by rfl) (hη:η[a]? =some (au.row b i d l m):=by rfl):Fz h η k (.own id g 0 c) (.own a b 0 n2):=Fz.od h1 h2 n o hη
section
variable {h η:List au}{k:List Nat}{m:Nat}
theorem zy.n:zy h η k [] []:=trivial
theorem zy.c {a b:PV} {l r:List PV} (h1:Fz h η k a b) (h2:zy h η k l r):zy h η k (a::l) (b::r):=⟨h1,h2⟩
theorem CG.n {env:Env}:CG h η k env []:=trivial
theorem CG.c {env:Env} {t:Nat} {v:PV} {r:List (Nat×PV)} (h1:Fz h η k (env t) v) (h2:CG h η k env r):CG h η k env ((t,v)::r):=⟨h1,h2⟩
theorem qe.n {i:Nat}:qe h η k m i [] []:=trivial
theorem qe.c {i id:Nat} {o:au} {r:List au} {a:List Nat} (h1:AO h η k m o i id) (h2:qe h η k m (i+1) r a):qe h η k m i (o::r) (id::a):=⟨h1,h2⟩
theorem nwz {α:Type} {D:List PV->α->Prop} {c:α->List PV} {l:List α} {n:Nat} {f:Nat->List PV} (d:DR D n f l) [hc:ET D c] {i id g j sz b a:Nat} {e:TypeId} (o:h[id]? =some (au.row g sz b e f):=by rfl) (hn:a=b:=by first | rfl | exact DR.len aou | exact(DR.len aou).symm) (hle:a=n:=by first | rfl | exact DR.len aou | exact(DR.len aou).symm) (hi:Nat.ble m i=true:=by rfl):AO h η k m (.row j sz a e f) i id:=uE (c:=c) d hn hle hi o
theorem odz {α:Type} {D:List PV->α->Prop} {c:α->List PV} {l:List α} {n:Nat} {f:Nat->List PV} (d:DR D n f l) [hc:ET D c] {id g sz b a:Nat} {e:TypeId} (i:h[id]? =some (au.row g sz b e f):=by rfl) (hn:a=b:=by first | rfl | exact DR.len aou | exact(DR.len aou).symm) (hle:a=n:=by first | rfl | exact DR.len aou | exact(DR.len aou).symm):AO h η k m (.row g sz a e f) id id:=odd (c:=c) d hn hle i
end
theorem Jp {p:Prop} (h:p:=by exact nwz aou):p:=h
theorem uY {p:Prop} (h:p:=by exact odz aou):p:=h
theorem rs {α:Type} {D:List PV->α->Prop} {n:Nat} {f:Nat->List PV} {l:List α} (d:DR D n f l) {X:(Nat->List PV)->PV} {H:(Nat->List PV)->List au}:∃F,DR D l.length F l/\X f=X F/\H f=H F:=⟨f,d.self,rfl,rfl⟩
end Go.Am
namespace Go.Am
open Go Go.RowKit Go.Proofs
abbrev pI (x:Int):PV:=.int .i64 x
abbrev zp:=(bZ×Bool)
abbrev hJ:=((Int) ⊕ Int)
abbrev CH:=((Unit) ⊕ Int)
abbrev dP:=((Unit) ⊕ Bool)
abbrev Vt:=((List Int)×Bool)
abbrev NR:=(ae×aS)
abbrev ty9:=(Int×(List aj))
abbrev Qz:=((Unit) ⊕ dP)
abbrev YM:=(((List Int)) ⊕ Vt)
abbrev ty6:=((Unit) ⊕ Qz)
abbrev ty5:=(((List zp)) ⊕ dP)
abbrev ty4:=(Bool×Int×Int×(List Int)×(List aB))
abbrev ty3:=(bZ×Bool×ae×Bool×Bool×ae×Bool×Bool)
abbrev ty2:=(ty3 ⊕ dP)
abbrev ty1:=(Int×bZ×Int×Int×bZ×(List aE)×(List aj)×Bool×Int×Int×(List Int)×(List aB))
abbrev ty0:=((List ae)×(List aK)×(List aE)×(List aH)×(List aC)×(List cc)×(List aM)×(List aI)×(List aJ)×Int×bZ×Int×Int×bZ×(List ae)×(List aK)×(List aE)×(List aH)×(List aC)×(List cc)×(List aM)×(List aI)×(List aJ))
def YN (n:FuncId) (a:ae) (r:Bool):Prop:=ACall Tryz.prog n [.agg a.lit] [] (λres h=>res=.bool r/\h=[])
def sg1 (n:FuncId) (a:Int) (r:Bool):Prop:=ACall Tryz.prog n [pI a] [] (λres h=>res=.bool r/\h=[])
def sg2 (n:FuncId) (a:Int) (b:Int) (r:Int):Prop:=ACall Tryz.prog n [pI a,pI b] [] (λres h=>res=pI r/\h=[])
def sg3 (n:FuncId) (a:bZ) (r:Bool):Prop:=ACall Tryz.prog n [.str a] [] (λres h=>res=.bool r/\h=[])
def sg4 (n:FuncId) (a:aW) (r:Bool):Prop:=ACall Tryz.prog n [.agg a.lit] [] (λres h=>res=.bool r/\h=[])
def sg5 (n:FuncId) (a:ae) (b:Int) (r:Int):Prop:=ACall Tryz.prog n [.agg a.lit,pI b] [] (λres h=>res=pI r/\h=[])
def sg6 (n:FuncId) (a:Int) (r:Bool):Prop:=ACall Tryz.prog n [.int .u8 a] [] (λres h=>res=.bool r/\h=[])
def sg7 (n:FuncId) (a:bV) (r:Int):Prop:=ACall Tryz.prog n [.agg a.lit] [] (λres h=>res=pI r/\h=[])
def sg8 (n:FuncId) (a:ae) (r:ae):Prop:=ACall Tryz.prog n [.agg a.lit] [] (λres h=>res=.agg r.lit/\h=[])
def sg9 (n:FuncId) (a:List aj) (b:Int) (r:Int):Prop:=ACall Tryz.prog n [sl 8 aj.cells a,pI b] [] (λres h=>res=pI r/\h=[])
def abR (n:FuncId) (a:bZ) (r:Int×Bool):Prop:=ACall Tryz.prog n [.str a] [] (λres h=>res=.kc [pI r.1,.bool r.2]/\h=[])
def abS (n:FuncId) (a:bZ) (r:Int):Prop:=ACall Tryz.prog n [.str a] [] (λres h=>res=pI r/\h=[])
def abT (n:FuncId) (a:Int) (r:Int):Prop:=ACall Tryz.prog n [pI a] [] (λres h=>res=pI r/\h=[])
def abU (n:FuncId) (a:bV) (b:Int) (c:Int) (r:Bool):Prop:=ACall Tryz.prog n [.agg a.lit,pI b,pI c] [] (λres h=>res=.bool r/\h=[])
def aeP (n:FuncId) (a:List TParam) (r:(List TParam)):Prop:=ACall Tryz.prog n [sl 2 TParam.cells a] [] (λres h=>res=.own 0 0 0 r.length/\h=[.row 0 2 r.length 216 (row TParam.cells r)])
def aeQ (n:FuncId) (a:ba) (b:cw) (c:ae) (r:ba) (ay:Nat) (ca:Nat):Prop:=ACall Tryz.prog n [.agg [.bool a.bC,.own 0 ay 0 a.aG.length,.own 1 ca 0 a.ah.length,pI a.aF,pI a.bq],.agg b.lit,.agg c.lit] [.row ay 1 a.aG.length 3 (row cI a.aG),.row ca 10 a.ah.length 203 (row aB.cells a.ah)] (λres h=>res=.agg [.bool r.bC,.own 2 0 0 r.aG.length,.own 3 0 0 r.ah.length,pI r.aF,pI r.bq]/\h=[.dead,.dead,.row 0 1 r.aG.length 3 (row cI r.aG),.row 0 10 r.ah.length 203 (row aB.cells r.ah)])
def aeR (n:FuncId) (a:aS) (b:ba) (r:ae×aS) (ay:Nat) (ca:Nat) (cN:Nat) (dj:Nat) (dq:Nat) (dr:Nat) (dt:Nat) (du:Nat) (dw:Nat) (dO:Nat) (EV:Nat) (EW:Nat) (g:Nat) (c:Nat) (d:Nat) (e:Nat) (f:Nat) (o:Nat->List PV) (i:Nat->List PV) (j:Nat->List PV) (k:Nat->List PV) (l:Nat->List PV):Prop:=ACall Tryz.prog n [.bc 0 ay 0 6,.agg [.bool b.bC,.own 10 EV 0 b.aG.length,.own 11 EW 0 b.ah.length,pI b.aF,pI b.bq]] [.row ay 14 1 43 (λ_=>[pI a.cF,.str a.cg,pI a.dZ,pI a.aF,.own 1 ca 0 a.bO.length,.own 2 cN 0 a.a8.length,.own 3 dj 0 g,.own 4 dq 0 c,.own 5 dr 0 d,.own 6 dt 0 e,.own 7 du 0 f,.str a.bF.dW,.own 8 dw 0 a.bF.aY.length,.own 9 dO 0 a.bF.aZ.length]),.row ca 5 a.bO.length 74 (row ae.cells a.bO),.row cN 2 a.a8.length 81 (row aK.cells a.a8),.row dj 6 g 207 o,.row dq 3 c 166 i,.row dr 5 d 169 j,.row dt 19 e 172 k,.row du 13 f 87 l,.row dw 2 a.bF.aY.length 232 (row aI.cells a.bF.aY),.row dO 2 a.bF.aZ.length 235 (row aJ.cells a.bF.aZ),.row EV 1 b.aG.length 3 (row cI b.aG),.row EW 10 b.ah.length 203 (row aB.cells b.ah)] (λres h=>∃m:Nat,∃p:Nat,∃q:Nat,∃F3:Nat->List PV,DR aE.D r.2.cA.bw.length F3 r.2.cA.bw/\res=.agg r.1.lit/\h=[.row ay 14 1 43 (λ_=>[pI r.2.cF,.str r.2.cg,pI r.2.dZ,pI r.2.aF,.own 1 ca 0 a.bO.length,.own 2 cN 0 a.a8.length,.own 3 m 0 r.2.cA.bw.length,.own 4 dq 0 c,.own 5 dr 0 d,.own 6 dt 0 e,.own 7 du 0 f,.str r.2.bF.dW,.own 8 dw 0 a.bF.aY.length,.own 9 dO 0 a.bF.aZ.length]),.row ca 5 a.bO.length 74 (row ae.cells a.bO),.row cN 2 a.a8.length 81 (row aK.cells a.a8),.row m 6 r.2.cA.bw.length 207 F3,.row dq 3 c 166 i,.row dr 5 d 169 j,.row dt 19 e 172 k,.row du 13 f 87 l,.row dw 2 a.bF.aY.length 232 (row aI.cells a.bF.aY),.row dO 2 a.bF.aZ.length 235 (row aJ.cells a.bF.aZ),.dead,.dead])
def aeS (n:FuncId) (a:aS) (m:ae) (r:ae×aS) (ay:Nat) (ca:Nat) (cN:Nat) (dj:Nat) (dq:Nat) (dr:Nat) (dt:Nat) (du:Nat) (dw:Nat) (dO:Nat) (f:Nat) (b:Nat) (c:Nat) (d:Nat) (e:Nat) (o:Nat->List PV) (g:Nat->List PV) (i:Nat->List PV) (j:Nat->List PV) (k:Nat->List PV):Prop:=ACall Tryz.prog n [.bc 0 ay 0 6,.agg m.lit] [.row ay 14 1 43 (λ_=>[pI a.cF,.str a.cg,pI a.dZ,pI a.aF,.own 1 ca 0 a.bO.length,.own 2 cN 0 a.a8.length,.own 3 dj 0 f,.own 4 dq 0 b,.own 5 dr 0 c,.own 6 dt 0 d,.own 7 du 0 e,.str a.bF.dW,.own 8 dw 0 a.bF.aY.length,.own 9 dO 0 a.bF.aZ.length]),.row ca 5 a.bO.length 74 (row ae.cells a.bO),.row cN 2 a.a8.length 81 (row aK.cells a.a8),.row dj 6 f 207 o,.row dq 3 b 166 g,.row dr 5 c 169 i,.row dt 19 d 172 j,.row du 13 e 87 k,.row dw 2 a.bF.aY.length 232 (row aI.cells a.bF.aY),.row dO 2 a.bF.aZ.length 235 (row aJ.cells a.bF.aZ)] (λres h=>∃l:Nat,∃F3:Nat->List PV,DR aE.D r.2.cA.bw.length F3 r.2.cA.bw/\res=.agg r.1.lit/\h=[.row ay 14 1 43 (λ_=>[pI r.2.cF,.str r.2.cg,pI r.2.dZ,pI r.2.aF,.own 1 ca 0 a.bO.length,.own 2 cN 0 a.a8.length,.own 3 l 0 r.2.cA.bw.length,.own 4 dq 0 b,.own 5 dr 0 c,.own 6 dt 0 d,.own 7 du 0 e,.str r.2.bF.dW,.own 8 dw 0 a.bF.aY.length,.own 9 dO 0 a.bF.aZ.length]),.row ca 5 a.bO.length 74 (row ae.cells a.bO),.row cN 2 a.a8.length 81 (row aK.cells a.a8),.row l 6 r.2.cA.bw.length 207 F3,.row dq 3 b 166 g,.row dr 5 c 169 i,.row dt 19 d 172 j,.row du 13 e 87 k,.row dw 2 a.bF.aY.length 232 (row aI.cells a.bF.aY),.row dO 2 a.bF.aZ.length 235 (row aJ.cells a.bF.aZ)])
def aeT (n:FuncId) (a:ae) (r:ae):Prop:=ACall Tryz.prog n [.agg a.lit] [] (λres h=>∃F0:Nat->List PV,DR aj.D r.al.length F0 r.al/\res=.agg [pI r.bJ,pI r.bS,.str r.ck,pI r.aF,.own 0 0 0 r.al.length]/\h=[.row 0 8 r.al.length 150 F0])
def ahC (n:FuncId) (a:List aj) (r:(List aj)):Prop:=ACall Tryz.prog n [sl 8 aj.cells a] [] (λres h=>∃F0:Nat->List PV,DR aj.D r.length F0 r/\res=.own 0 0 0 r.length/\h=[.row 0 8 r.length 150 F0])
def ahD (n:FuncId) (a:aj) (r:aj):Prop:=ACall Tryz.prog n [.agg a.lit] [] (λres h=>∃F0:Nat->List PV,DR aj.D r.aA.al.length F0 r.aA.al/\res=.agg [.bool r.bA.dy,pI r.bA.bS,.str r.bA.ck,pI r.aA.bJ,pI r.aA.bS,.str r.aA.ck,pI r.aA.aF,.own 0 0 0 r.aA.al.length]/\h=[.row 0 8 r.aA.al.length 150 F0])
theorem db {p:Prop} (h:p:=by exact⟨(uy rfl),⟨⟩⟩):p:=h
theorem hB {p:Prop} (h:p:=by exact⟨.p,.i,.b,⟨⟩⟩):p:=h
theorem tz2 {p:Prop} (h:p:=by exact⟨(ob rfl ⟨.i,.s,.i,.i,.o,.o,.oe,.oe,.oe,.oe,.oe,.s,.o,.o,⟨⟩⟩),od,od,uY,uY,uY,uY,uY,od,od,dd,dd,(nb rfl ⟨.b,.o,.o,.i,.i,⟨⟩⟩),nw,nw,(nb rfl ⟨.i,.i,.s,.i,(.od (by first | rfl | exact(DR.nil (D:=aj.D)).len | exact(DR.nil (D:=aj.D)).len.symm)),⟨⟩⟩),(uE (DR.nil (D:=aj.D))),⟨⟩⟩):p:=h
theorem tz3 {p:Prop} (h:p:=by exact⟨(nb rfl ⟨.i,.s,.i,.i,.o,.o,.oe,.oe,.oe,.oe,.oe,.s,.o,.o,⟨⟩⟩),nw,nw,Jp,Jp,Jp,Jp,Jp,nw,nw,(nb rfl ⟨.i,.s,.i,.i,.o,.o,.oe,.oe,.oe,.oe,.oe,.s,.o,.o,⟨⟩⟩),nw,nw,Jp,Jp,Jp,Jp,Jp,nw,nw,⟨⟩⟩):p:=h
theorem Vu {p:Prop} (h:p:=by exact⟨dd,dd,(nb rfl ⟨.b,.o,.o,.i,.i,⟨⟩⟩),nw,nw,(uy rfl),(uy rfl),(nb rfl ⟨.b,.bn,.bn,.i,.i,⟨⟩⟩),⟨⟩⟩):p:=h
theorem tr {p:Prop} (h:p:=by exact⟨.l,.i,.i,⟨⟩⟩):p:=h
theorem jJ {p:Prop} (h:p:=by exact⟨uY,⟨⟩⟩):p:=h
theorem tz7 {p:Prop} (h:p:=by exact⟨(ob rfl ⟨.i,.s,.i,.i,.o,.o,.oe,.oe,.oe,.oe,.oe,.s,.o,.o,⟨⟩⟩),od,od,uY,uY,uY,uY,uY,od,od,(uy rfl),(nb rfl ⟨.i,.i,.s,.i,.oe,⟨⟩⟩),Jp,(nb rfl ⟨.b,.o,.o,.i,.i,⟨⟩⟩),nw,nw,⟨⟩⟩):p:=h
theorem vq {p:Prop} (h:p:=by exact⟨.oe,.i,.i,⟨⟩⟩):p:=h
theorem tz9 {p:Prop} (h:p:=by exact⟨.p,.p,.p,(.aaZ ⟨⟨rfl,⟨_,_,_,_,rfl⟩,⟨_,_,_,_,rfl,amr⟩⟩,⟨rfl,⟨_,_,_,_,rfl⟩,⟨_,_,_,_,rfl,amr⟩⟩,trivial⟩),⟨⟩⟩):p:=h
theorem jK {p:Prop} (h:p:=by exact⟨.l,.l,.i,⟨⟩⟩):p:=h
theorem Vv {p:Prop} (h:p:=by exact⟨dd,dd,(nb rfl ⟨.b,.o,.o,.i,.i,⟨⟩⟩),nw,nw,(nb rfl ⟨.b,.o,.o,.i,.i,⟨⟩⟩),nw,nw,(nb rfl ⟨.b,.o,.o,.i,.i,⟨⟩⟩),nw,nw,⟨⟩⟩):p:=h
theorem fV {p:Prop} (h:p:=by exact⟨.i,⟨⟩⟩):p:=h
theorem zq {p:Prop} (h:p:=by exact⟨.i,.i,.p,.b,.b,.b,⟨⟩⟩):p:=h
theorem Zi {p:Prop} (h:p:=by exact⟨(ob rfl ⟨.i,.s,.i,.i,.o,.o,.oe,.oe,.oe,.oe,.oe,.s,.o,.o,⟨⟩⟩),od,od,uY,uY,uY,uY,uY,od,od,⟨⟩⟩):p:=h
theorem A7 {p:Prop} (h:p:=by exact⟨(uy rfl),(uy rfl),⟨⟩⟩):p:=h
theorem aeU {p:Prop} (h:p:=by exact⟨(ob rfl ⟨.i,.s,.i,.i,.o,.o,.oe,.oe,.oe,.oe,.oe,.s,.o,.o,⟨⟩⟩),od,od,uY,uY,uY,uY,uY,od,od,(uy rfl),(nb rfl ⟨.i,.i,.s,.i,.g,⟨⟩⟩),gh,(nb rfl ⟨.b,.g,.g,.i,.i,⟨⟩⟩),gh,gh,⟨⟩⟩):p:=h
theorem aeV {p:Prop} (h:p:=by exact⟨(ob rfl ⟨.i,.s,.i,.i,.o,.o,.oe,.oe,.oe,.oe,.oe,.s,.o,.o,⟨⟩⟩),od,od,uY,uY,uY,uY,uY,od,od,dd,dd,(nb rfl ⟨.b,.o,.o,.i,.i,⟨⟩⟩),nw,nw,(nb rfl ⟨.i,.i,.s,.i,.oe,⟨⟩⟩),Jp,⟨⟩⟩):p:=h
theorem aeW {p:Prop} (h:p:=by exact⟨(ob rfl ⟨.i,.s,.i,.i,.o,.o,.oe,.oe,.oe,.oe,.oe,.s,.o,.o,⟨⟩⟩),od,od,uY,uY,uY,uY,uY,od,od,dd,dd,(nb rfl ⟨.b,.o,.o,.i,.i,⟨⟩⟩),nw,nw,(nb rfl ⟨.i,.i,.s,.i,.g,⟨⟩⟩),gh,⟨⟩⟩):p:=h
theorem Zj {p:Prop} (h:p:=by exact⟨dd,dd,(nb rfl ⟨.b,.o,.o,.i,.i,⟨⟩⟩),nw,nw,(nb rfl ⟨.b,.o,.o,.i,.i,⟨⟩⟩),nw,nw,⟨⟩⟩):p:=h
theorem abV {p:Prop} (h:p:=by exact⟨(ob rfl ⟨.i,.s,.i,.i,.o,.o,.oe,.oe,.oe,.oe,.oe,.s,.o,.o,⟨⟩⟩),od,od,uY,uY,uY,uY,uY,od,od,dd,dd,⟨⟩⟩):p:=h
theorem zG {p:Prop} (h:p:=by exact⟨(uy rfl),nw,⟨⟩⟩):p:=h
theorem abW {p:Prop} (h:p:=by exact⟨dd,dd,(nb rfl ⟨.b,.o,.o,.i,.i,⟨⟩⟩),nw,nw,(nb rfl ⟨.b,.o,.o,.i,.i,⟨⟩⟩),nw,nw,nw,⟨⟩⟩):p:=h
theorem TP {p:Prop} (h:p:=by exact⟨(ob rfl ⟨.o,⟨⟩⟩),od,(ob rfl ⟨.o,⟨⟩⟩),od,⟨⟩⟩):p:=h
theorem BL {p:Prop} (h:p:=by exact⟨.p,.p,.p,.p,⟨⟩⟩):p:=h
theorem NS {p:Prop} (h:p:=by exact⟨.i,.i,.p,.b,.b,.b,.i,.b,⟨⟩⟩):p:=h
theorem aeX {p:Prop} (h:p:=by exact⟨dd,dd,(nb rfl ⟨.b,.o,.o,.i,.i,⟨⟩⟩),nw,nw,(nb rfl ⟨.b,.o,.o,.i,.i,⟨⟩⟩),nw,nw,(nb rfl ⟨.b,.o,.g,.i,.i,⟨⟩⟩),nw,gh,⟨⟩⟩):p:=h
theorem abX {p:Prop} (h:p:=by exact(.xL ⟨.fC ⟨.i,.s,.i,.i,.z,.z,.z,.z,.z,.z,.z,.s,.z,.z,⟨⟩⟩,.b,⟨⟩⟩)):p:=h
theorem abY {p:Prop} (h:p:=by exact(.xL ⟨.fC ⟨.i,.s,.i,.i,.g,.g,.g,.g,.g,.g,.g,.s,.g,.g,⟨⟩⟩,.b,⟨⟩⟩)):p:=h
theorem Zk {p:Prop} (h:p:=by exact⟨(uy rfl),(nb rfl ⟨.o,⟨⟩⟩),nw,(nb rfl ⟨.o,⟨⟩⟩),nw,⟨⟩⟩):p:=h
theorem abZ {p:Prop} (h:p:=by exact⟨(nb rfl ⟨.i,.i,.s,.i,.bn,⟨⟩⟩),(nb rfl ⟨.i,.i,.s,.i,.o,⟨⟩⟩),nw,⟨⟩⟩):p:=h
theorem tC {p:Prop} (h:p:=by exact⟨Jp,⟨⟩⟩):p:=h
theorem GQ {p:Prop} (h:p:=by exact(.xL ⟨.i,.b,⟨⟩⟩)):p:=h
theorem GR {p:Prop} (h:p:=by exact⟨.p,.p,.p,.i,⟨⟩⟩):p:=h
theorem FD {p:Prop} (h:p:=by exact⟨.l,.oe,.i,⟨⟩⟩):p:=h
theorem Jy {p:Prop} (h:p:=by exact⟨dd,dd,nw,nw,⟨⟩⟩):p:=h
theorem Zl {p:Prop} (h:p:=by exact(.xL ⟨.fC ⟨.b,.o,.o,.i,.i,⟨⟩⟩,.b,⟨⟩⟩)):p:=h
theorem TQ {p:Prop} (h:p:=by exact(.fC ⟨.b,.o,.o,.i,.i,⟨⟩⟩)):p:=h
theorem NT {p:Prop} (h:p:=by exact⟨.p,.p,.l,.i,.i,⟨⟩⟩):p:=h
theorem xo {p:Prop} (h:p:=by exact⟨nw,⟨⟩⟩):p:=h
theorem BM {p:Prop} (h:p:=by exact⟨.p,.i,⟨⟩⟩):p:=h
theorem GS {p:Prop} (h:p:=by exact⟨.p,.p,.i,⟨⟩⟩):p:=h
theorem xp {p:Prop} (h:p:=by exact⟨.p,⟨⟩⟩):p:=h
theorem QA {p:Prop} (h:p:=by exact⟨.p,.m,.l,.i,.i,⟨⟩⟩):p:=h
theorem NU {p:Prop} (h:p:=by exact⟨.i,.p,.i,.b,⟨⟩⟩):p:=h
theorem Ea {p:Prop} (h:p:=by exact⟨.p,.b,⟨⟩⟩):p:=h
theorem LA {p:Prop} (h:p:=by exact⟨.s,.i,.i,⟨⟩⟩):p:=h
theorem Vw {p:Prop} (h:p:=by exact(.xL ⟨(.rx rfl),.b,⟨⟩⟩)):p:=h
theorem ab0 {p:Prop} (h:p:=by exact(.fC ⟨.i,.i,.s,.i,.z,⟨⟩⟩)):p:=h
theorem Zm {p:Prop} (h:p:=by exact(.fC ⟨.i,.i,.s,.i,.l,⟨⟩⟩)):p:=h
theorem TR {p:Prop} (h:p:=by exact(.xL ⟨.z,.b,⟨⟩⟩)):p:=h
theorem ab1 {p:Prop} (h:p:=by exact⟨gh,gh,gh,gh,gh,gh,gh,gh,gh,⟨⟩⟩):p:=h
theorem Vx {p:Prop} (h:p:=by exact⟨(uy rfl),nw,nw,⟨⟩⟩):p:=h
theorem QB {p:Prop} (h:p:=by exact⟨.p,.i,.i,⟨⟩⟩):p:=h
theorem Vy {p:Prop} (h:p:=by exact⟨(Zn rfl ln),⟨⟩⟩):p:=h
theorem aeY {p:Prop} (h:p:=by exact(.fC ⟨.b,.i,.s,⟨⟩⟩)):p:=h
theorem Vz {p:Prop} (h:p:=by exact⟨.p,.o,.b,.i,⟨⟩⟩):p:=h
theorem NV {p:Prop} (h:p:=by exact⟨.p,.p,⟨⟩⟩):p:=h
theorem Zo {p:Prop} (h:p:=by exact⟨.l,(.ox ln),.i,⟨⟩⟩):p:=h
theorem Zp {p:Prop} (h:p:=by exact(.xL ⟨.b,.b,⟨⟩⟩)):p:=h
theorem TS {p:Prop} (h:p:=by exact⟨.i,.b,⟨⟩⟩):p:=h
def rG (a:TParam) (b:Int):Option (Int):=if(af (b - (a.az.length:Int)))<0 then some (-1)else some (af (b - (a.az.length:Int)))
theorem LB {a:TParam} {b:Int} {r:Int} (h:rG a b=some r):ACall Tryz.prog 175 [.agg a.lit,pI b] [] (λres h=>res=pI r/\h=[]):=by
 refine cQ Tryz.func175 ?_;unfold rG at h;refine .d (.d ⟨rfl,rfl,_,rfl,(.d (.d (sD h (λc h=>?_) (λc h=>?_))))⟩);exact anw;exact anw
def kD (a:List TParam) (c:Int) (b:Int):Option hJ:=if b<(a.length:Int)then idx a b>>=λe=>rG e c>>=λd=>if d<0 then some (.inr (-1))else kD a d (af (b+1))else some (.inl c) partial_fixpoint
def pR (a:List TParam) (b:Int):Option (Int):=if(af (b - (a.length:Int)))<0 then some (-1)else((kD a (af (b - (a.length:Int))) 0:Option hJ)>>=λc=>match c with | .inr r=>some r | .inl y2=>some y2)
theorem Bi {a:List TParam} {b:Int} {r:Int} (h:pR a b=some r):ACall Tryz.prog 123 [sl 2 TParam.cells a,pI b] [] (λres h=>res=pI r/\h=[]):=by
 refine cQ Tryz.func123 ?_;unfold pR at h;refine .d (.d (.d (.d (sD h (λj h=>?_) (λj h=>?_)))));exact anw;obtain⟨c,h,yt⟩:=bd h;refine .cut (λσ η=>∃y2,.inl y2=c/\σ=[(1,pI y2)]/\η=[]) ?_ ?_;refine .d ?_;refine le (kD.partial_correctness a (motive:=λe f g=>c=g->aw _ _ [(0,sl 2 TParam.cells a),(1,pI e),(5,pI f)] []) ?_ (af (b - (a.length:Int))) 0 c h rfl) (tk [] tr ⟨⟩);intro p Gs e f g h k;subst k;refine aw.round (.d (.d (sD h (λl h=>?_) (λl h=>?_))));refine .d (.d (bk h λm i h=>⟨av i,_,(ao i).trans (TParam.ak m),(bk h λq n h=>(b8 (LB n) (.d (sD h (λo h=>?_) (λo h=>?_)))))⟩));refine .d ?_;exact amS;exact anM;exact anx;exact amR
def jL (a:List bZ) (b:Int) (c:Int):Option hJ:=if c<(a.length:Int)then idx a c>>=λd=>if(af (b - (d.length:Int)))<0 then some (.inr (-1))else jL a (af (b - (d.length:Int))) (af (c+1))else some (.inl b) partial_fixpoint
def qu (a:List bZ) (b:Int):Option (Int):=if(af (b - (a.length:Int)))<0 then some (-1)else((jL a (af (b - (a.length:Int))) 0:Option hJ)>>=λc=>match c with | .inr r=>some r | .inl y2=>some y2)
theorem GU {a:List bZ} {b:Int} {r:Int} (h:qu a b=some r):ACall Tryz.prog 124 [sl 1 cS a,pI b] [] (λres h=>res=pI r/\h=[]):=by
 refine cQ Tryz.func124 ?_;unfold qu at h;refine .d (.d (.d (.d (sD h (λj h=>?_) (λj h=>?_)))));exact anw;obtain⟨c,h,yt⟩:=bd h;refine .cut (λσ η=>∃y2,.inl y2=c/\σ=[(1,pI y2)]/\η=[]) ?_ ?_;refine .d ?_;refine le (jL.partial_correctness a (motive:=λe f g=>c=g->aw _ _ [(0,sl 1 cS a),(1,pI e),(5,pI f)] []) ?_ (af (b - (a.length:Int))) 0 c h rfl) (tk [] tr ⟨⟩);intro n Gs e f g h k;subst k;refine aw.round (.d (.d (sD h (λl h=>?_) (λl h=>?_))));refine .d (.d (bk h λo i h=>⟨av i,_,(ao i).trans rfl,(.d (sD h (λm h=>?_) (λm h=>?_)))⟩));refine .d ?_;exact amS;exact anM;exact anx;exact amR
def vr (a:bV) (b:Int):Option (Int):=if(af (b - (a.fS.length:Int)))<0 then some (-1)else if(af ((af (b - (a.fS.length:Int))) - (a.fT.length:Int)))<0 then some (-1)else some (af ((af (b - (a.fS.length:Int))) - (a.fT.length:Int)))
theorem QD {a:bV} {b:Int} {r:Int} (h:vr a b=some r):ACall Tryz.prog 176 [.agg a.lit,pI b] [] (λres h=>res=pI r/\h=[]):=by
 refine cQ Tryz.func176 ?_;unfold vr at h;refine .d (.d ⟨rfl,rfl,_,rfl,(.d (.d (sD h (λc h=>?_) (λc h=>?_))))⟩);exact anw;refine .d ⟨rfl,rfl,_,rfl,(.d (.d (sD h (λe h=>?_) (λe h=>?_))))⟩;exact anw;exact anw
def nQ (a:List bV) (c:Int) (b:Int):Option hJ:=if b<(a.length:Int)then idx a b>>=λe=>vr e c>>=λd=>if d<0 then some (.inr (-1))else nQ a d (af (b+1))else some (.inl c) partial_fixpoint
def vG (a:List bV) (b:Int):Option (Int):=if(af (b - (a.length:Int)))<0 then some (-1)else((nQ a (af (b - (a.length:Int))) 0:Option hJ)>>=λc=>match c with | .inr r=>some r | .inl y2=>some y2)
theorem NW {a:List bV} {b:Int} {r:Int} (h:vG a b=some r):ACall Tryz.prog 125 [sl 5 bV.cells a,pI b] [] (λres h=>res=pI r/\h=[]):=by
 refine cQ Tryz.func125 ?_;unfold vG at h;refine .d (.d (.d (.d (sD h (λj h=>?_) (λj h=>?_)))));exact anw;obtain⟨c,h,yt⟩:=bd h;refine .cut (λσ η=>∃y2,.inl y2=c/\σ=[(1,pI y2)]/\η=[]) ?_ ?_;refine .d ?_;refine le (nQ.partial_correctness a (motive:=λe f g=>c=g->aw _ _ [(0,sl 5 bV.cells a),(1,pI e),(5,pI f)] []) ?_ (af (b - (a.length:Int))) 0 c h rfl) (tk [] tr ⟨⟩);intro p Gs e f g h k;subst k;refine aw.round (.d (.d (sD h (λl h=>?_) (λl h=>?_))));refine .d (.d (bk h λm i h=>⟨av i,_,(ao i).trans (bV.ak m),(bk h λq n h=>(b8 (QD n) (.d (sD h (λo h=>?_) (λo h=>?_)))))⟩));refine .d ?_;exact amS;exact anM;exact anx;exact amR
def tD (a:aW) (c:Int):Option (Int):=if(af (c - (a.az.length:Int)))<0 then some (-1)else pR a.bf (af (c - (a.az.length:Int)))>>=λd=>if d<0 then some (-1)else pR a.cx d>>=λe=>if e<0 then some (-1)else qu a.ah e>>=λf=>if f<0 then some (-1)else vG a.aR f>>=λb=>if b<0 then some (-1)else some b
theorem NX {a:aW} {b:Int} {r:Int} (h:tD a b=some r):ACall Tryz.prog 67 [.agg a.lit,pI b] [] (λres h=>res=pI r/\h=[]):=by
 refine cQ Tryz.func67 ?_;unfold tD at h;refine .d (.d ⟨rfl,rfl,_,rfl,(.d (.d (sD h (λc h=>?_) (λc h=>?_))))⟩);exact anw;refine .d ⟨rfl,rfl,_,rfl,(bk h λo e h=>(b8 (Bi e) (.d (.d (sD h (λf h=>?_) (λf h=>?_))))))⟩;exact anw;refine .d ⟨rfl,rfl,_,rfl,(bk h λp g h=>(b8 (Bi g) (.d (.d (sD h (λi h=>?_) (λi h=>?_))))))⟩;exact anw;refine .d ⟨rfl,rfl,_,rfl,(bk h λq j h=>(b8 (GU j) (.d (.d (sD h (λk h=>?_) (λk h=>?_))))))⟩;exact anw;refine .d ⟨rfl,rfl,_,rfl,(bk h λl m h=>(b8 (NW m) (.d (.d (sD h (λn h=>?_) (λn h=>?_))))))⟩;exact anw;exact anw
def mq (a:List aW) (c:Int) (b:Int):Option hJ:=if b<(a.length:Int)then idx a b>>=λe=>tD e c>>=λd=>if d<0 then some (.inr (-1))else mq a d (af (b+1))else some (.inl c) partial_fixpoint
def tT (a:List aW) (b:Int):Option (Int):=if(af (b - (a.length:Int)))<0 then some (-1)else((mq a (af (b - (a.length:Int))) 0:Option hJ)>>=λc=>match c with | .inr r=>some r | .inl y2=>some y2)
theorem LD {a:List aW} {b:Int} {r:Int} (h:tT a b=some r):ACall Tryz.prog 17 [sl 6 aW.cells a,pI b] [] (λres h=>res=pI r/\h=[]):=by
 refine cQ Tryz.func17 ?_;unfold tT at h;refine .d (.d (.d (.d (sD h (λj h=>?_) (λj h=>?_)))));exact anw;obtain⟨c,h,yt⟩:=bd h;refine .cut (λσ η=>∃y2,.inl y2=c/\σ=[(1,pI y2)]/\η=[]) ?_ ?_;refine .d ?_;refine le (mq.partial_correctness a (motive:=λe f g=>c=g->aw _ _ [(0,sl 6 aW.cells a),(1,pI e),(5,pI f)] []) ?_ (af (b - (a.length:Int))) 0 c h rfl) (tk [] tr ⟨⟩);intro p Gs e f g h k;subst k;refine aw.round (.d (.d (sD h (λl h=>?_) (λl h=>?_))));refine .d (.d (bk h λm i h=>⟨av i,_,(ao i).trans (aW.ak m),(bk h λq n h=>(b8 (NX n) (.d (sD h (λo h=>?_) (λo h=>?_)))))⟩));refine .d ?_;exact amS;exact anM;exact anx;exact amR
def xM (a:cw) (b:Int):Option (Int):=if(af (b - (a.ck.length:Int)))<0 then some (-1)else some (af (b - (a.ck.length:Int)))
theorem QE {a:cw} {b:Int} {r:Int} (h:xM a b=some r):ACall Tryz.prog 219 [.agg a.lit,pI b] [] (λres h=>res=pI r/\h=[]):=by
 refine cQ Tryz.func219 ?_;unfold xM at h;refine .d (.d ⟨rfl,rfl,_,rfl,(.d (.d (sD h (λc h=>?_) (λc h=>?_))))⟩);exact anw;exact anw
mutual
def mP (a:ae) (b:Int):Option (Int):=if(af (b - (a.ck.length:Int)))<0 then some (-1)else uZ a.al (af (b - (a.ck.length:Int)))>>=λc=>if c<0 then some (-1)else some c partial_fixpoint
def uZ (a:List aj) (b:Int):Option (Int):=if(af (b - (a.length:Int)))<0 then some (-1)else((kE a (af (b - (a.length:Int))) 0:Option hJ)>>=λc=>match c with | .inr r=>some r | .inl d=>some d) partial_fixpoint
def wK (c:aj) (d:Int):Option (Int):=xM c.bA d>>=λa=>if a<0 then some (-1)else mP c.aA a>>=λb=>if b<0 then some (-1)else some b partial_fixpoint
def kE (b:List aj) (d:Int) (c:Int):Option hJ:=if c<(b.length:Int)then idx b c>>=λe=>wK e d>>=λa=>if a<0 then some (.inr (-1))else kE b a (af (c+1))else some (.inl d) partial_fixpoint
end
def aa0 (a:ae) (b:Int) (r:Int):Prop:=sg5 69 a b r
def VA (a:List aj) (b:Int) (r:Int):Prop:=sg9 128 a b r
def QF (a:aj) (b:Int) (r:Int):Prop:=ACall Tryz.prog 179 [.agg a.lit,pI b] [] (λres h=>res=pI r/\h=[])
inductive ly:(List aj)->Int->Int->hJ->Prop
 | mk (aeZ:aj->Int->Option (Int)) (aj8:∀a0 a1 r,aeZ a0 a1=some r->QF a0 a1 r) (wL:(List aj)->Int->Int->Option hJ) (QG:∀a0 NY ax o,wL a0 NY ax=some o->ly a0 NY ax o) (a0:List aj) (NY:Int) (ax:Int) (o:(Int) ⊕ Int) (h:(
 (if ax<(a0.length:Int)then
 idx a0 ax>>=λcm=>
 aeZ cm NY>>=λv20=>
 (if v20<0 then
 some (.inr (-1))
 else
 wL a0 v20 (af (ax+1)))
 else
 some (.inl NY))
 )=some o):ly a0 NY ax o
theorem GV:(∀a b r,mP a b=some r->aa0 a b r)/\(∀a b r,uZ a b=some r->VA a b r)/\(∀a c e o,kE a c e=some o->ly a c e o)/\(∀a b r,wK a b=some r->QF a b r):=by
 refine mP.mutual_partial_correctness aa0 VA ly QF ?_ ?_ ?_ ?_;intro _ g a b r h;refine cQ Tryz.func69 ?_;refine .d (.d ⟨rfl,rfl,_,rfl,(.d (.d (sD h (λu h=>?_) (λu h=>?_))))⟩);exact anw;refine .d ⟨rfl,rfl,_,rfl,(bk h λM v h=>(b8 (g _ _ _ v) (.d (.d (sD h (λw h=>?_) (λw h=>?_))))))⟩;exact anw;exact anw;intro _ i a b r h;refine cQ Tryz.func128 ?_;refine .d (.d (.d (.d (sD h (λx h=>?_) (λx h=>?_)))));exact anw;obtain⟨q,h,Kv⟩:=bd h;refine .cut (λσ η=>∃j,.inl j=q/\σ=[(1,pI j)]/\η=[]) ?_ ?_;refine .d ?_;have k:=i _ _ _ _ h;refine le (ly.rec (motive:=λf c e s _=>a=f->q=s->aw _ _ [(0,sl 8 aj.cells a),(1,pI c),(5,pI e)] []) ?_ k rfl rfl) (tk [] tr ⟨⟩);intro _ l _ _ f c e s h m  n y;subst n;subst y;refine aw.round (.d (.d (sD h (λz h=>?_) (λz h=>?_))));refine .d (.d (bk h λA t h=>⟨av t,_,(ao t).trans (aj.ak A),(bk h λB C h=>(b8 (l _ _ _ C) (.d (sD h (λD h=>?_) (λD h=>?_)))))⟩));refine .d ?_;obtain rfl:=si h;replace h:=Kv;exact eI h;exact lg (m _ _ _ _ h rfl rfl) (tk [] tr ⟨⟩);exact anx;rintro _ _ ⟨j,rfl,rfl,rfl⟩;replace h:=Kv;exact anw;intro F0 F1 E F a c e o h;exact .mk F1 F F0 E a c e o h;intro _ p a b r h;refine cQ Tryz.func179 ?_;refine .d (.d ⟨rfl,rfl,_,rfl,(bk h λG H h=>(b8 (QE H) (.d (.d (sD h (λI h=>?_) (λI h=>?_))))))⟩);exact anw;refine .d ⟨rfl,rfl,_,rfl,(bk h λJ K h=>(b8 (p _ _ _ K) (.d (.d (sD h (λL h=>?_) (λL h=>?_))))))⟩;exact anw;exact anw
theorem CL {a:ae} {b:Int} {r:Int} (h:mP a b=some r):sg5 69 a b r:=GV.1 a b r h
def rH (a:aU) (b:Int):Option (Int):=if(af (b - (a.az.length:Int)))<0 then some (-1)else if(af ((af (b - (a.az.length:Int))) - (a.fq.length:Int)))<0 then some (-1)else mP a.bR (af ((af (b - (a.az.length:Int))) - (a.fq.length:Int)))>>=λc=>if c<0 then some (-1)else some c
theorem LF {a:aU} {b:Int} {r:Int} (h:rH a b=some r):ACall Tryz.prog 177 [.agg a.lit,pI b] [] (λres h=>res=pI r/\h=[]):=by
 refine cQ Tryz.func177 ?_;unfold rH at h;refine .d (.d ⟨rfl,rfl,_,rfl,(.d (.d (sD h (λc h=>?_) (λc h=>?_))))⟩);exact anw;refine .d ⟨rfl,rfl,_,rfl,(.d (.d (sD h (λe h=>?_) (λe h=>?_))))⟩;exact anw;refine .d ⟨rfl,rfl,_,rfl,(bk h λi f h=>(b8 (CL f) (.d (.d (sD h (λg h=>?_) (λg h=>?_))))))⟩;exact anw;exact anw
def kG (a:List aU) (c:Int) (b:Int):Option hJ:=if b<(a.length:Int)then idx a b>>=λe=>rH e c>>=λd=>if d<0 then some (.inr (-1))else kG a d (af (b+1))else some (.inl c) partial_fixpoint
def rZ (a:List aU) (b:Int):Option (Int):=if(af (b - (a.length:Int)))<0 then some (-1)else((kG a (af (b - (a.length:Int))) 0:Option hJ)>>=λc=>match c with | .inr r=>some r | .inl y2=>some y2)
theorem Jz {a:List aU} {b:Int} {r:Int} (h:rZ a b=some r):ACall Tryz.prog 126 [sl 8 aU.cells a,pI b] [] (λres h=>res=pI r/\h=[]):=by
 refine cQ Tryz.func126 ?_;unfold rZ at h;refine .d (.d (.d (.d (sD h (λj h=>?_) (λj h=>?_)))));exact anw;obtain⟨c,h,yt⟩:=bd h;refine .cut (λσ η=>∃y2,.inl y2=c/\σ=[(1,pI y2)]/\η=[]) ?_ ?_;refine .d ?_;refine le (kG.partial_correctness a (motive:=λe f g=>c=g->aw _ _ [(0,sl 8 aU.cells a),(1,pI e),(5,pI f)] []) ?_ (af (b - (a.length:Int))) 0 c h rfl) (tk [] tr ⟨⟩);intro p Gs e f g h k;subst k;refine aw.round (.d (.d (sD h (λl h=>?_) (λl h=>?_))));refine .d (.d (bk h λm i h=>⟨av i,_,(ao i).trans (aU.ak m),(bk h λq n h=>(b8 (LF n) (.d (sD h (λo h=>?_) (λo h=>?_)))))⟩));refine .d ?_;exact amS;exact anM;exact anx;exact amR
def pS (a:aQ) (b:Int):Option (Int):=if(af (b - (a.az.length:Int)))<0 then some (-1)else if(af ((af (b - (a.az.length:Int))) - (a.fq.length:Int)))<0 then some (-1)else if(af ((af ((af (b - (a.az.length:Int))) - (a.fq.length:Int))) - (a.tq.length:Int)))<0 then some (-1)else some (af ((af ((af (b - (a.az.length:Int))) - (a.fq.length:Int))) - (a.tq.length:Int)))
theorem JA {a:aQ} {b:Int} {r:Int} (h:pS a b=some r):ACall Tryz.prog 178 [.agg a.lit,pI b] [] (λres h=>res=pI r/\h=[]):=by
 refine cQ Tryz.func178 ?_;unfold pS at h;refine .d (.d ⟨rfl,rfl,_,rfl,(.d (.d (sD h (λc h=>?_) (λc h=>?_))))⟩);exact anw;refine .d ⟨rfl,rfl,_,rfl,(.d (.d (sD h (λe h=>?_) (λe h=>?_))))⟩;exact anw;refine .d ⟨rfl,rfl,_,rfl,(.d (.d (sD h (λf h=>?_) (λf h=>?_))))⟩;exact anw;exact anw
def jM (a:List aQ) (c:Int) (b:Int):Option hJ:=if b<(a.length:Int)then idx a b>>=λe=>pS e c>>=λd=>if d<0 then some (.inr (-1))else jM a d (af (b+1))else some (.inl c) partial_fixpoint
def qv (a:List aQ) (b:Int):Option (Int):=if(af (b - (a.length:Int)))<0 then some (-1)else((jM a (af (b - (a.length:Int))) 0:Option hJ)>>=λc=>match c with | .inr r=>some r | .inl y2=>some y2)
theorem GY {a:List aQ} {b:Int} {r:Int} (h:qv a b=some r):ACall Tryz.prog 127 [sl 5 aQ.cells a,pI b] [] (λres h=>res=pI r/\h=[]):=by
 refine cQ Tryz.func127 ?_;unfold qv at h;refine .d (.d (.d (.d (sD h (λj h=>?_) (λj h=>?_)))));exact anw;obtain⟨c,h,yt⟩:=bd h;refine .cut (λσ η=>∃y2,.inl y2=c/\σ=[(1,pI y2)]/\η=[]) ?_ ?_;refine .d ?_;refine le (jM.partial_correctness a (motive:=λe f g=>c=g->aw _ _ [(0,sl 5 aQ.cells a),(1,pI e),(5,pI f)] []) ?_ (af (b - (a.length:Int))) 0 c h rfl) (tk [] tr ⟨⟩);intro p Gs e f g h k;subst k;refine aw.round (.d (.d (sD h (λl h=>?_) (λl h=>?_))));refine .d (.d (bk h λm i h=>⟨av i,_,(ao i).trans (aQ.ak m),(bk h λq n h=>(b8 (JA n) (.d (sD h (λo h=>?_) (λo h=>?_)))))⟩));refine .d ?_;exact amS;exact anM;exact anx;exact amR
def rI (a:aN) (b:Int):Option (Int):=if(af (b - (a.az.length:Int)))<0 then some (-1)else if(af ((af (b - (a.az.length:Int))) - (a.iE.length:Int)))<0 then some (-1)else rZ a.bp (af ((af (b - (a.az.length:Int))) - (a.iE.length:Int)))>>=λc=>if c<0 then some (-1)else qv a.bM c>>=λd=>if d<0 then some (-1)else some d
theorem LG {a:aN} {b:Int} {r:Int} (h:rI a b=some r):ACall Tryz.prog 68 [.agg a.lit,pI b] [] (λres h=>res=pI r/\h=[]):=by
 refine cQ Tryz.func68 ?_;unfold rI at h;refine .d (.d ⟨rfl,rfl,_,rfl,(.d (.d (sD h (λc h=>?_) (λc h=>?_))))⟩);exact anw;refine .d ⟨rfl,rfl,_,rfl,(.d (.d (sD h (λe h=>?_) (λe h=>?_))))⟩;exact anw;refine .d ⟨rfl,rfl,_,rfl,(bk h λk f h=>(b8 (Jz f) (.d (.d (sD h (λg h=>?_) (λg h=>?_))))))⟩;exact anw;refine .d ⟨rfl,rfl,_,rfl,(bk h λl i h=>(b8 (GY i) (.d (.d (sD h (λj h=>?_) (λj h=>?_))))))⟩;exact anw;exact anw
def kH (a:List aN) (c:Int) (b:Int):Option hJ:=if b<(a.length:Int)then idx a b>>=λe=>rI e c>>=λd=>if d<0 then some (.inr (-1))else kH a d (af (b+1))else some (.inl c) partial_fixpoint
def sc (a:List aN) (b:Int):Option (Int):=if(af (b - (a.length:Int)))<0 then some (-1)else((kH a (af (b - (a.length:Int))) 0:Option hJ)>>=λc=>match c with | .inr r=>some r | .inl y2=>some y2)
theorem JB {a:List aN} {b:Int} {r:Int} (h:sc a b=some r):ACall Tryz.prog 18 [sl 4 aN.cells a,pI b] [] (λres h=>res=pI r/\h=[]):=by
 refine cQ Tryz.func18 ?_;unfold sc at h;refine .d (.d (.d (.d (sD h (λj h=>?_) (λj h=>?_)))));exact anw;obtain⟨c,h,yt⟩:=bd h;refine .cut (λσ η=>∃y2,.inl y2=c/\σ=[(1,pI y2)]/\η=[]) ?_ ?_;refine .d ?_;refine le (kH.partial_correctness a (motive:=λe f g=>c=g->aw _ _ [(0,sl 4 aN.cells a),(1,pI e),(5,pI f)] []) ?_ (af (b - (a.length:Int))) 0 c h rfl) (tk [] tr ⟨⟩);intro p Gs e f g h k;subst k;refine aw.round (.d (.d (sD h (λl h=>?_) (λl h=>?_))));refine .d (.d (bk h λm i h=>⟨av i,_,(ao i).trans (aN.ak m),(bk h λq n h=>(b8 (LG n) (.d (sD h (λo h=>?_) (λo h=>?_)))))⟩));refine .d ?_;exact amS;exact anM;exact anx;exact amR
def lQ (a:bb) (d:Int):Option (Int):=tT a.bT d>>=λb=>if b<0 then some (-1)else sc a.bs b>>=λc=>if c<0 then some (-1)else some c
theorem GZ {a:bb} {b:Int} {r:Int} (h:lQ a b=some r):ACall Tryz.prog 4 [.agg a.lit,pI b] [] (λres h=>res=pI r/\h=[]):=by
 refine cQ Tryz.func4 ?_;unfold lQ at h;refine .d (.d ⟨rfl,rfl,_,rfl,(bk h λi c h=>(b8 (LD c) (.d (.d (sD h (λe h=>?_) (λe h=>?_))))))⟩);exact anw;refine .d ⟨rfl,rfl,_,rfl,(bk h λj f h=>(b8 (JB f) (.d (.d (sD h (λg h=>?_) (λg h=>?_))))))⟩;exact anw;exact anw
def nS (a:aq) (b:Int):Option (Int):=if(af (b - (a.az.length:Int)))<0 then some (-1)else mP a.aA (af (b - (a.az.length:Int)))>>=λc=>if c<0 then some (-1)else some c
theorem G5 {a:aq} {b:Int} {r:Int} (h:nS a b=some r):ACall Tryz.prog 19 [.agg a.lit,pI b] [] (λres h=>res=pI r/\h=[]):=by
 refine cQ Tryz.func19 ?_;unfold nS at h;refine .d (.d ⟨rfl,rfl,_,rfl,(.d (.d (sD h (λc h=>?_) (λc h=>?_))))⟩);exact anw;refine .d ⟨rfl,rfl,_,rfl,(bk h λg e h=>(b8 (CL e) (.d (.d (sD h (λf h=>?_) (λf h=>?_))))))⟩;exact anw;exact anw
def iW (a:List aq) (c:Int) (b:Int):Option hJ:=if b<(a.length:Int)then idx a b>>=λe=>nS e c>>=λd=>if d<0 then some (.inr (-1))else iW a d (af (b+1))else some (.inl c) partial_fixpoint
def kg (a:List aq) (b:Int):Option (Int):=if(af (b - (a.length:Int)))<0 then some (-1)else((iW a (af (b - (a.length:Int))) 0:Option hJ)>>=λc=>match c with | .inr r=>some r | .inl y2=>some y2)
theorem FE {a:List aq} {b:Int} {r:Int} (h:kg a b=some r):ACall Tryz.prog 5 [sl 6 aq.cells a,pI b] [] (λres h=>res=pI r/\h=[]):=by
 refine cQ Tryz.func5 ?_;unfold kg at h;refine .d (.d (.d (.d (sD h (λj h=>?_) (λj h=>?_)))));exact anw;obtain⟨c,h,yt⟩:=bd h;refine .cut (λσ η=>∃y2,.inl y2=c/\σ=[(1,pI y2)]/\η=[]) ?_ ?_;refine .d ?_;refine le (iW.partial_correctness a (motive:=λe f g=>c=g->aw _ _ [(0,sl 6 aq.cells a),(1,pI e),(5,pI f)] []) ?_ (af (b - (a.length:Int))) 0 c h rfl) (tk [] tr ⟨⟩);intro p Gs e f g h k;subst k;refine aw.round (.d (.d (sD h (λl h=>?_) (λl h=>?_))));refine .d (.d (bk h λm i h=>⟨av i,_,(ao i).trans (aq.ak m),(bk h λq n h=>(b8 (G5 n) (.d (sD h (λo h=>?_) (λo h=>?_)))))⟩));refine .d ?_;exact amS;exact anM;exact anx;exact amR
end Go.Am
