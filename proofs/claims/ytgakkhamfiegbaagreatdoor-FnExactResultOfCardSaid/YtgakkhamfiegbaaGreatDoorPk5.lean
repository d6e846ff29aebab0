/- Texts of the proof, joined and shortened. -/
import Derived.Test.YtgakkhamfiegbaaGreatDoorPk4
import Derived.Test.YtgakkhamfiegbaaGreatDoorProg
import Derived.Test.YtgakkhamfiegbaaGreatDoorShelf
import Derived.WalkKit
import Derived.BigCall
import Derived.DataReads
import Derived.ChangeArms
set_option linter.unusedVariables false
set_option linter.unusedSimpArgs false
namespace Go.Am
open Go Go.RowKit Go.Proofs
structure bV where
 bO:Bool
 bb:Int
 bp:cx
 deriving DecidableEq,Inhabited
abbrev bV.lit (x:bV):List PV:=[.bool x.bO,.int .i64 x.bb,.str x.bp]
def bV.cells (x:bV):List PV:=x.lit
theorem bV.al (x:bV):x.cells=x.lit:=rfl
theorem bV.bK (x:bV):x.cells.all bW=true:=rfl
instance:qN bV.cells:=⟨bV.bK⟩
mutual
inductive ai where
 | mk (aU:Int) (bb:Int) (bp:cx) (aE:Int) (aj:List af)
inductive af where
 | mk (aN:bV) (av:ai)
end
def ai.aU:ai->Int | .mk x _ _ _ _=>x
def ai.bb:ai->Int | .mk _ x _ _ _=>x
def ai.bp:ai->cx | .mk _ _ x _ _=>x
def ai.aE:ai->Int | .mk _ _ _ x _=>x
def ai.aj:ai->List af | .mk _ _ _ _ x=>x
@[simp] theorem ai.lF (a:Int) (b:Int) (c:cx) (d:Int) (e:List af):(ai.mk a b c d e).aU=a:=rfl
@[simp] theorem ai.oU (b:Int) (a:Int) (c:cx) (d:Int) (e:List af):(ai.mk b a c d e).bb=a:=rfl
@[simp] theorem ai.oV (b:Int) (c:Int) (a:cx) (d:Int) (e:List af):(ai.mk b c a d e).bp=a:=rfl
@[simp] theorem ai.jM (b:Int) (c:Int) (d:cx) (a:Int) (e:List af):(ai.mk b c d a e).aE=a:=rfl
@[simp] theorem ai.dh (b:Int) (c:Int) (d:cx) (e:Int) (a:List af):(ai.mk b c d e a).aj=a:=rfl
def af.aN:af->bV | .mk x _=>x
def af.av:af->ai | .mk _ x=>x
@[simp] theorem af.T0 (a:bV) (b:ai):(af.mk a b).aN=a:=rfl
@[simp] theorem af.T1 (b:bV) (a:ai):(af.mk b a).av=a:=rfl
instance:Inhabited ai:=⟨.mk 0 0 [] 0 []⟩
instance:Inhabited af:=⟨.mk default default⟩
mutual
def ai.cells:ai->List PV | .mk b c d e a=>[.int .i64 b]++[.int .i64 c]++[.str d]++[.int .i64 e]++[.gn 8 a.length (λi=>(af.GU a).getD i [])]
def af.cells:af->List PV | .mk a b=>a.lit++b.cells
def af.GU:List af->List (List PV) | []=>[] | x::r=>x.cells::af.GU r
end
theorem af.CA:∀(l:List af),af.GU l=l.map af.cells
 | []=>rfl
 | a::r=>by unfold af.GU;rw[af.CA r];rfl
abbrev ai.lit (x:ai):List PV:=[.int .i64 x.aU,.int .i64 x.bb,.str x.bp,.int .i64 x.aE,sl 8 af.cells x.aj]
abbrev af.lit (x:af):List PV:=[.bool x.aN.bO,.int .i64 x.aN.bb,.str x.aN.bp,.int .i64 x.av.aU,.int .i64 x.av.bb,.str x.av.bp,.int .i64 x.av.aE,sl 8 af.cells x.av.aj]
theorem ai.al (x:ai):x.cells=x.lit:=by
 cases x with
 | mk a b c d e=>
  unfold ai.cells;rw[af.CA];rfl
theorem ai.bK (x:ai):x.cells.all bW=true:=by rw[ai.al];rfl
instance:qN ai.cells:=⟨ai.bK⟩
theorem af.al (x:af):x.cells=x.lit:=by
 cases x with
 | mk a b=>
  unfold af.cells;rw[ai.al];rfl
theorem af.bK (x:af):x.cells.all bW=true:=by rw[af.al];rfl
instance:qN af.cells:=⟨af.bK⟩
structure aS where
 aN:bV
 av:ai
 bS:Bool
 di:Int
 deriving Inhabited
abbrev aS.lit (x:aS):List PV:=[.bool x.aN.bO,.int .i64 x.aN.bb,.str x.aN.bp,.int .i64 x.av.aU,.int .i64 x.av.bb,.str x.av.bp,.int .i64 x.av.aE,sl 8 af.cells x.av.aj,.bool x.bS,.int .i64 x.di]
def aS.cells (x:aS):List PV:=x.lit
theorem aS.al (x:aS):x.cells=x.lit:=rfl
theorem aS.bK (x:aS):x.cells.all bW=true:=rfl
instance:qN aS.cells:=⟨aS.bK⟩
structure bH where
 bZ:Bool
 aG:List Int
 ak:List aS
 aE:Int
 aZ:Int
 deriving Inhabited
abbrev bH.lit (x:bH):List PV:=[.bool x.bZ,sl 1 cI x.aG,sl 10 aS.cells x.ak,.int .i64 x.aE,.int .i64 x.aZ]
def bH.cells (x:bH):List PV:=x.lit
theorem bH.al (x:bH):x.cells=x.lit:=rfl
theorem bH.bK (x:bH):x.cells.all bW=true:=rfl
instance:qN bH.cells:=⟨bH.bK⟩
structure aD where
 aZ:Int
 ax:bH
 deriving Inhabited
abbrev aD.lit (x:aD):List PV:=[.int .i64 x.aZ,.bool x.ax.bZ,sl 1 cI x.ax.aG,sl 10 aS.cells x.ax.ak,.int .i64 x.ax.aE,.int .i64 x.ax.aZ]
def aD.cells (x:aD):List PV:=x.lit
theorem aD.al (x:aD):x.cells=x.lit:=rfl
theorem aD.bK (x:aD):x.cells.all bW=true:=rfl
instance:qN aD.cells:=⟨aD.bK⟩
structure bD where
 aw:List aD
 deriving Inhabited
abbrev bD.lit (x:bD):List PV:=[sl 6 aD.cells x.aw]
def bD.cells (x:bD):List PV:=x.lit
theorem bD.al (x:bD):x.cells=x.lit:=rfl
theorem bD.bK (x:bD):x.cells.all bW=true:=rfl
instance:qN bD.cells:=⟨bD.bK⟩
structure ay where
 cu:cx
 rz:cx
 deriving DecidableEq,Inhabited
abbrev ay.lit (x:ay):List PV:=[.str x.cu,.str x.rz]
def ay.cells (x:ay):List PV:=x.lit
theorem ay.al (x:ay):x.cells=x.lit:=rfl
theorem ay.bK (x:ay):x.cells.all bW=true:=rfl
instance:qN ay.cells:=⟨ay.bK⟩
structure aC where
 ir:Int
 bO:cx
 deriving DecidableEq,Inhabited
abbrev aC.lit (x:aC):List PV:=[.int .i64 x.ir,.str x.bO]
def aC.cells (x:aC):List PV:=x.lit
theorem aC.al (x:aC):x.cells=x.lit:=rfl
theorem aC.bK (x:aC):x.cells.all bW=true:=rfl
instance:qN aC.cells:=⟨aC.bK⟩
structure aR where
 cm:cx
 az:List ay
 ao:List aC
 deriving DecidableEq,Inhabited
abbrev aR.lit (x:aR):List PV:=[.str x.cm,sl 2 ay.cells x.az,sl 2 aC.cells x.ao]
def aR.cells (x:aR):List PV:=x.lit
theorem aR.al (x:aR):x.cells=x.lit:=rfl
theorem aR.bK (x:aR):x.cells.all bW=true:=rfl
instance:qN aR.cells:=⟨aR.bK⟩
structure bc where
 cu:cx
 jF:Int
 deriving DecidableEq,Inhabited
abbrev bc.lit (x:bc):List PV:=[.str x.cu,.int .i64 x.jF]
def bc.cells (x:bc):List PV:=x.lit
theorem bc.al (x:bc):x.cells=x.lit:=rfl
theorem bc.bK (x:bc):x.cells.all bW=true:=rfl
instance:qN bc.cells:=⟨bc.bK⟩
structure aF where
 cu:cx
 av:ai
 deriving Inhabited
abbrev aF.lit (x:aF):List PV:=[.str x.cu,.int .i64 x.av.aU,.int .i64 x.av.bb,.str x.av.bp,.int .i64 x.av.aE,sl 8 af.cells x.av.aj]
def aF.cells (x:aF):List PV:=x.lit
theorem aF.al (x:aF):x.cells=x.lit:=rfl
theorem aF.bK (x:aF):x.cells.all bW=true:=rfl
instance:qN aF.cells:=⟨aF.bK⟩
structure aO where
 eD:cx
 tS:Bool
 cJ:List aF
 deriving Inhabited
abbrev aO.lit (x:aO):List PV:=[.str x.eD,.bool x.tS,sl 6 aF.cells x.cJ]
def aO.cells (x:aO):List PV:=x.lit
theorem aO.al (x:aO):x.cells=x.lit:=rfl
theorem aO.bK (x:aO):x.cells.all bW=true:=rfl
instance:qN aO.cells:=⟨aO.bK⟩
structure aH where
 cC:Int
 bh:List Int
 bM:Int
 bx:cx
 aP:cx
 deriving DecidableEq,Inhabited
abbrev aH.lit (x:aH):List PV:=[.int .i64 x.cC,sl 1 cI x.bh,.int .i64 x.bM,.str x.bx,.str x.aP]
def aH.cells (x:aH):List PV:=x.lit
theorem aH.al (x:aH):x.cells=x.lit:=rfl
theorem aH.bK (x:aH):x.cells.all bW=true:=rfl
instance:qN aH.cells:=⟨aH.bK⟩
structure bX where
 jF:Int
 av:ai
 deriving Inhabited
abbrev bX.lit (x:bX):List PV:=[.int .i64 x.jF,.int .i64 x.av.aU,.int .i64 x.av.bb,.str x.av.bp,.int .i64 x.av.aE,sl 8 af.cells x.av.aj]
def bX.cells (x:bX):List PV:=x.lit
theorem bX.al (x:bX):x.cells=x.lit:=rfl
theorem bX.bK (x:bX):x.cells.all bW=true:=rfl
instance:qN bX.cells:=⟨bX.bK⟩
structure bq where
 cC:Int
 cu:cx
 mV:Bool
 bM:Int
 bP:Int
 bx:cx
 aP:cx
 bh:List Int
 fArgs:List bX
 deriving Inhabited
abbrev bq.lit (x:bq):List PV:=[.int .i64 x.cC,.str x.cu,.bool x.mV,.int .i64 x.bM,.int .i64 x.bP,.str x.bx,.str x.aP,sl 1 cI x.bh,sl 6 bX.cells x.fArgs]
def bq.cells (x:bq):List PV:=x.lit
theorem bq.al (x:bq):x.cells=x.lit:=rfl
theorem bq.bK (x:bq):x.cells.all bW=true:=rfl
instance:qN bq.cells:=⟨bq.bK⟩
structure bI where
 CB:Bool
 eD:cx
 mS:Int
 dp:Int
 aY:Int
 bC:Int
 deriving DecidableEq,Inhabited
abbrev bI.lit (x:bI):List PV:=[.bool x.CB,.str x.eD,.int .i64 x.mS,.int .i64 x.dp,.int .i64 x.aY,.int .i64 x.bC]
def bI.cells (x:bI):List PV:=x.lit
theorem bI.al (x:bI):x.cells=x.lit:=rfl
theorem bI.bK (x:bI):x.cells.all bW=true:=rfl
instance:qN bI.cells:=⟨bI.bK⟩
structure bU where
 Ax:Int
 av:ai
 mS:Int
 iA:Int
 dp:Int
 deriving Inhabited
abbrev bU.lit (x:bU):List PV:=[.int .i64 x.Ax,.int .i64 x.av.aU,.int .i64 x.av.bb,.str x.av.bp,.int .i64 x.av.aE,sl 8 af.cells x.av.aj,.int .i64 x.mS,.int .i64 x.iA,.int .i64 x.dp]
def bU.cells (x:bU):List PV:=x.lit
theorem bU.al (x:bU):x.cells=x.lit:=rfl
theorem bU.bK (x:bU):x.cells.all bW=true:=rfl
instance:qN bU.cells:=⟨bU.bK⟩
structure aX where
 cC:Int
 mS:Int
 ak:List Int
 bf:List ai
 aY:List bq
 aQ:List bI
 bC:List bU
 bM:Int
 bx:cx
 aP:cx
 dq:Int
 cg:Int
 bP:Int
 deriving Inhabited
abbrev aX.lit (x:aX):List PV:=[.int .i64 x.cC,.int .i64 x.mS,sl 1 cI x.ak,sl 5 ai.cells x.bf,sl 9 bq.cells x.aY,sl 6 bI.cells x.aQ,sl 9 bU.cells x.bC,.int .i64 x.bM,.str x.bx,.str x.aP,.int .i64 x.dq,.int .i64 x.cg,.int .i64 x.bP]
def aX.cells (x:aX):List PV:=x.lit
theorem aX.al (x:aX):x.cells=x.lit:=rfl
theorem aX.bK (x:aX):x.cells.all bW=true:=rfl
instance:qN aX.cells:=⟨aX.bK⟩
structure ca where
 oW:Int
 aK:ai
 ae:aX
 deriving Inhabited
abbrev ca.lit (x:ca):List PV:=[.int .i64 x.oW,.int .i64 x.aK.aU,.int .i64 x.aK.bb,.str x.aK.bp,.int .i64 x.aK.aE,sl 8 af.cells x.aK.aj,.int .i64 x.ae.cC,.int .i64 x.ae.mS,sl 1 cI x.ae.ak,sl 5 ai.cells x.ae.bf,sl 9 bq.cells x.ae.aY,sl 6 bI.cells x.ae.aQ,sl 9 bU.cells x.ae.bC,.int .i64 x.ae.bM,.str x.ae.bx,.str x.ae.aP,.int .i64 x.ae.dq,.int .i64 x.ae.cg,.int .i64 x.ae.bP]
def ca.cells (x:ca):List PV:=x.lit
theorem ca.al (x:ca):x.cells=x.lit:=rfl
theorem ca.bK (x:ca):x.cells.all bW=true:=rfl
instance:qN ca.cells:=⟨ca.bK⟩
structure bJ where
 bR:Int
 bA:cx
 jN:Int
 aE:Int
 dB:List ai
 cj:List bc
 ko:bD
 dw:List aO
 cU:List aH
 lz:List ca
 ew:List aX
 fq:aR
 deriving Inhabited
abbrev bJ.lit (x:bJ):List PV:=[.int .i64 x.bR,.str x.bA,.int .i64 x.jN,.int .i64 x.aE,sl 5 ai.cells x.dB,sl 2 bc.cells x.cj,sl 6 aD.cells x.ko.aw,sl 3 aO.cells x.dw,sl 5 aH.cells x.cU,sl 19 ca.cells x.lz,sl 13 aX.cells x.ew,.str x.fq.cm,sl 2 ay.cells x.fq.az,sl 2 aC.cells x.fq.ao]
def bJ.cells (x:bJ):List PV:=x.lit
theorem bJ.al (x:bJ):x.cells=x.lit:=rfl
theorem bJ.bK (x:bJ):x.cells.all bW=true:=rfl
instance:qN bJ.cells:=⟨bJ.bK⟩
structure cp where
 bR:Int
 bA:cx
 oX:cx
 az:List ay
 aW:ai
 deriving Inhabited
abbrev cp.lit (x:cp):List PV:=[.int .i64 x.bR,.str x.bA,.str x.oX,sl 2 ay.cells x.az,.int .i64 x.aW.aU,.int .i64 x.aW.bb,.str x.aW.bp,.int .i64 x.aW.aE,sl 8 af.cells x.aW.aj]
def cp.cells (x:cp):List PV:=x.lit
theorem cp.al (x:cp):x.cells=x.lit:=rfl
theorem cp.bK (x:cp):x.cells.all bW=true:=rfl
instance:qN cp.cells:=⟨cp.bK⟩
instance:Qc bc.cells:=⟨λ_=>rfl⟩
instance:Qc bV.cells:=⟨λ_=>rfl⟩
instance:Qc ay.cells:=⟨λ_=>rfl⟩
instance:Qc aC.cells:=⟨λ_=>rfl⟩
instance:Qc bI.cells:=⟨λ_=>rfl⟩
mutual
inductive af.D:List PV->af->Prop
 | mk (x:af) (n0:Nat) (F0:Nat->Prop) (gN:x.av.aj.length=n0) (f0:Nat->List PV) (h0:∀i (hi:i<x.av.aj.length),af.D (f0 i) x.av.aj[i]) (rA:∀i,n0<=i->f0 i=[]):af.D [.bool x.aN.bO,.int .i64 x.aN.bb,.str x.aN.bp,.int .i64 x.av.aU,.int .i64 x.av.bb,.str x.av.bp,.int .i64 x.av.aE,.aV 8 n0 144 f0 F0] x
inductive ai.D:List PV->ai->Prop
 | mk (x:ai) (n0:Nat) (F0:Nat->Prop) (gN:x.aj.length=n0) (f0:Nat->List PV) (h0:∀i (hi:i<x.aj.length),af.D (f0 i) x.aj[i]) (rA:∀i,n0<=i->f0 i=[]):ai.D [.int .i64 x.aU,.int .i64 x.bb,.str x.bp,.int .i64 x.aE,.aV 8 n0 144 f0 F0] x
end
theorem af.gI {x:af} {b:Nat} {F0:Nat->Prop} {c:Nat->List PV} (a:DR af.D b c x.av.aj):af.D [.bool x.aN.bO,.int .i64 x.aN.bb,.str x.aN.bp,.int .i64 x.av.aU,.int .i64 x.av.bb,.str x.av.bp,.int .i64 x.av.aE,.aV 8 b 144 c F0] x:=.mk x _ _ a.len _ a.at_ a.z
theorem af.fI {cs:List PV} {x:af} (h:af.D cs x):∃(F0:Nat->Prop),∃a:Nat->List PV,cs=[.bool x.aN.bO,.int .i64 x.aN.bb,.str x.aN.bp,.int .i64 x.av.aU,.int .i64 x.av.bb,.str x.av.bp,.int .i64 x.av.aE,.aV 8 x.av.aj.length 144 a F0]/\DR af.D x.av.aj.length a x.av.aj:=by
 cases h with
 | mk _ d F0 b a h0 c=>subst b;exact⟨F0,a,rfl,⟨rfl,h0,c⟩⟩
theorem ai.gI {x:ai} {b:Nat} {F0:Nat->Prop} {c:Nat->List PV} (a:DR af.D b c x.aj):ai.D [.int .i64 x.aU,.int .i64 x.bb,.str x.bp,.int .i64 x.aE,.aV 8 b 144 c F0] x:=.mk x _ _ a.len _ a.at_ a.z
theorem ai.fI {cs:List PV} {x:ai} (h:ai.D cs x):∃(F0:Nat->Prop),∃a:Nat->List PV,cs=[.int .i64 x.aU,.int .i64 x.bb,.str x.bp,.int .i64 x.aE,.aV 8 x.aj.length 144 a F0]/\DR af.D x.aj.length a x.aj:=by
 cases h with
 | mk _ d F0 b a h0 c=>subst b;exact⟨F0,a,rfl,⟨rfl,h0,c⟩⟩
theorem af.fg:∀cs x,af.D cs x->tL cs x.cells:=λcs x h=>af.D.rec (motive_1:=λcs x _=>tL cs x.cells) (motive_2:=λcs x _=>tL cs x.cells) (λx c F0 a d h0 e b=>by rw[af.al];exact⟨.p rfl,.p rfl,.p rfl,.p rfl,.p rfl,.p rfl,.p rfl,.o (eE b a 8 144 F0),trivial⟩) (λx c F0 a d h0 e b=>by rw[ai.al];exact⟨.p rfl,.p rfl,.p rfl,.p rfl,.o (eE b a 8 144 F0),trivial⟩) h
theorem ai.fg:∀cs x,ai.D cs x->tL cs x.cells:=λcs x h=>ai.D.rec (motive_1:=λcs x _=>tL cs x.cells) (motive_2:=λcs x _=>tL cs x.cells) (λx c F0 a d h0 e b=>by rw[af.al];exact⟨.p rfl,.p rfl,.p rfl,.p rfl,.p rfl,.p rfl,.p rfl,.o (eE b a 8 144 F0),trivial⟩) (λx c F0 a d h0 e b=>by rw[ai.al];exact⟨.p rfl,.p rfl,.p rfl,.p rfl,.o (eE b a 8 144 F0),trivial⟩) h
instance:BD af.D af.cells:=⟨af.fg⟩
instance:BD ai.D ai.cells:=⟨ai.fg⟩
theorem af.dt:∀cs x,af.D cs x->fE cs:=λcs x h=>af.D.rec (motive_1:=λcs x _=>fE cs) (motive_2:=λcs x _=>fE cs) (λx c F0 a d h0 e b=>(cP (cP (cP (cP (cP (cP (cP (rB (λi hi=>b i (agp hi a.symm)) yt))))))))) (λx c F0 a d h0 e b=>(cP (cP (cP (cP (rB (λi hi=>b i (agp hi a.symm)) yt)))))) h
theorem ai.dt:∀cs x,ai.D cs x->fE cs:=λcs x h=>ai.D.rec (motive_1:=λcs x _=>fE cs) (motive_2:=λcs x _=>fE cs) (λx c F0 a d h0 e b=>(cP (cP (cP (cP (cP (cP (cP (rB (λi hi=>b i (agp hi a.symm)) yt))))))))) (λx c F0 a d h0 e b=>(cP (cP (cP (cP (rB (λi hi=>b i (agp hi a.symm)) yt)))))) h
instance:NT af.D:=⟨af.dt⟩
instance:NT ai.D:=⟨ai.dt⟩
inductive aF.D:List PV->aF->Prop
 | mk (x:aF) (n0:Nat) (F0:Nat->Prop) (gN:x.av.aj.length=n0) (f0:Nat->List PV) (h0:∀i (hi:i<x.av.aj.length),af.D (f0 i) x.av.aj[i]) (rA:∀i,n0<=i->f0 i=[]):aF.D [.str x.cu,.int .i64 x.av.aU,.int .i64 x.av.bb,.str x.av.bp,.int .i64 x.av.aE,.aV 8 n0 144 f0 F0] x
theorem aF.gI {x:aF} {b:Nat} {F0:Nat->Prop} {c:Nat->List PV} (a:DR af.D b c x.av.aj):aF.D [.str x.cu,.int .i64 x.av.aU,.int .i64 x.av.bb,.str x.av.bp,.int .i64 x.av.aE,.aV 8 b 144 c F0] x:=.mk x _ _ a.len _ a.at_ a.z
theorem aF.fI {cs:List PV} {x:aF} (h:aF.D cs x):∃(F0:Nat->Prop),∃a:Nat->List PV,cs=[.str x.cu,.int .i64 x.av.aU,.int .i64 x.av.bb,.str x.av.bp,.int .i64 x.av.aE,.aV 8 x.av.aj.length 144 a F0]/\DR af.D x.av.aj.length a x.av.aj:=by
 cases h with
 | mk _ d F0 b a h0 c=>subst b;exact⟨F0,a,rfl,⟨rfl,h0,c⟩⟩
theorem aF.fg:∀cs x,aF.D cs x->tL cs x.cells:=λcs x h=>aF.D.rec (motive:=λcs x _=>tL cs x.cells) (λx b F0 a c h0 d=>by rw[aF.al];exact⟨.p rfl,.p rfl,.p rfl,.p rfl,.p rfl,.o (eE (λi hi=>af.fg _ _ (h0 i hi)) a 8 144 F0),trivial⟩) h
instance:BD aF.D aF.cells:=⟨aF.fg⟩
theorem aF.dt:∀cs x,aF.D cs x->fE cs:=λcs x h=>aF.D.rec (motive:=λcs x _=>fE cs) (λx b F0 a c h0 d=>(cP (cP (cP (cP (cP (rB (λi hi=>af.dt _ _ (h0 i (agp hi a.symm))) yt))))))) h
instance:NT aF.D:=⟨aF.dt⟩
inductive aO.D:List PV->aO->Prop
 | mk (x:aO) (n0:Nat) (F0:Nat->Prop) (gN:x.cJ.length=n0) (f0:Nat->List PV) (h0:∀i (hi:i<x.cJ.length),aF.D (f0 i) x.cJ[i]) (rA:∀i,n0<=i->f0 i=[]):aO.D [.str x.eD,.bool x.tS,.aV 6 n0 240 f0 F0] x
theorem aO.gI {x:aO} {b:Nat} {F0:Nat->Prop} {c:Nat->List PV} (a:DR aF.D b c x.cJ):aO.D [.str x.eD,.bool x.tS,.aV 6 b 240 c F0] x:=.mk x _ _ a.len _ a.at_ a.z
theorem aO.fI {cs:List PV} {x:aO} (h:aO.D cs x):∃(F0:Nat->Prop),∃a:Nat->List PV,cs=[.str x.eD,.bool x.tS,.aV 6 x.cJ.length 240 a F0]/\DR aF.D x.cJ.length a x.cJ:=by
 cases h with
 | mk _ d F0 b a h0 c=>subst b;exact⟨F0,a,rfl,⟨rfl,h0,c⟩⟩
theorem aO.fg:∀cs x,aO.D cs x->tL cs x.cells:=λcs x h=>aO.D.rec (motive:=λcs x _=>tL cs x.cells) (λx b F0 a c h0 d=>by rw[aO.al];exact⟨.p rfl,.p rfl,.o (eE (λi hi=>aF.fg _ _ (h0 i hi)) a 6 240 F0),trivial⟩) h
instance:BD aO.D aO.cells:=⟨aO.fg⟩
theorem aO.dt:∀cs x,aO.D cs x->fE cs:=λcs x h=>aO.D.rec (motive:=λcs x _=>fE cs) (λx b F0 a c h0 d=>(cP (cP (rB (λi hi=>aF.dt _ _ (h0 i (agp hi a.symm))) yt)))) h
instance:NT aO.D:=⟨aO.dt⟩
inductive aH.D:List PV->aH->Prop
 | mk (x:aH) (n0:Nat) (F0:Nat->Prop) (gN:x.bh.length=n0):aH.D [.int .i64 x.cC,.aV 1 n0 3 (row cI x.bh) F0,.int .i64 x.bM,.str x.bx,.str x.aP] x
theorem aH.gI {x:aH} {a:Nat} {F0:Nat->Prop} (b:x.bh.length=a):aH.D [.int .i64 x.cC,.aV 1 a 3 (row cI x.bh) F0,.int .i64 x.bM,.str x.bx,.str x.aP] x:=.mk x _ _ b
theorem aH.fI {cs:List PV} {x:aH} (h:aH.D cs x):∃(F0:Nat->Prop),cs=[.int .i64 x.cC,.aV 1 x.bh.length 3 (row cI x.bh) F0,.int .i64 x.bM,.str x.bx,.str x.aP]:=by
 cases h with
 | mk _ b F0 a=>subst a;exact⟨F0,rfl⟩
theorem aH.fg:∀cs x,aH.D cs x->tL cs x.cells:=λcs x h=>aH.D.rec (motive:=λcs x _=>tL cs x.cells) (λx b F0 a=>by rw[aH.al];exact⟨.p rfl,.o (qp a 1 3 F0),.p rfl,.p rfl,.p rfl,trivial⟩) h
instance:BD aH.D aH.cells:=⟨aH.fg⟩
theorem aH.dt:∀cs x,aH.D cs x->fE cs:=λcs x h=>aH.D.rec (motive:=λcs x _=>fE cs) (λx a F0 b=>(cP (rB yu (cP (cP (cP yt)))))) h
instance:NT aH.D:=⟨aH.dt⟩
inductive bX.D:List PV->bX->Prop
 | mk (x:bX) (n0:Nat) (F0:Nat->Prop) (gN:x.av.aj.length=n0) (f0:Nat->List PV) (h0:∀i (hi:i<x.av.aj.length),af.D (f0 i) x.av.aj[i]) (rA:∀i,n0<=i->f0 i=[]):bX.D [.int .i64 x.jF,.int .i64 x.av.aU,.int .i64 x.av.bb,.str x.av.bp,.int .i64 x.av.aE,.aV 8 n0 144 f0 F0] x
theorem bX.gI {x:bX} {b:Nat} {F0:Nat->Prop} {c:Nat->List PV} (a:DR af.D b c x.av.aj):bX.D [.int .i64 x.jF,.int .i64 x.av.aU,.int .i64 x.av.bb,.str x.av.bp,.int .i64 x.av.aE,.aV 8 b 144 c F0] x:=.mk x _ _ a.len _ a.at_ a.z
theorem bX.fI {cs:List PV} {x:bX} (h:bX.D cs x):∃(F0:Nat->Prop),∃a:Nat->List PV,cs=[.int .i64 x.jF,.int .i64 x.av.aU,.int .i64 x.av.bb,.str x.av.bp,.int .i64 x.av.aE,.aV 8 x.av.aj.length 144 a F0]/\DR af.D x.av.aj.length a x.av.aj:=by
 cases h with
 | mk _ d F0 b a h0 c=>subst b;exact⟨F0,a,rfl,⟨rfl,h0,c⟩⟩
theorem bX.fg:∀cs x,bX.D cs x->tL cs x.cells:=λcs x h=>bX.D.rec (motive:=λcs x _=>tL cs x.cells) (λx b F0 a c h0 d=>by rw[bX.al];exact⟨.p rfl,.p rfl,.p rfl,.p rfl,.p rfl,.o (eE (λi hi=>af.fg _ _ (h0 i hi)) a 8 144 F0),trivial⟩) h
instance:BD bX.D bX.cells:=⟨bX.fg⟩
theorem bX.dt:∀cs x,bX.D cs x->fE cs:=λcs x h=>bX.D.rec (motive:=λcs x _=>fE cs) (λx b F0 a c h0 d=>(cP (cP (cP (cP (cP (rB (λi hi=>af.dt _ _ (h0 i (agp hi a.symm))) yt))))))) h
instance:NT bX.D:=⟨bX.dt⟩
inductive bq.D:List PV->bq->Prop
 | mk (x:bq) (n0:Nat) (F0:Nat->Prop) (gN:x.bh.length=n0) (n1:Nat) (F1:Nat->Prop) (wA:x.fArgs.length=n1) (f1:Nat->List PV) (h1:∀i (hi:i<x.fArgs.length),bX.D (f1 i) x.fArgs[i]) (yW:∀i,n1<=i->f1 i=[]):bq.D [.int .i64 x.cC,.str x.cu,.bool x.mV,.int .i64 x.bM,.int .i64 x.bP,.str x.bx,.str x.aP,.aV 1 n0 3 (row cI x.bh) F0,.aV 6 n1 289 f1 F1] x
theorem bq.gI {x:bq} {b:Nat} {F0:Nat->Prop} {c:Nat} {e:Nat->Prop} {d:Nat->List PV} (f:x.bh.length=b) (a:DR bX.D c d x.fArgs):bq.D [.int .i64 x.cC,.str x.cu,.bool x.mV,.int .i64 x.bM,.int .i64 x.bP,.str x.bx,.str x.aP,.aV 1 b 3 (row cI x.bh) F0,.aV 6 c 289 d e] x:=.mk x _ _ f _ _ a.len _ a.at_ a.z
theorem bq.fI {cs:List PV} {x:bq} (h:bq.D cs x):∃(F0:Nat->Prop),∃(b:Nat->Prop),∃a:Nat->List PV,cs=[.int .i64 x.cC,.str x.cu,.bool x.mV,.int .i64 x.bM,.int .i64 x.bP,.str x.bx,.str x.aP,.aV 1 x.bh.length 3 (row cI x.bh) F0,.aV 6 x.fArgs.length 289 a b]/\DR bX.D x.fArgs.length a x.fArgs:=by
 cases h with
 | mk _ f F0 c g b d a h1 e=>subst c;subst d;exact⟨F0,b,a,rfl,⟨rfl,h1,e⟩⟩
theorem bq.fg:∀cs x,bq.D cs x->tL cs x.cells:=λcs x h=>bq.D.rec (motive:=λcs x _=>tL cs x.cells) (λx d F0 a e b c f h1 g=>by rw[bq.al];exact⟨.p rfl,.p rfl,.p rfl,.p rfl,.p rfl,.p rfl,.p rfl,.o (qp a 1 3 F0),.o (eE (λi hi=>bX.fg _ _ (h1 i hi)) c 6 289 b),trivial⟩) h
instance:BD bq.D bq.cells:=⟨bq.fg⟩
theorem bq.dt:∀cs x,bq.D cs x->fE cs:=λcs x h=>bq.D.rec (motive:=λcs x _=>fE cs) (λx b F0 c d e a f h1 g=>(cP (cP (cP (cP (cP (cP (cP (rB yu (rB (λi hi=>bX.dt _ _ (h1 i (agp hi a.symm))) yt)))))))))) h
instance:NT bq.D:=⟨bq.dt⟩
inductive bU.D:List PV->bU->Prop
 | mk (x:bU) (n0:Nat) (F0:Nat->Prop) (gN:x.av.aj.length=n0) (f0:Nat->List PV) (h0:∀i (hi:i<x.av.aj.length),af.D (f0 i) x.av.aj[i]) (rA:∀i,n0<=i->f0 i=[]):bU.D [.int .i64 x.Ax,.int .i64 x.av.aU,.int .i64 x.av.bb,.str x.av.bp,.int .i64 x.av.aE,.aV 8 n0 144 f0 F0,.int .i64 x.mS,.int .i64 x.iA,.int .i64 x.dp] x
theorem bU.gI {x:bU} {b:Nat} {F0:Nat->Prop} {c:Nat->List PV} (a:DR af.D b c x.av.aj):bU.D [.int .i64 x.Ax,.int .i64 x.av.aU,.int .i64 x.av.bb,.str x.av.bp,.int .i64 x.av.aE,.aV 8 b 144 c F0,.int .i64 x.mS,.int .i64 x.iA,.int .i64 x.dp] x:=.mk x _ _ a.len _ a.at_ a.z
theorem bU.fI {cs:List PV} {x:bU} (h:bU.D cs x):∃(F0:Nat->Prop),∃a:Nat->List PV,cs=[.int .i64 x.Ax,.int .i64 x.av.aU,.int .i64 x.av.bb,.str x.av.bp,.int .i64 x.av.aE,.aV 8 x.av.aj.length 144 a F0,.int .i64 x.mS,.int .i64 x.iA,.int .i64 x.dp]/\DR af.D x.av.aj.length a x.av.aj:=by
 cases h with
 | mk _ d F0 b a h0 c=>subst b;exact⟨F0,a,rfl,⟨rfl,h0,c⟩⟩
theorem bU.fg:∀cs x,bU.D cs x->tL cs x.cells:=λcs x h=>bU.D.rec (motive:=λcs x _=>tL cs x.cells) (λx b F0 a c h0 d=>by rw[bU.al];exact⟨.p rfl,.p rfl,.p rfl,.p rfl,.p rfl,.o (eE (λi hi=>af.fg _ _ (h0 i hi)) a 8 144 F0),.p rfl,.p rfl,.p rfl,trivial⟩) h
instance:BD bU.D bU.cells:=⟨bU.fg⟩
theorem bU.dt:∀cs x,bU.D cs x->fE cs:=λcs x h=>bU.D.rec (motive:=λcs x _=>fE cs) (λx b F0 a c h0 d=>(cP (cP (cP (cP (cP (rB (λi hi=>af.dt _ _ (h0 i (agp hi a.symm))) (cP (cP (cP yt)))))))))) h
instance:NT bU.D:=⟨bU.dt⟩
inductive aX.D:List PV->aX->Prop
 | mk (x:aX) (n0:Nat) (F0:Nat->Prop) (gN:x.ak.length=n0) (n1:Nat) (F1:Nat->Prop) (wA:x.bf.length=n1) (f1:Nat->List PV) (h1:∀i (hi:i<x.bf.length),ai.D (f1 i) x.bf[i]) (yW:∀i,n1<=i->f1 i=[]) (n2:Nat) (F2:Nat->Prop) (EE:x.aY.length=n2) (f2:Nat->List PV) (h2:∀i (hi:i<x.aY.length),bq.D (f2 i) x.aY[i]) (Cg:∀i,n2<=i->f2 i=[]) (n3:Nat) (F3:Nat->Prop) (Qd:x.aQ.length=n3) (n4:Nat) (F4:Nat->Prop) (Qe:x.bC.length=n4) (f4:Nat->List PV) (h4:∀i (hi:i<x.bC.length),bU.D (f4 i) x.bC[i]) (Xe:∀i,n4<=i->f4 i=[]):aX.D [.int .i64 x.cC,.int .i64 x.mS,.aV 1 n0 3 (row cI x.ak) F0,.aV 5 n1 41 f1 F1,.aV 9 n2 243 f2 F2,.aV 6 n3 246 (row bI.cells x.aQ) F3,.aV 9 n4 248 f4 F4,.int .i64 x.bM,.str x.bx,.str x.aP,.int .i64 x.dq,.int .i64 x.cg,.int .i64 x.bP] x
theorem aX.gI {x:aX} {c:Nat} {F0:Nat->Prop} {d:Nat} {i:Nat->Prop} {e:Nat->List PV} {n2:Nat} {j:Nat->Prop} {f2:Nat->List PV} {f:Nat} {k:Nat->Prop} {g:Nat} {l:Nat->Prop} {h:Nat->List PV} (m:x.ak.length=c) (a:DR ai.D d e x.bf) (b:DR bq.D n2 f2 x.aY) (n:x.aQ.length=f) (d4:DR bU.D g h x.bC):aX.D [.int .i64 x.cC,.int .i64 x.mS,.aV 1 c 3 (row cI x.ak) F0,.aV 5 d 41 e i,.aV 9 n2 243 f2 j,.aV 6 f 246 (row bI.cells x.aQ) k,.aV 9 g 248 h l,.int .i64 x.bM,.str x.bx,.str x.aP,.int .i64 x.dq,.int .i64 x.cg,.int .i64 x.bP] x:=.mk x _ _ m _ _ a.len _ a.at_ a.z _ _ b.len _ b.at_ b.z _ _ n _ _ d4.len _ d4.at_ d4.z
theorem aX.fI {cs:List PV} {x:aX} (h:aX.D cs x):∃(F0:Nat->Prop),∃(c:Nat->Prop),∃a:Nat->List PV,∃(d:Nat->Prop),∃f2:Nat->List PV,∃(e:Nat->Prop),∃(f:Nat->Prop),∃b:Nat->List PV,cs=[.int .i64 x.cC,.int .i64 x.mS,.aV 1 x.ak.length 3 (row cI x.ak) F0,.aV 5 x.bf.length 41 a c,.aV 9 x.aY.length 243 f2 d,.aV 6 x.aQ.length 246 (row bI.cells x.aQ) e,.aV 9 x.bC.length 248 b f,.int .i64 x.bM,.str x.bx,.str x.aP,.int .i64 x.dq,.int .i64 x.cg,.int .i64 x.bP]/\DR ai.D x.bf.length a x.bf/\DR bq.D x.aY.length f2 x.aY/\DR bU.D x.bC.length b x.bC:=by
 cases h with
 | mk _ p F0 g q c i a h1 j n2 d k f2 h2 l r e m s f n b h4 o=>subst g;subst i;subst k;subst m;subst n;exact⟨F0,c,a,d,f2,e,f,b,rfl,⟨rfl,h1,j⟩,⟨rfl,h2,l⟩,⟨rfl,h4,o⟩⟩
theorem aX.fg:∀cs x,aX.D cs x->tL cs x.cells:=λcs x h=>aX.D.rec (motive:=λcs x _=>tL cs x.cells) (λx l F0 a m b c n h1 q n2 d e f2 h2 r s f g t j k u h4 v=>by rw[aX.al];exact⟨.p rfl,.p rfl,.o (qp a 1 3 F0),.o (eE (λi hi=>ai.fg _ _ (h1 i hi)) c 5 41 b),.o (eE (λi hi=>bq.fg _ _ (h2 i hi)) e 9 243 d),.o (qp g 6 246 f),.o (eE (λi hi=>bU.fg _ _ (h4 i hi)) k 9 248 j),.p rfl,.p rfl,.p rfl,.p rfl,.p rfl,.p rfl,trivial⟩) h
instance:BD aX.D aX.cells:=⟨aX.fg⟩
theorem aX.dt:∀cs x,aX.D cs x->fE cs:=λcs x h=>aX.D.rec (motive:=λcs x _=>fE cs) (λx d F0 e f g a j h1 k n2 l b f2 h2 m n o p q r c s h4 t=>(cP (cP (rB yu (rB (λi hi=>ai.dt _ _ (h1 i (agp hi a.symm))) (rB (λi hi=>bq.dt _ _ (h2 i (agp hi b.symm))) (rB yu (rB (λi hi=>bU.dt _ _ (h4 i (agp hi c.symm))) (cP (cP (cP (cP (cP (cP yt)))))))))))))) h
instance:NT aX.D:=⟨aX.dt⟩
inductive ca.D:List PV->ca->Prop
 | mk (x:ca) (n0:Nat) (F0:Nat->Prop) (gN:x.aK.aj.length=n0) (f0:Nat->List PV) (h0:∀i (hi:i<x.aK.aj.length),af.D (f0 i) x.aK.aj[i]) (rA:∀i,n0<=i->f0 i=[]) (n1:Nat) (F1:Nat->Prop) (wA:x.ae.ak.length=n1) (n2:Nat) (F2:Nat->Prop) (EE:x.ae.bf.length=n2) (f2:Nat->List PV) (h2:∀i (hi:i<x.ae.bf.length),ai.D (f2 i) x.ae.bf[i]) (Cg:∀i,n2<=i->f2 i=[]) (n3:Nat) (F3:Nat->Prop) (Qd:x.ae.aY.length=n3) (f3:Nat->List PV) (h3:∀i (hi:i<x.ae.aY.length),bq.D (f3 i) x.ae.aY[i]) (VI:∀i,n3<=i->f3 i=[]) (n4:Nat) (F4:Nat->Prop) (Qe:x.ae.aQ.length=n4) (n5:Nat) (F5:Nat->Prop) (ZR:x.ae.bC.length=n5) (f5:Nat->List PV) (h5:∀i (hi:i<x.ae.bC.length),bU.D (f5 i) x.ae.bC[i]) (Xf:∀i,n5<=i->f5 i=[]):ca.D [.int .i64 x.oW,.int .i64 x.aK.aU,.int .i64 x.aK.bb,.str x.aK.bp,.int .i64 x.aK.aE,.aV 8 n0 144 f0 F0,.int .i64 x.ae.cC,.int .i64 x.ae.mS,.aV 1 n1 3 (row cI x.ae.ak) F1,.aV 5 n2 41 f2 F2,.aV 9 n3 243 f3 F3,.aV 6 n4 246 (row bI.cells x.ae.aQ) F4,.aV 9 n5 248 f5 F5,.int .i64 x.ae.bM,.str x.ae.bx,.str x.ae.aP,.int .i64 x.ae.dq,.int .i64 x.ae.cg,.int .i64 x.ae.bP] x
theorem ca.gI {x:ca} {e:Nat} {F0:Nat->Prop} {f:Nat->List PV} {g:Nat} {k:Nat->Prop} {n2:Nat} {l:Nat->Prop} {f2:Nat->List PV} {h:Nat} {m:Nat->Prop} {f3:Nat->List PV} {i:Nat} {n:Nat->Prop} {j:Nat} {o:Nat->Prop} {f5:Nat->List PV} (a:DR af.D e f x.aK.aj) (p:x.ae.ak.length=g) (b:DR ai.D n2 f2 x.ae.bf) (c:DR bq.D h f3 x.ae.aY) (d4:x.ae.aQ.length=i) (d:DR bU.D j f5 x.ae.bC):ca.D [.int .i64 x.oW,.int .i64 x.aK.aU,.int .i64 x.aK.bb,.str x.aK.bp,.int .i64 x.aK.aE,.aV 8 e 144 f F0,.int .i64 x.ae.cC,.int .i64 x.ae.mS,.aV 1 g 3 (row cI x.ae.ak) k,.aV 5 n2 41 f2 l,.aV 9 h 243 f3 m,.aV 6 i 246 (row bI.cells x.ae.aQ) n,.aV 9 j 248 f5 o,.int .i64 x.ae.bM,.str x.ae.bx,.str x.ae.aP,.int .i64 x.ae.dq,.int .i64 x.ae.cg,.int .i64 x.ae.bP] x:=.mk x _ _ a.len _ a.at_ a.z _ _ p _ _ b.len _ b.at_ b.z _ _ c.len _ c.at_ c.z _ _ d4 _ _ d.len _ d.at_ d.z
theorem ca.fI {cs:List PV} {x:ca} (h:ca.D cs x):∃(F0:Nat->Prop),∃a:Nat->List PV,∃(b:Nat->Prop),∃(c:Nat->Prop),∃f2:Nat->List PV,∃(d:Nat->Prop),∃f3:Nat->List PV,∃(e:Nat->Prop),∃(f:Nat->Prop),∃f5:Nat->List PV,cs=[.int .i64 x.oW,.int .i64 x.aK.aU,.int .i64 x.aK.bb,.str x.aK.bp,.int .i64 x.aK.aE,.aV 8 x.aK.aj.length 144 a F0,.int .i64 x.ae.cC,.int .i64 x.ae.mS,.aV 1 x.ae.ak.length 3 (row cI x.ae.ak) b,.aV 5 x.ae.bf.length 41 f2 c,.aV 9 x.ae.aY.length 243 f3 d,.aV 6 x.ae.aQ.length 246 (row bI.cells x.ae.aQ) e,.aV 9 x.ae.bC.length 248 f5 f,.int .i64 x.ae.bM,.str x.ae.bx,.str x.ae.aP,.int .i64 x.ae.dq,.int .i64 x.ae.cg,.int .i64 x.ae.bP]/\DR af.D x.aK.aj.length a x.aK.aj/\DR ai.D x.ae.bf.length f2 x.ae.bf/\DR bq.D x.ae.aY.length f3 x.ae.aY/\DR bU.D x.ae.bC.length f5 x.ae.bC:=by
 cases h with
 | mk _ r F0 g a h0 i s b j n2 c k f2 h2 l t d m f3 h3 n u e o v f p f5 h5 q=>subst g;subst j;subst k;subst m;subst o;subst p;exact⟨F0,a,b,c,f2,d,f3,e,f,f5,rfl,⟨rfl,h0,i⟩,⟨rfl,h2,l⟩,⟨rfl,h3,n⟩,⟨rfl,h5,q⟩⟩
theorem ca.fg:∀cs x,ca.D cs x->tL cs x.cells:=λcs x h=>ca.D.rec (motive:=λcs x _=>tL cs x.cells) (λx n F0 a q h0 r s b c n2 d e f2 h2 t u f g f3 h3 v w j k y l m f5 h5 z=>by rw[ca.al];exact⟨.p rfl,.p rfl,.p rfl,.p rfl,.p rfl,.o (eE (λi hi=>af.fg _ _ (h0 i hi)) a 8 144 F0),.p rfl,.p rfl,.o (qp c 1 3 b),.o (eE (λi hi=>ai.fg _ _ (h2 i hi)) e 5 41 d),.o (eE (λi hi=>bq.fg _ _ (h3 i hi)) g 9 243 f),.o (qp k 6 246 j),.o (eE (λi hi=>bU.fg _ _ (h5 i hi)) m 9 248 l),.p rfl,.p rfl,.p rfl,.p rfl,.p rfl,.p rfl,trivial⟩) h
instance:BD ca.D ca.cells:=⟨ca.fg⟩
theorem ca.dt:∀cs x,ca.D cs x->fE cs:=λcs x h=>ca.D.rec (motive:=λcs x _=>fE cs) (λx e F0 a f h0 g j k l n2 m b f2 h2 n o p c f3 h3 q r s t u v d f5 h5 w=>(cP (cP (cP (cP (cP (rB (λi hi=>af.dt _ _ (h0 i (agp hi a.symm))) (cP (cP (rB yu (rB (λi hi=>ai.dt _ _ (h2 i (agp hi b.symm))) (rB (λi hi=>bq.dt _ _ (h3 i (agp hi c.symm))) (rB yu (rB (λi hi=>bU.dt _ _ (h5 i (agp hi d.symm))) (cP (cP (cP (cP (cP (cP yt)))))))))))))))))))) h
instance:NT ca.D:=⟨ca.dt⟩
inductive aS.D:List PV->aS->Prop
 | mk (x:aS) (n0:Nat) (F0:Nat->Prop) (gN:x.av.aj.length=n0) (f0:Nat->List PV) (h0:∀i (hi:i<x.av.aj.length),af.D (f0 i) x.av.aj[i]) (rA:∀i,n0<=i->f0 i=[]):aS.D [.bool x.aN.bO,.int .i64 x.aN.bb,.str x.aN.bp,.int .i64 x.av.aU,.int .i64 x.av.bb,.str x.av.bp,.int .i64 x.av.aE,.aV 8 n0 144 f0 F0,.bool x.bS,.int .i64 x.di] x
theorem aS.gI {x:aS} {b:Nat} {F0:Nat->Prop} {c:Nat->List PV} (a:DR af.D b c x.av.aj):aS.D [.bool x.aN.bO,.int .i64 x.aN.bb,.str x.aN.bp,.int .i64 x.av.aU,.int .i64 x.av.bb,.str x.av.bp,.int .i64 x.av.aE,.aV 8 b 144 c F0,.bool x.bS,.int .i64 x.di] x:=.mk x _ _ a.len _ a.at_ a.z
theorem aS.fI {cs:List PV} {x:aS} (h:aS.D cs x):∃(F0:Nat->Prop),∃a:Nat->List PV,cs=[.bool x.aN.bO,.int .i64 x.aN.bb,.str x.aN.bp,.int .i64 x.av.aU,.int .i64 x.av.bb,.str x.av.bp,.int .i64 x.av.aE,.aV 8 x.av.aj.length 144 a F0,.bool x.bS,.int .i64 x.di]/\DR af.D x.av.aj.length a x.av.aj:=by
 cases h with
 | mk _ d F0 b a h0 c=>subst b;exact⟨F0,a,rfl,⟨rfl,h0,c⟩⟩
theorem aS.fg:∀cs x,aS.D cs x->tL cs x.cells:=λcs x h=>aS.D.rec (motive:=λcs x _=>tL cs x.cells) (λx b F0 a c h0 d=>by rw[aS.al];exact⟨.p rfl,.p rfl,.p rfl,.p rfl,.p rfl,.p rfl,.p rfl,.o (eE (λi hi=>af.fg _ _ (h0 i hi)) a 8 144 F0),.p rfl,.p rfl,trivial⟩) h
instance:BD aS.D aS.cells:=⟨aS.fg⟩
theorem aS.dt:∀cs x,aS.D cs x->fE cs:=λcs x h=>aS.D.rec (motive:=λcs x _=>fE cs) (λx b F0 a c h0 d=>(cP (cP (cP (cP (cP (cP (cP (rB (λi hi=>af.dt _ _ (h0 i (agp hi a.symm))) (cP (cP yt))))))))))) h
instance:NT aS.D:=⟨aS.dt⟩
inductive aD.D:List PV->aD->Prop
 | mk (x:aD) (n0:Nat) (F0:Nat->Prop) (gN:x.ax.aG.length=n0) (n1:Nat) (F1:Nat->Prop) (wA:x.ax.ak.length=n1) (f1:Nat->List PV) (h1:∀i (hi:i<x.ax.ak.length),aS.D (f1 i) x.ax.ak[i]) (yW:∀i,n1<=i->f1 i=[]):aD.D [.int .i64 x.aZ,.bool x.ax.bZ,.aV 1 n0 3 (row cI x.ax.aG) F0,.aV 10 n1 216 f1 F1,.int .i64 x.ax.aE,.int .i64 x.ax.aZ] x
theorem aD.gI {x:aD} {b:Nat} {F0:Nat->Prop} {c:Nat} {e:Nat->Prop} {d:Nat->List PV} (f:x.ax.aG.length=b) (a:DR aS.D c d x.ax.ak):aD.D [.int .i64 x.aZ,.bool x.ax.bZ,.aV 1 b 3 (row cI x.ax.aG) F0,.aV 10 c 216 d e,.int .i64 x.ax.aE,.int .i64 x.ax.aZ] x:=.mk x _ _ f _ _ a.len _ a.at_ a.z
theorem aD.fI {cs:List PV} {x:aD} (h:aD.D cs x):∃(F0:Nat->Prop),∃(b:Nat->Prop),∃a:Nat->List PV,cs=[.int .i64 x.aZ,.bool x.ax.bZ,.aV 1 x.ax.aG.length 3 (row cI x.ax.aG) F0,.aV 10 x.ax.ak.length 216 a b,.int .i64 x.ax.aE,.int .i64 x.ax.aZ]/\DR aS.D x.ax.ak.length a x.ax.ak:=by
 cases h with
 | mk _ f F0 c g b d a h1 e=>subst c;subst d;exact⟨F0,b,a,rfl,⟨rfl,h1,e⟩⟩
theorem aD.fg:∀cs x,aD.D cs x->tL cs x.cells:=λcs x h=>aD.D.rec (motive:=λcs x _=>tL cs x.cells) (λx d F0 a e b c f h1 g=>by rw[aD.al];exact⟨.p rfl,.p rfl,.o (qp a 1 3 F0),.o (eE (λi hi=>aS.fg _ _ (h1 i hi)) c 10 216 b),.p rfl,.p rfl,trivial⟩) h
instance:BD aD.D aD.cells:=⟨aD.fg⟩
theorem aD.dt:∀cs x,aD.D cs x->fE cs:=λcs x h=>aD.D.rec (motive:=λcs x _=>fE cs) (λx b F0 c d e a f h1 g=>(cP (cP (rB yu (rB (λi hi=>aS.dt _ _ (h1 i (agp hi a.symm))) (cP (cP yt))))))) h
instance:NT aD.D:=⟨aD.dt⟩
theorem bc.fJ (x y:bc):((x.cu==y.cu)&&((x.jF==y.jF)&&true))=decide (x=y):=by
 rw[ahd];simp only[As,agJ,aho,agE];constructor
 ·intro h;cases x;cases y;simp only[bc.mk.injEq];simpa using h
 ·rintro rfl;simp
theorem bV.fJ (x y:bV):((x.bO==y.bO)&&((x.bb==y.bb)&&((x.bp==y.bp)&&true)))=decide (x=y):=by
 rw[ahd];simp only[As,agJ,aho,agE];constructor
 ·intro h;cases x;cases y;simp only[bV.mk.injEq];simpa using h
 ·rintro rfl;simp
theorem ay.fJ (x y:ay):((x.cu==y.cu)&&((x.rz==y.rz)&&true))=decide (x=y):=by
 rw[ahd];simp only[As,agJ,aho,agE];constructor
 ·intro h;cases x;cases y;simp only[ay.mk.injEq];simpa using h
 ·rintro rfl;simp
theorem aC.fJ (x y:aC):((x.ir==y.ir)&&((x.bO==y.bO)&&true))=decide (x=y):=by
 rw[ahd];simp only[As,agJ,aho,agE];constructor
 ·intro h;cases x;cases y;simp only[aC.mk.injEq];simpa using h
 ·rintro rfl;simp
theorem bI.fJ (x y:bI):((x.CB==y.CB)&&((x.eD==y.eD)&&((x.mS==y.mS)&&((x.dp==y.dp)&&((x.aY==y.aY)&&((x.bC==y.bC)&&true))))))=decide (x=y):=by
 rw[ahd];simp only[As,agJ,aho,agE];constructor
 ·intro h;cases x;cases y;simp only[bI.mk.injEq];simpa using h
 ·rintro rfl;simp
def BE:sI:=xY [(3,.int .i64),
 (4,.bool),
 (5,.int .u8),
 (9,.str),
 (22,.slice 111 5 64 [.int .i64 0,.int .i64 0,.str [],.int .i64 0,.au]),
 (23,.slice 113 2 24 [.str [],.int .i64 0]),
 (24,.slice 193 6 80 [.int .i64 0,.bool false,.au,.au,.int .i64 0,.int .i64 0]),
 (26,.struct 1 [(0,1,false)] [.au]),
 (27,.slice 118 3 48 [.str [],.bool false,.au]),
 (28,.slice 122 5 72 [.int .i64 0,.au,.int .i64 0,.str [],.str []]),
 (29,.slice 130 19 272 [.int .i64 0,.int .i64 0,.int .i64 0,.str [],.int .i64 0,.au,.int .i64 0,.int .i64 0,.au,.au,.au,.au,.au,.int .i64 0,.str [],.str [],.int .i64 0,.int .i64 0,.int .i64 0]),
 (30,.slice 128 13 200 [.int .i64 0,.int .i64 0,.au,.au,.au,.au,.au,.int .i64 0,.str [],.str [],.int .i64 0,.int .i64 0,.int .i64 0]),
 (31,.slice 199 2 32 [.str [],.str []]),
 (32,.slice 202 2 24 [.int .i64 0,.str []]),
 (34,.struct 3 [(0,1,false),(1,1,false),(2,1,false)] [.str [],.au,.au]),
 (36,.struct 14 [(0,1,false),(1,1,false),(2,1,false),(3,1,false),(4,1,false),(5,1,false),(6,1,true),(7,1,false),(8,1,false),(9,1,false),(10,1,false),(11,3,true)] [.int .i64 0,.str [],.int .i64 0,.int .i64 0,.au,.au,.au,.au,.au,.au,.au,.str [],.au,.au]),
 (38,.slice 169 2 32 [.str [],.str []]),
 (39,.slice 144 8 96 [.bool false,.int .i64 0,.str [],.int .i64 0,.int .i64 0,.str [],.int .i64 0,.au]),
 (41,.struct 5 [(0,1,false),(1,1,false),(2,1,false),(3,1,false),(4,1,false)] [.int .i64 0,.int .i64 0,.str [],.int .i64 0,.au]),
 (43,.struct 9 [(0,1,false),(1,1,false),(2,1,false),(3,1,false),(4,5,true)] [.int .i64 0,.str [],.str [],.au,.int .i64 0,.int .i64 0,.str [],.int .i64 0,.au]),
 (45,.slice 41 5 64 [.int .i64 0,.int .i64 0,.str [],.int .i64 0,.au]),
 (46,.slice 75 2 24 [.str [],.int .i64 0]),
 (47,.slice 212 6 80 [.int .i64 0,.bool false,.au,.au,.int .i64 0,.int .i64 0]),
 (49,.struct 1 [(0,1,false)] [.au]),
 (50,.slice 150 3 48 [.str [],.bool false,.au]),
 (51,.slice 152 5 72 [.int .i64 0,.au,.int .i64 0,.str [],.str []]),
 (52,.slice 160 19 272 [.int .i64 0,.int .i64 0,.int .i64 0,.str [],.int .i64 0,.au,.int .i64 0,.int .i64 0,.au,.au,.au,.au,.au,.int .i64 0,.str [],.str [],.int .i64 0,.int .i64 0,.int .i64 0]),
 (53,.slice 158 13 200 [.int .i64 0,.int .i64 0,.au,.au,.au,.au,.au,.int .i64 0,.str [],.str [],.int .i64 0,.int .i64 0,.int .i64 0]),
 (54,.slice 205 2 24 [.int .i64 0,.str []]),
 (56,.struct 3 [(0,1,false),(1,1,false),(2,1,false)] [.str [],.au,.au]),
 (58,.struct 14 [(0,1,false),(1,1,false),(2,1,false),(3,1,false),(4,1,false),(5,1,false),(6,1,true),(7,1,false),(8,1,false),(9,1,false),(10,1,false),(11,3,true)] [.int .i64 0,.str [],.int .i64 0,.int .i64 0,.au,.au,.au,.au,.au,.au,.au,.str [],.au,.au]),
 (75,.struct 2 [(0,1,false),(1,1,false)] [.str [],.int .i64 0]),
 (109,.slice 252 8 96 [.bool false,.int .i64 0,.str [],.int .i64 0,.int .i64 0,.str [],.int .i64 0,.au]),
 (111,.struct 5 [(0,1,false),(1,1,false),(2,1,false),(3,1,false),(4,1,false)] [.int .i64 0,.int .i64 0,.str [],.int .i64 0,.au]),
 (113,.struct 2 [(0,1,false),(1,1,false)] [.str [],.int .i64 0]),
 (116,.slice 256 6 80 [.str [],.int .i64 0,.int .i64 0,.str [],.int .i64 0,.au]),
 (118,.struct 3 [(0,1,false),(1,1,false),(2,1,false)] [.str [],.bool false,.au]),
 (120,.slice 3 1 8 [.int .i64 0]),
 (122,.struct 5 [(0,1,false),(1,1,false),(2,1,false),(3,1,false),(4,1,false)] [.int .i64 0,.au,.int .i64 0,.str [],.str []]),
 (124,.slice 260 9 128 [.int .i64 0,.str [],.bool false,.int .i64 0,.int .i64 0,.str [],.str [],.au,.au]),
 (125,.slice 262 6 56 [.bool false,.str [],.int .i64 0,.int .i64 0,.int .i64 0,.int .i64 0]),
 (126,.slice 265 9 96 [.int .i64 0,.int .i64 0,.int .i64 0,.str [],.int .i64 0,.au,.int .i64 0,.int .i64 0,.int .i64 0]),
 (128,.struct 13 [(0,1,false),(1,1,false),(2,1,false),(3,1,false),(4,1,false),(5,1,false),(6,1,false),(7,1,false),(8,1,false),(9,1,false),(10,1,false),(11,1,false),(12,1,false)] [.int .i64 0,.int .i64 0,.au,.au,.au,.au,.au,.int .i64 0,.str [],.str [],.int .i64 0,.int .i64 0,.int .i64 0]),
 (130,.struct 19 [(0,1,false),(1,5,true),(6,13,true)] [.int .i64 0,.int .i64 0,.int .i64 0,.str [],.int .i64 0,.au,.int .i64 0,.int .i64 0,.au,.au,.au,.au,.au,.int .i64 0,.str [],.str [],.int .i64 0,.int .i64 0,.int .i64 0]),
 (142,.struct 3 [(0,1,false),(1,1,false),(2,1,false)] [.bool false,.int .i64 0,.str []]),
 (144,.struct 8 [(0,3,true),(3,5,true)] [.bool false,.int .i64 0,.str [],.int .i64 0,.int .i64 0,.str [],.int .i64 0,.au]),
 (148,.slice 240 6 80 [.str [],.int .i64 0,.int .i64 0,.str [],.int .i64 0,.au]),
 (150,.struct 3 [(0,1,false),(1,1,false),(2,1,false)] [.str [],.bool false,.au]),
 (152,.struct 5 [(0,1,false),(1,1,false),(2,1,false),(3,1,false),(4,1,false)] [.int .i64 0,.au,.int .i64 0,.str [],.str []]),
 (154,.slice 243 9 128 [.int .i64 0,.str [],.bool false,.int .i64 0,.int .i64 0,.str [],.str [],.au,.au]),
 (155,.slice 246 6 56 [.bool false,.str [],.int .i64 0,.int .i64 0,.int .i64 0,.int .i64 0]),
 (156,.slice 248 9 96 [.int .i64 0,.int .i64 0,.int .i64 0,.str [],.int .i64 0,.au,.int .i64 0,.int .i64 0,.int .i64 0]),
 (158,.struct 13 [(0,1,false),(1,1,false),(2,1,false),(3,1,false),(4,1,false),(5,1,false),(6,1,false),(7,1,false),(8,1,false),(9,1,false),(10,1,false),(11,1,false),(12,1,false)] [.int .i64 0,.int .i64 0,.au,.au,.au,.au,.au,.int .i64 0,.str [],.str [],.int .i64 0,.int .i64 0,.int .i64 0]),
 (160,.struct 19 [(0,1,false),(1,5,true),(6,13,true)] [.int .i64 0,.int .i64 0,.int .i64 0,.str [],.int .i64 0,.au,.int .i64 0,.int .i64 0,.au,.au,.au,.au,.au,.int .i64 0,.str [],.str [],.int .i64 0,.int .i64 0,.int .i64 0]),
 (169,.struct 2 [(0,1,false),(1,1,false)] [.str [],.str []]),
 (189,.slice 307 10 112 [.bool false,.int .i64 0,.str [],.int .i64 0,.int .i64 0,.str [],.int .i64 0,.au,.bool false,.int .i64 0]),
 (191,.struct 5 [(0,1,false),(1,1,false),(2,1,false),(3,1,false),(4,1,false)] [.bool false,.au,.au,.int .i64 0,.int .i64 0]),
 (193,.struct 6 [(0,1,false),(1,5,true)] [.int .i64 0,.bool false,.au,.au,.int .i64 0,.int .i64 0]),
 (199,.struct 2 [(0,1,false),(1,1,false)] [.str [],.str []]),
 (202,.struct 2 [(0,1,false),(1,1,false)] [.int .i64 0,.str []]),
 (205,.struct 2 [(0,1,false),(1,1,false)] [.int .i64 0,.str []]),
 (208,.slice 216 10 112 [.bool false,.int .i64 0,.str [],.int .i64 0,.int .i64 0,.str [],.int .i64 0,.au,.bool false,.int .i64 0]),
 (210,.struct 5 [(0,1,false),(1,1,false),(2,1,false),(3,1,false),(4,1,false)] [.bool false,.au,.au,.int .i64 0,.int .i64 0]),
 (212,.struct 6 [(0,1,false),(1,5,true)] [.int .i64 0,.bool false,.au,.au,.int .i64 0,.int .i64 0]),
 (216,.struct 10 [(0,3,true),(3,5,true),(8,1,false),(9,1,false)] [.bool false,.int .i64 0,.str [],.int .i64 0,.int .i64 0,.str [],.int .i64 0,.au,.bool false,.int .i64 0]),
 (237,.slice 5 1 1 [.int .u8 0]),
 (240,.struct 6 [(0,1,false),(1,5,true)] [.str [],.int .i64 0,.int .i64 0,.str [],.int .i64 0,.au]),
 (241,.slice 289 6 72 [.int .i64 0,.int .i64 0,.int .i64 0,.str [],.int .i64 0,.au]),
 (243,.struct 9 [(0,1,false),(1,1,false),(2,1,false),(3,1,false),(4,1,false),(5,1,false),(6,1,false),(7,1,false),(8,1,false)] [.int .i64 0,.str [],.bool false,.int .i64 0,.int .i64 0,.str [],.str [],.au,.au]),
 (246,.struct 6 [(0,1,false),(1,1,false),(2,1,false),(3,1,false),(4,1,false),(5,1,false)] [.bool false,.str [],.int .i64 0,.int .i64 0,.int .i64 0,.int .i64 0]),
 (248,.struct 9 [(0,1,false),(1,5,true),(6,1,false),(7,1,false),(8,1,false)] [.int .i64 0,.int .i64 0,.int .i64 0,.str [],.int .i64 0,.au,.int .i64 0,.int .i64 0,.int .i64 0]),
 (250,.struct 3 [(0,1,false),(1,1,false),(2,1,false)] [.bool false,.int .i64 0,.str []]),
 (252,.struct 8 [(0,3,true),(3,5,true)] [.bool false,.int .i64 0,.str [],.int .i64 0,.int .i64 0,.str [],.int .i64 0,.au]),
 (256,.struct 6 [(0,1,false),(1,5,true)] [.str [],.int .i64 0,.int .i64 0,.str [],.int .i64 0,.au]),
 (258,.slice 310 6 72 [.int .i64 0,.int .i64 0,.int .i64 0,.str [],.int .i64 0,.au]),
 (260,.struct 9 [(0,1,false),(1,1,false),(2,1,false),(3,1,false),(4,1,false),(5,1,false),(6,1,false),(7,1,false),(8,1,false)] [.int .i64 0,.str [],.bool false,.int .i64 0,.int .i64 0,.str [],.str [],.au,.au]),
 (262,.struct 6 [(0,1,false),(1,1,false),(2,1,false),(3,1,false),(4,1,false),(5,1,false)] [.bool false,.str [],.int .i64 0,.int .i64 0,.int .i64 0,.int .i64 0]),
 (265,.struct 9 [(0,1,false),(1,5,true),(6,1,false),(7,1,false),(8,1,false)] [.int .i64 0,.int .i64 0,.int .i64 0,.str [],.int .i64 0,.au,.int .i64 0,.int .i64 0,.int .i64 0]),
 (277,.map 142 4 (.bool false)),
 (289,.struct 6 [(0,1,false),(1,5,true)] [.int .i64 0,.int .i64 0,.int .i64 0,.str [],.int .i64 0,.au]),
 (307,.struct 10 [(0,3,true),(3,5,true),(8,1,false),(9,1,false)] [.bool false,.int .i64 0,.str [],.int .i64 0,.int .i64 0,.str [],.int .i64 0,.au,.bool false,.int .i64 0]),
 (310,.struct 6 [(0,1,false),(1,5,true)] [.int .i64 0,.int .i64 0,.int .i64 0,.str [],.int .i64 0,.au])]
theorem T2:dL Tryz.prog BE:=aac ajt
theorem mixed:Tryz.prog.follows .mixedOrders=true:=by kernel_rfl
theorem cr {f:FuncId} {fn:Func} {c:Code} {args:List PV} {h:List ar} {R:PV->List ar->Prop} (hf:Tryz.prog.funcs[f]? =some fn) (hv:vc Tryz.prog BE h.length c (aad BE fn.results.toList h.length R) (wD args) h) (hb:fn.body=some c:=by rfl) (a:(fn.name== "runtime.NumGoroutine")=false:=by kernel_rfl) (b:Nat.ble args.length fn.ntmps=true:=by rfl) (d:codeOk fn.ntmps c=true:=by kernel_rfl):ACall Tryz.prog f args h R:=ACall.aae T2 mixed hf hb a _ _ _ b d hv
theorem ACall.ext {P:Program} {f:FuncId} {args:List PV} {r:PV} (d:aaf P f)
  (H:∀(w:World) (vs:Array Value) (S:Nat->Prop),Qf S w->(∀b,S b->b<w.heap.size)->vs.size=args.length->(∀(j:Nat) (pv:PV),args[j]? =some pv->∃v,vs[j]? =some v/\bz S w pv v)->
   Calls P f vs w (λe w'=>∃v,e=.returned v/\(∀μ h S w,cw μ h S w r v)/\Below w.heap.size w w'))
  (hp:args.all zc=true) (h:List ar):ACall P f args h (λres h'=>res=r/\h'=h):=by
 refine⟨d,λw vs μ S g a i k=>(H w vs S a.known a.slt i (λj pv hj=>?_)).mono ?_⟩
 ·obtain⟨v,h1,h2⟩:=k j pv hj;have h3:=afS.1 hp pv (afX hj);cases pv<;>first | exact⟨v,h1,h2⟩ | (simp [zc]at h3)
 ·rintro e w' ⟨v,rfl,hv,hb⟩;have c:da w w':=⟨hb.block,hb.size,hb.os,hb.tape,hb.output⟩;exact⟨v,r,h,μ,S,rfl,⟨rfl,rfl⟩,hv _ _ _ _,g.agree c a,a.agree c,Fr.zd c⟩
theorem aag {vs:Array Value} {a b:Value} (hs:vs.size=2) (h0:vs[0]? =some a) (h1:vs[1]? =some b):vs=#[a,b]:=by
 obtain⟨l⟩:=vs;rcases l with _ | ⟨x,_ | ⟨y,_ | ⟨z,l⟩⟩⟩<;>simp at hs;simp at h0 h1;subst h0;subst h1;rfl
theorem aah {vs:Array Value} {a b c:Value} (hs:vs.size=3) (h0:vs[0]? =some a) (h1:vs[1]? =some b) (h2:vs[2]? =some c):vs=#[a,b,c]:=by
 obtain⟨l⟩:=vs;rcases l with _ | ⟨x,_ | ⟨y,_ | ⟨z,_ | ⟨u,l⟩⟩⟩⟩<;>simp at hs;simp at h0 h1 h2;subst h0;subst h1;subst h2;rfl
theorem LP {P:Program} {w:World} {n:String} {g:Nat} {cs:Array Value} {t:TypeId} {z:Nat×Nat} (hg:P.globalNamed n=some g) (h:w.heap[g]? =some (.cells cs t z)):w.var? P n=some cs:=by
 unfold World.var?;rw[hg];simp [h]
theorem Xg:Tryz.prog.globalNamed "internal/strconv.uint64pow10" =some 3:=by kernel_rfl
theorem Xh:Tryz.prog.globalNamed "strconv.ErrSyntax" =some 1:=by kernel_rfl
theorem Xi:Tryz.prog.globalNamed "strconv.ErrRange" =some 2:=by kernel_rfl
theorem Qu:Lib.pow10Tab=I0:=by decide
theorem T3 {S:Nat->Prop} {w:World} (h:Qf S w):Lib.TabIs Tryz.prog w "internal/strconv.uint64pow10" .u64 Lib.pow10Tab:=by
 obtain⟨_,t,z,hh⟩:=h.1 (3,_) (by simp [GV];rfl);unfold Lib.TabIs;rw[LP Xg hh,Qu]
theorem T4 {S:Nat->Prop} {w:World} (h:Qf S w):∃b p,w.var? Tryz.prog "strconv.ErrSyntax" =some #[.iface b p]:=by
 obtain⟨_,b,p,t,z,hh⟩:=h.2.1 1 (by simp [ze]);exact⟨b,p,LP Xh hh⟩
theorem T5 {S:Nat->Prop} {w:World} (h:Qf S w):∃b p,w.var? Tryz.prog "strconv.ErrRange" =some #[.iface b p]:=by
 obtain⟨_,b,p,t,z,hh⟩:=h.2.1 2 (by simp [ze]);exact⟨b,p,LP Xi hh⟩
theorem LQ (w:World) (k:Nat) (os:Array Obj):Below w.heap.size w (Sort.grow (w.drewN k) os):=by
 refine⟨rfl,rfl,rfl,?_,λi hi=>?_⟩
 ·show w.heap.size<=(w.heap++os).size;simp
 ·show(w.heap++os)[i]? =w.heap[i]?;rw[agH hi]
def pw (s:List UInt8) (lo hi:Int):Option Int:=
 if 20<s.length then none else match Lib.atoiAll s with
  | .ok n=>if Lib.itoa n=s/\lo<=n/\n<=hi then some n else none
  | _=>none
def pwR (o:Option Int):PV:=match o with | some n=>.hJ [.int .i64 n,.bool true] | none=>.hJ [.int .i64 0,.bool false]
def pwV (o:Option Int):Value:=match o with | some n=>.tuple #[.int .i64 n,.bool true] | none=>.tuple #[.int .i64 0,.bool false]
set_option maxRecDepth 100000 in
theorem zf (s:ByteArray) (lo hi:Int) (w:World) (S:Nat->Prop) (c:Qf S w) (j:∀b,S b->b<w.heap.size):
  Calls Tryz.prog 223 #[.string s,.int .i64 lo,.int .i64 hi] w λe w'=>e=.returned (pwV (pw s.data.toList lo hi))/\Below w.heap.size w w':=by
 have hlen:s.data.toList.length=s.size:=rfl;by_cases hl:20<s.size
 ·have a:pw s.data.toList lo hi=none:=by unfold pw;rw[an ajo]
  rw[a]
  go_enter Tryz.func223,Tryz.ntmps223
  go_wp2
  go_ret2
  exact⟨rfl,Below.refl _ _⟩
 ·cases h:Lib.atoiAll s.data.toList with
  | range=>
   have a:pw s.data.toList lo hi=none:=by unfold pw;rw[mg ajo,h]
   rw[a];obtain⟨d,p,hv⟩:=T5 c
   go_enter Tryz.func223,Tryz.ntmps223
   go_wp2_with (go_at_call 228;refine(Tryz.strconv_Atoi_range_var s ajo h d p _ hv).mono ?_;rintro e w1 ⟨N,rfl,-,-,hb⟩)
   go_ret2
   exact⟨rfl,hb⟩
  | ok n=>
   obtain⟨l,m⟩:=Lib.atoiAll_bounds h
   have key:∀(r:Value) (w1 f:World),((w1=w\/∃t,w1=Lib.bytesWorld w 5 t)->Below w.heap.size w w1):=λr w1 f hb=>by
    rcases hb with rfl | ⟨t,rfl⟩
    ·exact Below.refl _ _
    ·exact Lib.bytesWorld_below _ _ _
   go_enter Tryz.func223,Tryz.ntmps223
   go_wp2_with (go_at_call 228;refine(Tryz.strconv_Atoi_ok s ajo n h _).mono ?_;rintro e w1 ⟨rfl,hb⟩)
   go_wp2_with (go_at_call 229;refine(Tryz.strconv_Itoa n l m _ (T3 (c.oY (λb o=>(key undef _ w hb).block b (j b o)) (λ_ hb=>hb)))).mono ?_;rintro e f ⟨rfl,k,os,rfl⟩)
   all_goals go_ret2
   all_goals refine⟨?_,(key undef _ w hb).trans ((LQ _ _ _).mono (key undef _ w hb).size)⟩
   all_goals
    have g:s.toList=s.data.toList:=ByteArray.toList_eq s
    have i:pw s.data.toList lo hi=if Lib.itoa n=s.data.toList/\lo<=n/\n<=hi then some n else none:=by
     unfold pw;rw[mg ajo,h]
    rw[i,<-g];clear g i h;split
    ·rename_i hc
     first
      | rfl
      | (exfalso;obtain⟨q,u,v⟩:=hc;first | omega | contradiction)
    ·rename_i hc
     first
      | rfl
      | (exfalso;apply hc;refine⟨?_,?_,?_⟩<;>first | assumption | omega)
  | _=>
   have a:pw s.data.toList lo hi=none:=by unfold pw;rw[mg ajo,h]
   rw[a];obtain⟨d,p,hv⟩:=T4 c
   go_enter Tryz.func223,Tryz.ntmps223
   go_wp2_with (go_at_call 228;refine(Tryz.strconv_Atoi_syntax_var s ajo h d p _ hv).mono ?_;rintro e w1 ⟨N,rfl,-,-,hb⟩)
   go_ret2
   exact⟨rfl,hb⟩
theorem CC (s:List UInt8) (lo hi:Int) (h:List ar):ACall Tryz.prog 223 [.str s,.int .i64 lo,.int .i64 hi] h (λres h'=>res=pwR (pw s lo hi)/\h'=h):=by
 refine ACall.ext ⟨_,_,Tryz.func223,rfl,by kernel_rfl⟩ (λw vs S c d f hj=>?_) rfl h;obtain⟨m,g,a⟩:=hj 0 _ rfl;cases a;obtain⟨o,b,i⟩:=hj 1 _ rfl;cases i;obtain⟨p,k,l⟩:=hj 2 _ rfl;cases l;obtain rfl:=aah f g b k;refine(zf ⟨⟨s⟩⟩ lo hi w S c d).mono ?_;rintro e w' ⟨rfl,hb⟩;refine⟨_,rfl,λμ h S w=>?_,hb⟩;show cw μ h S w (pwR (pw s lo hi)) (pwV (pw s lo hi));cases pw s lo hi with
 | some n=>
  refine⟨_,rfl,rfl,λj pv hj=>?_⟩
  match j with
  | 0=>cases hj;exact⟨_,rfl,.int _ _⟩
  | 1=>cases hj;exact⟨_,rfl,.bool _⟩
  | j+2=>simp at hj
 | none=>
  refine⟨_,rfl,rfl,λj pv hj=>?_⟩
  match j with
  | 0=>cases hj;exact⟨_,rfl,.int _ _⟩
  | 1=>cases hj;exact⟨_,rfl,.bool _⟩
  | j+2=>simp at hj
def m98 (s:cx) (lo hi:Int):Option (Int×Bool):=match pw s lo hi with | some n=>some (n,true) | none=>some (0,false)
theorem acF {s:cx} {lo hi:Int} {r:Int×Bool} (h:m98 s lo hi=some r):ACall Tryz.prog 223 [.str s,.int .i64 lo,.int .i64 hi] [] (λres h=>res=.hJ [.int .i64 r.1,.bool r.2]/\h=[]):=by
 refine(CC s lo hi []).mono ?_;rintro _ _ ⟨rfl,rfl⟩;unfold m98 at h;split at h
 ·rename_i n e;rw[e];cases h;exact⟨rfl,rfl⟩
 ·rename_i e;rw[e];cases h;exact⟨rfl,rfl⟩
set_option maxRecDepth 20000
def bw (S:Nat->Prop) (w:World) (a:List PV) (cs:List Value):Prop:=cs.length=a.length/\∀(j:Nat) (pv:PV),a[j]? =some pv->∃u,cs[j]? =some u/\bz S w pv u
theorem aai {α:Type} {l:List α} (h:l.length=1):∃a,l=[a]:=by
 rcases l with _ | ⟨a,_ | ⟨b,l⟩⟩<;>simp at h;exact⟨a,rfl⟩
theorem EH {α:Type} {l:List α} (h:l.length=2):∃a c,l=[a,c]:=by
 rcases l with _ | ⟨a,_ | ⟨c,_ | ⟨b,l⟩⟩⟩<;>simp at h;exact⟨a,c,rfl⟩
theorem LR {α:Type} {l:List α} (h:l.length=3):∃a c d,l=[a,c,d]:=by
 rcases l with _ | ⟨a,_ | ⟨c,_ | ⟨d,_ | ⟨b,l⟩⟩⟩⟩<;>simp at h;exact⟨a,c,d,rfl⟩
theorem acG {α:Type} {l:List α} (h:l.length=4):∃a c d e,l=[a,c,d,e]:=by
 rcases l with _ | ⟨a,_ | ⟨c,_ | ⟨d,_ | ⟨e,_ | ⟨b,l⟩⟩⟩⟩⟩<;>simp at h;exact⟨a,c,d,e,rfl⟩
theorem LS {α:Type} {l:List α} (h:l.length=5):∃a c d e f,l=[a,c,d,e,f]:=by
 rcases l with _ | ⟨a,_ | ⟨c,_ | ⟨d,_ | ⟨e,_ | ⟨f,_ | ⟨b,l⟩⟩⟩⟩⟩⟩<;>simp at h;exact⟨a,c,d,e,f,rfl⟩
theorem Qv {α:Type} {l:List α} (h:l.length=6):∃a c d e f g,l=[a,c,d,e,f,g]:=by
 rcases l with _ | ⟨a,_ | ⟨c,_ | ⟨d,_ | ⟨e,_ | ⟨f,_ | ⟨g,_ | ⟨b,l⟩⟩⟩⟩⟩⟩⟩<;>simp at h;exact⟨a,c,d,e,f,g,rfl⟩
theorem len8 {α:Type} {l:List α} (h:l.length=8):∃a c d e f g i j,l=[a,c,d,e,f,g,i,j]:=by
 rcases l with _ | ⟨a,_ | ⟨c,_ | ⟨d,_ | ⟨e,_ | ⟨f,_ | ⟨g,_ | ⟨i,_ | ⟨j,_ | ⟨b,l⟩⟩⟩⟩⟩⟩⟩⟩⟩<;>simp at h;exact⟨a,c,d,e,f,g,i,j,rfl⟩
theorem Xj {α:Type} {l:List α} (h:l.length=9):∃a c d e f g i j k,l=[a,c,d,e,f,g,i,j,k]:=by
 rcases l with _ | ⟨a,_ | ⟨c,_ | ⟨d,_ | ⟨e,_ | ⟨f,_ | ⟨g,_ | ⟨i,_ | ⟨j,_ | ⟨k,_ | ⟨b,l⟩⟩⟩⟩⟩⟩⟩⟩⟩⟩<;>simp at h;exact⟨a,c,d,e,f,g,i,j,k,rfl⟩
theorem aaj {α:Type} {l:List α} (h:l.length=10):∃a c d e f g i j k m,l=[a,c,d,e,f,g,i,j,k,m]:=by
 rcases l with _ | ⟨a,_ | ⟨c,_ | ⟨d,_ | ⟨e,_ | ⟨f,_ | ⟨g,_ | ⟨i,_ | ⟨j,_ | ⟨k,_ | ⟨m,_ | ⟨b,l⟩⟩⟩⟩⟩⟩⟩⟩⟩⟩⟩<;>simp at h;exact⟨a,c,d,e,f,g,i,j,k,m,rfl⟩
theorem aak {α:Type} {l:List α} (h:l.length=12):∃a c d e f g i j k m n o,l=[a,c,d,e,f,g,i,j,k,m,n,o]:=by
 rcases l with _ | ⟨a,_ | ⟨c,_ | ⟨d,_ | ⟨e,_ | ⟨f,_ | ⟨g,_ | ⟨i,_ | ⟨j,_ | ⟨k,_ | ⟨m,_ | ⟨n,_ | ⟨o,_ | ⟨b,l⟩⟩⟩⟩⟩⟩⟩⟩⟩⟩⟩⟩⟩<;>simp at h;exact⟨a,c,d,e,f,g,i,j,k,m,n,o,rfl⟩
theorem VJ {α:Type} {l:List α} (h:l.length=13):∃c d e f g i j k m n o p a,l=[c,d,e,f,g,i,j,k,m,n,o,p,a]:=by
 rcases l with _ | ⟨c,_ | ⟨d,_ | ⟨e,_ | ⟨f,_ | ⟨g,_ | ⟨i,_ | ⟨j,_ | ⟨k,_ | ⟨m,_ | ⟨n,_ | ⟨o,_ | ⟨p,_ | ⟨a,_ | ⟨b,l⟩⟩⟩⟩⟩⟩⟩⟩⟩⟩⟩⟩⟩⟩<;>simp at h;exact⟨c,d,e,f,g,i,j,k,m,n,o,p,a,rfl⟩
theorem aal {α:Type} {l:List α} (h:l.length=14):∃c d e f g i j k m n o p a q,l=[c,d,e,f,g,i,j,k,m,n,o,p,a,q]:=by
 rcases l with _ | ⟨c,_ | ⟨d,_ | ⟨e,_ | ⟨f,_ | ⟨g,_ | ⟨i,_ | ⟨j,_ | ⟨k,_ | ⟨m,_ | ⟨n,_ | ⟨o,_ | ⟨p,_ | ⟨a,_ | ⟨q,_ | ⟨b,l⟩⟩⟩⟩⟩⟩⟩⟩⟩⟩⟩⟩⟩⟩⟩<;>simp at h;exact⟨c,d,e,f,g,i,j,k,m,n,o,p,a,q,rfl⟩
theorem aam {α:Type} {l:List α} (h:l.length=19):∃i j k m n o p q r s t u a v c d e f g,l=[i,j,k,m,n,o,p,q,r,s,t,u,a,v,c,d,e,f,g]:=by
 rcases l with _ | ⟨i,_ | ⟨j,_ | ⟨k,_ | ⟨m,_ | ⟨n,_ | ⟨o,_ | ⟨p,_ | ⟨q,_ | ⟨r,_ | ⟨s,_ | ⟨t,_ | ⟨u,_ | ⟨a,_ | ⟨v,_ | ⟨c,_ | ⟨d,_ | ⟨e,_ | ⟨f,_ | ⟨g,_ | ⟨b,l⟩⟩⟩⟩⟩⟩⟩⟩⟩⟩⟩⟩⟩⟩⟩⟩⟩⟩⟩⟩<;>simp at h;exact⟨i,j,k,m,n,o,p,q,r,s,t,u,a,v,c,d,e,f,g,rfl⟩
section
variable {P:Program}{H:Type}{enc:TypeId×Value->H}{w:World}{spare:Nat->Bool}{held:Bool}{S:Nat->Prop}
theorem T7 {α:Type} (cells:α->List PV) (l:α->Prop) (m:α) {y o:TypeId} {sz:Nat} (hu:P.underlying y=some (.slice o)) (hc:P.cellsOf o=sz) (B:0<sz) (hlen:∀a,(cells a).length=sz)
  (C:∀b,b<w.heap.size->S b) {fuel:Nat} (D:∀n,n<fuel->∀(cs:List Value) (x:DataW H×List MemPlace),DataW.trod enc P w 0 spare held n o cs=some x->∃a,l a/\bw S w (cells a) cs)
  {e:Value} {x:DataW H×List MemPlace} (h:DataW.trod enc P w 0 spare held fuel y [e]=some x):
  ∃(n:Nat) (f:Nat->α),n<=9223372036854775807/\(∀i,i<n->l (f i))/\bz S w (.gn sz n (λi=>cells (f i))) e:=by
 rcases DataW.trod_slice hu h with⟨d,_⟩ | ⟨z,len,cap,elems,rest,E,F,d,_,hb,G,I,J,dx,_⟩
 ·simp at d;subst d;exact⟨0,λ_=>m,by omega,λi hi=>absurd hi (agz _),.tM _ _ _ _⟩
 ·simp at d;subst d;rw[hc]at dx
  have each:∀i,∃a:α,i<len->l a/\∃g,w.cells? 0 (z.add (i*sz)) sz=some g/\bw S w (cells a) g:=λi=>by
   by_cases hi:i<len
   ·have hg:=dx i hi;rw[No ajo]at hg;obtain⟨g,q1,q2⟩:=Option.bind_eq_some_iff.1 hg;obtain⟨a,K,g2⟩:=D E ajo _ _ q2;exact⟨a,λ_=>⟨K,g,q1,g2⟩⟩
   ·exact⟨m,λh=>absurd h hi⟩
  obtain⟨kv,A⟩:=Classical.axiomOfChoice each;rcases agO len with p | c
  ·subst p;exact⟨0,λ_=>m,by omega,λi hi=>absurd hi (agz _),.tM _ _ _ _⟩
  ·refine⟨len,kv,by simp [maxLen]at I;omega,λi hi=>(A i hi).1,?_⟩;obtain⟨bl,off,spot⟩:=z
   have q:∀i,i<len->∀j pv,(cells (kv i))[j]? =some pv->∃u,w.cell? ((Addr.add ⟨bl,off,spot⟩ (i*sz)).add j)=some u/\bz S w pv u:=λi hi j pv hj=>by
    obtain⟨_,g,q1,q2,q3⟩:=A i hi;obtain⟨u,hu,r⟩:=q3 j pv hj;obtain⟨_,_,L⟩:=World.cells?_some q1;have s:j<sz:=by have:=(An.1 hj).1;rw[hlen]at this;exact this
    exact⟨u,by rw[L j s,hu],r⟩
   have h0:∃pv,(cells (kv 0))[0]? =some pv:=⟨_,No (by rw[hlen];exact B)⟩;obtain⟨M,t⟩:=h0;obtain⟨O,k,_⟩:=q 0 c 0 _ t
   have v:spot=none:=by
    have:=World.cell?_spot k;simpa[Addr.add]using this
   subst v
   have N:bl<w.heap.size:=by
    have:=World.block_lt_of_cell? _ _ k;simpa[Addr.add_lit]using this
   refine .gn sz len _ bl off cap (λi j=>(w.cell? ⟨bl,off+i*sz+j,none⟩).getD undef) (C _ N) (λi hi=>hlen _) G (λi j pv hi hj=>?_) (λi j pv hi hj=>?_)
   ·obtain⟨u,hu,_⟩:=q i hi j pv hj;rw[Addr.add_lit,Addr.add_lit]at hu;rw[hu];rfl
   ·obtain⟨u,hu,r⟩:=q i hi j pv hj;rw[Addr.add_lit,Addr.add_lit]at hu;rw[hu];exact r
end
theorem acI {H:Type} {enc:TypeId×Value->H} {w:World} {spare:Nat->Bool} {held:Bool} {α:Type} (cells:α->List PV) (e:α->Prop) {P:Program} {t:TypeId}
  (c:∀(fuel:Nat) (cs:List Value) (x:DataW H×List MemPlace),DataW.trod enc P w 0 spare held fuel t cs=some x->∃a,e a/\bw (λb=>b<w.heap.size) w (cells a) cs)
  {cs:Array Value} {d:DataW H} {p:List MemPlace} (h:DataW.Trod enc P w 0 spare held t (.agg cs) d p):∃a,e a/\jG (λ_=>none) [] (λb=>b<w.heap.size) w (.agg (cells a)) (.agg cs):=by
 obtain⟨fuel,hf⟩:=h;obtain⟨a,f,hl,hc⟩:=c fuel _ _ hf;refine⟨a,f,cs,rfl,by have h':cs.toList.length=_:=hl;simpa using h',λj pv hj=>?_⟩;obtain⟨u,hu,g⟩:=hc j pv hj;exact⟨u,by have h':cs.toList[j]? =some u:=hu;simpa using h',cD.my g⟩
theorem LW {S:Nat->Prop} {w:World} {sz n:Nat} {f g:Nat->List PV} {v:Value} (h:bz S w (.gn sz n f) v) (e:∀i,i<n->f i=g i):bz S w (.gn sz n g) v:=by
 cases h with
 | tM=>exact .tM _ _ _ _
 | gn _ _ _ b off c a d hlen hc k l=>
  exact .gn sz n g b off c a d (λi hi=>by rw[<-e i hi];exact hlen i hi) hc (λi j pv hi hj=>k i j pv hi (by rw[e i hi];exact hj)) (λi j pv hi hj=>l i j pv hi (by rw[e i hi];exact hj))
theorem nr {P:Program} {H:Type} {enc:TypeId×Value->H} {w:World} {spare:Nat->Bool} {held:Bool} {S:Nat->Prop} {α:Type} (cells:α->List PV) (c:α->Prop) (j:α) {g d:TypeId} {sz:Nat} (hu:P.underlying g=some (.slice d)) (hc:P.cellsOf d=sz) (k:0<sz) (hlen:∀a,(cells a).length=sz)
  (m:∀b,b<w.heap.size->S b) {fuel:Nat} (o:∀n,n<fuel->∀(cs:List Value) (x:DataW H×List MemPlace),DataW.trod enc P w 0 spare held n d cs=some x->∃a,c a/\bw S w (cells a) cs)
  {e:Value} {x:DataW H×List MemPlace} (h:DataW.trod enc P w 0 spare held fuel g [e]=some x):
  ∃l:List α,l.length<=9223372036854775807/\(∀a∈l,c a)/\bz S w (sl sz cells l) e:=by
 obtain⟨n,f,h1,h2,h3⟩:=T7 cells c j hu hc k hlen m o h;have hl:((List.range n).map f).length=n:=by simp
 have hi:∀i,i<n->((List.range n).map f)[i]? =some (f i):=λi hi=>by simp [hi]
 refine⟨(List.range n).map f,by rw[hl];exact h1,λa p=>?_,?_⟩
 ·obtain⟨i,hi,rfl⟩:=ags.1 p;exact h2 i (ahC.1 hi)
 ·show bz S w (.gn sz ((List.range n).map f).length (row cells _)) e;rw[hl];exact LW h3 (λi q=>(kD (hi i q)).symm)
theorem Qx {P:Program} {f:FuncId} {args:List PV} {vs:Array Value} {w:World} (c:Qf (λb=>b<w.heap.size) w) (h:ACall P f args [] (λres _=>res=.bool true)) (k:vs.size=args.length)
  (l:∀(j:Nat) (pv:PV),args[j]? =some pv->∃v,vs[j]? =some v/\jG (λ_=>none) [] (λb=>b<w.heap.size) w pv v):
  Calls P f vs w λe w'=>e=.returned (.bool true)/\Below w.heap.size w w':=by
 refine(h.2 w vs (λ_=>none) (λb=>b<w.heap.size) (λid g sz n e f hid=>by simp at hid) ⟨λb hb=>absurd hb mz,λb hb=>absurd hb mz,λb hb=>hb,λi j g sz n e f m p q r s b o t hi=>by simp at hi,c,λb _ x y z d=>zg d,λb _ _ _ _ _ _ d=>absurd d zg⟩ k l).mono ?_;rintro e w' ⟨v,res,h',μ',S',rfl,rfl,hv,u,A,a⟩;exact⟨by rw[hv.oZ],a.os,a.tape,a.output,a.size,λb hb=>a.blocks b hb mz⟩
section
variable {H:Type}{enc:TypeId×Value->H}{w:World}{spare:Nat->Bool}{held:Bool}{S:Nat->Prop}
theorem GW:Tryz.prog.cellsOf 3=1:=by kernel_rfl
theorem ZT:Tryz.prog.cellsOf 4=1:=by kernel_rfl
theorem OO:Tryz.prog.cellsOf 9=1:=by kernel_rfl
theorem aao:Tryz.prog.cellsOf 22=1:=by kernel_rfl
theorem acL:Tryz.prog.cellsOf 23=1:=by kernel_rfl
theorem acM:Tryz.prog.cellsOf 24=1:=by kernel_rfl
theorem aap:Tryz.prog.cellsOf 26=1:=by kernel_rfl
theorem acN:Tryz.prog.cellsOf 27=1:=by kernel_rfl
theorem acO:Tryz.prog.cellsOf 28=1:=by kernel_rfl
theorem acP:Tryz.prog.cellsOf 29=1:=by kernel_rfl
theorem acQ:Tryz.prog.cellsOf 30=1:=by kernel_rfl
theorem acR:Tryz.prog.cellsOf 31=1:=by kernel_rfl
theorem acS:Tryz.prog.cellsOf 32=1:=by kernel_rfl
theorem aaq:Tryz.prog.cellsOf 34=3:=by kernel_rfl
theorem acT:Tryz.prog.cellsOf 36=14:=by kernel_rfl
theorem aar:Tryz.prog.cellsOf 109=1:=by kernel_rfl
theorem zh:Tryz.prog.cellsOf 111=5:=by kernel_rfl
theorem VK:Tryz.prog.cellsOf 113=2:=by kernel_rfl
theorem aas:Tryz.prog.cellsOf 116=1:=by kernel_rfl
theorem VL:Tryz.prog.cellsOf 118=3:=by kernel_rfl
theorem NU:Tryz.prog.cellsOf 120=1:=by kernel_rfl
theorem VM:Tryz.prog.cellsOf 122=5:=by kernel_rfl
theorem aat:Tryz.prog.cellsOf 124=1:=by kernel_rfl
theorem aau:Tryz.prog.cellsOf 125=1:=by kernel_rfl
theorem aav:Tryz.prog.cellsOf 126=1:=by kernel_rfl
theorem Qy:Tryz.prog.cellsOf 128=13:=by kernel_rfl
theorem VN:Tryz.prog.cellsOf 130=19:=by kernel_rfl
theorem aaw:Tryz.prog.cellsOf 189=1:=by kernel_rfl
theorem VO:Tryz.prog.cellsOf 191=5:=by kernel_rfl
theorem VP:Tryz.prog.cellsOf 193=6:=by kernel_rfl
theorem VQ:Tryz.prog.cellsOf 199=2:=by kernel_rfl
theorem VR:Tryz.prog.cellsOf 202=2:=by kernel_rfl
theorem Qz:Tryz.prog.cellsOf 250=3:=by kernel_rfl
theorem VS:Tryz.prog.cellsOf 252=8:=by kernel_rfl
theorem VU:Tryz.prog.cellsOf 256=6:=by kernel_rfl
theorem aax:Tryz.prog.cellsOf 258=1:=by kernel_rfl
theorem VV:Tryz.prog.cellsOf 260=9:=by kernel_rfl
theorem VW:Tryz.prog.cellsOf 262=6:=by kernel_rfl
theorem VX:Tryz.prog.cellsOf 265=9:=by kernel_rfl
theorem VY:Tryz.prog.cellsOf 307=10:=by kernel_rfl
theorem VZ:Tryz.prog.cellsOf 310=6:=by kernel_rfl
theorem Cj (fuel:Nat) (cs:List Value) (x:DataW H×List MemPlace) (h:DataW.trod enc Tryz.prog w 0 spare held fuel 3 cs=some x):∃a:Int,True/\bw S w (cI a) cs:=by
 obtain⟨v,e,_⟩:=DataW.trod_int Tryz.underlying3 h;subst e;refine⟨v,trivial,rfl,λj pv hj=>?_⟩
 match j with
 | 0=>cases hj;exact⟨_,rfl,.int _ _⟩
 | j+1=>simp [cI]at hj
structure bV.Ok (a:bV):Prop where
 h0:a.bp.length<=9223372036854775807
theorem bV.fh {w:World} {S:Nat->Prop} {cs:List Value} (h:∃a:bV,a.Ok/\bw S w a.lit cs):∃a:bV,a.Ok/\bw S w a.cells cs:=by
 obtain⟨a,h1,h2⟩:=h;exact⟨a,h1,by rw[bV.al];exact h2⟩
theorem I1 (m:∀b,b<w.heap.size->S b) (fuel:Nat) (cs:List Value) (x:DataW H×List MemPlace) (h:DataW.trod enc Tryz.prog w 0 spare held fuel 250 cs=some x):∃a:bV,a.Ok/\bw S w a.lit cs:=by
 obtain⟨xs,n,o,_,hl,hlen,hf⟩:=DataW.trod_struct Tryz.underlying250 h;have h0:=hf 0 _ rfl;have h1:=hf 1 _ rfl;have h2:=hf 2 _ rfl;rw[Qz]at hl;obtain⟨z0,d,e,rfl⟩:=LR hl;obtain⟨p,q,r,rfl⟩:=LR (show xs.length=3 from hlen);simp [GW,ZT,OO]at h0 h1 h2;obtain⟨f,g,_⟩:=DataW.trod_bool Tryz.underlying4 h0;obtain rfl:z0=_:=by simpa using g
 obtain⟨i,k,_⟩:=DataW.trod_int Tryz.underlying3 h1;obtain rfl:d=_:=by simpa using k
 obtain⟨l,e2,_,q2⟩:=DataW.trod_string Tryz.underlying9 h2;obtain rfl:e=_:=by simpa using e2
 obtain⟨⟨c⟩⟩:=l;replace q2:c.length<=9223372036854775807:=by have h':c.length<=maxLen:=q2;simpa[maxLen]using h'
 refine⟨.mk f i c,⟨q2⟩,rfl,λj pv hj=>?_⟩
 match j with
 | 0=>cases hj;exact⟨_,rfl,.bool _⟩
 | 1=>cases hj;exact⟨_,rfl,.int _ _⟩
 | 2=>cases hj;exact⟨_,rfl,.str _⟩
 | j+3=>simp [bV.lit,sl]at hj
mutual
inductive af.Ok:af->Prop where
 | mk (a0:bV) (a1:ai) (h0:bV.Ok a0) (h1:ai.Ok a1):af.Ok (.mk a0 a1)
inductive ai.Ok:ai->Prop where
 | mk (a0:Int) (a1:Int) (a2:cx) (a3:Int) (a4:List af) (h0:a2.length<=9223372036854775807) (h1:a4.length<=9223372036854775807) (h2:∀x∈a4,af.Ok x):ai.Ok (.mk a0 a1 a2 a3 a4)
end
theorem af.Ok.inv {a:af} (h:a.Ok):(bV.Ok a.aN)/\(ai.Ok a.av):=by
 cases h;exact⟨by assumption,by assumption⟩
theorem ai.Ok.inv {a:ai} (h:a.Ok):(a.bp.length<=9223372036854775807)/\(a.aj.length<=9223372036854775807)/\(∀x∈a.aj,af.Ok x):=by
 cases h;exact⟨by assumption,by assumption,by assumption⟩
theorem af.fh {w:World} {S:Nat->Prop} {cs:List Value} (h:∃a:af,a.Ok/\bw S w a.lit cs):∃a:af,a.Ok/\bw S w a.cells cs:=by
 obtain⟨a,h1,h2⟩:=h;exact⟨a,h1,by rw[af.al];exact h2⟩
theorem ai.fh {w:World} {S:Nat->Prop} {cs:List Value} (h:∃a:ai,a.Ok/\bw S w a.lit cs):∃a:ai,a.Ok/\bw S w a.cells cs:=by
 obtain⟨a,h1,h2⟩:=h;exact⟨a,h1,by rw[ai.al];exact h2⟩
theorem I2 (i:∀b,b<w.heap.size->S b):∀fuel:Nat,(∀(cs:List Value) (x:DataW H×List MemPlace),DataW.trod enc Tryz.prog w 0 spare held fuel 252 cs=some x->∃a:af,a.Ok/\bw S w a.lit cs)/\(∀(cs:List Value) (x:DataW H×List MemPlace),DataW.trod enc Tryz.prog w 0 spare held fuel 111 cs=some x->∃a:ai,a.Ok/\bw S w a.lit cs):=by
 intro fuel;induction fuel using Nat.strongRecOn with
 | _ fuel k=>
  refine⟨?_,?_⟩
  ·intro cs x h;obtain⟨xs,n,q,_,hl,hlen,hf⟩:=DataW.trod_struct Tryz.underlying252 h;have h0:=hf 0 _ rfl;have h1:=hf 1 _ rfl;rw[VS]at hl;obtain⟨z0,l,o,p,r,F,G,I,rfl⟩:=len8 hl;obtain⟨s,t,rfl⟩:=EH (show xs.length=2 from hlen);simp [zh,Qz]at h0 h1;obtain⟨d,u,e⟩:=I1 i n _ _ h0;obtain⟨f,q1,c⟩:=(k n ajo).2 _ _ h1;refine⟨.mk d f,.mk _ _ u q1,rfl,λj pv hj=>?_⟩
   match j with
   | 0=>exact e.2 0 pv hj
   | 1=>exact e.2 1 pv hj
   | 2=>exact e.2 2 pv hj
   | 3=>exact c.2 0 pv hj
   | 4=>exact c.2 1 pv hj
   | 5=>exact c.2 2 pv hj
   | 6=>exact c.2 3 pv hj
   | 7=>exact c.2 4 pv hj
   | j+8=>simp [af.lit,sl]at hj
  ·intro cs x h;obtain⟨xs,n,q,_,hl,hlen,hf⟩:=DataW.trod_struct Tryz.underlying111 h;have h0:=hf 0 _ rfl;have h1:=hf 1 _ rfl;have h2:=hf 2 _ rfl;have h3:=hf 3 _ rfl;have h4:=hf 4 _ rfl;rw[zh]at hl;obtain⟨z0,l,o,p,r,rfl⟩:=LS hl;obtain⟨s,t,J,K,L,rfl⟩:=LS (show xs.length=5 from hlen);simp [GW,OO,aar]at h0 h1 h2 h3 h4;obtain⟨d,v,_⟩:=DataW.trod_int Tryz.underlying3 h0;obtain rfl:z0=_:=by simpa using v
   obtain⟨f,y,_⟩:=DataW.trod_int Tryz.underlying3 h1;obtain rfl:l=_:=by simpa using y
   obtain⟨z,e2,_,q2⟩:=DataW.trod_string Tryz.underlying9 h2;obtain rfl:o=_:=by simpa using e2
   obtain⟨⟨g⟩⟩:=z;replace q2:g.length<=9223372036854775807:=by have h':g.length<=maxLen:=q2;simpa[maxLen]using h'
   obtain⟨A,B,_⟩:=DataW.trod_int Tryz.underlying3 h3;obtain rfl:p=_:=by simpa using B
   obtain⟨C,q4,D,E⟩:=nr af.cells af.Ok default Tryz.underlying109 VS ajp (λa=>by rw[af.al];rfl) i (λm hm cs x h=>af.fh ((k m ajo).1 cs x h)) h4;refine⟨.mk d f g A C,.mk _ _ _ _ _ q2 q4 D,rfl,λj pv hj=>?_⟩
   match j with
   | 0=>cases hj;exact⟨_,rfl,.int _ _⟩
   | 1=>cases hj;exact⟨_,rfl,.int _ _⟩
   | 2=>cases hj;exact⟨_,rfl,.str _⟩
   | 3=>cases hj;exact⟨_,rfl,.int _ _⟩
   | 4=>cases hj;exact⟨_,rfl,E⟩
   | j+5=>simp [ai.lit,sl]at hj
theorem oq (c:∀b,b<w.heap.size->S b) (fuel:Nat) (cs:List Value) (x:DataW H×List MemPlace) (h:DataW.trod enc Tryz.prog w 0 spare held fuel 111 cs=some x):∃a:ai,a.Ok/\bw S w a.lit cs:=(I2 c fuel).2 cs x h
structure aS.Ok (a:aS):Prop where
 h0:bV.Ok a.aN
 h1:ai.Ok a.av
theorem aS.fh {w:World} {S:Nat->Prop} {cs:List Value} (h:∃a:aS,a.Ok/\bw S w a.lit cs):∃a:aS,a.Ok/\bw S w a.cells cs:=by
 obtain⟨a,h1,h2⟩:=h;exact⟨a,h1,by rw[aS.al];exact h2⟩
theorem OP (e:∀b,b<w.heap.size->S b) (fuel:Nat) (cs:List Value) (x:DataW H×List MemPlace) (h:DataW.trod enc Tryz.prog w 0 spare held fuel 307 cs=some x):∃a:aS,a.Ok/\bw S w a.lit cs:=by
 obtain⟨xs,n,q,_,hl,hlen,hf⟩:=DataW.trod_struct Tryz.underlying307 h;have h0:=hf 0 _ rfl;have h1:=hf 1 _ rfl;have h2:=hf 2 _ rfl;have h3:=hf 3 _ rfl;rw[VY]at hl;obtain⟨z0,r,s,t,u,v,y,z,f,g,rfl⟩:=aaj hl;obtain⟨A,B,C,D,rfl⟩:=acG (show xs.length=4 from hlen);simp [GW,ZT,zh,Qz]at h0 h1 h2 h3;obtain⟨i,k,d⟩:=I1 e n _ _ h0;obtain⟨l,q1,c⟩:=oq e n _ _ h1;obtain⟨m,e2,_⟩:=DataW.trod_bool Tryz.underlying4 h2;obtain rfl:f=_:=by simpa using e2
 obtain⟨o,p,_⟩:=DataW.trod_int Tryz.underlying3 h3;obtain rfl:g=_:=by simpa using p
 refine⟨.mk i l m o,⟨k,q1⟩,rfl,λj pv hj=>?_⟩
 match j with
 | 0=>exact d.2 0 pv hj
 | 1=>exact d.2 1 pv hj
 | 2=>exact d.2 2 pv hj
 | 3=>exact c.2 0 pv hj
 | 4=>exact c.2 1 pv hj
 | 5=>exact c.2 2 pv hj
 | 6=>exact c.2 3 pv hj
 | 7=>exact c.2 4 pv hj
 | 8=>cases hj;exact⟨_,rfl,.bool _⟩
 | 9=>cases hj;exact⟨_,rfl,.int _ _⟩
 | j+10=>simp [aS.lit,sl]at hj
structure bH.Ok (a:bH):Prop where
 h0:a.aG.length<=9223372036854775807
 h1:a.ak.length<=9223372036854775807
 h2:∀x∈a.ak,aS.Ok x
theorem bH.fh {w:World} {S:Nat->Prop} {cs:List Value} (h:∃a:bH,a.Ok/\bw S w a.lit cs):∃a:bH,a.Ok/\bw S w a.cells cs:=by
 obtain⟨a,h1,h2⟩:=h;exact⟨a,h1,by rw[bH.al];exact h2⟩
theorem LX (c:∀b,b<w.heap.size->S b) (fuel:Nat) (cs:List Value) (x:DataW H×List MemPlace) (h:DataW.trod enc Tryz.prog w 0 spare held fuel 191 cs=some x):∃a:bH,a.Ok/\bw S w a.lit cs:=by
 obtain⟨xs,n,t,_,hl,hlen,hf⟩:=DataW.trod_struct Tryz.underlying191 h;have h0:=hf 0 _ rfl;have h1:=hf 1 _ rfl;have h2:=hf 2 _ rfl;have h3:=hf 3 _ rfl;have h4:=hf 4 _ rfl;rw[VO]at hl;obtain⟨z0,u,v,d,e,rfl⟩:=LS hl;obtain⟨y,z,A,B,C,rfl⟩:=LS (show xs.length=5 from hlen);simp [GW,ZT,NU,aaw]at h0 h1 h2 h3 h4;obtain⟨f,g,_⟩:=DataW.trod_bool Tryz.underlying4 h0;obtain rfl:z0=_:=by simpa using g
 obtain⟨i,q1,_,k⟩:=nr cI (λ_=>True) default Tryz.underlying120 GW ajp (λ_=>rfl) c (λm _ cs x h=>Cj m cs x h) h1;obtain⟨l,q2,g2,o⟩:=nr aS.cells aS.Ok default Tryz.underlying189 VY ajp (λa=>by rw[aS.al];rfl) c (λm hm cs x h=>aS.fh (OP c m cs x h)) h2;obtain⟨p,q,_⟩:=DataW.trod_int Tryz.underlying3 h3;obtain rfl:d=_:=by simpa using q
 obtain⟨r,s,_⟩:=DataW.trod_int Tryz.underlying3 h4;obtain rfl:e=_:=by simpa using s
 refine⟨.mk f i l p r,⟨q1,q2,g2⟩,rfl,λj pv hj=>?_⟩
 match j with
 | 0=>cases hj;exact⟨_,rfl,.bool _⟩
 | 1=>cases hj;exact⟨_,rfl,k⟩
 | 2=>cases hj;exact⟨_,rfl,o⟩
 | 3=>cases hj;exact⟨_,rfl,.int _ _⟩
 | 4=>cases hj;exact⟨_,rfl,.int _ _⟩
 | j+5=>simp [bH.lit,sl]at hj
structure aD.Ok (a:aD):Prop where
 h0:bH.Ok a.ax
theorem aD.fh {w:World} {S:Nat->Prop} {cs:List Value} (h:∃a:aD,a.Ok/\bw S w a.lit cs):∃a:aD,a.Ok/\bw S w a.cells cs:=by
 obtain⟨a,h1,h2⟩:=h;exact⟨a,h1,by rw[aD.al];exact h2⟩
theorem LY (d:∀b,b<w.heap.size->S b) (fuel:Nat) (cs:List Value) (x:DataW H×List MemPlace) (h:DataW.trod enc Tryz.prog w 0 spare held fuel 193 cs=some x):∃a:aD,a.Ok/\bw S w a.lit cs:=by
 obtain⟨xs,n,i,_,hl,hlen,hf⟩:=DataW.trod_struct Tryz.underlying193 h;have h0:=hf 0 _ rfl;have h1:=hf 1 _ rfl;rw[VP]at hl;obtain⟨z0,k,l,m,o,p,rfl⟩:=Qv hl;obtain⟨q,r,rfl⟩:=EH (show xs.length=2 from hlen);simp [GW,VO]at h0 h1;obtain⟨e,f,_⟩:=DataW.trod_int Tryz.underlying3 h0;obtain rfl:z0=_:=by simpa using f
 obtain⟨g,q1,c⟩:=LX d n _ _ h1;refine⟨.mk e g,⟨q1⟩,rfl,λj pv hj=>?_⟩
 match j with
 | 0=>cases hj;exact⟨_,rfl,.int _ _⟩
 | 1=>exact c.2 0 pv hj
 | 2=>exact c.2 1 pv hj
 | 3=>exact c.2 2 pv hj
 | 4=>exact c.2 3 pv hj
 | 5=>exact c.2 4 pv hj
 | j+6=>simp [aD.lit,sl]at hj
structure bD.Ok (a:bD):Prop where
 h0:a.aw.length<=9223372036854775807
 h1:∀x∈a.aw,aD.Ok x
theorem bD.fh {w:World} {S:Nat->Prop} {cs:List Value} (h:∃a:bD,a.Ok/\bw S w a.lit cs):∃a:bD,a.Ok/\bw S w a.cells cs:=by
 obtain⟨a,h1,h2⟩:=h;exact⟨a,h1,by rw[bD.al];exact h2⟩
theorem OQ (c:∀b,b<w.heap.size->S b) (fuel:Nat) (cs:List Value) (x:DataW H×List MemPlace) (h:DataW.trod enc Tryz.prog w 0 spare held fuel 26 cs=some x):∃a:bD,a.Ok/\bw S w a.lit cs:=by
 obtain⟨xs,n,i,_,hl,hlen,hf⟩:=DataW.trod_struct Tryz.underlying26 h;have h0:=hf 0 _ rfl;rw[aap]at hl;obtain⟨z0,rfl⟩:=aai hl;obtain⟨k,rfl⟩:=aai (show xs.length=1 from hlen);simp [acM]at h0;obtain⟨d,e,f,g⟩:=nr aD.cells aD.Ok default Tryz.underlying24 VP ajp (λa=>by rw[aD.al];rfl) c (λm hm cs x h=>aD.fh (LY c m cs x h)) h0;refine⟨.mk d,⟨e,f⟩,rfl,λj pv hj=>?_⟩
 match j with
 | 0=>cases hj;exact⟨_,rfl,g⟩
 | j+1=>simp [bD.lit,sl]at hj
structure ay.Ok (a:ay):Prop where
 h0:a.cu.length<=9223372036854775807
 h1:a.rz.length<=9223372036854775807
theorem ay.fh {w:World} {S:Nat->Prop} {cs:List Value} (h:∃a:ay,a.Ok/\bw S w a.lit cs):∃a:ay,a.Ok/\bw S w a.cells cs:=by
 obtain⟨a,h1,h2⟩:=h;exact⟨a,h1,by rw[ay.al];exact h2⟩
theorem I3 (l:∀b,b<w.heap.size->S b) (fuel:Nat) (cs:List Value) (x:DataW H×List MemPlace) (h:DataW.trod enc Tryz.prog w 0 spare held fuel 199 cs=some x):∃a:ay,a.Ok/\bw S w a.lit cs:=by
 obtain⟨xs,n,m,_,hl,hlen,hf⟩:=DataW.trod_struct Tryz.underlying199 h;have h0:=hf 0 _ rfl;have h1:=hf 1 _ rfl;rw[VQ]at hl;obtain⟨z0,f,rfl⟩:=EH hl;obtain⟨o,p,rfl⟩:=EH (show xs.length=2 from hlen);simp [OO]at h0 h1;obtain⟨g,i,_,c⟩:=DataW.trod_string Tryz.underlying9 h0;obtain rfl:z0=_:=by simpa using i
 obtain⟨⟨d⟩⟩:=g;replace c:d.length<=9223372036854775807:=by have h':d.length<=maxLen:=c;simpa[maxLen]using h'
 obtain⟨s1,k,_,q1⟩:=DataW.trod_string Tryz.underlying9 h1;obtain rfl:f=_:=by simpa using k
 obtain⟨⟨e⟩⟩:=s1;replace q1:e.length<=9223372036854775807:=by have h':e.length<=maxLen:=q1;simpa[maxLen]using h'
 refine⟨.mk d e,⟨c,q1⟩,rfl,λj pv hj=>?_⟩
 match j with
 | 0=>cases hj;exact⟨_,rfl,.str _⟩
 | 1=>cases hj;exact⟨_,rfl,.str _⟩
 | j+2=>simp [ay.lit,sl]at hj
structure aC.Ok (a:aC):Prop where
 h0:a.bO.length<=9223372036854775807
theorem aC.fh {w:World} {S:Nat->Prop} {cs:List Value} (h:∃a:aC,a.Ok/\bw S w a.lit cs):∃a:aC,a.Ok/\bw S w a.cells cs:=by
 obtain⟨a,h1,h2⟩:=h;exact⟨a,h1,by rw[aC.al];exact h2⟩
theorem I4 (i:∀b,b<w.heap.size->S b) (fuel:Nat) (cs:List Value) (x:DataW H×List MemPlace) (h:DataW.trod enc Tryz.prog w 0 spare held fuel 202 cs=some x):∃a:aC,a.Ok/\bw S w a.lit cs:=by
 obtain⟨xs,n,k,_,hl,hlen,hf⟩:=DataW.trod_struct Tryz.underlying202 h;have h0:=hf 0 _ rfl;have h1:=hf 1 _ rfl;rw[VR]at hl;obtain⟨z0,d,rfl⟩:=EH hl;obtain⟨l,m,rfl⟩:=EH (show xs.length=2 from hlen);simp [GW,OO]at h0 h1;obtain⟨e,f,_⟩:=DataW.trod_int Tryz.underlying3 h0;obtain rfl:z0=_:=by simpa using f
 obtain⟨s1,g,_,q1⟩:=DataW.trod_string Tryz.underlying9 h1;obtain rfl:d=_:=by simpa using g
 obtain⟨⟨c⟩⟩:=s1;replace q1:c.length<=9223372036854775807:=by have h':c.length<=maxLen:=q1;simpa[maxLen]using h'
 refine⟨.mk e c,⟨q1⟩,rfl,λj pv hj=>?_⟩
 match j with
 | 0=>cases hj;exact⟨_,rfl,.int _ _⟩
 | 1=>cases hj;exact⟨_,rfl,.str _⟩
 | j+2=>simp [aC.lit,sl]at hj
structure aR.Ok (a:aR):Prop where
 h0:a.cm.length<=9223372036854775807
 h1:a.az.length<=9223372036854775807
 h2:∀x∈a.az,ay.Ok x
 h3:a.ao.length<=9223372036854775807
 h4:∀x∈a.ao,aC.Ok x
theorem aR.fh {w:World} {S:Nat->Prop} {cs:List Value} (h:∃a:aR,a.Ok/\bw S w a.lit cs):∃a:aR,a.Ok/\bw S w a.cells cs:=by
 obtain⟨a,h1,h2⟩:=h;exact⟨a,h1,by rw[aR.al];exact h2⟩
theorem I5 (c:∀b,b<w.heap.size->S b) (fuel:Nat) (cs:List Value) (x:DataW H×List MemPlace) (h:DataW.trod enc Tryz.prog w 0 spare held fuel 34 cs=some x):∃a:aR,a.Ok/\bw S w a.lit cs:=by
 obtain⟨xs,n,q,_,hl,hlen,hf⟩:=DataW.trod_struct Tryz.underlying34 h;have h0:=hf 0 _ rfl;have h1:=hf 1 _ rfl;have h2:=hf 2 _ rfl;rw[aaq]at hl;obtain⟨z0,r,s,rfl⟩:=LR hl;obtain⟨t,u,v,rfl⟩:=LR (show xs.length=3 from hlen);simp [OO,acR,acS]at h0 h1 h2;obtain⟨f,g,_,d⟩:=DataW.trod_string Tryz.underlying9 h0;obtain rfl:z0=_:=by simpa using g
 obtain⟨⟨e⟩⟩:=f;replace d:e.length<=9223372036854775807:=by have h':e.length<=maxLen:=d;simpa[maxLen]using h'
 obtain⟨i,q1,k,l⟩:=nr ay.cells ay.Ok default Tryz.underlying31 VQ ajp (λa=>by rw[ay.al];rfl) c (λm hm cs x h=>ay.fh (I3 c m cs x h)) h1;obtain⟨o,q2,g2,p⟩:=nr aC.cells aC.Ok default Tryz.underlying32 VR ajp (λa=>by rw[aC.al];rfl) c (λm hm cs x h=>aC.fh (I4 c m cs x h)) h2;refine⟨.mk e i o,⟨d,q1,k,q2,g2⟩,rfl,λj pv hj=>?_⟩
 match j with
 | 0=>cases hj;exact⟨_,rfl,.str _⟩
 | 1=>cases hj;exact⟨_,rfl,l⟩
 | 2=>cases hj;exact⟨_,rfl,p⟩
 | j+3=>simp [aR.lit,sl]at hj
structure bc.Ok (a:bc):Prop where
 h0:a.cu.length<=9223372036854775807
theorem bc.fh {w:World} {S:Nat->Prop} {cs:List Value} (h:∃a:bc,a.Ok/\bw S w a.lit cs):∃a:bc,a.Ok/\bw S w a.cells cs:=by
 obtain⟨a,h1,h2⟩:=h;exact⟨a,h1,by rw[bc.al];exact h2⟩
theorem LZ (l:∀b,b<w.heap.size->S b) (fuel:Nat) (cs:List Value) (x:DataW H×List MemPlace) (h:DataW.trod enc Tryz.prog w 0 spare held fuel 113 cs=some x):∃a:bc,a.Ok/\bw S w a.lit cs:=by
 obtain⟨xs,n,m,_,hl,hlen,hf⟩:=DataW.trod_struct Tryz.underlying113 h;have h0:=hf 0 _ rfl;have h1:=hf 1 _ rfl;rw[VK]at hl;obtain⟨z0,e,rfl⟩:=EH hl;obtain⟨o,p,rfl⟩:=EH (show xs.length=2 from hlen);simp [GW,OO]at h0 h1;obtain⟨f,g,_,c⟩:=DataW.trod_string Tryz.underlying9 h0;obtain rfl:z0=_:=by simpa using g
 obtain⟨⟨d⟩⟩:=f;replace c:d.length<=9223372036854775807:=by have h':d.length<=maxLen:=c;simpa[maxLen]using h'
 obtain⟨i,k,_⟩:=DataW.trod_int Tryz.underlying3 h1;obtain rfl:e=_:=by simpa using k
 refine⟨.mk d i,⟨c⟩,rfl,λj pv hj=>?_⟩
 match j with
 | 0=>cases hj;exact⟨_,rfl,.str _⟩
 | 1=>cases hj;exact⟨_,rfl,.int _ _⟩
 | j+2=>simp [bc.lit,sl]at hj
structure aF.Ok (a:aF):Prop where
 h0:a.cu.length<=9223372036854775807
 h1:ai.Ok a.av
theorem aF.fh {w:World} {S:Nat->Prop} {cs:List Value} (h:∃a:aF,a.Ok/\bw S w a.lit cs):∃a:aF,a.Ok/\bw S w a.cells cs:=by
 obtain⟨a,h1,h2⟩:=h;exact⟨a,h1,by rw[aF.al];exact h2⟩
theorem GX (f:∀b,b<w.heap.size->S b) (fuel:Nat) (cs:List Value) (x:DataW H×List MemPlace) (h:DataW.trod enc Tryz.prog w 0 spare held fuel 256 cs=some x):∃a:aF,a.Ok/\bw S w a.lit cs:=by
 obtain⟨xs,n,l,_,hl,hlen,hf⟩:=DataW.trod_struct Tryz.underlying256 h;have h0:=hf 0 _ rfl;have h1:=hf 1 _ rfl;rw[VU]at hl;obtain⟨z0,m,o,p,q,r,rfl⟩:=Qv hl;obtain⟨s,t,rfl⟩:=EH (show xs.length=2 from hlen);simp [OO,zh]at h0 h1;obtain⟨g,i,_,d⟩:=DataW.trod_string Tryz.underlying9 h0;obtain rfl:z0=_:=by simpa using i
 obtain⟨⟨e⟩⟩:=g;replace d:e.length<=9223372036854775807:=by have h':e.length<=maxLen:=d;simpa[maxLen]using h'
 obtain⟨k,q1,c⟩:=oq f n _ _ h1;refine⟨.mk e k,⟨d,q1⟩,rfl,λj pv hj=>?_⟩
 match j with
 | 0=>cases hj;exact⟨_,rfl,.str _⟩
 | 1=>exact c.2 0 pv hj
 | 2=>exact c.2 1 pv hj
 | 3=>exact c.2 2 pv hj
 | 4=>exact c.2 3 pv hj
 | 5=>exact c.2 4 pv hj
 | j+6=>simp [aF.lit,sl]at hj
structure aO.Ok (a:aO):Prop where
 h0:a.eD.length<=9223372036854775807
 h1:a.cJ.length<=9223372036854775807
 h2:∀x∈a.cJ,aF.Ok x
theorem aO.fh {w:World} {S:Nat->Prop} {cs:List Value} (h:∃a:aO,a.Ok/\bw S w a.lit cs):∃a:aO,a.Ok/\bw S w a.cells cs:=by
 obtain⟨a,h1,h2⟩:=h;exact⟨a,h1,by rw[aO.al];exact h2⟩
theorem I6 (e:∀b,b<w.heap.size->S b) (fuel:Nat) (cs:List Value) (x:DataW H×List MemPlace) (h:DataW.trod enc Tryz.prog w 0 spare held fuel 118 cs=some x):∃a:aO,a.Ok/\bw S w a.lit cs:=by
 obtain⟨xs,n,q,_,hl,hlen,hf⟩:=DataW.trod_struct Tryz.underlying118 h;have h0:=hf 0 _ rfl;have h1:=hf 1 _ rfl;have h2:=hf 2 _ rfl;rw[VL]at hl;obtain⟨z0,f,r,rfl⟩:=LR hl;obtain⟨s,t,u,rfl⟩:=LR (show xs.length=3 from hlen);simp [ZT,OO,aas]at h0 h1 h2;obtain⟨g,i,_,c⟩:=DataW.trod_string Tryz.underlying9 h0;obtain rfl:z0=_:=by simpa using i
 obtain⟨⟨d⟩⟩:=g;replace c:d.length<=9223372036854775807:=by have h':d.length<=maxLen:=c;simpa[maxLen]using h'
 obtain⟨k,l,_⟩:=DataW.trod_bool Tryz.underlying4 h1;obtain rfl:f=_:=by simpa using l
 obtain⟨o,q2,g2,p⟩:=nr aF.cells aF.Ok default Tryz.underlying116 VU ajp (λa=>by rw[aF.al];rfl) e (λm hm cs x h=>aF.fh (GX e m cs x h)) h2;refine⟨.mk d k o,⟨c,q2,g2⟩,rfl,λj pv hj=>?_⟩
 match j with
 | 0=>cases hj;exact⟨_,rfl,.str _⟩
 | 1=>cases hj;exact⟨_,rfl,.bool _⟩
 | 2=>cases hj;exact⟨_,rfl,p⟩
 | j+3=>simp [aO.lit,sl]at hj
structure aH.Ok (a:aH):Prop where
 h0:a.bh.length<=9223372036854775807
 h1:a.bx.length<=9223372036854775807
 h2:a.aP.length<=9223372036854775807
theorem aH.fh {w:World} {S:Nat->Prop} {cs:List Value} (h:∃a:aH,a.Ok/\bw S w a.lit cs):∃a:aH,a.Ok/\bw S w a.cells cs:=by
 obtain⟨a,h1,h2⟩:=h;exact⟨a,h1,by rw[aH.al];exact h2⟩
theorem GY (e:∀b,b<w.heap.size->S b) (fuel:Nat) (cs:List Value) (x:DataW H×List MemPlace) (h:DataW.trod enc Tryz.prog w 0 spare held fuel 122 cs=some x):∃a:aH,a.Ok/\bw S w a.lit cs:=by
 obtain⟨xs,n,v,_,hl,hlen,hf⟩:=DataW.trod_struct Tryz.underlying122 h;have h0:=hf 0 _ rfl;have h1:=hf 1 _ rfl;have h2:=hf 2 _ rfl;have h3:=hf 3 _ rfl;have h4:=hf 4 _ rfl;rw[VM]at hl;obtain⟨z0,y,f,g,i,rfl⟩:=LS hl;obtain⟨z,A,B,C,D,rfl⟩:=LS (show xs.length=5 from hlen);simp [GW,OO,NU]at h0 h1 h2 h3 h4;obtain⟨k,l,_⟩:=DataW.trod_int Tryz.underlying3 h0;obtain rfl:z0=_:=by simpa using l
 obtain⟨o,q1,_,p⟩:=nr cI (λ_=>True) default Tryz.underlying120 GW ajp (λ_=>rfl) e (λm _ cs x h=>Cj m cs x h) h1;obtain⟨q,e2,_⟩:=DataW.trod_int Tryz.underlying3 h2;obtain rfl:f=_:=by simpa using e2
 obtain⟨r,s,_,q3⟩:=DataW.trod_string Tryz.underlying9 h3;obtain rfl:g=_:=by simpa using s
 obtain⟨⟨c⟩⟩:=r;replace q3:c.length<=9223372036854775807:=by have h':c.length<=maxLen:=q3;simpa[maxLen]using h'
 obtain⟨t,u,_,q4⟩:=DataW.trod_string Tryz.underlying9 h4;obtain rfl:i=_:=by simpa using u
 obtain⟨⟨d⟩⟩:=t;replace q4:d.length<=9223372036854775807:=by have h':d.length<=maxLen:=q4;simpa[maxLen]using h'
 refine⟨.mk k o q c d,⟨q1,q3,q4⟩,rfl,λj pv hj=>?_⟩
 match j with
 | 0=>cases hj;exact⟨_,rfl,.int _ _⟩
 | 1=>cases hj;exact⟨_,rfl,p⟩
 | 2=>cases hj;exact⟨_,rfl,.int _ _⟩
 | 3=>cases hj;exact⟨_,rfl,.str _⟩
 | 4=>cases hj;exact⟨_,rfl,.str _⟩
 | j+5=>simp [aH.lit,sl]at hj
structure bX.Ok (a:bX):Prop where
 h0:ai.Ok a.av
theorem bX.fh {w:World} {S:Nat->Prop} {cs:List Value} (h:∃a:bX,a.Ok/\bw S w a.lit cs):∃a:bX,a.Ok/\bw S w a.cells cs:=by
 obtain⟨a,h1,h2⟩:=h;exact⟨a,h1,by rw[bX.al];exact h2⟩
theorem QA (d:∀b,b<w.heap.size->S b) (fuel:Nat) (cs:List Value) (x:DataW H×List MemPlace) (h:DataW.trod enc Tryz.prog w 0 spare held fuel 310 cs=some x):∃a:bX,a.Ok/\bw S w a.lit cs:=by
 obtain⟨xs,n,i,_,hl,hlen,hf⟩:=DataW.trod_struct Tryz.underlying310 h;have h0:=hf 0 _ rfl;have h1:=hf 1 _ rfl;rw[VZ]at hl;obtain⟨z0,k,l,m,o,p,rfl⟩:=Qv hl;obtain⟨q,r,rfl⟩:=EH (show xs.length=2 from hlen);simp [GW,zh]at h0 h1;obtain⟨e,f,_⟩:=DataW.trod_int Tryz.underlying3 h0;obtain rfl:z0=_:=by simpa using f
 obtain⟨g,q1,c⟩:=oq d n _ _ h1;refine⟨.mk e g,⟨q1⟩,rfl,λj pv hj=>?_⟩
 match j with
 | 0=>cases hj;exact⟨_,rfl,.int _ _⟩
 | 1=>exact c.2 0 pv hj
 | 2=>exact c.2 1 pv hj
 | 3=>exact c.2 2 pv hj
 | 4=>exact c.2 3 pv hj
 | 5=>exact c.2 4 pv hj
 | j+6=>simp [bX.lit,sl]at hj
structure bq.Ok (a:bq):Prop where
 h0:a.cu.length<=9223372036854775807
 h1:a.bx.length<=9223372036854775807
 h2:a.aP.length<=9223372036854775807
 h3:a.bh.length<=9223372036854775807
 h4:a.fArgs.length<=9223372036854775807
 h5:∀x∈a.fArgs,bX.Ok x
theorem bq.fh {w:World} {S:Nat->Prop} {cs:List Value} (h:∃a:bq,a.Ok/\bw S w a.lit cs):∃a:bq,a.Ok/\bw S w a.cells cs:=by
 obtain⟨a,h1,h2⟩:=h;exact⟨a,h1,by rw[bq.al];exact h2⟩
theorem OR (c:∀b,b<w.heap.size->S b) (fuel:Nat) (cs:List Value) (x:DataW H×List MemPlace) (h:DataW.trod enc Tryz.prog w 0 spare held fuel 260 cs=some x):∃a:bq,a.Ok/\bw S w a.lit cs:=by
 obtain⟨xs,n,O,_,hl,hlen,hf⟩:=DataW.trod_struct Tryz.underlying260 h;have h0:=hf 0 _ rfl;have h1:=hf 1 _ rfl;have h2:=hf 2 _ rfl;have h3:=hf 3 _ rfl;have h4:=hf 4 _ rfl;have h5:=hf 5 _ rfl;have h6:=hf 6 _ rfl;have h7:=hf 7 _ rfl;have h8:=hf 8 _ rfl;rw[VV]at hl;obtain⟨z0,k,l,o,p,q,r,P,Q,rfl⟩:=Xj hl;obtain⟨R,T,U,V,W,X,Y,Z,x8,rfl⟩:=Xj (show xs.length=9 from hlen);simp [GW,ZT,OO,NU,aax]at h0 h1 h2 h3 h4 h5 h6 h7 h8;obtain⟨s,t,_⟩:=DataW.trod_int Tryz.underlying3 h0;obtain rfl:z0=_:=by simpa using t
 obtain⟨s1,u,_,q1⟩:=DataW.trod_string Tryz.underlying9 h1;obtain rfl:k=_:=by simpa using u
 obtain⟨⟨d⟩⟩:=s1;replace q1:d.length<=9223372036854775807:=by have h':d.length<=maxLen:=q1;simpa[maxLen]using h'
 obtain⟨v,e2,_⟩:=DataW.trod_bool Tryz.underlying4 h2;obtain rfl:l=_:=by simpa using e2
 obtain⟨y,z,_⟩:=DataW.trod_int Tryz.underlying3 h3;obtain rfl:o=_:=by simpa using z
 obtain⟨A,B,_⟩:=DataW.trod_int Tryz.underlying3 h4;obtain rfl:p=_:=by simpa using B
 obtain⟨C,D,_,e⟩:=DataW.trod_string Tryz.underlying9 h5;obtain rfl:q=_:=by simpa using D
 obtain⟨⟨f⟩⟩:=C;replace e:f.length<=9223372036854775807:=by have h':f.length<=maxLen:=e;simpa[maxLen]using h'
 obtain⟨E,F,_,g⟩:=DataW.trod_string Tryz.underlying9 h6;obtain rfl:r=_:=by simpa using F
 obtain⟨⟨i⟩⟩:=E;replace g:i.length<=9223372036854775807:=by have h':i.length<=maxLen:=g;simpa[maxLen]using h'
 obtain⟨G,I,_,J⟩:=nr cI (λ_=>True) default Tryz.underlying120 GW ajp (λ_=>rfl) c (λm _ cs x h=>Cj m cs x h) h7;obtain⟨K,L,M,N⟩:=nr bX.cells bX.Ok default Tryz.underlying258 VZ ajp (λa=>by rw[bX.al];rfl) c (λm hm cs x h=>bX.fh (QA c m cs x h)) h8;refine⟨.mk s d v y A f i G K,⟨q1,e,g,I,L,M⟩,rfl,λj pv hj=>?_⟩
 match j with
 | 0=>cases hj;exact⟨_,rfl,.int _ _⟩
 | 1=>cases hj;exact⟨_,rfl,.str _⟩
 | 2=>cases hj;exact⟨_,rfl,.bool _⟩
 | 3=>cases hj;exact⟨_,rfl,.int _ _⟩
 | 4=>cases hj;exact⟨_,rfl,.int _ _⟩
 | 5=>cases hj;exact⟨_,rfl,.str _⟩
 | 6=>cases hj;exact⟨_,rfl,.str _⟩
 | 7=>cases hj;exact⟨_,rfl,J⟩
 | 8=>cases hj;exact⟨_,rfl,N⟩
 | j+9=>simp [bq.lit,sl]at hj
structure bI.Ok (a:bI):Prop where
 h0:a.eD.length<=9223372036854775807
theorem bI.fh {w:World} {S:Nat->Prop} {cs:List Value} (h:∃a:bI,a.Ok/\bw S w a.lit cs):∃a:bI,a.Ok/\bw S w a.cells cs:=by
 obtain⟨a,h1,h2⟩:=h;exact⟨a,h1,by rw[bI.al];exact h2⟩
theorem QB (v:∀b,b<w.heap.size->S b) (fuel:Nat) (cs:List Value) (x:DataW H×List MemPlace) (h:DataW.trod enc Tryz.prog w 0 spare held fuel 262 cs=some x):∃a:bI,a.Ok/\bw S w a.lit cs:=by
 obtain⟨xs,n,y,_,hl,hlen,hf⟩:=DataW.trod_struct Tryz.underlying262 h;have h0:=hf 0 _ rfl;have h1:=hf 1 _ rfl;have h2:=hf 2 _ rfl;have h3:=hf 3 _ rfl;have h4:=hf 4 _ rfl;have h5:=hf 5 _ rfl;rw[VW]at hl;obtain⟨z0,d,e,f,g,i,rfl⟩:=Qv hl;obtain⟨z,A,B,C,D,E,rfl⟩:=Qv (show xs.length=6 from hlen);simp [GW,ZT,OO]at h0 h1 h2 h3 h4 h5;obtain⟨k,l,_⟩:=DataW.trod_bool Tryz.underlying4 h0;obtain rfl:z0=_:=by simpa using l
 obtain⟨s1,m,_,q1⟩:=DataW.trod_string Tryz.underlying9 h1;obtain rfl:d=_:=by simpa using m
 obtain⟨⟨c⟩⟩:=s1;replace q1:c.length<=9223372036854775807:=by have h':c.length<=maxLen:=q1;simpa[maxLen]using h'
 obtain⟨o,e2,_⟩:=DataW.trod_int Tryz.underlying3 h2;obtain rfl:e=_:=by simpa using e2
 obtain⟨p,q,_⟩:=DataW.trod_int Tryz.underlying3 h3;obtain rfl:f=_:=by simpa using q
 obtain⟨r,s,_⟩:=DataW.trod_int Tryz.underlying3 h4;obtain rfl:g=_:=by simpa using s
 obtain⟨t,u,_⟩:=DataW.trod_int Tryz.underlying3 h5;obtain rfl:i=_:=by simpa using u
 refine⟨.mk k c o p r t,⟨q1⟩,rfl,λj pv hj=>?_⟩
 match j with
 | 0=>cases hj;exact⟨_,rfl,.bool _⟩
 | 1=>cases hj;exact⟨_,rfl,.str _⟩
 | 2=>cases hj;exact⟨_,rfl,.int _ _⟩
 | 3=>cases hj;exact⟨_,rfl,.int _ _⟩
 | 4=>cases hj;exact⟨_,rfl,.int _ _⟩
 | 5=>cases hj;exact⟨_,rfl,.int _ _⟩
 | j+6=>simp [bI.lit,sl]at hj
structure bU.Ok (a:bU):Prop where
 h0:ai.Ok a.av
theorem bU.fh {w:World} {S:Nat->Prop} {cs:List Value} (h:∃a:bU,a.Ok/\bw S w a.lit cs):∃a:bU,a.Ok/\bw S w a.cells cs:=by
 obtain⟨a,h1,h2⟩:=h;exact⟨a,h1,by rw[bU.al];exact h2⟩
theorem QC (d:∀b,b<w.heap.size->S b) (fuel:Nat) (cs:List Value) (x:DataW H×List MemPlace) (h:DataW.trod enc Tryz.prog w 0 spare held fuel 265 cs=some x):∃a:bU,a.Ok/\bw S w a.lit cs:=by
 obtain⟨xs,n,s,_,hl,hlen,hf⟩:=DataW.trod_struct Tryz.underlying265 h;have h0:=hf 0 _ rfl;have h1:=hf 1 _ rfl;have h2:=hf 2 _ rfl;have h3:=hf 3 _ rfl;have h4:=hf 4 _ rfl;rw[VX]at hl;obtain⟨z0,t,u,v,y,z,e,f,g,rfl⟩:=Xj hl;obtain⟨A,B,C,D,E,rfl⟩:=LS (show xs.length=5 from hlen);simp [GW,zh]at h0 h1 h2 h3 h4;obtain⟨i,k,_⟩:=DataW.trod_int Tryz.underlying3 h0;obtain rfl:z0=_:=by simpa using k
 obtain⟨l,q1,c⟩:=oq d n _ _ h1;obtain⟨m,e2,_⟩:=DataW.trod_int Tryz.underlying3 h2;obtain rfl:e=_:=by simpa using e2
 obtain⟨o,p,_⟩:=DataW.trod_int Tryz.underlying3 h3;obtain rfl:f=_:=by simpa using p
 obtain⟨q,r,_⟩:=DataW.trod_int Tryz.underlying3 h4;obtain rfl:g=_:=by simpa using r
 refine⟨.mk i l m o q,⟨q1⟩,rfl,λj pv hj=>?_⟩
 match j with
 | 0=>cases hj;exact⟨_,rfl,.int _ _⟩
 | 1=>exact c.2 0 pv hj
 | 2=>exact c.2 1 pv hj
 | 3=>exact c.2 2 pv hj
 | 4=>exact c.2 3 pv hj
 | 5=>exact c.2 4 pv hj
 | 6=>cases hj;exact⟨_,rfl,.int _ _⟩
 | 7=>cases hj;exact⟨_,rfl,.int _ _⟩
 | 8=>cases hj;exact⟨_,rfl,.int _ _⟩
 | j+9=>simp [bU.lit,sl]at hj
structure aX.Ok (a:aX):Prop where
 h0:a.ak.length<=9223372036854775807
 h1:a.bf.length<=9223372036854775807
 h2:∀x∈a.bf,ai.Ok x
 h3:a.aY.length<=9223372036854775807
 h4:∀x∈a.aY,bq.Ok x
 h5:a.aQ.length<=9223372036854775807
 h6:∀x∈a.aQ,bI.Ok x
 h7:a.bC.length<=9223372036854775807
 h8:∀x∈a.bC,bU.Ok x
 h9:a.bx.length<=9223372036854775807
 T9:a.aP.length<=9223372036854775807
theorem aX.fh {w:World} {S:Nat->Prop} {cs:List Value} (h:∃a:aX,a.Ok/\bw S w a.lit cs):∃a:aX,a.Ok/\bw S w a.cells cs:=by
 obtain⟨a,h1,h2⟩:=h;exact⟨a,h1,by rw[aX.al];exact h2⟩
theorem CD (c:∀b,b<w.heap.size->S b) (fuel:Nat) (cs:List Value) (x:DataW H×List MemPlace) (h:DataW.trod enc Tryz.prog w 0 spare held fuel 128 cs=some x):∃a:aX,a.Ok/\bw S w a.lit cs:=by
 obtain⟨xs,n,hn,_,hl,hlen,hf⟩:=DataW.trod_struct Tryz.underlying128 h;have h0:=hf 0 _ rfl;have h1:=hf 1 _ rfl;have h2:=hf 2 _ rfl;have h3:=hf 3 _ rfl;have h4:=hf 4 _ rfl;have h5:=hf 5 _ rfl;have h6:=hf 6 _ rfl;have h7:=hf 7 _ rfl;have h8:=hf 8 _ rfl;have h9:=hf 9 _ rfl;have T9:=hf 10 _ rfl;have Xm:=hf 11 _ rfl;have h12:=hf 12 _ rfl;rw[Qy]at hl;obtain⟨z0,u,z2,z3,z4,z5,z6,v,y,z,d,e,f,rfl⟩:=VJ hl;obtain⟨x0,x1,x2,x3,x4,x5,x6,x7,x8,x9,OS,cV,kA,rfl⟩:=VJ (show xs.length=13 from hlen);simp [GW,OO,aao,NU,aat,aau,aav]at h0 h1 h2 h3 h4 h5 h6 h7 h8 h9 T9 Xm h12;obtain⟨A,B,_⟩:=DataW.trod_int Tryz.underlying3 h0;obtain rfl:z0=_:=by simpa using B
 obtain⟨C,D,_⟩:=DataW.trod_int Tryz.underlying3 h1;obtain rfl:u=_:=by simpa using D
 obtain⟨E,q2,_,F⟩:=nr cI (λ_=>True) default Tryz.underlying120 GW ajp (λ_=>rfl) c (λm _ cs x h=>Cj m cs x h) h2;obtain⟨G,q3,I,J⟩:=nr ai.cells ai.Ok default Tryz.underlying22 zh ajp (λa=>by rw[ai.al];rfl) c (λm hm cs x h=>ai.fh (oq c m cs x h)) h3;obtain⟨K,q4,L,M⟩:=nr bq.cells bq.Ok default Tryz.underlying124 VV ajp (λa=>by rw[bq.al];rfl) c (λm hm cs x h=>bq.fh (OR c m cs x h)) h4;obtain⟨N,O,P,Q⟩:=nr bI.cells bI.Ok default Tryz.underlying125 VW ajp (λa=>by rw[bI.al];rfl) c (λm hm cs x h=>bI.fh (QB c m cs x h)) h5;obtain⟨R,T,U,V⟩:=nr bU.cells bU.Ok default Tryz.underlying126 VX ajp (λa=>by rw[bU.al];rfl) c (λm hm cs x h=>bU.fh (QC c m cs x h)) h6;obtain⟨W,X,_⟩:=DataW.trod_int Tryz.underlying3 h7;obtain rfl:v=_:=by simpa using X
 obtain⟨Y,Z,_,g⟩:=DataW.trod_string Tryz.underlying9 h8;obtain rfl:y=_:=by simpa using Z
 obtain⟨⟨i⟩⟩:=Y;replace g:i.length<=9223372036854775807:=by have h':i.length<=maxLen:=g;simpa[maxLen]using h'
 obtain⟨s9,e9,_,k⟩:=DataW.trod_string Tryz.underlying9 h9;obtain rfl:z=_:=by simpa using e9
 obtain⟨⟨l⟩⟩:=s9;replace k:l.length<=9223372036854775807:=by have h':l.length<=maxLen:=k;simpa[maxLen]using h'
 obtain⟨o,p,_⟩:=DataW.trod_int Tryz.underlying3 T9;obtain rfl:d=_:=by simpa using p
 obtain⟨q,r,_⟩:=DataW.trod_int Tryz.underlying3 Xm;obtain rfl:e=_:=by simpa using r
 obtain⟨s,t,_⟩:=DataW.trod_int Tryz.underlying3 h12;obtain rfl:f=_:=by simpa using t
 refine⟨.mk A C E G K N R W i l o q s,⟨q2,q3,I,q4,L,O,P,T,U,g,k⟩,rfl,λj pv hj=>?_⟩
 match j with
 | 0=>cases hj;exact⟨_,rfl,.int _ _⟩
 | 1=>cases hj;exact⟨_,rfl,.int _ _⟩
 | 2=>cases hj;exact⟨_,rfl,F⟩
 | 3=>cases hj;exact⟨_,rfl,J⟩
 | 4=>cases hj;exact⟨_,rfl,M⟩
 | 5=>cases hj;exact⟨_,rfl,Q⟩
 | 6=>cases hj;exact⟨_,rfl,V⟩
 | 7=>cases hj;exact⟨_,rfl,.int _ _⟩
 | 8=>cases hj;exact⟨_,rfl,.str _⟩
 | 9=>cases hj;exact⟨_,rfl,.str _⟩
 | 10=>cases hj;exact⟨_,rfl,.int _ _⟩
 | 11=>cases hj;exact⟨_,rfl,.int _ _⟩
 | 12=>cases hj;exact⟨_,rfl,.int _ _⟩
 | j+13=>simp [aX.lit,sl]at hj
structure ca.Ok (a:ca):Prop where
 h0:ai.Ok a.aK
 h1:aX.Ok a.ae
theorem ca.fh {w:World} {S:Nat->Prop} {cs:List Value} (h:∃a:ca,a.Ok/\bw S w a.lit cs):∃a:ca,a.Ok/\bw S w a.cells cs:=by
 obtain⟨a,h1,h2⟩:=h;exact⟨a,h1,by rw[ca.al];exact h2⟩
theorem QD (e:∀b,b<w.heap.size->S b) (fuel:Nat) (cs:List Value) (x:DataW H×List MemPlace) (h:DataW.trod enc Tryz.prog w 0 spare held fuel 130 cs=some x):∃a:ca,a.Ok/\bw S w a.lit cs:=by
 obtain⟨xs,n,v,_,hl,hlen,hf⟩:=DataW.trod_struct Tryz.underlying130 h;have h0:=hf 0 _ rfl;have h1:=hf 1 _ rfl;have h2:=hf 2 _ rfl;rw[VN]at hl;obtain⟨z0,y,z,A,B,C,D,E,F,G,f,g,i,k,l,m,o,p,q,rfl⟩:=aam hl;obtain⟨I,J,K,rfl⟩:=LR (show xs.length=3 from hlen);simp [GW,zh,Qy]at h0 h1 h2;obtain⟨r,s,_⟩:=DataW.trod_int Tryz.underlying3 h0;obtain rfl:z0=_:=by simpa using s
 obtain⟨t,q1,d⟩:=oq e n _ _ h1;obtain⟨u,q2,c⟩:=CD e n _ _ h2;refine⟨.mk r t u,⟨q1,q2⟩,rfl,λj pv hj=>?_⟩
 match j with
 | 0=>cases hj;exact⟨_,rfl,.int _ _⟩
 | 1=>exact d.2 0 pv hj
 | 2=>exact d.2 1 pv hj
 | 3=>exact d.2 2 pv hj
 | 4=>exact d.2 3 pv hj
 | 5=>exact d.2 4 pv hj
 | 6=>exact c.2 0 pv hj
 | 7=>exact c.2 1 pv hj
 | 8=>exact c.2 2 pv hj
 | 9=>exact c.2 3 pv hj
 | 10=>exact c.2 4 pv hj
 | 11=>exact c.2 5 pv hj
 | 12=>exact c.2 6 pv hj
 | 13=>exact c.2 7 pv hj
 | 14=>exact c.2 8 pv hj
 | 15=>exact c.2 9 pv hj
 | 16=>exact c.2 10 pv hj
 | 17=>exact c.2 11 pv hj
 | 18=>exact c.2 12 pv hj
 | j+19=>simp [ca.lit,sl]at hj
structure bJ.Ok (a:bJ):Prop where
 h0:a.bA.length<=9223372036854775807
 h1:a.dB.length<=9223372036854775807
 h2:∀x∈a.dB,ai.Ok x
 h3:a.cj.length<=9223372036854775807
 h4:∀x∈a.cj,bc.Ok x
 h5:bD.Ok a.ko
 h6:a.dw.length<=9223372036854775807
 h7:∀x∈a.dw,aO.Ok x
 h8:a.cU.length<=9223372036854775807
 h9:∀x∈a.cU,aH.Ok x
 T9:a.lz.length<=9223372036854775807
 Xm:∀x∈a.lz,ca.Ok x
 h12:a.ew.length<=9223372036854775807
 h13:∀x∈a.ew,aX.Ok x
 h14:aR.Ok a.fq
theorem bJ.fh {w:World} {S:Nat->Prop} {cs:List Value} (h:∃a:bJ,a.Ok/\bw S w a.lit cs):∃a:bJ,a.Ok/\bw S w a.cells cs:=by
 obtain⟨a,h1,h2⟩:=h;exact⟨a,h1,by rw[bJ.al];exact h2⟩
theorem GZ (c:∀b,b<w.heap.size->S b) (fuel:Nat) (cs:List Value) (x:DataW H×List MemPlace) (h:DataW.trod enc Tryz.prog w 0 spare held fuel 36 cs=some x):∃a:bJ,a.Ok/\bw S w a.lit cs:=by
 obtain⟨xs,n,hn,_,hl,hlen,hf⟩:=DataW.trod_struct Tryz.underlying36 h;have h0:=hf 0 _ rfl;have h1:=hf 1 _ rfl;have h2:=hf 2 _ rfl;have h3:=hf 3 _ rfl;have h4:=hf 4 _ rfl;have h5:=hf 5 _ rfl;have h6:=hf 6 _ rfl;have h7:=hf 7 _ rfl;have h8:=hf 8 _ rfl;have h9:=hf 9 _ rfl;have T9:=hf 10 _ rfl;have Xm:=hf 11 _ rfl;rw[acT]at hl;obtain⟨z0,o,p,q,z4,z5,z6,z7,z8,z9,r,s,t,u,rfl⟩:=aal hl;obtain⟨x0,x1,x2,x3,x4,x5,x6,x7,x8,x9,OS,cV,rfl⟩:=aak (show xs.length=12 from hlen);simp [GW,OO,aao,acL,aap,acN,acO,acP,acQ,aaq]at h0 h1 h2 h3 h4 h5 h6 h7 h8 h9 T9 Xm;obtain⟨v,y,_⟩:=DataW.trod_int Tryz.underlying3 h0;obtain rfl:z0=_:=by simpa using y
 obtain⟨s1,z,_,q1⟩:=DataW.trod_string Tryz.underlying9 h1;obtain rfl:o=_:=by simpa using z
 obtain⟨⟨e⟩⟩:=s1;replace q1:e.length<=9223372036854775807:=by have h':e.length<=maxLen:=q1;simpa[maxLen]using h'
 obtain⟨A,e2,_⟩:=DataW.trod_int Tryz.underlying3 h2;obtain rfl:p=_:=by simpa using e2
 obtain⟨B,C,_⟩:=DataW.trod_int Tryz.underlying3 h3;obtain rfl:q=_:=by simpa using C
 obtain⟨D,q4,E,F⟩:=nr ai.cells ai.Ok default Tryz.underlying22 zh ajp (λa=>by rw[ai.al];rfl) c (λm hm cs x h=>ai.fh (oq c m cs x h)) h4;obtain⟨G,I,J,K⟩:=nr bc.cells bc.Ok default Tryz.underlying23 VK ajp (λa=>by rw[bc.al];rfl) c (λm hm cs x h=>bc.fh (LZ c m cs x h)) h5;obtain⟨L,M,N⟩:=OQ c n _ _ h6;obtain⟨O,P,Q,R⟩:=nr aO.cells aO.Ok default Tryz.underlying27 VL ajp (λa=>by rw[aO.al];rfl) c (λm hm cs x h=>aO.fh (I6 c m cs x h)) h7;obtain⟨T,U,V,W⟩:=nr aH.cells aH.Ok default Tryz.underlying28 VM ajp (λa=>by rw[aH.al];rfl) c (λm hm cs x h=>aH.fh (GY c m cs x h)) h8;obtain⟨X,Y,Z,p9⟩:=nr ca.cells ca.Ok default Tryz.underlying29 VN ajp (λa=>by rw[ca.al];rfl) c (λm hm cs x h=>ca.fh (QD c m cs x h)) h9;obtain⟨f,Ua,g,i⟩:=nr aX.cells aX.Ok default Tryz.underlying30 Qy ajp (λa=>by rw[aX.al];rfl) c (λm hm cs x h=>aX.fh (CD c m cs x h)) T9;obtain⟨k,l,d⟩:=I5 c n _ _ Xm;refine⟨.mk v e A B D G L O T X f k,⟨q1,q4,E,I,J,M,P,Q,U,V,Y,Z,Ua,g,l⟩,rfl,λj pv hj=>?_⟩
 match j with
 | 0=>cases hj;exact⟨_,rfl,.int _ _⟩
 | 1=>cases hj;exact⟨_,rfl,.str _⟩
 | 2=>cases hj;exact⟨_,rfl,.int _ _⟩
 | 3=>cases hj;exact⟨_,rfl,.int _ _⟩
 | 4=>cases hj;exact⟨_,rfl,F⟩
 | 5=>cases hj;exact⟨_,rfl,K⟩
 | 6=>exact N.2 0 pv hj
 | 7=>cases hj;exact⟨_,rfl,R⟩
 | 8=>cases hj;exact⟨_,rfl,W⟩
 | 9=>cases hj;exact⟨_,rfl,p9⟩
 | 10=>cases hj;exact⟨_,rfl,i⟩
 | 11=>exact d.2 0 pv hj
 | 12=>exact d.2 1 pv hj
 | 13=>exact d.2 2 pv hj
 | j+14=>simp [bJ.lit,sl]at hj
end
end Go.Am
namespace Go.Am
open Go Go.RowKit
def Ub (f:Nat->List PV):Prop:=∀g:PV->PV,(∀x,bW x=true\/dM x=true->g x=x)->(λi=>(f i).map g)=f
theorem DR.Uc {α:Type} {D:List PV->α->Prop} {c:α->List PV} [hc:BD D c] {n:Nat} {f:Nat->List PV} {l:List α} (d:DR D n f l):Ub f:=λg hg=>d.ren (c:=c) hg
theorem zi {α:Type} {c:α->List PV} [hp:qN c] {l:List α}:Ub (row c l):=λg hg=>by
 funext i;exact G0 (λx a=>hg x (.inl (afS.1 (pa hp.pure i) x a)))
theorem zj {cs:List PV} (h:cs.all bW=true):Ub (λ_=>cs):=λg hg=>by
 funext i;exact G0 (λx a=>hg x (.inl (afS.1 h x a)))
theorem rfx {f:Nat->List PV} (h:Ub f) (σ:Nat->Nat) (g sz n:Nat) (e:TypeId):xN σ (.row g sz n e f)=.row g sz n e f:=by
 show ar.row g sz n e (λi=>(f i).map (ns σ))=_;rw[h _ (λx=>QE)]
theorem zk {cs:List PV} {σ:Nat->Nat} {g sz n:Nat} {e:TypeId}:xN σ (.row g sz n e (λ_=>cs))=.row g sz n e (λ_=>cs.map (ns σ)):=rfl
theorem xt {σ:Nat->Nat}:xN σ .dead=.dead:=rfl
theorem nx {h h0 h1:List ar} {is:List Nat} {r0 r1:PV} {K:PV->List ar->Prop} (k:K r1 h1)
  (a:zl (dS is h.length) r0=r1:=by simp only[zl,xO,ns,dS,afO,afR,age,agv,agF,agx,agV,Nat.reduceAdd,Nat.reduceSub];rfl)
  (hh:wE h is h0=h1:=by
   simp (disch:=first | rfl | exact DR.Uc ajz | exact zi | exact zj rfl) only[wE,rC,rfx,zk,xt,ns,dS,afO,afR,ahm,afZ,ahP,age,agv,ahA,ahB,agS,agD,agF,agx,agV,Nat.reduceAdd,Nat.reduceSub];rfl):∃r1 h1,zl (dS is h.length) r0=r1/\wE h is h0=h1/\K r1 h1:=⟨r1,h1,a,hh,k⟩
section
variable {P:Program}{f:FuncId}{h:List ar}{K:PV->List ar->Prop}{r0 r1:PV}{h0 h1:List ar}
theorem acU {hc:List ar} {args a:List PV} (b:ACall P f args hc (λres h=>res=r0/\h=h0)) (is:List Nat) (c:Ud h (dS is h.length) hc is) (k:K r1 h1)
  (d:zl (dS is h.length) r0=r1:=by simp only[zl,xO,ns,dS,afO,afR,age,agv,agF,agx,agV,Nat.reduceAdd,Nat.reduceSub];rfl)
  (hh:wE h is h0=h1:=by
   simp (disch:=first | rfl | exact DR.Uc ajz | exact zi | exact zj rfl) only[wE,rC,rfx,zk,xt,ns,dS,afO,afR,ahm,afZ,ahP,age,agv,ahA,ahB,agS,agD,agF,agx,agV,Nat.reduceAdd,Nat.reduceSub];rfl)
  (hl:hc.length=is.length:=by rfl) (hd:is.Nodup:=by decide) (e:is.all (λid=>Nat.blt id h.length)=true:=by rfl) (g:a=args.map (xO (dS is h.length)):=by rfl):vV P f a h K:=
 ⟨_,b.QF is h c hl hd e g,by rintro _ _ ⟨_,_,⟨rfl,rfl⟩,rfl,rfl⟩;rw[d,hh];exact k⟩
theorem pc1 {hc:List ar} {args a:List PV} (b:ACall P f args hc (λres h=>res=r0/\h=h0)) (is:List Nat) (k:K r1 h1) (c:Ud h (dS is h.length) hc is:=by exact⟨rfl,⟨⟩⟩)
  (d:zl (dS is h.length) r0=r1:=by simp only[zl,xO,ns,dS,afO,afR,age,agv,agF,agx,agV,Nat.reduceAdd,Nat.reduceSub];rfl)
  (hh:wE h is h0=h1:=by
   simp (disch:=first | rfl | exact DR.Uc ajz | exact zi | exact zj rfl) only[wE,rC,rfx,zk,xt,ns,dS,afO,afR,ahm,afZ,ahP,age,agv,ahA,ahB,agS,agD,agF,agx,agV,Nat.reduceAdd,Nat.reduceSub];rfl)
  (hl:hc.length=is.length:=by rfl) (hd:is.Nodup:=by decide) (e:is.all (λid=>Nat.blt id h.length)=true:=by rfl) (g:a=args.map (xO (dS is h.length)):=by rfl):vV P f a h K:=acU b is c k d hh hl hd e g
theorem vW {α:Type} {D:List PV->α->Prop} {n:Nat} {l:List α} {hc:List ar} {args a:List PV} {X b:(Nat->List PV)->PV} {H H1:(Nat->List PV)->List ar} (c:ACall P f args hc (λres h=>∃F,DR D n F l/\res=X F/\h=H F)) (is:List Nat) (e:Ud h (dS is h.length) hc is) (k:∀F,DR D n F l->K (b F) (H1 F))
  (g:∀F,DR D n F l->zl (dS is h.length) (X F)=b F:=by intro F d;simp only[zl,xO,ns,dS,afO,afR,age,agv,agF,agx,agV,Nat.reduceAdd,Nat.reduceSub];rfl)
  (hh:∀F,DR D n F l->wE h is (H F)=H1 F:=by
   intro F d;simp (disch:=first | rfl | exact DR.Uc ajz | exact zi | exact zj rfl) only[wE,rC,rfx,zk,xt,ns,dS,afO,afR,ahm,afZ,ahP,age,agv,ahA,ahB,agS,agD,agF,agx,agV,Nat.reduceAdd,Nat.reduceSub];rfl)
  (hl:hc.length=is.length:=by rfl) (hd:is.Nodup:=by decide) (i:is.all (λid=>Nat.blt id h.length)=true:=by rfl) (j:a=args.map (xO (dS is h.length)):=by rfl):vV P f a h K:=
 ⟨_,c.QF is h e hl hd i j,by rintro _ _ ⟨_,_,⟨F,d,rfl,rfl⟩,rfl,rfl⟩;rw[g F d,hh F d];exact k F d⟩
end
theorem aL {a b:List PV} {off:Nat} {f:Nat->List PV}:∀j,j<1->oN (bu f 0 (dN a off b) j) ((λ_=>dN a off b) j):=Ue rfl
section
variable {h:List ar}{id sub g sz n g2 qs n2:Nat}{e e2:TypeId}{f2:Nat->List PV}{i j:Nat}{F:Nat->Prop}
theorem sw {f:Nat->List PV} {a b:List PV} (hi:i<n) (hp:∀k,k<n2->∀x,x∈f2 k->bW x=true\/dM x=true) (d:h[id]? =some (.row g sz n e (bu f i a)):=by rfl) (hj:a[j]? =some (.own sub g2 0 n2):=by rfl)
  (c:h[sub]? =some (.row g2 qs n2 e2 f2):=by rfl) (hs:a.set j (.aV qs n2 e2 f2 F)=b:=by rfl) (l:id≠sub:=by decide) {h2:List ar} (h3:h2=(h.set id (.row g sz n e (bu f i b))).set sub .dead:=by rfl):G1 h id i j sub F h2:=
 acV a b (bu f i b) hi aI aI ez hp hj hs.symm d c l h3
end
theorem Fz.oe {h η:List ar} {k:List Nat} {id a g b sz i j c n2 d:Nat} {e l:TypeId} {f m:Nat->List PV} (h1:c=n2:=by first | rfl | exact DR.len ajz | exact(DR.len ajz).symm) (h2:n2=d:=by first | rfl | exact DR.len ajz | exact(DR.len ajz).symm) (hk:k[a]? =some id:=by rfl) (n:h[id]? =some (ar.row g sz j e f):=by rfl) (hη:η[a]? =some (ar.row b i d l m):=by rfl):Fz h η k (.own id g 0 c) (.own a b 0 n2):=Fz.od h1 h2 hk n hη
section
variable {h η:List ar}{k:List Nat}{m:Nat}
theorem wB.n:wB h η k [] []:=trivial
theorem wB.c {a b:PV} {l r:List PV} (h1:Fz h η k a b) (h2:wB h η k l r):wB h η k (a::l) (b::r):=⟨h1,h2⟩
theorem zm.n {env:Env}:zm h η k env []:=trivial
theorem zm.c {env:Env} {t:Nat} {v:PV} {r:List (Nat×PV)} (h1:Fz h η k (env t) v) (h2:zm h η k env r):zm h η k env ((t,v)::r):=⟨h1,h2⟩
theorem mW.n {i:Nat}:mW h η k m i [] []:=trivial
theorem mW.c {i id:Nat} {o:ar} {r:List ar} {a:List Nat} (h1:xP h η k m o i id) (h2:mW h η k m (i+1) r a):mW h η k m i (o::r) (id::a):=⟨h1,h2⟩
theorem nwz {α:Type} {D:List PV->α->Prop} {c:α->List PV} {l:List α} {n:Nat} {f:Nat->List PV} (d:DR D n f l) [hc:BD D c] {i id g j sz b a:Nat} {e:TypeId} (o:h[id]? =some (ar.row g sz b e f):=by rfl) (p:a=b:=by first | rfl | exact DR.len ajz | exact(DR.len ajz).symm) (hle:a=n:=by first | rfl | exact DR.len ajz | exact(DR.len ajz).symm) (hi:Nat.ble m i=true:=by rfl):xP h η k m (.row j sz a e f) i id:=ZU (c:=c) d p hle hi o
theorem odz {α:Type} {D:List PV->α->Prop} {c:α->List PV} {l:List α} {n:Nat} {f:Nat->List PV} (d:DR D n f l) [hc:BD D c] {id g sz b a:Nat} {e:TypeId} (i:h[id]? =some (ar.row g sz b e f):=by rfl) (j:a=b:=by first | rfl | exact DR.len ajz | exact(DR.len ajz).symm) (hle:a=n:=by first | rfl | exact DR.len ajz | exact(DR.len ajz).symm):xP h η k m (.row g sz a e f) id id:=odd (c:=c) d j hle i
end
theorem wF {p:Prop} (h:p:=by exact nwz ajz):p:=h
theorem L0 {p:Prop} (h:p:=by exact odz ajz):p:=h
theorem rs {α:Type} {D:List PV->α->Prop} {n:Nat} {f:Nat->List PV} {l:List α} (d:DR D n f l) {X:(Nat->List PV)->PV} {H:(Nat->List PV)->List ar}:∃F,DR D l.length F l/\X f=X F/\H f=H F:=⟨f,d.self,rfl,rfl⟩
end Go.Am
namespace Go.Am
open Go Go.RowKit Go.Proofs
abbrev pI (x:Int):PV:=.int .i64 x
abbrev BF:=(bV×Bool)
abbrev km:=((Int) ⊕ Int)
abbrev dR:=((Unit) ⊕ Bool)
abbrev ZV:=(Int×(List Int))
abbrev G2:=((List Int)×Int)
abbrev ZW:=(Int×(List af))
abbrev LA:=((Unit) ⊕ dR)
abbrev ty6:=(ZV ⊕ Bool)
abbrev V0:=((List af)×(List af))
abbrev ty4:=(cx×(List ay)×(List aC))
abbrev ty3:=(Int×Bool×(List Int)×(List aS)×Int×Int×Int×Bool×Bool×Bool)
abbrev ty2:=(ty3 ⊕ dR)
abbrev ty1:=(Int×(List Int)×Bool×Int×cx×Int×Int×cx×Int×(List af)×Bool×Int×Int×Int×Bool×Bool×Bool×Bool×Bool×Bool×Bool×Bool×Bool)
abbrev ty0:=(ty1 ⊕ ty6)
def Qg (n:FuncId) (a:ai) (r:Bool):Prop:=ACall Tryz.prog n [.agg a.lit] [] (λres h=>res=.bool r/\h=[])
def ZX (n:FuncId) (a:cx) (r:cx):Prop:=ACall Tryz.prog n [.str a] [] (λres h=>res=.str r/\h=[])
def sg2 (n:FuncId) (a:ai) (r:ai):Prop:=ACall Tryz.prog n [.agg a.lit] [] (λres h=>∃F0:Nat->List PV,DR af.D r.aj.length F0 r.aj/\res=.agg [pI r.aU,pI r.bb,.str r.bp,pI r.aE,.own 0 0 0 r.aj.length]/\h=[.row 0 8 r.aj.length 144 F0])
def sg3 (n:FuncId) (a:Int) (r:Bool):Prop:=ACall Tryz.prog n [.int .u8 a] [] (λres h=>res=.bool r/\h=[])
def sg4 (n:FuncId) (a:aR) (r:aR):Prop:=ACall Tryz.prog n [.agg a.lit] [] (λres h=>res=.agg [.str r.cm,.own 0 0 0 r.az.length,.own 1 0 0 r.ao.length]/\h=[.row 0 2 r.az.length 169 (row ay.cells r.az),.row 0 2 r.ao.length 205 (row aC.cells r.ao)])
def sg5 (n:FuncId) (a:List af) (b:Int) (r:Int):Prop:=ACall Tryz.prog n [sl 8 af.cells a,pI b] [] (λres h=>res=pI r/\h=[])
def sg7 (n:FuncId) (a:Int) (b:Int) (r:Int):Prop:=ACall Tryz.prog n [pI a,pI b] [] (λres h=>res=pI r/\h=[])
def sg8 (n:FuncId) (a:Int) (r:cx):Prop:=ACall Tryz.prog n [pI a] [] (λres h=>res=.str r/\h=[])
def sg9 (n:FuncId) (a:cx) (r:Int×Bool):Prop:=ACall Tryz.prog n [.str a] [] (λres h=>res=.hJ [pI r.1,.bool r.2]/\h=[])
def Xn (n:FuncId) (a:bD) (r:Bool):Prop:=ACall Tryz.prog n [.agg [sl 6 aD.cells a.aw]] [] (λres h=>res=.bool r/\h=[])
def Xo (n:FuncId) (a:ai) (b:Int) (r:Int):Prop:=ACall Tryz.prog n [.agg a.lit,pI b] [] (λres h=>res=pI r/\h=[])
def aay (n:FuncId):Prop:=ACall Tryz.prog n [] [] (λres h=>res=.agg [pI 4,pI 0,.str [],pI 0,.au]/\h=[])
def aaz (n:FuncId) (a:bD) (b:ai) (r:ai×bD) (aM:Nat):Prop:=ACall Tryz.prog n [.bE 0 aM 0 0,.agg b.lit] [.row aM 1 1 49 (λ_=>[sl 6 aD.cells a.aw])] (λres h=>res=.agg r.1.lit/\h=[.row aM 1 1 49 (λ_=>[sl 6 aD.cells r.2.aw])])
def aaA (n:FuncId) (a:bD) (b:ai) (r:ai):Prop:=ACall Tryz.prog n [.agg [sl 6 aD.cells a.aw],.agg b.lit] [] (λres h=>∃F0:Nat->List PV,DR af.D r.aj.length F0 r.aj/\res=.agg [pI r.aU,pI r.bb,.str r.bp,pI r.aE,.own 0 0 0 r.aj.length]/\h=[.row 0 8 r.aj.length 144 F0])
def aaB (n:FuncId) (a:List ay) (r:(List ay)):Prop:=ACall Tryz.prog n [sl 2 ay.cells a] [] (λres h=>res=.own 0 0 0 r.length/\h=[.row 0 2 r.length 169 (row ay.cells r)])
def aaC (n:FuncId) (a:List aC) (r:(List aC)):Prop:=ACall Tryz.prog n [sl 2 aC.cells a] [] (λres h=>res=.own 0 0 0 r.length/\h=[.row 0 2 r.length 205 (row aC.cells r)])
def acW (n:FuncId) (a:List af) (r:(List af)):Prop:=ACall Tryz.prog n [sl 8 af.cells a] [] (λres h=>∃F0:Nat->List PV,DR af.D r.length F0 r/\res=.own 0 0 0 r.length/\h=[.row 0 8 r.length 144 F0])
def acX (n:FuncId) (a:af) (r:af):Prop:=ACall Tryz.prog n [.agg a.lit] [] (λres h=>∃F0:Nat->List PV,DR af.D r.av.aj.length F0 r.av.aj/\res=.agg [.bool r.aN.bO,pI r.aN.bb,.str r.aN.bp,pI r.av.aU,pI r.av.bb,.str r.av.bp,pI r.av.aE,.own 0 0 0 r.av.aj.length]/\h=[.row 0 8 r.av.aj.length 144 F0])
theorem tz0 {p:Prop} (h:p:=by exact⟨(nb rfl ⟨.i,.s,.s,.o,.i,.i,.s,.i,(.od ajx),⟨⟩⟩),nw,(ZU (DR.nil (D:=af.D))),(nb rfl ⟨.i,.s,.s,.o,.i,.i,.s,.i,(.od ajx),⟨⟩⟩),nw,(ZU (DR.nil (D:=af.D)) (DR.nil (D:=af.D)).len (DR.nil (D:=af.D)).len),⟨⟩⟩):p:=h
theorem tz1 {p:Prop} (h:p:=by exact⟨(uv rfl),(nb rfl ⟨.i,.s,.s,.o,.i,.i,.s,.i,(.od ajx),⟨⟩⟩),nw,(ZU (DR.nil (D:=af.D))),(nb rfl ⟨.i,.s,.s,.o,.i,.i,.s,.i,(.od ajx),⟨⟩⟩),nw,(ZU (DR.nil (D:=af.D))),⟨⟩⟩):p:=h
theorem lB {p:Prop} (h:p:=by exact⟨L0,⟨⟩⟩):p:=h
theorem vl {p:Prop} (h:p:=by exact⟨.l,.i,.i,⟨⟩⟩):p:=h
theorem Xp {p:Prop} (h:p:=by exact⟨.p,.i,.i,.o,.i,.p,.p,.i,.i,.b,.p,.p,.b,.b,.b,.b,.p,.b,.b,.b,.b,⟨⟩⟩):p:=h
theorem xu {p:Prop} (h:p:=by exact⟨.oe,.i,.i,⟨⟩⟩):p:=h
theorem EJ {p:Prop} (h:p:=by exact⟨(nb rfl ⟨.l,⟨⟩⟩),nw,⟨⟩⟩):p:=h
theorem xw {p:Prop} (h:p:=by exact⟨.l,.l,.i,⟨⟩⟩):p:=h
theorem oS {p:Prop} (h:p:=by exact⟨wF,⟨⟩⟩):p:=h
theorem tz9 {p:Prop} (h:p:=by exact⟨(uv rfl),(nb rfl ⟨.i,.s,.s,.au,.i,.i,.s,.i,.au,⟨⟩⟩),(nb rfl ⟨.i,.s,.s,.l,.i,.i,.s,.i,.au,⟨⟩⟩),⟨⟩⟩):p:=h
theorem aaD {p:Prop} (h:p:=by exact⟨(nb rfl ⟨.i,.s,.s,.o,.i,.i,.s,.i,(.od ajx),⟨⟩⟩),nw,(ZU (DR.nil (D:=af.D))),(nb rfl ⟨.i,.s,.s,.o,.i,.i,.s,.i,.oe,⟨⟩⟩),nw,wF,⟨⟩⟩):p:=h
theorem qf {p:Prop} (h:p:=by exact⟨(uv rfl),⟨⟩⟩):p:=h
theorem rV {p:Prop} (h:p:=by exact⟨.l,.oe,.i,⟨⟩⟩):p:=h
theorem AB {p:Prop} (h:p:=by exact⟨(uv rfl),nw,(uv rfl),⟨⟩⟩):p:=h
theorem CE {p:Prop} (h:p:=by exact⟨(nb rfl ⟨.l,⟨⟩⟩),(uv rfl),⟨⟩⟩):p:=h
theorem jx {p:Prop} (h:p:=by exact⟨.i,⟨⟩⟩):p:=h
theorem jH {p:Prop} (h:p:=by exact⟨nw,⟨⟩⟩):p:=h
theorem QG {p:Prop} (h:p:=by exact⟨.p,.o,.i,.i,.i,.i,.l,.i,.i,.b,.o,.i,.i,.b,⟨⟩⟩):p:=h
theorem BG {p:Prop} (h:p:=by exact⟨.p,.m,.l,.i,.i,⟨⟩⟩):p:=h
theorem Xq {p:Prop} (h:p:=by exact⟨.p,.i,.i,.o,.i,.p,.i,.p,.i,.i,.b,.p,.p,.b,.b,.b,.b,.p,.b,.b,.b,.b,⟨⟩⟩):p:=h
theorem Xr {p:Prop} (h:p:=by exact⟨(nb rfl ⟨.i,.i,.s,.i,.oe,⟨⟩⟩),wF,(nb rfl ⟨.i,.i,.s,.i,.oe,⟨⟩⟩),wF,⟨⟩⟩):p:=h
theorem QH {p:Prop} (h:p:=by exact(.cK ⟨.i,.s,.s,.l,.i,.i,.s,.i,.z,⟨⟩⟩)):p:=h
theorem CF {p:Prop} (h:p:=by exact(.qQ ⟨.i,.b,⟨⟩⟩)):p:=h
theorem vn {p:Prop} (h:p:=by exact⟨.p,.p,⟨⟩⟩):p:=h
theorem aaE {p:Prop} (h:p:=by exact⟨(ob rfl ⟨.l,⟨⟩⟩),(nb rfl ⟨.i,.i,.s,.i,.au,⟨⟩⟩),(uv rfl),(nb rfl ⟨.i,.i,.s,.i,.o,⟨⟩⟩),nw,⟨⟩⟩):p:=h
theorem G3 {p:Prop} (h:p:=by exact⟨.s,.o,.i,.i,.b,⟨⟩⟩):p:=h
theorem Xs {p:Prop} (h:p:=by exact⟨(nb rfl ⟨.s,.au,.au,⟨⟩⟩),(nb rfl ⟨.s,.o,.o,⟨⟩⟩),nw,nw,⟨⟩⟩):p:=h
theorem aaF {p:Prop} (h:p:=by exact⟨(nb rfl ⟨.l,⟨⟩⟩),(nb rfl ⟨.i,.i,.s,.i,.oe,⟨⟩⟩),wF,(nb rfl ⟨.i,.i,.s,.i,.oe,⟨⟩⟩),wF,⟨⟩⟩):p:=h
theorem I7 {p:Prop} (h:p:=by exact⟨(nb rfl ⟨.l,⟨⟩⟩),⟨⟩⟩):p:=h
theorem G4 {p:Prop} (h:p:=by exact⟨(uv rfl),nw,⟨⟩⟩):p:=h
theorem aaG {p:Prop} (h:p:=by exact⟨.p,.i,.i,.o,.i,.p,.i,.i,.b,.p,.p,.b,.b,.b,.b,.p,.b,.b,.b,.b,⟨⟩⟩):p:=h
theorem OT {p:Prop} (h:p:=by exact⟨.p,.p,.p,.l,.i,.i,⟨⟩⟩):p:=h
theorem Uf {p:Prop} (h:p:=by exact(.qQ ⟨.cK ⟨.s,.r,.r,⟨⟩⟩,.b,⟨⟩⟩)):p:=h
theorem QI {p:Prop} (h:p:=by exact⟨.p,.o,.i,.i,.i,.i,.b,⟨⟩⟩):p:=h
theorem Xt {p:Prop} (h:p:=by exact⟨.p,.l,.i,.i,.p,.ap,.b,.b,.l,.i,.i,⟨⟩⟩):p:=h
theorem Ug {p:Prop} (h:p:=by exact⟨.p,.i,.p,.p,.i,.b,.b,.b,⟨⟩⟩):p:=h
theorem G5 {p:Prop} (h:p:=by exact⟨.s,.o,.i,⟨⟩⟩):p:=h
theorem Uh {p:Prop} (h:p:=by exact(.cK ⟨.i,.i,.s,.i,.oe,⟨⟩⟩)):p:=h
theorem Ui {p:Prop} (h:p:=by exact⟨.i,.oe,.p,.i,.l,.i,.i,⟨⟩⟩):p:=h
theorem I8 {p:Prop} (h:p:=by exact⟨.s,.s,.i,⟨⟩⟩):p:=h
theorem Xu {p:Prop} (h:p:=by exact(.qQ ⟨.cK ⟨.s,.l,.l,⟨⟩⟩,.i,⟨⟩⟩)):p:=h
theorem QJ {p:Prop} (h:p:=by exact⟨.p,.i,.i,.o,.i,⟨⟩⟩):p:=h
theorem Xv {p:Prop} (h:p:=by exact⟨.p,.i,.p,.i,.p,.i,.b,.b,.b,⟨⟩⟩):p:=h
theorem Uj {p:Prop} (h:p:=by exact⟨L0,(nb rfl ⟨.l,⟨⟩⟩),⟨⟩⟩):p:=h
theorem QK {p:Prop} (h:p:=by exact⟨.l,(.ox ln),.i,⟨⟩⟩):p:=h
theorem Xw {p:Prop} (h:p:=by exact(.cK ⟨.i,.i,.s,.i,.au,⟨⟩⟩)):p:=h
theorem G6 {p:Prop} (h:p:=by exact⟨.p,.i,⟨⟩⟩):p:=h
theorem OU {p:Prop} (h:p:=by exact⟨(Xx rfl ln),⟨⟩⟩):p:=h
theorem BH {p:Prop} (h:p:=by exact⟨.oe,⟨⟩⟩):p:=h
theorem aaH {p:Prop} (h:p:=by exact(.cK ⟨.b,.i,.s,⟨⟩⟩)):p:=h
theorem QL {p:Prop} (h:p:=by exact⟨.p,.o,.i,.i,⟨⟩⟩):p:=h
theorem Uk {p:Prop} (h:p:=by exact(.cK ⟨.s,.o,.o,⟨⟩⟩)):p:=h
theorem OV {p:Prop} (h:p:=by exact⟨.s,.i,.i,⟨⟩⟩):p:=h
theorem BI {p:Prop} (h:p:=by exact⟨.p,⟨⟩⟩):p:=h
theorem OW {p:Prop} (h:p:=by exact⟨.p,.i,.b,⟨⟩⟩):p:=h
theorem OX {p:Prop} (h:p:=by exact⟨.p,.i,.i,⟨⟩⟩):p:=h
theorem I9 {p:Prop} (h:p:=by exact⟨nw,nw,⟨⟩⟩):p:=h
theorem QM {p:Prop} (h:p:=by exact⟨.l,.o,.i,⟨⟩⟩):p:=h
theorem G7 {p:Prop} (h:p:=by exact⟨.o,⟨⟩⟩):p:=h
end Go.Am
