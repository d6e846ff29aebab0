/- Texts of the proof, joined and shortened. -/
import Derived.Test.YtiigfbapjeefbaaGreatDoorPk5
import Derived.Lib.AtoiTie
import Derived.Lib.IndexMore
set_option linter.unusedVariables false
set_option linter.unusedSimpArgs false
set_option maxRecDepth 100000
namespace Go.Am
open Go Go.RowKit Go.Proofs
def gp (a0:List ae) (a1:Bool) (aa6:Bool) (Gd:Int):Option ((Unit) ⊕ Bool):=
 (if Gd<(bq ((a0.length:Int) - 1)) then
 idx a0 Gd>>=λvU=>
 (
 (if vU.aj=25 then
 some true
 else
 some aa6)
 :Option (Bool))>>=λHP=>
 (if vU.aj=24 then
 (if HP=true then
 (if vU.aj=25 then
 (if a1=true then
 yQ vU.aP 0 1>>=λHA=>
 (if HA=true then
 dI vU.aq>>=λv168=>
 (if v168=true then
 (if (vU.ah.length:Int)>0 then
 some (.inr false)
 else
 gp a0 a1 HP (bq (Gd+1)))
 else
 some (.inr false))
 else
 some (.inr false))
 else
 some (.inr false))
 else
 some (.inr false))
 else
 yQ vU.aP 0 1>>=λaow=>
 (if aow=true then
 dI vU.aq>>=λv159=>
 (if v159=true then
 (if (vU.ah.length:Int)>0 then
 some (.inr false)
 else
 gp a0 a1 HP (bq (Gd+1)))
 else
 some (.inr false))
 else
 some (.inr false)))
 else
 (if vU.aj=25 then
 (if a1=true then
 yQ vU.aP 0 1>>=λUr=>
 (if Ur=true then
 dI vU.aq>>=λHQ=>
 (if HQ=true then
 (if (vU.ah.length:Int)>0 then
 some (.inr false)
 else
 gp a0 a1 HP (bq (Gd+1)))
 else
 some (.inr false))
 else
 some (.inr false))
 else
 some (.inr false))
 else
 some (.inr false)))
 else
 some (.inl ()))
partial_fixpoint
mutual
def bH (a0:ae):Option (Bool):=
 gl a0>>=λ(v1,v2)=>
 (if v1=true then
 (if v2=true then
 ((
 (
 (if a0.aj=1 then
 some (a0.aj==1)
 else
 (if a0.aj=2 then
 some (a0.aj==2)
 else
 (if a0.aj=3 then
 some (a0.aj==3)
 else
 some (a0.aj==4))))
 :Option (Bool))>>=λb9=>
 (if b9=true then
 some (.inr ((a0.ah.length:Int)==0))
 else
 (if a0.aj=5 then
 ((
 kC a0 0
 :Option ((Unit) ⊕ ((Unit) ⊕ Bool)))>>=λN8=>match N8 with
 | .inr r=>some r
 | .inl _=>
 some (.inr true)
 )
 else
 (
 (if a0.aj=8 then
 some (a0.aj==8)
 else
 some (a0.aj==9))
 :Option (Bool))>>=λb46=>
 (if b46=true then
 (if (a0.ah.length:Int)=1 then
 idx a0.ah 0>>=λx53=>
 bH x53>>=λv55=>
 some (.inr v55)
 else
 some (.inr false))
 else
 (
 (if a0.aj=7 then
 some (a0.aj==7)
 else
 (if a0.aj=10 then
 some (a0.aj==10)
 else
 (if a0.aj=11 then
 some (a0.aj==11)
 else
 (if a0.aj=12 then
 some (a0.aj==12)
 else
 some (a0.aj==13)))))
 :Option (Bool))>>=λb57=>
 (if b57=true then
 (if (a0.ah.length:Int)=2 then
 fy a0.ah 0>>=λFV=>
 some (.inr FV)
 else
 some (.inr false))
 else
 (if a0.aj=14 then
 (if (a0.ah.length:Int)=3 then
 fy a0.ah 0>>=λv71=>
 some (.inr v71)
 else
 some (.inr false))
 else
 (
 (if a0.aj=15 then
 some (a0.aj==15)
 else
 some (a0.aj==16))
 :Option (Bool))>>=λb73=>
 (if b73=true then
 (if (a0.ah.length:Int)=2 then
 idx a0.ah 0>>=λx80=>
 eW x80>>=λv82=>
 (if v82=true then
 fy a0.ah 0>>=λv85=>
 some (.inr v85)
 else
 some (.inr false))
 else
 some (.inr false))
 else
 (if a0.aj=17 then
 (if (a0.ah.length:Int)=1 then
 idx a0.ah 0>>=λx89=>
 (if x89.aj=4 then
 idx a0.ah 0>>=λx92=>
 bH x92>>=λv94=>
 some (.inr v94)
 else
 some (.inr false))
 else
 some (.inr false))
 else
 (
 (if a0.aj=18 then
 some (a0.aj==18)
 else
 (if a0.aj=21 then
 some (a0.aj==21)
 else
 some (a0.aj==22)))
 :Option (Bool))>>=λb96=>
 (if b96=true then
 fy a0.ah 0>>=λaox=>
 some (.inr aox)
 else
 (
 (if a0.aj=19 then
 some (a0.aj==19)
 else
 some (a0.aj==20))
 :Option (Bool))>>=λUs=>
 (if Us=true then
 (if (a0.ah.length:Int)>=1 then
 fy a0.ah 0>>=λSQ=>
 some (.inr SQ)
 else
 some (.inr false))
 else
 (if a0.aj=23 then
 oy a0.ah true>>=λGe=>
 some (.inr Ge)
 else
 some (.inl ())))))))))))
 :Option ((Unit) ⊕ Bool))>>=λo6=>match o6 with
 | .inr r=>some r
 | .inl _=>
 some false
 )
 else
 some false)
 else
 some false)
partial_fixpoint
def fy (a0:List ae) (a1:Int):Option (Bool):=
 ((
 kD a0 a1
 :Option ((Unit) ⊕ Bool))>>=λaa7=>match aa7 with
 | .inr r=>some r
 | .inl _=>
 some true
 )
partial_fixpoint
def oy (a0:List ae) (a1:Bool):Option (Bool):=
 ((
 gp a0 a1 false 0
 :Option ((Unit) ⊕ Bool))>>=λUt=>match Ut with
 | .inr r=>some r
 | .inl _=>
 (if (bq ((a0.length:Int) - 1))>=0 then
 idx a0 (bq ((a0.length:Int) - 1))>>=λahp=>
 cc ahp>>=λUu=>
 some Uu
 else
 some false)
 )
partial_fixpoint
def cc (a0:ae):Option (Bool):=
 (if a0.aj=48 then
 (if a0.aP=0 then
 (if a0.aq=([]:aB) then
 ((
 j3 a0 0
 :Option ((Unit) ⊕ Bool))>>=λaa8=>match aa8 with
 | .inr r=>some r
 | .inl _=>
 some true
 )
 else
 some false)
 else
 some false)
 else
 some false)
partial_fixpoint
def fA (a0:ae):Option (Bool):=
 gl a0>>=λ(aoy,HR)=>
 (if aoy=true then
 (if HR=true then
 ((
 (
 (if a0.aj=31 then
 some (a0.aj==31)
 else
 (if a0.aj=37 then
 some (a0.aj==37)
 else
 (if a0.aj=38 then
 some (a0.aj==38)
 else
 (if a0.aj=40 then
 some (a0.aj==40)
 else
 some (a0.aj==47)))))
 :Option (Bool))>>=λUv=>
 (if Uv=true then
 some (.inr ((a0.ah.length:Int)==0))
 else
 (
 (if a0.aj=32 then
 some (a0.aj==32)
 else
 (if a0.aj=33 then
 some (a0.aj==33)
 else
 some (a0.aj==42)))
 :Option (Bool))>>=λUw=>
 (if Uw=true then
 (if (a0.ah.length:Int)=1 then
 idx a0.ah 0>>=λahq=>
 bH ahq>>=λyX=>
 some (.inr yX)
 else
 some (.inr false))
 else
 (if a0.aj=39 then
 (if (a0.ah.length:Int)<=1 then
 fy a0.ah 0>>=λHT=>
 some (.inr HT)
 else
 some (.inr false))
 else
 (if a0.aj=41 then
 (if (a0.ah.length:Int)=1 then
 idx a0.ah 0>>=λahr=>
 eW ahr>>=λaoz=>
 (if aoz=true then
 idx a0.ah 0>>=λahs=>
 bH ahs>>=λS6=>
 some (.inr S6)
 else
 some (.inr false))
 else
 some (.inr false))
 else
 (if a0.aj=34 then
 yQ (a0.ah.length:Int) 2 3>>=λQq=>
 (if Qq=true then
 idx a0.ah 0>>=λaht=>
 bH aht>>=λaoA=>
 (if aoA=true then
 idx a0.ah 1>>=λahu=>
 cc ahu>>=λaoB=>
 (if aoB=true then
 idx a0.ah (bq ((a0.ah.length:Int) - 1))>>=λahv=>
 cc ahv>>=λHU=>
 some (.inr HU)
 else
 some (.inr false))
 else
 some (.inr false))
 else
 some (.inr false))
 else
 (if a0.aj=35 then
 (if (a0.ah.length:Int)=2 then
 idx a0.ah 0>>=λahw=>
 bH ahw>>=λaoC=>
 (if aoC=true then
 idx a0.ah 1>>=λahx=>
 cc ahx>>=λaoD=>
 some (.inr aoD)
 else
 some (.inr false))
 else
 some (.inr false))
 else
 (if a0.aj=36 then
 yQ (a0.ah.length:Int) 3 4>>=λaoE=>
 (if aoE=true then
 R7 a0.ah (bq ((a0.ah.length:Int) - 1))>>=λaa9=>
 fy aa9 0>>=λaoF=>
 (if aoF=true then
 idx a0.ah 1>>=λahy=>
 (if ahy.aj=4 then
 idx a0.ah (bq ((a0.ah.length:Int) - 2))>>=λahz=>
 (if ahz.aj=4 then
 idx a0.ah (bq ((a0.ah.length:Int) - 1))>>=λahA=>
 cc ahA>>=λLA=>
 some (.inr LA)
 else
 some (.inr false))
 else
 some (.inr false))
 else
 some (.inr false))
 else
 some (.inr false))
 else
 (if a0.aj=46 then
 yQ (a0.ah.length:Int) 1 2>>=λS7=>
 (if S7=true then
 fy a0.ah 0>>=λHV=>
 (if HV=true then
 (if (a0.ah.length:Int)=1 then
 some (.inr true)
 else
 idx a0.ah 0>>=λahB=>
 some (.inr (ahB.aj==4)))
 else
 some (.inr false))
 else
 some (.inr false))
 else
 (if a0.aj=48 then
 cc a0>>=λLB=>
 some (.inr LB)
 else
 (if a0.aj=43 then
 yQ (a0.ah.length:Int) 2 3>>=λaoG=>
 (if aoG=true then
 idx a0.ah 0>>=λahC=>
 cc ahC>>=λUx=>
 (if Ux=true then
 ((
 eZ a0 1
 :Option ((Unit) ⊕ ((Unit) ⊕ Bool)))>>=λaba=>match aba with
 | .inr r=>some r
 | .inl _=>
 some (.inr true)
 )
 else
 some (.inr false))
 else
 some (.inr false))
 else
 some (.inl ())))))))))))
 :Option ((Unit) ⊕ Bool))>>=λahD=>match ahD with
 | .inr r=>some r
 | .inl _=>
 some false
 )
 else
 some false)
 else
 some false)
partial_fixpoint
def kC (a0:ae) (qp:Int):Option ((Unit) ⊕ ((Unit) ⊕ Bool)):=
 (if qp<(a0.ah.length:Int) then
 idx a0.ah qp>>=λQr=>
 (if Qr.aj=6 then
 (if Qr.aP=0 then
 (if Qr.aq=([]:aB) then
 yQ (Qr.ah.length:Int) 1 2>>=λv35=>
 (if v35=true then
 fy Qr.ah 0>>=λyY=>
 (if yY=true then
 kC a0 (bq (qp+1))
 else
 some (.inr (.inr false)))
 else
 some (.inr (.inr false)))
 else
 some (.inr (.inr false)))
 else
 some (.inr (.inr false)))
 else
 some (.inr (.inr false)))
 else
 some (.inl ()))
partial_fixpoint
def kD (a0:List ae) (sL:Int):Option ((Unit) ⊕ Bool):=
 (if sL<(a0.length:Int) then
 idx a0 sL>>=λUy=>
 bH Uy>>=λv131=>
 (if v131=true then
 kD a0 (bq (sL+1))
 else
 some (.inr false))
 else
 some (.inl ()))
partial_fixpoint
def j3 (a0:ae) (sM:Int):Option ((Unit) ⊕ Bool):=
 (if sM<(a0.ah.length:Int) then
 idx a0.ah sM>>=λUz=>
 fA Uz>>=λLC=>
 (if LC=true then
 j3 a0 (bq (sM+1))
 else
 some (.inr false))
 else
 some (.inl ()))
partial_fixpoint
def eZ (a0:ae) (nO:Int):Option ((Unit) ⊕ ((Unit) ⊕ Bool)):=
 (if nO<(a0.ah.length:Int) then
 idx a0.ah nO>>=λox=>
 gl ox>>=λ(FY,uB)=>
 (
 (if ox.aj=44 then
 (if nO=1 then
 (if (ox.ah.length:Int)=2 then
 idx ox.ah 0>>=λUA=>
 (if UA.aj=4 then
 idx ox.ah 0>>=λUB=>
 bH UB>>=λabb=>
 (if abb=true then
 idx ox.ah 1>>=λUC=>
 cc UC>>=λwH=>
 some wH
 else
 some false)
 else
 some false)
 else
 some false)
 else
 some false)
 else
 some false)
 :Option (Bool))>>=λHW=>
 (
 (if ox.aj=45 then
 (if nO=(bq ((a0.ah.length:Int) - 1)) then
 (if (ox.ah.length:Int)=1 then
 idx ox.ah 0>>=λUD=>
 cc UD>>=λabc=>
 some abc
 else
 some false)
 else
 some false)
 else
 some false)
 :Option (Bool))>>=λLD=>
 (if FY=true then
 (if uB=true then
 (if HW=true then
 eZ a0 (bq (nO+1))
 else
 (if LD=true then
 eZ a0 (bq (nO+1))
 else
 some (.inr (.inr false))))
 else
 some (.inr (.inr false)))
 else
 some (.inr (.inr false)))
 else
 some (.inl ()))
partial_fixpoint
end
def Og (a0:ae) (r:Bool):Prop:=La 79 a0 r
def LF (a0:List ae) (a1:Int) (r:Bool):Prop:=ACall Tryz.prog 149 [sl 4 ae.cells a0,.int .i64 a1] [] (λres h=>res=.bool r/\h=[])
def aeE (a0:List ae) (a1:Bool) (r:Bool):Prop:=sg9 77 a0 a1 r
def UE (a0:ae) (r:Bool):Prop:=La 80 a0 r
def UF (a0:ae) (r:Bool):Prop:=La 76 a0 r
inductive jo:ae->Int->((Unit) ⊕ ((Unit) ⊕ Bool))->Prop
 | mk (aoH:(List ae)->Int->Option (Bool)) (aGg:∀a0 a1 r,aoH a0 a1=some r->LF a0 a1 r) (rI:ae->Int->Option ((Unit) ⊕ ((Unit) ⊕ Bool))) (Oh:∀a0 qp o,rI a0 qp=some o->jo a0 qp o) (a0:ae) (qp:Int) (o:(Unit) ⊕ ((Unit) ⊕ Bool)) (h:(
 (if qp<(a0.ah.length:Int) then
 idx a0.ah qp>>=λQr=>
 (if Qr.aj=6 then
 (if Qr.aP=0 then
 (if Qr.aq=([]:aB) then
 yQ (Qr.ah.length:Int) 1 2>>=λv35=>
 (if v35=true then
 aoH Qr.ah 0>>=λyY=>
 (if yY=true then
 rI a0 (bq (qp+1))
 else
 some (.inr (.inr false)))
 else
 some (.inr (.inr false)))
 else
 some (.inr (.inr false)))
 else
 some (.inr (.inr false)))
 else
 some (.inr (.inr false)))
 else
 some (.inl ()))
 )=some o):jo a0 qp o
inductive jq:(List ae)->Int->((Unit) ⊕ Bool)->Prop
 | mk (G79:ae->Option (Bool)) (aBV:∀a0 r,G79 a0=some r->Og a0 r) (rJ:(List ae)->Int->Option ((Unit) ⊕ Bool)) (Oi:∀a0 sL o,rJ a0 sL=some o->jq a0 sL o) (a0:List ae) (sL:Int) (o:(Unit) ⊕ Bool) (h:(
 (if sL<(a0.length:Int) then
 idx a0 sL>>=λUy=>
 G79 Uy>>=λv131=>
 (if v131=true then
 rJ a0 (bq (sL+1))
 else
 some (.inr false))
 else
 some (.inl ()))
 )=some o):jq a0 sL o
inductive iM:ae->Int->((Unit) ⊕ Bool)->Prop
 | mk (G76:ae->Option (Bool)) (aGI:∀a0 r,G76 a0=some r->UF a0 r) (qy:ae->Int->Option ((Unit) ⊕ Bool)) (LG:∀a0 sM o,qy a0 sM=some o->iM a0 sM o) (a0:ae) (sM:Int) (o:(Unit) ⊕ Bool) (h:(
 (if sM<(a0.ah.length:Int) then
 idx a0.ah sM>>=λUz=>
 G76 Uz>>=λLC=>
 (if LC=true then
 qy a0 (bq (sM+1))
 else
 some (.inr false))
 else
 some (.inl ()))
 )=some o):iM a0 sM o
inductive jr:ae->Int->((Unit) ⊕ ((Unit) ⊕ Bool))->Prop
 | mk (G79:ae->Option (Bool)) (aBV:∀a0 r,G79 a0=some r->Og a0 r) (G80:ae->Option (Bool)) (aGJ:∀a0 r,G80 a0=some r->UE a0 r) (nP:ae->Int->Option ((Unit) ⊕ ((Unit) ⊕ Bool))) (Oj:∀a0 nO o,nP a0 nO=some o->jr a0 nO o) (a0:ae) (nO:Int) (o:(Unit) ⊕ ((Unit) ⊕ Bool)) (h:(
 (if nO<(a0.ah.length:Int) then
 idx a0.ah nO>>=λox=>
 gl ox>>=λ(FY,uB)=>
 (
 (if ox.aj=44 then
 (if nO=1 then
 (if (ox.ah.length:Int)=2 then
 idx ox.ah 0>>=λUA=>
 (if UA.aj=4 then
 idx ox.ah 0>>=λUB=>
 G79 UB>>=λabb=>
 (if abb=true then
 idx ox.ah 1>>=λUC=>
 G80 UC>>=λwH=>
 some wH
 else
 some false)
 else
 some false)
 else
 some false)
 else
 some false)
 else
 some false)
 :Option (Bool))>>=λHW=>
 (
 (if ox.aj=45 then
 (if nO=(bq ((a0.ah.length:Int) - 1)) then
 (if (ox.ah.length:Int)=1 then
 idx ox.ah 0>>=λUD=>
 G80 UD>>=λabc=>
 some abc
 else
 some false)
 else
 some false)
 else
 some false)
 :Option (Bool))>>=λLD=>
 (if FY=true then
 (if uB=true then
 (if HW=true then
 nP a0 (bq (nO+1))
 else
 (if LD=true then
 nP a0 (bq (nO+1))
 else
 some (.inr (.inr false))))
 else
 some (.inr (.inr false)))
 else
 some (.inr (.inr false)))
 else
 some (.inl ()))
 )=some o):jr a0 nO o
theorem Bs:(∀a0 r,bH a0=some r->Og a0 r)/\(∀a0 a1 r,oy a0 a1=some r->aeE a0 a1 r)/\(∀a0 r,cc a0=some r->UE a0 r)/\(∀a0 sM o,j3 a0 sM=some o->iM a0 sM o)/\(∀a0 r,fA a0=some r->UF a0 r)/\(∀a0 nO o,eZ a0 nO=some o->jr a0 nO o)/\(∀a0 a1 r,fy a0 a1=some r->LF a0 a1 r)/\(∀a0 sL o,kD a0 sL=some o->jq a0 sL o)/\(∀a0 qp o,kC a0 qp=some o->jo a0 qp o):=by
 refine bH.mutual_partial_correctness Og aeE UE iM UF jr LF jq jo ?_ ?_ ?_ ?_ ?_ ?_ ?_ ?_ ?_
 intro _ _ _ _ Bt aoI sO aBW a0 r h
 refine eT Tryz.func79 ?_
 refine .d (.d ⟨rfl,_,rfl,?_⟩)
 obtain ⟨⟨v1,v2⟩,uC,h⟩:=bd h
 refine cx (pM uC) (.d ⟨rfl,rfl,_,rfl,(.d (.d (jj h (λwh h=>?_) (λwh h=>?_))))⟩)
 exact .t (.t (.t (.d (eB h))))
 refine .f (.f (jj h (λEu h=>?_) (λEu h=>?_)))
 exact aKo
 obtain ⟨o6,h,yG⟩:=bd h
 refine .cut (λσ η=>.inl ()=o6/\σ=[]/\η=[]) ?_ ?_
 refine .d ⟨rfl,rfl,_,rfl,?_⟩
 obtain ⟨o10,h,Sw⟩:=bd h
 refine .cut (λσ η=>∃b9,b9=o10/\σ=[(1,.aC 0 0 0 0),(5,.int .i64 (a0.ah.length:Int)),(23,.int .i64 a0.aj),(24,.bool b9)]/\η=[.row 0 4 1 29 (λ_=>a0.lit)]) ?_ ?_
 refine .d (sE h (λtU h=>?_) (λtU h=>?_))
 exact aKk
 refine .d (sE h (λtV h=>?_) (λtV h=>?_))
 exact aKk
 refine .d (sE h (λtW h=>?_) (λtW h=>?_))
 exact aKk
 exact aKk
 rintro _ _ ⟨b9,rfl,rfl,rfl⟩
 replace h:=Sw
 refine sV h (λrD h=>?_) (λrD h=>?_)
 refine .d ?_
 exact aJJ
 refine .d (sE h (λtX h=>?_) (λtX h=>?_))
 obtain ⟨N8,h,HX⟩:=bd h
 refine .cut (λσ η=>.inl ()=N8/\σ=[]/\η=[]) ?_ ?_
 refine .d ?_
 have aBX:=aBW _ _ _ h
 refine le (jo.rec (motive:=λp43 qp o41 _=>a0=p43->N8=o41->aQ _ _ [(1,.aC 0 0 0 0),(5,.int .i64 (a0.ah.length:Int)),(6,.int .i64 qp)] [.row 0 4 1 29 (λ_=>a0.lit)]) ?_ aBX rfl rfl) (tk [0] ⟨.p,.i,.i,⟨⟩⟩ ⟨(gg rfl),⟨⟩⟩)
 intro _ ahE _ _ p43 qp o41 h aBY  ahF aBZ
 subst ahF
 subst aBZ
 refine aQ.round (.d (.d (sD h (λLc h=>?_) (λLc h=>?_))))
 refine .d (.d ⟨rfl,rfl,_,rfl,(bk h λQr UG h=>⟨bn UG,_,(ba UG).trans (ae.aO Qr),rfl,_,_,rfl,ao,(.d ⟨rfl,rfl,_,rfl,(sN h (λagt h=>?_) (λagt h=>?_))⟩)⟩)⟩)
 refine .t (.t (.t (.t (.t (.t (.t (.t (.t (.t (.t (.t (.t (.t (.t ?_))))))))))))))
 refine .t (.t (.t (.t (.d ?_))))
 obtain rfl:=si h
 replace h:=HX
 exact aJJ
 refine ⟨rfl,(.f ⟨rfl,_,rfl,(.f (.f (sN h (λSC h=>?_) (λSC h=>?_))))⟩)⟩
 refine .t (.t (.t (.t (.t (.t (.t (.t (.t (.t (.t (.t (.t (.t (.t ?_))))))))))))))
 refine .d ?_
 obtain rfl:=si h
 replace h:=HX
 exact aJJ
 refine ⟨rfl,(.f ⟨rfl,_,rfl,(.f (.f (sEn h (λLd h=>?_) (λLd h=>?_))))⟩)⟩
 refine .t (.t (.t (.t (.t (.t (.t (.t (.t (.t (.t (.d ?_)))))))))))
 obtain rfl:=si h
 replace h:=HX
 exact aJJ
 refine ⟨rfl,(.f ⟨rfl,_,rfl,(.f (.f (bk h λv35 aB0 h=>(cx (rB aB0) (.f (.f (jj h (λLe h=>?_) (λLe h=>?_))))))))⟩)⟩
 refine .t (.t (.t (.t (.t (.d ?_)))))
 obtain rfl:=si h
 replace h:=HX
 exact aJJ
 refine ⟨rfl,(.f ⟨rfl,_,rfl,(.f (bk h λyY UH h=>(cx (ahE _ _ _ UH) (.f (.f (jj h (λUI h=>?_) (λUI h=>?_)))))))⟩)⟩
 refine .d ?_
 obtain rfl:=si h
 replace h:=HX
 exact aJJ
 exact lg (aBY _ _ _ h rfl rfl) (tk [0] ⟨.p,.i,.i,⟨⟩⟩ ⟨(gg rfl),⟨⟩⟩)
 exact aKn
 rintro _ _ ⟨rfl,rfl,rfl⟩
 replace h:=HX
 refine .d ?_
 exact aJJ
 obtain ⟨o47,h,aB1⟩:=bd h
 refine .cut (λσ η=>∃b46,b46=o47/\σ=[(1,.aC 0 0 0 0),(5,.int .i64 (a0.ah.length:Int)),(23,.int .i64 a0.aj),(69,.bool b46)]/\η=[.row 0 4 1 29 (λ_=>a0.lit)]) ?_ ?_
 refine .d (sE h (λUJ h=>?_) (λUJ h=>?_))
 exact aKk
 exact aKk
 rintro _ _ ⟨b46,rfl,rfl,rfl⟩
 replace h:=aB1
 refine sV h (λFM h=>?_) (λFM h=>?_)
 refine .d (sE h (λaB2 h=>?_) (λaB2 h=>?_))
 refine ⟨rfl,(.t ⟨rfl,_,rfl,(.t (bk h λx53 aoJ h=>⟨bn aoJ,_,(ba aoJ).trans (ae.aO x53),(.t (.t (bk h λv55 ahG h=>(cx (Bt _ _ ahG) (.t ?_)))))⟩))⟩)⟩
 exact aJJ
 refine .f (.f (.f (.f (.f ?_))))
 exact aJJ
 obtain ⟨o58,h,aB3⟩:=bd h
 refine .cut (λσ η=>∃b57,b57=o58/\σ=[(1,.aC 0 0 0 0),(5,.int .i64 (a0.ah.length:Int)),(23,.int .i64 a0.aj),(81,.bool b57)]/\η=[.row 0 4 1 29 (λ_=>a0.lit)]) ?_ ?_
 refine .d (sE h (λTm h=>?_) (λTm h=>?_))
 exact aKk
 refine .d (sE h (λSG h=>?_) (λSG h=>?_))
 exact aKk
 refine .d (sE h (λaB4 h=>?_) (λaB4 h=>?_))
 exact aKk
 refine .d (sE h (λahH h=>?_) (λahH h=>?_))
 exact aKk
 exact aKk
 rintro _ _ ⟨b57,rfl,rfl,rfl⟩
 replace h:=aB3
 refine sV h (λSH h=>?_) (λSH h=>?_)
 refine .d (sE h (λTn h=>?_) (λTn h=>?_))
 refine ⟨rfl,(.t ⟨rfl,_,rfl,(.t (bk h λFV ahd h=>(cx (sO _ _ _ ahd) (.t ?_))))⟩)⟩
 exact aJJ
 refine .f (.f (.f ?_))
 exact aJJ
 refine .d (sE h (λTo h=>?_) (λTo h=>?_))
 refine .d (sE h (λahe h=>?_) (λahe h=>?_))
 refine ⟨rfl,(.t ⟨rfl,_,rfl,(.t (bk h λv71 ahf h=>(cx (sO _ _ _ ahf) (.t ?_))))⟩)⟩
 exact aJJ
 refine .f (.f (.f ?_))
 exact aJJ
 obtain ⟨o74,h,aB5⟩:=bd h
 refine .cut (λσ η=>∃b73,b73=o74/\σ=[(1,.aC 0 0 0 0),(5,.int .i64 (a0.ah.length:Int)),(23,.int .i64 a0.aj),(103,.bool b73)]/\η=[.row 0 4 1 29 (λ_=>a0.lit)]) ?_ ?_
 refine .d (sE h (λahI h=>?_) (λahI h=>?_))
 exact aKk
 exact aKk
 rintro _ _ ⟨b73,rfl,rfl,rfl⟩
 replace h:=aB5
 refine sV h (λaB6 h=>?_) (λaB6 h=>?_)
 refine .d (sE h (λTp h=>?_) (λTp h=>?_))
 refine ⟨rfl,(.t ⟨rfl,_,rfl,(.t (bk h λx80 UK h=>⟨bn UK,_,(ba UK).trans (ae.aO x80),(.t (.t (bk h λv82 Tq h=>(cx (kz Tq) (.t (sV h (λahh h=>?_) (λahh h=>?_)))))))⟩))⟩)⟩
 refine ⟨rfl,(.t ⟨rfl,_,rfl,(.t (bk h λv85 Lz h=>(cx (sO _ _ _ Lz) (.t ?_))))⟩)⟩
 exact aJJ
 refine .f (.f (.f ?_))
 exact aJJ
 refine .f (.f (.f (.f (.f (.f (.f (.f (.f ?_))))))))
 exact aJJ
 refine .d (sE h (λTr h=>?_) (λTr h=>?_))
 refine .d (sE h (λahi h=>?_) (λahi h=>?_))
 refine ⟨rfl,(.t ⟨rfl,_,rfl,(.t (bk h λx89 aoK h=>⟨bn aoK,_,(ba aoK).trans (ae.aO x89),(.t (.t (.t (.t (sE h (λahJ h=>?_) (λahJ h=>?_))))))⟩))⟩)⟩
 refine ⟨rfl,(.t ⟨rfl,_,rfl,(.t (bk h λx92 aoL h=>⟨bn aoL,_,(ba aoL).trans (ae.aO x92),(.t (.t (bk h λv94 aB7 h=>(cx (Bt _ _ aB7) (.t ?_)))))⟩))⟩)⟩
 exact aJJ
 refine .f (.f (.f (.f (.f ?_))))
 exact aJJ
 refine .f (.f (.f (.f (.f (.f (.f (.f (.f (.f (.f (.f ?_)))))))))))
 exact aJJ
 obtain ⟨o97,h,ahK⟩:=bd h
 refine .cut (λσ η=>∃b96,b96=o97/\σ=[(1,.aC 0 0 0 0),(5,.int .i64 (a0.ah.length:Int)),(23,.int .i64 a0.aj),(139,.bool b96)]/\η=[.row 0 4 1 29 (λ_=>a0.lit)]) ?_ ?_
 refine .d (sE h (λaoM h=>?_) (λaoM h=>?_))
 exact aKk
 refine .d (sE h (λaoN h=>?_) (λaoN h=>?_))
 exact aKk
 exact aKk
 rintro _ _ ⟨b96,rfl,rfl,rfl⟩
 replace h:=ahK
 refine sV h (λHD h=>?_) (λHD h=>?_)
 refine .d ⟨rfl,rfl,_,rfl,(bk h λaox aoO h=>(cx (sO _ _ _ aoO) ?_))⟩
 exact aJJ
 obtain ⟨aB8,h,aoP⟩:=bd h
 refine .cut (λσ η=>∃Us,Us=aB8/\σ=[(1,.aC 0 0 0 0),(5,.int .i64 (a0.ah.length:Int)),(23,.int .i64 a0.aj),(146,.bool Us)]/\η=[.row 0 4 1 29 (λ_=>a0.lit)]) ?_ ?_
 refine .d (sE h (λTt h=>?_) (λTt h=>?_))
 exact aKk
 exact aKk
 rintro _ _ ⟨Us,rfl,rfl,rfl⟩
 replace h:=aoP
 refine sV h (λaoQ h=>?_) (λaoQ h=>?_)
 refine .d (sD h (λaoR h=>?_) (λaoR h=>?_))
 refine ⟨rfl,(.t ⟨rfl,_,rfl,(.t (bk h λSQ Tu h=>(cx (sO _ _ _ Tu) (.t ?_))))⟩)⟩
 exact aJJ
 refine .f (.f (.f ?_))
 exact aJJ
 refine .d (sE h (λTv h=>?_) (λTv h=>?_))
 refine .d ⟨rfl,rfl,_,rfl,(bk h λGe HY h=>(cx (aoI _ _ _ HY) ?_))⟩
 exact aJJ
 exact aKn
 rintro _ _ ⟨rfl,rfl,rfl⟩
 replace h:=yG
 exact aKo
 intro _ zP a0 a1 r h
 refine eT Tryz.func77 ?_
 refine .d (.d (.d ?_))
 obtain ⟨Ut,h,qz⟩:=bd h
 refine .cut (λσ η=>.inl ()=Ut/\σ=[(0,sl 4 ae.cells a0),(6,.int .i64 (bq ((a0.length:Int) - 1)))]/\η=[]) ?_ ?_
 refine .d ?_
 refine le (gp.partial_correctness a0 a1 (motive:=λaa6 Gd aoS=>Ut=aoS->aQ _ _ [(0,sl 4 ae.cells a0),(1,.bool a1),(5,.bool aa6),(6,.int .i64 (bq ((a0.length:Int) - 1))),(7,.int .i64 Gd)] []) ?_ false 0 Ut h rfl) (tk [] ⟨.l,.b,.b,.i,.i,⟨⟩⟩ ⟨⟩)
 intro aGK UL aa6 Gd aoS h aoT
 subst aoT
 refine aQ.round (.d (.d (sD h (λTE h=>?_) (λTE h=>?_))))
 refine .d (.d (bk h λvU aeF h=>⟨bn aeF,_,(ba aeF).trans (ae.aO vU),rfl,_,_,rfl,ao,?_⟩))
 obtain ⟨aB9,h,aoU⟩:=bd h
 refine .cut (λσ η=>∃HP,HP=aB9/\σ=[(0,sl 4 ae.cells a0),(1,.bool a1),(5,.bool HP),(6,.int .i64 (bq ((a0.length:Int) - 1))),(7,.int .i64 Gd),(8,.aC 0 0 0 0)]/\η=[.row 0 4 1 29 (λ_=>vU.lit)]) ?_ ?_
 refine .d ⟨rfl,rfl,_,rfl,(sE h (λTH h=>?_) (λTH h=>?_))⟩
 exact ct ⟨_,si h,rfl,rfl⟩ (tk [0] ⟨.l,.b,.b,.i,.i,.p,⟨⟩⟩ ⟨(gg rfl),⟨⟩⟩)
 exact ct ⟨_,si h,rfl,rfl⟩ (tk [0] ⟨.l,.b,.b,.i,.i,.p,⟨⟩⟩ ⟨(gg rfl),⟨⟩⟩)
 rintro _ _ ⟨HP,rfl,rfl,rfl⟩
 replace h:=aoU
 refine .d ⟨rfl,rfl,_,rfl,(sE h (λHH h=>?_) (λHH h=>?_))⟩
 refine .t (.t (jj h (λaoV h=>?_) (λaoV h=>?_)))
 refine .t (.t (.t (.t (.t (.f ⟨rfl,(.f ⟨rfl,_,rfl,(.f (bk h λaow aoW h=>(cx (rB aoW) (.f (.f (jj h (λaoX h=>?_) (λaoX h=>?_)))))))⟩)⟩)))))
 refine .t (.t (.t (.t (.t (.t (.t (.t (.t (.t (.d ?_))))))))))
 exact aJL
 refine ⟨rfl,(.f ⟨rfl,_,rfl,(.f (bk h λv159 UM h=>(cx (eY UM) (.f (.f (jj h (λaoY h=>?_) (λaoY h=>?_)))))))⟩)⟩
 refine .t (.t (.t (.t (.t (.d ?_)))))
 exact aJL
 refine ⟨rfl,(.f ⟨rfl,_,rfl,(.f (.f (.f (sD h (λTK h=>?_) (λTK h=>?_)))))⟩)⟩
 refine .d ?_
 exact aJL
 exact aKD
 refine ⟨rfl,(.f ⟨rfl,_,rfl,(.f (.f (sE h (λTL h=>?_) (λTL h=>?_))))⟩)⟩
 refine .f (.t (.f (jj h (λHI h=>?_) (λHI h=>?_))))
 refine .t (.t (.t (.t (.t (.t (.t (.t (.t (.t (.t (.t (.t (.t (.t ?_))))))))))))))
 refine .d ?_
 exact aJL
 refine ⟨rfl,(.f ⟨rfl,_,rfl,(.f (bk h λHA TM h=>(cx (rB TM) (.f (.f (jj h (λaoZ h=>?_) (λaoZ h=>?_)))))))⟩)⟩
 refine .t (.t (.t (.t (.t (.t (.t (.t (.t (.t (.d ?_))))))))))
 exact aJL
 refine ⟨rfl,(.f ⟨rfl,_,rfl,(.f (bk h λv168 UN h=>(cx (eY UN) (.f (.f (jj h (λao0 h=>?_) (λao0 h=>?_)))))))⟩)⟩
 refine .t (.t (.t (.t (.t (.d ?_)))))
 exact aJL
 refine ⟨rfl,(.f ⟨rfl,_,rfl,(.f (.f (.f (sD h (λao1 h=>?_) (λao1 h=>?_)))))⟩)⟩
 refine .d ?_
 exact aJL
 exact aKD
 refine .f (.f (.f (.t (.t (.t (.t (.t (.t (.t (.t (.t (.t (.t (.t ?_))))))))))))))
 refine .t (.t (.t (.t (.d ?_))))
 exact aJL
 refine .f (.f (.f ⟨rfl,(.f ⟨rfl,_,rfl,(.f (.f (sE h (λao2 h=>?_) (λao2 h=>?_))))⟩)⟩))
 refine .f (.t (.f (jj h (λUO h=>?_) (λUO h=>?_))))
 refine .t (.t (.t (.t (.t (.t (.t (.t (.t (.t (.t (.t (.t (.t (.t ?_))))))))))))))
 refine .d ?_
 exact aJL
 refine ⟨rfl,(.f ⟨rfl,_,rfl,(.f (bk h λUr ao3 h=>(cx (rB ao3) (.f (.f (jj h (λao4 h=>?_) (λao4 h=>?_)))))))⟩)⟩
 refine .t (.t (.t (.t (.t (.t (.t (.t (.t (.t (.d ?_))))))))))
 exact aJL
 refine ⟨rfl,(.f ⟨rfl,_,rfl,(.f (bk h λHQ HZ h=>(cx (eY HZ) (.f (.f (jj h (λao5 h=>?_) (λao5 h=>?_)))))))⟩)⟩
 refine .t (.t (.t (.t (.t (.d ?_)))))
 exact aJL
 refine ⟨rfl,(.f ⟨rfl,_,rfl,(.f (.f (.f (sD h (λUo h=>?_) (λUo h=>?_)))))⟩)⟩
 refine .d ?_
 exact aJL
 exact aKD
 refine .f (.f (.f (.t (.t (.t (.t (.t (.t (.t (.t (.t (.t (.t (.t ?_))))))))))))))
 refine .t (.t (.t (.t (.d ?_))))
 exact aJL
 exact ct ⟨si h,rfl,rfl⟩ (tk [] ⟨.l,.i,⟨⟩⟩ ⟨⟩)
 rintro _ _ ⟨rfl,rfl,rfl⟩
 replace h:=qz
 refine .d (sD h (λao6 h=>?_) (λao6 h=>?_))
 exact .t (.t (bk h λahp aeG h=>⟨bn aeG,_,(ba aeG).trans (ae.aO ahp),(.t (.t (bk h λUu UP h=>(cx (zP _ _ UP) (.t (eB h))))))⟩))
 exact .f (.f (.f (.f (.f (eB h)))))
 intro _ ao7 a0 r h
 refine eT Tryz.func80 ?_
 refine .d (.d (.d ⟨rfl,rfl,_,rfl,(sN h (λao8 h=>?_) (λao8 h=>?_))⟩))
 exact .t (.t (.t (.t (.t (.t (.t (.t (.d (eB h)))))))))
 refine ⟨rfl,(.f ⟨rfl,_,rfl,(.f (.f (sN h (λao9 h=>?_) (λao9 h=>?_))))⟩)⟩
 exact .t (.t (.t (.t (.d (eB h)))))
 refine ⟨rfl,(.f ⟨rfl,_,rfl,(.f (.f (sEn h (λapa h=>?_) (λapa h=>?_))))⟩)⟩
 exact aKo
 obtain ⟨aa8,h,aeH⟩:=bd h
 refine .cut (λσ η=>.inl ()=aa8/\σ=[]/\η=[]) ?_ ?_
 refine .d ?_
 have apb:=ao7 _ _ _ h
 refine le (iM.rec (motive:=λapc sM apd _=>a0=apc->aa8=apd->aQ _ _ [(1,.aC 0 0 0 0),(3,.int .i64 sM)] [.row 0 4 1 29 (λ_=>a0.lit)]) ?_ apb rfl rfl) (tk [0] ⟨.p,.i,⟨⟩⟩ ⟨(gg rfl),⟨⟩⟩)
 intro _ ape _ _ apc sM apd h apf  abd apg
 subst abd
 subst apg
 refine aQ.round (.d (.d ⟨rfl,rfl,_,rfl,(sD h (λaph h=>?_) (λaph h=>?_))⟩))
 refine .d (.d ⟨rfl,rfl,_,rfl,(bk h λUz Ew h=>⟨bn Ew,_,(ba Ew).trans (ae.aO Uz),(bk h λLC api h=>(cx (ape _ _ api) (jj h (λapj h=>?_) (λapj h=>?_))))⟩)⟩)
 refine .d ?_
 obtain rfl:=si h
 replace h:=aeH
 exact eB h
 exact lg (apf _ _ _ h rfl rfl) (tk [0] ⟨.p,.i,⟨⟩⟩ ⟨(gg rfl),⟨⟩⟩)
 exact aKn
 rintro _ _ ⟨rfl,rfl,rfl⟩
 replace h:=aeH
 exact aKo
 intro F0 F1 nK nL a0 sM o h
 exact .mk F1 nL F0 nK a0 sM o h
 intro _ _ _ _ Bt zP UQ sO a0 r h
 refine eT Tryz.func76 ?_
 refine .d (.d ⟨rfl,_,rfl,?_⟩)
 obtain ⟨⟨aoy,HR⟩,apk,h⟩:=bd h
 refine cx (pM apk) (.d ⟨rfl,rfl,_,rfl,(.d (.d (jj h (λTP h=>?_) (λTP h=>?_))))⟩)
 exact .t (.t (.t (.d (eB h))))
 refine .f (.f (jj h (λBr h=>?_) (λBr h=>?_)))
 exact aKo
 obtain ⟨ahD,h,gV⟩:=bd h
 refine .cut (λσ η=>.inl ()=ahD/\σ=[]/\η=[]) ?_ ?_
 refine .d ⟨rfl,rfl,_,rfl,?_⟩
 obtain ⟨aCa,h,apl⟩:=bd h
 refine .cut (λσ η=>∃Uv,Uv=aCa/\σ=[(1,.aC 0 0 0 0),(5,.int .i64 (a0.ah.length:Int)),(27,.int .i64 a0.aj),(28,.bool Uv)]/\η=[.row 0 4 1 29 (λ_=>a0.lit)]) ?_ ?_
 refine .d (sE h (λapm h=>?_) (λapm h=>?_))
 exact aKk
 refine .d (sE h (λapn h=>?_) (λapn h=>?_))
 exact aKk
 refine .d (sE h (λTQ h=>?_) (λTQ h=>?_))
 exact aKk
 refine .d (sE h (λTR h=>?_) (λTR h=>?_))
 exact aKk
 exact aKk
 rintro _ _ ⟨Uv,rfl,rfl,rfl⟩
 replace h:=apl
 refine sV h (λapo h=>?_) (λapo h=>?_)
 refine .d ?_
 exact aJI
 obtain ⟨aCb,h,apq⟩:=bd h
 refine .cut (λσ η=>∃Uw,Uw=aCb/\σ=[(1,.aC 0 0 0 0),(5,.int .i64 (a0.ah.length:Int)),(27,.int .i64 a0.aj),(36,.bool Uw)]/\η=[.row 0 4 1 29 (λ_=>a0.lit)]) ?_ ?_
 refine .d (sE h (λUR h=>?_) (λUR h=>?_))
 exact aKk
 refine .d (sE h (λTT h=>?_) (λTT h=>?_))
 exact aKk
 exact aKk
 rintro _ _ ⟨Uw,rfl,rfl,rfl⟩
 replace h:=apq
 refine sV h (λTU h=>?_) (λTU h=>?_)
 refine .d (sE h (λapr h=>?_) (λapr h=>?_))
 refine ⟨rfl,(.t ⟨rfl,_,rfl,(.t (bk h λahq aeI h=>⟨bn aeI,_,(ba aeI).trans (ae.aO ahq),(.t (.t (bk h λyX US h=>(cx (Bt _ _ US) (.t ?_)))))⟩))⟩)⟩
 exact aJI
 refine .f (.f (.f (.f (.f ?_))))
 exact aJI
 refine .d (sE h (λUT h=>?_) (λUT h=>?_))
 refine .d (sD h (λaps h=>?_) (λaps h=>?_))
 refine ⟨rfl,(.t ⟨rfl,_,rfl,(.t (bk h λHT UU h=>(cx (sO _ _ _ UU) (.t ?_))))⟩)⟩
 exact aJI
 refine .f (.f (.f ?_))
 exact aJI
 refine .d (sE h (λTV h=>?_) (λTV h=>?_))
 refine .d (sE h (λTW h=>?_) (λTW h=>?_))
 refine ⟨rfl,(.t ⟨rfl,_,rfl,(.t (bk h λahr aeJ h=>⟨bn aeJ,_,(ba aeJ).trans (ae.aO ahr),(.t (.t (bk h λaoz apt h=>(cx (kz apt) (.t (sV h (λapu h=>?_) (λapu h=>?_)))))))⟩))⟩)⟩
 refine ⟨rfl,(.t ⟨rfl,_,rfl,(.t (bk h λahs H0 h=>⟨bn H0,_,(ba H0).trans (ae.aO ahs),(.t (.t (bk h λS6 TX h=>(cx (Bt _ _ TX) (.t ?_)))))⟩))⟩)⟩
 exact aJI
 refine .f (.f (.f (.f (.f ?_))))
 exact aJI
 refine .f (.f (.f (.f (.f (.f (.f (.f (.f (.f (.f ?_))))))))))
 exact aJI
 refine .d (sE h (λTY h=>?_) (λTY h=>?_))
 refine .d (bk h λQq UW h=>(cx (rB UW) (sV h (λUX h=>?_) (λUX h=>?_))))
 refine ⟨rfl,(.t ⟨rfl,_,rfl,(.t (bk h λaht aeK h=>⟨bn aeK,_,(ba aeK).trans (ae.aO aht),(.t (.t (bk h λaoA apv h=>(cx (Bt _ _ apv) (.t (sV h (λapw h=>?_) (λapw h=>?_)))))))⟩))⟩)⟩
 refine ⟨rfl,(.t ⟨rfl,_,rfl,(.t (bk h λahu aeL h=>⟨bn aeL,_,(ba aeL).trans (ae.aO ahu),(.t (.t (bk h λaoB apx h=>(cx (zP _ _ apx) (.t (sV h (λapy h=>?_) (λapy h=>?_)))))))⟩))⟩)⟩
 refine ⟨rfl,(.t ⟨rfl,_,rfl,(.t (.t (.t (bk h λahv aeM h=>⟨bn aeM,_,(ba aeM).trans (ae.aO ahv),(.t (.t (bk h λHU apz h=>(cx (zP _ _ apz) (.t ?_)))))⟩))))⟩)⟩
 exact aJI
 refine .f (.f (.f (.f (.f (.f (.f ?_))))))
 exact aJI
 refine .f (.f (.f (.f (.f (.f (.f (.f (.f (.f (.f (.f (.f ?_))))))))))))
 exact aJI
 refine .f (.f (.f (.f (.f (.f (.f (.f (.f (.f (.f (.f (.f (.f (.f ?_))))))))))))))
 refine .f (.f (.f (.f ?_)))
 exact aJI
 refine .d (sE h (λapA h=>?_) (λapA h=>?_))
 refine .d (sE h (λapB h=>?_) (λapB h=>?_))
 refine ⟨rfl,(.t ⟨rfl,_,rfl,(.t (bk h λahw aeN h=>⟨bn aeN,_,(ba aeN).trans (ae.aO ahw),(.t (.t (bk h λaoC apC h=>(cx (Bt _ _ apC) (.t (sV h (λapD h=>?_) (λapD h=>?_)))))))⟩))⟩)⟩
 refine ⟨rfl,(.t ⟨rfl,_,rfl,(.t (bk h λahx aeO h=>⟨bn aeO,_,(ba aeO).trans (ae.aO ahx),(.t (.t (bk h λaoD apE h=>(cx (zP _ _ apE) (.t ?_)))))⟩))⟩)⟩
 exact aJI
 refine .f (.f (.f (.f (.f ?_))))
 exact aJI
 refine .f (.f (.f (.f (.f (.f (.f (.f (.f (.f (.f ?_))))))))))
 exact aJI
 refine .d (sE h (λapF h=>?_) (λapF h=>?_))
 refine .d (bk h λaoE apG h=>(cx (rB apG) (sV h (λapH h=>?_) (λapH h=>?_))))
 refine ⟨rfl,(.t ⟨rfl,_,rfl,(.t (.t (.t (bk h λaa9 UY h=>⟨trivial,Ga UY,aa9.length,row ae.cells aa9,AS UY,Gb UY,(.t (bk h λaoF apI h=>(cx (sO _ _ _ apI) (.t (sV h (λHK h=>?_) (λHK h=>?_))))))⟩))))⟩)⟩
 refine ⟨rfl,(.t ⟨rfl,_,rfl,(.t (bk h λahy Ex h=>⟨bn Ex,_,(ba Ex).trans (ae.aO ahy),(.t (.t (.t (.t (sE h (λapJ h=>?_) (λapJ h=>?_))))))⟩))⟩)⟩
 refine ⟨rfl,(.t ⟨rfl,_,rfl,(.t (.t (.t (bk h λahz aeP h=>⟨bn aeP,_,(ba aeP).trans (ae.aO ahz),(.t (.t (.t (.t (sE h (λapK h=>?_) (λapK h=>?_))))))⟩))))⟩)⟩
 refine ⟨rfl,(.t ⟨rfl,_,rfl,(.t (.t (.t (bk h λahA aeQ h=>⟨bn aeQ,_,(ba aeQ).trans (ae.aO ahA),(.t (.t (bk h λLA apL h=>(cx (zP _ _ apL) (.t ?_)))))⟩))))⟩)⟩
 exact aJI
 refine .f (.f (.f (.f (.f (.f (.f ?_))))))
 exact aJI
 refine .f (.f (.f (.f (.f (.f (.f (.f (.f (.f (.f (.f (.f (.f (.f ?_))))))))))))))
 refine .f ?_
 exact aJI
 refine .f (.f (.f (.f (.f (.f (.f (.f (.f (.f (.f (.f (.f (.f (.f ?_))))))))))))))
 refine .f (.f (.f (.f (.f (.f (.f (.f ?_)))))))
 exact aJI
 refine .f (.f (.f (.f (.f (.f (.f (.f (.f (.f (.f (.f (.f (.f (.f ?_))))))))))))))
 refine .f (.f (.f (.f (.f (.f (.f (.f (.f (.f (.f (.f (.f (.f (.f ?_))))))))))))))
 exact aJI
 refine .d (sE h (λapM h=>?_) (λapM h=>?_))
 refine .d (bk h λS7 T5 h=>(cx (rB T5) (sV h (λapN h=>?_) (λapN h=>?_))))
 refine ⟨rfl,(.t ⟨rfl,_,rfl,(.t (bk h λHV apO h=>(cx (sO _ _ _ apO) (.t (sV h (λapP h=>?_) (λapP h=>?_))))))⟩)⟩
 refine .t (.t (sE h (λT6 h=>?_) (λT6 h=>?_)))
 refine .t (.t (.t (.t (.t (.t (.t (.t ?_)))))))
 exact aJI
 refine ⟨rfl,(.f ⟨rfl,_,rfl,(.f (bk h λahB aeR h=>⟨bn aeR,_,(ba aeR).trans (ae.aO ahB),(.f (.f (.f (.t (.f (.t ?_))))))⟩))⟩)⟩
 exact aJI
 refine .f (.f (.f (.f ?_)))
 exact aJI
 refine .f (.f (.f (.f (.f (.f (.f (.f ?_)))))))
 exact aJI
 refine .d (sE h (λT7 h=>?_) (λT7 h=>?_))
 refine .d ⟨rfl,_,rfl,(bk h λLB UZ h=>(cx (zP _ _ UZ) ?_))⟩
 exact aJI
 refine .d (sE h (λapQ h=>?_) (λapQ h=>?_))
 refine .d (.d (bk h λaoG apR h=>(cx (rB apR) (jj h (λapS h=>?_) (λapS h=>?_)))))
 refine .t (.t (.t (.t (.t (.t (.t (.d ?_)))))))
 exact aJI
 refine ⟨rfl,(.f ⟨rfl,_,rfl,(.f (bk h λahC aeS h=>⟨bn aeS,_,(ba aeS).trans (ae.aO ahC),(.f (.f (bk h λUx U0 h=>(cx (zP _ _ U0) (.f (.f (jj h (λT9 h=>?_) (λT9 h=>?_))))))))⟩))⟩)⟩
 refine .d ?_
 exact aJI
 obtain ⟨aba,h,Ol⟩:=bd h
 refine .cut (λσ η=>.inl ()=aba/\σ=[]/\η=[]) ?_ ?_
 refine .d ?_
 have U1:=UQ _ _ _ h
 refine le (jr.rec (motive:=λU2 nO U3 _=>a0=U2->aba=U3->aQ _ _ [(1,.aC 0 0 0 0),(5,.int .i64 (a0.ah.length:Int)),(6,.int .i64 nO)] [.row 0 4 1 29 (λ_=>a0.lit)]) ?_ U1 rfl rfl) (tk [0] ⟨.p,.i,.i,⟨⟩⟩ ⟨(gg rfl),⟨⟩⟩)
 intro _ apT _ aeT _ _ U2 nO U3 h aeU  Gf U4
 subst Gf
 subst U4
 refine aQ.round (.d (.d (sD h (λUa h=>?_) (λUa h=>?_))))
 refine .d (.d ⟨rfl,rfl,_,rfl,(bk h λox HL h=>⟨bn HL,_,(ba HL).trans (ae.aO ox),rfl,_,_,rfl,ao,(.d ⟨rfl,_,rfl,?_⟩)⟩)⟩)
 obtain ⟨⟨FY,uB⟩,U5,h⟩:=bd h
 refine cx (pM U5) ?_
 obtain ⟨aCc,h,apU⟩:=bd h
 refine .cut (λσ η=>∃HW,HW=aCc/\σ=[(1,.aC 0 0 0 0),(5,.int .i64 (a0.ah.length:Int)),(6,.int .i64 nO),(7,.aC 1 0 0 0),(8,.bool FY),(9,.bool uB),(10,.bool HW)]/\η=[.row 0 4 1 29 (λ_=>a0.lit),.row 0 4 1 29 (λ_=>ox.lit)]) ?_ ?_
 refine ⟨rfl,rfl,_,rfl,(sE h (λUb h=>?_) (λUb h=>?_))⟩
 refine .t (.t (sE h (λUc h=>?_) (λUc h=>?_)))
 refine ⟨rfl,(.t ⟨rfl,_,rfl,(.t (.t (.t (sE h (λHM h=>?_) (λHM h=>?_)))))⟩)⟩
 refine ⟨rfl,(.t ⟨rfl,_,rfl,(.t (bk h λUA aeV h=>⟨bn aeV,_,(ba aeV).trans (ae.aO UA),(.t (.t (.t (.t (sE h (λapV h=>?_) (λapV h=>?_))))))⟩))⟩)⟩
 refine ⟨rfl,(.t ⟨rfl,_,rfl,(.t (bk h λUB aeW h=>⟨bn aeW,_,(ba aeW).trans (ae.aO UB),(.t (.t (bk h λabb apW h=>(cx (apT _ _ apW) (.t (sV h (λapX h=>?_) (λapX h=>?_)))))))⟩))⟩)⟩
 exact ⟨rfl,(.t ⟨rfl,_,rfl,(.t (bk h λUC aeX h=>⟨bn aeX,_,(ba aeX).trans (ae.aO UC),(.t (.t (bk h λwH U6 h=>(cx (aeT _ _ U6) (.t (ct ⟨_,si h,rfl,rfl⟩ (tk [0,1] ⟨.p,.i,.i,.p,.b,.b,.b,⟨⟩⟩ ⟨(gg rfl),(gg rfl),⟨⟩⟩)))))))⟩))⟩)⟩
 exact .f (.f (.f (.f (.f (ct ⟨_,si h,rfl,rfl⟩ (tk [0,1] ⟨.p,.i,.i,.p,.b,.b,.b,⟨⟩⟩ ⟨(gg rfl),(gg rfl),⟨⟩⟩))))))
 exact .f (.f (.f (.f (.f (.f (.f (.f (.f (.f (.f (ct ⟨_,si h,rfl,rfl⟩ (tk [0,1] ⟨.p,.i,.i,.p,.b,.b,.b,⟨⟩⟩ ⟨(gg rfl),(gg rfl),⟨⟩⟩))))))))))))
 refine .f (.f (.f (.f (.f (.f (.f (.f (.f (.f (.f (.f (.f (.f (.f ?_))))))))))))))
 exact .f (.f (.f (ct ⟨_,si h,rfl,rfl⟩ (tk [0,1] ⟨.p,.i,.i,.p,.b,.b,.b,⟨⟩⟩ ⟨(gg rfl),(gg rfl),⟨⟩⟩))))
 refine .f (.f (.f (.f (.f (.f (.f (.f (.f (.f (.f (.f (.f (.f (.f ?_))))))))))))))
 exact .f (.f (.f (.f (.f (.f (.f (.f (ct ⟨_,si h,rfl,rfl⟩ (tk [0,1] ⟨.p,.i,.i,.p,.b,.b,.b,⟨⟩⟩ ⟨(gg rfl),(gg rfl),⟨⟩⟩)))))))))
 refine .f (.f (.f (.f (.f (.f (.f (.f (.f (.f (.f (.f (.f (.f (.f ?_))))))))))))))
 exact .f (.f (.f (.f (.f (.f (.f (.f (.f (.f (.f (ct ⟨_,si h,rfl,rfl⟩ (tk [0,1] ⟨.p,.i,.i,.p,.b,.b,.b,⟨⟩⟩ ⟨(gg rfl),(gg rfl),⟨⟩⟩))))))))))))
 rintro _ _ ⟨HW,rfl,rfl,rfl⟩
 replace h:=apU
 obtain ⟨aCd,h,apY⟩:=bd h
 refine .cut (λσ η=>∃LD,LD=aCd/\σ=[(1,.aC 0 0 0 0),(5,.int .i64 (a0.ah.length:Int)),(6,.int .i64 nO),(8,.bool FY),(9,.bool uB),(10,.bool HW),(11,.bool LD)]/\η=[.row 0 4 1 29 (λ_=>a0.lit)]) ?_ ?_
 refine ⟨rfl,rfl,_,rfl,(sE h (λapZ h=>?_) (λapZ h=>?_))⟩
 refine .t (.t (.t (.t (sE h (λap0 h=>?_) (λap0 h=>?_)))))
 refine ⟨rfl,(.t ⟨rfl,_,rfl,(.t (.t (.t (sE h (λUd h=>?_) (λUd h=>?_)))))⟩)⟩
 exact ⟨rfl,(.t ⟨rfl,_,rfl,(.t (bk h λUD aeY h=>⟨bn aeY,_,(ba aeY).trans (ae.aO UD),(.t (.t (bk h λabc ap1 h=>(cx (aeT _ _ ap1) (.t (ct ⟨_,si h,rfl,rfl⟩ (tk [0] ⟨.p,.i,.i,.b,.b,.b,.b,⟨⟩⟩ ⟨(gg rfl),⟨⟩⟩)))))))⟩))⟩)⟩
 exact .f (.f (.f (.f (.f (ct ⟨_,si h,rfl,rfl⟩ (tk [0] ⟨.p,.i,.i,.b,.b,.b,.b,⟨⟩⟩ ⟨(gg rfl),⟨⟩⟩))))))
 exact .f (.f (.f (.f (.f (.f (.f (.f (.f (.f (ct ⟨_,si h,rfl,rfl⟩ (tk [0] ⟨.p,.i,.i,.b,.b,.b,.b,⟨⟩⟩ ⟨(gg rfl),⟨⟩⟩)))))))))))
 refine .f (.f (.f (.f (.f (.f (.f (.f (.f (.f (.f (.f (.f (.f (.f ?_))))))))))))))
 exact ct ⟨_,si h,rfl,rfl⟩ (tk [0] ⟨.p,.i,.i,.b,.b,.b,.b,⟨⟩⟩ ⟨(gg rfl),⟨⟩⟩)
 rintro _ _ ⟨LD,rfl,rfl,rfl⟩
 replace h:=apY
 refine .d (jj h (λap2 h=>?_) (λap2 h=>?_))
 refine .t (.t (.t (.t (.t (.t (.t (.t (.d ?_))))))))
 obtain rfl:=si h
 replace h:=Ol
 exact aJI
 refine .f (.f (jj h (λUe h=>?_) (λUe h=>?_)))
 refine .t (.t (.t (.t (.t (.d ?_)))))
 obtain rfl:=si h
 replace h:=Ol
 exact aJI
 refine .f (.f (jj h (λUf h=>?_) (λUf h=>?_)))
 refine .t (.f (.t (.f (jj h (λap3 h=>?_) (λap3 h=>?_)))))
 refine .d ?_
 obtain rfl:=si h
 replace h:=Ol
 exact aJI
 exact lg (aeU _ _ _ h rfl rfl) (tk [0] ⟨.p,.i,.i,⟨⟩⟩ ⟨(gg rfl),⟨⟩⟩)
 exact .f (.f (.f (.f (.f (lg (aeU _ _ _ h rfl rfl) (tk [0] ⟨.p,.i,.i,⟨⟩⟩ ⟨(gg rfl),⟨⟩⟩))))))
 exact aKn
 rintro _ _ ⟨rfl,rfl,rfl⟩
 replace h:=Ol
 refine .d ?_
 exact aJI
 exact aKn
 rintro _ _ ⟨rfl,rfl,rfl⟩
 replace h:=gV
 exact aKo
 intro F0 F1 F2 nK nL hF2 a0 nO o h
 exact .mk F0 nK F1 nL F2 hF2 a0 nO o h
 intro _ ap4 a0 a1 r h
 refine eT Tryz.func149 ?_
 refine .d ?_
 obtain ⟨aa7,h,aeZ⟩:=bd h
 refine .cut (λσ η=>.inl ()=aa7/\σ=[]/\η=[]) ?_ ?_
 refine .d ?_
 have ap5:=ap4 _ _ _ h
 refine le (jq.rec (motive:=λap6 sL ap7 _=>a0=ap6->aa7=ap7->aQ _ _ [(0,sl 4 ae.cells a0),(5,.int .i64 sL)] []) ?_ ap5 rfl rfl) (tk [] ⟨.l,.i,⟨⟩⟩ ⟨⟩)
 intro _ ap8 _ _ ap6 sL ap7 h ap9  abe aqa
 subst abe
 subst aqa
 refine aQ.round (.d (.d (sD h (λTy h=>?_) (λTy h=>?_))))
 refine .d (.d (bk h λUy ae0 h=>⟨bn ae0,_,(ba ae0).trans (ae.aO Uy),(bk h λv131 aqb h=>(cx (ap8 _ _ aqb) (jj h (λTA h=>?_) (λTA h=>?_))))⟩))
 refine .d ?_
 obtain rfl:=si h
 replace h:=aeZ
 exact eB h
 exact lg (ap9 _ _ _ h rfl rfl) (tk [] ⟨.l,.i,⟨⟩⟩ ⟨⟩)
 exact aKn
 rintro _ _ ⟨rfl,rfl,rfl⟩
 replace h:=aeZ
 exact aKo
 intro F0 F1 nK nL a0 sL o h
 exact .mk F0 nK F1 nL a0 sL o h
 intro F0 F1 nK nL a0 qp o h
 exact .mk F0 nK F1 nL a0 qp o h
theorem Gg {a0:ae} {r:Bool} (h:bH a0=some r):La 79 a0 r:=Bs.1 a0 r h
def pT (a0:ae):Option (Bool):=
 mO a0>>=λv1=>
 (if v1=true then
 bH a0>>=λv4=>
 some v4
 else
 some false)
theorem H2 {a0:ae} {r:Bool} (h:pT a0=some r):La 36 a0 r:=by
 refine eT Tryz.func36 ?_
 unfold pT at h
 refine .d (.d ⟨rfl,_,rfl,(bk h λv1 rA h=>(cx (DL rA) (sV h (λyE h=>?_) (λyE h=>?_))))⟩)
 exact ⟨rfl,_,rfl,(.t (bk h λv4 Hw h=>(cx (Gg Hw) (.t (eB h)))))⟩
 exact .f (.f (eB h))
set_option maxRecDepth 100000
theorem sb {α β:Type} (a:α) (f:α->Option β):(some a>>=f)=f a:=rfl
theorem eC {s:aB} {i:Nat} (h:i<s.length):gx s (i:Int)=some (s.getD i 0):=by
 unfold gx;rw [if_pos ⟨by omega,by omega⟩];rfl
theorem fJ {α:Type} [Inhabited α] {l:List α} {i:Nat} (h:i<l.length):idx l (i:Int)=some l[i]:=by
 unfold idx;rw [if_pos ⟨by omega,by omega⟩]
 simp [aHL,h]
theorem kE {x:Int} {n:Nat} (h:x=(n:Int)) (hn:n<=9223372036854775807):bq x=(n:Int):=by
 subst h;exact U7 aKK aKK
theorem bQ {i:Nat} (h:i<9223372036854775807):bq ((i:Int)+1)=((i+1:Nat):Int):=kE aKK aKK
theorem km {α:Type} {b:Nat} {l m:List α} (h:(l.length+m.length)*b<=140737488355328):db b l m=some (l++m):=if_pos h
theorem xI (a b c:Int):R6 a b c=some (decide (b<=a/\a<=c)):=by
 unfold R6
 by_cases h:b<=a
 ·rw [if_pos h];congr 1;simp;omega
 ·rw [if_neg h];congr 1;symm;rw [decide_eq_false_iff_not];omega
theorem sP (a b c:Int):yQ a b c=some (decide (b<=a/\a<=c)):=by
 unfold yQ
 by_cases h:a>=b
 ·rw [if_pos h];congr 1;simp;omega
 ·rw [if_neg h];congr 1;symm;rw [decide_eq_false_iff_not];omega
def isLet (b:UInt8):Bool:=decide (65<=b.toNat/\b.toNat<=90)||decide (97<=b.toNat/\b.toNat<=122)
def pk (b:UInt8):Bool:=decide (48<=b.toNat/\b.toNat<=57)
theorem LH (b:UInt8):mR (b.toNat:Int)=some (isLet b):=by
 unfold mR isLet
 by_cases h:(b.toNat:Int)>=65
 ·rw [if_pos h]
  by_cases h2:(b.toNat:Int)<=90
  ·rw [if_pos h2];congr 1;symm;simp;omega
  ·rw [if_neg h2]
   by_cases h3:(b.toNat:Int)>=97
   ·rw [if_pos h3];congr 1;rw [aJb];simp;omega
   ·rw [if_neg h3];congr 1;symm;simp;omega
 ·rw [if_neg h,if_neg aKK];congr 1;symm;simp;omega
theorem Gh (b:UInt8):kG (b.toNat:Int)=some (pk b):=by
 unfold kG pk
 by_cases h:(b.toNat:Int)>=48
 ·rw [if_pos h];congr 1;rw [aJb];simp;omega
 ·rw [if_neg h];congr 1;symm;simp;omega
theorem wb (b:UInt8):bq (b.toNat:Int)=(b.toNat:Int):=by
 have:=b.toNat_lt
 exact U7 aKK aKK
theorem AU (b:UInt8):j6 (b.toNat:Int)=some (isLet b||decide (b.toNat=95)):=by
 unfold j6 isLet
 rw [wb,sP,sb]
 by_cases h:(97:Int)<=(b.toNat:Int)/\(b.toNat:Int)<=122
 ·rw [if_pos aKT];congr 1;symm;simp;omega
 ·rw [if_neg aKT,sP,sb]
  by_cases h2:(65:Int)<=(b.toNat:Int)/\(b.toNat:Int)<=90
  ·rw [if_pos aKT];congr 1;symm;simp;omega
  ·rw [if_neg aKT];congr 1;rw [aJb];simp;omega
theorem AV (b:UInt8):jM (b.toNat:Int)=some (pk b):=by
 unfold jM pk
 rw [wb,sP,sb]
 congr 1;rw [aJb];simp;omega
def uD (s:aB):Nat->Nat->Nat
 | 0,i=>i
 | f+1,i=>if i<s.length then (if isLet (s.getD i 0)||decide ((s.getD i 0).toNat=95)||(decide (0<i)&&pk (s.getD i 0)) then uD s f (i+1) else i) else i
theorem H3 (s:aB) (hs:s.length<9223372036854775807):∀(f i:Nat),s.length<=i+f->i<=s.length->cE s (i:Int)=some ((uD s (f+1) i:Nat):Int)
 | f,i,h,hi=>by
  rw [cE,uD]
  by_cases hc:i<s.length
  ·rw [if_pos aKK,if_pos hc,eC hc,sb,LH,sb,bQ aKK]
   obtain ⟨g,rfl⟩:∃g,f=g+1:=⟨f - 1,by omega⟩
   have ih:=H3 s hs g (i+1) aKK aKK
   cases hl:isLet (s.getD i 0)
   ·rw [if_neg aKN,sb]
    by_cases h5:(s.getD i 0).toNat=95
    ·rw [if_pos aKK,ih,if_pos (by simp only [h5,eq_self,decide_true,aIN,aIX])]
    ·rw [if_neg aKK]
     by_cases h0:0<i
     ·rw [if_pos aKK,sb,Gh,sb]
      cases hd:pk (s.getD i 0)
      ·rw [if_neg aKN,if_neg (by simp only [h5,decide_false,aIo,aIl,aIi];simp)]
      ·rw [if_pos rfl,ih,if_pos (by simp only [h0,decide_true,aIO,aIN])]
     ·rw [if_neg aKK,if_neg (by simp only [h5,h0,decide_false,aIY,aIo];simp)]
   ·rw [if_pos rfl,ih,if_pos aKN]
  ·rw [if_neg aKK,if_neg hc]
theorem H4 (s:aB) (hs:s.length<9223372036854775807):∀(f i:Nat),s.length<=i+f->i<=s.length->eD s 0 (i:Int)=some ((uD s (f+1) i:Nat):Int)
 | f,i,h,hi=>by
  rw [eD,uD]
  by_cases hc:i<s.length
  ·rw [if_pos aKK,if_pos hc,eC hc,sb,AU,sb,bQ aKK]
   obtain ⟨g,rfl⟩:∃g,f=g+1:=⟨f - 1,by omega⟩
   have ih:=H4 s hs g (i+1) aKK aKK
   cases hl:(isLet (s.getD i 0)||decide ((s.getD i 0).toNat=95))
   ·rw [if_neg aKN]
    by_cases h0:0<i
    ·rw [if_pos aKK,sb,AV,sb]
     cases hd:pk (s.getD i 0)
     ·rw [if_neg aKN,if_neg aKN]
     ·rw [if_pos rfl,ih,if_pos (by simp [h0])]
    ·rw [if_neg aKK,if_neg (by simp [h0])]
   ·rw [if_pos rfl,ih,if_pos aKN]
  ·rw [if_neg aKK,if_neg hc]
theorem Qs (s:aB):∃b,nQ s=some b/\pU s=some b:=by
 unfold nQ pU
 by_cases h:s.length<=20
 ·rw [if_pos aKK]
  have e1:dR s=some ((uD s (s.length+1) 0:Nat):Int):=by
   unfold dR
   have:=H3 s aKK s.length 0 aKK aKK
   rw [show ((0:Nat):Int)=0 from rfl] at this
   rw [this,sb]
  have e2:iN s 0=some ((uD s (s.length+1) 0:Nat):Int):=by
   unfold iN
   have:=H4 s aKK s.length 0 aKK aKK
   rw [show ((0:Nat):Int)=0 from rfl] at this
   rw [this,sb]
  rw [e1,sb,e2]
  cases s with
  | nil=>exact ⟨_,rfl,rfl⟩
  | cons c r=>
   rw [if_pos (show ((c::r).length:Int)>=1 by simp;omega),if_pos (show ((c::r).length:Int)<=20 by omega),sb]
   by_cases he:uD (c::r) ((c::r).length+1) 0=(c::r).length
   ·rw [if_pos aKK]
    refine ⟨_,rfl,?_⟩
    congr 1
    simp only [beq_iff_eq,he]
    simp
   ·rw [if_neg aKK]
    refine ⟨_,rfl,?_⟩
    congr 1
    rw [beq_eq_false_iff_ne]
    omega
 ·rw [if_neg aKK]
  refine ⟨_,rfl,?_⟩
  rw [if_pos aKK,if_neg aKK]
def Ao:List aB:=[[101,99,104,111],[105,102],[101,108,115,101],[119,104,105,108,101],[102,111,114,101,97,99,104],[97,115],[98,114,101,97,107],[99,111,110,116,105,110,117,101],[114,101,116,117,114,110],[103,108,111,98,97,108],[117,110,115,101,116],[116,104,114,111,119],[116,114,121],[99,97,116,99,104],[102,105,110,97,108,108,121],[121,105,101,108,100],[105,110,99,108,117,100,101],[102,117,110,99,116,105,111,110],[99,108,97,115,115],[116,114,97,105,116],[101,120,116,101,110,100,115],[117,115,101],[112,114,105,118,97,116,101],[115,116,97,116,105,99],[110,101,119],[116,114,117,101],[102,97,108,115,101],[110,117,108,108]]
theorem Om (s:aB):∀(f k:Nat),Ao.length<=k+f->iP s (k:Int)=some (if (Ao.drop k).any (λx=>decide (s=x)) then .inr true else .inl ())
 | f,k,h=>by
  rw [iP]
  change (if (k:Int)<(Ao.length:Int) then idx Ao (k:Int)>>=_ else _)=_
  by_cases hc:k<Ao.length
  ·have hl:Ao.length=28:=rfl
   rw [if_pos aKK,fJ hc,sb,bQ aKK,aIf hc,List.any_cons]
   by_cases he:Ao[k]=s
   ·rw [if_pos he,if_pos (by rw [<-he];simp)]
   ·obtain ⟨g,rfl⟩:∃g,f=g+1:=⟨f - 1,by omega⟩
    rw [if_neg he,Om s g (k+1) aKK,decide_eq_false (λh=>he h.symm),aIi]
  ·rw [if_neg aKK,aHN aKK];rfl
theorem dP {s x:aB} {b:Bool} {z:Option Bool} (h:z=some b):(if s=x then some true else z)=some (decide (s=x)||b):=by
 subst h
 by_cases h:s=x
 ·rw [if_pos h,decide_eq_true h,aIX]
 ·rw [if_neg h,decide_eq_false h,aIi]
theorem abf (s:aB):kH s=some (Ao.any λx=>decide (s=x)):=by
 unfold kH
 have:=Om s Ao.length 0 aKK
 rw [show ((0:Nat):Int)=0 from rfl,aHY] at this
 rw [this,sb]
 cases hc:Ao.any (λx=>decide (s=x))
 ·rfl
 ·rfl
theorem abg (s:aB):kI s=some (Ao.any λx=>decide (s=x)):=by
 have e:Ao.any (λx=>decide (s=x))=(decide (s=([101,99,104,111]:aB))||(decide (s=([105,102]:aB))||(decide (s=([101,108,115,101]:aB))||(decide (s=([119,104,105,108,101]:aB))||(decide (s=([102,111,114,101,97,99,104]:aB))||(decide (s=([97,115]:aB))||(decide (s=([98,114,101,97,107]:aB))||(decide (s=([99,111,110,116,105,110,117,101]:aB))||(decide (s=([114,101,116,117,114,110]:aB))||(decide (s=([103,108,111,98,97,108]:aB))||(decide (s=([117,110,115,101,116]:aB))||(decide (s=([116,104,114,111,119]:aB))||(decide (s=([116,114,121]:aB))||(decide (s=([99,97,116,99,104]:aB))||(decide (s=([102,105,110,97,108,108,121]:aB))||(decide (s=([121,105,101,108,100]:aB))||(decide (s=([105,110,99,108,117,100,101]:aB))||(decide (s=([102,117,110,99,116,105,111,110]:aB))||(decide (s=([99,108,97,115,115]:aB))||(decide (s=([116,114,97,105,116]:aB))||(decide (s=([101,120,116,101,110,100,115]:aB))||(decide (s=([117,115,101]:aB))||(decide (s=([112,114,105,118,97,116,101]:aB))||(decide (s=([115,116,97,116,105,99]:aB))||(decide (s=([110,101,119]:aB))||(decide (s=([116,114,117,101]:aB))||(decide (s=([102,97,108,115,101]:aB))||(decide (s=([110,117,108,108]:aB))||false)))))))))))))))))))))))))))):=rfl
 rw [e]
 unfold kI
 exact (dP (dP (dP (dP (dP (dP (dP (dP (dP (dP (dP (dP (dP (dP (dP (dP (dP (dP (dP (dP (dP (dP (dP (dP (dP (dP (dP (dP rfl))))))))))))))))))))))))))))
theorem On (s:aB):∃b,bK s=some b/\dI s=some b:=by
 obtain ⟨b,h1,h2⟩:=Qs s
 unfold bK dI
 rw [h1,h2,sb,sb,abg,abf]
 cases b
 ·exact ⟨_,rfl,rfl⟩
 ·exact ⟨_,rfl,rfl⟩
def good (s:aB):Bool:=(bK s).getD false
theorem uE (s:aB):bK s=some (good s):=by obtain ⟨v,h,_⟩:=On s;rw [good,h];rfl
theorem Oo (s:aB):dI s=some (good s):=by obtain ⟨v,h,h2⟩:=On s;rw [good,h,h2];rfl
def q1 (b:UInt8):List UInt8:=if b.toNat=39\/b.toNat=92 then [92,b] else [b]
theorem U8 (a b c:Int):yQ a b c=some (decide (b<=a/\a<=c)):=by
 unfold yQ
 by_cases h:a>=b
 ·rw [if_pos h];congr 1;simp;omega
 ·rw [if_neg h];congr 1;symm;rw [decide_eq_false_iff_not];omega
theorem xJ:∀(k u:Nat),u<10 ^ (k+1)->Lib.nDigits u<=k+1
 | 0,u,h=>by rw [Lib.nDigits_small aLi];exact No _
 | k+1,u,h=>by
  by_cases h1:u<10
  ·rw [Lib.nDigits_small h1];omega
  ·rw [Lib.nDigits_big h1]
   have:=xJ k (u / 10) (by rw [Nat.pow_succ] at h;omega)
   omega
theorem Bu (u:Nat):Lib.decDigits u=(if u / 10=0 then [] else Lib.decDigits (u / 10))++[UInt8.ofNat (48+u % 10)]:=by
 by_cases h:u<10
 ·rw [if_pos aKK,Lib.decDigits,dif_pos h,show u % 10=u by omega];rfl
 ·rw [if_neg aKK]
  conv=>lhs;rw [Lib.decDigits,dif_neg h]
theorem U9:∀(k:Nat) (out:aB) (m:Int),m.natAbs<10 ^ k-> -9223372036854775808<=m->m<=9223372036854775807->k+out.length<=1000->
  ux out m=some ((if m=0 then [] else Lib.decDigits m.natAbs)++out)
 | 0,out,m,h,_,_,_=>by
  have:m=0:=by simp at h;exact h
  subst this
  rw [ux,if_pos rfl,if_pos rfl];rfl
 | k+1,out,m,h,h0,h1,ho=>by
  rw [ux]
  by_cases hm:m=0
  ·rw [if_pos hm,if_pos hm];rfl
  rw [if_neg hm,if_neg hm]
  have ab:(m.tmod 10).natAbs=m.natAbs % 10:=Int.natAbs_tmod m 10
  have ad:(m.tdiv 10).natAbs=m.natAbs / 10:=Int.natAbs_tdiv m 10
  have dv:bq (m.tdiv 10)=m.tdiv 10:=by rw [bq,U7]<;>omega
  have fin:∀d:Int,d=((m.natAbs % 10:Nat):Int)->UInt8.ofNat (IntKind.u8.wrap (bq (48+d))).toNat=UInt8.ofNat (48+m.natAbs % 10):=λd hd=>by
   subst hd
   rw [bq,U7 aKK aKK,IntKind.wrap_u8]
   congr 1
   omega
  have next:ux ([UInt8.ofNat (48+m.natAbs % 10)]++out) (bq (m.tdiv 10))=some (Lib.decDigits m.natAbs++out):=by
   rw [dv,U9 k _ _ (by rw [Nat.pow_succ] at h;omega) aKK aKK aKT,Bu m.natAbs,ad,aIe]
   by_cases h:m.tdiv 10=0
   ·rw [if_pos h,if_pos aKK]
   ·rw [if_neg h,if_neg aKK]
  have hs:∀b:UInt8,sF [b] out=some ([b]++out):=λb=>if_pos aKT
  by_cases hn:m.tmod 10<0
  ·rw [if_pos hn,hs,sb,fin _ (by rw [bq,U7]<;>omega),next]
  ·rw [if_neg hn,hs,sb,fin _ aKK,next]
theorem ahL (n:Int) (h0: -9223372036854775808<=n) (h1:n<=9223372036854775807):m94 n=some (Lib.itoa n):=by
 unfold m94
 by_cases h:n=0
 ·subst h;rw [if_pos rfl,show Lib.itoa 0=[48] by decide +kernel]
 rw [if_neg h,U9 20 [] n (by simp only [Nat.reducePow];omega) h0 h1 aKN,sb,if_neg h,aII]
 unfold Lib.itoa
 have hL:(Lib.decDigits n.natAbs).length<=20:=by rw [Lib.decDigits_length];exact xJ 19 _ aLf
 by_cases hn:n<0
 ·rw [if_pos hn,if_pos hn,sF,if_pos aKT];rfl
 ·rw [if_neg hn,if_neg hn,show n.natAbs=n.toNat by omega]
def aqc (s:List UInt8):Option Nat->Option Nat
 | some v=>if v<=1000000000000/\Lib.decDigits v=s then some v else none
 | none=>none
def qQ (s:List UInt8):Option Nat:=if 1<=s.length/\s.length<=13 then aqc s (Lib.decFrom 0 s) else none
theorem Gi {v:Nat} {c:UInt8} {r:List UInt8} (h:48<=c.toNat/\c.toNat<=57):Lib.decFrom v (c::r)=Lib.decFrom (v*10+(c.toNat - 48)) r:=by
 show (match Lib.digitVal c with | some d=>Lib.decFrom (v*10+d) r | none=>none)=_
 rw [Lib.digitVal,if_pos h]
theorem H5 {v:Nat} {c:UInt8} {r:List UInt8} (h:¬(48<=c.toNat/\c.toNat<=57)):Lib.decFrom v (c::r)=none:=by
 show (match Lib.digitVal c with | some d=>Lib.decFrom (v*10+d) r | none=>none)=_
 rw [Lib.digitVal,if_neg h]
theorem drop_cons {s:aB} {i:Nat} (h:i<s.length):s.drop i=s.getD i 0::s.drop (i+1):=by
 rw [aIf h,aHL];simp [h]
theorem sOp (n:Int) (h1:1<=n) (h2:n<=15):∃s,iI n=some s/\pC n=some s/\∃k,ld n=some k/\ky n=some k/\6<=k/\k<=10:=by
 obtain ⟨k,rfl⟩:∃k:Nat,n=(k:Int):=⟨n.toNat,by omega⟩
 have h3:k<=15:=by omega
 have h4:1<=k:=by omega
 match k,h3,h4 with
 | 1,_,_=>exact ⟨_,rfl,rfl,_,rfl,rfl,by decide,by decide⟩
 | 2,_,_=>exact ⟨_,rfl,rfl,_,rfl,rfl,by decide,by decide⟩
 | 3,_,_=>exact ⟨_,rfl,rfl,_,rfl,rfl,by decide,by decide⟩
 | 4,_,_=>exact ⟨_,rfl,rfl,_,rfl,rfl,by decide,by decide⟩
 | 5,_,_=>exact ⟨_,rfl,rfl,_,rfl,rfl,by decide,by decide⟩
 | 6,_,_=>exact ⟨_,rfl,rfl,_,rfl,rfl,by decide,by decide⟩
 | 7,_,_=>exact ⟨_,rfl,rfl,_,rfl,rfl,by decide,by decide⟩
 | 8,_,_=>exact ⟨_,rfl,rfl,_,rfl,rfl,by decide,by decide⟩
 | 9,_,_=>exact ⟨_,rfl,rfl,_,rfl,rfl,by decide,by decide⟩
 | 10,_,_=>exact ⟨_,rfl,rfl,_,rfl,rfl,by decide,by decide⟩
 | 11,_,_=>exact ⟨_,rfl,rfl,_,rfl,rfl,by decide,by decide⟩
 | 12,_,_=>exact ⟨_,rfl,rfl,_,rfl,rfl,by decide,by decide⟩
 | 13,_,_=>exact ⟨_,rfl,rfl,_,rfl,rfl,by decide,by decide⟩
 | 14,_,_=>exact ⟨_,rfl,rfl,_,rfl,rfl,by decide,by decide⟩
 | 15,_,_=>exact ⟨_,rfl,rfl,_,rfl,rfl,by decide,by decide⟩
 | 0,_,h=>omega
 | k+16,h,_=>omega
set_option maxRecDepth 100000
def aqd (a0:ae) (a1:Int) (r:Int):Prop:=sg7 10 a0 a1 r
inductive rK:(List ae)->Int->Int->((Int) ⊕ Int)->Prop
 | mk (G10:ae->Int->Option (Int)) (aGL:∀a0 a1 r,G10 a0 a1=some r->aqd a0 a1 r) (rL:(List ae)->Int->Int->Option ((Int) ⊕ Int)) (Oq:∀a0 Dy jg o,rL a0 Dy jg=some o->rK a0 Dy jg o) (a0:List ae) (Dy:Int) (jg:Int) (o:(Int) ⊕ Int) (h:(
 (if jg<(a0.length:Int) then
 idx a0 jg>>=λwI=>
 G10 wI Dy>>=λv19=>
 (if v19<0 then
 some (.inr (-1))
 else
 rL a0 v19 (bq (jg+1)))
 else
 some (.inl Dy))
 )=some o):rK a0 Dy jg o
def aqe (a0:ae) (r:ae):Prop:=ACall Tryz.prog 12 [.agg a0.lit] [] (λres h=>res=.agg r.lit/\h=[])
inductive rM:(List ae)->(List ae)->Int->((List ae))->Prop
 | mk (G12:ae->Option (ae)) (aGM:∀a0 r,G12 a0=some r->aqe a0 r) (rN:(List ae)->(List ae)->Int->Option ((List ae))) (Ot:∀a0 l9 Dy o,rN a0 l9 Dy=some o->rM a0 l9 Dy o) (a0:List ae) (l9:List ae) (Dy:Int) (o:(List ae)) (h:(
 (if Dy<(a0.length:Int) then
 idx a0 Dy>>=λK9=>
 G12 K9>>=λv18=>
 idx l9 Dy>>=λx20=>
 rN a0 (l9.set Dy.toNat v18) (bq (Dy+1))
 else
 some l9)
 )=some o):rM a0 l9 Dy o
mutual
def kJ (a0:ae) (a1:ae):Option (Bool):=
 (if a0.aj=a1.aj then
 (if a0.aP=a1.aP then
 (if a0.aq=a1.aq then
 uF a0.ah a1.ah>>=λv4=>
 (if v4=true then
 some true
 else
 some false)
 else
 some false)
 else
 some false)
 else
 some false)
partial_fixpoint
def uF (a0:List ae) (a1:List ae):Option (Bool):=
 (if (a0.length:Int)=(a1.length:Int) then
 ((
 il a0 a1 0
 :Option ((Unit) ⊕ Bool))>>=λo8=>match o8 with
 | .inr r=>some r
 | .inl _=>
 some true
 )
 else
 some false)
partial_fixpoint
def il (a0:List ae) (a1:List ae) (jg:Int):Option ((Unit) ⊕ Bool):=
 (if jg<(a0.length:Int) then
 idx a0 jg>>=λwI=>
 idx a1 jg>>=λx19=>
 kJ wI x19>>=λv21=>
 (if v21=true then
 il a0 a1 (bq (jg+1))
 else
 some (.inr false))
 else
 some (.inl ()))
partial_fixpoint
end
def Va (a0:ae) (a1:ae) (r:Bool):Prop:=ACall Tryz.prog 14 [.agg a0.lit,.agg a1.lit] [] (λres h=>res=.bool r/\h=[])
def ae1 (a0:List ae) (a1:List ae) (r:Bool):Prop:=ACall Tryz.prog 44 [sl 4 ae.cells a0,sl 4 ae.cells a1] [] (λres h=>res=.bool r/\h=[])
inductive js:(List ae)->(List ae)->Int->((Unit) ⊕ Bool)->Prop
 | mk (G14:ae->ae->Option (Bool)) (aqf:∀a0 a1 r,G14 a0 a1=some r->Va a0 a1 r) (rO:(List ae)->(List ae)->Int->Option ((Unit) ⊕ Bool)) (Ou:∀a0 a1 jg o,rO a0 a1 jg=some o->js a0 a1 jg o) (a0:List ae) (a1:List ae) (jg:Int) (o:(Unit) ⊕ Bool) (h:(
 (if jg<(a0.length:Int) then
 idx a0 jg>>=λwI=>
 idx a1 jg>>=λx19=>
 G14 wI x19>>=λv21=>
 (if v21=true then
 rO a0 a1 (bq (jg+1))
 else
 some (.inr false))
 else
 some (.inl ()))
 )=some o):js a0 a1 jg o
theorem DQ:(∀a0 a1 r,kJ a0 a1=some r->Va a0 a1 r)/\(∀a0 a1 r,uF a0 a1=some r->ae1 a0 a1 r)/\(∀a0 a1 jg o,il a0 a1 jg=some o->js a0 a1 jg o):=by
 refine kJ.mutual_partial_correctness Va ae1 js ?_ ?_ ?_
 intro _ aqg a0 a1 r h
 refine eT Tryz.func14 ?_
 refine .d (.d (.d ⟨rfl,rfl,_,rfl,rfl,rfl,_,rfl,(sN h (λlA h=>?_) (λlA h=>?_))⟩))
 exact aKo
 refine .d (.d ⟨rfl,rfl,_,rfl,rfl,rfl,_,rfl,(sN h (λsC h=>?_) (λsC h=>?_))⟩)
 exact aKo
 refine .d (.d ⟨rfl,rfl,_,rfl,rfl,rfl,_,rfl,(sEn h (λyE h=>?_) (λyE h=>?_))⟩)
 exact aKo
 refine .d (.d ⟨rfl,rfl,_,rfl,rfl,rfl,_,rfl,(bk h λv4 Hw h=>(cx (aqg _ _ _ Hw) (jj h (λEv h=>?_) (λEv h=>?_))))⟩)
 exact aKo
 exact aKo
 intro _ aCe a0 a1 r h
 refine eT Tryz.func44 ?_
 refine .d (.d (.d (sN h (λzL h=>?_) (λzL h=>?_))))
 exact aKo
 obtain ⟨o8,h,abh⟩:=bd h
 refine .cut (λσ η=>.inl ()=o8/\σ=[]/\η=[]) ?_ ?_
 refine .d ?_
 have aCf:=aCe _ _ _ _ h
 refine le (js.rec (motive:=λp26 p27 jg o24 _=>a0=p26->a1=p27->o8=o24->aQ _ _ [(0,sl 4 ae.cells a0),(1,sl 4 ae.cells a1),(5,.int .i64 jg)] []) ?_ aCf rfl rfl rfl) (tk [] ⟨.l,.l,.i,⟨⟩⟩ ⟨⟩)
 intro _ aqf _ _ p26 p27 jg o24 h Sx  ahM ahN ahO
 subst ahM
 subst ahN
 subst ahO
 refine aQ.round (.d (.d (sD h (λrD h=>?_) (λrD h=>?_))))
 refine .d (.d (.float [(0,true),(1,true),(2,true),(3,true),(4,true),(5,true),(6,true),(7,true),(8,false),(9,true)] aKR ?_))
 refine bk h λwI uG h=>⟨bn uG,_,(ba uG).trans (ae.aO wI),(bk h λx19 Bh h=>⟨bn Bh,_,(ba Bh).trans (ae.aO x19),(bk h λv21 Vb h=>(cx (aqf _ _ _ Vb) (jj h (λAk h=>?_) (λAk h=>?_))))⟩)⟩
 refine .d ?_
 obtain rfl:=si h
 replace h:=abh
 exact eB h
 exact lg (Sx _ _ _ _ h rfl rfl rfl) (tk [] ⟨.l,.l,.i,⟨⟩⟩ ⟨⟩)
 exact aKn
 rintro _ _ ⟨rfl,rfl,rfl⟩
 replace h:=abh
 exact aKo
 intro F0 F1 nK nL a0 a1 jg o h
 exact .mk F0 nK F1 nL a0 a1 jg o h
theorem zQ {a0:ae} {a1:ae} {r:Bool} (h:kJ a0 a1=some r):ACall Tryz.prog 14 [.agg a0.lit,.agg a1.lit] [] (λres h=>res=.bool r/\h=[]):=DQ.1 a0 a1 r h
mutual
def sz:ae->Nat | .mk _ _ _ k=>1+xK k
def xK:List ae->Nat | []=>0 | x::r=>sz x+xK r
end
mutual
def dp:ae->Nat | .mk _ _ _ k=>1+KV k
def KV:List ae->Nat | []=>0 | x::r=>max (dp x) (KV r)
end
theorem vF (n:ae):sz n=1+xK n.ah:=by cases n;rfl
theorem Ov (n:ae):dp n=1+KV n.ah:=by cases n;rfl
theorem xL:∀(l:List ae) (i:Nat) (h:i<l.length),xK (l.drop i)=sz l[i]+xK (l.drop (i+1))
 | x::r,0,h=>rfl
 | x::r,i+1,h=>xL r i aLi
theorem Bv:∀(l:List ae) (i:Nat) (h:i<l.length),KV (l.drop i)=max (dp l[i]) (KV (l.drop (i+1)))
 | x::r,0,h=>rfl
 | x::r,i+1,h=>Bv r i aLi
theorem Bw (n:ae):0<sz n:=by rw [vF];omega
theorem Vc:∀(l:List ae) (i:Nat),xK (l.drop i)<=xK l
 | [],i=>by simp [xK]
 | x::r,0=>No _
 | x::r,i+1=>aIH (Vc r i) (by show xK r<=sz x+xK r;omega)
theorem Gj (l:List ae) (i:Nat) (h:i<l.length):sz l[i]<=xK l:=by
 have:=xL l i h;have:=Vc l i;omega
theorem xM:∀l:List ae,l.length<=xK l
 | []=>No _
 | x::r=>by have:=xM r;have:=Bw x;simp only [an];show r.length+1<=sz x+xK r;omega
theorem H6:∀(k:Nat),(∀n:ae,sz n<=k->sz n<4611686018427387904->jL n=some (sz n:Int))
 | 0,n,h,_=>by have:=Bw n;omega
 | k+1,n,h,hb=>by
  have hk:=vF n
  have go:∀(f i s:Nat),n.ah.length<=i+f->s+xK (n.ah.drop i)<4611686018427387904->iF n (s:Int) (i:Int)=some ((s+xK (n.ah.drop i):Nat):Int):=by
   intro f
   induction f with
   | zero=>
    intro i s h1 h2
    rw [iF,if_neg aKK,aHN aKK];rfl
   | succ f ih=>
    intro i s h1 h2
    rw [iF]
    by_cases hc:i<n.ah.length
    ·have hd:=xL n.ah i hc
     have hl:=Gj n.ah i hc
     have hn:=xM n.ah
     rw [if_pos aKK,fJ hc,sb,H6 k _ aKK aKK,sb,bQ aKK,kE (n:=s+sz n.ah[i]) aKK aKK,ih (i+1) _ aKK aKK,hd,aJA]
    ·rw [if_neg aKK,aHN aKK];rfl
  have h0:=go n.ah.length 0 1 aKK (by rw [aHY];omega)
  rw [jL]
  rw [show ((1:Nat):Int)=1 from rfl,show ((0:Nat):Int)=0 from rfl,aHY] at h0
  rw [h0,sb,hk]
theorem aqh (a b:Nat):m91 (a:Int) (b:Int)=some ((max a b:Nat):Int):=by
 unfold m91
 by_cases h:a<b
 ·rw [if_pos aKK,aJF aKK]
 ·rw [if_neg aKK,Nat.max_eq_left aKK]
theorem aqi (a b:Nat):m93 (a:Int) (b:Int)=some ((max a b:Nat):Int):=by
 unfold m93
 by_cases h:a<b
 ·first | rw [if_pos aKK,aJF aKK] | rw [if_neg aKK,aJF aKK]
 ·by_cases h2:b<a
  ·first | rw [if_neg aKK,Nat.max_eq_left aKK] | rw [if_pos aKK,Nat.max_eq_left aKK]
  ·obtain rfl:a=b:=by omega
   split<;>simp
mutual
theorem aqj:∀n:ae,dp n<=sz n
 | .mk _ _ _ k=>by have:=AW k;show 1+KV k<=1+xK k;omega
theorem AW:∀l:List ae,KV l<=xK l
 | []=>No _
 | x::r=>by have:=aqj x;have:=AW r;show max (dp x) (KV r)<=sz x+xK r;omega
end
theorem Vd:∀(k:Nat),(∀n:ae,sz n<=k->sz n<4611686018427387904->jd n=some (dp n:Int))
 | 0,n,h,_=>by have:=Bw n;omega
 | k+1,n,h,hb=>by
  have hk:=vF n
  have hd0:=Ov n
  have hn:=xM n.ah
  have go:∀(f i s:Nat),n.ah.length<=i+f->hZ n (s:Int) (i:Int)=some ((max s (KV (n.ah.drop i)):Nat):Int):=by
   intro f
   induction f with
   | zero=>
    intro i s h1
    rw [hZ,if_neg aKK,aHN aKK];simp [KV]
   | succ f ih=>
    intro i s h1
    rw [hZ]
    by_cases hc:i<n.ah.length
    ·have hl:=Gj n.ah i hc
     rw [if_pos aKK,fJ hc,sb,Vd k _ aKK aKK,sb,aqh,sb,bQ aKK,ih (i+1) _ aKK,Bv n.ah i hc,Nat.max_assoc]
    ·rw [if_neg aKK,aHN aKK];simp [KV]
  have h0:=go n.ah.length 0 0 aKK
  have hz:=AW n.ah
  rw [jd]
  rw [show ((0:Nat):Int)=0 from rfl,aHY,Nat.zero_max] at h0
  rw [h0,sb,kE (n:=KV n.ah+1) aKK aKK,hd0,Nat.add_comm]
theorem Ve:∀(k:Nat),(∀n:ae,sz n<=k->sz n<4611686018427387904->je n=some (dp n:Int))
 | 0,n,h,_=>by have:=Bw n;omega
 | k+1,n,h,hb=>by
  have hk:=vF n
  have hd0:=Ov n
  have hn:=xM n.ah
  have go:∀(f i s:Nat),n.ah.length<=i+f->ia n (s:Int) (i:Int)=some ((max s (KV (n.ah.drop i)):Nat):Int):=by
   intro f
   induction f with
   | zero=>
    intro i s h1
    rw [ia,if_neg aKK,aHN aKK];simp [KV]
   | succ f ih=>
    intro i s h1
    rw [ia]
    by_cases hc:i<n.ah.length
    ·have hl:=Gj n.ah i hc
     rw [if_pos aKK,fJ hc,sb,Ve k _ aKK aKK,sb,aqi,sb,bQ aKK,ih (i+1) _ aKK,Bv n.ah i hc,Nat.max_assoc]
    ·rw [if_neg aKK,aHN aKK];simp [KV]
  have h0:=go n.ah.length 0 0 aKK
  have hz:=AW n.ah
  rw [je]
  rw [show ((0:Nat):Int)=0 from rfl,aHY,Nat.zero_max] at h0
  rw [h0,sb,kE (n:=KV n.ah+1) aKK aKK,hd0,Nat.add_comm]
theorem H7:∀(k:Nat),(∀n:ae,sz n<=k->sz n<4611686018427387904->∀left:Int,0<=left->left<=600->∃v,kA n left=some v/\ -4611686018427387904<v/\v<=600/\((sz n:Int)<=left->v=left - sz n)/\(left<sz n->v<0))
 | 0,n,h,_,_,_,_=>by have:=Bw n;omega
 | k+1,n,h,hb,left,H8,hl1=>by
  have hk:=vF n
  have hn:=xM n.ah
  have go:∀(f i:Nat) (y:Int),n.ah.length<=i+f-> -4611686018427387904<y->y<=600->∃v,jl n y (i:Int)=some v/\ -4611686018427387904<v/\v<=600/\(0<=y->(xK (n.ah.drop i):Int)<=y->v=y - xK (n.ah.drop i))/\(y<xK (n.ah.drop i)->v<0)/\(y<0->v<0):=by
   intro f
   induction f with
   | zero=>
    intro i y h1 h2 h3
    rw [jl,if_neg aKK,aHN aKK]
    exact ⟨y,rfl,h2,h3,λ_ _=>by simp [xK],λq=>by simp [xK] at q;exact q,λq=>q⟩
   | succ f ih=>
    intro i y h1 h2 h3
    rw [jl]
    by_cases hc:i<n.ah.length
    ·have hl:=Gj n.ah i hc
     have hd:=xL n.ah i hc
     rw [if_pos aKK]
     by_cases hy:0<=y
     ·obtain ⟨v,e1,e2,e3,e4,e5⟩:=H7 k n.ah[i] aKK aKK y hy h3
      obtain ⟨u,g1,g2,g3,g4,g5,g6⟩:=ih (i+1) v aKK e2 e3
      rw [if_pos hy,fJ hc,sb,e1,sb,bQ aKK,g1]
      refine ⟨u,rfl,g2,g3,λ_ q=>?_,λq=>?_,λq=>by omega⟩
      ·have:=e4 aKK;have:=g4 aKK aKK;omega
      ·by_cases hq:(sz n.ah[i]:Int)<=y
       ·have:=e4 hq;exact g5 aKK
       ·exact g6 (e5 aKK)
     ·rw [if_neg hy]
      exact ⟨y,rfl,h2,h3,λq=>absurd q hy,λ_=>by omega,λq=>q⟩
    ·rw [if_neg aKK,aHN aKK]
     exact ⟨y,rfl,h2,h3,λ_ _=>by simp [xK],λq=>by simp [xK] at q;exact q,λq=>q⟩
  obtain ⟨v,e1,e2,e3,e4,e5,e6⟩:=go n.ah.length 0 (left - 1) aKK aKK aKK
  rw [aHY] at e4 e5
  have hw:bq (left - 1)=left - 1:=by
   by_cases h0:left=0
   ·subst h0;decide
   ·rw [kE (n:=(left - 1).toNat) aKK aKK];omega
  rw [kA,hw,show (0:Int)=((0:Nat):Int) from rfl,e1,sb]
  refine ⟨v,rfl,e2,e3,λq=>?_,λq=>?_⟩
  ·have:=e4 aKK aKK;omega
  ·exact e5 aKK
theorem Vf (n:ae) (hb:sz n<4611686018427387904):lJ n=some (decide (sz n<=600/\dp n<=30))/\mO n=some (decide (sz n<=600/\dp n<=30)):=by
 obtain ⟨v,e1,_,_,e4,e5⟩:=H7 (sz n) n (No _) hb 600 aKK aKK
 unfold lJ mO
 rw [H6 (sz n) n (No _) hb,e1,sb,sb]
 by_cases h:sz n<=600
 ·have:=e4 aKK
  rw [if_pos aKK,if_pos aKK,Ve (sz n) n (No _) hb,Vd (sz n) n (No _) hb,sb]
  constructor<;>(congr 1;simp only [decide_eq_decide];omega)
 ·have:=e5 aKK
  rw [if_neg aKK,if_neg aKK]
  constructor<;>(rw [decide_eq_false aKK])
set_option maxRecDepth 100000
theorem xN {s p:aB} {i:Nat} (hp:p≠[]) (h:¬i+p.length<=s.length):Lib.occAt s p i=false:=by
 cases hc:Lib.occAt s p i
 ·rfl
 ·rcases Lib.occAt_room hc with h2 | h2
  ·exact absurd h2 h
  ·exact absurd h2 hp
theorem Ow {s p:aB} {i:Nat} (h:i+p.length<=s.length):((s.take (i+p.length)).drop i==p)=Lib.occAt s p i:=by
 rw [Lib.occAt_iff_take s p i h,aJx,aIC]
theorem Ap {s p:aB} {i:Nat} (hp:p≠[]) (Hy:p.length<=10) (hi:i<=s.length) (hs:s.length<=4611686018427387904):hP s (i:Int) p=some (Lib.occAt s p i):=by
 unfold hP
 rw [kE (x:=(s.length:Int) - (i:Int)) (n:=s.length - i) aKK aKK,kE (x:=(i:Int)+(p.length:Int)) (n:=i+p.length) aKK aKK]
 by_cases h:i+p.length<=s.length
 ·rw [if_pos aKK,sB,if_pos ⟨by omega,by omega,by omega⟩,sb,<-Ow h];rfl
 ·rw [if_neg aKK,xN hp h]
theorem LI (n:ae) (hs:n.aq.length<=4611686018427387904):∀(f i:Nat) (b:Bool),n.aq.length<=i+f->i<=n.aq.length->
  ∃v,fN n b (i:Int)=some ((n.aP==0),v)/\(v=true↔b=true/\∀j,i<=j->j<n.aq.length->Lib.occAt n.aq [60,63] j=false)
 | f,i,b,h,hi=>by
  rw [fN]
  by_cases hc:i<n.aq.length
  ·obtain ⟨g,rfl⟩:∃g,f=g+1:=⟨f - 1,by omega⟩
   rw [if_pos aKK,bQ aKK]
   cases b
   ·rw [if_neg aKN]
    obtain ⟨v,h1,h2⟩:=LI n hs g (i+1) false aKK aKK
    exact ⟨v,h1,by rw [h2];simp⟩
   ·rw [if_pos rfl,Ap aKN aKN hi hs,sb]
    obtain ⟨v,h1,h2⟩:=LI n hs g (i+1) (!Lib.occAt n.aq [60,63] i) aKK aKK
    refine ⟨v,h1,?_⟩
    rw [h2]
    constructor
    ·rintro ⟨q,r⟩
     refine ⟨rfl,λj hj1 AX=>?_⟩
     by_cases e:j=i
     ·subst e;simpa using q
     ·exact r j aKK AX
    ·rintro ⟨_,r⟩
     exact ⟨by simp [r i aKK hc],λj hj1 AX=>r j aKK AX⟩
  ·rw [if_neg aKK]
   exact ⟨b,rfl,⟨λq=>⟨q,λj hj1 AX=>by omega⟩,λq=>q.1⟩⟩
def t31 (t:aB):Bool:=!(t==([]:aB))&&!decide (0<=Lib.index t [60,63])
theorem ahP (n:ae) (hs:n.aq.length<=4611686018427387904):fN n (!(n.aq==([]:aB))) 0=some ((n.aP==0),t31 n.aq):=by
 obtain ⟨v,h1,h2⟩:=LI n hs n.aq.length 0 (!(n.aq==([]:aB))) aKK aKK
 rw [show ((0:Nat):Int)=0 from rfl] at h1
 rw [h1]
 congr 2
 rw [aJb,h2,t31,As]
 refine and_congr_right λ_=>?_
 rcases Lib.index_spec n.aq [60,63] with ⟨e,q⟩ | ⟨i,e,q1,q2,_⟩
 ·rw [e];exact ⟨λ_=>by decide,λ_ j _ hj=>q j aKK⟩
 ·rw [e]
  constructor
  ·intro r
   by_cases hi:i<n.aq.length
   ·rw [r i aKK hi] at q2;cases q2
   ·rw [xN aKN aKT] at q2;cases q2
  ·intro r;simp at r
theorem H9 (s:aB) (hs:s.length<=4611686018427387904):∀(f i:Nat),s.length<=i+f->i<=s.length->(∀j,j<i->Lib.occAt s [58,58] j=false)->
  jU s (i:Int)=some (if 0<=Lib.index s [58,58] then .inr (s.take (Lib.index s [58,58]).toNat,s.drop ((Lib.index s [58,58]).toNat+2)) else .inl ())
 | f,i,h,hi,hj=>by
  rw [jU,bQ aKK]
  by_cases hc:i+1<s.length
  ·obtain ⟨g,rfl⟩:∃g,f=g+1:=⟨f - 1,by omega⟩
   have ho:=Ow (s:=s) (p:=[58,58]) (i:=i) aKT
   simp only [an,At] at ho
   rw [if_pos aKK,kE (x:=(i:Int)+2) (n:=i+2) aKK aKK,sB,if_pos ⟨by omega,by omega,by omega⟩,sb]
   show (if (s.take (i+2)).drop i=[58,58] then _ else _)=_
   by_cases he:(s.take (i+2)).drop i=[58,58]
   ·have Vg:Lib.occAt s [58,58] i=true:=by rw [<-ho];simpa using he
    have hx:=Lib.index_first aKK Vg hj
    rw [if_pos he,hx,if_pos aKK,sto,if_pos ⟨by omega,by omega⟩,sb,mK,if_pos ⟨by omega,by omega⟩,sb];rfl
   ·have Vg:Lib.occAt s [58,58] i=false:=by rw [<-ho,beq_eq_false_iff_ne];exact he
    rw [if_neg he]
    refine H9 s hs g (i+1) aKK aKK λj q=>?_
    by_cases e:j=i
    ·subst e;exact Vg
    ·exact hj j aKK
  ·rw [if_neg aKK,Lib.index_none (s:=s) (sub:=[58,58]) λj q=>by
    by_cases e:j<i
    ·exact hj j e
    ·exact xN aKN aKT]
   rfl
def t21 (t:aB):Bool:=(Lib.cut t [58,58]).2.2&&((good (Lib.cut t [58,58]).1||(Lib.cut t [58,58]).1==([115,116,97,116,105,99]:aB))&&good (Lib.cut t [58,58]).2.1)
theorem Vh:good []=false:=by
 have h:=uE []
 unfold bK nQ dR at h
 rw [if_pos aKL,cE,if_neg aKL,sb,sb,if_pos aKL,sb,if_neg aKL] at h
 injection h with h;exact h.symm
theorem Vi (s:aB) (hs:s.length<=4611686018427387904):∃a b,mL s=some (a,b)/\t21 s=((good a||a==([115,116,97,116,105,99]:aB))&&good b):=by
 have h:=H9 s hs s.length 0 aKK aKK (λj q=>by omega)
 rw [show ((0:Nat):Int)=0 from rfl] at h
 unfold mL
 rw [h,sb]
 unfold t21 Lib.cut
 by_cases hc:0<=Lib.index s [58,58]
 ·rw [if_pos hc,if_pos hc]
  exact ⟨_,_,rfl,by rw [aIO];rfl⟩
 ·rw [if_neg hc,if_neg hc]
  exact ⟨_,_,rfl,by simp [Vh]⟩
theorem Qt (s:aB) (hs:s.length<4294967281):mQ s=some (t21 s):=by
 unfold mQ sG t21
 rw [if_pos hs,sb]
 generalize Lib.cut s [58,58]=c
 obtain ⟨a,b,x⟩:=c
 cases x
 ·rfl
 ·simp only [uE,sb,if_true,aIO]
  by_cases h:a=([115,116,97,116,105,99]:aB)
  ·rw [if_pos h,h];simp
  ·rw [if_neg h]
   cases good a<;>simp [h]
theorem contains_eq (s:aB) (hs:s.length<4294967281):mP s [60,63]=some (decide (0<=Lib.index s [60,63])):=if_pos hs
set_option maxRecDepth 100000
def yH (k m:Int):Bool:=
 if k=1 then decide (0<=m/\m<=1000000000) else if k=3 then decide (0<=m/\m<=2) else if k=9 then decide (1<=m/\m<=2) else if k=10 then decide (1<=m/\m<=15)
 else if k=54 then decide (0<=m/\m<=1) else if k=55 then decide (0<=m/\m<=3) else m==0
def nmK:List Int:=[4,8,17,18,20,40,44,49,50,51,52,53,54,55]
def yJ (k:Int) (t:aB):Bool:=
 if k=2\/k=47 then decide ((t.length:Int)<=400) else if nmK.contains k then good t else if k=22 then good t||t==([115,116,97,116,105,99]:aB) else if k=21 then t21 t
 else if k=31 then t31 t else t==([]:aB)
def kds:List Int:=[1,2,3,4,8,9,10,17,18,20,21,22,31,40,44,47,49,50,51,52,53,54,55]
theorem yZ (k m:Int) (t:aB) (ks:List ae) (hs:t.length<=4611686018427387904):gl (.mk k m t ks)=some (yH k m,yJ k t):=by
 unfold gl
 simp only [ae.pV,ae.qA,ae.mS,ae.kK]
 by_cases h:k∈kds
 ·simp only [kds,aHM,aJE,or_false] at h
  rcases h with h | h | h | h | h | h | h | h | h | h | h | h | h | h | h | h | h | h | h | h | h | h | h<;>subst h
  case inr.inr.inr.inr.inr.inr.inr.inr.inr.inr.inl=>
   obtain ⟨a,b,e1,e2⟩:=Vi t hs
   simp only [Int.reduceEq,if_false,if_true,e1,sb,Oo,yH,yJ,nmK,Int.reduceBEq,amb,e2]
   simp only [aIy,aIB,Int.reduceBEq,aIo,or_false,amb,if_false]
   cases good a
   ·by_cases q:a=([115,116,97,116,105,99]:aB)
    ·rw [if_neg aKN,if_pos q,sb,q];rfl
    ·rw [if_neg aKN,if_neg q,sb];simp [q]
   ·rw [if_pos rfl,sb];rfl
  case inr.inr.inr.inr.inr.inr.inr.inr.inr.inr.inr.inr.inl=>
   have:=ahP (.mk 31 m t ks) hs
   simp only [ae.qA,ae.mS] at this
   simp only [Int.reduceEq,if_false,sb,Int.reduceBEq,amb,if_true,this]
   rfl
  all_goals
   simp only [Int.reduceEq,if_false,if_true,sP,sb,Oo,yH,yJ,nmK,Int.reduceBEq,amb,or_false,false_or,or_true,true_or]
   try simp only [aIy,aIB,Int.reduceBEq,aIo,aIN,aIX,or_false,amb,if_false,if_true]
   try (cases good t<;>rfl)
 ·simp only [kds,aHM,aJE,or_false,not_or] at h
  obtain ⟨_,_,_,_,_,_,_,_,_,_,_,_,_,_,_,_,_,_,_,_,_,_,_⟩:=h
  simp only [*,if_false,sb,yH,yJ,nmK,aIy,aIB,beq_eq_false_iff_ne,aIJ,beq_iff_eq,amb,or_self,or_false,ne_eq,not_false_eq_true,not_true_eq_false]
set_option maxRecDepth 100000
def obU (b:Bool):Unit ⊕ Bool:=bif b then .inl () else .inr false
def ob2 (b:Bool):Unit ⊕ (Unit ⊕ Bool):=bif b then .inl () else .inr (.inr false)
mutual
def uu:ae->Bool | .mk k _ _ ks=>if k=7/\ks.length=2 then aCg ks else k==4||k==8
def aCg:List ae->Bool | []=>false | x::_=>uu x
end
section
variable (E S:ae->Bool)
def bl (x:ae):Bool:=x.aj==48&&S x
def prK (x:ae):Bool:=x.aj==6&&(x.aP==0&&(x.aq==([]:aB)&&(decide (1<=(x.ah.length:Int)/\(x.ah.length:Int)<=2)&&x.ah.all E)))
def Ox (a:Bool):Bool->List ae->Bool
 | _,[]=>true
 | b,x::r=>((x.aj==25&&a)||(x.aj==24&&!b))&&(decide (0<=x.aP/\x.aP<=1)&&(good x.aq&&((x.ah.length:Int)==0&&Ox a (b||x.aj==25) r)))
def fU (a:Bool) (ks:List ae):Bool:=match ks.getLast? with
 | none=>false
 | some x=>Ox a false ks.dropLast&&bl S x
def gE (k:Int) (ks:List ae):Bool:=
 if [1,2,3,4].contains k then (ks.length:Int)==0
 else if k=5 then ks.all (prK E)
 else if [8,9].contains k then (match ks with | [a]=>E a | _=>false)
 else if [7,10,11,12,13].contains k then (match ks with | [a,b]=>E a&&E b | _=>false)
 else if k=14 then (match ks with | [a,b,c]=>E a&&(E b&&E c) | _=>false)
 else if [15,16].contains k then (match ks with | [a,b]=>uu a&&(E a&&E b) | _=>false)
 else if k=17 then (match ks with | [a]=>a.aj==4&&E a | _=>false)
 else if [18,21,22].contains k then ks.all E
 else if [19,20].contains k then (match ks with | []=>false | a::r=>E a&&r.all E)
 else if k=23 then fU S true ks else false
def fE (n:ae):Bool:=yH n.aj n.aP&&(yJ n.aj n.aq&&gE E S n.aj n.ah)
def cat (x:ae):Bool:=x.aj==44&&(x.aP==0&&(good x.aq&&(match x.ah with | [a,b]=>a.aj==4&&(E a&&bl S b) | _=>false)))
def fin (x:ae):Bool:=x.aj==45&&(x.aP==0&&(x.aq==([]:aB)&&(match x.ah with | [a]=>bl S a | _=>false)))
def gS (k:Int) (ks:List ae):Bool:=
 if [31,37,38,40,47].contains k then (ks.length:Int)==0
 else if [32,33,42].contains k then (match ks with | [a]=>E a | _=>false)
 else if k=39 then (match ks with | []=>true | [a]=>E a | _=>false)
 else if k=41 then (match ks with | [a]=>uu a&&E a | _=>false)
 else if k=34 then (match ks with | [a,b]=>E a&&bl S b | [a,b,c]=>E a&&(bl S b&&bl S c) | _=>false)
 else if k=35 then (match ks with | [a,b]=>E a&&bl S b | _=>false)
 else if k=36 then (match ks with | [a,b,c]=>E a&&(E b&&(b.aj==4&&bl S c)) | [a,b,c,d]=>E a&&(E b&&(E c&&(b.aj==4&&(c.aj==4&&bl S d)))) | _=>false)
 else if k=46 then (match ks with | [a]=>E a | [a,b]=>E a&&(E b&&a.aj==4) | _=>false)
 else if k=48 then ks.all S
 else if k=43 then (match ks with | [a,b]=>bl S a&&(cat E S b||fin S b) | [a,b,c]=>bl S a&&(cat E S b&&fin S c) | _=>false) else false
def fS (n:ae):Bool:=yH n.aj n.aP&&(yJ n.aj n.aq&&gS E S n.aj n.ah)
end
theorem jt {a:ae} {r:List ae}:idx (a::r) 0=some a:=by unfold idx;rw [if_pos ⟨by omega,by simp⟩];rfl
theorem uH {a b:ae} {r:List ae}:idx (a::b::r) 1=some b:=by unfold idx;rw [if_pos ⟨by omega,by simp;omega⟩];rfl
theorem EA {a b c:ae} {r:List ae}:idx (a::b::c::r) 2=some c:=by unfold idx;rw [if_pos ⟨by omega,by simp;omega⟩];rfl
theorem aqk {a b c d:ae} {r:List ae}:idx (a::b::c::d::r) 3=some d:=by unfold idx;rw [if_pos ⟨by omega,by simp;omega⟩];rfl
section
variable {E S:ae->Bool}
theorem Oy (l:List ae) (h:∀x∈l,bH x=some (E x)) (hl:l.length<4611686018427387904):∀f i:Nat,l.length<=i+f->kD l (i:Int)=some (obU ((l.drop i).all E))
 | f,i,hf=>by
  rw [kD]
  by_cases hc:i<l.length
  ·obtain ⟨g,rfl⟩:∃g,f=g+1:=⟨f - 1,by omega⟩
   rw [if_pos aKK,fJ hc,sb,h _ (aIh hc),sb,bQ aKK,Oy l h hl g (i+1) aKK,aIf hc,aHS]
   cases E l[i]<;>rfl
  ·rw [if_neg aKK,aHN aKK];rfl
theorem xO (l:List ae) (h:∀x∈l,bH x=some (E x)) (hl:l.length<4611686018427387904):fy l 0=some (l.all E):=by
 have:=Oy l h hl l.length 0 aKK
 rw [show ((0:Nat):Int)=0 from rfl,aHY] at this
 rw [fy,this,sb]
 cases l.all E<;>rfl
theorem Oz (n:ae) (h:∀x∈n.ah,fA x=some (S x)) (hl:n.ah.length<4611686018427387904):∀f i:Nat,n.ah.length<=i+f->j3 n (i:Int)=some (obU ((n.ah.drop i).all S))
 | f,i,hf=>by
  rw [j3]
  by_cases hc:i<n.ah.length
  ·obtain ⟨g,rfl⟩:∃g,f=g+1:=⟨f - 1,by omega⟩
   rw [if_pos aKK,fJ hc,sb,h _ (aIh hc),sb,bQ aKK,Oz n h hl g (i+1) aKK,aIf hc,aHS]
   cases S n.ah[i]<;>rfl
  ·rw [if_neg aKK,aHN aKK];rfl
theorem OA (n:ae) (h:∀x∈n.ah,fA x=some (S x)) (hl:n.ah.length<4611686018427387904):cc n=some (n.aj==48&&(n.aP==0&&(n.aq==([]:aB)&&n.ah.all S))):=by
 have:=Oz n h hl n.ah.length 0 aKK
 rw [show ((0:Nat):Int)=0 from rfl,aHY] at this
 rw [cc,this,sb]
 by_cases h1:n.aj=48
 ·rw [if_pos h1,h1]
  by_cases h2:n.aP=0
  ·rw [if_pos h2,h2]
   by_cases h3:n.aq=([]:aB)
   ·rw [if_pos h3,h3]
    cases n.ah.all S<;>rfl
   ·rw [if_neg h3];simp [h3]
  ·rw [if_neg h2];simp [h2]
 ·rw [if_neg h1];simp [h1]
theorem aCh (n:ae) (h:n.aj=48):fS E S n=(n.aP==0&&(n.aq==([]:aB)&&n.ah.all S)):=by
 unfold fS gS yH yJ nmK
 rw [h];rfl
theorem sbl (n:ae) (h:∀x∈n.ah,fA x=some (S x)) (hl:n.ah.length<4611686018427387904) (hS:S n=fS E S n):cc n=some (bl S n):=by
 rw [OA n h hl,bl]
 by_cases h1:n.aj=48
 ·rw [hS,aCh n h1]
 ·rw [beq_eq_false_iff_ne.2 h1];rfl
theorem Vj (n:ae) (h:∀x∈n.ah,∀y∈x.ah,bH y=some (E y)) (DS:∀x∈n.ah,x.ah.length<4611686018427387904) (hl:n.ah.length<4611686018427387904):∀f i:Nat,n.ah.length<=i+f->kC n (i:Int)=some (ob2 ((n.ah.drop i).all (prK E)))
 | f,i,hf=>by
  rw [kC]
  by_cases hc:i<n.ah.length
  ·obtain ⟨g,rfl⟩:∃g,f=g+1:=⟨f - 1,by omega⟩
   rw [if_pos aKK,fJ hc,sb,sP,sb,xO _ (h _ (aIh hc)) (DS _ (aIh hc)),sb,bQ aKK,Vj n h DS hl g (i+1) aKK,aIf hc,aHS]
   generalize n.ah[i]=x
   unfold prK
   by_cases h1:x.aj=6
   ·by_cases h2:x.aP=0
    ·by_cases h3:x.aq=([]:aB)
     ·rw [if_pos h1,if_pos h2,if_pos h3,h1,h2,h3]
      cases decide (1<=(x.ah.length:Int)/\(x.ah.length:Int)<=2)
      ·rfl
      ·cases x.ah.all E<;>rfl
     ·rw [if_pos h1,if_pos h2,if_neg h3,beq_eq_false_iff_ne.2 h3,aIY,aIl,aIl];rfl
    ·rw [if_pos h1,if_neg h2,beq_eq_false_iff_ne.2 h2,aIY,aIl];rfl
   ·rw [if_neg h1,beq_eq_false_iff_ne.2 h1];rfl
  ·rw [if_neg aKK,aHN aKK];rfl
theorem Ia {l:List ae} {x:ae}:idx (l++[x]) (l.length:Int)=some x:=by
 rw [fJ aKN];simp
theorem OB (a:Bool) (l:List ae) (z:ae) (hl:l.length<4611686018427387904):∀(f i:Nat) (b:Bool),l.length<=i+f->gp (l++[z]) a b (i:Int)=some (obU (Ox a b (l.drop i)))
 | f,i,b,hf=>by
  rw [gp,kE (x:=(((l++[z]).length:Int)) - 1) (n:=l.length) aKN aKK]
  by_cases hc:i<l.length
  ·obtain ⟨g,rfl⟩:∃g,f=g+1:=⟨f - 1,by omega⟩
   have hd:(l++[z])[i]'aKT=l[i]:=aJe hc
   have IH:=λb'=>OB a l z hl g (i+1) b' aKK
   rw [if_pos aKK,fJ aKT,sb,hd,aIf hc]
   simp only [sP,sb,Oo,bQ (show i<9223372036854775807 by omega),IH,Ox]
   generalize l[i]=x
   have e0:(if (x.ah.length:Int)>0 then (some (.inr false):Option (Unit ⊕ Bool)) else some (obU (Ox a (b||x.aj==25) (l.drop (i+1)))))=some (obU ((x.ah.length:Int)==0&&Ox a (b||x.aj==25) (l.drop (i+1)))):=by
    by_cases h:(x.ah.length:Int)>0
    ·rw [if_pos h,beq_eq_false_iff_ne.2 aKK];rfl
    ·rw [if_neg h,show (x.ah.length:Int)=0 by omega];rfl
   by_cases h1:x.aj=25
   ·rw [if_pos h1,sb,if_neg aKK,if_pos h1]
    cases a
    ·rw [h1];rfl
    ·rw [h1] at e0
     simp only [Int.reduceBEq,aIN,BEq.rfl] at e0
     rw [h1]
     cases decide (0<=x.aP/\x.aP<=1)
     ·rfl
     ·cases good x.aq
      ·rfl
      ·simpa using e0
   ·rw [if_neg h1,sb]
    have h1':(x.aj==25)=false:=beq_eq_false_iff_ne.2 h1
    rw [h1',aIo] at e0
    rw [h1',aIo,aIY,aIi]
    by_cases h2:x.aj=24
    ·rw [if_pos h2,h2]
     cases b
     ·cases decide (0<=x.aP/\x.aP<=1)
      ·rfl
      ·cases good x.aq
       ·rfl
       ·simpa using e0
     ·rw [if_pos rfl,if_neg aKL];rfl
    ·rw [if_neg h2,if_neg h1,beq_eq_false_iff_ne.2 h2];rfl
  ·rw [if_neg aKK,aHN aKK];rfl
theorem abi (a:Bool) (ks:List ae) (hl:ks.length<4611686018427387904) (hB:∀x∈ks,cc x=some (bl S x)):oy ks a=some (fU S a ks):=by
 rcases List.eq_nil_or_concat ks with rfl | ⟨l,z,rfl⟩
 ·rw [oy,gp];rfl
 ·rw [List.concat_eq_append] at hl hB ⊢
  have hl':l.length<4611686018427387904:=by simp at hl;omega
  have:=OB a l z hl' l.length 0 false aKK
  rw [show ((0:Nat):Int)=0 from rfl,aHY] at this
  rw [oy,this,sb,kE (x:=(((l++[z]).length:Int)) - 1) (n:=l.length) aKN aKK,fU,List.getLast?_concat,List.dropLast_concat]
  show _=some (Ox a false l&&bl S z)
  cases Ox a false l
  ·rfl
  ·show (if (l.length:Int)>=0 then _ else _)=_
   rw [if_pos aKK,Ia,sb,hB z aKN,sb];rfl
end
set_option maxRecDepth 100000
mutual
theorem stg:∀(k m:Int) (t:aB) (ks:List ae),∃a b c d,jk k m t ks=some (a,b,c,d)/\uu (.mk k m t ks)=(a==4||a==8)
 | k,m,t,ks=>by
  rw [jk,uu]
  by_cases h:k=7
  ·by_cases h2:ks.length=2
   ·rw [if_pos h,if_pos aKK,if_pos ⟨h,h2⟩]
    match ks,h2 with
    | [.mk k1 m1 t1 ks1,y],_=>rw [jt,sb];exact stg k1 m1 t1 ks1
   ·rw [if_pos h,if_neg aKK,if_neg (λq=>h2 q.2)];exact ⟨_,_,_,_,rfl,rfl⟩
  ·rw [if_neg h,if_neg (λq=>h q.1)];exact ⟨_,_,_,_,rfl,rfl⟩
end
theorem oW (x:ae):eW x=some (uu x):=by
 cases x with
 | mk k m t ks=>
  obtain ⟨a,b,c,d,h1,h2⟩:=stg k m t ks
  unfold eW
  simp only [ae.pV,ae.qA,ae.mS,ae.kK,h1,sb]
  rw [h2]
  by_cases h:a=4
  ·rw [if_pos h,h];rfl
  ·rw [if_neg h,beq_eq_false_iff_ne.2 h,aIi]
section
variable {E S:ae->Bool}
theorem abj (k m:Int) (t:aB) (ks:List ae) (ht:t.length<=4611686018427387904) (hl:ks.length<4611686018427387904) (DS:∀x∈ks,x.ah.length<4611686018427387904)
  (HE:∀x∈ks,bH x=some (E x)) (Qu:∀x∈ks,∀y∈x.ah,bH y=some (E y)) (HB:∀x∈ks,cc x=some (bl S x)):bH (.mk k m t ks)=some (fE E S (.mk k m t ks)):=by
 rw [bH,yZ _ _ _ _ ht,sb,fE]
 simp only [ae.pV,ae.qA,ae.mS,ae.kK]
 cases yH k m
 ·rfl
 cases yJ k t
 ·rfl
 rw [if_pos rfl,if_pos rfl]
 show _=some (gE E S k ks)
 have he:=xO ks HE hl
 by_cases hk:1<=k/\k<=23
 ·rcases (by omega:k=1\/k=2\/k=3\/k=4\/k=5\/k=6\/k=7\/k=8\/k=9\/k=10\/k=11\/k=12\/k=13\/k=14\/k=15\/k=16\/k=17\/k=18\/k=19\/k=20\/k=21\/k=22\/k=23) with h | h | h | h | h | h | h | h | h | h | h | h | h | h | h | h | h | h | h | h | h | h | h<;>subst h<;>
  simp only [gE,aIy,aIB,Int.reduceEq,Int.reduceBEq,if_true,if_false,aIo,aIN,aIX,aIi,amb,sb,he,oW]<;>try rfl
  case inr.inr.inr.inr.inl=>
   have h0:=Vj (.mk 5 m t ks) Qu DS hl ks.length 0 (by show ks.length<=_;omega)
   rw [show ((0:Nat):Int)=0 from rfl,aHY,ae.kK] at h0
   rw [h0,sb]
   cases ks.all (prK E)<;>rfl
  all_goals
   first
    | (rw [abi _ _ hl HB];rfl)
    | (match ks,HE with
     | [],_=>first | rfl | (rw [if_neg aKL]) | (rw [if_neg aKL];rfl)
     | [a],HE=>simp only [jt,uH,EA,sb,HE a aKN,aHS,aIu,aIj,an,At];first | done | rfl | (rw [if_pos aKL];done) | (rw [if_neg aKL];done) | (by_cases q:a.aj=4<;>simp [q];done)
     | [a,b],HE=>simp only [jt,uH,EA,sb,HE a aKN,HE b aKN,aHS,aIu,aIj,an,At];first | done | rfl | (rw [if_pos aKL];done) | (rw [if_neg aKL];done) | (rw [if_pos aKL];cases uu a<;>rfl)
     | [a,b,c],HE=>simp only [an,At,aHS,aIu,aIj];first | done | rfl | (rw [if_pos aKL];done) | (rw [if_neg aKL];done)
     | a::b::c::d::r,HE=>simp only [an,aHS];first | done | rfl | (rw [if_pos aKK];rfl) | (rw [if_neg aKK];done) | (rw [if_neg aKK];rfl))
 ·have h1:¬k=1:=by omega
  have h2:¬k=2:=by omega
  have h3:¬k=3:=by omega
  have h4:¬k=4:=by omega
  have h5:¬k=5:=by omega
  have h7:¬k=7:=by omega
  have h8:¬k=8:=by omega
  have h9:¬k=9:=by omega
  have h10:¬k=10:=by omega
  have h11:¬k=11:=by omega
  have h12:¬k=12:=by omega
  have h13:¬k=13:=by omega
  have h14:¬k=14:=by omega
  have h15:¬k=15:=by omega
  have h16:¬k=16:=by omega
  have h17:¬k=17:=by omega
  have h18:¬k=18:=by omega
  have h19:¬k=19:=by omega
  have h20:¬k=20:=by omega
  have h21:¬k=21:=by omega
  have h22:¬k=22:=by omega
  have h23:¬k=23:=by omega
  simp only [gE,aIy,aIB,if_true,if_false,aIo,aIN,aIX,aIi,amb,sb, *,beq_eq_false_iff_ne.2 h1,beq_eq_false_iff_ne.2 h2,beq_eq_false_iff_ne.2 h3,beq_eq_false_iff_ne.2 h4,beq_eq_false_iff_ne.2 h7,beq_eq_false_iff_ne.2 h8,beq_eq_false_iff_ne.2 h9,beq_eq_false_iff_ne.2 h10,beq_eq_false_iff_ne.2 h11,beq_eq_false_iff_ne.2 h12,beq_eq_false_iff_ne.2 h13,beq_eq_false_iff_ne.2 h15,beq_eq_false_iff_ne.2 h16,beq_eq_false_iff_ne.2 h18,beq_eq_false_iff_ne.2 h19,beq_eq_false_iff_ne.2 h20,beq_eq_false_iff_ne.2 h21,beq_eq_false_iff_ne.2 h22]
end
set_option maxRecDepth 100000
theorem Qv (x:ae) (hs:x.aq.length<=4611686018427387904):gl x=some (yH x.aj x.aP,yJ x.aj x.aq):=by
 cases x with
 | mk k m t ks=>exact yZ k m t ks hs
section
variable {E S:ae->Bool}
theorem ahQ (x:ae) (h:x.aj=44):cat E S x=(yH 44 x.aP&&(yJ 44 x.aq&&(match x.ah with | [a,b]=>a.aj==4&&(E a&&bl S b) | _=>false))):=by
 unfold cat;rw [h];rfl
theorem ahR (x:ae) (h:x.aj=45):fin S x=(yH 45 x.aP&&(yJ 45 x.aq&&(match x.ah with | [a]=>bl S a | _=>false))):=by
 unfold fin;rw [h];rfl
theorem Bx (n:ae) (i:Nat) (hi:i<n.ah.length) (hb:n.ah.length<4611686018427387904) (ht:n.ah[i].aq.length<=4611686018427387904)
  (HE:∀y∈n.ah[i].ah,bH y=some (E y)) (HB:∀y∈n.ah[i].ah,cc y=some (bl S y)):
  eZ n (i:Int)=bif ((decide (i=1)&&cat E S n.ah[i])||(decide (i+1=n.ah.length)&&fin S n.ah[i])) then eZ n ((i+1:Nat):Int) else some (.inr (.inr false)):=by
 rw [eZ,if_pos aKK,fJ hi,sb,Qv _ ht,sb,bQ aKK,kE (x:=(n.ah.length:Int) - 1) (n:=n.ah.length - 1) aKK aKK]
 generalize n.ah[i]=x at HE HB ⊢
 show (Option.bind _ _)=_
 by_cases h4:x.aj=44
 ·rw [if_pos h4,h4,ahQ x h4,show fin S x=false by unfold fin;rw [h4];rfl,aIl,aIo]
  by_cases h1:i=1
  ·rw [if_pos aKK,decide_eq_true h1,aIO]
   match h:x.ah,HE,HB with
   | [],_,_=>cases yH 44 x.aP<;>cases yJ 44 x.aq<;>rfl
   | [a],_,_=>cases yH 44 x.aP<;>cases yJ 44 x.aq<;>rfl
   | a::b::c::r,_,_=>
    rw [if_neg aKV]
    cases yH 44 x.aP<;>cases yJ 44 x.aq<;>rfl
   | [a,b],HE,HB=>
    rw [if_pos (by rfl),jt,uH,sb,sb,sb,HE a aKN,HB b aKN,sb,sb]
    show _=(bif (yH 44 x.aP&&(yJ 44 x.aq&&(a.aj==4&&(E a&&bl S b)))) then _ else _)
    by_cases h5:a.aj=4
    ·rw [if_pos h5,h5]
     cases yH 44 x.aP<;>cases yJ 44 x.aq<;>cases E a<;>cases bl S b<;>rfl
    ·rw [if_neg h5,beq_eq_false_iff_ne.2 h5]
     cases yH 44 x.aP<;>cases yJ 44 x.aq<;>rfl
  ·rw [if_neg aKK,decide_eq_false h1,aIY]
   cases yH 44 x.aP<;>cases yJ 44 x.aq<;>rfl
 ·by_cases h5:x.aj=45
  ·rw [if_neg h4,h5,ahR x h5,show cat E S x=false by unfold cat;rw [h5];rfl,aIl,aIi]
   by_cases h1:i+1=n.ah.length
   ·rw [if_pos rfl,if_pos aKK,decide_eq_true h1,aIO]
    match h:x.ah,HE,HB with
    | [],_,_=>cases yH 45 x.aP<;>cases yJ 45 x.aq<;>rfl
    | a::b::r,_,_=>
     rw [if_neg aKV]
     cases yH 45 x.aP<;>cases yJ 45 x.aq<;>rfl
    | [a],HE,HB=>
     rw [if_pos (by rfl),jt,sb,HB a aKN,sb]
     show _=(bif (yH 45 x.aP&&(yJ 45 x.aq&&bl S a)) then _ else _)
     cases yH 45 x.aP<;>cases yJ 45 x.aq<;>cases bl S a<;>rfl
   ·rw [if_pos rfl,if_neg aKK,decide_eq_false h1,aIY]
    cases yH 45 x.aP<;>cases yJ 45 x.aq<;>rfl
  ·rw [if_neg h4,if_neg h5,show cat E S x=false by unfold cat;rw [beq_eq_false_iff_ne.2 h4];rfl,show fin S x=false by unfold fin;rw [beq_eq_false_iff_ne.2 h5];rfl,aIl,aIl]
   cases yH x.aj x.aP<;>cases yJ x.aj x.aq<;>rfl
theorem OC (n:ae) (i:Nat) (hi:i=n.ah.length):eZ n (i:Int)=some (.inl ()):=by
 rw [eZ,if_neg aKK]
theorem abk (k m:Int) (t:aB) (ks:List ae) (ht:t.length<=4611686018427387904) (hl:ks.length<4611686018427387904) (ht2:∀x∈ks,x.aq.length<=4611686018427387904)
  (HE:∀x∈ks,bH x=some (E x)) (Qu:∀x∈ks,∀y∈x.ah,bH y=some (E y)) (HB:∀x∈ks,cc x=some (bl S x)) (HB2:∀x∈ks,∀y∈x.ah,cc y=some (bl S y))
  (HS:∀x∈ks,fA x=some (S x)):fA (.mk k m t ks)=some (fS E S (.mk k m t ks)):=by
 rw [fA,yZ _ _ _ _ ht,sb,fS]
 simp only [ae.pV,ae.qA,ae.mS,ae.kK]
 cases hN:yH k m
 ·rfl
 cases hT:yJ k t
 ·rfl
 rw [if_pos rfl,if_pos rfl]
 show _=some (gS E S k ks)
 have he:=xO ks HE hl
 by_cases hk:31<=k/\k<=48
 ·rcases (by omega:k=31\/k=32\/k=33\/k=34\/k=35\/k=36\/k=37\/k=38\/k=39\/k=40\/k=41\/k=42\/k=43\/k=44\/k=45\/k=46\/k=47\/k=48) with h | h | h | h | h | h | h | h | h | h | h | h | h | h | h | h | h | h<;>subst h<;>
  simp only [gS,aIy,aIB,Int.reduceEq,Int.reduceBEq,if_true,if_false,aIo,aIN,aIX,aIi,amb,sb,he,oW,sP]<;>try rfl
  case inr.inr.inr.inr.inr.inr.inr.inr.inr.inr.inr.inr.inl=>
   match ks,HB,HB2,Qu,ht2,hl with
   | [],_,_,_,_,_=>rfl
   | [a],_,_,_,_,_=>rfl
   | [a,b],HB,HB2,Qu,ht2,hl=>
    have h1:=Bx (E:=E) (S:=S) (.mk 43 m t [a,b]) 1 aKN hl (ht2 b aKN) (Qu b aKN) (HB2 b aKN)
    rw [OC _ 2 rfl] at h1
    simp only [jt,sb,HB a aKN]
    rw [show (((1:Nat):Int))=1 from rfl] at h1
    rw [h1]
    simp only [ae.kK,an,At,List.getElem_cons_succ,aJs,decide_true,aIO]
    cases bl S a<;>cases cat E S b<;>cases fin S b<;>rfl
   | [a,b,c],HB,HB2,Qu,ht2,hl=>
    have h1:=Bx (E:=E) (S:=S) (.mk 43 m t [a,b,c]) 1 aKN hl (ht2 b aKN) (Qu b aKN) (HB2 b aKN)
    have h2:=Bx (E:=E) (S:=S) (.mk 43 m t [a,b,c]) 2 aKN hl (ht2 c aKN) (Qu c aKN) (HB2 c aKN)
    rw [OC _ 3 rfl] at h2
    rw [h2] at h1
    simp only [jt,sb,HB a aKN]
    rw [show (((1:Nat):Int))=1 from rfl] at h1
    rw [h1]
    simp only [ae.kK,an,At,List.getElem_cons_succ,aJs,decide_true,aIO]
    cases bl S a<;>cases cat E S b<;>cases fin S b<;>cases fin S c<;>rfl
   | a::b::c::d::r,_,_,_,_,_=>
    rw [decide_eq_false aKV];rfl
  case inr.inr.inr.inr.inr.inr.inr.inr.inr.inr.inr.inr.inr.inr.inr.inr.inr=>
   have h0:=OA (.mk 48 m t ks) HS hl
   simp only [ae.pV,ae.qA,ae.mS,ae.kK] at h0
   have e1:(m==0)=true:=hN
   have e2:(t==([]:aB))=true:=hT
   rw [e1,e2] at h0
   rw [h0];rfl
  all_goals
   match ks,HE,HB,HS with
   | [],_,_,_=>first | rfl | (rw [if_neg aKL];done) | (rw [if_neg aKL];rfl) | (rw [if_pos aKL];rfl)
   | [a],HE,HB,HS=>
    simp only [jt,sb,HE a aKN,aHS,aIu,aIj,an,At]
    first | done | rfl | (cases E a<;>rfl) | (cases uu a<;>rfl) | (cases uu a<;>cases E a<;>rfl)
   | [a,b],HE,HB,HS=>
    simp only [jt,uH,sb,HE a aKN,HE b aKN,HB b aKN,aHS,aIu,aIj,an,At]
    first
     | done
     | rfl
     | (rw [show bq (((0+1+1:Nat):Int) - 1)=1 from rfl,uH,sb,HB b aKN,sb];cases E a<;>cases bl S b<;>rfl)
     | (cases E a<;>cases bl S b<;>rfl)
     | (cases E a<;>cases E b<;>rfl)
   | [a,b,c],HE,HB,HS=>
    try dsimp only
    first
     | rfl
     | (rw [show bq ((([a,b,c]:List ae).length:Int) - 1)=2 from rfl,EA,jt,uH,sb,sb,sb,HE a aKN,HB b aKN,HB c aKN,sb,sb,sb];cases E a<;>cases bl S b<;>cases bl S c<;>rfl)
     | (
      rw [show bq ((([a,b,c]:List ae).length:Int) - 1)=2 from rfl,show bq ((([a,b,c]:List ae).length:Int) - 2)=1 from rfl,EA,uH,sb,sb,sb,HB c aKN,sb,show R7 [a,b,c] 2=some [a,b] from rfl,sb,xO [a,b] (λx h=>HE x (by simp at h ⊢;rcases h with h | h<;>simp [h])) aKN]
      by_cases q:b.aj=4
      ·rw [if_pos q,q];simp only [aHS,aIu,aIj];cases E a<;>cases E b<;>cases bl S c<;>rfl
      ·rw [if_neg q,beq_eq_false_iff_ne.2 q];simp only [aHS,aIu,aIj];cases E a<;>cases E b<;>cases bl S c<;>rfl)
   | [a,b,c,d],HE,HB,HS=>
    try dsimp only
    first
     | rfl
     | (
      rw [show bq ((([a,b,c,d]:List ae).length:Int) - 1)=3 from rfl,show bq ((([a,b,c,d]:List ae).length:Int) - 2)=2 from rfl,aqk,EA,uH,sb,sb,sb,HB d aKN,sb,show R7 [a,b,c,d] 3=some [a,b,c] from rfl,sb,xO [a,b,c] (λx h=>HE x (by simp at h ⊢;rcases h with h | h | h<;>simp [h])) aKN]
      simp only [aHS,aIu,aIj]
      by_cases q:b.aj=4
      ·by_cases q2:c.aj=4
       ·rw [if_pos q,if_pos q2,q,q2];cases E a<;>cases E b<;>cases E c<;>cases bl S d<;>rfl
       ·rw [if_pos q,if_neg q2,q,beq_eq_false_iff_ne.2 q2];cases E a<;>cases E b<;>cases E c<;>cases bl S d<;>rfl
      ·rw [if_neg q,beq_eq_false_iff_ne.2 q];cases E a<;>cases E b<;>cases E c<;>cases bl S d<;>rfl)
   | a::b::c::d::e::r,_,_,_=>
    first
     | rfl
     | (rw [if_neg aKV];done)
     | (rw [if_neg aKV];rfl)
     | (rw [decide_eq_false aKV];rfl)
 ·have h31:¬k=31:=by omega
  have h32:¬k=32:=by omega
  have h33:¬k=33:=by omega
  have h34:¬k=34:=by omega
  have h35:¬k=35:=by omega
  have h36:¬k=36:=by omega
  have h37:¬k=37:=by omega
  have h38:¬k=38:=by omega
  have h39:¬k=39:=by omega
  have Dz:¬k=40:=by omega
  have h41:¬k=41:=by omega
  have h42:¬k=42:=by omega
  have h43:¬k=43:=by omega
  have h46:¬k=46:=by omega
  have h47:¬k=47:=by omega
  have h48:¬k=48:=by omega
  simp only [gS,aIy,aIB,if_true,if_false,aIo,aIN,aIX,aIi,amb,sb, *,beq_eq_false_iff_ne.2 h31,beq_eq_false_iff_ne.2 h32,beq_eq_false_iff_ne.2 h33,beq_eq_false_iff_ne.2 h37,beq_eq_false_iff_ne.2 h38,beq_eq_false_iff_ne.2 Dz,beq_eq_false_iff_ne.2 h42,beq_eq_false_iff_ne.2 h47]
end
set_option maxRecDepth 100000
mutual
def wt:ae->Nat | .mk _ _ t k=>t.length+k.length+Gk k
def Gk:List ae->Nat | []=>0 | x::r=>wt x+Gk r
end
theorem zR (n:ae):wt n=n.aq.length+n.ah.length+Gk n.ah:=by cases n;rfl
theorem Gl:∀(l:List ae) (x:ae),x∈l->wt x<=Gk l
 | y::r,x,h=>by
  rw [Gk]
  rcases aHM.1 h with h | h
  ·subst h;omega
  ·have:=Gl r x h;omega
theorem OD:∀(l:List ae) (x:ae),x∈l->sz x<=xK l
 | y::r,x,h=>by
  rw [xK]
  rcases aHM.1 h with h | h
  ·subst h;omega
  ·have:=OD r x h;omega
mutual
theorem ae2:∀n:ae,sz n<=1+wt n
 | .mk _ _ t k=>by have:=OE k;rw [sz,wt];omega
theorem OE:∀l:List ae,xK l<=l.length+Gk l
 | []=>No _
 | x::r=>by have:=ae2 x;have:=OE r;rw [xK,Gk,an];omega
end
def vE (n:ae):Bool:=(bH n).getD false
def vS (n:ae):Bool:=(fA n).getD false
theorem qR {n x:ae} (h:x∈n.ah):sz x<sz n:=by have:=OD _ _ h;have:=vF n;omega
theorem lC {n x:ae} (h:x∈n.ah):wt x<=wt n:=by have:=Gl _ _ h;have:=zR n;omega
theorem EB:∀(N:Nat) (n:ae),sz n<N->wt n<=134217728->(bH n=some (vE n)/\vE n=fE vE vS n)/\(fA n=some (vS n)/\vS n=fS vE vS n)
 | 0,n,h,_=>by omega
 | N+1,n,h,hw=>by
  have hk:∀x∈n.ah,_:=λx hx=>EB N x (by have:=qR hx;omega) (by have:=lC hx;omega)
  have xP:∀x∈n.ah,∀y∈x.ah,_:=λx hx y hy=>EB N y (by have:=qR hx;have:=qR hy;omega) (by have:=lC hx;have:=lC hy;omega)
  have gd:∀x∈n.ah,∀y∈x.ah,∀z∈y.ah,_:=λx hx y hy z hz=>EB N z (by have:=qR hx;have:=qR hy;have:=qR hz;omega) (by have:=lC hx;have:=lC hy;have:=lC hz;omega)
  have bd:∀x:ae,wt x<=134217728->x.aq.length<=4611686018427387904/\x.ah.length<4611686018427387904:=λx hx=>by have:=zR x;omega
  have w1:∀x∈n.ah,wt x<=134217728:=λx hx=>by have:=lC hx;omega
  have w2:∀x∈n.ah,∀y∈x.ah,wt y<=134217728:=λx hx y hy=>by have:=lC hx;have:=lC hy;omega
  have HE:∀x∈n.ah,bH x=some (vE x):=λx hx=>(hk x hx).1.1
  have Qu:∀x∈n.ah,∀y∈x.ah,bH y=some (vE y):=λx hx y hy=>(xP x hx y hy).1.1
  have HS:∀x∈n.ah,fA x=some (vS x):=λx hx=>(hk x hx).2.1
  have HB:∀x∈n.ah,cc x=some (bl vS x):=λx hx=>sbl x (λy hy=>(xP x hx y hy).2.1) (bd x (w1 x hx)).2 (hk x hx).2.2
  have HB2:∀x∈n.ah,∀y∈x.ah,cc y=some (bl vS y):=λx hx y hy=>sbl y (λz hz=>(gd x hx y hy z hz).2.1) (bd y (w2 x hx y hy)).2 (xP x hx y hy).2.2
  have e1:bH n=some (fE vE vS n):=by
   cases n with
   | mk k m t ks=>exact abj k m t ks (bd _ hw).1 (bd _ hw).2 (λx hx=>(bd x (w1 x hx)).2) HE Qu HB
  have e2:fA n=some (fS vE vS n):=by
   cases n with
   | mk k m t ks=>exact abk k m t ks (bd _ hw).1 (bd _ hw).2 (λx hx=>(bd x (w1 x hx)).1) HE Qu HB HB2 HS
  have g1:vE n=fE vE vS n:=by rw [vE,e1];rfl
  have g2:vS n=fS vE vS n:=by rw [vS,e2];rfl
  exact ⟨⟨by rw [e1,g1],g1⟩,⟨by rw [e2,g2],g2⟩⟩
theorem spE {n:ae} (h:wt n<=134217728):bH n=some (vE n):=(EB _ n (aHP _) h).1.1
theorem Ib {n:ae} (h:wt n<=134217728):vE n=fE vE vS n:=(EB _ n (aHP _) h).1.2
theorem aql {n:ae} (h:wt n<=134217728):vS n=fS vE vS n:=(EB _ n (aHP _) h).2.2
set_option maxRecDepth 100000
theorem nest {c:Prop} [Decidable c] {b:Bool}:(if c then (some (.inr b):Option (Unit ⊕ Bool)) else some (.inr false))=some (.inr (decide c&&b)):=by
 by_cases h:c<;>simp [h]
theorem aqm {c:Prop} [Decidable c] {b:Bool}:(if c then some b else some false)=some (decide c&&b):=by
 by_cases h:c<;>simp [h]
theorem Gm {α:Type} [BEq α] [LawfulBEq α] {a b:α} [Decidable (a=b)]:decide (a=b)=(a==b):=by
 by_cases h:a=b
 ·rw [decide_eq_true h,h,BEq.rfl]
 ·rw [decide_eq_false h,beq_eq_false_iff_ne.2 h]
section
variable {E S:ae->Bool}
theorem ln1 (ks:List ae):(((ks.length:Int)==1)&&ks.all E)=(match ks with | [a]=>E a | _=>false):=by
 match ks with
 | []=>rfl
 | [a]=>simp
 | a::b::r=>rw [beq_eq_false_iff_ne.2 aKV];rfl
theorem ln2 (ks:List ae):(((ks.length:Int)==2)&&ks.all E)=(match ks with | [a,b]=>E a&&E b | _=>false):=by
 match ks with
 | []=>rfl
 | [a]=>rfl
 | [a,b]=>simp
 | a::b::c::r=>rw [beq_eq_false_iff_ne.2 aKV];rfl
theorem ln3 (ks:List ae):(((ks.length:Int)==3)&&ks.all E)=(match ks with | [a,b,c]=>E a&&(E b&&E c) | _=>false):=by
 match ks with
 | []=>rfl
 | [a]=>rfl
 | [a,b]=>rfl
 | [a,b,c]=>simp
 | a::b::c::d::r=>rw [beq_eq_false_iff_ne.2 aKV];rfl
theorem aqn (ks:List ae):(decide ((ks.length:Int)>=1)&&ks.all E)=(match ks with | []=>false | a::r=>E a&&r.all E):=by
 match ks with
 | []=>rfl
 | a::r=>rw [decide_eq_true aKV];rfl
theorem aqo (ks:List ae):(decide ((ks.length:Int)<=1)&&ks.all E)=(match ks with | []=>true | [a]=>E a | _=>false):=by
 match ks with
 | []=>rfl
 | [a]=>simp
 | a::b::r=>rw [decide_eq_false aKV];rfl
theorem OF (l:List ae) (h:∀x∈l,cQ x=some (E x)) (hl:l.length<4611686018427387904):∀f i:Nat,l.length<=i+f->jW l (i:Int)=some (obU ((l.drop i).all E))
 | f,i,hf=>by
  rw [jW]
  by_cases hc:i<l.length
  ·obtain ⟨g,rfl⟩:∃g,f=g+1:=⟨f - 1,by omega⟩
   rw [if_pos aKK,fJ hc,sb,h _ (aIh hc),sb,bQ aKK,OF l h hl g (i+1) aKK,aIf hc,aHS]
   cases E l[i]<;>rfl
  ·rw [if_neg aKK,aHN aKK];rfl
theorem Gn (l:List ae) (h:∀x∈l,cQ x=some (E x)) (hl:l.length<4611686018427387904):cN l=some (l.all E):=by
 have:=OF l h hl l.length 0 aKK
 rw [show ((0:Nat):Int)=0 from rfl,aHY] at this
 rw [cN,this,sb]
 cases l.all E<;>rfl
theorem Vk (l:List ae) (h:∀x∈l,dK x=some (S x)) (hl:l.length<4611686018427387904):∀f i:Nat,l.length<=i+f->lM l (i:Int)=some (obU ((l.drop i).all (bl S)))
 | f,i,hf=>by
  rw [lM]
  by_cases hc:i<l.length
  ·obtain ⟨g,rfl⟩:∃g,f=g+1:=⟨f - 1,by omega⟩
   rw [if_pos aKK,fJ hc,sb,h _ (aIh hc),sb,bQ aKK,Vk l h hl g (i+1) aKK,aIf hc,aHS,bl]
   by_cases h4:l[i].aj=48
   ·rw [if_pos h4,h4]
    cases S l[i]<;>rfl
   ·rw [if_neg h4,beq_eq_false_iff_ne.2 h4];rfl
  ·rw [if_neg aKK,aHN aKK];rfl
theorem uI (l:List ae) (h:∀x∈l,dK x=some (S x)) (hl:l.length<4611686018427387904):fO l=some (l.all (bl S)):=by
 have:=Vk l h hl l.length 0 aKK
 rw [show ((0:Nat):Int)=0 from rfl,aHY] at this
 rw [fO,this,sb]
 cases l.all (bl S)<;>rfl
theorem Vl (n:ae) (h:∀x∈n.ah,dK x=some (S x)) (hl:n.ah.length<4611686018427387904):∀f i:Nat,n.ah.length<=i+f->lL n (i:Int)=some (ob2 ((n.ah.drop i).all S))
 | f,i,hf=>by
  rw [lL]
  by_cases hc:i<n.ah.length
  ·obtain ⟨g,rfl⟩:∃g,f=g+1:=⟨f - 1,by omega⟩
   rw [if_pos aKK,fJ hc,sb,h _ (aIh hc),sb,bQ aKK,Vl n h hl g (i+1) aKK,aIf hc,aHS]
   cases S n.ah[i]<;>rfl
  ·rw [if_neg aKK,aHN aKK];rfl
theorem Vm (n:ae) (h:∀x∈n.ah,∀y∈x.ah,cQ y=some (E y)) (DS:∀x∈n.ah,x.ah.length<4611686018427387904) (hl:n.ah.length<4611686018427387904):∀f i:Nat,n.ah.length<=i+f->lK n (i:Int)=some (ob2 ((n.ah.drop i).all (prK E)))
 | f,i,hf=>by
  rw [lK]
  by_cases hc:i<n.ah.length
  ·obtain ⟨g,rfl⟩:∃g,f=g+1:=⟨f - 1,by omega⟩
   rw [if_pos aKK,fJ hc,sb,xI,sb,Gn _ (h _ (aIh hc)) (DS _ (aIh hc)),sb,bQ aKK,Vm n h DS hl g (i+1) aKK,aIf hc,aHS]
   generalize n.ah[i]=x
   unfold prK
   by_cases h1:x.aj=6
   ·by_cases h2:x.aP=0
    ·by_cases h3:x.aq=([]:aB)
     ·rw [if_pos h1,if_pos h2,if_pos h3,h1,h2,h3]
      cases decide (1<=(x.ah.length:Int)/\(x.ah.length:Int)<=2)
      ·rfl
      ·cases x.ah.all E<;>rfl
     ·rw [if_pos h1,if_pos h2,if_neg h3,beq_eq_false_iff_ne.2 h3,aIY,aIl,aIl];rfl
    ·rw [if_pos h1,if_neg h2,beq_eq_false_iff_ne.2 h2,aIY,aIl];rfl
   ·rw [if_neg h1,beq_eq_false_iff_ne.2 h1];rfl
  ·rw [if_neg aKK,aHN aKK];rfl
theorem OH (a:Bool) (l:List ae) (hl:l.length<4611686018427387904):∀(f i:Nat) (b:Bool),l.length<=i+f->iK a l b (i:Int)=some (obU (Ox a b (l.drop i)))
 | f,i,b,hf=>by
  rw [iK]
  by_cases hc:i<l.length
  ·obtain ⟨g,rfl⟩:∃g,f=g+1:=⟨f - 1,by omega⟩
   have IH:=λb'=>OH a l hl g (i+1) b' aKK
   rw [if_pos aKK,fJ hc,sb,aIf hc]
   simp only [xI,sb,uE,bQ (show i<9223372036854775807 by omega),IH,Ox]
   generalize l[i]=x
   have e0:(if (x.ah.length:Int)>0 then (some (.inr false):Option (Unit ⊕ Bool)) else some (obU (Ox a (b||x.aj==25) (l.drop (i+1)))))=some (obU ((x.ah.length:Int)==0&&Ox a (b||x.aj==25) (l.drop (i+1)))):=by
    by_cases h:(x.ah.length:Int)>0
    ·rw [if_pos h,beq_eq_false_iff_ne.2 aKK];rfl
    ·rw [if_neg h,show (x.ah.length:Int)=0 by omega];rfl
   by_cases h1:x.aj=25
   ·rw [if_pos h1]
    cases a
    ·rw [h1];rfl
    ·rw [h1] at e0
     simp only [Int.reduceBEq,aIN,BEq.rfl] at e0
     rw [h1,if_pos rfl,sb]
     cases decide (0<=x.aP/\x.aP<=1)
     ·rfl
     ·cases good x.aq
      ·rfl
      ·simpa using e0
   ·rw [if_neg h1]
    have h1':(x.aj==25)=false:=beq_eq_false_iff_ne.2 h1
    rw [h1',aIo] at e0
    rw [h1',aIo,aIY,aIi]
    by_cases h2:x.aj=24
    ·rw [if_pos h2,h2]
     cases b
     ·cases decide (0<=x.aP/\x.aP<=1)
      ·rfl
      ·cases good x.aq
       ·rfl
       ·simpa using e0
     ·rfl
    ·rw [if_neg h2,beq_eq_false_iff_ne.2 h2];rfl
  ·rw [if_neg aKK,aHN aKK];rfl
theorem abl {l:List ae} {z:ae}:R7 (l++[z]) (l.length:Int)=some l:=by
 unfold R7
 rw [if_pos ⟨by omega,by simp;omega⟩,aIU,List.take_left]
theorem abm (a:Bool) (ks:List ae) (hl:ks.length<4611686018427387904) (hS:∀x∈ks,dK x=some (S x)):kB ks a=some (fU S a ks):=by
 rcases List.eq_nil_or_concat ks with rfl | ⟨l,z,rfl⟩
 ·rw [kB];rfl
 ·rw [List.concat_eq_append] at hl hS ⊢
  have hl':l.length<4611686018427387904:=by simp at hl;omega
  have:=OH a l hl' l.length 0 false aKK
  rw [show ((0:Nat):Int)=0 from rfl,aHY] at this
  rw [kB,kE (x:=(((l++[z]).length:Int)) - 1) (n:=l.length) aKN aKK,if_neg aKK,Ia,sb,sb,hS z aKN,sb,fU,List.getLast?_concat,List.dropLast_concat,abl,sb,this,sb]
  show _=some (Ox a false l&&bl S z)
  rw [bl]
  by_cases h4:z.aj=48
  ·rw [if_pos h4,h4]
   cases S z<;>cases Ox a false l<;>rfl
  ·rw [if_neg h4,beq_eq_false_iff_ne.2 h4];simp
theorem var_eq (x:ae) (h:E x=fE E S x):hU x=some (x.aj==4&&E x):=by
 unfold hU
 simp only [uE,sb,aqm,Gm,beq_true]
 by_cases h4:x.aj=4
 ·rw [h,fE,h4];rfl
 ·rw [beq_eq_false_iff_ne.2 h4];rfl
mutual
def xz:ae->Bool | .mk k _ _ ks=>if k=7/\ks≠[] then aCi ks else k==4||k==8
def aCi:List ae->Bool | []=>false | x::_=>xz x
end
theorem Vn:∀(k m:Int) (t:aB) (ks:List ae),∃a b c d,jV k m t ks=some (a,b,c,d)/\xz (.mk k m t ks)=(a==4||a==8)
 | k,m,t,ks=>by
  rw [jV,xz]
  by_cases h:k=7
  ·match ks with
   | .mk k1 m1 t1 ks1::y=>rw [if_pos h,if_pos aKV,if_pos ⟨h,by simp⟩,jt,sb];exact Vn k1 m1 t1 ks1
   | []=>rw [if_pos h,if_neg aKN,if_neg (λq=>q.2 rfl)];exact ⟨_,_,_,_,rfl,rfl⟩
  ·rw [if_neg h,if_neg (λq=>h q.1)];exact ⟨_,_,_,_,rfl,rfl⟩
theorem oX (x:ae):eX x=some (xz x):=by
 cases x with
 | mk k m t ks=>
  obtain ⟨a,b,c,d,h1,h2⟩:=Vn k m t ks
  unfold eX
  simp only [ae.pV,ae.qA,ae.mS,ae.kK,h1,sb]
  rw [h2]
  by_cases h:a=4
  ·rw [if_pos h,h];rfl
  ·rw [if_neg h,beq_eq_false_iff_ne.2 h,aIi]
theorem OI:∀(N:Nat) (x:ae),sz x<N->(∀y,sz y<=sz x->wt y<=wt x->E y=fE E S y)->E x=true->xz x=uu x
 | 0,x,h,_,_=>by omega
 | N+1,.mk k m t ks,h,hE,he=>by
  rw [xz,uu]
  by_cases h7:k=7
  ·subst h7
   have h1:=hE _ (No _) (No _)
   rw [he,fE] at h1
   have h2:gE E S 7 ks=true:=by
    have:=h1.symm
    simp only [As] at this
    exact this.2.2
   match ks,h2 with
   | [a,b],h2=>
    rw [if_pos ⟨rfl,by simp⟩,if_pos ⟨rfl,rfl⟩]
    have h3:(E a&&E b)=true:=h2
    have ha:a∈(ae.mk 7 m t [a,b]).ah:=by simp
    have hs:=qR ha
    have hw:=lC ha
    exact OI N a aKK (λy q q2=>hE y aKK aKK) (Bool.and_eq_true_iff.1 h3).1
   | [],h2=>cases h2
   | [a],h2=>cases h2
   | a::b::c::r,h2=>cases h2
  ·rw [if_neg (λq=>h7 q.1),if_neg (λq=>h7 q.1)]
end
set_option maxRecDepth 100000
section
variable {E S:ae->Bool}
theorem ahS (n:ae) (h:n.aj=4):hU n=some (n.aP==0&&(good n.aq&&(n.ah.length:Int)==0)):=by
 unfold hU
 rw [if_pos h,uE,sb]
 by_cases h0:n.aP=0
 ·rw [if_pos h0,h0];cases good n.aq<;>rfl
 ·rw [if_neg h0,beq_eq_false_iff_ne.2 h0];rfl
theorem abn (n:ae) (ht:n.aq.length<4294967281) (hl:n.ah.length<4611686018427387904) (DS:∀x∈n.ah,x.ah.length<4611686018427387904)
  (HE:∀x∈n.ah,cQ x=some (E x)) (Qu:∀x∈n.ah,∀y∈x.ah,cQ y=some (E y)) (HS:∀x∈n.ah,dK x=some (S x))
  (hv:∀x∈n.ah,E x=fE E S x) (EC:∀x∈n.ah,E x=true->xz x=uu x):cQ n=some (fE E S n):=by
 have he:=Gn n.ah HE hl
 have hp:=Vm n Qu DS hl n.ah.length 0 aKK
 rw [show ((0:Nat):Int)=0 from rfl,aHY] at hp
 have hr:=ahS n
 rw [cQ,fE]
 generalize n.ah=ks at*
 generalize n.aq=t at*
 generalize n.aP=m at*
 generalize n.aj=k at*
 by_cases hk:1<=k/\k<=23
 ·rcases (by omega:k=1\/k=2\/k=3\/k=4\/k=5\/k=6\/k=7\/k=8\/k=9\/k=10\/k=11\/k=12\/k=13\/k=14\/k=15\/k=16\/k=17\/k=18\/k=19\/k=20\/k=21\/k=22\/k=23) with h | h | h | h | h | h | h | h | h | h | h | h | h | h | h | h | h | h | h | h | h | h | h<;>subst h
  all_goals
   simp only [gE,aIy,aIB,Int.reduceEq,Int.reduceBEq,if_true,if_false,aIo,aIN,aIX,aIi,amb,sb,he,oX,xI,uE,Qt t ht,nest,Gm,beq_true,<-ln1 (E:=E),<-ln2 (E:=E),<-ln3 (E:=E),<-aqn (E:=E)]
  case inr.inr.inr.inl=>
   rw [hr rfl];rfl
  case inr.inr.inr.inr.inl=>
   show _=some (m==0&&(t==([]:aB)&&ks.all (prK E)))
   rw [hp,sb]
   cases ks.all (prK E)
   ·show some false=_;simp
   ·by_cases h0:m=0
    ·rw [h0];simp [ob2,sb]
    ·rw [beq_eq_false_iff_ne.2 h0];simp [ob2,h0,sb]
  case inr.inr.inr.inr.inr.inl=>simp
  case inr.inr.inr.inr.inr.inr.inr.inr.inl=>
   rw [ln1]
   by_cases h1:m=1
   ·rw [if_pos h1,h1];rfl
   ·rw [if_neg h1,sb]
    by_cases h2:m=2
    ·rw [h2];rfl
    ·rw [beq_eq_false_iff_ne.2 h2,show yH 9 m=false from decide_eq_false aKK];rfl
  case inr.inr.inr.inr.inr.inr.inr.inr.inr.inr.inr.inr.inr.inr.inl=>
   match ks,EC with
   | [],_=>by_cases h0:m=0<;>by_cases h1:t=([]:aB)<;>simp [h0,h1]
   | [a],_=>by_cases h0:m=0<;>by_cases h1:t=([]:aB)<;>simp [h0,h1]
   | a::b::c::r,_=>rw [if_neg (show ¬(((a::b::c::r:List ae).length:Int)=2) by simp only [an];omega)];by_cases h0:m=0<;>by_cases h1:t=([]:aB)<;>simp [h0,h1]
   | [a,b],EC=>
    show _=some (m==0&&(t==([]:aB)&&(uu a&&(E a&&E b))))
    rw [jt,sb,if_pos (show (([a,b]:List ae).length:Int)=2 from rfl),aHS,aHS,aIu,aIj]
    by_cases h0:m=0
    ·rw [if_pos h0,h0]
     by_cases h1:t=([]:aB)
     ·rw [if_pos h1,h1]
      cases hA:E a
      ·simp
      ·rw [EC a aKN hA];cases E b<;>cases uu a<;>rfl
     ·rw [if_neg h1,beq_eq_false_iff_ne.2 h1];rfl
    ·rw [if_neg h0,beq_eq_false_iff_ne.2 h0];rfl
  case inr.inr.inr.inr.inr.inr.inr.inr.inr.inr.inr.inr.inr.inr.inr.inl=>
   match ks,EC with
   | [],_=>by_cases h0:m=0<;>by_cases h1:t=([]:aB)<;>simp [h0,h1]
   | [a],_=>by_cases h0:m=0<;>by_cases h1:t=([]:aB)<;>simp [h0,h1]
   | a::b::c::r,_=>rw [if_neg (show ¬(((a::b::c::r:List ae).length:Int)=2) by simp only [an];omega)];by_cases h0:m=0<;>by_cases h1:t=([]:aB)<;>simp [h0,h1]
   | [a,b],EC=>
    show _=some (m==0&&(t==([]:aB)&&(uu a&&(E a&&E b))))
    rw [jt,sb,if_pos (show (([a,b]:List ae).length:Int)=2 from rfl),aHS,aHS,aIu,aIj]
    by_cases h0:m=0
    ·rw [if_pos h0,h0]
     by_cases h1:t=([]:aB)
     ·rw [if_pos h1,h1]
      cases hA:E a
      ·simp
      ·rw [EC a aKN hA];cases E b<;>cases uu a<;>rfl
     ·rw [if_neg h1,beq_eq_false_iff_ne.2 h1];rfl
    ·rw [if_neg h0,beq_eq_false_iff_ne.2 h0];rfl
  case inr.inr.inr.inr.inr.inr.inr.inr.inr.inr.inr.inr.inr.inr.inr.inr.inl=>
   match ks,hv with
   | [],_=>by_cases h0:m=0<;>cases h1:good t<;>simp [h0,h1,yJ,nmK]
   | a::b::r,_=>rw [if_neg (show ¬(((a::b::r:List ae).length:Int)=1) by simp only [an];omega)];by_cases h0:m=0<;>cases h1:good t<;>simp [h0,h1]
   | [a],hv=>
    show _=some (m==0&&(good t&&(a.aj==4&&E a)))
    rw [jt,sb,var_eq a (hv a aKN),sb,if_pos (show (([a]:List ae).length:Int)=1 from rfl)]
    by_cases h0:m=0
    ·rw [if_pos h0,h0];cases good t<;>rfl
    ·rw [if_neg h0,beq_eq_false_iff_ne.2 h0];rfl
  case inr.inr.inr.inr.inr.inr.inr.inr.inr.inr.inr.inr.inr.inr.inr.inr.inr.inr.inr.inr.inr.inr=>
   rw [abm true ks hl HS,sb]
   show _=some (m==0&&(t==([]:aB)&&fU S true ks))
   by_cases h0:m=0
   ·rw [if_pos h0,h0]
    by_cases h1:t=([]:aB)
    ·rw [if_pos h1,h1];rfl
    ·rw [if_neg h1,beq_eq_false_iff_ne.2 h1];rfl
   ·rw [if_neg h0,beq_eq_false_iff_ne.2 h0];rfl
  case inr.inr.inr.inr.inr.inr.inr.inr.inr.inr.inr.inr.inr.inr.inr.inr.inr.inr.inr.inr.inr.inl=>
   show _=some (m==0&&((good t||t==([115,116,97,116,105,99]:aB))&&ks.all E))
   by_cases h0:m=0
   ·rw [if_pos h0,h0]
    by_cases h1:t=([115,116,97,116,105,99]:aB)
    ·rw [if_pos h1,h1];simp [sb]
    ·rw [if_neg h1,beq_eq_false_iff_ne.2 h1,aIo];rfl
   ·rw [if_neg h0,beq_eq_false_iff_ne.2 h0];rfl
  all_goals first | rfl | (rw [ln1];rfl) | (rw [ln2];rfl) | (rw [ln3];rfl) | (rw [aqn];rfl)
 ·have h1:¬k=1:=by omega
  have h2:¬k=2:=by omega
  have h3:¬k=3:=by omega
  have h4:¬k=4:=by omega
  have h5:¬k=5:=by omega
  have h7:¬k=7:=by omega
  have h8:¬k=8:=by omega
  have h9:¬k=9:=by omega
  have h10:¬k=10:=by omega
  have h11:¬k=11:=by omega
  have h12:¬k=12:=by omega
  have h13:¬k=13:=by omega
  have h14:¬k=14:=by omega
  have h15:¬k=15:=by omega
  have h16:¬k=16:=by omega
  have h17:¬k=17:=by omega
  have h18:¬k=18:=by omega
  have h19:¬k=19:=by omega
  have h20:¬k=20:=by omega
  have h21:¬k=21:=by omega
  have h22:¬k=22:=by omega
  have h23:¬k=23:=by omega
  simp only [gE,aIy,aIB,if_true,if_false,aIo,aIN,aIX,aIi,aIl,amb,sb, *,beq_eq_false_iff_ne.2 h1,beq_eq_false_iff_ne.2 h2,beq_eq_false_iff_ne.2 h3,beq_eq_false_iff_ne.2 h4,beq_eq_false_iff_ne.2 h7,beq_eq_false_iff_ne.2 h8,beq_eq_false_iff_ne.2 h9,beq_eq_false_iff_ne.2 h10,beq_eq_false_iff_ne.2 h11,beq_eq_false_iff_ne.2 h12,beq_eq_false_iff_ne.2 h13,beq_eq_false_iff_ne.2 h15,beq_eq_false_iff_ne.2 h16,beq_eq_false_iff_ne.2 h18,beq_eq_false_iff_ne.2 h19,beq_eq_false_iff_ne.2 h20,beq_eq_false_iff_ne.2 h21,beq_eq_false_iff_ne.2 h22]
end
set_option maxRecDepth 100000
section
variable {E S:ae->Bool}
theorem y0 {a:ae} {r:List ae}:pP (a::r) 1=some r:=by
 unfold pP
 rw [if_pos ⟨by omega,by simp only [an];omega⟩];rfl
theorem aCj {a:ae} {r:List ae}:R7 (a::r) 1=some [a]:=by
 unfold R7
 rw [if_pos ⟨by omega,by simp only [an];omega⟩];simp
theorem aCk (x:ae) {β:Type} (Y N:Option β) (hv:∀y∈x.ah,E y=fE E S y) (HS:∀y∈x.ah,dK y=some (S y)) (h4:x.aj=44):
  (if x.aP=0 then bK x.aq>>=λaaX=>(if aaX=true then (if (x.ah.length:Int)=2 then idx x.ah 0>>=λTa=>hU Ta>>=λaaY=>(if aaY=true then pP x.ah 1>>=λQj=>fO Qj>>=λBq=>(if Bq=true then Y else N) else N) else N) else N) else N)=bif cat E S x then Y else N:=by
 rw [cat,h4,uE,sb]
 generalize x.aP=m
 by_cases h0:m=0
 ·rw [if_pos h0,h0]
  cases good x.aq
  ·rfl
  rw [if_pos rfl]
  match h:x.ah,hv,HS with
  | [],_,_=>rfl
  | [a],_,_=>rfl
  | a::b::c::r,_,_=>rw [if_neg (show ¬(((a::b::c::r:List ae).length:Int)=2) by simp only [an];omega)];rfl
  | [a,b],hv,HS=>
   rw [if_pos (by rfl),jt,sb,var_eq a (hv a aKN),sb,y0,sb,uI [b] (λy hy=>HS y (by simp at hy ⊢;exact .inr hy)) aKN,sb,aHS,aIu,aIj]
   show _=bif ((a.aj==4)&&(E a&&bl S b)) then Y else N
   cases (a.aj==4)<;>cases E a<;>cases bl S b<;>rfl
 ·rw [if_neg h0,beq_eq_false_iff_ne.2 h0];rfl
theorem aCl (x:ae) (HS:∀y∈x.ah,dK y=some (S y)) (h4:x.aj=45):
  (if x.aP=0 then (if x.aq=([]:aB) then (if (x.ah.length:Int)=1 then fO x.ah>>=λQk=>some Qk else some false) else some false) else some false)=some (fin S x):=by
 rw [fin,h4]
 generalize x.aP=m
 generalize x.aq=t
 by_cases h0:m=0
 ·rw [if_pos h0,h0]
  by_cases h1:t=([]:aB)
  ·rw [if_pos h1,h1]
   match h:x.ah,HS with
   | [],_=>rfl
   | a::b::r,_=>rw [if_neg (show ¬(((a::b::r:List ae).length:Int)=1) by simp only [an];omega)];rfl
   | [a],HS=>
    rw [if_pos (by rfl),uI [a] HS aKN,sb,aHS,aIu,aIj];rfl
  ·rw [if_neg h1,beq_eq_false_iff_ne.2 h1];rfl
 ·rw [if_neg h0,beq_eq_false_iff_ne.2 h0];rfl
theorem ahT (x:ae) (h:¬x.aj=44):cat E S x=false:=by rw [cat,beq_eq_false_iff_ne.2 h];rfl
theorem Vo (x:ae) (h:¬x.aj=45):fin S x=false:=by rw [fin,beq_eq_false_iff_ne.2 h];rfl
def fR (S:ae->Bool) (l:List ae):Bool:=match l with | []=>true | [c]=>fin S c | _=>false
def fT (E S:ae->Bool) (ks:List ae):Bool:=match ks with | [a,b]=>bl S a&&(cat E S b||fin S b) | [a,b,c]=>bl S a&&(cat E S b&&fin S c) | _=>false
theorem aCm (ks:List ae) (HS:∀x∈ks,dK x=some (S x)) (rA:∀x∈ks,∀y∈x.ah,E y=fE E S y) (HS2:∀x∈ks,∀y∈x.ah,dK y=some (S y)):
  vD ks=some (fT E S ks):=by
 rw [vD]
 rcases ks with _ | ⟨a,_ | ⟨b,r⟩⟩
 ·rfl
 ·rfl
 rw [if_neg (show ¬(((a::b::r:List ae).length:Int)<2) by simp only [an];omega),aCj,sb,uI [a] (λx hx=>HS x (by simp at hx ⊢;exact .inl hx)) aKN,sb,y0,sb,y0,aHS,aIu,aIj,jt,sb,sb]
 have K:∀(l:List ae) (_:l=r\/l=b::r),(if (l.length:Int)=0 then some true else idx l 0>>=λyV=>(if (l.length:Int)=1 then (if yV.aj=45 then (if yV.aP=0 then (if yV.aq=([]:aB) then (if (yV.ah.length:Int)=1 then fO yV.ah>>=λQk=>some Qk else some false) else some false) else some false) else some false) else some false))=some (fR S l):=by
  intro l hl
  rcases l with _ | ⟨c,_ | ⟨d,q⟩⟩
  ·rfl
  ·rw [if_neg (show ¬((([c]:List ae).length:Int)=0) by simp),jt,sb,if_pos (show (([c]:List ae).length:Int)=1 from rfl)]
   by_cases h5:c.aj=45
   ·rw [if_pos h5,aCl c (HS2 c (by rcases hl with h | h<;>simp [<-h])) h5];rfl
   ·rw [if_neg h5];show _=some (fin S c);rw [Vo c h5]
  ·rw [if_neg (show ¬(((c::d::q:List ae).length:Int)=0) by simp only [an];omega),jt,sb,if_neg (show ¬(((c::d::q:List ae).length:Int)=1) by simp only [an];omega)];rfl
 by_cases h4:b.aj=44
 ·rw [if_pos h4,aCk (E:=E) (S:=S) b (some (Sum.inl r:List ae ⊕ Bool)) (some (Sum.inr false)) (rA b aKN) (HS2 b aKN) h4]
  have hf:fin S b=false:=Vo b aKK
  cases hb:bl S a
  ·rcases r with _ | ⟨c,_ | ⟨d,q⟩⟩<;>simp [fT,hb]
  ·rw [if_pos rfl]
   cases hc:cat E S b
   ·show some false=_
    rcases r with _ | ⟨c,_ | ⟨d,q⟩⟩<;>simp [fT,hb,hc,hf]
   ·show (if (r.length:Int)=0 then _ else _)=_
    rw [K r (.inl rfl)]
    rcases r with _ | ⟨c,_ | ⟨d,q⟩⟩<;>simp [fT,fR,hb,hc,hf]
 ·rw [if_neg h4,sb]
  have hf:cat E S b=false:=ahT b h4
  cases hb:bl S a
  ·rcases r with _ | ⟨c,_ | ⟨d,q⟩⟩<;>simp [fT,hb]
  ·rw [if_pos rfl]
   show (if ((b::r).length:Int)=0 then _ else _)=_
   rw [K (b::r) (.inr rfl)]
   rcases r with _ | ⟨c,_ | ⟨d,q⟩⟩<;>simp [fT,fR,hb,hf]
end
end Go.Am
