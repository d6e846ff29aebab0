/- Texts of the proof, joined and shortened. -/
import Derived.Test.YtiigfbapjeefbaaGreatDoorPk4
import Derived.Test.YtiigfbapjeefbaaGreatDoorShelfB
import Derived.WalkKit
import Derived.BigCall
set_option linter.unusedVariables false
set_option linter.unusedSimpArgs false
set_option maxRecDepth 100000
namespace Go.Am
open Go Go.RowKit Go.Proofs
def m91 (a0:Int) (a1:Int):Option (Int):=
 (if a1>a0 then
 some a1
 else
 some a0)
theorem aBn {a0:Int} {a1:Int} {r:Int} (h:m91 a0 a1=some r):agq 71 a0 a1 r:=by
 refine eT Tryz.func71 ?_
 unfold m91 at h
 refine .d (.d (.d (sD h (λlA h=>?_) (λlA h=>?_))))
 exact aKv
 exact aKv
def sA (a0:Int) (a1:Int):Option (Int):=
 (if a1<a0 then
 some a1
 else
 some a0)
theorem Sq {a0:Int} {a1:Int} {r:Int} (h:sA a0 a1=some r):agq 184 a0 a1 r:=by
 refine eT Tryz.func184 ?_
 unfold sA at h
 refine .d (.d (.d (sD h (λlA h=>?_) (λlA h=>?_))))
 exact aKv
 exact aKv
def m93 (a0:Int) (a1:Int):Option (Int):=
 (if a1>a0 then
 some a1
 else
 some a0)
theorem aBo {a0:Int} {a1:Int} {r:Int} (h:m93 a0 a1=some r):agq 195 a0 a1 r:=by
 refine eT Tryz.func195 ?_
 unfold m93 at h
 refine .d (.d (.d (sD h (λlA h=>?_) (λlA h=>?_))))
 exact aKv
 exact aKv
def hP (a0:aB) (a1:Int) (a2:aB):Option (Bool):=
 (if (a2.length:Int)<=(bq ((a0.length:Int) - a1)) then
 sB a0 a1 (bq (a1+(a2.length:Int)))>>=λs2=>
 some (s2==a2)
 else
 some false)
theorem kx {a0:aB} {a1:Int} {a2:aB} {r:Bool} (h:hP a0 a1 a2=some r):ACall Tryz.prog 100 [.str a0,.int .i64 a1,.str a2] [] (λres h=>res=.bool r/\h=[]):=by
 refine eT Tryz.func100 ?_
 unfold hP at h
 refine .d (.d (sD h (λlA h=>?_) (λlA h=>?_)))
 exact .t (.t (.t (.t (.t (.t (bk h λs2 hx3 h=>⟨qt hx3,s2,qu hx3,(.t (.t (.t (eB h))))⟩))))))
 exact .f (.f (.f (.f (.f (.f (.f (.f (.f (eB h)))))))))
def jU (a0:aB) (y4:Int):Option ((Unit) ⊕ (aB×aB)):=
 (if (bq (y4+1))<(a0.length:Int) then
 sB a0 y4 (bq (y4+2))>>=λs8=>
 (if s8=([58,58]:aB) then
 sto a0 y4>>=λs11=>
 mK a0 (bq (y4+2))>>=λs13=>
 some (.inr (s11,s13))
 else
 jU a0 (bq (y4+1)))
 else
 some (.inl ()))
partial_fixpoint
def mL (a0:aB):Option (aB×aB):=
 ((
 jU a0 0
 :Option ((Unit) ⊕ (aB×aB)))>>=λo1=>match o1 with
 | .inr r=>some r
 | .inl _=>
 some ([],[])
 )
theorem DD {a0:aB} {r:aB×aB} (h:mL a0=some r):ACall Tryz.prog 148 [.str a0] [] (λres h=>res=.fv [.str r.1,.str r.2]/\h=[]):=by
 refine eT Tryz.func148 ?_
 unfold mL at h
 refine .d ?_
 obtain ⟨o1,h,gd⟩:=bd h
 refine .cut (λσ η=>.inl ()=o1/\σ=[]/\η=[]) ?_ ?_
 refine .d ?_
 refine le (jU.partial_correctness a0 (motive:=λy4 DE=>o1=DE->aQ _ _ [(0,.str a0),(4,.int .i64 y4)] []) ?_ 0 o1 h rfl) (tk [] ⟨.s,.i,⟨⟩⟩ ⟨⟩)
 intro F6 Sr y4 DE h Ss
 subst Ss
 refine aQ.round (.d (.d (sD h (λzL h=>?_) (λzL h=>?_))))
 refine .d (.d (bk h λs8 St h=>⟨qt St,s8,qu St,(sE h (λlH h=>?_) (λlH h=>?_))⟩))
 refine .d (bk h λs11 uw h=>⟨FH uw,s11,FI uw,(bk h λs13 Bf h=>⟨rv Bf,s13,rz Bf,?_⟩)⟩)
 obtain rfl:=si h
 replace h:=gd
 obtain rfl:=si h
 exact en [] ⟨rfl,rfl⟩ (.cP ⟨.s,.s,⟨⟩⟩) ⟨⟩
 exact aKI
 exact aKn
 rintro _ _ ⟨rfl,rfl,rfl⟩
 replace h:=gd
 refine .d ?_
 obtain rfl:=si h
 exact en [] ⟨rfl,rfl⟩ (.cP ⟨.s,.s,⟨⟩⟩) ⟨⟩
def ld (a0:Int):Option (Int):=
 (if a0<=2 then
 some 9
 else
 (if a0<=5 then
 some 10
 else
 (if a0=6 then
 some 8
 else
 (if a0<=10 then
 some 6
 else
 some 7))))
theorem DF {a0:Int} {r:Int} (h:ld a0=some r):ACall Tryz.prog 88 [.int .i64 a0] [] (λres h=>res=.int .i64 r/\h=[]):=by
 refine eT Tryz.func88 ?_
 unfold ld at h
 refine .d (.d (.d (sD h (λlA h=>?_) (λlA h=>?_))))
 exact aKv
 refine .d (sD h (λsC h=>?_) (λsC h=>?_))
 exact aKv
 refine .d (sE h (λyE h=>?_) (λyE h=>?_))
 exact aKv
 refine .d (sD h (λwh h=>?_) (λwh h=>?_))
 exact aKv
 exact aKv
def iI (a0:Int):Option (aB):=
 yQ a0 1 15>>=λv1=>
 (if v1=true then
 idx ([[],[43],[45],[42],[47],[37],[46],[61,61],[33,61],[61,61,61],[33,61,61],[60],[60,61],[62],[62,61],[60,61,62]]:List aB) a0>>=λx4=>
 some x4
 else
 some [])
theorem DG {a0:Int} {r:aB} (h:iI a0=some r):sg6 89 a0 r:=by
 refine eT Tryz.func89 ?_
 unfold iI at h
 refine .d (.d (.d (bk h λv1 rA h=>(cx (rB rA) (jj h (λyE h=>?_) (λyE h=>?_))))))
 exact .d (eS h)
 exact .d ⟨row cS ([[],[43],[45],[42],[47],[37],[46],[61,61],[33,61],[61,61,61],[33,61,61],[60],[60,61],[62],[62,61],[60,61,62]]:List aB),dX cS ([[],[43],[45],[42],[47],[37],[46],[61,61],[33,61],[61,61,61],[33,61,61],[60],[60,61],[62],[62,61],[60,61,62]]:List aB) rfl (dA rfl),(.d (bk h λx4 hx5 h=>⟨rfl,bn hx5,_,aHJ _,rfl,_,((ba hx5).trans rfl),(eS h)⟩))⟩
def ux (s6:aB) (y7:Int):Option (aB):=
 (if y7=0 then
 some s6
 else
 (if (y7.tmod 10)<0 then
 sF ([UInt8.ofNat (IntKind.u8.wrap (bq (48+(bq (0 - (y7.tmod 10)))))).toNat]:List UInt8) s6>>=λs12=>
 ux s12 (bq (y7.tdiv 10))
 else
 sF ([UInt8.ofNat (IntKind.u8.wrap (bq (48+(y7.tmod 10)))).toNat]:List UInt8) s6>>=λs14=>
 ux s14 (bq (y7.tdiv 10))))
partial_fixpoint
def m94 (a0:Int):Option (aB):=
 (if a0=0 then
 some [48]
 else
 (
 ux [] a0
 :Option (aB))>>=λs2=>
 (if a0<0 then
 sF [45] s2>>=λSu=>
 some Su
 else
 some s2))
theorem aBp {a0:Int} {r:aB} (h:m94 a0=some r):sg6 85 a0 r:=by
 refine eT Tryz.func85 ?_
 unfold m94 at h
 refine .d (.d (.d (sE h (λlA h=>?_) (λlA h=>?_))))
 exact .d (eS h)
 refine .d ?_
 obtain ⟨o3,h,hk5⟩:=bd h
 refine .cut (λσ η=>∃s2,s2=o3/\σ=[(0,.int .i64 a0),(3,.str s2)]/\η=[]) ?_ ?_
 refine .d ?_
 refine le (ux.partial_correctness  (motive:=λs6 y7 o16=>o3=o16->aQ _ _ [(0,.int .i64 a0),(3,.str s6),(4,.int .i64 y7)] []) ?_ [] a0 o3 h rfl) (tk [] ⟨.i,.s,.i,⟨⟩⟩ ⟨⟩)
 intro F9 ih8 s6 y7 o16 h Sv
 subst Sv
 refine aQ.round (.d (.d (sN h (λlH h=>?_) (λlH h=>?_))))
 refine .d (.d ⟨by decide,(.d (.d (sD h (λrC h=>?_) (λrC h=>?_))))⟩)
 exact ⟨row cB ([UInt8.ofNat (IntKind.u8.wrap (bq (48+(bq (0 - (y7.tmod 10)))))).toNat]:List UInt8),dX cB ([UInt8.ofNat (IntKind.u8.wrap (bq (48+(bq (0 - (y7.tmod 10)))))).toNat]:List UInt8) rfl (Bg (FJ _) ⟨.same _,trivial⟩ trivial),rfl,([UInt8.ofNat (IntKind.u8.wrap (bq (48+(bq (0 - (y7.tmod 10)))))).toNat]:List UInt8),rfl,ow bb rfl,(bk h λs12 Hs h=>⟨mM Hs,s12,mN Hs,by decide,(lg (ih8 _ _ _ h rfl) (tk [] ⟨.i,.s,.i,⟨⟩⟩ ⟨⟩))⟩)⟩
 exact ⟨row cB ([UInt8.ofNat (IntKind.u8.wrap (bq (48+(y7.tmod 10)))).toNat]:List UInt8),dX cB ([UInt8.ofNat (IntKind.u8.wrap (bq (48+(y7.tmod 10)))).toNat]:List UInt8) rfl (Bg (FJ _) ⟨.same _,trivial⟩ trivial),rfl,([UInt8.ofNat (IntKind.u8.wrap (bq (48+(y7.tmod 10)))).toNat]:List UInt8),rfl,ow bb rfl,(bk h λs14 Ht h=>⟨mM Ht,s14,mN Ht,by decide,(lg (ih8 _ _ _ h rfl) (tk [] ⟨.i,.s,.i,⟨⟩⟩ ⟨⟩))⟩)⟩
 exact ct ⟨_,si h,rfl,rfl⟩ (tk [] ⟨.i,.s,⟨⟩⟩ ⟨⟩)
 rintro _ _ ⟨s2,rfl,rfl,rfl⟩
 replace h:=hk5
 refine .d (.d (sD h (λAi h=>?_) (λAi h=>?_)))
 exact .d (bk h λSu Bh h=>⟨mM Bh,Su,mN Bh,(eS h)⟩)
 exact .d (eS h)
def pC (a0:Int):Option (aB):=
 (if a0<1 then
 some []
 else
 (if a0>15 then
 some []
 else
 idx ([[43],[45],[42],[47],[37],[46],[61,61],[33,61],[61,61,61],[33,61,61],[60],[60,61],[62],[62,61],[60,61,62]]:List aB) (bq (a0 - 1))>>=λx3=>
 some x3))
theorem DH {a0:Int} {r:aB} (h:pC a0=some r):sg6 155 a0 r:=by
 refine eT Tryz.func155 ?_
 unfold pC at h
 refine .d (.d ⟨row cS ([[43],[45],[42],[47],[37],[46],[61,61],[33,61],[61,61,61],[33,61,61],[60],[60,61],[62],[62,61],[60,61,62]]:List aB),dX cS ([[43],[45],[42],[47],[37],[46],[61,61],[33,61],[61,61,61],[33,61,61],[60],[60,61],[62],[62,61],[60,61,62]]:List aB) rfl (dA rfl),(.d (.d (sD h (λlA h=>?_) (λlA h=>?_))))⟩)
 exact .t (.t (.t (.d (eS h))))
 refine .f (.f (sD h (λsC h=>?_) (λsC h=>?_)))
 exact .d (eS h)
 exact .d (bk h λx3 hx4 h=>⟨rfl,bn hx4,_,aHJ _,rfl,_,((ba hx4).trans rfl),(eS h)⟩)
def ky (a0:Int):Option (Int):=
 (
 (if a0=7 then
 some (a0==7)
 else
 (if a0=8 then
 some (a0==8)
 else
 (if a0=9 then
 some (a0==9)
 else
 some (a0==10))))
 :Option (Bool))>>=λb1=>
 (if b1=true then
 some 6
 else
 (
 (if a0=11 then
 some (a0==11)
 else
 (if a0=12 then
 some (a0==12)
 else
 (if a0=13 then
 some (a0==13)
 else
 (if a0=14 then
 some (a0==14)
 else
 some (a0==15)))))
 :Option (Bool))>>=λb9=>
 (if b9=true then
 some 7
 else
 (if a0=6 then
 some 8
 else
 (if a0=1 then
 some 9
 else
 (if a0=2 then
 some 9
 else
 some 10)))))
theorem FK {a0:Int} {r:Int} (h:ky a0=some r):ACall Tryz.prog 151 [.int .i64 a0] [] (λres h=>res=.int .i64 r/\h=[]):=by
 refine eT Tryz.func151 ?_
 unfold ky at h
 refine .d (.d (.d ?_))
 obtain ⟨o2,h,FL⟩:=bd h
 refine .cut (λσ η=>∃b1,b1=o2/\σ=[(3,.int .i64 a0),(4,.bool b1)]/\η=[]) ?_ ?_
 refine .d (sE h (λEu h=>?_) (λEu h=>?_))
 exact aKq
 refine .d (sE h (λEv h=>?_) (λEv h=>?_))
 exact aKq
 refine .d (sE h (λzL h=>?_) (λzL h=>?_))
 exact aKq
 exact aKq
 rintro _ _ ⟨b1,rfl,rfl,rfl⟩
 replace h:=FL
 refine sV h (λKR h=>?_) (λKR h=>?_)
 exact aKv
 obtain ⟨o10,h,Sw⟩:=bd h
 refine .cut (λσ η=>∃b9,b9=o10/\σ=[(3,.int .i64 a0),(9,.bool b9)]/\η=[]) ?_ ?_
 refine .d (sE h (λtU h=>?_) (λtU h=>?_))
 exact aKq
 refine .d (sE h (λtV h=>?_) (λtV h=>?_))
 exact aKq
 refine .d (sE h (λtW h=>?_) (λtW h=>?_))
 exact aKq
 refine .d (sE h (λrD h=>?_) (λrD h=>?_))
 exact aKq
 exact aKq
 rintro _ _ ⟨b9,rfl,rfl,rfl⟩
 replace h:=Sw
 refine sV h (λtX h=>?_) (λtX h=>?_)
 exact aKv
 refine .d (sE h (λAi h=>?_) (λAi h=>?_))
 exact aKv
 refine .d (.d (sE h (λBi h=>?_) (λBi h=>?_)))
 exact .kt Bi (.d (eI h))
 refine sE h (λAj h=>?_) (λAj h=>?_)
 exact aKv
 exact aKv
def jV (y8:Int) (y9:Int) (DI:aB) (K8:List ae):Option (Int×Int×aB×(List ae)):=
 (if y8=7 then
 (if (K8.length:Int)>0 then
 idx K8 0>>=λK9=>
 jV K9.aj K9.aP K9.aq K9.ah
 else
 some (y8,y9,DI,K8))
 else
 some (y8,y9,DI,K8))
partial_fixpoint
def eX (a0:ae):Option (Bool):=
 (
 jV a0.aj a0.aP a0.aq a0.ah
 :Option (Int×Int×aB×(List ae)))>>=λ(y1,y2,s3,l4)=>
 (if y1=4 then
 some true
 else
 some (y1==8))
theorem lI {a0:ae} {r:Bool} (h:eX a0=some r):La 112 a0 r:=by
 refine eT Tryz.func112 ?_
 unfold eX at h
 refine .d ?_
 obtain ⟨o5,h,hk7⟩:=bd h
 refine .cut (λσ η=>∃y1,∃y2,∃s3,∃l4,(y1,y2,s3,l4)=o5/\σ=[(1,.aC 0 0 0 0)]/\η=[.row 0 4 1 29 (λ_=>[.int .i64 y1,.int .i64 y2,.str s3,sl 4 ae.cells l4])]) ?_ ?_
 refine le (jV.partial_correctness  (motive:=λy8 y9 DI K8 N8=>o5=N8->aQ _ _ [(1,.aC 0 0 0 0)] [.row 0 4 1 29 (λ_=>[.int .i64 y8,.int .i64 y9,.str DI,sl 4 ae.cells K8])]) ?_ a0.aj a0.aP a0.aq a0.ah o5 h rfl) (tk [0] ⟨.p,⟨⟩⟩ ⟨(gg rfl),⟨⟩⟩)
 intro F13 Sx y8 y9 DI K8 N8 h agr
 subst agr
 refine aQ.round (.d (.d ⟨rfl,rfl,_,rfl,(sE h (λtV h=>?_) (λtV h=>?_))⟩))
 refine ⟨rfl,(.t ⟨rfl,_,rfl,(.t (.t (.t (sD h (λtW h=>?_) (λtW h=>?_)))))⟩)⟩
 exact ⟨rfl,rfl,_,rfl,(bk h λK9 Hu h=>⟨bn Hu,_,(ba Hu).trans (ae.aO K9),rfl,_,_,rfl,ao,(lg (Sx _ _ _ _ _ h rfl) (tk [0] ⟨.p,⟨⟩⟩ ⟨(gg rfl),⟨⟩⟩))⟩)⟩
 exact ct ⟨_,_,_,_,si h,rfl,rfl⟩ (tk [0] ⟨.p,⟨⟩⟩ ⟨(gg rfl),⟨⟩⟩)
 exact .f (.f (.f (.f (.f (ct ⟨_,_,_,_,si h,rfl,rfl⟩ (tk [0] ⟨.p,⟨⟩⟩ ⟨(gg rfl),⟨⟩⟩))))))
 rintro _ _ ⟨y1,y2,s3,l4,rfl,rfl,rfl⟩
 replace h:=hk7
 refine .d ⟨rfl,rfl,_,rfl,(sE h (λAj h=>?_) (λAj h=>?_))⟩
 exact .t (.t (.t (eB h)))
 exact ⟨rfl,(.f ⟨rfl,_,rfl,(.f (.f (eB h)))⟩)⟩
def hU (a0:ae):Option (Bool):=
 (if a0.aj=4 then
 (if a0.aP=0 then
 bK a0.aq>>=λv3=>
 (if v3=true then
 some ((a0.ah.length:Int)==0)
 else
 some false)
 else
 some false)
 else
 some false)
theorem nJ {a0:ae} {r:Bool} (h:hU a0=some r):La 138 a0 r:=by
 refine eT Tryz.func138 ?_
 unfold hU at h
 refine .d (.d ⟨rfl,rfl,_,rfl,(sE h (λlA h=>?_) (λlA h=>?_))⟩)
 refine ⟨rfl,(.t ⟨rfl,_,rfl,(.t (.t (sE h (λsC h=>?_) (λsC h=>?_))))⟩)⟩
 refine ⟨rfl,(.t ⟨rfl,_,rfl,(.t (bk h λv3 Sy h=>(cx (da Sy) (.t (sV h (λEu h=>?_) (λEu h=>?_))))))⟩)⟩
 exact ⟨rfl,(.t ⟨rfl,_,rfl,(.t (.t (.t (eB h))))⟩)⟩
 exact .f (.f (.f (.f (eB h))))
 exact aKH
 exact .f (.f (.f (.f (.f (.f (.f (.f (.f (.f (.f (.f (eB h))))))))))))
def jk (y8:Int) (y9:Int) (DI:aB) (K8:List ae):Option (Int×Int×aB×(List ae)):=
 (if y8=7 then
 (if (K8.length:Int)=2 then
 idx K8 0>>=λK9=>
 jk K9.aj K9.aP K9.aq K9.ah
 else
 some (y8,y9,DI,K8))
 else
 some (y8,y9,DI,K8))
partial_fixpoint
def eW (a0:ae):Option (Bool):=
 (
 jk a0.aj a0.aP a0.aq a0.ah
 :Option (Int×Int×aB×(List ae)))>>=λ(y1,y2,s3,l4)=>
 (if y1=4 then
 some true
 else
 some (y1==8))
theorem kz {a0:ae} {r:Bool} (h:eW a0=some r):La 104 a0 r:=by
 refine eT Tryz.func104 ?_
 unfold eW at h
 refine .d ?_
 obtain ⟨o5,h,hk7⟩:=bd h
 refine .cut (λσ η=>∃y1,∃y2,∃s3,∃l4,(y1,y2,s3,l4)=o5/\σ=[(1,.aC 0 0 0 0)]/\η=[.row 0 4 1 29 (λ_=>[.int .i64 y1,.int .i64 y2,.str s3,sl 4 ae.cells l4])]) ?_ ?_
 refine le (jk.partial_correctness  (motive:=λy8 y9 DI K8 N8=>o5=N8->aQ _ _ [(1,.aC 0 0 0 0)] [.row 0 4 1 29 (λ_=>[.int .i64 y8,.int .i64 y9,.str DI,sl 4 ae.cells K8])]) ?_ a0.aj a0.aP a0.aq a0.ah o5 h rfl) (tk [0] ⟨.p,⟨⟩⟩ ⟨(gg rfl),⟨⟩⟩)
 intro F13 Sx y8 y9 DI K8 N8 h agr
 subst agr
 refine aQ.round (.d (.d ⟨rfl,rfl,_,rfl,(sE h (λtV h=>?_) (λtV h=>?_))⟩))
 refine ⟨rfl,(.t ⟨rfl,_,rfl,(.t (.t (.t (sE h (λtW h=>?_) (λtW h=>?_)))))⟩)⟩
 exact ⟨rfl,rfl,_,rfl,(bk h λK9 Hu h=>⟨bn Hu,_,(ba Hu).trans (ae.aO K9),rfl,_,_,rfl,ao,(lg (Sx _ _ _ _ _ h rfl) (tk [0] ⟨.p,⟨⟩⟩ ⟨(gg rfl),⟨⟩⟩))⟩)⟩
 exact ct ⟨_,_,_,_,si h,rfl,rfl⟩ (tk [0] ⟨.p,⟨⟩⟩ ⟨(gg rfl),⟨⟩⟩)
 exact .f (.f (.f (.f (.f (ct ⟨_,_,_,_,si h,rfl,rfl⟩ (tk [0] ⟨.p,⟨⟩⟩ ⟨(gg rfl),⟨⟩⟩))))))
 rintro _ _ ⟨y1,y2,s3,l4,rfl,rfl,rfl⟩
 replace h:=hk7
 refine .d ⟨rfl,rfl,_,rfl,(sE h (λAj h=>?_) (λAj h=>?_))⟩
 exact .t (.t (.t (eB h)))
 exact ⟨rfl,(.f ⟨rfl,_,rfl,(.f (.f (eB h)))⟩)⟩
def fN (a0:ae) (b69:Bool) (y70:Int):Option (Bool×Bool):=
 (if y70<(a0.aq.length:Int) then
 (if b69=true then
 hP a0.aq y70 [60,63]>>=λv75=>
 fN a0 (!v75) (bq (y70+1))
 else
 fN a0 false (bq (y70+1)))
 else
 some ((a0.aP==0),b69))
partial_fixpoint
def gl (a0:ae):Option (Bool×Bool):=
 (
 (if a0.aj=1 then
 yQ a0.aP 0 1000000000>>=λv7=>
 some (v7,(a0.aq==([]:aB)))
 else
 (if a0.aj=3 then
 yQ a0.aP 0 2>>=λv10=>
 some (v10,(a0.aq==([]:aB)))
 else
 (if a0.aj=9 then
 yQ a0.aP 1 2>>=λrE=>
 some (rE,(a0.aq==([]:aB)))
 else
 (if a0.aj=10 then
 yQ a0.aP 1 15>>=λyF=>
 some (yF,(a0.aq==([]:aB)))
 else
 (
 (if a0.aj=2 then
 some (a0.aj==2)
 else
 some (a0.aj==47))
 :Option (Bool))>>=λb18=>
 (if b18=true then
 some ((a0.aP==0),(decide ((a0.aq.length:Int)<=400)))
 else
 (
 (if a0.aj=4 then
 some (a0.aj==4)
 else
 (if a0.aj=8 then
 some (a0.aj==8)
 else
 (if a0.aj=17 then
 some (a0.aj==17)
 else
 (if a0.aj=18 then
 some (a0.aj==18)
 else
 (if a0.aj=20 then
 some (a0.aj==20)
 else
 (if a0.aj=40 then
 some (a0.aj==40)
 else
 (if a0.aj=44 then
 some (a0.aj==44)
 else
 (if a0.aj=49 then
 some (a0.aj==49)
 else
 (if a0.aj=50 then
 some (a0.aj==50)
 else
 (if a0.aj=51 then
 some (a0.aj==51)
 else
 (if a0.aj=52 then
 some (a0.aj==52)
 else
 some (a0.aj==53))))))))))))
 :Option (Bool))>>=λb24=>
 (if b24=true then
 dI a0.aq>>=λv40=>
 some ((a0.aP==0),v40)
 else
 (if a0.aj=22 then
 dI a0.aq>>=λKS=>
 (if KS=true then
 some ((a0.aP==0),true)
 else
 some ((a0.aP==0),(a0.aq==([115,116,97,116,105,99]:aB))))
 else
 (if a0.aj=54 then
 yQ a0.aP 0 1>>=λwE=>
 dI a0.aq>>=λv49=>
 some (wE,v49)
 else
 (if a0.aj=55 then
 yQ a0.aP 0 3>>=λqn=>
 dI a0.aq>>=λv54=>
 some (qn,v54)
 else
 (if a0.aj=21 then
 mL a0.aq>>=λ(Hv,v58)=>
 dI Hv>>=λv60=>
 (if v60=true then
 dI v58>>=λN9=>
 some ((a0.aP==0),N9)
 else
 (if Hv=([115,116,97,116,105,99]:aB) then
 dI v58>>=λv66=>
 some ((a0.aP==0),v66)
 else
 some ((a0.aP==0),false)))
 else
 (if a0.aj=31 then
 fN a0 (!(a0.aq==([]:aB))) 0
 else
 some ((a0.aP==0),(a0.aq==([]:aB))))))))))))))
 :Option (Bool×Bool))>>=λ(b1,b2)=>
 some (b1,b2)
theorem pM {a0:ae} {r:Bool×Bool} (h:gl a0=some r):ACall Tryz.prog 75 [.agg a0.lit] [] (λres h=>res=.fv [.bool r.1,.bool r.2]/\h=[]):=by
 refine eT Tryz.func75 ?_
 unfold gl at h
 refine .d (.d ⟨rfl,rfl,_,rfl,(.d ⟨rfl,rfl,_,rfl,?_⟩)⟩)
 obtain ⟨o3,h,hk5⟩:=bd h
 refine .cut (λσ η=>∃b1,∃b2,(b1,b2)=o3/\σ=[(4,.bool b1),(5,.bool b2)]/\η=[]) ?_ ?_
 refine .d ⟨rfl,rfl,_,rfl,(.d (sE h (λEv h=>?_) (λEv h=>?_)))⟩
 exact ⟨rfl,rfl,_,rfl,(bk h λv7 hv8 h=>(cx (rB hv8) (ct ⟨_,_,si h,rfl,rfl⟩ (tk [] ⟨.b,.b,⟨⟩⟩ ⟨⟩))))⟩
 refine .d (sE h (λOa h=>?_) (λOa h=>?_))
 exact ⟨rfl,rfl,_,rfl,(bk h λv10 Sz h=>(cx (rB Sz) (ct ⟨_,_,si h,rfl,rfl⟩ (tk [] ⟨.b,.b,⟨⟩⟩ ⟨⟩))))⟩
 refine .d (sE h (λrF h=>?_) (λrF h=>?_))
 exact ⟨rfl,rfl,_,rfl,(bk h λrE wF h=>(cx (rB wF) (ct ⟨_,_,si h,rfl,rfl⟩ (tk [] ⟨.b,.b,⟨⟩⟩ ⟨⟩))))⟩
 refine .d (sE h (λtW h=>?_) (λtW h=>?_))
 exact ⟨rfl,rfl,_,rfl,(bk h λyF SA h=>(cx (rB SA) (ct ⟨_,_,si h,rfl,rfl⟩ (tk [] ⟨.b,.b,⟨⟩⟩ ⟨⟩))))⟩
 obtain ⟨o19,h,aBq⟩:=bd h
 refine .cut (λσ η=>∃b18,b18=o19/\σ=[(1,.aC 0 0 0 0),(4,.bool (a0.aP==0)),(5,.bool (a0.aq==([]:aB))),(16,.int .i64 a0.aj),(37,.bool b18)]/\η=[.row 0 4 1 29 (λ_=>a0.lit)]) ?_ ?_
 refine .d (sE h (λDJ h=>?_) (λDJ h=>?_))
 exact aKl
 exact aKl
 rintro _ _ ⟨b18,rfl,rfl,rfl⟩
 replace h:=aBq
 refine sV h (λAk h=>?_) (λAk h=>?_)
 exact ⟨rfl,rfl,_,rfl,(ct ⟨_,_,si h,rfl,rfl⟩ (tk [] ⟨.b,.b,⟨⟩⟩ ⟨⟩))⟩
 obtain ⟨o25,h,aBr⟩:=bd h
 refine .cut (λσ η=>∃b24,b24=o25/\σ=[(1,.aC 0 0 0 0),(4,.bool (a0.aP==0)),(5,.bool (a0.aq==([]:aB))),(16,.int .i64 a0.aj),(44,.bool b24)]/\η=[.row 0 4 1 29 (λ_=>a0.lit)]) ?_ ?_
 refine .d (sE h (λLb h=>?_) (λLb h=>?_))
 exact aKl
 refine .d (sE h (λLc h=>?_) (λLc h=>?_))
 exact aKl
 refine .d (sE h (λSB h=>?_) (λSB h=>?_))
 exact aKl
 refine .d (sE h (λags h=>?_) (λags h=>?_))
 exact aKl
 refine .d (sE h (λagt h=>?_) (λagt h=>?_))
 exact aKl
 refine .d (sE h (λSC h=>?_) (λSC h=>?_))
 exact aKl
 refine .d (sE h (λLd h=>?_) (λLd h=>?_))
 exact aKl
 refine .d (sE h (λSD h=>?_) (λSD h=>?_))
 exact aKl
 refine .d (sE h (λaBs h=>?_) (λaBs h=>?_))
 exact aKl
 refine .d (sE h (λLe h=>?_) (λLe h=>?_))
 exact aKl
 refine .d (sE h (λLf h=>?_) (λLf h=>?_))
 exact aKl
 exact aKl
 rintro _ _ ⟨b24,rfl,rfl,rfl⟩
 replace h:=aBr
 refine sV h (λagu h=>?_) (λagu h=>?_)
 exact ⟨rfl,rfl,_,rfl,(bk h λv40 agv h=>(cx (eY agv) (ct ⟨_,_,si h,rfl,rfl⟩ (tk [] ⟨.b,.b,⟨⟩⟩ ⟨⟩))))⟩
 refine .d (sE h (λagw h=>?_) (λagw h=>?_))
 refine ⟨rfl,rfl,_,rfl,(bk h λKS agx h=>(cx (eY agx) (sV h (λagy h=>?_) (λagy h=>?_))))⟩
 exact .t (.t (.t (ct ⟨_,_,si h,rfl,rfl⟩ (tk [] ⟨.b,.b,⟨⟩⟩ ⟨⟩))))
 exact ⟨rfl,(.f ⟨rfl,_,rfl,(.f (.f (ct ⟨_,_,si h,rfl,rfl⟩ (tk [] ⟨.b,.b,⟨⟩⟩ ⟨⟩))))⟩)⟩
 refine .d (sE h (λLg h=>?_) (λLg h=>?_))
 exact .d ⟨rfl,rfl,_,rfl,(bk h λwE agz h=>(cx (rB agz) ⟨rfl,rfl,_,rfl,(bk h λv49 SE h=>(cx (eY SE) (ct ⟨_,_,si h,rfl,rfl⟩ (tk [] ⟨.b,.b,⟨⟩⟩ ⟨⟩))))⟩))⟩
 refine .d (sE h (λFM h=>?_) (λFM h=>?_))
 exact .d ⟨rfl,rfl,_,rfl,(bk h λqn SF h=>(cx (rB SF) ⟨rfl,rfl,_,rfl,(bk h λv54 aBt h=>(cx (eY aBt) (ct ⟨_,_,si h,rfl,rfl⟩ (tk [] ⟨.b,.b,⟨⟩⟩ ⟨⟩))))⟩))⟩
 refine .d (sE h (λagA h=>?_) (λagA h=>?_))
 refine .d ⟨rfl,rfl,_,rfl,?_⟩
 obtain ⟨⟨Hv,v58⟩,aBu,h⟩:=bd h
 refine cx (DD aBu) (bk h λv60 aBv h=>(cx (eY aBv) (sV h (λSG h=>?_) (λSG h=>?_))))
 exact .t (.t (.t (.t (bk h λN9 agB h=>(cx (eY agB) (.t (ct ⟨_,_,si h,rfl,rfl⟩ (tk [] ⟨.b,.b,⟨⟩⟩ ⟨⟩))))))))
 refine .f (.f (sE h (λSH h=>?_) (λSH h=>?_)))
 exact .t (bk h λv66 aBw h=>(cx (eY aBw) (.t (ct ⟨_,_,si h,rfl,rfl⟩ (tk [] ⟨.b,.b,⟨⟩⟩ ⟨⟩)))))
 exact .f (.f (ct ⟨_,_,si h,rfl,rfl⟩ (tk [] ⟨.b,.b,⟨⟩⟩ ⟨⟩)))
 refine .d (sE h (λagC h=>?_) (λagC h=>?_))
 refine .d ⟨rfl,rfl,_,rfl,(.d ?_)⟩
 refine le (fN.partial_correctness a0 (motive:=λb69 y70 o77=>o3=o77->aQ _ _ [(1,.aC 0 0 0 0),(4,.bool (a0.aP==0)),(5,.bool b69),(8,.int .i64 y70)] [.row 0 4 1 29 (λ_=>a0.lit)]) ?_ (!(a0.aq==([]:aB))) 0 o3 h rfl) (tk [0] ⟨.p,.b,.b,.i,⟨⟩⟩ ⟨(gg rfl),⟨⟩⟩)
 intro F72 alV b69 y70 o77 h aBx
 subst aBx
 refine aQ.round (.d (.d ⟨rfl,rfl,_,rfl,(sD h (λSI h=>?_) (λSI h=>?_))⟩))
 refine .d (sV h (λagD h=>?_) (λagD h=>?_))
 exact ⟨rfl,(.t ⟨rfl,_,rfl,(.t (.t (bk h λv75 agE h=>(cx (kx agE) (.t (.t (lg (alV _ _ _ h rfl) (tk [0] ⟨.p,.b,.b,.i,⟨⟩⟩ ⟨(gg rfl),⟨⟩⟩))))))))⟩)⟩
 exact .f (.f (.f (.f (.f (lg (alV _ _ _ h rfl) (tk [0] ⟨.p,.b,.b,.i,⟨⟩⟩ ⟨(gg rfl),⟨⟩⟩))))))
 exact ct ⟨_,_,si h,rfl,rfl⟩ (tk [] ⟨.b,.b,⟨⟩⟩ ⟨⟩)
 exact ct ⟨_,_,si h,rfl,rfl⟩ (tk [] ⟨.b,.b,⟨⟩⟩ ⟨⟩)
 rintro _ _ ⟨b1,b2,rfl,rfl,rfl⟩
 replace h:=hk5
 refine .d ?_
 obtain rfl:=si h
 exact en [] ⟨rfl,rfl⟩ (.cP ⟨.b,.b,⟨⟩⟩) ⟨⟩
mutual
def jd (a0:ae):Option (Int):=
 (
 hZ a0 0 0
 :Option (Int))>>=λy1=>
 some (bq (y1+1))
partial_fixpoint
def hZ (a0:ae) (y5:Int) (y6:Int):Option (Int):=
 (if y6<(a0.ah.length:Int) then
 idx a0.ah y6>>=λBj=>
 jd Bj>>=λrE=>
 m91 y5 rE>>=λBk=>
 hZ a0 Bk (bq (y6+1))
 else
 some y5)
partial_fixpoint
end
def SJ (a0:ae) (r:Int):Prop:=sg4 30 a0 r
inductive ij:ae->Int->Int->(Int)->Prop
 | mk (G30:ae->Option (Int)) (aGF:∀a0 r,G30 a0=some r->SJ a0 r) (pN:ae->Int->Int->Option (Int)) (KT:∀a0 y5 y6 o,pN a0 y5 y6=some o->ij a0 y5 y6 o) (a0:ae) (y5:Int) (y6:Int) (o:Int) (h:(
 (if y6<(a0.ah.length:Int) then
 idx a0.ah y6>>=λBj=>
 G30 Bj>>=λrE=>
 m91 y5 rE>>=λBk=>
 pN a0 Bk (bq (y6+1))
 else
 some y5)
 )=some o):ij a0 y5 y6 o
theorem yR:(∀a0 r,jd a0=some r->SJ a0 r)/\(∀a0 y5 y6 o,hZ a0 y5 y6=some o->ij a0 y5 y6 o):=by
 refine jd.mutual_partial_correctness SJ ij ?_ ?_
 intro _ agF a0 r h
 refine eT Tryz.func30 ?_
 refine .d (.d ?_)
 obtain ⟨o2,h,FL⟩:=bd h
 refine .cut (λσ η=>∃y1,y1=o2/\σ=[(3,.int .i64 y1)]/\η=[]) ?_ ?_
 refine .d ?_
 have agG:=agF _ _ _ _ h
 refine le (ij.rec (motive:=λp19 y5 y6 SK _=>a0=p19->o2=SK->aQ _ _ [(1,.aC 0 0 0 0),(3,.int .i64 y5),(4,.int .i64 y6)] [.row 0 4 1 29 (λ_=>a0.lit)]) ?_ agG rfl rfl) (tk [0] ⟨.p,.i,.i,⟨⟩⟩ ⟨(gg rfl),⟨⟩⟩)
 intro _ hG9 _ _ p19 y5 y6 SK h ih7  Lh agH
 subst Lh
 subst agH
 refine aQ.round (.d (.d ⟨rfl,rfl,_,rfl,(sD h (λlH h=>?_) (λlH h=>?_))⟩))
 exact .d ⟨rfl,rfl,_,rfl,(bk h λBj uw h=>⟨bn uw,_,(ba uw).trans (ae.aO Bj),(bk h λrE wF h=>(cx (hG9 _ _ wF) (bk h λBk FN h=>(cx (aBn FN) (lg (ih7 _ _ _ _ h rfl rfl) (tk [0] ⟨.p,.i,.i,⟨⟩⟩ ⟨(gg rfl),⟨⟩⟩))))))⟩)⟩
 exact aKu
 exact aJN
 exact aKf
theorem Bl {a0:ae} {r:Int} (h:jd a0=some r):sg4 30 a0 r:=yR.1 a0 r h
mutual
def jL (a0:ae):Option (Int):=
 (
 iF a0 1 0
 :Option (Int))>>=λy1=>
 some y1
partial_fixpoint
def iF (a0:ae) (y5:Int) (y6:Int):Option (Int):=
 (if y6<(a0.ah.length:Int) then
 idx a0.ah y6>>=λBj=>
 jL Bj>>=λrE=>
 iF a0 (bq (y5+rE)) (bq (y6+1))
 else
 some y5)
partial_fixpoint
end
def Li (a0:ae) (r:Int):Prop:=sg4 131 a0 r
inductive iJ:ae->Int->Int->(Int)->Prop
 | mk (alW:ae->Option (Int)) (aGc:∀a0 r,alW a0=some r->Li a0 r) (qv:ae->Int->Int->Option (Int)) (Lj:∀a0 y5 y6 o,qv a0 y5 y6=some o->iJ a0 y5 y6 o) (a0:ae) (y5:Int) (y6:Int) (o:Int) (h:(
 (if y6<(a0.ah.length:Int) then
 idx a0.ah y6>>=λBj=>
 alW Bj>>=λrE=>
 qv a0 (bq (y5+rE)) (bq (y6+1))
 else
 some y5)
 )=some o):iJ a0 y5 y6 o
theorem Al:(∀a0 r,jL a0=some r->Li a0 r)/\(∀a0 y5 y6 o,iF a0 y5 y6=some o->iJ a0 y5 y6 o):=by
 refine jL.mutual_partial_correctness Li iJ ?_ ?_
 intro _ aBy a0 r h
 refine eT Tryz.func131 ?_
 refine .d (.d ?_)
 obtain ⟨o2,h,FL⟩:=bd h
 refine .cut (λσ η=>∃y1,y1=o2/\σ=[(3,.int .i64 y1)]/\η=[]) ?_ ?_
 refine .d ⟨rfl,rfl,_,rfl,?_⟩
 have aBz:=aBy _ _ _ _ h
 refine le (iJ.rec (motive:=λp17 y5 y6 DE _=>a0=p17->o2=DE->aQ _ _ [(3,.int .i64 y5),(7,sl 4 ae.cells a0.ah),(8,.int .i64 (a0.ah.length:Int)),(9,.int .i64 y6)] []) ?_ aBz rfl rfl) (tk [] ⟨.i,.l,.i,.i,⟨⟩⟩ ⟨⟩)
 intro _ hG9 _ _ p17 y5 y6 DE h ih7  agI Ss
 subst agI
 subst Ss
 refine aQ.round (.d (.d (sD h (λlH h=>?_) (λlH h=>?_))))
 exact .d (.d (bk h λBj uw h=>⟨bn uw,_,(ba uw).trans (ae.aO Bj),rfl,_,_,rfl,ao,rfl,_,rfl,(bk h λrE wF h=>(cx (hG9 _ _ wF) (lg (ih7 _ _ _ _ h rfl rfl) (tk [] ⟨.i,.l,.i,.i,⟨⟩⟩ ⟨⟩))))⟩))
 exact aKu
 exact aJN
 exact aKf
theorem DK {a0:ae} {r:Int} (h:jL a0=some r):sg4 131 a0 r:=Al.1 a0 r h
mutual
def je (a0:ae):Option (Int):=
 (
 ia a0 0 0
 :Option (Int))>>=λy1=>
 some (bq (y1+1))
partial_fixpoint
def ia (a0:ae) (y5:Int) (y6:Int):Option (Int):=
 (if y6<(a0.ah.length:Int) then
 idx a0.ah y6>>=λBj=>
 je Bj>>=λrE=>
 m93 y5 rE>>=λBk=>
 ia a0 Bk (bq (y6+1))
 else
 some y5)
partial_fixpoint
end
def Lk (a0:ae) (r:Int):Prop:=sg4 132 a0 r
inductive ik:ae->Int->Int->(Int)->Prop
 | mk (alX:ae->Option (Int)) (aGd:∀a0 r,alX a0=some r->Lk a0 r) (pO:ae->Int->Int->Option (Int)) (KU:∀a0 y5 y6 o,pO a0 y5 y6=some o->ik a0 y5 y6 o) (a0:ae) (y5:Int) (y6:Int) (o:Int) (h:(
 (if y6<(a0.ah.length:Int) then
 idx a0.ah y6>>=λBj=>
 alX Bj>>=λrE=>
 m93 y5 rE>>=λBk=>
 pO a0 Bk (bq (y6+1))
 else
 some y5)
 )=some o):ik a0 y5 y6 o
theorem yT:(∀a0 r,je a0=some r->Lk a0 r)/\(∀a0 y5 y6 o,ia a0 y5 y6=some o->ik a0 y5 y6 o):=by
 refine je.mutual_partial_correctness Lk ik ?_ ?_
 intro _ agF a0 r h
 refine eT Tryz.func132 ?_
 refine .d (.d ?_)
 obtain ⟨o2,h,FL⟩:=bd h
 refine .cut (λσ η=>∃y1,y1=o2/\σ=[(3,.int .i64 y1)]/\η=[]) ?_ ?_
 refine .d ⟨rfl,rfl,_,rfl,?_⟩
 have agG:=agF _ _ _ _ h
 refine le (ik.rec (motive:=λp19 y5 y6 SK _=>a0=p19->o2=SK->aQ _ _ [(3,.int .i64 y5),(7,sl 4 ae.cells a0.ah),(8,.int .i64 (a0.ah.length:Int)),(9,.int .i64 y6)] []) ?_ agG rfl rfl) (tk [] ⟨.i,.l,.i,.i,⟨⟩⟩ ⟨⟩)
 intro _ hG9 _ _ p19 y5 y6 SK h ih7  Lh agH
 subst Lh
 subst agH
 refine aQ.round (.d (.d (sD h (λlH h=>?_) (λlH h=>?_))))
 exact .d (.d (bk h λBj uw h=>⟨bn uw,_,(ba uw).trans (ae.aO Bj),rfl,_,_,rfl,ao,rfl,_,rfl,(bk h λrE wF h=>(cx (hG9 _ _ wF) (bk h λBk FN h=>(cx (aBo FN) (lg (ih7 _ _ _ _ h rfl rfl) (tk [] ⟨.i,.l,.i,.i,⟨⟩⟩ ⟨⟩))))))⟩))
 exact aKu
 exact aJN
 exact aKf
theorem Bm {a0:ae} {r:Int} (h:je a0=some r):sg4 132 a0 r:=yT.1 a0 r h
mutual
def kA (a0:ae) (a1:Int):Option (Int):=
 (
 jl a0 (bq (a1 - 1)) 0
 :Option (Int))>>=λy1=>
 some y1
partial_fixpoint
def jl (a0:ae) (y5:Int) (y6:Int):Option (Int):=
 (if y6<(a0.ah.length:Int) then
 (if y5>=0 then
 idx a0.ah y6>>=λx12=>
 kA x12 y5>>=λv14=>
 jl a0 v14 (bq (y6+1))
 else
 some y5)
 else
 some y5)
partial_fixpoint
end
def Ll (a0:ae) (a1:Int) (r:Int):Prop:=sg7 145 a0 a1 r
inductive jm:ae->Int->Int->(Int)->Prop
 | mk (alY:ae->Int->Option (Int)) (aGe:∀a0 a1 r,alY a0 a1=some r->Ll a0 a1 r) (rG:ae->Int->Int->Option (Int)) (Ob:∀a0 y5 y6 o,rG a0 y5 y6=some o->jm a0 y5 y6 o) (a0:ae) (y5:Int) (y6:Int) (o:Int) (h:(
 (if y6<(a0.ah.length:Int) then
 (if y5>=0 then
 idx a0.ah y6>>=λx12=>
 alY x12 y5>>=λv14=>
 rG a0 v14 (bq (y6+1))
 else
 some y5)
 else
 some y5)
 )=some o):jm a0 y5 y6 o
theorem Bn:(∀a0 a1 r,kA a0 a1=some r->Ll a0 a1 r)/\(∀a0 y5 y6 o,jl a0 y5 y6=some o->jm a0 y5 y6 o):=by
 refine kA.mutual_partial_correctness Ll jm ?_ ?_
 intro _ aBA a0 a1 r h
 refine eT Tryz.func145 ?_
 refine .d (.d ?_)
 obtain ⟨o2,h,FL⟩:=bd h
 refine .cut (λσ η=>∃y1,y1=o2/\σ=[(1,.int .i64 y1)]/\η=[]) ?_ ?_
 refine .d ?_
 have aBB:=aBA _ _ _ _ h
 refine le (jm.rec (motive:=λp18 y5 y6 o16 _=>a0=p18->o2=o16->aQ _ _ [(1,.int .i64 y5),(2,.aC 0 0 0 0),(5,.int .i64 y6)] [.row 0 4 1 29 (λ_=>a0.lit)]) ?_ aBB rfl rfl) (tk [0] ⟨.i,.p,.i,⟨⟩⟩ ⟨(gg rfl),⟨⟩⟩)
 intro _ hG9 _ _ p18 y5 y6 o16 h ih7  agJ Sv
 subst agJ
 subst Sv
 refine aQ.round (.d (.d ⟨rfl,rfl,_,rfl,(sD h (λlH h=>?_) (λlH h=>?_))⟩))
 refine .t (.t (sD h (λrC h=>?_) (λrC h=>?_)))
 exact .d ⟨rfl,rfl,_,rfl,(bk h λx12 Hs h=>⟨bn Hs,_,(ba Hs).trans (ae.aO x12),(bk h λv14 agK h=>(cx (hG9 _ _ _ agK) (lg (ih7 _ _ _ _ h rfl rfl) (tk [0] ⟨.i,.p,.i,⟨⟩⟩ ⟨(gg rfl),⟨⟩⟩))))⟩)⟩
 exact aKu
 exact .f (.f (.f (ct ⟨_,si h,rfl,rfl⟩ (tk [] ⟨.i,⟨⟩⟩ ⟨⟩))))
 exact aJN
 exact aKf
theorem FO {a0:ae} {a1:Int} {r:Int} (h:kA a0 a1=some r):sg7 145 a0 a1 r:=Bn.1 a0 a1 r h
def lJ (a0:ae):Option (Bool):=
 jL a0>>=λv1=>
 (if v1<=600 then
 je a0>>=λv4=>
 some (decide (v4<=30))
 else
 some false)
theorem Bo {a0:ae} {r:Bool} (h:lJ a0=some r):La 66 a0 r:=by
 refine eT Tryz.func66 ?_
 unfold lJ at h
 refine .d (.d ⟨rfl,_,rfl,(bk h λv1 rA h=>(cx (DK rA) (sD h (λyE h=>?_) (λyE h=>?_))))⟩)
 exact ⟨rfl,_,rfl,(.t (bk h λv4 Hw h=>(cx (Bm Hw) (.t (.t (eB h))))))⟩
 exact aKE
def mO (a0:ae):Option (Bool):=
 kA a0 600>>=λv1=>
 (if v1>=0 then
 jd a0>>=λv4=>
 some (decide (v4<=30))
 else
 some false)
theorem DL {a0:ae} {r:Bool} (h:mO a0=some r):La 74 a0 r:=by
 refine eT Tryz.func74 ?_
 unfold mO at h
 refine .d (.d ⟨rfl,_,rfl,(bk h λv1 rA h=>(cx (FO rA) (sD h (λyE h=>?_) (λyE h=>?_))))⟩)
 exact ⟨rfl,_,rfl,(.t (bk h λv4 Hw h=>(cx (Bl Hw) (.t (.t (eB h))))))⟩
 exact aKE
theorem ACall.ext {P:Program} {f:FuncId} {args:List PV} {r:PV} (wi:alZ P f)
  (H:∀(w:World) (vs:Array Value) (S:Nat->Prop),Oc S w->(∀b,S b->b<w.heap.size)->vs.size=args.length->(∀(j:Nat) (pv:PV),args[j]? =some pv->∃v,vs[j]? =some v/\aY S w pv v)->
   Calls P f vs w (λe w'=>∃v,e=.returned v/\(∀μ h S w,bS μ h S w r v)/\Below w.heap.size w w'))
  (hp:args.all xE=true) (h:List ak):ACall P f args h (λres h'=>res=r/\h'=h):=by
 refine ⟨wi,λw vs μ S hH hM gK ha=>(H w vs S hM.known hM.slt gK (λj pv hj=>?_)).mono ?_⟩
 ·obtain ⟨v,h1,h2⟩:=ha j pv hj
  have h3:=aHH.1 hp pv (aHU hj)
  cases pv<;>first | exact ⟨v,h1,h2⟩ | (simp [xE] at h3)
 ·rintro e w' ⟨v,rfl,hv,hb⟩
  have ag:cD w w':=⟨hb.block,hb.size,hb.os,hb.tape,hb.output⟩
  exact ⟨v,r,h,μ,S,rfl,⟨rfl,rfl⟩,hv _ _ _ _,hH.agree ag hM,hM.agree ag,Fr.rH ag⟩
theorem Od {vs:Array Value} {a b:Value} (hs:vs.size=2) (h0:vs[0]? =some a) (h1:vs[1]? =some b):vs=#[a,b]:=by
 obtain ⟨l⟩:=vs
 rcases l with _ | ⟨x,_ | ⟨y,_ | ⟨z,l⟩⟩⟩<;>simp at hs
 simp at h0 h1;subst h0;subst h1;rfl
theorem al0 {vs:Array Value} {a b c:Value} (hs:vs.size=3) (h0:vs[0]? =some a) (h1:vs[1]? =some b) (h2:vs[2]? =some c):vs=#[a,b,c]:=by
 obtain ⟨l⟩:=vs
 rcases l with _ | ⟨x,_ | ⟨y,_ | ⟨z,_ | ⟨u,l⟩⟩⟩⟩<;>simp at hs
 simp at h0 h1 h2;subst h0;subst h1;subst h2;rfl
theorem Lm {P:Program} {w:World} {n:String} {g:Nat} {cs:Array Value} {t:TypeId} {z:Nat×Nat} (hg:P.globalNamed n=some g) (h:w.heap[g]? =some (.cells cs t z)):w.var? P n=some cs:=by
 unfold World.var?
 rw [hg]
 simp [h]
theorem agL:Tryz.prog.globalNamed "internal/strconv.uint64pow10" =some 1:=by kernel_rfl
theorem agM:Tryz.prog.globalNamed "strconv.ErrSyntax" =some 2:=by kernel_rfl
theorem agN:Tryz.prog.globalNamed "strconv.ErrRange" =some 3:=by kernel_rfl
theorem SL:Lib.pow10Tab=Hx:=by decide
theorem aaN {S:Nat->Prop} {w:World} (h:Oc S w):Lib.TabIs Tryz.prog w "internal/strconv.uint64pow10" .u64 Lib.pow10Tab:=by
 obtain ⟨_,t,z,hh⟩:=h.1 (1,_) (by simp [FP];rfl)
 unfold Lib.TabIs
 rw [Lm agL hh,SL]
theorem aaO {S:Nat->Prop} {w:World} (h:Oc S w):∃tp p,w.var? Tryz.prog "strconv.ErrSyntax" =some #[.iface tp p]:=by
 obtain ⟨_,tp,p,t,z,hh⟩:=h.2.1 2 (by simp [xF])
 exact ⟨tp,p,Lm agM hh⟩
theorem aaP {S:Nat->Prop} {w:World} (h:Oc S w):∃tp p,w.var? Tryz.prog "strconv.ErrRange" =some #[.iface tp p]:=by
 obtain ⟨_,tp,p,t,z,hh⟩:=h.2.1 3 (by simp [xF])
 exact ⟨tp,p,Lm agN hh⟩
theorem FQ {S:Nat->Prop} {w:World} (h:Oc S w):∃m,w.cell? ⟨0,0,none⟩=some (.int .i64 m):=by
 obtain ⟨_,m,t,z,hh⟩:=h.2.2 0 (by simp [FR])
 exact ⟨m,by simp [World.cell?,hh]⟩
theorem Ln (w:World) (k:Nat) (os:Array Obj):Below w.heap.size w (Sort.grow (w.drewN k) os):=by
 refine ⟨rfl,rfl,rfl,?_,λi hi=>?_⟩
 ·show w.heap.size<=(w.heap++os).size
  simp
 ·show (w.heap++os)[i]? =w.heap[i]?
  rw [aID hi]
theorem SM (s sub:List UInt8) (hs:s.length<4294967281) (h:List ak):ACall Tryz.prog 168 [.str s,.str sub] h (λres h'=>res=.int .i64 (Lib.index s sub)/\h'=h):=by
 refine ACall.ext ⟨_,_,Tryz.func168,rfl,by kernel_rfl⟩ (λw vs S ha hS gK hj=>?_) rfl h
 obtain ⟨v,hv,hp⟩:=hj 0 _ rfl
 cases hp
 obtain ⟨v',hv',xG⟩:=hj 1 _ rfl
 cases xG
 obtain rfl:=Od gK hv hv'
 obtain ⟨m,hm⟩:=FQ ha
 refine (Tryz.strings_Index ⟨⟨s⟩⟩ ⟨⟨sub⟩⟩ m w hs hm).mono ?_
 rintro e w' ⟨rfl,rfl⟩
 exact ⟨_,rfl,λ_ _ _ _=>.int _ _,Below.refl _ _⟩
theorem FT (s p:List UInt8) (h:List ak):ACall Tryz.prog 170 [.str s,.str p] h (λres h'=>res=.bool (Lib.hasPrefix s p)/\h'=h):=by
 refine ACall.ext ⟨_,_,Tryz.func170,rfl,by kernel_rfl⟩ (λw vs S ha hS gK hj=>?_) rfl h
 obtain ⟨v,hv,hp⟩:=hj 0 _ rfl
 cases hp
 obtain ⟨v',hv',xG⟩:=hj 1 _ rfl
 cases xG
 obtain rfl:=Od gK hv hv'
 refine (Tryz.strings_HasPrefix ⟨⟨s⟩⟩ ⟨⟨p⟩⟩ w).mono ?_
 rintro e w' ⟨rfl,rfl⟩
 exact ⟨_,rfl,λ_ _ _ _=>.bool _,Below.refl _ _⟩
def pw (s:List UInt8) (lo hi:Int):Option Int:=
 if 20<s.length then none else match Lib.atoiAll s with
  | .ok n=>if Lib.itoa n=s/\lo<=n/\n<=hi then some n else none
  | _=>none
def pwR (o:Option Int):PV:=match o with | some n=>.fv [.int .i64 n,.bool true] | none=>.fv [.int .i64 0,.bool false]
def pwV (o:Option Int):Value:=match o with | some n=>.tuple #[.int .i64 n,.bool true] | none=>.tuple #[.int .i64 0,.bool false]
set_option maxRecDepth 100000 in
theorem xH (s:ByteArray) (lo hi:Int) (w:World) (S:Nat->Prop) (ha:Oc S w) (hS:∀b,S b->b<w.heap.size):
  Calls Tryz.prog 207 #[.string s,.int .i64 lo,.int .i64 hi] w λe w'=>e=.returned (pwV (pw s.data.toList lo hi))/\Below w.heap.size w w':=by
 have hlen:s.data.toList.length=s.size:=rfl
 by_cases hl:20<s.size
 ·have e0:pw s.data.toList lo hi=none:=by unfold pw;rw [if_pos aKK]
  rw [e0]
  go_enter Tryz.func207,Tryz.ntmps207
  go_wp2
  go_ret2
  exact ⟨rfl,Below.refl _ _⟩
 ·cases h:Lib.atoiAll s.data.toList with
  | range=>
   have e0:pw s.data.toList lo hi=none:=by unfold pw;rw [if_neg aKK,h]
   rw [e0]
   obtain ⟨tp,p,hv⟩:=aaP ha
   go_enter Tryz.func207,Tryz.ntmps207
   go_wp2_with (go_at_call 221;refine (Tryz.strconv_Atoi_range_var s aKK h tp p _ hv).mono ?_;rintro e w1 ⟨N,rfl,-,-,hb⟩)
   go_ret2
   exact ⟨rfl,hb⟩
  | ok n=>
   obtain ⟨b0,b1⟩:=Lib.atoiAll_bounds h
   have key:∀(r:Value) (w1 w2:World),((w1=w\/∃t,w1=Lib.bytesWorld w 5 t)->Below w.heap.size w w1):=λr w1 w2 hb=>by
    rcases hb with rfl | ⟨t,rfl⟩
    ·exact Below.refl _ _
    ·exact Lib.bytesWorld_below _ _ _
   go_enter Tryz.func207,Tryz.ntmps207
   go_wp2_with (go_at_call 221;refine (Tryz.strconv_Atoi_ok s aKK n h _).mono ?_;rintro e w1 ⟨rfl,hb⟩)
   go_wp2_with (go_at_call 201;refine (Tryz.strconv_Itoa n b0 b1 _ (aaN (ha.fx (λb nA=>(key undef _ w hb).block b (hS b nA)) (λ_ hb=>hb)))).mono ?_;rintro e w2 ⟨rfl,k,os,rfl⟩)
   all_goals go_ret2
   all_goals refine ⟨?_,(key undef _ w hb).trans ((Ln _ _ _).mono (key undef _ w hb).size)⟩
   all_goals
    have ht:s.toList=s.data.toList:=ByteArray.toList_eq s
    have pe:pw s.data.toList lo hi=if Lib.itoa n=s.data.toList/\lo<=n/\n<=hi then some n else none:=by
     unfold pw;rw [if_neg aKK,h]
    rw [pe,<-ht]
    clear ht pe h
    split
    ·rename_i hc
     first
      | rfl
      | (exfalso;obtain ⟨c1,c2,c3⟩:=hc;first | omega | contradiction)
    ·rename_i hc
     first
      | rfl
      | (exfalso;apply hc;refine ⟨?_,?_,?_⟩<;>first | assumption | omega)
  | _=>
   have e0:pw s.data.toList lo hi=none:=by unfold pw;rw [if_neg aKK,h]
   rw [e0]
   obtain ⟨tp,p,hv⟩:=aaO ha
   go_enter Tryz.func207,Tryz.ntmps207
   go_wp2_with (go_at_call 221;refine (Tryz.strconv_Atoi_syntax_var s aKK h tp p _ hv).mono ?_;rintro e w1 ⟨N,rfl,-,-,hb⟩)
   go_ret2
   exact ⟨rfl,hb⟩
theorem Bp (s:List UInt8) (lo hi:Int) (h:List ak):ACall Tryz.prog 207 [.str s,.int .i64 lo,.int .i64 hi] h (λres h'=>res=pwR (pw s lo hi)/\h'=h):=by
 refine ACall.ext ⟨_,_,Tryz.func207,rfl,by kernel_rfl⟩ (λw vs S ha hS gK hj=>?_) rfl h
 obtain ⟨v0,Qf,hp0⟩:=hj 0 _ rfl
 cases hp0
 obtain ⟨v1,hv1,Dx⟩:=hj 1 _ rfl
 cases Dx
 obtain ⟨v2,rA,Hy⟩:=hj 2 _ rfl
 cases Hy
 obtain rfl:=al0 gK Qf hv1 rA
 refine (xH ⟨⟨s⟩⟩ lo hi w S ha hS).mono ?_
 rintro e w' ⟨rfl,hb⟩
 refine ⟨_,rfl,λμ h S w=>?_,hb⟩
 show bS μ h S w (pwR (pw s lo hi)) (pwV (pw s lo hi))
 cases pw s lo hi with
 | some n=>
  refine ⟨_,rfl,rfl,λj pv hj=>?_⟩
  match j with
  | 0=>cases hj;exact ⟨_,rfl,.int _ _⟩
  | 1=>cases hj;exact ⟨_,rfl,.bool _⟩
  | j+2=>simp at hj
 | none=>
  refine ⟨_,rfl,rfl,λj pv hj=>?_⟩
  match j with
  | 0=>cases hj;exact ⟨_,rfl,.int _ _⟩
  | 1=>cases hj;exact ⟨_,rfl,.bool _⟩
  | j+2=>simp at hj
def m98 (s:aB) (lo hi:Int):Option (Int×Bool):=match pw s lo hi with | some n=>some (n,true) | none=>some (0,false)
theorem aBC {s:aB} {lo hi:Int} {r:Int×Bool} (h:m98 s lo hi=some r):ACall Tryz.prog 207 [.str s,.int .i64 lo,.int .i64 hi] [] (λres h=>res=.fv [.int .i64 r.1,.bool r.2]/\h=[]):=by
 refine (Bp s lo hi []).mono ?_
 rintro _ _ ⟨rfl,rfl⟩
 unfold m98 at h
 split at h
 ·rename_i n e;rw [e];cases h;exact ⟨rfl,rfl⟩
 ·rename_i e;rw [e];cases h;exact ⟨rfl,rfl⟩
def m66 (s p:aB):Option Bool:=some (Lib.hasPrefix s p)
theorem SN {s p:aB} {r:Bool} (h:m66 s p=some r):ACall Tryz.prog 170 [.str s,.str p] [] (λres h=>res=.bool r/\h=[]):=by
 cases h
 exact FT s p []
def m64 (s p:aB):Option Int:=if s.length<4294967281 then some (Lib.index s p) else none
theorem aBD {s p:aB} {r:Int} (h:m64 s p=some r):ACall Tryz.prog 168 [.str s,.str p] [] (λres h=>res=.int .i64 r/\h=[]):=by
 obtain ⟨h0,rfl⟩:=dk h
 exact SM s p h0 []
theorem Hz (s sub:List UInt8) (hs:s.length<4294967281) (h:List ak):ACall Tryz.prog 136 [.str s,.str sub] h (λres h'=>res=.bool (decide (0<=Lib.index s sub))/\h'=h):=by
 refine ACall.ext ⟨_,_,Tryz.func136,rfl,by kernel_rfl⟩ (λw vs S ha hS gK hj=>?_) rfl h
 obtain ⟨v,hv,hp⟩:=hj 0 _ rfl
 cases hp
 obtain ⟨v',hv',xG⟩:=hj 1 _ rfl
 cases xG
 obtain rfl:=Od gK hv hv'
 obtain ⟨m,hm⟩:=FQ ha
 refine (Tryz.strings_Contains ⟨⟨s⟩⟩ ⟨⟨sub⟩⟩ m w hs hm).mono ?_
 rintro e w' ⟨rfl,rfl⟩
 exact ⟨_,rfl,λ_ _ _ _=>.bool _,Below.refl _ _⟩
theorem agO (s sep:List UInt8) (hs:s.length<4294967281) (h:List ak):ACall Tryz.prog 198 [.str s,.str sep] h (λres h'=>res=.fv [.str (Lib.cut s sep).1,.str (Lib.cut s sep).2.1,.bool (Lib.cut s sep).2.2]/\h'=h):=by
 refine ACall.ext ⟨_,_,Tryz.func198,rfl,by kernel_rfl⟩ (λw vs S ha hS gK hj=>?_) rfl h
 obtain ⟨v,hv,hp⟩:=hj 0 _ rfl
 cases hp
 obtain ⟨v',hv',xG⟩:=hj 1 _ rfl
 cases xG
 obtain rfl:=Od gK hv hv'
 obtain ⟨m,hm⟩:=FQ ha
 refine (Tryz.strings_Cut ⟨⟨s⟩⟩ ⟨⟨sep⟩⟩ m w hs hm).mono ?_
 rintro e w' ⟨rfl,n,rfl⟩
 refine ⟨_,rfl,λμ h S w'=>⟨_,rfl,rfl,λj pv hj=>?_⟩,?_⟩
 ·match j with
  | 0=>cases hj;exact ⟨_,rfl,.str _⟩
  | 1=>cases hj;exact ⟨_,rfl,.str _⟩
  | 2=>cases hj;exact ⟨_,rfl,.bool _⟩
  | j+3=>simp at hj
 ·exact ⟨rfl,rfl,rfl,No _,λ_ _=>rfl⟩
def mP (s p:aB):Option Bool:=if s.length<4294967281 then some (decide (0<=Lib.index s p)) else none
theorem wG {s p:aB} {r:Bool} (h:mP s p=some r):ACall Tryz.prog 136 [.str s,.str p] [] (λres h=>res=.bool r/\h=[]):=by
 obtain ⟨h0,rfl⟩:=dk h
 exact Hz s p h0 []
def sG (s p:aB):Option (aB×aB×Bool):=if s.length<4294967281 then some (Lib.cut s p) else none
theorem DM {s p:aB} {r:aB×aB×Bool} (h:sG s p=some r):ACall Tryz.prog 198 [.str s,.str p] [] (λres h=>res=.fv [.str r.1,.str r.2.1,.bool r.2.2]/\h=[]):=by
 obtain ⟨h0,rfl⟩:=dk h
 exact agO s p h0 []
set_option maxRecDepth 100000
def mQ (a0:aB):Option (Bool):=
 sG a0 [58,58]>>=λ(v1,v2,v3)=>
 (if v3=true then
 (if v1=([115,116,97,116,105,99]:aB) then
 bK v2>>=λv7=>
 some v7
 else
 bK v1>>=λv9=>
 (if v9=true then
 bK v2>>=λv12=>
 some v12
 else
 some false))
 else
 some false)
theorem DN {a0:aB} {r:Bool} (h:mQ a0=some r):sg3 144 a0 r:=by
 refine eT Tryz.func144 ?_
 unfold mQ at h
 refine .d (.d ?_)
 obtain ⟨⟨v1,v2,v3⟩,Sy,h⟩:=bd h
 refine cx (DM Sy) (.d (sV h (λEu h=>?_) (λEu h=>?_)))
 refine .t (.t (sE h (λEv h=>?_) (λEv h=>?_)))
 exact .t (.t (.t (.t (.t (.t (bk h λv7 hv8 h=>(cx (da hv8) (.t (eB h)))))))))
 refine .f (bk h λv9 SO h=>(cx (da SO) (.t (.f (.t (sV h (λrC h=>?_) (λrC h=>?_)))))))
 exact .t (bk h λv12 Qg h=>(cx (da Qg) (.t (eB h))))
 exact .f (.f (eB h))
 exact .f (.f (.f (.f (.f (.f (.f (eB h)))))))
def iK (a1:Bool) (yU:List ae) (Lo:Bool) (Lp:Int):Option ((Unit) ⊕ Bool):=
 (if Lp<(yU.length:Int) then
 idx yU Lp>>=λFU=>
 ((
 (if FU.aj=25 then
 (if a1=true then
 some (.inl true)
 else
 (if FU.aj=24 then
 (if Lo=true then
 some (.inr (.inr false))
 else
 some (.inl Lo))
 else
 some (.inr (.inr false))))
 else
 (if FU.aj=24 then
 (if Lo=true then
 some (.inr (.inr false))
 else
 some (.inl Lo))
 else
 some (.inr (.inr false))))
 :Option ((Bool) ⊕ ((Unit) ⊕ Bool)))>>=λagP=>match agP with
 | .inr r=>some r
 | .inl SP=>
 R6 FU.aP 0 1>>=λv222=>
 (if v222=true then
 bK FU.aq>>=λal1=>
 (if al1=true then
 (if (FU.ah.length:Int)>0 then
 some (.inr false)
 else
 iK a1 yU SP (bq (Lp+1)))
 else
 some (.inr false))
 else
 some (.inr false))
 )
 else
 some (.inl ()))
partial_fixpoint
mutual
def cQ (a0:ae):Option (Bool):=
 ((
 (if a0.aj=1 then
 R6 a0.aP 0 1000000000>>=λv5=>
 (if v5=true then
 (if a0.aq=([]:aB) then
 some (.inr ((a0.ah.length:Int)==0))
 else
 some (.inr false))
 else
 some (.inr false))
 else
 (if a0.aj=2 then
 (if a0.aP=0 then
 (if (a0.aq.length:Int)<=400 then
 some (.inr ((a0.ah.length:Int)==0))
 else
 some (.inr false))
 else
 some (.inr false))
 else
 (if a0.aj=3 then
 R6 a0.aP 0 2>>=λrE=>
 (if rE=true then
 (if a0.aq=([]:aB) then
 some (.inr ((a0.ah.length:Int)==0))
 else
 some (.inr false))
 else
 some (.inr false))
 else
 (if a0.aj=4 then
 hU a0>>=λv18=>
 some (.inr v18)
 else
 (if a0.aj=5 then
 ((
 lK a0 0
 :Option ((Unit) ⊕ ((Unit) ⊕ Bool)))>>=λo21=>match o21 with
 | .inr r=>some r
 | .inl _=>
 (if a0.aP=0 then
 some (.inr (a0.aq==([]:aB)))
 else
 some (.inr false))
 )
 else
 (
 (if a0.aj=7 then
 some (a0.aj==7)
 else
 (if a0.aj=11 then
 some (a0.aj==11)
 else
 (if a0.aj=12 then
 some (a0.aj==12)
 else
 some (a0.aj==13))))
 :Option (Bool))>>=λb52=>
 (if b52=true then
 (if a0.aP=0 then
 (if a0.aq=([]:aB) then
 (if (a0.ah.length:Int)=2 then
 cN a0.ah>>=λN9=>
 some (.inr N9)
 else
 some (.inr false))
 else
 some (.inr false))
 else
 some (.inr false))
 else
 (if a0.aj=8 then
 (if a0.aP=0 then
 bK a0.aq>>=λFV=>
 (if FV=true then
 (if (a0.ah.length:Int)=1 then
 cN a0.ah>>=λv71=>
 some (.inr v71)
 else
 some (.inr false))
 else
 some (.inr false))
 else
 some (.inr false))
 else
 (if a0.aj=9 then
 (if a0.aP=1 then
 (if a0.aq=([]:aB) then
 (if (a0.ah.length:Int)=1 then
 cN a0.ah>>=λv77=>
 some (.inr v77)
 else
 some (.inr false))
 else
 some (.inr false))
 else
 (if a0.aP=2 then
 (if a0.aq=([]:aB) then
 (if (a0.ah.length:Int)=1 then
 cN a0.ah>>=λv82=>
 some (.inr v82)
 else
 some (.inr false))
 else
 some (.inr false))
 else
 some (.inr false)))
 else
 (if a0.aj=10 then
 R6 a0.aP 1 15>>=λv85=>
 (if v85=true then
 (if a0.aq=([]:aB) then
 (if (a0.ah.length:Int)=2 then
 cN a0.ah>>=λv90=>
 some (.inr v90)
 else
 some (.inr false))
 else
 some (.inr false))
 else
 some (.inr false))
 else
 (if a0.aj=14 then
 (if a0.aP=0 then
 (if a0.aq=([]:aB) then
 (if (a0.ah.length:Int)=3 then
 cN a0.ah>>=λv96=>
 some (.inr v96)
 else
 some (.inr false))
 else
 some (.inr false))
 else
 some (.inr false))
 else
 (
 (if a0.aj=15 then
 some (a0.aj==15)
 else
 some (a0.aj==16))
 :Option (Bool))>>=λb98=>
 (if b98=true then
 (if a0.aP=0 then
 (if a0.aq=([]:aB) then
 (if (a0.ah.length:Int)=2 then
 cN a0.ah>>=λv107=>
 (if v107=true then
 idx a0.ah 0>>=λagQ=>
 eX agQ>>=λSQ=>
 some (.inr SQ)
 else
 some (.inr false))
 else
 some (.inr false))
 else
 some (.inr false))
 else
 some (.inr false))
 else
 (if a0.aj=17 then
 (if a0.aP=0 then
 bK a0.aq>>=λal2=>
 (if al2=true then
 (if (a0.ah.length:Int)=1 then
 idx a0.ah 0>>=λagR=>
 hU agR>>=λSR=>
 some (.inr SR)
 else
 some (.inr false))
 else
 some (.inr false))
 else
 some (.inr false))
 else
 (if a0.aj=18 then
 (if a0.aP=0 then
 bK a0.aq>>=λSS=>
 (if SS=true then
 cN a0.ah>>=λSU=>
 some (.inr SU)
 else
 some (.inr false))
 else
 some (.inr false))
 else
 (if a0.aj=19 then
 (if a0.aP=0 then
 (if a0.aq=([]:aB) then
 (if (a0.ah.length:Int)>=1 then
 cN a0.ah>>=λSV=>
 some (.inr SV)
 else
 some (.inr false))
 else
 some (.inr false))
 else
 some (.inr false))
 else
 (if a0.aj=20 then
 (if a0.aP=0 then
 bK a0.aq>>=λv139=>
 (if v139=true then
 (if (a0.ah.length:Int)>=1 then
 cN a0.ah>>=λv143=>
 some (.inr v143)
 else
 some (.inr false))
 else
 some (.inr false))
 else
 some (.inr false))
 else
 (if a0.aj=21 then
 (if a0.aP=0 then
 mQ a0.aq>>=λLq=>
 (if Lq=true then
 cN a0.ah>>=λSW=>
 some (.inr SW)
 else
 some (.inr false))
 else
 some (.inr false))
 else
 (if a0.aj=22 then
 (if a0.aP=0 then
 (if a0.aq=([115,116,97,116,105,99]:aB) then
 cN a0.ah>>=λSX=>
 some (.inr SX)
 else
 bK a0.aq>>=λv157=>
 (if v157=true then
 cN a0.ah>>=λv160=>
 some (.inr v160)
 else
 some (.inr false)))
 else
 some (.inr false))
 else
 (if a0.aj=23 then
 (if a0.aP=0 then
 (if a0.aq=([]:aB) then
 kB a0.ah true>>=λHA=>
 some (.inr HA)
 else
 some (.inr false))
 else
 some (.inr false))
 else
 some (.inl ())))))))))))))))))))
 :Option ((Unit) ⊕ Bool))>>=λo1=>match o1 with
 | .inr r=>some r
 | .inl _=>
 some false
 )
partial_fixpoint
def cN (a0:List ae):Option (Bool):=
 ((
 jW a0 0
 :Option ((Unit) ⊕ Bool))>>=λaaQ=>match aaQ with
 | .inr r=>some r
 | .inl _=>
 some true
 )
partial_fixpoint
def kB (a0:List ae) (a1:Bool):Option (Bool):=
 (if (bq ((a0.length:Int) - 1))<0 then
 some false
 else
 idx a0 (bq ((a0.length:Int) - 1))>>=λagS=>
 (if agS.aj=48 then
 idx a0 (bq ((a0.length:Int) - 1))>>=λagT=>
 dK agT>>=λQh=>
 (if Qh=true then
 ((
 R7 a0 (bq ((a0.length:Int) - 1))>>=λyU=>
 iK a1 yU false 0
 :Option ((Unit) ⊕ Bool))>>=λSY=>match SY with
 | .inr r=>some r
 | .inl _=>
 some true
 )
 else
 some false)
 else
 some false))
partial_fixpoint
def dK (a0:ae):Option (Bool):=
 (if a0.aP=0 then
 ((
 (if a0.aj=31 then
 (if a0.aq=([]:aB) then
 some (.inr false)
 else
 mP a0.aq [60,63]>>=λSZ=>
 (if SZ=true then
 some (.inr false)
 else
 some (.inr ((a0.ah.length:Int)==0))))
 else
 (
 (if a0.aj=32 then
 some (a0.aj==32)
 else
 (if a0.aj=33 then
 some (a0.aj==33)
 else
 some (a0.aj==42)))
 :Option (Bool))>>=λS4=>
 (if S4=true then
 (if a0.aq=([]:aB) then
 (if (a0.ah.length:Int)=1 then
 idx a0.ah 0>>=λagU=>
 cQ agU>>=λal3=>
 some (.inr al3)
 else
 some (.inr false))
 else
 some (.inr false))
 else
 (if a0.aj=34 then
 (if a0.aq=([]:aB) then
 R6 (a0.ah.length:Int) 2 3>>=λS6=>
 (if S6=true then
 idx a0.ah 0>>=λagV=>
 cQ agV>>=λal4=>
 (if al4=true then
 pP a0.ah 1>>=λqo=>
 fO qo>>=λal5=>
 some (.inr al5)
 else
 some (.inr false))
 else
 some (.inr false))
 else
 some (.inr false))
 else
 (if a0.aj=35 then
 (if a0.aq=([]:aB) then
 (if (a0.ah.length:Int)=2 then
 idx a0.ah 0>>=λagW=>
 cQ agW>>=λal6=>
 (if al6=true then
 pP a0.ah 1>>=λaaR=>
 fO aaR>>=λal7=>
 some (.inr al7)
 else
 some (.inr false))
 else
 some (.inr false))
 else
 some (.inr false))
 else
 (if a0.aj=36 then
 (if a0.aq=([]:aB) then
 R6 (a0.ah.length:Int) 3 4>>=λal8=>
 (if al8=true then
 idx a0.ah 0>>=λagX=>
 cQ agX>>=λal9=>
 (if al9=true then
 idx a0.ah 1>>=λagY=>
 hU agY>>=λama=>
 (if ama=true then
 (if (a0.ah.length:Int)=3 then
 pP a0.ah (bq ((a0.ah.length:Int) - 1))>>=λaaS=>
 fO aaS>>=λFW=>
 some (.inr FW)
 else
 idx a0.ah 2>>=λagZ=>
 hU agZ>>=λFX=>
 (if FX=true then
 pP a0.ah (bq ((a0.ah.length:Int) - 1))>>=λaaT=>
 fO aaT>>=λS7=>
 some (.inr S7)
 else
 some (.inr false)))
 else
 some (.inr false))
 else
 some (.inr false))
 else
 some (.inr false))
 else
 some (.inr false))
 else
 (
 (if a0.aj=37 then
 some (a0.aj==37)
 else
 some (a0.aj==38))
 :Option (Bool))>>=λS8=>
 (if S8=true then
 (if a0.aq=([]:aB) then
 some (.inr ((a0.ah.length:Int)==0))
 else
 some (.inr false))
 else
 (if a0.aj=39 then
 (if a0.aq=([]:aB) then
 (if (a0.ah.length:Int)<=1 then
 cN a0.ah>>=λLr=>
 some (.inr Lr)
 else
 some (.inr false))
 else
 some (.inr false))
 else
 (if a0.aj=40 then
 bK a0.aq>>=λamc=>
 (if amc=true then
 some (.inr ((a0.ah.length:Int)==0))
 else
 some (.inr false))
 else
 (if a0.aj=41 then
 (if a0.aq=([]:aB) then
 (if (a0.ah.length:Int)=1 then
 idx a0.ah 0>>=λag0=>
 sH ag0>>=λamd=>
 some (.inr amd)
 else
 some (.inr false))
 else
 some (.inr false))
 else
 (if a0.aj=46 then
 (if a0.aq=([]:aB) then
 (if (a0.ah.length:Int)=1 then
 idx a0.ah (bq ((a0.ah.length:Int) - 1))>>=λag1=>
 cQ ag1>>=λame=>
 some (.inr ame)
 else
 (if (a0.ah.length:Int)=2 then
 idx a0.ah 0>>=λox=>
 hU ox>>=λFY=>
 (if FY=true then
 idx a0.ah (bq ((a0.ah.length:Int) - 1))>>=λag2=>
 cQ ag2>>=λamf=>
 some (.inr amf)
 else
 some (.inr false))
 else
 some (.inr false)))
 else
 some (.inr false))
 else
 (if a0.aj=47 then
 (if (a0.aq.length:Int)<=400 then
 some (.inr ((a0.ah.length:Int)==0))
 else
 some (.inr false))
 else
 (if a0.aj=48 then
 ((
 lL a0 0
 :Option ((Unit) ⊕ ((Unit) ⊕ Bool)))>>=λaaU=>match aaU with
 | .inr r=>some r
 | .inl _=>
 some (.inr (a0.aq==([]:aB)))
 )
 else
 (if a0.aj=43 then
 (if a0.aq=([]:aB) then
 vD a0.ah>>=λamg=>
 some (.inr amg)
 else
 some (.inr false))
 else
 some (.inl ()))))))))))))))
 :Option ((Unit) ⊕ Bool))>>=λag3=>match ag3 with
 | .inr r=>some r
 | .inl _=>
 some false
 )
 else
 some false)
partial_fixpoint
def fO (a0:List ae):Option (Bool):=
 ((
 lM a0 0
 :Option ((Unit) ⊕ Bool))>>=λaaV=>match aaV with
 | .inr r=>some r
 | .inl _=>
 some true
 )
partial_fixpoint
def vD (a0:List ae):Option (Bool):=
 (if (a0.length:Int)<2 then
 some false
 else
 R7 a0 1>>=λaaW=>
 fO aaW>>=λamh=>
 (if amh=true then
 pP a0 1>>=λQi=>
 ((
 idx Qi 0>>=λHC=>
 (if HC.aj=44 then
 (if HC.aP=0 then
 bK HC.aq>>=λaaX=>
 (if aaX=true then
 (if (HC.ah.length:Int)=2 then
 idx HC.ah 0>>=λTa=>
 hU Ta>>=λaaY=>
 (if aaY=true then
 pP HC.ah 1>>=λQj=>
 fO Qj>>=λBq=>
 (if Bq=true then
 pP Qi 1>>=λaaZ=>
 some (.inl aaZ)
 else
 some (.inr false))
 else
 some (.inr false))
 else
 some (.inr false))
 else
 some (.inr false))
 else
 some (.inr false))
 else
 some (.inl Qi))
 :Option (((List ae)) ⊕ Bool))>>=λag4=>match ag4 with
 | .inr r=>some r
 | .inl Ls=>
 (if (Ls.length:Int)=0 then
 some true
 else
 idx Ls 0>>=λyV=>
 (if (Ls.length:Int)=1 then
 (if yV.aj=45 then
 (if yV.aP=0 then
 (if yV.aq=([]:aB) then
 (if (yV.ah.length:Int)=1 then
 fO yV.ah>>=λQk=>
 some Qk
 else
 some false)
 else
 some false)
 else
 some false)
 else
 some false)
 else
 some false))
 )
 else
 some false))
partial_fixpoint
def sH (a0:ae):Option (Bool):=
 eX a0>>=λami=>
 (if ami=true then
 cQ a0>>=λamj=>
 some amj
 else
 some false)
partial_fixpoint
def lK (a0:ae) (FZ:Int):Option ((Unit) ⊕ ((Unit) ⊕ Bool)):=
 (if FZ<(a0.ah.length:Int) then
 idx a0.ah FZ>>=λQl=>
 (if Ql.aj=6 then
 (if Ql.aP=0 then
 (if Ql.aq=([]:aB) then
 R6 (Ql.ah.length:Int) 1 2>>=λv40=>
 (if v40=true then
 cN Ql.ah>>=λKS=>
 (if KS=true then
 lK a0 (bq (FZ+1))
 else
 some (.inr (.inr false)))
 else
 some (.inr (.inr false)))
 else
 some (.inr (.inr false)))
 else
 some (.inr (.inr false)))
 else
 some (.inr (.inr false)))
 else
 some (.inl ()))
partial_fixpoint
def jW (a0:List ae) (sI:Int):Option ((Unit) ⊕ Bool):=
 (if sI<(a0.length:Int) then
 idx a0 sI>>=λTb=>
 cQ Tb>>=λv183=>
 (if v183=true then
 jW a0 (bq (sI+1))
 else
 some (.inr false))
 else
 some (.inl ()))
partial_fixpoint
def lL (a0:ae) (sJ:Int):Option ((Unit) ⊕ ((Unit) ⊕ Bool)):=
 (if sJ<(a0.ah.length:Int) then
 idx a0.ah sJ>>=λTc=>
 dK Tc>>=λF8=>
 (if F8=true then
 lL a0 (bq (sJ+1))
 else
 some (.inr (.inr false)))
 else
 some (.inl ()))
partial_fixpoint
def lM (a0:List ae) (sK:Int):Option ((Unit) ⊕ Bool):=
 (if sK<(a0.length:Int) then
 idx a0 sK>>=λLu=>
 (if Lu.aj=48 then
 dK Lu>>=λaa0=>
 (if aa0=true then
 lM a0 (bq (sK+1))
 else
 some (.inr false))
 else
 some (.inr false))
 else
 some (.inl ()))
partial_fixpoint
end
def Td (a0:ae) (r:Bool):Prop:=La 72 a0 r
def Lv (a0:List ae) (r:Bool):Prop:=sg5 139 a0 r
def Te (a0:List ae) (a1:Bool) (r:Bool):Prop:=sg9 134 a0 a1 r
def Oe (a0:ae) (r:Bool):Prop:=La 68 a0 r
def Tf (a0:List ae) (r:Bool):Prop:=sg5 137 a0 r
def Tg (a0:List ae) (r:Bool):Prop:=sg5 141 a0 r
def Th (a0:ae) (r:Bool):Prop:=La 140 a0 r
inductive jX:ae->Int->((Unit) ⊕ ((Unit) ⊕ Bool))->Prop
 | mk (amk:(List ae)->Option (Bool)) (aGf:∀a0 r,amk a0=some r->Lv a0 r) (tC:ae->Int->Option ((Unit) ⊕ ((Unit) ⊕ Bool))) (Qm:∀a0 FZ o,tC a0 FZ=some o->jX a0 FZ o) (a0:ae) (FZ:Int) (o:(Unit) ⊕ ((Unit) ⊕ Bool)) (h:(
 (if FZ<(a0.ah.length:Int) then
 idx a0.ah FZ>>=λQl=>
 (if Ql.aj=6 then
 (if Ql.aP=0 then
 (if Ql.aq=([]:aB) then
 R6 (Ql.ah.length:Int) 1 2>>=λv40=>
 (if v40=true then
 amk Ql.ah>>=λKS=>
 (if KS=true then
 tC a0 (bq (FZ+1))
 else
 some (.inr (.inr false)))
 else
 some (.inr (.inr false)))
 else
 some (.inr (.inr false)))
 else
 some (.inr (.inr false)))
 else
 some (.inr (.inr false)))
 else
 some (.inl ()))
 )=some o):jX a0 FZ o
inductive iL:(List ae)->Int->((Unit) ⊕ Bool)->Prop
 | mk (G72:ae->Option (Bool)) (aGG:∀a0 r,G72 a0=some r->Td a0 r) (qw:(List ae)->Int->Option ((Unit) ⊕ Bool)) (Lw:∀a0 sI o,qw a0 sI=some o->iL a0 sI o) (a0:List ae) (sI:Int) (o:(Unit) ⊕ Bool) (h:(
 (if sI<(a0.length:Int) then
 idx a0 sI>>=λTb=>
 G72 Tb>>=λv183=>
 (if v183=true then
 qw a0 (bq (sI+1))
 else
 some (.inr false))
 else
 some (.inl ()))
 )=some o):iL a0 sI o
inductive jY:ae->Int->((Unit) ⊕ ((Unit) ⊕ Bool))->Prop
 | mk (G68:ae->Option (Bool)) (aBE:∀a0 r,G68 a0=some r->Oe a0 r) (tD:ae->Int->Option ((Unit) ⊕ ((Unit) ⊕ Bool))) (Qn:∀a0 sJ o,tD a0 sJ=some o->jY a0 sJ o) (a0:ae) (sJ:Int) (o:(Unit) ⊕ ((Unit) ⊕ Bool)) (h:(
 (if sJ<(a0.ah.length:Int) then
 idx a0.ah sJ>>=λTc=>
 G68 Tc>>=λF8=>
 (if F8=true then
 tD a0 (bq (sJ+1))
 else
 some (.inr (.inr false)))
 else
 some (.inl ()))
 )=some o):jY a0 sJ o
inductive jZ:(List ae)->Int->((Unit) ⊕ Bool)->Prop
 | mk (G68:ae->Option (Bool)) (aBE:∀a0 r,G68 a0=some r->Oe a0 r) (tE:(List ae)->Int->Option ((Unit) ⊕ Bool)) (Qo:∀a0 sK o,tE a0 sK=some o->jZ a0 sK o) (a0:List ae) (sK:Int) (o:(Unit) ⊕ Bool) (h:(
 (if sK<(a0.length:Int) then
 idx a0 sK>>=λLu=>
 (if Lu.aj=48 then
 G68 Lu>>=λaa0=>
 (if aa0=true then
 tE a0 (bq (sK+1))
 else
 some (.inr false))
 else
 some (.inr false))
 else
 some (.inl ()))
 )=some o):jZ a0 sK o
theorem DO:(∀a0 r,cQ a0=some r->Td a0 r)/\(∀a0 a1 r,kB a0 a1=some r->Te a0 a1 r)/\(∀a0 r,dK a0=some r->Oe a0 r)/\(∀a0 r,vD a0=some r->Tg a0 r)/\(∀a0 r,fO a0=some r->Tf a0 r)/\(∀a0 sK o,lM a0 sK=some o->jZ a0 sK o)/\(∀a0 sJ o,lL a0 sJ=some o->jY a0 sJ o)/\(∀a0 r,sH a0=some r->Th a0 r)/\(∀a0 r,cN a0=some r->Lv a0 r)/\(∀a0 sI o,jW a0 sI=some o->iL a0 sI o)/\(∀a0 FZ o,lK a0 FZ=some o->jX a0 FZ o):=by
 refine cQ.mutual_partial_correctness Td Te Oe Tg Tf jZ jY Th Lv iL jX ?_ ?_ ?_ ?_ ?_ ?_ ?_ ?_ ?_ ?_ ?_
 intro _ _ _ ag5 lX ag6 a0 r h
 refine eT Tryz.func72 ?_
 refine .d (.d ⟨rfl,rfl,_,rfl,(.d ⟨rfl,rfl,_,rfl,(.d ⟨rfl,rfl,_,rfl,?_⟩)⟩)⟩)
 obtain ⟨o1,h,gd⟩:=bd h
 refine .cut (λσ η=>.inl ()=o1/\σ=[]/\η=[]) ?_ ?_
 refine .d ⟨rfl,rfl,_,rfl,(.d (sE h (λwh h=>?_) (λwh h=>?_)))⟩
 refine .d ⟨rfl,rfl,_,rfl,(bk h λv5 hv6 h=>(cx (Lx hv6) (sV h (λzL h=>?_) (λzL h=>?_))))⟩
 refine .t (sE h (λKR h=>?_) (λKR h=>?_))
 refine .t (.t ?_)
 exact aJG
 refine .f (.f ?_)
 exact aJG
 refine .f (.f (.f (.f ?_)))
 exact aJG
 refine .d (sE h (λOa h=>?_) (λOa h=>?_))
 refine .d (sE h (λlH h=>?_) (λlH h=>?_))
 refine ⟨rfl,(.t ⟨rfl,_,rfl,(.t (.t (.t (sD h (λrC h=>?_) (λrC h=>?_)))))⟩)⟩
 refine .t (.t ?_)
 exact aJG
 refine .f (.f ?_)
 exact aJG
 refine .f (.f (.f (.f (.f (.f (.f ?_))))))
 exact aJG
 refine .d (sE h (λrF h=>?_) (λrF h=>?_))
 refine .d ⟨rfl,rfl,_,rfl,(bk h λrE wF h=>(cx (Lx wF) (sV h (λtW h=>?_) (λtW h=>?_))))⟩
 refine .t (sE h (λrD h=>?_) (λrD h=>?_))
 refine .t (.t ?_)
 exact aJG
 refine .f (.f ?_)
 exact aJG
 refine .f (.f (.f (.f ?_)))
 exact aJG
 refine .d (sE h (λtX h=>?_) (λtX h=>?_))
 refine .d ⟨rfl,_,rfl,(bk h λv18 ag7 h=>(cx (nJ ag7) ?_))⟩
 exact aJG
 refine .d (sE h (λAj h=>?_) (λAj h=>?_))
 obtain ⟨o21,h,Qp⟩:=bd h
 refine .cut (λσ η=>.inl ()=o21/\σ=[(4,.bool (a0.aP==0)),(5,.bool (a0.aq==([]:aB)))]/\η=[]) ?_ ?_
 refine .d ⟨rfl,rfl,_,rfl,?_⟩
 have ag8:=ag6 _ _ _ h
 refine le (jX.rec (motive:=λp48 FZ o46 _=>a0=p48->o21=o46->aQ _ _ [(4,.bool (a0.aP==0)),(5,.bool (a0.aq==([]:aB))),(63,sl 4 ae.cells a0.ah),(64,.int .i64 (a0.ah.length:Int)),(65,.int .i64 FZ)] []) ?_ ag8 rfl rfl) (tk [] ⟨.b,.b,.l,.i,.i,⟨⟩⟩ ⟨⟩)
 intro _ aBF _ _ p48 FZ o46 h ag9  Ly Ti
 subst Ly
 subst Ti
 refine aQ.round (.d (.d (sD h (λLd h=>?_) (λLd h=>?_))))
 refine .d (.d (bk h λQl Tj h=>⟨bn Tj,_,(ba Tj).trans (ae.aO Ql),rfl,_,_,rfl,ao,(.d ⟨rfl,rfl,_,rfl,(sN h (λLe h=>?_) (λLe h=>?_))⟩)⟩))
 refine .t (.t (.t (.t (.t (.t (.t (.t (.t (.t (.t (.t (.t (.t (.t ?_))))))))))))))
 refine .t (.t (.t (.t (.d ?_))))
 obtain rfl:=si h
 replace h:=Qp
 exact aJG
 refine ⟨rfl,(.f ⟨rfl,_,rfl,(.f (.f (sN h (λLf h=>?_) (λLf h=>?_))))⟩)⟩
 refine .t (.t (.t (.t (.t (.t (.t (.t (.t (.t (.t (.t (.t (.t (.t ?_))))))))))))))
 refine .d ?_
 obtain rfl:=si h
 replace h:=Qp
 exact aJG
 refine ⟨rfl,(.f ⟨rfl,_,rfl,(.f (.f (sEn h (λagu h=>?_) (λagu h=>?_))))⟩)⟩
 refine .t (.t (.t (.t (.t (.t (.t (.t (.t (.t (.t (.d ?_)))))))))))
 obtain rfl:=si h
 replace h:=Qp
 exact aJG
 refine ⟨rfl,(.f ⟨rfl,_,rfl,(.f (.f (bk h λv40 agv h=>(cx (Lx agv) (.f (.f (jj h (λagw h=>?_) (λagw h=>?_))))))))⟩)⟩
 refine .t (.t (.t (.t (.t (.d ?_)))))
 obtain rfl:=si h
 replace h:=Qp
 exact aJG
 refine ⟨rfl,(.f ⟨rfl,_,rfl,(.f (bk h λKS agx h=>(cx (aBF _ _ agx) (.f (.f (jj h (λagy h=>?_) (λagy h=>?_)))))))⟩)⟩
 refine .d ?_
 obtain rfl:=si h
 replace h:=Qp
 exact aJG
 exact lg (ag9 _ _ _ h rfl rfl) (tk [] ⟨.b,.b,.l,.i,.i,⟨⟩⟩ ⟨⟩)
 exact ct ⟨si h,rfl,rfl⟩ (tk [] ⟨.b,.b,⟨⟩⟩ ⟨⟩)
 rintro _ _ ⟨rfl,rfl,rfl⟩
 replace h:=Qp
 refine .d (sE h (λFM h=>?_) (λFM h=>?_))
 refine .t ?_
 exact aJG
 refine .f ?_
 exact aJG
 obtain ⟨o53,h,aBG⟩:=bd h
 refine .cut (λσ η=>∃b52,b52=o53/\σ=[(1,.aC 0 0 0 0),(3,.int .i64 (a0.ah.length:Int)),(4,.bool (a0.aP==0)),(5,.bool (a0.aq==([]:aB))),(18,.int .i64 a0.aj),(100,.bool b52)]/\η=[.row 0 4 1 29 (λ_=>a0.lit)]) ?_ ?_
 refine .d (sE h (λagA h=>?_) (λagA h=>?_))
 exact aKp
 refine .d (sE h (λaha h=>?_) (λaha h=>?_))
 exact aKp
 refine .d (sE h (λTl h=>?_) (λTl h=>?_))
 exact aKp
 exact aKp
 rintro _ _ ⟨b52,rfl,rfl,rfl⟩
 replace h:=aBG
 refine sV h (λahb h=>?_) (λahb h=>?_)
 refine .d (sE h (λahc h=>?_) (λahc h=>?_))
 refine .t (sE h (λTm h=>?_) (λTm h=>?_))
 refine .t (.t (sE h (λSG h=>?_) (λSG h=>?_)))
 refine ⟨rfl,(.t ⟨rfl,_,rfl,(.t (bk h λN9 agB h=>(cx (lX _ _ agB) (.t ?_))))⟩)⟩
 exact aJG
 refine .f (.f (.f ?_))
 exact aJG
 refine .f (.f (.f (.f (.f (.f ?_)))))
 exact aJG
 refine .f (.f (.f (.f (.f (.f (.f (.f ?_)))))))
 exact aJG
 refine .d (sE h (λSH h=>?_) (λSH h=>?_))
 refine .d (sE h (λTn h=>?_) (λTn h=>?_))
 refine ⟨rfl,(.t ⟨rfl,_,rfl,(.t (bk h λFV ahd h=>(cx (da ahd) (.t (sV h (λTo h=>?_) (λTo h=>?_))))))⟩)⟩
 refine .t (.t (sE h (λahe h=>?_) (λahe h=>?_)))
 refine ⟨rfl,(.t ⟨rfl,_,rfl,(.t (bk h λv71 ahf h=>(cx (lX _ _ ahf) (.t ?_))))⟩)⟩
 exact aJG
 refine .f (.f (.f ?_))
 exact aJG
 refine .f (.f (.f (.f (.f (.f ?_)))))
 exact aJG
 refine .f (.f (.f (.f (.f (.f (.f (.f (.f (.f ?_)))))))))
 exact aJG
 refine .d (sE h (λSI h=>?_) (λSI h=>?_))
 refine .d ⟨rfl,rfl,_,rfl,(sE h (λagD h=>?_) (λagD h=>?_))⟩
 refine .t (.t (.t (.t (.t (sE h (λaBH h=>?_) (λaBH h=>?_))))))
 refine .t (.t (sE h (λahg h=>?_) (λahg h=>?_)))
 refine ⟨rfl,(.t ⟨rfl,_,rfl,(.t (bk h λv77 aBI h=>(cx (lX _ _ aBI) (.t ?_))))⟩)⟩
 exact aJG
 refine .f (.f (.f ?_))
 exact aJG
 refine .f (.f (.f (.f (.f (.f ?_)))))
 exact aJG
 refine ⟨rfl,(.f ⟨rfl,_,rfl,(.f (.f (sE h (λTp h=>?_) (λTp h=>?_))))⟩)⟩
 refine .t (sE h (λaBJ h=>?_) (λaBJ h=>?_))
 refine .t (.t (sE h (λaBK h=>?_) (λaBK h=>?_)))
 refine ⟨rfl,(.t ⟨rfl,_,rfl,(.t (bk h λv82 Tq h=>(cx (lX _ _ Tq) (.t ?_))))⟩)⟩
 exact aJG
 refine .f (.f (.f ?_))
 exact aJG
 refine .f (.f (.f (.f (.f (.f ?_)))))
 exact aJG
 refine .f (.f (.f (.f (.f (.f (.f (.f ?_)))))))
 exact aJG
 refine .d (sE h (λahh h=>?_) (λahh h=>?_))
 refine .d ⟨rfl,rfl,_,rfl,(bk h λv85 Lz h=>(cx (Lx Lz) (sV h (λTr h=>?_) (λTr h=>?_))))⟩
 refine .t (sE h (λahi h=>?_) (λahi h=>?_))
 refine .t (.t (sE h (λaBL h=>?_) (λaBL h=>?_)))
 refine ⟨rfl,(.t ⟨rfl,_,rfl,(.t (bk h λv90 aBM h=>(cx (lX _ _ aBM) (.t ?_))))⟩)⟩
 exact aJG
 refine .f (.f (.f ?_))
 exact aJG
 refine .f (.f (.f (.f (.f (.f ?_)))))
 exact aJG
 refine .f (.f (.f (.f (.f (.f (.f (.f ?_)))))))
 exact aJG
 refine .d (sE h (λaBN h=>?_) (λaBN h=>?_))
 refine .d (sE h (λaBO h=>?_) (λaBO h=>?_))
 refine .t (sE h (λahj h=>?_) (λahj h=>?_))
 refine .t (.t (sE h (λTs h=>?_) (λTs h=>?_)))
 refine ⟨rfl,(.t ⟨rfl,_,rfl,(.t (bk h λv96 ahk h=>(cx (lX _ _ ahk) (.t ?_))))⟩)⟩
 exact aJG
 refine .f (.f (.f ?_))
 exact aJG
 refine .f (.f (.f (.f (.f (.f ?_)))))
 exact aJG
 refine .f (.f (.f (.f (.f (.f (.f (.f ?_)))))))
 exact aJG
 obtain ⟨o99,h,aml⟩:=bd h
 refine .cut (λσ η=>∃b98,b98=o99/\σ=[(1,.aC 0 0 0 0),(3,.int .i64 (a0.ah.length:Int)),(4,.bool (a0.aP==0)),(5,.bool (a0.aq==([]:aB))),(18,.int .i64 a0.aj),(189,.bool b98)]/\η=[.row 0 4 1 29 (λ_=>a0.lit)]) ?_ ?_
 refine .d (sE h (λHD h=>?_) (λHD h=>?_))
 exact aKp
 exact aKp
 rintro _ _ ⟨b98,rfl,rfl,rfl⟩
 replace h:=aml
 refine sV h (λHF h=>?_) (λHF h=>?_)
 refine .d (sE h (λHG h=>?_) (λHG h=>?_))
 refine .t (sE h (λamm h=>?_) (λamm h=>?_))
 refine .t (.t (sE h (λamn h=>?_) (λamn h=>?_)))
 refine ⟨rfl,(.t ⟨rfl,_,rfl,(.t (bk h λv107 amo h=>(cx (lX _ _ amo) (.t (sV h (λTt h=>?_) (λTt h=>?_))))))⟩)⟩
 refine ⟨rfl,(.t ⟨rfl,_,rfl,(.t (bk h λagQ aei h=>⟨bn aei,_,(ba aei).trans (ae.aO agQ),(.t (.t (bk h λSQ Tu h=>(cx (lI Tu) (.t ?_)))))⟩))⟩)⟩
 exact aJG
 refine .f (.f (.f (.f (.f ?_))))
 exact aJG
 refine .f (.f (.f (.f (.f (.f (.f (.f (.f ?_))))))))
 exact aJG
 refine .f (.f (.f (.f (.f (.f (.f (.f (.f (.f (.f (.f ?_)))))))))))
 exact aJG
 refine .f (.f (.f (.f (.f (.f (.f (.f (.f (.f (.f (.f (.f (.f ?_)))))))))))))
 exact aJG
 refine .d (sE h (λTv h=>?_) (λTv h=>?_))
 refine .d (sE h (λamp h=>?_) (λamp h=>?_))
 refine ⟨rfl,(.t ⟨rfl,_,rfl,(.t (bk h λal2 amq h=>(cx (da amq) (.t (sV h (λamr h=>?_) (λamr h=>?_))))))⟩)⟩
 refine .t (.t (sE h (λTw h=>?_) (λTw h=>?_)))
 refine ⟨rfl,(.t ⟨rfl,_,rfl,(.t (bk h λagR aej h=>⟨bn aej,_,(ba aej).trans (ae.aO agR),(.t (.t (bk h λSR ams h=>(cx (nJ ams) (.t ?_)))))⟩))⟩)⟩
 exact aJG
 refine .f (.f (.f (.f (.f ?_))))
 exact aJG
 refine .f (.f (.f (.f (.f (.f (.f (.f ?_)))))))
 exact aJG
 refine .f (.f (.f (.f (.f (.f (.f (.f (.f (.f (.f (.f ?_)))))))))))
 exact aJG
 refine .d (sE h (λamt h=>?_) (λamt h=>?_))
 refine .d (sE h (λTx h=>?_) (λTx h=>?_))
 refine ⟨rfl,(.t ⟨rfl,_,rfl,(.t (bk h λSS amu h=>(cx (da amu) (.t (sV h (λTy h=>?_) (λTy h=>?_))))))⟩)⟩
 refine ⟨rfl,(.t ⟨rfl,_,rfl,(.t (bk h λSU Tz h=>(cx (lX _ _ Tz) (.t ?_))))⟩)⟩
 exact aJG
 refine .f (.f (.f ?_))
 exact aJG
 refine .f (.f (.f (.f (.f (.f (.f ?_))))))
 exact aJG
 refine .d (sE h (λamv h=>?_) (λamv h=>?_))
 refine .d (sE h (λamw h=>?_) (λamw h=>?_))
 refine .t (sE h (λTA h=>?_) (λTA h=>?_))
 refine .t (.t (sD h (λTB h=>?_) (λTB h=>?_)))
 refine ⟨rfl,(.t ⟨rfl,_,rfl,(.t (bk h λSV amx h=>(cx (lX _ _ amx) (.t ?_))))⟩)⟩
 exact aJG
 refine .f (.f (.f ?_))
 exact aJG
 refine .f (.f (.f (.f (.f (.f ?_)))))
 exact aJG
 refine .f (.f (.f (.f (.f (.f (.f (.f ?_)))))))
 exact aJG
 refine .d (sE h (λamy h=>?_) (λamy h=>?_))
 refine .d (sE h (λamz h=>?_) (λamz h=>?_))
 refine ⟨rfl,(.t ⟨rfl,_,rfl,(.t (bk h λv139 amA h=>(cx (da amA) (.t (sV h (λamB h=>?_) (λamB h=>?_))))))⟩)⟩
 refine .t (.t (sD h (λamC h=>?_) (λamC h=>?_)))
 refine ⟨rfl,(.t ⟨rfl,_,rfl,(.t (bk h λv143 TC h=>(cx (lX _ _ TC) (.t ?_))))⟩)⟩
 exact aJG
 refine .f (.f (.f ?_))
 exact aJG
 refine .f (.f (.f (.f (.f (.f ?_)))))
 exact aJG
 refine .f (.f (.f (.f (.f (.f (.f (.f (.f (.f ?_)))))))))
 exact aJG
 refine .d (sE h (λTD h=>?_) (λTD h=>?_))
 refine .d (sE h (λTE h=>?_) (λTE h=>?_))
 refine ⟨rfl,(.t ⟨rfl,_,rfl,(.t (bk h λLq TF h=>(cx (DN TF) (.t (sV h (λTG h=>?_) (λTG h=>?_))))))⟩)⟩
 refine ⟨rfl,(.t ⟨rfl,_,rfl,(.t (bk h λSW amD h=>(cx (lX _ _ amD) (.t ?_))))⟩)⟩
 exact aJG
 refine .f (.f (.f ?_))
 exact aJG
 refine .f (.f (.f (.f (.f (.f (.f ?_))))))
 exact aJG
 refine .d (sE h (λamE h=>?_) (λamE h=>?_))
 refine .d (sE h (λTH h=>?_) (λTH h=>?_))
 refine ⟨rfl,(.t ⟨rfl,_,rfl,(.t (.t (sE h (λHH h=>?_) (λHH h=>?_))))⟩)⟩
 refine .t (.t (.t (.t (.t (.t ⟨rfl,(.t ⟨rfl,_,rfl,(.t (bk h λSX TJ h=>(cx (lX _ _ TJ) (.t ?_))))⟩)⟩)))))
 exact aJG
 refine ⟨rfl,(.f ⟨rfl,_,rfl,(.f (bk h λv157 amF h=>(cx (da amF) (.t (.f (.t (sV h (λamG h=>?_) (λamG h=>?_))))))))⟩)⟩
 refine ⟨rfl,(.t ⟨rfl,_,rfl,(.t (bk h λv160 amH h=>(cx (lX _ _ amH) (.t ?_))))⟩)⟩
 exact aJG
 refine .f (.f (.f ?_))
 exact aJG
 refine .f (.f (.f (.f (.f (.f (.f (.f (.f ?_))))))))
 exact aJG
 refine .d (sE h (λTK h=>?_) (λTK h=>?_))
 refine .d (sE h (λTL h=>?_) (λTL h=>?_))
 refine .t (sE h (λHI h=>?_) (λHI h=>?_))
 refine ⟨rfl,(.t ⟨rfl,_,rfl,(.t (bk h λHA TM h=>(cx (ag5 _ _ _ TM) (.t ?_))))⟩)⟩
 exact aJG
 refine .f (.f (.f ?_))
 exact aJG
 refine .f (.f (.f (.f (.f ?_))))
 exact aJG
 exact aKn
 rintro _ _ ⟨rfl,rfl,rfl⟩
 replace h:=gd
 exact aKo
 intro _ amI a0 a1 r h
 refine eT Tryz.func134 ?_
 refine .d (.d (.d (.d (sD h (λamJ h=>?_) (λamJ h=>?_)))))
 refine .t (.t (.t (.t (.t (.t (.t (.t (.t (.t (.t (.t (.t (.t (.d ?_))))))))))))))
 exact eB h
 refine .f (.f (bk h λagS aek h=>⟨bn aek,_,(ba aek).trans (ae.aO agS),(.f (.f (.f (.f (sN h (λamK h=>?_) (λamK h=>?_))))))⟩))
 exact .t (.t (.t (.t (.t (.t (.t (.d (eB h))))))))
 refine .f (.f (bk h λagT zM h=>⟨bn zM,_,(ba zM).trans (ae.aO agT),(.f (.f (bk h λQh TN h=>(cx (amI _ _ TN) (.f (.f (jj h (λTO h=>?_) (λTO h=>?_))))))))⟩))
 exact aKo
 refine .d ?_
 obtain ⟨SY,h,zN⟩:=bd h
 refine .cut (λσ η=>.inl ()=SY/\σ=[]/\η=[]) ?_ ?_
 refine .d (bk h λyU Ew h=>⟨trivial,Ga Ew,yU.length,row ae.cells yU,AS Ew,Gb Ew,?_⟩)
 refine le (iK.partial_correctness a1 yU (motive:=λLo Lp amL=>SY=amL->aQ _ _ [(1,.bool a1),(6,.bool Lo),(32,sl 4 ae.cells yU),(33,.int .i64 (yU.length:Int)),(34,.int .i64 Lp)] []) ?_ false 0 SY h rfl) (tk [] ⟨.b,.b,.l,.i,.i,⟨⟩⟩ ⟨⟩)
 intro aGH amM Lo Lp amL h amN
 subst amN
 refine aQ.round (.d (.d (sD h (λamO h=>?_) (λamO h=>?_))))
 refine .d (.d (bk h λFU ael h=>⟨bn ael,_,(ba ael).trans (ae.aO FU),rfl,_,_,rfl,ao,?_⟩))
 obtain ⟨agP,h,HJ⟩:=bd h
 refine .cut (λσ η=>∃SP,.inl SP=agP/\σ=[(1,.bool a1),(6,.bool SP),(8,.aC 0 0 0 0),(32,sl 4 ae.cells yU),(33,.int .i64 (yU.length:Int)),(34,.int .i64 Lp)]/\η=[.row 0 4 1 29 (λ_=>FU.lit)]) ?_ ?_
 refine .d ⟨rfl,rfl,_,rfl,(sE h (λTP h=>?_) (λTP h=>?_))⟩
 refine .t (sV h (λBr h=>?_) (λBr h=>?_))
 exact aKz
 refine .d ⟨rfl,rfl,_,rfl,(sN h (λamP h=>?_) (λamP h=>?_))⟩
 refine .t (.t (.d ?_))
 obtain rfl:=si h
 replace h:=HJ
 exact aJP
 refine .f (sV h (λamQ h=>?_) (λamQ h=>?_))
 refine .d ?_
 obtain rfl:=si h
 replace h:=HJ
 exact aJP
 exact aKz
 refine .f (.f (.d ⟨rfl,rfl,_,rfl,(sN h (λamR h=>?_) (λamR h=>?_))⟩))
 refine .t (.t (.d ?_))
 obtain rfl:=si h
 replace h:=HJ
 exact aJP
 refine .f (sV h (λamS h=>?_) (λamS h=>?_))
 refine .d ?_
 obtain rfl:=si h
 replace h:=HJ
 exact aJP
 exact aKz
 rintro _ _ ⟨SP,rfl,rfl,rfl⟩
 replace h:=HJ
 refine .d ⟨rfl,rfl,_,rfl,(bk h λv222 amT h=>(cx (Lx amT) (jj h (λamU h=>?_) (λamU h=>?_))))⟩
 refine .t (.t (.t (.t (.t (.t (.t (.t (.t (.t (.d ?_))))))))))
 exact aJP
 refine ⟨rfl,(.f ⟨rfl,_,rfl,(.f (bk h λal1 amV h=>(cx (da amV) (.f (.f (jj h (λTQ h=>?_) (λTQ h=>?_)))))))⟩)⟩
 refine .t (.t (.t (.t (.t (.d ?_)))))
 exact aJP
 refine ⟨rfl,(.f ⟨rfl,_,rfl,(.f (.f (.f (sD h (λTR h=>?_) (λTR h=>?_)))))⟩)⟩
 refine .d ?_
 exact aJP
 exact lg (amM _ _ _ h rfl) (tk [] ⟨.b,.b,.l,.i,.i,⟨⟩⟩ ⟨⟩)
 exact aKn
 rintro _ _ ⟨rfl,rfl,rfl⟩
 replace h:=zN
 exact aKo
 intro _ _ _ _ _ _ zO ahl uy amW ahm lX a0 r h
 refine eT Tryz.func68 ?_
 refine .d (.d ⟨rfl,rfl,_,rfl,(.d ⟨rfl,rfl,_,rfl,(.d (.d ⟨rfl,rfl,_,rfl,(sN h (λTS h=>?_) (λTS h=>?_))⟩))⟩)⟩)
 exact aKo
 obtain ⟨ag3,h,eA⟩:=bd h
 refine .cut (λσ η=>.inl ()=ag3/\σ=[]/\η=[]) ?_ ?_
 refine .d ⟨rfl,rfl,_,rfl,(.d (sE h (λTT h=>?_) (λTT h=>?_)))⟩
 refine .d (sEn h (λTU h=>?_) (λTU h=>?_))
 refine ⟨rfl,(.t ⟨rfl,_,rfl,(.t (bk h λSZ amX h=>(cx (wG amX) (.t (.t (jj h (λamY h=>?_) (λamY h=>?_)))))))⟩)⟩
 refine .t (.t ?_)
 exact aJH
 refine .f (.f ?_)
 exact aJH
 refine .f (.f (.f (.f (.f (.f (.f ?_))))))
 exact aJH
 obtain ⟨aBP,h,amZ⟩:=bd h
 refine .cut (λσ η=>∃S4,S4=aBP/\σ=[(1,.aC 0 0 0 0),(3,.int .i64 (a0.ah.length:Int)),(4,.bool (a0.aq==([]:aB))),(17,.int .i64 a0.aj),(32,.bool S4)]/\η=[.row 0 4 1 29 (λ_=>a0.lit)]) ?_ ?_
 refine .d (sE h (λam0 h=>?_) (λam0 h=>?_))
 exact aKr
 refine .d (sE h (λam1 h=>?_) (λam1 h=>?_))
 exact aKr
 exact aKr
 rintro _ _ ⟨S4,rfl,rfl,rfl⟩
 replace h:=amZ
 refine sV h (λTV h=>?_) (λTV h=>?_)
 refine .d (sE h (λTW h=>?_) (λTW h=>?_))
 refine .t (.t (sE h (λam2 h=>?_) (λam2 h=>?_)))
 refine ⟨rfl,(.t ⟨rfl,_,rfl,(.t (bk h λagU aem h=>⟨bn aem,_,(ba aem).trans (ae.aO agU),(.t (.t (bk h λal3 am3 h=>(cx (zO _ _ am3) (.t ?_)))))⟩))⟩)⟩
 exact aJH
 refine .f (.f (.f (.f (.f ?_))))
 exact aJH
 refine .f (.f (.f (.f (.f (.f (.f (.f ?_)))))))
 exact aJH
 refine .d (sE h (λam4 h=>?_) (λam4 h=>?_))
 refine .d (sE h (λam5 h=>?_) (λam5 h=>?_))
 refine .t (bk h λS6 TX h=>(cx (Lx TX) (.t (sV h (λTY h=>?_) (λTY h=>?_)))))
 refine ⟨rfl,(.t ⟨rfl,_,rfl,(.t (bk h λagV aen h=>⟨bn aen,_,(ba aen).trans (ae.aO agV),(.t (.t (bk h λal4 am6 h=>(cx (zO _ _ am6) (.t (sV h (λam7 h=>?_) (λam7 h=>?_)))))))⟩))⟩)⟩
 refine ⟨rfl,(.t ⟨rfl,_,rfl,(.t (bk h λqo TZ h=>⟨trivial,pQ TZ,qo.length,row ae.cells qo,nM TZ,nN TZ,(.t (bk h λal5 am8 h=>(cx (uy _ _ am8) (.t ?_))))⟩))⟩)⟩
 exact aJH
 refine .f (.f (.f (.f ?_)))
 exact aJH
 refine .f (.f (.f (.f (.f (.f (.f (.f (.f (.f ?_)))))))))
 exact aJH
 refine .f (.f (.f (.f (.f (.f (.f (.f (.f (.f (.f (.f (.f ?_))))))))))))
 exact aJH
 refine .d (sE h (λam9 h=>?_) (λam9 h=>?_))
 refine .d (sE h (λana h=>?_) (λana h=>?_))
 refine .t (.t (sE h (λanb h=>?_) (λanb h=>?_)))
 refine ⟨rfl,(.t ⟨rfl,_,rfl,(.t (bk h λagW aeo h=>⟨bn aeo,_,(ba aeo).trans (ae.aO agW),(.t (.t (bk h λal6 ane h=>(cx (zO _ _ ane) (.t (sV h (λanf h=>?_) (λanf h=>?_)))))))⟩))⟩)⟩
 refine ⟨rfl,(.t ⟨rfl,_,rfl,(.t (bk h λaaR T0 h=>⟨trivial,pQ T0,aaR.length,row ae.cells aaR,nM T0,nN T0,(.t (bk h λal7 ang h=>(cx (uy _ _ ang) (.t ?_))))⟩))⟩)⟩
 exact aJH
 refine .f (.f (.f (.f ?_)))
 exact aJH
 refine .f (.f (.f (.f (.f (.f (.f (.f (.f (.f ?_)))))))))
 exact aJH
 refine .f (.f (.f (.f (.f (.f (.f (.f (.f (.f (.f (.f (.f ?_))))))))))))
 exact aJH
 refine .d (sE h (λanh h=>?_) (λanh h=>?_))
 refine .d (sE h (λani h=>?_) (λani h=>?_))
 refine .t (bk h λal8 anj h=>(cx (Lx anj) (.t (sV h (λank h=>?_) (λank h=>?_)))))
 refine ⟨rfl,(.t ⟨rfl,_,rfl,(.t (bk h λagX aep h=>⟨bn aep,_,(ba aep).trans (ae.aO agX),(.t (.t (bk h λal9 anl h=>(cx (zO _ _ anl) (.t (sV h (λanm h=>?_) (λanm h=>?_)))))))⟩))⟩)⟩
 refine ⟨rfl,(.t ⟨rfl,_,rfl,(.t (bk h λagY aeq h=>⟨bn aeq,_,(ba aeq).trans (ae.aO agY),(.t (.t (bk h λama ann h=>(cx (nJ ann) (.t (sV h (λano h=>?_) (λano h=>?_)))))))⟩))⟩)⟩
 refine .t (.t (sE h (λHK h=>?_) (λHK h=>?_)))
 refine .t (.t (.t (.t (.t (.t (.t (.t ⟨rfl,(.t ⟨rfl,_,rfl,(.t (.t (.t (bk h λaaS Ex h=>?_))))⟩)⟩)))))))
 refine ⟨trivial,pQ Ex,aaS.length,row ae.cells aaS,nM Ex,nN Ex,(.t (bk h λFW T1 h=>(cx (uy _ _ T1) (.t ?_))))⟩
 exact aJH
 refine ⟨rfl,(.f ⟨rfl,_,rfl,(.f (bk h λagZ aer h=>⟨bn aer,_,(ba aer).trans (ae.aO agZ),(.f (.f (bk h λFX T2 h=>(cx (nJ T2) (.t (.f (.t (sV h (λT3 h=>?_) (λT3 h=>?_)))))))))⟩))⟩)⟩
 refine ⟨rfl,(.t ⟨rfl,_,rfl,(.t (.t (.t (bk h λaaT T4 h=>⟨trivial,pQ T4,aaT.length,row ae.cells aaT,nM T4,nN T4,(.t (bk h λS7 T5 h=>(cx (uy _ _ T5) (.t ?_))))⟩))))⟩)⟩
 exact aJH
 refine .f (.f (.f (.f (.f (.f ?_)))))
 exact aJH
 refine .f (.f (.f (.f (.f (.f (.f (.f (.f (.f (.f ?_))))))))))
 exact aJH
 refine .f (.f (.f (.f (.f (.f (.f (.f (.f (.f (.f (.f (.f (.f (.f ?_))))))))))))))
 refine .f (.f ?_)
 exact aJH
 refine .f (.f (.f (.f (.f (.f (.f (.f (.f (.f (.f (.f (.f (.f (.f ?_))))))))))))))
 refine .f (.f (.f (.f (.f (.f (.f (.f ?_)))))))
 exact aJH
 refine .f (.f (.f (.f (.f (.f (.f (.f (.f (.f (.f (.f (.f (.f (.f ?_))))))))))))))
 refine .f (.f (.f (.f (.f (.f (.f (.f (.f (.f (.f ?_))))))))))
 exact aJH
 obtain ⟨aBQ,h,anp⟩:=bd h
 refine .cut (λσ η=>∃S8,S8=aBQ/\σ=[(1,.aC 0 0 0 0),(3,.int .i64 (a0.ah.length:Int)),(4,.bool (a0.aq==([]:aB))),(17,.int .i64 a0.aj),(128,.bool S8)]/\η=[.row 0 4 1 29 (λ_=>a0.lit)]) ?_ ?_
 refine .d (sE h (λT6 h=>?_) (λT6 h=>?_))
 exact aKr
 exact aKr
 rintro _ _ ⟨S8,rfl,rfl,rfl⟩
 replace h:=anp
 refine sV h (λanq h=>?_) (λanq h=>?_)
 refine .d (sE h (λanr h=>?_) (λanr h=>?_))
 refine .t (.t ?_)
 exact aJH
 refine .f (.f ?_)
 exact aJH
 refine .d (sE h (λT7 h=>?_) (λT7 h=>?_))
 refine .d (sE h (λans h=>?_) (λans h=>?_))
 refine .t (.t (sD h (λant h=>?_) (λant h=>?_)))
 refine ⟨rfl,(.t ⟨rfl,_,rfl,(.t (bk h λLr T8 h=>(cx (lX _ _ T8) (.t ?_))))⟩)⟩
 exact aJH
 refine .f (.f (.f ?_))
 exact aJH
 refine .f (.f (.f (.f (.f (.f ?_)))))
 exact aJH
 refine .d (sE h (λanu h=>?_) (λanu h=>?_))
 refine .d ⟨rfl,rfl,_,rfl,(bk h λamc anv h=>(cx (da anv) (sV h (λanw h=>?_) (λanw h=>?_))))⟩
 refine .t (.t ?_)
 exact aJH
 refine .f (.f ?_)
 exact aJH
 refine .d (sE h (λanx h=>?_) (λanx h=>?_))
 refine .d (sE h (λanz h=>?_) (λanz h=>?_))
 refine .t (.t (sE h (λT9 h=>?_) (λT9 h=>?_)))
 refine ⟨rfl,(.t ⟨rfl,_,rfl,(.t (bk h λag0 aes h=>⟨bn aes,_,(ba aes).trans (ae.aO ag0),(.t (.t (bk h λamd anA h=>(cx (ahm _ _ anA) (.t ?_)))))⟩))⟩)⟩
 exact aJH
 refine .f (.f (.f (.f (.f ?_))))
 exact aJH
 refine .f (.f (.f (.f (.f (.f (.f (.f ?_)))))))
 exact aJH
 refine .d (sE h (λanB h=>?_) (λanB h=>?_))
 refine .d (sE h (λanC h=>?_) (λanC h=>?_))
 refine .t (.t (sE h (λanD h=>?_) (λanD h=>?_)))
 refine .t (.t (.t (.t (.t (.t (.t ⟨rfl,(.t ⟨rfl,_,rfl,(.t (.t (.t (bk h λag1 aet h=>⟨bn aet,_,(ba aet).trans (ae.aO ag1),?_⟩))))⟩)⟩))))))
 refine .t (.t (bk h λame anE h=>(cx (zO _ _ anE) (.t ?_))))
 exact aJH
 refine .f (.f (sE h (λUa h=>?_) (λUa h=>?_)))
 refine ⟨rfl,(.t ⟨rfl,_,rfl,(.t (bk h λox HL h=>⟨bn HL,_,(ba HL).trans (ae.aO ox),(.t (.t (bk h λFY anF h=>(cx (nJ anF) (.f (.t (.t (.f (.t ?_)))))))))⟩))⟩)⟩
 refine sV h (λanG h=>?_) (λanG h=>?_)
 refine ⟨rfl,(.t ⟨rfl,_,rfl,(.t (.t (.t (bk h λag2 aeu h=>⟨bn aeu,_,(ba aeu).trans (ae.aO ag2),(.t (.t (bk h λamf anH h=>(cx (zO _ _ anH) (.t ?_)))))⟩))))⟩)⟩
 exact aJH
 refine .f (.f (.f (.f (.f (.f (.f ?_))))))
 exact aJH
 refine .f (.f (.f (.f (.f (.f (.t (.f (.t (.f (.f (.f (.f (.f (.f ?_))))))))))))))
 refine .f (.f ?_)
 exact aJH
 refine .f (.f (.f (.f (.f (.f (.f (.f (.f (.f (.f (.f ?_)))))))))))
 exact aJH
 refine .d (sE h (λUb h=>?_) (λUb h=>?_))
 refine .d ⟨rfl,rfl,_,rfl,(sD h (λUc h=>?_) (λUc h=>?_))⟩
 refine .t (.t ?_)
 exact aJH
 refine .f (.f ?_)
 exact aJH
 refine .d (sE h (λHM h=>?_) (λHM h=>?_))
 obtain ⟨aaU,h,aev⟩:=bd h
 refine .cut (λσ η=>.inl ()=aaU/\σ=[(4,.bool (a0.aq==([]:aB)))]/\η=[]) ?_ ?_
 refine .d ⟨rfl,rfl,_,rfl,?_⟩
 have anI:=amW _ _ _ h
 refine le (jY.rec (motive:=λanJ sJ anK _=>a0=anJ->aaU=anK->aQ _ _ [(4,.bool (a0.aq==([]:aB))),(211,sl 4 ae.cells a0.ah),(212,.int .i64 (a0.ah.length:Int)),(213,.int .i64 sJ)] []) ?_ anI rfl rfl) (tk [] ⟨.b,.l,.i,.i,⟨⟩⟩ ⟨⟩)
 intro _ anL _ _ anJ sJ anK h anM  aa1 anN
 subst aa1
 subst anN
 refine aQ.round (.d (.d (sD h (λanO h=>?_) (λanO h=>?_))))
 refine .d (.d (bk h λTc aew h=>⟨bn aew,_,(ba aew).trans (ae.aO Tc),rfl,_,_,rfl,ao,(.d ⟨rfl,_,rfl,(bk h λF8 anP h=>(cx (anL _ _ anP) (jj h (λUd h=>?_) (λUd h=>?_))))⟩)⟩))
 refine .d ?_
 obtain rfl:=si h
 replace h:=aev
 exact aJH
 exact lg (anM _ _ _ h rfl rfl) (tk [] ⟨.b,.l,.i,.i,⟨⟩⟩ ⟨⟩)
 exact ct ⟨si h,rfl,rfl⟩ (tk [] ⟨.b,⟨⟩⟩ ⟨⟩)
 rintro _ _ ⟨rfl,rfl,rfl⟩
 replace h:=aev
 refine .d ?_
 exact aJH
 refine .d (sE h (λUe h=>?_) (λUe h=>?_))
 refine .d (sE h (λUf h=>?_) (λUf h=>?_))
 refine ⟨rfl,(.t ⟨rfl,_,rfl,(.t (bk h λamg anQ h=>(cx (ahl _ _ anQ) (.t ?_))))⟩)⟩
 exact aJH
 refine .f (.f (.f ?_))
 exact aJH
 exact aKn
 rintro _ _ ⟨rfl,rfl,rfl⟩
 replace h:=eA
 exact aKo
 intro _ uy a0 r h
 refine eT Tryz.func141 ?_
 refine .d (.d (.d (sD h (λanR h=>?_) (λanR h=>?_))))
 exact .t (.t (.t (.t (.t (.d (eB h))))))
 refine .f (bk h λaaW Ug h=>⟨trivial,Ga Ug,aaW.length,row ae.cells aaW,AS Ug,Gb Ug,(.f (bk h λamh anS h=>(cx (uy _ _ anS) (.f (.f (jj h (λanT h=>?_) (λanT h=>?_)))))))⟩)
 exact aKo
 refine .d (bk h λQi Uh h=>⟨trivial,pQ Uh,Qi.length,row ae.cells Qi,nM Uh,nN Uh,?_⟩)
 obtain ⟨ag4,h,Ey⟩:=bd h
 refine .cut (λσ η=>∃Ls,.inl Ls=ag4/\σ=[(3,sl 4 ae.cells Ls)]/\η=[]) ?_ ?_
 refine .d (bk h λHC aex h=>⟨bn aex,_,(ba aex).trans (ae.aO HC),rfl,_,_,rfl,ao,(.d ⟨rfl,rfl,_,rfl,(sE h (λanU h=>?_) (λanU h=>?_))⟩)⟩)
 refine .d (.d ⟨rfl,rfl,_,rfl,(sN h (λanV h=>?_) (λanV h=>?_))⟩)
 refine .t (.t (.t (.t (.t (.t (.t (.t (.t (.t (.t (.t (.t (.t (.t ?_))))))))))))))
 refine .t (.t (.t (.t (.t (.t (.t (.t (.d ?_))))))))
 exact aJR
 refine ⟨rfl,(.f ⟨rfl,_,rfl,(.f (bk h λaaX anW h=>(cx (da anW) (.f (.f (jj h (λanX h=>?_) (λanX h=>?_)))))))⟩)⟩
 refine .t (.t (.t (.t (.t (.t (.t (.t (.t (.t (.t (.t (.t (.t (.t ?_))))))))))))))
 refine .t (.t (.t (.d ?_)))
 exact aJR
 refine ⟨rfl,(.f ⟨rfl,_,rfl,(.f (.f (.f (sN h (λanY h=>?_) (λanY h=>?_)))))⟩)⟩
 refine .t (.t (.t (.t (.t (.t (.t (.t (.t (.t (.t (.t (.t (.d ?_)))))))))))))
 exact aJR
 refine ⟨rfl,(.f ⟨rfl,_,rfl,(.f (bk h λTa aey h=>⟨bn aey,_,(ba aey).trans (ae.aO Ta),(.f (.f (bk h λaaY anZ h=>(cx (nJ anZ) (.f (.f (jj h (λan0 h=>?_) (λan0 h=>?_))))))))⟩))⟩)⟩
 refine .t (.t (.t (.t (.t (.t (.d ?_))))))
 exact aJR
 refine ⟨rfl,(.f ⟨rfl,_,rfl,(.f (bk h λQj Ui h=>⟨trivial,pQ Ui,Qj.length,row ae.cells Qj,nM Ui,nN Ui,(.f (bk h λBq Uj h=>(cx (uy _ _ Uj) (.f (.f (jj h (λUk h=>?_) (λUk h=>?_)))))))⟩))⟩)⟩
 refine .d ?_
 exact aJR
 exact bk h λaaZ Ul h=>⟨trivial,pQ Ul,aaZ.length,row ae.cells aaZ,nM Ul,nN Ul,(ct ⟨_,si h,rfl,rfl⟩ (tk [] ⟨.l,⟨⟩⟩ ⟨⟩))⟩
 exact ct ⟨_,si h,rfl,rfl⟩ (tk [] ⟨.l,⟨⟩⟩ ⟨⟩)
 rintro _ _ ⟨Ls,rfl,rfl,rfl⟩
 replace h:=Ey
 refine .d (.d (sE h (λan1 h=>?_) (λan1 h=>?_)))
 exact aKo
 refine .d (bk h λyV aez h=>⟨bn aez,_,(ba aez).trans (ae.aO yV),rfl,_,_,rfl,ao,(.d (sE h (λan2 h=>?_) (λan2 h=>?_)))⟩)
 refine ⟨rfl,(.t ⟨rfl,_,rfl,(.t (.t (sE h (λan3 h=>?_) (λan3 h=>?_))))⟩)⟩
 refine ⟨rfl,(.t ⟨rfl,_,rfl,(.t (.t (sE h (λUm h=>?_) (λUm h=>?_))))⟩)⟩
 refine ⟨rfl,(.t ⟨rfl,_,rfl,(.t (.t (sE h (λan4 h=>?_) (λan4 h=>?_))))⟩)⟩
 refine ⟨rfl,(.t ⟨rfl,_,rfl,(.t (.t (.t (sE h (λan5 h=>?_) (λan5 h=>?_)))))⟩)⟩
 exact ⟨rfl,(.t ⟨rfl,_,rfl,(.t (bk h λQk an6 h=>(cx (uy _ _ an6) (.t (eB h)))))⟩)⟩
 exact aKE
 exact aKH
 exact .f (.f (.f (.f (.f (.f (.f (.f (.f (.f (.f (.f (eB h))))))))))))
 refine .f (.f (.f (.f (.f (.f (.f (.f (.f (.f (.f (.f (.f (.f (.f ?_))))))))))))))
 exact .f (eB h)
 refine .f (.f (.f (.f (.f (.f (.f (.f (.f (.f (.f (.f (.f (.f (.f ?_))))))))))))))
 exact .f (.f (.f (.f (.f (eB h)))))
 intro _ an7 a0 r h
 refine eT Tryz.func137 ?_
 refine .d ?_
 obtain ⟨aaV,h,Un⟩:=bd h
 refine .cut (λσ η=>.inl ()=aaV/\σ=[]/\η=[]) ?_ ?_
 refine .d ?_
 have an8:=an7 _ _ _ h
 refine le (jZ.rec (motive:=λan9 sK aoa _=>a0=an9->aaV=aoa->aQ _ _ [(5,sl 4 ae.cells a0),(6,.int .i64 (a0.length:Int)),(7,.int .i64 sK)] []) ?_ an8 rfl rfl) (tk [] ⟨.l,.i,.i,⟨⟩⟩ ⟨⟩)
 intro _ aob _ _ an9 sK aoa h aoc  aa2 aod
 subst aa2
 subst aod
 refine aQ.round (.d (.d (sD h (λaoe h=>?_) (λaoe h=>?_))))
 refine .d (.d (bk h λLu aeA h=>⟨bn aeA,_,(ba aeA).trans (ae.aO Lu),rfl,_,_,rfl,ao,(.d ⟨rfl,rfl,_,rfl,(sN h (λaof h=>?_) (λaof h=>?_))⟩)⟩))
 refine .t (.t (.t (.t (.d ?_))))
 obtain rfl:=si h
 replace h:=Un
 exact eB h
 refine ⟨rfl,_,rfl,(.f (bk h λaa0 aog h=>(cx (aob _ _ aog) (.f (.f (jj h (λaoh h=>?_) (λaoh h=>?_)))))))⟩
 refine .d ?_
 obtain rfl:=si h
 replace h:=Un
 exact eB h
 exact lg (aoc _ _ _ h rfl rfl) (tk [] ⟨.l,.i,.i,⟨⟩⟩ ⟨⟩)
 exact aKn
 rintro _ _ ⟨rfl,rfl,rfl⟩
 replace h:=Un
 exact aKo
 intro F0 F1 nK nL a0 sK o h
 exact .mk F0 nK F1 nL a0 sK o h
 intro F0 F1 nK nL a0 sJ o h
 exact .mk F0 nK F1 nL a0 sJ o h
 intro _ zO a0 r h
 refine eT Tryz.func140 ?_
 refine .d (.d ⟨rfl,_,rfl,(bk h λami aoi h=>(cx (lI aoi) (sV h (λaoj h=>?_) (λaoj h=>?_))))⟩)
 exact ⟨rfl,_,rfl,(.t (bk h λamj aok h=>(cx (zO _ _ aok) (.t (eB h)))))⟩
 exact .f (.f (eB h))
 intro _ aol a0 r h
 refine eT Tryz.func139 ?_
 refine .d ?_
 obtain ⟨aaQ,h,aeB⟩:=bd h
 refine .cut (λσ η=>.inl ()=aaQ/\σ=[]/\η=[]) ?_ ?_
 refine .d ?_
 have aom:=aol _ _ _ h
 refine le (iL.rec (motive:=λaon sI aoo _=>a0=aon->aaQ=aoo->aQ _ _ [(5,sl 4 ae.cells a0),(6,.int .i64 (a0.length:Int)),(7,.int .i64 sI)] []) ?_ aom rfl rfl) (tk [] ⟨.l,.i,.i,⟨⟩⟩ ⟨⟩)
 intro _ aop _ _ aon sI aoo h aoq  aa3 aor
 subst aa3
 subst aor
 refine aQ.round (.d (.d (sD h (λUo h=>?_) (λUo h=>?_))))
 refine .d (.d (bk h λTb aeC h=>⟨bn aeC,_,(ba aeC).trans (ae.aO Tb),rfl,_,_,rfl,ao,(.d ⟨rfl,_,rfl,(bk h λv183 Up h=>(cx (aop _ _ Up) (jj h (λaos h=>?_) (λaos h=>?_))))⟩)⟩))
 refine .d ?_
 obtain rfl:=si h
 replace h:=aeB
 exact eB h
 exact lg (aoq _ _ _ h rfl rfl) (tk [] ⟨.l,.i,.i,⟨⟩⟩ ⟨⟩)
 exact aKn
 rintro _ _ ⟨rfl,rfl,rfl⟩
 replace h:=aeB
 exact aKo
 intro F0 F1 nK nL a0 sI o h
 exact .mk F0 nK F1 nL a0 sI o h
 intro F0 F1 nK nL a0 FZ o h
 exact .mk F0 nK F1 nL a0 FZ o h
theorem HN {a0:ae} {r:Bool} (h:cQ a0=some r):La 72 a0 r:=DO.1 a0 r h
def pR (a0:ae):Option (Bool):=
 lJ a0>>=λv1=>
 (if v1=true then
 cQ a0>>=λv4=>
 some v4
 else
 some false)
theorem HO {a0:ae} {r:Bool} (h:pR a0=some r):La 31 a0 r:=by
 refine eT Tryz.func31 ?_
 unfold pR at h
 refine .d (.d ⟨rfl,_,rfl,(bk h λv1 rA h=>(cx (Bo rA) (sV h (λyE h=>?_) (λyE h=>?_))))⟩)
 exact ⟨rfl,_,rfl,(.t (bk h λv4 Hw h=>(cx (HN Hw) (.t (eB h)))))⟩
 exact .f (.f (eB h))
end Go.Am
