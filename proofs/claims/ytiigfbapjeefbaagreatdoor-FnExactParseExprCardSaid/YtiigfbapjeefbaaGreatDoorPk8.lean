/- Texts of the proof, joined and shortened. -/
import Derived.Test.YtiigfbapjeefbaaGreatDoorPk7
set_option linter.unusedVariables false
set_option linter.unusedSimpArgs false
set_option synthInstance.maxHeartbeats 400000
set_option synthInstance.maxSize 4000
set_option maxRecDepth 100000
set_option maxHeartbeats 8000000
namespace Go.Am
open Go Go.RowKit Go.Proofs
def dq (a1:Int) (uv:List af) (Sa:Int) (y27:Int) (y28:Int) (A3:List ae):Option (((List af)×Int×Int×Int×(List ae)) ⊕ ((List ae)×aA)):=
 (if y28<0 then
 (
 aE (aA.mk uv Sa y27 y28) [38]>>=λ(KS,D0)=>
 (if KS=true then
 some (D0.fT,D0.fI,D0.az,D0.ay,1)
 else
 some (D0.fT,D0.fI,D0.az,D0.ay,0))
 :Option ((List af)×Int×Int×Int×Int))>>=λ(l35,GD,y37,y38,y39)=>
 dw (aA.mk l35 GD y37 y38) 2>>=λ(wE,R8)=>
 db 56 A3 [(ae.mk a1 y39 wE ([]:List ae))]>>=λl50=>
 aE R8 [44]>>=λ(qn,v53)=>
 (if qn=true then
 dq a1 v53.fT v53.fI v53.az v53.ay l50
 else
 aR v53 [41]>>=λKW=>
 some (.inr (l50,KW)))
 else
 some (.inl (uv,Sa,y27,y28,A3)))
partial_fixpoint
def gW (a0:aA) (a1:Int) (a2:List ae):Option ((List ae)×aA):=
 aR a0 [40]>>=λv1=>
 ((
 (if a1=24 then
 aE v1 [41]>>=λ(v11,v12)=>
 (if v11=true then
 some (.inr (a2,v12))
 else
 some (.inl (v12.fT,v12.fI,v12.az,v12.ay)))
 else
 some (.inl (v1.fT,v1.fI,v1.az,v1.ay)))
 :Option (((List af)×Int×Int×Int) ⊕ ((List ae)×aA)))>>=λo7=>match o7 with
 | .inr r=>some r
 | .inl (l3,y4,y5,y6)=>
 ((
 dq a1 l3 y4 y5 y6 a2
 :Option (((List af)×Int×Int×Int×(List ae)) ⊕ ((List ae)×aA)))>>=λo22=>match o22 with
 | .inr r=>some r
 | .inl (QU,EZ,sw,wM,pt)=>
 some (pt,(aA.mk QU EZ sw wM))
 )
 )
theorem uT {a0:aA} {a1:Int} {a2:List ae} {r:(List ae)×aA} {g1000:Nat} {g1001:Nat} {eK:Nat} {gX:Nat->List PV} (h:gW a0 a1 a2=some r) (iR:DR ae.D eK gX a2):ACall Tryz.prog 117 [.aC 0 g1000 0 0,.int .i64 a1,.own 1 g1001 0 eK] [.row g1000 4 1 62 (λ_=>a0.lit),.row g1001 4 eK 29 gX] (λres h=>∃F2:Nat->List PV,DR ae.D r.1.length F2 r.1/\res=.own 2 0 0 r.1.length/\h=[.row g1000 4 1 62 (λ_=>r.2.lit),.dead,.row 0 4 r.1.length 29 F2]):=by
 obtain rfl:=iR.len
 refine eT Tryz.func117 ?_
 unfold gW at h
 refine .d (.d (bk h λv1 rA h=>(cb (bh (g1000:=g1000) rA) [0] ?_)))
 obtain ⟨o7,h,hk9⟩:=bd h
 refine .cut (λσ η=>∃l3,∃y4,∃y5,∃y6,.inl (l3,y4,y5,y6)=o7/\σ=[(0,.aC 0 g1000 0 0),(1,.int .i64 a1),(2,.own 2 0 0 a2.length)]/\η=[.row g1000 4 1 62 (λ_=>[sl 4 af.cells l3,.int .i64 y4,.int .i64 y5,.int .i64 y6]),.dead,.row 0 4 a2.length 29 gX]) ?_ ?_
 refine .d (sE h (λlH h=>?_) (λlH h=>?_))
 refine .t ?_
 obtain ⟨⟨v11,v12⟩,Qg,h⟩:=bd h
 refine cb (aV (g1000:=g1000) Qg) [0] ?_
 refine .t (sV h (λtV h=>?_) (λtV h=>?_))
 refine .d ?_
 obtain rfl:=si h
 replace h:=hk9
 obtain rfl:=si h
 exact en [0,1,1] ⟨gX,iR.self,rfl,rfl⟩ (.oe) ⟨(ob rfl ⟨.l,.i,.i,.i,⟨⟩⟩),dd,(bu iR),⟨⟩⟩
 exact ct ⟨_,_,_,_,si h,rfl,rfl⟩ (tk [0,1,1] ⟨.p,.i,.oe,⟨⟩⟩ ⟨(fM rfl),dd,(bu iR),⟨⟩⟩)
 exact .f (.f (.f (ct ⟨_,_,_,_,si h,rfl,rfl⟩ (tk [0,1,1] ⟨.p,.i,.oe,⟨⟩⟩ ⟨(fM rfl),dd,(bu iR),⟨⟩⟩))))
 rintro _ _ ⟨l3,y4,y5,y6,rfl,rfl,rfl⟩
 replace h:=hk9
 obtain ⟨o22,h,au1⟩:=bd h
 refine .cut (λσ η=>∃QU,∃EZ,∃sw,∃wM,∃pt,∃f20:Nat->List PV,DR ae.D pt.length f20 pt/\.inl (QU,EZ,sw,wM,pt)=o22/\σ=[(2,.own 2 0 0 pt.length)]/\η=[.row g1000 4 1 62 (λ_=>[sl 4 af.cells QU,.int .i64 EZ,.int .i64 sw,.int .i64 wM]),.dead,.row 0 4 pt.length 29 f20]) ?_ ?_
 refine le (dq.partial_correctness a1 (motive:=λuv Sa y27 y28 A3 o62=>∀f30:Nat->List PV,DR ae.D A3.length f30 A3->o22=o62->aQ _ _ [(0,.aC 0 g1000 0 0),(1,.int .i64 a1),(2,.own 2 0 0 A3.length)] [.row g1000 4 1 62 (λ_=>[sl 4 af.cells uv,.int .i64 Sa,.int .i64 y27,.int .i64 y28]),.dead,.row 0 4 A3.length 29 f30]) ?_ l3 y4 y5 y6 a2 o22 h gX iR rfl) (tk [0,1,2] ⟨.p,.i,.oe,⟨⟩⟩ ⟨(fM rfl),dd,(bu iR),⟨⟩⟩)
 intro F33 aDu uv Sa y27 y28 A3 o62 h f30 d31 aDv
 subst aDv
 refine aQ.round (.d (.d ⟨rfl,rfl,rfl,_,rfl,(sD h (λLd h=>?_) (λLd h=>?_))⟩))
 refine .d ⟨rfl,_,_,rfl,ao,?_⟩
 obtain ⟨o40,h,aDw⟩:=bd h
 refine .cut (λσ η=>∃l35,∃GD,∃y37,∃y38,∃y39,(l35,GD,y37,y38,y39)=o40/\σ=[(0,.aC 0 g1000 0 0),(1,.int .i64 a1),(2,.own 2 0 0 A3.length),(7,.aC 3 0 0 0)]/\η=[.row g1000 4 1 62 (λ_=>[sl 4 af.cells l35,.int .i64 GD,.int .i64 y37,.int .i64 y38]),.dead,.row 0 4 A3.length 29 f30,.row 0 4 1 29 (λ_=>[.int .i64 a1,.int .i64 y39,.str [],.own 4 0 0 0]),.row 0 4 0 29 (λ_=>[])]) ?_ ?_
 refine .d ?_
 obtain ⟨⟨KS,D0⟩,ajw,h⟩:=bd h
 refine cb (aV (g1000:=g1000) ajw) [0] ?_
 refine sV h (λLg h=>?_) (λLg h=>?_)
 exact ⟨rfl,rfl,_,_,rfl,ao,(ct ⟨_,_,_,_,_,si h,rfl,rfl⟩ (tk [0,1,2,3,8] ⟨.p,.i,.oe,.p,⟨⟩⟩ ⟨(fM rfl),dd,(bu d31),(nb rfl ⟨.i,.i,.s,.g,⟨⟩⟩),gh,⟨⟩⟩))⟩
 exact ct ⟨_,_,_,_,_,si h,rfl,rfl⟩ (tk [0,1,2,3,8] ⟨.p,.i,.oe,.p,⟨⟩⟩ ⟨(fM rfl),dd,(bu d31),(nb rfl ⟨.i,.i,.s,.g,⟨⟩⟩),gh,⟨⟩⟩)
 rintro _ _ ⟨l35,GD,y37,y38,y39,rfl,rfl,rfl⟩
 replace h:=aDw
 refine .d ?_
 obtain ⟨⟨wE,R8⟩,ajx,h⟩:=bd h
 refine cb (iS (g1000:=g1000) ajx) [0] ?_
 refine ⟨rfl,rfl,_,_,rfl,ao,(.d ⟨rfl,_,rfl,_,dx,(bk h λl50 Ms h=>(.fx ⟨rfl,rfl,(λ_ _=>rfl),DR.xA d31 Ms,l50.length,dV f30 A3.length [.int .i64 a1,.int .i64 y39,.str wE,.own 4 0 0 0],DR.ln d31 Ms,dE (DR.ln d31 Ms) ⟨.same _,.same _,.same _,.same _,trivial⟩,(.d ?_)⟩))⟩)⟩
 obtain ⟨⟨qn,v53⟩,L8,h⟩:=bd h
 refine cb (aV (g1000:=g1000) L8) [0] ?_
 refine jj h (λWX h=>?_) (λWX h=>?_)
 refine .d (bk h λKW aDx h=>(cb (bh (g1000:=g1000) aDx) [0] ?_))
 refine .d ?_
 obtain rfl:=si h
 replace h:=au1
 obtain rfl:=si h
 refine .ab 2 A3.length 3 4 _ (λ_=>rT (DR.lq d31 Ms) (DR.nil (D:=ae.D)).po) λF58=>?_
 have d59:=DR.jE d31 Ms (ae.bx (x:=(ae.mk a1 y39 wE ([]:List ae))) (F0:=F58) (DR.nil (D:=ae.D)))
 exact en [0,1,2] ⟨_,d59.self,rfl,rfl⟩ (.oe) ⟨(ob rfl ⟨.l,.i,.i,.i,⟨⟩⟩),dd,(bu d59),⟨⟩⟩
 refine .ab 2 A3.length 3 4 _ (λ_=>rT (DR.lq d31 Ms) (DR.nil (D:=ae.D)).po) λF60=>?_
 have d61:=DR.jE d31 Ms (ae.bx (x:=(ae.mk a1 y39 wE ([]:List ae))) (F0:=F60) (DR.nil (D:=ae.D)))
 exact lg (aDu _ _ _ _ _ _ h _ d61 rfl) (tk [0,1,2] ⟨.p,.i,.oe,⟨⟩⟩ ⟨(fM rfl),dd,(bu d61),⟨⟩⟩)
 exact ct ⟨_,_,_,_,_,f30,d31,si h,rfl,rfl⟩ (tk [0,1,2] ⟨.oe,⟨⟩⟩ ⟨(fM rfl),dd,(bu d31),⟨⟩⟩)
 rintro _ _ ⟨QU,EZ,sw,wM,pt,f20,d21,rfl,rfl,rfl⟩
 replace h:=au1
 refine .d ?_
 obtain rfl:=si h
 exact en [0,1,2] ⟨f20,d21.self,rfl,rfl⟩ (.oe) ⟨(ob rfl ⟨.l,.i,.i,.i,⟨⟩⟩),dd,(bu d21),⟨⟩⟩
mutual
def iT (a0:aA):Option (ae×aA):=
 aE a0 [93]>>=λ(v1,v2)=>
 (if v1=true then
 some ((ae.mk 5 0 [] []),v2)
 else
 ((
 eF v2.fT v2.fI v2.az v2.ay ([]:List ae) ([]:List ae)
 :Option (((List af)×Int×Int×Int×(List ae)×(List ae)) ⊕ (ae×aA)))>>=λDE=>match DE with
 | .inr r=>some r
 | .inl (l5,y6,y7,y8,l9,D1)=>
 some ((ae.mk 5 0 [] D1),(aA.mk l5 y6 y7 y8))
 ))
partial_fixpoint
def a7 (a0:aA):Option (ae×aA):=
 (if a0.fI>=(a0.fT.length:Int) then
 dh a0>>=λ(v95,v96)=>
 some (v95,v96)
 else
 idx a0.fT a0.fI>>=λBV=>
 (if BV.aj=4 then
 some ((ae.mk 1 BV.aP [] []),(aA.mk a0.fT (bq (a0.fI+1)) a0.az a0.ay))
 else
 (if BV.aj=5 then
 some ((ae.mk 2 0 BV.aq []),(aA.mk a0.fT (bq (a0.fI+1)) a0.az a0.ay))
 else
 (if BV.aj=2 then
 gG a0>>=λ(v105,Ic)=>
 some (v105,Ic)
 else
 aE a0 [110,117,108,108]>>=λ(Vp,LJ)=>
 (if Vp=true then
 some ((ae.mk 3 0 [] []),LJ)
 else
 aE LJ [102,97,108,115,101]>>=λ(Ie,Ge)=>
 (if Ie=true then
 some ((ae.mk 3 1 [] []),Ge)
 else
 aE Ge [116,114,117,101]>>=λ(au2,Qw)=>
 (if au2=true then
 some ((ae.mk 3 2 [] []),Qw)
 else
 aE Qw [91]>>=λ(SR,LK)=>
 (if SR=true then
 iT LK>>=λ(SS,v127)=>
 some (SS,v127)
 else
 aE LK [40]>>=λ(v131,ajy)=>
 (if v131=true then
 bp ajy>>=λ(SV,Vq)=>
 aR Vq [41]>>=λVr=>
 some (SV,Vr)
 else
 aE ajy [110,101,119]>>=λ(au3,v143)=>
 (if au3=true then
 aE v143 [115,116,97,116,105,99]>>=λ(v146,Lq)=>
 (if v146=true then
 dS Lq ([]:List ae)>>=λ(Qy,v159)=>
 some ((ae.mk 22 0 [115,116,97,116,105,99] Qy),v159)
 else
 dw Lq 3>>=λ(SW,Qx)=>
 dS Qx ([]:List ae)>>=λ(au4,v154)=>
 some ((ae.mk 22 0 SW au4),v154))
 else
 aE v143 [102,117,110,99,116,105,111,110]>>=λ(au5,v164)=>
 (if au5=true then
 gW v164 24 ([]:List ae)>>=λ(v167,v168)=>
 aE v168 [117,115,101]>>=λ(au6,v173)=>
 (if au6=true then
 gW v173 25 v167>>=λ(acp,HQ)=>
 cO HQ>>=λ(Mt,v182)=>
 db 56 acp [Mt]>>=λajz=>
 some ((ae.mk 23 0 [] ajz),v182)
 else
 cO v173>>=λ(DT,au7)=>
 db 56 v167 [DT]>>=λajA=>
 some ((ae.mk 23 0 [] ajA),au7))
 else
 ((
 aE v164 [115,116,97,116,105,99]>>=λ(au8,v208)=>
 (if au8=true then
 some (.inl (v208.fT,v208.fI,v208.az,v208.ay,[115,116,97,116,105,99]))
 else
 dw v208 3>>=λ(ajB,v212)=>
 bE v212 0 6 [40]>>=λ(HR,sQ)=>
 (if HR=true then
 dS sQ ([]:List ae)>>=λ(v218,Vs)=>
 some (.inr ((ae.mk 18 0 ajB v218),Vs))
 else
 some (.inl (sQ.fT,sQ.fI,sQ.az,sQ.ay,ajB))))
 :Option (((List af)×Int×Int×Int×aB) ⊕ (ae×aA)))>>=λajC=>match ajC with
 | .inr r=>some r
 | .inl (XG,XH,XI,XJ,XK)=>
 aR (aA.mk XG XH XI XJ) [58,58]>>=λau9=>
 sF XK [58,58]>>=λajD=>
 dw au9 3>>=λ(v227,v228)=>
 sF ajD v227>>=λajE=>
 dS v228 ([]:List ae)>>=λ(v232,v233)=>
 some ((ae.mk 21 0 ajE v232),v233)
 ))))))))))))
partial_fixpoint
def mV (a0:aA):Option (ae×aA):=
 gm a0 true>>=λ(SZ,ava)=>
 some (SZ,ava)
partial_fixpoint
def gm (a0:aA) (a1:Bool):Option (ae×aA):=
 a7 a0>>=λ(XL,Gp)=>
 ((
 aZ a1 Gp.fT Gp.fI Gp.az Gp.ay ([]:List ae) XL.aj XL.aP XL.aq XL.ah
 :Option (((List af)×Int×Int×Int×(List ae)×Int×Int×aB×(List ae)) ⊕ (ae×aA)))>>=λacq=>match acq with
 | .inr r=>some r
 | .inl (BW,BX,BY,BZ,D2,B1,B2,B3,xY)=>
 some ((ae.mk B1 B2 B3 xY),(aA.mk BW BX BY BZ))
 )
partial_fixpoint
def ff (a0:aA):Option (ae×aA):=
 aE a0 [33]>>=λ(avb,ajF)=>
 (if avb=true then
 ff ajF>>=λ(ajG,avc)=>
 some ((ae.mk 9 1 [] ([ajG]:List ae)),avc)
 else
 aE ajF [45]>>=λ(LO,vV)=>
 (if LO=true then
 ff vV>>=λ(Ih,avd)=>
 some ((ae.mk 9 2 [] ([Ih]:List ae)),avd)
 else
 mV vV>>=λ(ave,avf)=>
 some (ave,avf)))
partial_fixpoint
def cj (a0:aA) (a1:Int):Option (ae×aA):=
 (if a1=11 then
 ff a0>>=λ(avg,avh)=>
 some (avg,avh)
 else
 cj a0 (bq (a1+1))>>=λ(XM,XN)=>
 ((
 aJ a1 XN.fT XN.fI XN.az XN.ay ([]:List ae) XM.aj XM.aP XM.aq XM.ah
 :Option (((List af)×Int×Int×Int×(List ae)×Int×Int×aB×(List ae)) ⊕ (ae×aA)))>>=λacr=>match acr with
 | .inr r=>some r
 | .inl (XO,XP,XR,XS,Mv,XT,XU,XV,Jg)=>
 some ((ae.mk XT XU XV Jg),(aA.mk XO XP XR XS))
 ))
partial_fixpoint
def eH (a0:aA):Option (ae×aA):=
 cj a0 4>>=λ(acs,avi)=>
 aE avi [63,63]>>=λ(avj,ajH)=>
 (if avj=true then
 eH ajH>>=λ(ajI,avk)=>
 some ((ae.mk 13 0 [] ([acs,ajI]:List ae)),avk)
 else
 some (acs,ajH))
partial_fixpoint
def iU (a0:aA):Option (ae×aA):=
 eH a0>>=λ(acu,avl)=>
 aE avl [63]>>=λ(avm,ajJ)=>
 (if avm=true then
 bp ajJ>>=λ(ajK,avn)=>
 aR avn [58]>>=λavo=>
 iU avo>>=λ(ajL,avp)=>
 some ((ae.mk 14 0 [] ([acu,ajK,ajL]:List ae)),avp)
 else
 some (acu,ajJ))
partial_fixpoint
def bp (a0:aA):Option (ae×aA):=
 iU a0>>=λ(Mw,avq)=>
 bE avq 0 6 [61]>>=λ(avr,Jh)=>
 (if avr=true then
 eW Mw>>=λavs=>
 (if avs=true then
 bE (aA.mk Jh.fT (bq (Jh.fI+1)) Jh.az Jh.ay) 0 6 [38]>>=λ(avt,Ji)=>
 (if avt=true then
 (if Mw.aj=4 then
 (if Jh.fI=(bq (a0.fI+1)) then
 gG (aA.mk Ji.fT (bq (Ji.fI+1)) Ji.az Ji.ay)>>=λ(xR,avu)=>
 some ((ae.mk 17 0 Mw.aq ([xR]:List ae)),avu)
 else
 dh Ji>>=λ(L0,wR)=>
 some (L0,wR))
 else
 dh Ji>>=λ(avv,avw)=>
 some (avv,avw))
 else
 bp Ji>>=λ(ajM,avx)=>
 some ((ae.mk 15 0 [] ([Mw,ajM]:List ae)),avx))
 else
 dh Jh>>=λ(avy,avz)=>
 some (avy,avz))
 else
 some (Mw,Jh))
partial_fixpoint
def cO (a0:aA):Option (ae×aA):=
 aR a0 [123]>>=λXW=>
 (
 dj XW.fT XW.fI XW.az XW.ay ([]:List ae) ([]:List ae)
 :Option ((List af)×Int×Int×Int×(List ae)×(List ae)))>>=λ(XX,BA,XY,XZ,Mx,Jj)=>
 some ((ae.mk 48 0 [] Jj),(aA.mk XX BA XY XZ))
partial_fixpoint
def mW (a0:aA):Option (ae×aA):=
 aR a0 [40]>>=λavA=>
 bp avA>>=λ(avB,V5)=>
 aR V5 [41]>>=λavC=>
 some (avB,avC)
partial_fixpoint
def nU (a0:aA):Option (ae×aA):=
 mW a0>>=λ(Av,avD)=>
 (
 cO avD>>=λ(My,QV)=>
 some (QV.fT,QV.fI,QV.az,QV.ay,([Av,My]:List ae))
 :Option ((List af)×Int×Int×Int×(List ae)))>>=λ(X0,BB,X1,X2,Mz)=>
 aE (aA.mk X0 BB X1 X2) [101,108,115,101]>>=λ(acv,QW)=>
 (if acv=true then
 aE QW [105,102]>>=λ(acw,QX)=>
 (if acw=true then
 nU QX>>=λ(QY,acx)=>
 db 56 Mz [(ae.mk 48 0 [] ([QY]:List ae))]>>=λX3=>
 some ((ae.mk 34 0 [] X3),acx)
 else
 cO QX>>=λ(GF,acy)=>
 db 56 Mz [GF]>>=λX4=>
 some ((ae.mk 34 0 [] X4),acy))
 else
 some ((ae.mk 34 0 [] Mz),QW))
partial_fixpoint
def mX (a0:aA):Option (ae×aA):=
 aR a0 [40]>>=λavE=>
 bp avE>>=λ(B4,avF)=>
 aR avF [97,115]>>=λBI=>
 gG BI>>=λ(AA,L1)=>
 db 56 ([B4]:List ae) [AA]>>=λQZ=>
 (
 aE L1 [61,62]>>=λ(Q0,ug)=>
 (if Q0=true then
 gG ug>>=λ(B5,w9)=>
 db 56 QZ [B5]>>=λMA=>
 some (w9.fT,w9.fI,w9.az,w9.ay,MA)
 else
 some (ug.fT,ug.fI,ug.az,ug.ay,QZ))
 :Option ((List af)×Int×Int×Int×(List ae)))>>=λ(X5,X6,X7,X8,D3)=>
 aR (aA.mk X5 X6 X7 X8) [41]>>=λavG=>
 cO avG>>=λ(MB,avH)=>
 db 56 D3 [MB]>>=λajN=>
 some ((ae.mk 36 0 [] ajN),avH)
partial_fixpoint
def nV (a0:aA):Option (ae×aA):=
 cO a0>>=λ(wK,avI)=>
 (
 aE avI [99,97,116,99,104]>>=λ(acz,AB)=>
 (if acz=true then
 aR AB [40]>>=λacA=>
 dw acA 3>>=λ(Q1,acB)=>
 gG acB>>=λ(Q2,acC)=>
 aR acC [41]>>=λacD=>
 cO acD>>=λ(Q3,D4)=>
 db 56 ([wK]:List ae) [(ae.mk 44 0 Q1 ([Q2,Q3]:List ae))]>>=λX9=>
 some (D4.fT,D4.fI,D4.az,D4.ay,X9)
 else
 some (AB.fT,AB.fI,AB.az,AB.ay,([wK]:List ae)))
 :Option ((List af)×Int×Int×Int×(List ae)))>>=λ(Ya,BC,Yb,Yc,zf)=>
 aE (aA.mk Ya BC Yb Yc) [102,105,110,97,108,108,121]>>=λ(avJ,acE)=>
 (if avJ=true then
 cO acE>>=λ(Q4,ajO)=>
 db 56 zf [(ae.mk 45 0 [] ([Q4]:List ae))]>>=λacF=>
 (if (acF.length:Int)=1 then
 dh ajO>>=λ(avK,avL)=>
 some (avK,avL)
 else
 some ((ae.mk 43 0 [] acF),ajO))
 else
 (if (zf.length:Int)=1 then
 dh acE>>=λ(avM,avN)=>
 some (avM,avN)
 else
 some ((ae.mk 43 0 [] zf),acE)))
partial_fixpoint
def bc (a0:aA):Option (ae×aA):=
 bE a0 0 1 []>>=λ(L3,Jk)=>
 (if L3=true then
 idx Jk.fT (bq ((bq (Jk.fI+1)) - 1))>>=λajP=>
 some ((ae.mk 31 0 ajP.aq []),(aA.mk Jk.fT (bq (Jk.fI+1)) Jk.az Jk.ay))
 else
 bE Jk 0 6 [123]>>=λ(avO,IV)=>
 (if avO=true then
 cO IV>>=λ(avP,IW)=>
 some (avP,IW)
 else
 aE IV [105,102]>>=λ(avQ,xS)=>
 (if avQ=true then
 nU xS>>=λ(avR,avS)=>
 some (avR,avS)
 else
 aE xS [119,104,105,108,101]>>=λ(avT,DZ)=>
 (if avT=true then
 mW DZ>>=λ(IX,wX)=>
 cO wX>>=λ(wY,avU)=>
 some ((ae.mk 35 0 [] ([IX,wY]:List ae)),avU)
 else
 aE DZ [102,111,114,101,97,99,104]>>=λ(avV,ajQ)=>
 (if avV=true then
 mX ajQ>>=λ(avW,avX)=>
 some (avW,avX)
 else
 aE ajQ [116,114,121]>>=λ(avY,ajR)=>
 (if avY=true then
 nV ajR>>=λ(avZ,av0)=>
 some (avZ,av0)
 else
 aE ajR [101,99,104,111]>>=λ(av1,ajS)=>
 (if av1=true then
 bp ajS>>=λ(ajT,av2)=>
 aR av2 [59]>>=λav3=>
 some ((ae.mk 32 0 [] ([ajT]:List ae)),av3)
 else
 aE ajS [98,114,101,97,107]>>=λ(av4,ajU)=>
 (if av4=true then
 aR ajU [59]>>=λwL=>
 some ((ae.mk 37 0 [] []),wL)
 else
 aE ajU [99,111,110,116,105,110,117,101]>>=λ(av5,Iq)=>
 (if av5=true then
 aR Iq [59]>>=λav6=>
 some ((ae.mk 38 0 [] []),av6)
 else
 aE Iq [114,101,116,117,114,110]>>=λ(zb,ajV)=>
 (if zb=true then
 bE ajV 0 6 [59]>>=λ(Wm,ajW)=>
 (if Wm=true then
 aR ajW [59]>>=λav7=>
 some ((ae.mk 39 0 [] []),av7)
 else
 bp ajW>>=λ(ajX,Wn)=>
 aR Wn [59]>>=λav8=>
 some ((ae.mk 39 0 [] ([ajX]:List ae)),av8))
 else
 aE ajV [103,108,111,98,97,108]>>=λ(Wo,ajY)=>
 (if Wo=true then
 dw ajY 2>>=λ(Wp,QI)=>
 aR QI [59]>>=λav9=>
 some ((ae.mk 40 0 Wp []),av9)
 else
 aE ajY [117,110,115,101,116]>>=λ(Wq,Yd)=>
 (if Wq=true then
 aR Yd [40]>>=λIr=>
 gm Ir false>>=λ(BD,BE)=>
 eW BD>>=λIs=>
 (if Is=true then
 aR BE [41]>>=λED=>
 aR ED [59]>>=λaft=>
 some ((ae.mk 41 0 [] ([BD]:List ae)),aft)
 else
 dh BE>>=λ(It,afu)=>
 some (It,afu))
 else
 aE Yd [116,104,114,111,119]>>=λ(afv,Ye)=>
 (if afv=true then
 bp Ye>>=λ(Yf,afw)=>
 aR afw [59]>>=λafx=>
 some ((ae.mk 42 0 [] ([Yf]:List ae)),afx)
 else
 aE Ye [121,105,101,108,100]>>=λ(afy,EE)=>
 (if afy=true then
 bp EE>>=λ(Yg,Iu)=>
 aR Iu [59]>>=λBF=>
 some ((ae.mk 46 0 [] ([Yg]:List ae)),BF)
 else
 (
 bE EE 0 2 []>>=λ(O6,tJ)=>
 (if O6=true then
 bE tJ 1 6 [61]>>=λ(tF,pX)=>
 (if tF=true then
 bE pX 2 3 [121,105,101,108,100]>>=λ(O7,wq)=>
 some (wq.fT,wq.fI,wq.az,wq.ay,O7)
 else
 some (pX.fT,pX.fI,pX.az,pX.ay,false))
 else
 some (tJ.fT,tJ.fI,tJ.az,tJ.ay,false))
 :Option ((List af)×Int×Int×Int×Bool))>>=λ(E1,E2,E3,E4,Jl)=>
 (if Jl=true then
 gG (aA.mk E1 E2 E3 E4)>>=λ(Yh,tG)=>
 sA (tG.fT.length:Int) (bq (tG.fI+2))>>=λafz=>
 bp (aA.mk tG.fT afz tG.az tG.ay)>>=λ(Yi,afA)=>
 aR afA [59]>>=λIy=>
 some ((ae.mk 46 0 [] ([Yh,Yi]:List ae)),Iy)
 else
 aE (aA.mk E1 E2 E3 E4) [105,110,99,108,117,100,101]>>=λ(Iz,Yj)=>
 (if Iz=true then
 bE Yj 0 5 []>>=λ(IE,zU)=>
 (if IE=true then
 idx zU.fT (bq ((bq (zU.fI+1)) - 1))>>=λYk=>
 aR (aA.mk zU.fT (bq (zU.fI+1)) zU.az zU.ay) [59]>>=λafB=>
 some ((ae.mk 47 0 Yk.aq []),afB)
 else
 dh zU>>=λ(IF,IG)=>
 some (IF,IG))
 else
 bp Yj>>=λ(Yl,II)=>
 aR II [59]>>=λafC=>
 some ((ae.mk 33 0 [] ([Yl]:List ae)),afC)))))))))))))))))
partial_fixpoint
def dS (a0:aA) (a1:List ae):Option ((List ae)×aA):=
 aR a0 [40]>>=λafD=>
 aE afD [41]>>=λ(afE,E5)=>
 (if afE=true then
 some (a1,E5)
 else
 ((
 dT E5.fT E5.fI E5.az E5.ay a1
 :Option (((List af)×Int×Int×Int×(List ae)) ⊕ ((List ae)×aA)))>>=λO8=>match O8 with
 | .inr r=>some r
 | .inl (Jm,Jn,Jo,Jp,zV)=>
 some (zV,(aA.mk Jm Jn Jo Jp))
 ))
partial_fixpoint
def eF (Jq:List af) (Jr:Int) (wu:Int) (qp:Int) (zg:List ae) (uv:List ae):Option (((List af)×Int×Int×Int×(List ae)×(List ae)) ⊕ (ae×aA)):=
 (if qp<0 then
 bp (aA.mk Jq Jr wu qp)>>=λ(wE,R8)=>
 (
 aE R8 [61,62]>>=λ(N9,A4)=>
 (if N9=true then
 bp A4>>=λ(FV,E6)=>
 db 56 ([wE]:List ae) [FV]>>=λl73=>
 some (E6.fT,E6.fI,E6.az,E6.ay,l73)
 else
 some (A4.fT,A4.fI,A4.az,A4.ay,([wE]:List ae)))
 :Option ((List af)×Int×Int×Int×(List ae)))>>=λ(l52,y53,y54,Hl,Q5)=>
 db 56 uv [(ae.mk 6 0 [] Q5)]>>=λl78=>
 aE (aA.mk l52 y53 y54 Hl) [44]>>=λ(v80,AY)=>
 (if v80=true then
 eF AY.fT AY.fI AY.az AY.ay zg l78
 else
 aR AY [93]>>=λO9=>
 some (.inr ((ae.mk 5 0 [] l78),O9)))
 else
 some (.inl (Jq,Jr,wu,qp,zg,uv)))
partial_fixpoint
def aZ (a1:Bool) (qo:List af) (uU:Int) (uV:Int) (sU:Int) (lh:List ae) (gy:Int) (gz:Int) (gA:aB) (fQ:List ae):Option (((List af)×Int×Int×Int×(List ae)×Int×Int×aB×(List ae)) ⊕ (ae×aA)):=
 (if sU<0 then
 aE (aA.mk qo uU uV sU) [91]>>=λ(acG,wJ)=>
 (if acG=true then
 (if a1=true then
 eW (ae.mk gy gz gA fQ)>>=λGq=>
 (if Gq=true then
 aE wJ [93]>>=λ(LA,za)=>
 (if LA=true then
 aR za [61]>>=λacH=>
 bp acH>>=λ(HV,acI)=>
 some (.inr ((ae.mk 16 0 [] ([(ae.mk gy gz gA fQ),HV]:List ae)),acI))
 else
 bp za>>=λ(Ym,Lr)=>
 aR Lr [93]>>=λD5=>
 aZ a1 D5.fT D5.fI D5.az D5.ay lh 7 0 [] ([(ae.mk gy gz gA fQ),Ym]:List ae))
 else
 bp wJ>>=λ(Ig,acJ)=>
 aR acJ [93]>>=λD6=>
 aZ a1 D6.fT D6.fI D6.az D6.ay lh 7 0 [] ([(ae.mk gy gz gA fQ),Ig]:List ae))
 else
 bp wJ>>=λ(Yn,acK)=>
 aR acK [93]>>=λuB=>
 aZ a1 uB.fT uB.fI uB.az uB.ay lh 7 0 [] ([(ae.mk gy gz gA fQ),Yn]:List ae))
 else
 aE wJ [45,62]>>=λ(acL,Q6)=>
 (if acL=true then
 dw Q6 3>>=λ(Q7,acM)=>
 bE acM 0 6 [40]>>=λ(Bz,zh)=>
 (if Bz=true then
 dS zh ([(ae.mk gy gz gA fQ)]:List ae)>>=λ(acN,wH)=>
 aZ a1 wH.fT wH.fI wH.az wH.ay lh 20 0 Q7 acN
 else
 aZ a1 zh.fT zh.fI zh.az zh.ay lh 8 0 Q7 ([(ae.mk gy gz gA fQ)]:List ae))
 else
 bE Q6 0 6 [40]>>=λ(F8,DV)=>
 (if F8=true then
 dS DV ([(ae.mk gy gz gA fQ)]:List ae)>>=λ(acO,D7)=>
 aZ a1 D7.fT D7.fI D7.az D7.ay lh 19 0 [] acO
 else
 some (.inr ((ae.mk gy gz gA fQ),DV)))))
 else
 some (.inl (qo,uU,uV,sU,lh,gy,gz,gA,fQ)))
partial_fixpoint
def aJ (a1:Int) (mD:List af) (mE:Int) (qV:Int) (qW:Int) (lO:List ae) (lZ:Int) (ma:Int) (mb:aB) (kh:List ae):Option (((List af)×Int×Int×Int×(List ae)×Int×Int×aB×(List ae)) ⊕ (ae×aA)):=
 (if mE<(mD.length:Int) then
 idx mD mE>>=λB6=>
 (if B6.aj=6 then
 idx mD mE>>=λYo=>
 j4 Yo.aq>>=λB7=>
 (
 (if a1=4 then
 aE (aA.mk mD mE qV qW) [124,124]>>=λ(acP,D8)=>
 some (D8.fT,D8.fI,D8.az,D8.ay,acP)
 else
 some (mD,mE,qV,qW,false))
 :Option ((List af)×Int×Int×Int×Bool))>>=λ(B8,B9,Ca,Cb,MC)=>
 (if MC=true then
 cj (aA.mk B8 B9 Ca Cb) 5>>=λ(Ii,D9)=>
 aJ a1 D9.fT D9.fI D9.az D9.ay lO 12 0 [] ([(ae.mk lZ ma mb kh),Ii]:List ae)
 else
 (
 (if a1=5 then
 aE (aA.mk B8 B9 Ca Cb) [38,38]>>=λ(acQ,Ea)=>
 some (Ea.fT,Ea.fI,Ea.az,Ea.ay,acQ)
 else
 some (B8,B9,Ca,Cb,false))
 :Option ((List af)×Int×Int×Int×Bool))>>=λ(AD,AE,AF,AG,MD)=>
 (if MD=true then
 cj (aA.mk AD AE AF AG) 6>>=λ(Yp,Eb)=>
 aJ a1 Eb.fT Eb.fI Eb.az Eb.ay lO 11 0 [] ([(ae.mk lZ ma mb kh),Yp]:List ae)
 else
 (
 (if B7>0 then
 ld B7>>=λacR=>
 some (acR==a1)
 else
 some false)
 :Option (Bool))>>=λME=>
 (if ME=true then
 cj (aA.mk AD (bq (AE+1)) AF AG) (bq (a1+1))>>=λ(Ij,Ec)=>
 aJ a1 Ec.fT Ec.fI Ec.az Ec.ay lO 10 B7 [] ([(ae.mk lZ ma mb kh),Ij]:List ae)
 else
 some (.inr ((ae.mk lZ ma mb kh),(aA.mk AD AE AF AG))))))
 else
 some (.inl (mD,mE,qV,qW,lO,lZ,ma,mb,kh)))
 else
 some (.inl (mD,mE,qV,qW,lO,lZ,ma,mb,kh)))
partial_fixpoint
def dj (uW:List af) (uX:Int) (uY:Int) (kL:Int) (pG:List ae) (oI:List ae):Option ((List af)×Int×Int×Int×(List ae)×(List ae)):=
 (if kL<0 then
 aE (aA.mk uW uX uY kL) [125]>>=λ(acS,AH)=>
 (if acS=true then
 some (AH.fT,AH.fI,AH.az,AH.ay,pG,oI)
 else
 aE AH [59]>>=λ(acT,AI)=>
 (if acT=true then
 dj AI.fT AI.fI AI.az AI.ay pG oI
 else
 bc AI>>=λ(qq,Ed)=>
 db 56 oI [qq]>>=λYq=>
 dj Ed.fT Ed.fI Ed.az Ed.ay pG Yq))
 else
 some (uW,uX,uY,kL,pG,oI))
partial_fixpoint
def dT (eE:List af) (oJ:Int) (oK:Int) (mY:Int) (kO:List ae):Option (((List af)×Int×Int×Int×(List ae)) ⊕ ((List ae)×aA)):=
 (if mY<0 then
 bp (aA.mk eE oJ oK mY)>>=λ(pY,Pa)=>
 db 56 kO [pY]>>=λCc=>
 aE Pa [44]>>=λ(Pb,tK)=>
 (if Pb=true then
 dT tK.fT tK.fI tK.az tK.ay Cc
 else
 aR tK [41]>>=λPc=>
 some (.inr (Cc,Pc)))
 else
 some (.inl (eE,oJ,oK,mY,kO)))
partial_fixpoint
end
def Yr (a0:aA) (r:ae×aA):Prop:=∀g1000:Nat,KY 223 a0 r g1000
def Ys (a0:aA) (r:ae×aA):Prop:=∀g1000:Nat,KY 209 a0 r g1000
def Yt (a0:aA) (r:ae×aA):Prop:=∀g1000:Nat,KY 227 a0 r g1000
def Yu (a0:aA) (a1:Bool) (r:ae×aA):Prop:=∀g1000:Nat,aDy 183 a0 a1 r g1000
def Yv (a0:aA) (r:ae×aA):Prop:=∀g1000:Nat,KY 215 a0 r g1000
def MF (a0:aA) (a1:Int) (r:ae×aA):Prop:=∀g1000:Nat,aDz 203 a0 a1 r g1000
def Yw (a0:aA) (r:ae×aA):Prop:=∀g1000:Nat,KY 166 a0 r g1000
def Yx (a0:aA) (r:ae×aA):Prop:=∀g1000:Nat,KY 102 a0 r g1000
def Js (a0:aA) (r:ae×aA):Prop:=∀g1000:Nat,KY 51 a0 r g1000
def Yy (a0:aA) (r:ae×aA):Prop:=∀g1000:Nat,KY 118 a0 r g1000
def Yz (a0:aA) (r:ae×aA):Prop:=∀g1000:Nat,KY 180 a0 r g1000
def YA (a0:aA) (r:ae×aA):Prop:=∀g1000:Nat,KY 179 a0 r g1000
def YB (a0:aA) (r:ae×aA):Prop:=∀g1000:Nat,KY 181 a0 r g1000
def YC (a0:aA) (r:ae×aA):Prop:=∀g1000:Nat,KY 182 a0 r g1000
def MG (a0:aA) (r:ae×aA):Prop:=∀g1000:Nat,KY 120 a0 r g1000
def MH (a0:aA) (a1:List ae) (r:(List ae)×aA):Prop:=∀g1000:Nat,∀g1001:Nat,∀eK:Nat,∀gX:Nat->List PV,DR ae.D eK gX a1->ACall Tryz.prog 210 [.aC 0 g1000 0 0,.own 1 g1001 0 eK] [.row g1000 4 1 62 (λ_=>a0.lit),.row g1001 4 eK 29 gX] (λres h=>∃F2:Nat->List PV,DR ae.D r.1.length F2 r.1/\res=.own 2 0 0 r.1.length/\h=[.row g1000 4 1 62 (λ_=>r.2.lit),.dead,.row 0 4 r.1.length 29 F2])
inductive jw:(List af)->Int->Int->Int->(List ae)->(List ae)->(((List af)×Int×Int×Int×(List ae)×(List ae)) ⊕ (ae×aA))->Prop
 | mk (Sb:aA->Option (ae×aA)) (awa:∀a0 r,Sb a0=some r->Js a0 r) (rV:(List af)->Int->Int->Int->(List ae)->(List ae)->Option (((List af)×Int×Int×Int×(List ae)×(List ae)) ⊕ (ae×aA))) (Pd:∀Jq Jr wu qp zg uv o,rV Jq Jr wu qp zg uv=some o->jw Jq Jr wu qp zg uv o) (Jq:List af) (Jr:Int) (wu:Int) (qp:Int) (zg:List ae) (uv:List ae) (o:((List af)×Int×Int×Int×(List ae)×(List ae)) ⊕ (ae×aA)) (h:(
 (if qp<0 then
 Sb (aA.mk Jq Jr wu qp)>>=λ(wE,R8)=>
 (
 aE R8 [61,62]>>=λ(N9,A4)=>
 (if N9=true then
 Sb A4>>=λ(FV,E6)=>
 db 56 ([wE]:List ae) [FV]>>=λl73=>
 some (E6.fT,E6.fI,E6.az,E6.ay,l73)
 else
 some (A4.fT,A4.fI,A4.az,A4.ay,([wE]:List ae)))
 :Option ((List af)×Int×Int×Int×(List ae)))>>=λ(l52,y53,y54,Hl,Q5)=>
 db 56 uv [(ae.mk 6 0 [] Q5)]>>=λl78=>
 aE (aA.mk l52 y53 y54 Hl) [44]>>=λ(v80,AY)=>
 (if v80=true then
 rV AY.fT AY.fI AY.az AY.ay zg l78
 else
 aR AY [93]>>=λO9=>
 some (.inr ((ae.mk 5 0 [] l78),O9)))
 else
 some (.inl (Jq,Jr,wu,qp,zg,uv)))
 )=some o):jw Jq Jr wu qp zg uv o
inductive iV:Bool->(List af)->Int->Int->Int->(List ae)->Int->Int->aB->(List ae)->(((List af)×Int×Int×Int×(List ae)×Int×Int×aB×(List ae)) ⊕ (ae×aA))->Prop
 | mk (Sb:aA->Option (ae×aA)) (awa:∀a0 r,Sb a0=some r->Js a0 r) (ajZ:aA->(List ae)->Option ((List ae)×aA)) (aGp:∀a0 a1 r,ajZ a0 a1=some r->MH a0 a1 r) (fg:Bool->(List af)->Int->Int->Int->(List ae)->Int->Int->aB->(List ae)->Option (((List af)×Int×Int×Int×(List ae)×Int×Int×aB×(List ae)) ⊕ (ae×aA))) (MI:∀a1 qo uU uV sU lh gy gz gA fQ o,fg a1 qo uU uV sU lh gy gz gA fQ=some o->iV a1 qo uU uV sU lh gy gz gA fQ o) (a1:Bool) (qo:List af) (uU:Int) (uV:Int) (sU:Int) (lh:List ae) (gy:Int) (gz:Int) (gA:aB) (fQ:List ae) (o:((List af)×Int×Int×Int×(List ae)×Int×Int×aB×(List ae)) ⊕ (ae×aA)) (h:(
 (if sU<0 then
 aE (aA.mk qo uU uV sU) [91]>>=λ(acG,wJ)=>
 (if acG=true then
 (if a1=true then
 eW (ae.mk gy gz gA fQ)>>=λGq=>
 (if Gq=true then
 aE wJ [93]>>=λ(LA,za)=>
 (if LA=true then
 aR za [61]>>=λacH=>
 Sb acH>>=λ(HV,acI)=>
 some (.inr ((ae.mk 16 0 [] ([(ae.mk gy gz gA fQ),HV]:List ae)),acI))
 else
 Sb za>>=λ(Ym,Lr)=>
 aR Lr [93]>>=λD5=>
 fg a1 D5.fT D5.fI D5.az D5.ay lh 7 0 [] ([(ae.mk gy gz gA fQ),Ym]:List ae))
 else
 Sb wJ>>=λ(Ig,acJ)=>
 aR acJ [93]>>=λD6=>
 fg a1 D6.fT D6.fI D6.az D6.ay lh 7 0 [] ([(ae.mk gy gz gA fQ),Ig]:List ae))
 else
 Sb wJ>>=λ(Yn,acK)=>
 aR acK [93]>>=λuB=>
 fg a1 uB.fT uB.fI uB.az uB.ay lh 7 0 [] ([(ae.mk gy gz gA fQ),Yn]:List ae))
 else
 aE wJ [45,62]>>=λ(acL,Q6)=>
 (if acL=true then
 dw Q6 3>>=λ(Q7,acM)=>
 bE acM 0 6 [40]>>=λ(Bz,zh)=>
 (if Bz=true then
 ajZ zh ([(ae.mk gy gz gA fQ)]:List ae)>>=λ(acN,wH)=>
 fg a1 wH.fT wH.fI wH.az wH.ay lh 20 0 Q7 acN
 else
 fg a1 zh.fT zh.fI zh.az zh.ay lh 8 0 Q7 ([(ae.mk gy gz gA fQ)]:List ae))
 else
 bE Q6 0 6 [40]>>=λ(F8,DV)=>
 (if F8=true then
 ajZ DV ([(ae.mk gy gz gA fQ)]:List ae)>>=λ(acO,D7)=>
 fg a1 D7.fT D7.fI D7.az D7.ay lh 19 0 [] acO
 else
 some (.inr ((ae.mk gy gz gA fQ),DV)))))
 else
 some (.inl (qo,uU,uV,sU,lh,gy,gz,gA,fQ)))
 )=some o):iV a1 qo uU uV sU lh gy gz gA fQ o
inductive iq:Int->(List af)->Int->Int->Int->(List ae)->Int->Int->aB->(List ae)->(((List af)×Int×Int×Int×(List ae)×Int×Int×aB×(List ae)) ⊕ (ae×aA))->Prop
 | mk (acU:aA->Int->Option (ae×aA)) (aGq:∀a0 a1 r,acU a0 a1=some r->MF a0 a1 r) (jO:Int->(List af)->Int->Int->Int->(List ae)->Int->Int->aB->(List ae)->Option (((List af)×Int×Int×Int×(List ae)×Int×Int×aB×(List ae)) ⊕ (ae×aA))) (KZ:∀a1 mD mE qV qW lO lZ ma mb kh o,jO a1 mD mE qV qW lO lZ ma mb kh=some o->iq a1 mD mE qV qW lO lZ ma mb kh o) (a1:Int) (mD:List af) (mE:Int) (qV:Int) (qW:Int) (lO:List ae) (lZ:Int) (ma:Int) (mb:aB) (kh:List ae) (o:((List af)×Int×Int×Int×(List ae)×Int×Int×aB×(List ae)) ⊕ (ae×aA)) (h:(
 (if mE<(mD.length:Int) then
 idx mD mE>>=λB6=>
 (if B6.aj=6 then
 idx mD mE>>=λYo=>
 j4 Yo.aq>>=λB7=>
 (
 (if a1=4 then
 aE (aA.mk mD mE qV qW) [124,124]>>=λ(acP,D8)=>
 some (D8.fT,D8.fI,D8.az,D8.ay,acP)
 else
 some (mD,mE,qV,qW,false))
 :Option ((List af)×Int×Int×Int×Bool))>>=λ(B8,B9,Ca,Cb,MC)=>
 (if MC=true then
 acU (aA.mk B8 B9 Ca Cb) 5>>=λ(Ii,D9)=>
 jO a1 D9.fT D9.fI D9.az D9.ay lO 12 0 [] ([(ae.mk lZ ma mb kh),Ii]:List ae)
 else
 (
 (if a1=5 then
 aE (aA.mk B8 B9 Ca Cb) [38,38]>>=λ(acQ,Ea)=>
 some (Ea.fT,Ea.fI,Ea.az,Ea.ay,acQ)
 else
 some (B8,B9,Ca,Cb,false))
 :Option ((List af)×Int×Int×Int×Bool))>>=λ(AD,AE,AF,AG,MD)=>
 (if MD=true then
 acU (aA.mk AD AE AF AG) 6>>=λ(Yp,Eb)=>
 jO a1 Eb.fT Eb.fI Eb.az Eb.ay lO 11 0 [] ([(ae.mk lZ ma mb kh),Yp]:List ae)
 else
 (
 (if B7>0 then
 ld B7>>=λacR=>
 some (acR==a1)
 else
 some false)
 :Option (Bool))>>=λME=>
 (if ME=true then
 acU (aA.mk AD (bq (AE+1)) AF AG) (bq (a1+1))>>=λ(Ij,Ec)=>
 jO a1 Ec.fT Ec.fI Ec.az Ec.ay lO 10 B7 [] ([(ae.mk lZ ma mb kh),Ij]:List ae)
 else
 some (.inr ((ae.mk lZ ma mb kh),(aA.mk AD AE AF AG))))))
 else
 some (.inl (mD,mE,qV,qW,lO,lZ,ma,mb,kh)))
 else
 some (.inl (mD,mE,qV,qW,lO,lZ,ma,mb,kh)))
 )=some o):iq a1 mD mE qV qW lO lZ ma mb kh o
inductive iW:(List af)->Int->Int->Int->(List ae)->(List ae)->((List af)×Int×Int×Int×(List ae)×(List ae))->Prop
 | mk (awb:aA->Option (ae×aA)) (aGr:∀a0 r,awb a0=some r->MG a0 r) (mZ:(List af)->Int->Int->Int->(List ae)->(List ae)->Option ((List af)×Int×Int×Int×(List ae)×(List ae))) (MJ:∀uW uX uY kL pG oI o,mZ uW uX uY kL pG oI=some o->iW uW uX uY kL pG oI o) (uW:List af) (uX:Int) (uY:Int) (kL:Int) (pG:List ae) (oI:List ae) (o:(List af)×Int×Int×Int×(List ae)×(List ae)) (h:(
 (if kL<0 then
 aE (aA.mk uW uX uY kL) [125]>>=λ(acS,AH)=>
 (if acS=true then
 some (AH.fT,AH.fI,AH.az,AH.ay,pG,oI)
 else
 aE AH [59]>>=λ(acT,AI)=>
 (if acT=true then
 mZ AI.fT AI.fI AI.az AI.ay pG oI
 else
 awb AI>>=λ(qq,Ed)=>
 db 56 oI [qq]>>=λYq=>
 mZ Ed.fT Ed.fI Ed.az Ed.ay pG Yq))
 else
 some (uW,uX,uY,kL,pG,oI))
 )=some o):iW uW uX uY kL pG oI o
inductive jx:(List af)->Int->Int->Int->(List ae)->(((List af)×Int×Int×Int×(List ae)) ⊕ ((List ae)×aA))->Prop
 | mk (Sb:aA->Option (ae×aA)) (awa:∀a0 r,Sb a0=some r->Js a0 r) (rW:(List af)->Int->Int->Int->(List ae)->Option (((List af)×Int×Int×Int×(List ae)) ⊕ ((List ae)×aA))) (Pe:∀eE oJ oK mY kO o,rW eE oJ oK mY kO=some o->jx eE oJ oK mY kO o) (eE:List af) (oJ:Int) (oK:Int) (mY:Int) (kO:List ae) (o:((List af)×Int×Int×Int×(List ae)) ⊕ ((List ae)×aA)) (h:(
 (if mY<0 then
 Sb (aA.mk eE oJ oK mY)>>=λ(pY,Pa)=>
 db 56 kO [pY]>>=λCc=>
 aE Pa [44]>>=λ(Pb,tK)=>
 (if Pb=true then
 rW tK.fT tK.fI tK.az tK.ay Cc
 else
 aR tK [41]>>=λPc=>
 some (.inr (Cc,Pc)))
 else
 some (.inl (eE,oJ,oK,mY,kO)))
 )=some o):jx eE oJ oK mY kO o
theorem Cd:(∀a0 r,iT a0=some r->Yr a0 r)/\(∀Jq Jr wu qp zg uv o,eF Jq Jr wu qp zg uv=some o->jw Jq Jr wu qp zg uv o)/\(∀a0 r,bp a0=some r->Js a0 r)/\(∀a0 r,iU a0=some r->Yx a0 r)/\(∀a0 r,eH a0=some r->Yw a0 r)/\(∀a0 a1 r,cj a0 a1=some r->MF a0 a1 r)/\(∀a1 mD mE qV qW lO lZ ma mb kh o,aJ a1 mD mE qV qW lO lZ ma mb kh=some o->iq a1 mD mE qV qW lO lZ ma mb kh o)/\(∀a0 r,ff a0=some r->Yv a0 r)/\(∀a0 r,mV a0=some r->Yt a0 r)/\(∀a0 a1 r,gm a0 a1=some r->Yu a0 a1 r)/\(∀a1 qo uU uV sU lh gy gz gA fQ o,aZ a1 qo uU uV sU lh gy gz gA fQ=some o->iV a1 qo uU uV sU lh gy gz gA fQ o)/\(∀a0 a1 r,dS a0 a1=some r->MH a0 a1 r)/\(∀eE oJ oK mY kO o,dT eE oJ oK mY kO=some o->jx eE oJ oK mY kO o)/\(∀a0 r,a7 a0=some r->Ys a0 r)/\(∀a0 r,cO a0=some r->Yy a0 r)/\(∀uW uX uY kL pG oI o,dj uW uX uY kL pG oI=some o->iW uW uX uY kL pG oI o)/\(∀a0 r,bc a0=some r->MG a0 r)/\(∀a0 r,nV a0=some r->YC a0 r)/\(∀a0 r,mX a0=some r->YB a0 r)/\(∀a0 r,mW a0=some r->Yz a0 r)/\(∀a0 r,nU a0=some r->YA a0 r):=by
 refine iT.mutual_partial_correctness Yr jw Js Yx Yw MF iq Yv Yt Yu iV MH jx Ys Yy iW MG YC YB Yz YA ?_ ?_ ?_ ?_ ?_ ?_ ?_ ?_ ?_ ?_ ?_ ?_ ?_ ?_ ?_ ?_ ?_ ?_ ?_ ?_ ?_
 intro _ aDA a0 r h g1000
 refine eT Tryz.func223 ?_
 refine .d (.d (qX (bF _ _ _ _ rfl) ⟨rfl,_,_,rfl,ao,(.d (.d ?_))⟩))
 obtain ⟨⟨v1,v2⟩,uC,h⟩:=bd h
 refine cb (aV (g1000:=g1000) uC) [0] ?_
 refine sV h (λwh h=>?_) (λwh h=>?_)
 refine .d ⟨rfl,_,rfl,rfl,_,_,rfl,ao,?_⟩
 exact aJV
 obtain ⟨DE,h,MK⟩:=bd h
 refine .cut (λσ η=>∃l5,∃y6,∃y7,∃y8,∃l9,∃D1,∃f10:Nat->List PV,∃f13:Nat->List PV,DR ae.D l9.length f10 l9/\DR ae.D D1.length f13 D1/\.inl (l5,y6,y7,y8,l9,D1)=DE/\σ=[(2,.aC 1 0 0 0),(3,.aC 3 0 0 0)]/\η=[.row g1000 4 1 62 (λ_=>[sl 4 af.cells l5,.int .i64 y6,.int .i64 y7,.int .i64 y8]),.row 0 4 1 29 (λ_=>[.int .i64 0,.int .i64 0,.str [],.own 2 0 0 l9.length]),.row 0 4 l9.length 29 f10,.row 0 4 1 29 (λ_=>[.int .i64 5,.int .i64 0,.str [],.own 4 0 0 D1.length]),.row 0 4 D1.length 29 f13]) ?_ ?_
 have aDB:=aDA _ _ _ _ _ _ _ h
 refine le (jw.rec (motive:=λJq Jr wu qp zg uv o90 _=>∀f23:Nat->List PV,∀f26:Nat->List PV,DR ae.D zg.length f23 zg->DR ae.D uv.length f26 uv->DE=o90->aQ _ _ [(0,.aC 0 g1000 0 0),(2,.aC 1 0 0 0),(3,.aC 3 0 0 0)] [.row g1000 4 1 62 (λ_=>[sl 4 af.cells Jq,.int .i64 Jr,.int .i64 wu,.int .i64 qp]),.row 0 4 1 29 (λ_=>[.int .i64 0,.int .i64 0,.str [],.own 2 0 0 zg.length]),.row 0 4 zg.length 29 f23,.row 0 4 1 29 (λ_=>[.int .i64 5,.int .i64 0,.str [],.own 4 0 0 uv.length]),.row 0 4 uv.length 29 f26]) ?_ aDB (λ_=>[]) (λ_=>[]) ((DR.nil (D:=ae.D)).self) ((DR.nil (D:=ae.D)).self) rfl) (tk [0,1,5,2,7] ⟨.p,.p,.p,⟨⟩⟩ ⟨(fM rfl),(nb rfl ⟨.i,.i,.s,.g,⟨⟩⟩),gh,(nb rfl ⟨.i,.i,.s,.g,⟨⟩⟩),gh,⟨⟩⟩)
 intro _ awc _ _ Jq Jr wu qp zg uv o90 h aDC f23 f26 d24 d27  aj0
 subst aj0
 refine aQ.round (.d (.d ⟨rfl,rfl,rfl,_,rfl,(sD h (λLg h=>?_) (λLg h=>?_))⟩))
 refine .d ?_
 obtain ⟨⟨wE,R8⟩,ajx,h⟩:=bd h
 refine bz (awc _ _ ajx _) [0] λf50 d51=>?_
 refine ⟨_,cJ,(qX (bF _ _ _ _ rfl) ⟨rfl,_,_,rfl,ao,?_⟩)⟩
 obtain ⟨o59,h,aDD⟩:=bd h
 refine .cut (λσ η=>∃l52,∃y53,∃y54,∃Hl,∃Q5,∃f57:Nat->List PV,DR ae.D Q5.length f57 Q5/\(l52,y53,y54,Hl,Q5)=o59/\σ=[(0,.aC 0 g1000 0 0),(2,.aC 1 0 0 0),(3,.aC 3 0 0 0),(4,.aC 5 0 0 0)]/\η=[.row g1000 4 1 62 (λ_=>[sl 4 af.cells l52,.int .i64 y53,.int .i64 y54,.int .i64 Hl]),.row 0 4 1 29 (λ_=>[.int .i64 0,.int .i64 0,.str [],.own 2 0 0 zg.length]),.row 0 4 zg.length 29 f23,.row 0 4 1 29 (λ_=>[.int .i64 5,.int .i64 0,.str [],.own 4 0 0 uv.length]),.row 0 4 uv.length 29 f26,.row 0 4 1 29 (λ_=>[.int .i64 6,.int .i64 0,.str [],.own 6 0 0 Q5.length]),.row 0 4 Q5.length 29 f57]) ?_ ?_
 refine .ab 6 0 3 5 _ (λ_=>iB (d51).po) λF62=>(.d ?_)
 obtain ⟨⟨N9,A4⟩,aDE,h⟩:=bd h
 refine cb (aV (g1000:=g1000) aDE) [0] ?_
 refine sV h (λTn h=>?_) (λTn h=>?_)
 refine .float [(0,true),(1,true),(2,true),(3,false),(4,false),(5,false),(6,true),(7,false)] aKR ?_
 refine ⟨rfl,rfl,_,rfl,?_⟩
 obtain ⟨⟨FV,E6⟩,aDF,h⟩:=bd h
 refine bz (awc _ _ aDF _) [0] λf70 d71=>?_
 refine ⟨rfl,rfl,_,dx,rfl,rfl,?_⟩
 have d72:=(DR.cp (ae.bx (x:=wE) (F0:=F62) d51) DR.dL)
 refine bk h λl73 YD h=>(.fx ⟨rfl,rfl,(λ_ _=>rfl),DR.xA d72 YD,l73.length,dV (kg [[.int .i64 wE.aj,.int .i64 wE.aP,.str wE.aq,.dY 4 wE.ah.length 29 f50 F62]]) 1 [.int .i64 FV.aj,.int .i64 FV.aP,.str FV.aq,.own 8 0 0 FV.ah.length],DR.ln d72 YD,dE (DR.ln d72 YD) ⟨.same _,.same _,.same _,.same _,trivial⟩,rfl,rfl,_,_,rfl,ao,(.ab 6 1 3 8 _ (λ_=>rT (DR.lq d72 YD) (d71).po) λF75=>?_)⟩)
 have d76:=DR.jE d72 YD (ae.bx (x:=FV) (F0:=F75) d71)
 exact ct ⟨_,_,_,_,_,_,d76,si h,rfl,rfl⟩ (tk [0,1,2,3,4,7,6] ⟨.p,.p,.p,.p,⟨⟩⟩ ⟨(fM rfl),(nb rfl ⟨.i,.i,.s,.oe,⟨⟩⟩),(bu d24),(nb rfl ⟨.i,.i,.s,.oe,⟨⟩⟩),(bu d27),(nb rfl ⟨.i,.i,.s,.oe,⟨⟩⟩),(bu d76),⟨⟩⟩)
 have d77:=(DR.cp (ae.bx (x:=wE) (F0:=F62) d51) DR.dL)
 exact ct ⟨_,_,_,_,_,_,d77.self,si h,rfl,rfl⟩ (tk [0,1,2,3,4,7,6] ⟨.p,.p,.p,.p,⟨⟩⟩ ⟨(fM rfl),(nb rfl ⟨.i,.i,.s,.oe,⟨⟩⟩),(bu d24),(nb rfl ⟨.i,.i,.s,.oe,⟨⟩⟩),(bu d27),(nb rfl ⟨.i,.i,.s,.oe,⟨⟩⟩),(bu d77 d77.len d77.len),⟨⟩⟩)
 rintro _ _ ⟨l52,y53,y54,Hl,Q5,f57,d58,rfl,rfl,rfl⟩
 replace h:=aDD
 refine .d ⟨rfl,rfl,_,rfl,rfl,_,rfl,_,dx,(bk h λl78 ML h=>(.fx ⟨rfl,rfl,(λ_ _=>rfl),DR.xA d27 ML,l78.length,dV f26 uv.length [.int .i64 6,.int .i64 0,.str [],.own 6 0 0 Q5.length],DR.ln d27 ML,dE (DR.ln d27 ML) ⟨.same _,.same _,.same _,.same _,trivial⟩,rfl,rfl,_,_,rfl,ao,(.d ?_)⟩))⟩
 obtain ⟨⟨v80,AY⟩,ajv,h⟩:=bd h
 refine cb (aV (g1000:=g1000) ajv) [0] ?_
 refine jj h (λaDG h=>?_) (λaDG h=>?_)
 refine .d (bk h λO9 aDH h=>(cb (bh (g1000:=g1000) aDH) [0] ?_))
 refine .d ⟨rfl,_,rfl,rfl,_,_,rfl,ao,?_⟩
 obtain rfl:=si h
 replace h:=MK
 obtain rfl:=si h
 refine ⟨rfl,_,rfl,(.ab 4 uv.length 3 6 _ (λ_=>rT (DR.lq d27 ML) (d58).po) λF86=>?_)⟩
 have d87:=DR.jE d27 ML (ae.bx (x:=(ae.mk 6 0 [] Q5)) (F0:=F86) d58)
 exact en [0,4] ⟨_,d87.self,rfl,rfl⟩ (.aI ⟨.i,.i,.s,.oe,⟨⟩⟩) ⟨(ob rfl ⟨.l,.i,.i,.i,⟨⟩⟩),(bu d87 d87.len d87.len),⟨⟩⟩
 refine .ab 4 uv.length 3 6 _ (λ_=>rT (DR.lq d27 ML) (d58).po) λF88=>?_
 have d89:=DR.jE d27 ML (ae.bx (x:=(ae.mk 6 0 [] Q5)) (F0:=F88) d58)
 exact lg (aDC _ _ _ _ _ _ _ h f23 _ d24 d89 rfl) (tk [0,1,2,3,4] ⟨.p,.p,.p,⟨⟩⟩ ⟨(fM rfl),(nb rfl ⟨.i,.i,.s,.oe,⟨⟩⟩),(bu d24),(nb rfl ⟨.i,.i,.s,.oe,⟨⟩⟩),(bu d89),⟨⟩⟩)
 exact ct ⟨_,_,_,_,_,_,f23,f26,d24,d27,si h,rfl,rfl⟩ (tk [0,1,2,3,4] ⟨.p,.p,⟨⟩⟩ ⟨(fM rfl),(nb rfl ⟨.i,.i,.s,.oe,⟨⟩⟩),(bu d24),(nb rfl ⟨.i,.i,.s,.oe,⟨⟩⟩),(bu d27),⟨⟩⟩)
 rintro _ _ ⟨l5,y6,y7,y8,l9,D1,f10,f13,d11,d14,rfl,rfl,rfl⟩
 replace h:=MK
 refine .d ⟨rfl,_,rfl,rfl,_,_,rfl,ao,?_⟩
 obtain rfl:=si h
 exact ⟨rfl,_,rfl,(en [0,4] ⟨f13,d14.self,rfl,rfl⟩ (.aI ⟨.i,.i,.s,.oe,⟨⟩⟩) ⟨(ob rfl ⟨.l,.i,.i,.i,⟨⟩⟩),(bu d14 d14.len d14.len),⟨⟩⟩)⟩
 intro F0 F1 nK nL Jq Jr wu qp zg uv o h
 exact .mk F1 nL F0 nK Jq Jr wu qp zg uv o h
 intro _ _ pz MM a0 r h g1000
 refine eT Tryz.func51 ?_
 refine .d (.d ⟨rfl,rfl,rfl,_,rfl,(.d ?_)⟩)
 obtain ⟨⟨Mw,avq⟩,awd,h⟩:=bd h
 refine bz (MM _ _ awd _) [0] λaDI YE=>?_
 refine ⟨rfl,_,_,rfl,ao,(.d (.d ?_))⟩
 obtain ⟨⟨avr,Jh⟩,awe,h⟩:=bd h
 refine cb (eM (g1000:=g1000) awe) [0] ?_
 refine jj h (λawf h=>?_) (λawf h=>?_)
 refine .d ⟨rfl,_,rfl,rfl,_,_,rfl,ao,?_⟩
 obtain rfl:=si h
 exact ⟨rfl,_,rfl,(en [0,2] ⟨aDI,YE.self,rfl,rfl⟩ (.aI ⟨.i,.i,.s,.oe,⟨⟩⟩) ⟨(ob rfl ⟨.l,.i,.i,.i,⟨⟩⟩),(bu YE),⟨⟩⟩)⟩
 refine .d (.d ⟨rfl,_,rfl,(bk h λavs awg h=>(R9 (kz awg) ⟨.aI ⟨.i,.i,.s,(.rd YE),⟨⟩⟩,⟨⟩⟩ (jj h (λawh h=>?_) (λawh h=>?_))))⟩)
 refine .d ?_
 obtain ⟨⟨avy,avz⟩,awi,h⟩:=bd h
 refine bz (fh (g1000:=g1000) awi) [0] λaDJ awj=>?_
 refine ⟨rfl,_,_,rfl,ao,?_⟩
 obtain rfl:=si h
 exact ⟨rfl,_,rfl,(en [0,4] ⟨aDJ,awj.self,rfl,rfl⟩ (.aI ⟨.i,.i,.s,.oe,⟨⟩⟩) ⟨(ob rfl ⟨.l,.i,.i,.i,⟨⟩⟩),(bu awj),⟨⟩⟩)⟩
 refine .d ⟨rfl,rfl,rfl,_,rfl,(.d ⟨rfl,rfl,rfl,_,rfl,rfl,rfl,rfl,_,_,rfl,ao,(.d (.d ?_))⟩)⟩
 obtain ⟨⟨avt,Ji⟩,awk,h⟩:=bd h
 refine cb (eM (g1000:=g1000) awk) [0] ?_
 refine sV h (λawl h=>?_) (λawl h=>?_)
 refine .d (.d ⟨rfl,rfl,_,rfl,(sN h (λawm h=>?_) (λawm h=>?_))⟩)
 refine .t (.t (.t (.d ?_)))
 obtain ⟨⟨avv,avw⟩,awn,h⟩:=bd h
 refine bz (fh (g1000:=g1000) awn) [0] λaDK awo=>?_
 refine ⟨rfl,_,_,rfl,ao,?_⟩
 obtain rfl:=si h
 exact ⟨rfl,_,rfl,(en [0,4] ⟨aDK,awo.self,rfl,rfl⟩ (.aI ⟨.i,.i,.s,.oe,⟨⟩⟩) ⟨(ob rfl ⟨.l,.i,.i,.i,⟨⟩⟩),(bu awo),⟨⟩⟩)⟩
 refine .f (.f (sEn h (λawp h=>?_) (λawp h=>?_)))
 refine .d ?_
 obtain ⟨⟨L0,wR⟩,Xj,h⟩:=bd h
 refine bz (fh (g1000:=g1000) Xj) [0] λaDL awq=>?_
 refine ⟨rfl,_,_,rfl,ao,?_⟩
 obtain rfl:=si h
 exact ⟨rfl,_,rfl,(en [0,4] ⟨aDL,awq.self,rfl,rfl⟩ (.aI ⟨.i,.i,.s,.oe,⟨⟩⟩) ⟨(ob rfl ⟨.l,.i,.i,.i,⟨⟩⟩),(bu awq),⟨⟩⟩)⟩
 refine .d ⟨rfl,rfl,rfl,_,rfl,rfl,rfl,rfl,_,_,rfl,ao,(.d (.float [(0,true),(1,true),(2,true),(3,false),(4,false),(5,false),(6,false)] aKR ?_))⟩
 refine ⟨rfl,rfl,_,rfl,?_⟩
 obtain ⟨⟨xR,avu⟩,awr,h⟩:=bd h
 refine bz (mo (g1000:=g1000) awr) [0] λaG8 aws=>?_
 refine ⟨rfl,rfl,_,cJ,rfl,rfl,(qX (bF _ _ _ _ rfl) ⟨rfl,_,_,rfl,ao,?_⟩)⟩
 obtain rfl:=si h
 refine ⟨rfl,_,rfl,(.ab 5 0 3 4 _ (λ_=>iB (aws).po) λaiO=>?_)⟩
 have GB:=(DR.cp (ae.bx (x:=xR) (F0:=aiO) aws) DR.dL)
 exact en [0,5] ⟨_,GB.self,rfl,rfl⟩ (.aI ⟨.i,.i,.s,.oe,⟨⟩⟩) ⟨(ob rfl ⟨.l,.i,.i,.i,⟨⟩⟩),(bu GB GB.len GB.len),⟨⟩⟩
 refine .d (.float [(0,true),(1,true),(2,false),(3,false),(4,false),(5,false)] aKR ?_)
 refine ⟨rfl,_,rfl,?_⟩
 obtain ⟨⟨ajM,avx⟩,awt,h⟩:=bd h
 refine bz (pz _ _ awt _) [0] λaG9 awu=>?_
 refine ⟨rfl,_,cJ,(qX (bF _ _ _ _ rfl) ⟨rfl,_,_,rfl,ao,?_⟩)⟩
 obtain rfl:=si h
 refine ⟨rfl,_,rfl,(.ab 5 0 3 2 _ (λ_=>iB (YE).po) λaDM=>(.ab 5 1 3 4 _ (λ_=>iB (awu).po) λaDN=>?_))⟩
 have acV:=(DR.cp (ae.bx (x:=Mw) (F0:=aDM) YE) (DR.cp (ae.bx (x:=ajM) (F0:=aDN) awu) DR.dL))
 exact en [0,5] ⟨_,acV.self,rfl,rfl⟩ (.aI ⟨.i,.i,.s,.oe,⟨⟩⟩) ⟨(ob rfl ⟨.l,.i,.i,.i,⟨⟩⟩),(bu acV acV.len acV.len),⟨⟩⟩
 intro _ _ _ pz MM MN a0 r h g1000
 refine eT Tryz.func102 ?_
 refine .d (.d ?_)
 obtain ⟨⟨acu,avl⟩,awv,h⟩:=bd h
 refine bz (MN _ _ awv _) [0] λaDO acW=>?_
 refine ⟨rfl,_,_,rfl,ao,(.d (.d ?_))⟩
 obtain ⟨⟨avm,ajJ⟩,aww,h⟩:=bd h
 refine cb (aV (g1000:=g1000) aww) [0] ?_
 refine sV h (λawx h=>?_) (λawx h=>?_)
 refine .d ?_
 obtain ⟨⟨ajK,avn⟩,awy,h⟩:=bd h
 refine bz (pz _ _ awy _) [0] λaHa awz=>?_
 refine ⟨rfl,_,_,rfl,ao,(.d (bk h λavo awA h=>(cb (bh (g1000:=g1000) awA) [0] ?_)))⟩
 refine .d (.float [(0,true),(1,true),(2,true),(3,false),(4,false),(5,false),(6,false)] aKR ?_)
 refine ⟨rfl,_,rfl,rfl,_,rfl,?_⟩
 obtain ⟨⟨ajL,avp⟩,awB,h⟩:=bd h
 refine bz (MM _ _ awB _) [0] λaHb awC=>?_
 refine ⟨rfl,rfl,_,cJ,(qX (bF _ _ _ _ rfl) ⟨rfl,_,_,rfl,ao,?_⟩)⟩
 obtain rfl:=si h
 refine ⟨rfl,_,rfl,(.ab 7 0 3 2 _ (λ_=>iB (acW).po) λaDP=>(.ab 7 1 3 4 _ (λ_=>iB (awz).po) λaDQ=>(.ab 7 2 3 6 _ (λ_=>iB (awC).po) λaDR=>?_)))⟩
 have acX:=(DR.cp (ae.bx (x:=acu) (F0:=aDP) acW) (DR.cp (ae.bx (x:=ajK) (F0:=aDQ) awz) (DR.cp (ae.bx (x:=ajL) (F0:=aDR) awC) DR.dL)))
 exact en [0,7] ⟨_,acX.self,rfl,rfl⟩ (.aI ⟨.i,.i,.s,.oe,⟨⟩⟩) ⟨(ob rfl ⟨.l,.i,.i,.i,⟨⟩⟩),(bu acX acX.len acX.len),⟨⟩⟩
 refine .d ⟨rfl,_,rfl,rfl,_,_,rfl,ao,?_⟩
 obtain rfl:=si h
 exact ⟨rfl,_,rfl,(en [0,2] ⟨aDO,acW.self,rfl,rfl⟩ (.aI ⟨.i,.i,.s,.oe,⟨⟩⟩) ⟨(ob rfl ⟨.l,.i,.i,.i,⟨⟩⟩),(bu acW),⟨⟩⟩)⟩
 intro _ _ MN MO a0 r h g1000
 refine eT Tryz.func166 ?_
 refine .d (.d ?_)
 obtain ⟨⟨acs,avi⟩,awD,h⟩:=bd h
 refine bz (MO _ _ _ awD _) [0] λaDS acY=>?_
 refine ⟨rfl,_,_,rfl,ao,(.d (.d ?_))⟩
 obtain ⟨⟨avj,ajH⟩,awE,h⟩:=bd h
 refine cb (aV (g1000:=g1000) awE) [0] ?_
 refine sV h (λawF h=>?_) (λawF h=>?_)
 refine .d (.float [(0,true),(1,true),(2,false),(3,false),(4,false),(5,false)] aKR ?_)
 refine ⟨rfl,_,rfl,?_⟩
 obtain ⟨⟨ajI,avk⟩,awG,h⟩:=bd h
 refine bz (MN _ _ awG _) [0] λaHc awH=>?_
 refine ⟨rfl,_,cJ,(qX (bF _ _ _ _ rfl) ⟨rfl,_,_,rfl,ao,?_⟩)⟩
 obtain rfl:=si h
 refine ⟨rfl,_,rfl,(.ab 5 0 3 2 _ (λ_=>iB (acY).po) λaDT=>(.ab 5 1 3 4 _ (λ_=>iB (awH).po) λaDU=>?_))⟩
 have acZ:=(DR.cp (ae.bx (x:=acs) (F0:=aDT) acY) (DR.cp (ae.bx (x:=ajI) (F0:=aDU) awH) DR.dL))
 exact en [0,5] ⟨_,acZ.self,rfl,rfl⟩ (.aI ⟨.i,.i,.s,.oe,⟨⟩⟩) ⟨(ob rfl ⟨.l,.i,.i,.i,⟨⟩⟩),(bu acZ acZ.len acZ.len),⟨⟩⟩
 refine .d ⟨rfl,_,rfl,rfl,_,_,rfl,ao,?_⟩
 obtain rfl:=si h
 exact ⟨rfl,_,rfl,(en [0,2] ⟨aDS,acY.self,rfl,rfl⟩ (.aI ⟨.i,.i,.s,.oe,⟨⟩⟩) ⟨(ob rfl ⟨.l,.i,.i,.i,⟨⟩⟩),(bu acY),⟨⟩⟩)⟩
 intro _ _ _ MO awI GG a0 a1 r h g1000
 refine eT Tryz.func203 ?_
 refine .d (.d (.d (sE h (λawJ h=>?_) (λawJ h=>?_))))
 refine .d ?_
 obtain ⟨⟨avg,avh⟩,awK,h⟩:=bd h
 refine bz (GG _ _ awK _) [0] λaDV awL=>?_
 refine ⟨rfl,_,_,rfl,ao,?_⟩
 obtain rfl:=si h
 exact ⟨rfl,_,rfl,(en [0,2] ⟨aDV,awL.self,rfl,rfl⟩ (.aI ⟨.i,.i,.s,.oe,⟨⟩⟩) ⟨(ob rfl ⟨.l,.i,.i,.i,⟨⟩⟩),(bu awL),⟨⟩⟩)⟩
 refine .d ?_
 obtain ⟨⟨XM,XN⟩,awM,h⟩:=bd h
 refine bz (MO _ _ _ awM _) [0] λaDW awN=>?_
 refine ⟨rfl,_,_,rfl,ao,?_⟩
 obtain ⟨acr,h,afF⟩:=bd h
 refine .cut (λσ η=>∃XO,∃XP,∃XR,∃XS,∃Mv,∃XT,∃XU,∃XV,∃Jg,∃aj1:Nat->List PV,∃ac0:Nat->List PV,DR ae.D Mv.length aj1 Mv/\DR ae.D Jg.length ac0 Jg/\.inl (XO,XP,XR,XS,Mv,XT,XU,XV,Jg)=acr/\σ=[(4,.aC 1 0 0 0),(5,.aC 3 0 0 0)]/\η=[.row g1000 4 1 62 (λ_=>[sl 4 af.cells XO,.int .i64 XP,.int .i64 XR,.int .i64 XS]),.row 0 4 1 29 (λ_=>[.int .i64 0,.int .i64 0,.str [],.own 2 0 0 Mv.length]),.row 0 4 Mv.length 29 aj1,.row 0 4 1 29 (λ_=>[.int .i64 XT,.int .i64 XU,.str XV,.own 4 0 0 Jg.length]),.row 0 4 Jg.length 29 ac0]) ?_ ?_
 have awO:=awI _ _ _ _ _ _ _ _ _ _ _ h
 refine le (iq.rec (motive:=λawP mD mE qV qW lO lZ ma mb kh awQ _=>∀Ce:Nat->List PV,∀GH:Nat->List PV,DR ae.D lO.length Ce lO->DR ae.D kh.length GH kh->a1=awP->acr=awQ->aQ _ _ [(0,.aC 0 g1000 0 0),(1,.int .i64 a1),(4,.aC 1 0 0 0),(5,.aC 3 0 0 0)] [.row g1000 4 1 62 (λ_=>[sl 4 af.cells mD,.int .i64 mE,.int .i64 qV,.int .i64 qW]),.row 0 4 1 29 (λ_=>[.int .i64 0,.int .i64 0,.str [],.own 2 0 0 lO.length]),.row 0 4 lO.length 29 Ce,.row 0 4 1 29 (λ_=>[.int .i64 lZ,.int .i64 ma,.str mb,.own 4 0 0 kh.length]),.row 0 4 kh.length 29 GH]) ?_ awO (λ_=>[]) aDW ((DR.nil (D:=ae.D)).self) awN rfl rfl) (tk [0,1,6,3,2] ⟨.p,.i,.p,.p,⟨⟩⟩ ⟨(fM rfl),(nb rfl ⟨.i,.i,.s,.g,⟨⟩⟩),gh,(nb rfl ⟨.i,.i,.s,.oe,⟨⟩⟩),(bu awN),⟨⟩⟩)
 intro _ YF _ _ awP mD mE qV qW lO lZ ma mb kh awQ h YG Ce GH sT oY ac1 awR
 subst ac1
 subst awR
 refine aQ.round (.d (.d ⟨rfl,rfl,rfl,_,rfl,rfl,rfl,rfl,_,rfl,(sD h (λawS h=>?_) (λawS h=>?_))⟩))
 refine .t ⟨rfl,(.t ⟨rfl,(.t ⟨rfl,_,rfl,(.t (.t ⟨rfl,(.t ⟨rfl,(.t ⟨rfl,_,rfl,(.t (bk h λB6 afG h=>?_))⟩)⟩)⟩))⟩)⟩)⟩
 refine ⟨bn afG,_,(ba afG).trans (af.aO B6),(.t (.t (.t (.t (sE h (λawT h=>?_) (λawT h=>?_))))))⟩
 refine .d (.float [(0,true),(1,true),(2,true),(3,true),(4,true),(5,true),(6,true),(7,true),(8,true),(9,true),(10,true),(11,false),(12,true)] aKR ?_)
 refine ⟨rfl,rfl,rfl,_,rfl,rfl,rfl,rfl,_,rfl,(bk h λYo afH h=>⟨bn afH,_,(ba afH).trans (af.aO Yo),(bk h λB7 awU h=>(cx (Q8 awU) ?_))⟩)⟩
 obtain ⟨aDX,h,awV⟩:=bd h
 refine .cut (λσ η=>∃B8,∃B9,∃Ca,∃Cb,∃MC,(B8,B9,Ca,Cb,MC)=aDX/\σ=[(0,.aC 0 g1000 0 0),(1,.int .i64 a1),(4,.aC 1 0 0 0),(5,.aC 3 0 0 0),(6,.int .i64 B7),(26,.aC 0 g1000 0 0),(27,.aC 0 g1000 0 0),(28,.aC 0 g1000 0 0),(29,sl 4 af.cells mD),(30,.aC 0 g1000 0 0),(31,.aC 0 g1000 0 0),(32,.aC 0 g1000 0 1),(33,.int .i64 mE),(36,.int .i64 B6.aj),(37,.bool (B6.aj==6)),(52,.bool MC)]/\η=[.row g1000 4 1 62 (λ_=>[sl 4 af.cells B8,.int .i64 B9,.int .i64 Ca,.int .i64 Cb]),.row 0 4 1 29 (λ_=>[.int .i64 0,.int .i64 0,.str [],.own 2 0 0 lO.length]),.row 0 4 lO.length 29 Ce,.row 0 4 1 29 (λ_=>[.int .i64 lZ,.int .i64 ma,.str mb,.own 4 0 0 kh.length]),.row 0 4 kh.length 29 GH]) ?_ ?_
 refine sE h (λawW h=>?_) (λawW h=>?_)
 refine .t ?_
 obtain ⟨⟨acP,D8⟩,awX,h⟩:=bd h
 refine cb (aV (g1000:=g1000) awX) [0] ?_
 exact .t (ct ⟨_,_,_,_,_,si h,rfl,rfl⟩ (tk [0,1,2,3,4] ⟨.p,.i,.p,.p,.i,.p,.p,.p,.l,.p,.p,.p,.i,.i,.b,.b,⟨⟩⟩ ⟨(fM rfl),(nb rfl ⟨.i,.i,.s,.oe,⟨⟩⟩),(bu sT),(nb rfl ⟨.i,.i,.s,.oe,⟨⟩⟩),(bu oY),⟨⟩⟩))
 exact .f (.f (ct ⟨_,_,_,_,_,si h,rfl,rfl⟩ (tk [0,1,2,3,4] ⟨.p,.i,.p,.p,.i,.p,.p,.p,.l,.p,.p,.p,.i,.i,.b,.b,⟨⟩⟩ ⟨(fM rfl),(nb rfl ⟨.i,.i,.s,.oe,⟨⟩⟩),(bu sT),(nb rfl ⟨.i,.i,.s,.oe,⟨⟩⟩),(bu oY),⟨⟩⟩)))
 rintro _ _ ⟨B8,B9,Ca,Cb,MC,rfl,rfl,rfl⟩
 replace h:=awV
 refine sV h (λawY h=>?_) (λawY h=>?_)
 refine .float [(0,true),(1,true),(2,false),(3,false),(4,false),(5,false)] aKR ?_
 refine ⟨rfl,_,rfl,?_⟩
 obtain ⟨⟨Ii,D9⟩,awZ,h⟩:=bd h
 refine bz (YF _ _ _ awZ _) [0] λaHd aw0=>?_
 refine ⟨rfl,_,cJ,(qX (bF _ _ _ _ rfl) ⟨rfl,_,_,rfl,ao,(.ab 6 0 3 4 _ (λ_=>iB (oY).po) λaiK=>(.ab 6 1 3 5 _ (λ_=>iB (aw0).po) λaDY=>?_))⟩)⟩
 have ac2:=(DR.cp (ae.bx (x:=(ae.mk lZ ma mb kh)) (F0:=aiK) oY) (DR.cp (ae.bx (x:=Ii) (F0:=aDY) aw0) DR.dL))
 exact lg (YG _ _ _ _ _ _ _ _ _ _ _ h Ce _ sT ac2.self rfl rfl) (tk [0,1,2,3,6] ⟨.p,.i,.p,.p,⟨⟩⟩ ⟨(fM rfl),(nb rfl ⟨.i,.i,.s,.oe,⟨⟩⟩),(bu sT),(nb rfl ⟨.i,.i,.s,.oe,⟨⟩⟩),(bu ac2 ac2.len ac2.len),⟨⟩⟩)
 obtain ⟨aDZ,h,aw1⟩:=bd h
 refine .cut (λσ η=>∃AD,∃AE,∃AF,∃AG,∃MD,(AD,AE,AF,AG,MD)=aDZ/\σ=[(0,.aC 0 g1000 0 0),(1,.int .i64 a1),(4,.aC 1 0 0 0),(5,.aC 3 0 0 0),(6,.int .i64 B7),(26,.aC 0 g1000 0 0),(27,.aC 0 g1000 0 0),(28,.aC 0 g1000 0 0),(29,sl 4 af.cells mD),(30,.aC 0 g1000 0 0),(31,.aC 0 g1000 0 0),(32,.aC 0 g1000 0 1),(33,.int .i64 mE),(36,.int .i64 B6.aj),(37,.bool (B6.aj==6)),(64,.bool MD)]/\η=[.row g1000 4 1 62 (λ_=>[sl 4 af.cells AD,.int .i64 AE,.int .i64 AF,.int .i64 AG]),.row 0 4 1 29 (λ_=>[.int .i64 0,.int .i64 0,.str [],.own 2 0 0 lO.length]),.row 0 4 lO.length 29 Ce,.row 0 4 1 29 (λ_=>[.int .i64 lZ,.int .i64 ma,.str mb,.own 4 0 0 kh.length]),.row 0 4 kh.length 29 GH]) ?_ ?_
 refine sE h (λaw2 h=>?_) (λaw2 h=>?_)
 refine .t ?_
 obtain ⟨⟨acQ,Ea⟩,aw3,h⟩:=bd h
 refine cb (aV (g1000:=g1000) aw3) [0] ?_
 exact .t (ct ⟨_,_,_,_,_,si h,rfl,rfl⟩ (tk [0,1,2,3,4] ⟨.p,.i,.p,.p,.i,.p,.p,.p,.l,.p,.p,.p,.i,.i,.b,.b,⟨⟩⟩ ⟨(fM rfl),(nb rfl ⟨.i,.i,.s,.oe,⟨⟩⟩),(bu sT),(nb rfl ⟨.i,.i,.s,.oe,⟨⟩⟩),(bu oY),⟨⟩⟩))
 exact .f (.f (ct ⟨_,_,_,_,_,si h,rfl,rfl⟩ (tk [0,1,2,3,4] ⟨.p,.i,.p,.p,.i,.p,.p,.p,.l,.p,.p,.p,.i,.i,.b,.b,⟨⟩⟩ ⟨(fM rfl),(nb rfl ⟨.i,.i,.s,.oe,⟨⟩⟩),(bu sT),(nb rfl ⟨.i,.i,.s,.oe,⟨⟩⟩),(bu oY),⟨⟩⟩)))
 rintro _ _ ⟨AD,AE,AF,AG,MD,rfl,rfl,rfl⟩
 replace h:=aw1
 refine sV h (λaw4 h=>?_) (λaw4 h=>?_)
 refine .float [(0,true),(1,true),(2,false),(3,false),(4,false),(5,false)] aKR ?_
 refine ⟨rfl,_,rfl,?_⟩
 obtain ⟨⟨Yp,Eb⟩,aw5,h⟩:=bd h
 refine bz (YF _ _ _ aw5 _) [0] λaHe aw6=>?_
 refine ⟨rfl,_,cJ,(qX (bF _ _ _ _ rfl) ⟨rfl,_,_,rfl,ao,(.ab 6 0 3 4 _ (λ_=>iB (oY).po) λaD0=>(.ab 6 1 3 5 _ (λ_=>iB (aw6).po) λaD1=>?_))⟩)⟩
 have ac3:=(DR.cp (ae.bx (x:=(ae.mk lZ ma mb kh)) (F0:=aD0) oY) (DR.cp (ae.bx (x:=Yp) (F0:=aD1) aw6) DR.dL))
 exact lg (YG _ _ _ _ _ _ _ _ _ _ _ h Ce _ sT ac3.self rfl rfl) (tk [0,1,2,3,6] ⟨.p,.i,.p,.p,⟨⟩⟩ ⟨(fM rfl),(nb rfl ⟨.i,.i,.s,.oe,⟨⟩⟩),(bu sT),(nb rfl ⟨.i,.i,.s,.oe,⟨⟩⟩),(bu ac3 ac3.len ac3.len),⟨⟩⟩)
 obtain ⟨aD2,h,aw7⟩:=bd h
 refine .cut (λσ η=>∃ME,ME=aD2/\σ=[(0,.aC 0 g1000 0 0),(1,.int .i64 a1),(4,.aC 1 0 0 0),(5,.aC 3 0 0 0),(6,.int .i64 B7),(26,.aC 0 g1000 0 0),(27,.aC 0 g1000 0 0),(28,.aC 0 g1000 0 0),(29,sl 4 af.cells mD),(30,.aC 0 g1000 0 0),(31,.aC 0 g1000 0 0),(32,.aC 0 g1000 0 1),(33,.int .i64 mE),(36,.int .i64 B6.aj),(37,.bool (B6.aj==6)),(76,.bool ME)]/\η=[.row g1000 4 1 62 (λ_=>[sl 4 af.cells AD,.int .i64 AE,.int .i64 AF,.int .i64 AG]),.row 0 4 1 29 (λ_=>[.int .i64 0,.int .i64 0,.str [],.own 2 0 0 lO.length]),.row 0 4 lO.length 29 Ce,.row 0 4 1 29 (λ_=>[.int .i64 lZ,.int .i64 ma,.str mb,.own 4 0 0 kh.length]),.row 0 4 kh.length 29 GH]) ?_ ?_
 refine sD h (λaw8 h=>?_) (λaw8 h=>?_)
 exact .t (bk h λacR aw9 h=>(cx (DF aw9) (.t (.t (.t (ct ⟨_,si h,rfl,rfl⟩ (tk [0,1,2,3,4] ⟨.p,.i,.p,.p,.i,.p,.p,.p,.l,.p,.p,.p,.i,.i,.b,.b,⟨⟩⟩ ⟨(fM rfl),(nb rfl ⟨.i,.i,.s,.oe,⟨⟩⟩),(bu sT),(nb rfl ⟨.i,.i,.s,.oe,⟨⟩⟩),(bu oY),⟨⟩⟩)))))))
 exact .f (.f (.f (.f (ct ⟨_,si h,rfl,rfl⟩ (tk [0,1,2,3,4] ⟨.p,.i,.p,.p,.i,.p,.p,.p,.l,.p,.p,.p,.i,.i,.b,.b,⟨⟩⟩ ⟨(fM rfl),(nb rfl ⟨.i,.i,.s,.oe,⟨⟩⟩),(bu sT),(nb rfl ⟨.i,.i,.s,.oe,⟨⟩⟩),(bu oY),⟨⟩⟩)))))
 rintro _ _ ⟨ME,rfl,rfl,rfl⟩
 replace h:=aw7
 refine sV h (λaxa h=>?_) (λaxa h=>?_)
 refine .d ⟨rfl,rfl,rfl,_,rfl,rfl,rfl,rfl,_,_,rfl,ao,(.float [(0,true),(1,true),(2,true),(3,true),(4,true),(5,false),(6,false),(7,true),(8,false)] aKR ?_)⟩
 refine ⟨rfl,_,rfl,?_⟩
 obtain ⟨⟨Ij,Ec⟩,axb,h⟩:=bd h
 refine bz (YF _ _ _ axb _) [0] λaHf axc=>?_
 refine ⟨rfl,_,cJ,rfl,_,_,rfl,ao,(.ab 6 0 3 4 _ (λ_=>iB (oY).po) λaD3=>(.ab 6 1 3 5 _ (λ_=>iB (axc).po) λaD4=>?_))⟩
 have ac4:=(DR.cp (ae.bx (x:=(ae.mk lZ ma mb kh)) (F0:=aD3) oY) (DR.cp (ae.bx (x:=Ij) (F0:=aD4) axc) DR.dL))
 exact lg (YG _ _ _ _ _ _ _ _ _ _ _ h Ce _ sT ac4.self rfl rfl) (tk [0,1,2,3,6] ⟨.p,.i,.p,.p,⟨⟩⟩ ⟨(fM rfl),(nb rfl ⟨.i,.i,.s,.oe,⟨⟩⟩),(bu sT),(nb rfl ⟨.i,.i,.s,.oe,⟨⟩⟩),(bu ac4 ac4.len ac4.len),⟨⟩⟩)
 refine .d ⟨rfl,_,rfl,rfl,_,_,rfl,ao,?_⟩
 obtain rfl:=si h
 replace h:=afF
 obtain rfl:=si h
 exact ⟨rfl,_,rfl,(en [0,4] ⟨GH,oY.self,rfl,rfl⟩ (.aI ⟨.i,.i,.s,.oe,⟨⟩⟩) ⟨(ob rfl ⟨.l,.i,.i,.i,⟨⟩⟩),(bu oY oY.len oY.len),⟨⟩⟩)⟩
 exact ct ⟨_,_,_,_,_,_,_,_,_,Ce,GH,sT,oY,si h,rfl,rfl⟩ (tk [0,1,2,3,4] ⟨.p,.p,⟨⟩⟩ ⟨(fM rfl),(nb rfl ⟨.i,.i,.s,.oe,⟨⟩⟩),(bu sT),(nb rfl ⟨.i,.i,.s,.oe,⟨⟩⟩),(bu oY),⟨⟩⟩)
 exact .f (.f (.f (.f (.f (.f (.f (.f (.f (.f (.f (.f (.f (ct ⟨_,_,_,_,_,_,_,_,_,Ce,GH,sT,oY,si h,rfl,rfl⟩ (tk [0,1,2,3,4] ⟨.p,.p,⟨⟩⟩ ⟨(fM rfl),(nb rfl ⟨.i,.i,.s,.oe,⟨⟩⟩),(bu sT),(nb rfl ⟨.i,.i,.s,.oe,⟨⟩⟩),(bu oY),⟨⟩⟩))))))))))))))
 rintro _ _ ⟨XO,XP,XR,XS,Mv,XT,XU,XV,Jg,aj1,ac0,air,ac5,rfl,rfl,rfl⟩
 replace h:=afF
 refine .d ⟨rfl,_,rfl,rfl,_,_,rfl,ao,?_⟩
 obtain rfl:=si h
 exact ⟨rfl,_,rfl,(en [0,4] ⟨ac0,ac5.self,rfl,rfl⟩ (.aI ⟨.i,.i,.s,.oe,⟨⟩⟩) ⟨(ob rfl ⟨.l,.i,.i,.i,⟨⟩⟩),(bu ac5 ac5.len ac5.len),⟨⟩⟩)⟩
 intro F0 F1 nK nL a1 mD mE qV qW lO lZ ma mb kh o h
 exact .mk F0 nK F1 nL a1 mD mE qV qW lO lZ ma mb kh o h
 intro _ _ GG aj2 a0 r h g1000
 refine eT Tryz.func215 ?_
 refine .d (.d (.d ?_))
 obtain ⟨⟨avb,ajF⟩,axd,h⟩:=bd h
 refine cb (aV (g1000:=g1000) axd) [0] ?_
 refine sV h (λaxe h=>?_) (λaxe h=>?_)
 refine .d ?_
 obtain ⟨⟨ajG,avc⟩,axf,h⟩:=bd h
 refine bz (GG _ _ axf _) [0] λaHg axg=>?_
 refine ⟨_,cJ,rfl,_,_,rfl,ao,?_⟩
 obtain rfl:=si h
 refine ⟨rfl,_,rfl,(.ab 3 0 3 2 _ (λ_=>iB (axg).po) λaD5=>?_)⟩
 have ac6:=(DR.cp (ae.bx (x:=ajG) (F0:=aD5) axg) DR.dL)
 exact en [0,3] ⟨_,ac6.self,rfl,rfl⟩ (.aI ⟨.i,.i,.s,.oe,⟨⟩⟩) ⟨(ob rfl ⟨.l,.i,.i,.i,⟨⟩⟩),(bu ac6 ac6.len ac6.len),⟨⟩⟩
 refine .d (.d ?_)
 obtain ⟨⟨LO,vV⟩,W5,h⟩:=bd h
 refine cb (aV (g1000:=g1000) W5) [0] ?_
 refine sV h (λW6 h=>?_) (λW6 h=>?_)
 refine .d ?_
 obtain ⟨⟨Ih,avd⟩,axh,h⟩:=bd h
 refine bz (GG _ _ axh _) [0] λaHh axi=>?_
 refine ⟨_,cJ,rfl,_,_,rfl,ao,?_⟩
 obtain rfl:=si h
 refine ⟨rfl,_,rfl,(.ab 3 0 3 2 _ (λ_=>iB (axi).po) λaD6=>?_)⟩
 have ac7:=(DR.cp (ae.bx (x:=Ih) (F0:=aD6) axi) DR.dL)
 exact en [0,3] ⟨_,ac7.self,rfl,rfl⟩ (.aI ⟨.i,.i,.s,.oe,⟨⟩⟩) ⟨(ob rfl ⟨.l,.i,.i,.i,⟨⟩⟩),(bu ac7 ac7.len ac7.len),⟨⟩⟩
 refine .d ?_
 obtain ⟨⟨ave,avf⟩,axj,h⟩:=bd h
 refine bz (aj2 _ _ axj _) [0] λaD7 axk=>?_
 refine ⟨rfl,_,_,rfl,ao,?_⟩
 obtain rfl:=si h
 exact ⟨rfl,_,rfl,(en [0,2] ⟨aD7,axk.self,rfl,rfl⟩ (.aI ⟨.i,.i,.s,.oe,⟨⟩⟩) ⟨(ob rfl ⟨.l,.i,.i,.i,⟨⟩⟩),(bu axk),⟨⟩⟩)⟩
 intro _ MP a0 r h g1000
 refine eT Tryz.func227 ?_
 refine .d (.d ?_)
 obtain ⟨⟨SZ,ava⟩,axl,h⟩:=bd h
 refine bz (MP _ _ _ axl _) [0] λf240 d241=>?_
 refine ⟨rfl,_,_,rfl,ao,?_⟩
 obtain rfl:=si h
 exact ⟨rfl,_,rfl,(en [0,2] ⟨f240,d241.self,rfl,rfl⟩ (.aI ⟨.i,.i,.s,.oe,⟨⟩⟩) ⟨(ob rfl ⟨.l,.i,.i,.i,⟨⟩⟩),(bu d241),⟨⟩⟩)⟩
 intro _ _ UQ aj3 a0 a1 r h g1000
 refine eT Tryz.func183 ?_
 refine .d (.d ?_)
 obtain ⟨⟨XL,Gp⟩,axm,h⟩:=bd h
 refine bz (aj3 _ _ axm _) [0] λf245 d246=>?_
 refine ⟨rfl,_,_,rfl,ao,?_⟩
 obtain ⟨acq,h,YH⟩:=bd h
 refine .cut (λσ η=>∃BW,∃BX,∃BY,∃BZ,∃D2,∃B1,∃B2,∃B3,∃xY,∃f252:Nat->List PV,∃f258:Nat->List PV,DR ae.D D2.length f252 D2/\DR ae.D xY.length f258 xY/\.inl (BW,BX,BY,BZ,D2,B1,B2,B3,xY)=acq/\σ=[(4,.aC 1 0 0 0),(5,.aC 3 0 0 0)]/\η=[.row g1000 4 1 62 (λ_=>[sl 4 af.cells BW,.int .i64 BX,.int .i64 BY,.int .i64 BZ]),.row 0 4 1 29 (λ_=>[.int .i64 0,.int .i64 0,.str [],.own 2 0 0 D2.length]),.row 0 4 D2.length 29 f252,.row 0 4 1 29 (λ_=>[.int .i64 B1,.int .i64 B2,.str B3,.own 4 0 0 xY.length]),.row 0 4 xY.length 29 f258]) ?_ ?_
 have U1:=UQ _ _ _ _ _ _ _ _ _ _ _ h
 refine le (iV.rec (motive:=λU2 qo uU uV sU lh gy gz gA fQ U3 _=>∀f268:Nat->List PV,∀f274:Nat->List PV,DR ae.D lh.length f268 lh->DR ae.D fQ.length f274 fQ->a1=U2->acq=U3->aQ _ _ [(0,.aC 0 g1000 0 0),(1,.bool a1),(4,.aC 1 0 0 0),(5,.aC 3 0 0 0)] [.row g1000 4 1 62 (λ_=>[sl 4 af.cells qo,.int .i64 uU,.int .i64 uV,.int .i64 sU]),.row 0 4 1 29 (λ_=>[.int .i64 0,.int .i64 0,.str [],.own 2 0 0 lh.length]),.row 0 4 lh.length 29 f268,.row 0 4 1 29 (λ_=>[.int .i64 gy,.int .i64 gz,.str gA,.own 4 0 0 fQ.length]),.row 0 4 fQ.length 29 f274]) ?_ U1 (λ_=>[]) f245 ((DR.nil (D:=ae.D)).self) d246 rfl rfl) (tk [0,1,6,3,2] ⟨.p,.b,.p,.p,⟨⟩⟩ ⟨(fM rfl),(nb rfl ⟨.i,.i,.s,.g,⟨⟩⟩),gh,(nb rfl ⟨.i,.i,.s,.oe,⟨⟩⟩),(bu d246),⟨⟩⟩)
 intro _ Pf _ afI _ _ U2 qo uU uV sU lh gy gz gA fQ U3 h E7 f268 f274 d269 d275 Gf U4
 subst Gf
 subst U4
 refine aQ.round (.d (.d ⟨rfl,rfl,rfl,_,rfl,(sD h (λHK h=>?_) (λHK h=>?_))⟩))
 refine .d ?_
 obtain ⟨⟨acG,wJ⟩,axn,h⟩:=bd h
 refine cb (aV (g1000:=g1000) axn) [0] ?_
 refine sV h (λaxo h=>?_) (λaxo h=>?_)
 refine .d (.d (sV h (λXE h=>?_) (λXE h=>?_)))
 refine ⟨rfl,_,rfl,(.t (bk h λGq axp h=>(R9 (kz axp) ⟨.aI ⟨.i,.i,.s,(.rd d275),⟨⟩⟩,⟨⟩⟩ (.t (sV h (λaxq h=>?_) (λaxq h=>?_))))))⟩
 refine .t ?_
 obtain ⟨⟨LA,za⟩,axr,h⟩:=bd h
 refine cb (aV (g1000:=g1000) axr) [0] ?_
 refine .t (sV h (λaxs h=>?_) (λaxs h=>?_))
 refine .d (bk h λacH axt h=>(cb (bh (g1000:=g1000) axt) [0] ?_))
 refine .d (.float [(0,true),(1,true),(2,false),(3,false),(4,false),(5,false)] aKR ?_)
 refine ⟨rfl,_,rfl,?_⟩
 obtain ⟨⟨HV,acI⟩,axu,h⟩:=bd h
 refine bz (Pf _ _ axu _) [0] λf312 d313=>?_
 refine ⟨rfl,_,cJ,(qX (bF _ _ _ _ rfl) ⟨rfl,_,_,rfl,ao,?_⟩)⟩
 obtain rfl:=si h
 replace h:=YH
 obtain rfl:=si h
 refine ⟨rfl,_,rfl,(.ab 6 0 3 4 _ (λ_=>iB (d275).po) λaD8=>(.ab 6 1 3 5 _ (λ_=>iB (d313).po) λaD9=>?_))⟩
 have d316:=(DR.cp (ae.bx (x:=(ae.mk gy gz gA fQ)) (F0:=aD8) d275) (DR.cp (ae.bx (x:=HV) (F0:=aD9) d313) DR.dL))
 exact en [0,6] ⟨_,d316.self,rfl,rfl⟩ (.aI ⟨.i,.i,.s,.oe,⟨⟩⟩) ⟨(ob rfl ⟨.l,.i,.i,.i,⟨⟩⟩),(bu d316 d316.len d316.len),⟨⟩⟩
 refine .d ?_
 obtain ⟨⟨Ym,Lr⟩,T8,h⟩:=bd h
 refine bz (Pf _ _ T8 _) [0] λf320 d321=>?_
 refine ⟨rfl,_,_,rfl,ao,(.d (bk h λD5 axv h=>(cb (bh (g1000:=g1000) axv) [0] ?_)))⟩
 refine ⟨rfl,_,rfl,rfl,_,rfl,_,cJ,(qX (bF _ _ _ _ rfl) ⟨rfl,_,_,rfl,ao,(.ab 7 0 3 4 _ (λ_=>iB (d275).po) λaEa=>(.ab 7 1 3 5 _ (λ_=>iB (d321).po) λaEb=>?_))⟩)⟩
 have d326:=(DR.cp (ae.bx (x:=(ae.mk gy gz gA fQ)) (F0:=aEa) d275) (DR.cp (ae.bx (x:=Ym) (F0:=aEb) d321) DR.dL))
 exact lg (E7 _ _ _ _ _ _ _ _ _ _ _ h f268 _ d269 d326.self rfl rfl) (tk [0,1,2,3,7] ⟨.p,.b,.p,.p,⟨⟩⟩ ⟨(fM rfl),(nb rfl ⟨.i,.i,.s,.oe,⟨⟩⟩),(bu d269),(nb rfl ⟨.i,.i,.s,.oe,⟨⟩⟩),(bu d326 d326.len d326.len),⟨⟩⟩)
 refine .f (.f (.f (.d ?_)))
 obtain ⟨⟨Ig,acJ⟩,axw,h⟩:=bd h
 refine bz (Pf _ _ axw _) [0] λf330 d331=>?_
 refine ⟨rfl,_,_,rfl,ao,(.d (bk h λD6 axx h=>(cb (bh (g1000:=g1000) axx) [0] ?_)))⟩
 refine ⟨rfl,_,rfl,rfl,_,rfl,_,cJ,(qX (bF _ _ _ _ rfl) ⟨rfl,_,_,rfl,ao,(.ab 7 0 3 4 _ (λ_=>iB (d275).po) λaEc=>(.ab 7 1 3 5 _ (λ_=>iB (d331).po) λaEd=>?_))⟩)⟩
 have d336:=(DR.cp (ae.bx (x:=(ae.mk gy gz gA fQ)) (F0:=aEc) d275) (DR.cp (ae.bx (x:=Ig) (F0:=aEd) d331) DR.dL))
 exact lg (E7 _ _ _ _ _ _ _ _ _ _ _ h f268 _ d269 d336.self rfl rfl) (tk [0,1,2,3,7] ⟨.p,.b,.p,.p,⟨⟩⟩ ⟨(fM rfl),(nb rfl ⟨.i,.i,.s,.oe,⟨⟩⟩),(bu d269),(nb rfl ⟨.i,.i,.s,.oe,⟨⟩⟩),(bu d336 d336.len d336.len),⟨⟩⟩)
 refine .f (.f (.f (.f (.f (.f (.d ?_))))))
 obtain ⟨⟨Yn,acK⟩,axy,h⟩:=bd h
 refine bz (Pf _ _ axy _) [0] λf340 d341=>?_
 refine ⟨rfl,_,_,rfl,ao,(.d (bk h λuB U5 h=>(cb (bh (g1000:=g1000) U5) [0] ?_)))⟩
 refine ⟨rfl,_,rfl,rfl,_,rfl,_,cJ,(qX (bF _ _ _ _ rfl) ⟨rfl,_,_,rfl,ao,(.ab 7 0 3 4 _ (λ_=>iB (d275).po) λaEe=>(.ab 7 1 3 5 _ (λ_=>iB (d341).po) λaEf=>?_))⟩)⟩
 have d346:=(DR.cp (ae.bx (x:=(ae.mk gy gz gA fQ)) (F0:=aEe) d275) (DR.cp (ae.bx (x:=Yn) (F0:=aEf) d341) DR.dL))
 exact lg (E7 _ _ _ _ _ _ _ _ _ _ _ h f268 _ d269 d346.self rfl rfl) (tk [0,1,2,3,7] ⟨.p,.b,.p,.p,⟨⟩⟩ ⟨(fM rfl),(nb rfl ⟨.i,.i,.s,.oe,⟨⟩⟩),(bu d269),(nb rfl ⟨.i,.i,.s,.oe,⟨⟩⟩),(bu d346 d346.len d346.len),⟨⟩⟩)
 refine .d ?_
 obtain ⟨⟨acL,Q6⟩,axz,h⟩:=bd h
 refine cb (aV (g1000:=g1000) axz) [0] ?_
 refine sV h (λHM h=>?_) (λHM h=>?_)
 refine .d ?_
 obtain ⟨⟨Q7,acM⟩,axA,h⟩:=bd h
 refine cb (iS (g1000:=g1000) axA) [0] ?_
 refine .d ?_
 obtain ⟨⟨Bz,zh⟩,axB,h⟩:=bd h
 refine cb (eM (g1000:=g1000) axB) [0] ?_
 refine sV h (λaxC h=>?_) (λaxC h=>?_)
 refine ⟨rfl,_,rfl,_,cJ,(axD 5 0 3 4 (λMQ=>[.row g1000 4 1 62 (λ_=>zh.lit),.row 0 4 1 29 (λ_=>[.int .i64 0,.int .i64 0,.str [],.own 2 0 0 lh.length]),.row 0 4 lh.length 29 f268,.row 0 4 1 29 (λ_=>[.int .i64 gy,.int .i64 gz,.str gA,.own 4 0 0 fQ.length]),.dead,.row 0 4 1 29 (kg [[.int .i64 gy,.int .i64 gz,.str gA,.dY 4 fQ.length 29 f274 MQ]])]) (λMQ=>YI [.int .i64 gy,.int .i64 gz,.str gA,.own 4 0 0 fQ.length] [.int .i64 gy,.int .i64 gz,.str gA,.dY 4 fQ.length 29 f274 MQ] (kg [[.int .i64 gy,.int .i64 gz,.str gA,.dY 4 fQ.length 29 f274 MQ]]) aKL rfl rfl (A5 [.int .i64 gy,.int .i64 gz,.str gA,.dY 4 fQ.length 29 f274 MQ]) (d275).po rfl rfl rfl rfl aKL rfl) λMQ=>?_)⟩
 have d359:=(DR.cp (ae.bx (x:=(ae.mk gy gz gA fQ)) (F0:=MQ) d275) DR.dL)
 obtain ⟨⟨acN,wH⟩,U6,h⟩:=bd h
 refine Sd (afI _ _ _ U6 _ _ _ _ d359) [0,5] ⟨rfl,(Q9 d359),⟨⟩⟩ λf363 d364=>?_
 exact qX (bF _ _ _ _ rfl) ⟨rfl,_,_,rfl,ao,(lg (E7 _ _ _ _ _ _ _ _ _ _ _ h f268 f363 d269 d364 rfl rfl) (tk [0,1,2,3,6] ⟨.p,.b,.p,.p,⟨⟩⟩ ⟨(fM rfl),(nb rfl ⟨.i,.i,.s,.oe,⟨⟩⟩),(bu d269),(nb rfl ⟨.i,.i,.s,.oe,⟨⟩⟩),(bu d364),⟨⟩⟩))⟩
 refine ⟨rfl,_,rfl,_,cJ,(qX (bF _ _ _ _ rfl) ⟨rfl,_,_,rfl,ao,(.ab 5 0 3 4 _ (λ_=>iB (d275).po) λaju=>?_)⟩)⟩
 have d366:=(DR.cp (ae.bx (x:=(ae.mk gy gz gA fQ)) (F0:=aju) d275) DR.dL)
 exact lg (E7 _ _ _ _ _ _ _ _ _ _ _ h f268 _ d269 d366.self rfl rfl) (tk [0,1,2,3,5] ⟨.p,.b,.p,.p,⟨⟩⟩ ⟨(fM rfl),(nb rfl ⟨.i,.i,.s,.oe,⟨⟩⟩),(bu d269),(nb rfl ⟨.i,.i,.s,.oe,⟨⟩⟩),(bu d366 d366.len d366.len),⟨⟩⟩)
 refine .d ?_
 obtain ⟨⟨F8,DV⟩,Xz,h⟩:=bd h
 refine cb (eM (g1000:=g1000) Xz) [0] ?_
 refine sV h (λaxE h=>?_) (λaxE h=>?_)
 refine ⟨rfl,_,rfl,_,cJ,(axD 5 0 3 4 (λMR=>[.row g1000 4 1 62 (λ_=>DV.lit),.row 0 4 1 29 (λ_=>[.int .i64 0,.int .i64 0,.str [],.own 2 0 0 lh.length]),.row 0 4 lh.length 29 f268,.row 0 4 1 29 (λ_=>[.int .i64 gy,.int .i64 gz,.str gA,.own 4 0 0 fQ.length]),.dead,.row 0 4 1 29 (kg [[.int .i64 gy,.int .i64 gz,.str gA,.dY 4 fQ.length 29 f274 MR]])]) (λMR=>YI [.int .i64 gy,.int .i64 gz,.str gA,.own 4 0 0 fQ.length] [.int .i64 gy,.int .i64 gz,.str gA,.dY 4 fQ.length 29 f274 MR] (kg [[.int .i64 gy,.int .i64 gz,.str gA,.dY 4 fQ.length 29 f274 MR]]) aKL rfl rfl (A5 [.int .i64 gy,.int .i64 gz,.str gA,.dY 4 fQ.length 29 f274 MR]) (d275).po rfl rfl rfl rfl aKL rfl) λMR=>?_)⟩
 have axF:=(DR.cp (ae.bx (x:=(ae.mk gy gz gA fQ)) (F0:=MR) d275) DR.dL)
 obtain ⟨⟨acO,D7⟩,axG,h⟩:=bd h
 refine Sd (afI _ _ _ axG _ _ _ _ axF) [0,5] ⟨rfl,(Q9 axF),⟨⟩⟩ λaEg axH=>?_
 exact qX (bF _ _ _ _ rfl) ⟨rfl,_,_,rfl,ao,(lg (E7 _ _ _ _ _ _ _ _ _ _ _ h f268 aEg d269 axH rfl rfl) (tk [0,1,2,3,6] ⟨.p,.b,.p,.p,⟨⟩⟩ ⟨(fM rfl),(nb rfl ⟨.i,.i,.s,.oe,⟨⟩⟩),(bu d269),(nb rfl ⟨.i,.i,.s,.oe,⟨⟩⟩),(bu axH),⟨⟩⟩))⟩
 refine .d ⟨rfl,_,rfl,rfl,_,_,rfl,ao,?_⟩
 obtain rfl:=si h
 replace h:=YH
 obtain rfl:=si h
 exact ⟨rfl,_,rfl,(en [0,4] ⟨f274,d275.self,rfl,rfl⟩ (.aI ⟨.i,.i,.s,.oe,⟨⟩⟩) ⟨(ob rfl ⟨.l,.i,.i,.i,⟨⟩⟩),(bu d275 d275.len d275.len),⟨⟩⟩)⟩
 exact ct ⟨_,_,_,_,_,_,_,_,_,f268,f274,d269,d275,si h,rfl,rfl⟩ (tk [0,1,2,3,4] ⟨.p,.p,⟨⟩⟩ ⟨(fM rfl),(nb rfl ⟨.i,.i,.s,.oe,⟨⟩⟩),(bu d269),(nb rfl ⟨.i,.i,.s,.oe,⟨⟩⟩),(bu d275),⟨⟩⟩)
 rintro _ _ ⟨BW,BX,BY,BZ,D2,B1,B2,B3,xY,f252,f258,d253,d259,rfl,rfl,rfl⟩
 replace h:=YH
 refine .d ⟨rfl,_,rfl,rfl,_,_,rfl,ao,?_⟩
 obtain rfl:=si h
 exact ⟨rfl,_,rfl,(en [0,4] ⟨f258,d259.self,rfl,rfl⟩ (.aI ⟨.i,.i,.s,.oe,⟨⟩⟩) ⟨(ob rfl ⟨.l,.i,.i,.i,⟨⟩⟩),(bu d259 d259.len d259.len),⟨⟩⟩)⟩
 intro F0 F1 F2 nK nL hF2 a1 qo uU uV sU lh gy gz gA fQ o h
 exact .mk F0 nK F2 hF2 F1 nL a1 qo uU uV sU lh gy gz gA fQ o h
 intro _ aj4 a0 a1 r h g1000 g1001 eK gX iR
 obtain rfl:=iR.len
 refine eT Tryz.func210 ?_
 refine .d (.d (bk h λafD aj5 h=>(cb (bh (g1000:=g1000) aj5) [0] ?_)))
 refine .d (.d ?_)
 obtain ⟨⟨afE,E5⟩,aj6,h⟩:=bd h
 refine cb (aV (g1000:=g1000) aj6) [0] ?_
 refine sV h (λaj7 h=>?_) (λaj7 h=>?_)
 refine .d ?_
 obtain rfl:=si h
 exact en [0,1,1] ⟨gX,iR.self,rfl,rfl⟩ (.oe) ⟨(ob rfl ⟨.l,.i,.i,.i,⟨⟩⟩),dd,(bu iR),⟨⟩⟩
 obtain ⟨O8,h,YJ⟩:=bd h
 refine .cut (λσ η=>∃Jm,∃Jn,∃Jo,∃Jp,∃zV,∃Pg:Nat->List PV,DR ae.D zV.length Pg zV/\.inl (Jm,Jn,Jo,Jp,zV)=O8/\σ=[(1,.own 2 0 0 zV.length)]/\η=[.row g1000 4 1 62 (λ_=>[sl 4 af.cells Jm,.int .i64 Jn,.int .i64 Jo,.int .i64 Jp]),.dead,.row 0 4 zV.length 29 Pg]) ?_ ?_
 have aj8:=aj4 _ _ _ _ _ _ h
 refine le (jx.rec (motive:=λeE oJ oK mY kO afJ _=>∀Jt:Nat->List PV,DR ae.D kO.length Jt kO->O8=afJ->aQ _ _ [(0,.aC 0 g1000 0 0),(1,.own 2 0 0 kO.length)] [.row g1000 4 1 62 (λ_=>[sl 4 af.cells eE,.int .i64 oJ,.int .i64 oK,.int .i64 mY]),.dead,.row 0 4 kO.length 29 Jt]) ?_ aj8 gX iR rfl) (tk [0,1,1] ⟨.p,.oe,⟨⟩⟩ ⟨(fM rfl),dd,(bu iR),⟨⟩⟩)
 intro _ aj9 _ _ eE oJ oK mY kO afJ h aka Jt xZ  akb
 subst akb
 refine aQ.round (.d (.d ⟨rfl,rfl,rfl,_,rfl,(sD h (λakc h=>?_) (λakc h=>?_))⟩))
 refine .d ?_
 obtain ⟨⟨pY,Pa⟩,akd,h⟩:=bd h
 refine bz (aj9 _ _ akd _) [0] λaGs Ph=>?_
 refine ⟨_,dx,(bk h λCc xa h=>(.fx ⟨rfl,rfl,(λ_ _=>rfl),DR.xA xZ xa,Cc.length,dV Jt kO.length [.int .i64 pY.aj,.int .i64 pY.aP,.str pY.aq,.own 3 0 0 pY.ah.length],DR.ln xZ xa,dE (DR.ln xZ xa) ⟨.same _,.same _,.same _,.same _,trivial⟩,(.d ?_)⟩))⟩
 obtain ⟨⟨Pb,tK⟩,ake,h⟩:=bd h
 refine cb (aV (g1000:=g1000) ake) [0] ?_
 refine jj h (λakf h=>?_) (λakf h=>?_)
 refine .d (bk h λPc akg h=>(cb (bh (g1000:=g1000) akg) [0] ?_))
 refine .d ?_
 obtain rfl:=si h
 replace h:=YJ
 obtain rfl:=si h
 refine .ab 2 kO.length 3 3 _ (λ_=>rT (DR.lq xZ xa) (Ph).po) λaxI=>?_
 have afK:=DR.jE xZ xa (ae.bx (x:=pY) (F0:=axI) Ph)
 exact en [0,1,2] ⟨_,afK.self,rfl,rfl⟩ (.oe) ⟨(ob rfl ⟨.l,.i,.i,.i,⟨⟩⟩),dd,(bu afK),⟨⟩⟩
 refine .ab 2 kO.length 3 3 _ (λ_=>rT (DR.lq xZ xa) (Ph).po) λaxJ=>?_
 have afL:=DR.jE xZ xa (ae.bx (x:=pY) (F0:=axJ) Ph)
 exact lg (aka _ _ _ _ _ _ h _ afL rfl) (tk [0,1,2] ⟨.p,.oe,⟨⟩⟩ ⟨(fM rfl),dd,(bu afL),⟨⟩⟩)
 exact ct ⟨_,_,_,_,_,Jt,xZ,si h,rfl,rfl⟩ (tk [0,1,2] ⟨.oe,⟨⟩⟩ ⟨(fM rfl),dd,(bu xZ),⟨⟩⟩)
 rintro _ _ ⟨Jm,Jn,Jo,Jp,zV,Pg,afM,rfl,rfl,rfl⟩
 replace h:=YJ
 refine .d ?_
 obtain rfl:=si h
 exact en [0,1,2] ⟨Pg,afM.self,rfl,rfl⟩ (.oe) ⟨(ob rfl ⟨.l,.i,.i,.i,⟨⟩⟩),dd,(bu afM),⟨⟩⟩
 intro F0 F1 nK nL eE oJ oK mY kO o h
 exact .mk F0 nK F1 nL eE oJ oK mY kO o h
 intro _ _ _ _ akh pz GI me a0 r h g1000
 refine eT Tryz.func209 ?_
 refine .d (.d (.d ⟨rfl,rfl,rfl,_,rfl,rfl,rfl,rfl,_,rfl,(sD h (λahj h=>?_) (λahj h=>?_))⟩))
 refine .d ?_
 obtain ⟨⟨v95,v96⟩,ahk,h⟩:=bd h
 refine bz (fh (g1000:=g1000) ahk) [0] λf98 d99=>?_
 refine ⟨rfl,_,_,rfl,ao,?_⟩
 obtain rfl:=si h
 exact ⟨rfl,_,rfl,(en [0,2] ⟨f98,d99.self,rfl,rfl⟩ (.aI ⟨.i,.i,.s,.oe,⟨⟩⟩) ⟨(ob rfl ⟨.l,.i,.i,.i,⟨⟩⟩),(bu d99),⟨⟩⟩)⟩
 refine .d (.float [(0,true),(1,true),(2,true),(3,true),(4,true),(5,true),(6,true),(7,true),(8,true),(9,true),(10,false),(11,false)] aKR ?_)
 refine ⟨rfl,rfl,rfl,_,rfl,rfl,rfl,rfl,_,rfl,(bk h λBV afN h=>⟨bn afN,_,(ba afN).trans (af.aO BV),rfl,rfl,rfl,rfl,rfl,rfl,rfl,_,_,rfl,ao,?_⟩)⟩
 refine .d (.d ⟨rfl,rfl,_,rfl,(sE h (λHD h=>?_) (λHD h=>?_))⟩)
 refine .d ⟨rfl,rfl,rfl,_,rfl,rfl,rfl,rfl,_,_,rfl,ao,(.d ⟨rfl,rfl,_,rfl,rfl,_,_,rfl,ao,?_⟩)⟩
 exact aJV
 refine .d ⟨rfl,rfl,_,rfl,(sE h (λHF h=>?_) (λHF h=>?_))⟩
 refine .d ⟨rfl,rfl,rfl,_,rfl,rfl,rfl,rfl,_,_,rfl,ao,(.d ⟨rfl,rfl,_,rfl,(qX (bF _ _ _ _ rfl) ⟨rfl,_,_,rfl,ao,?_⟩)⟩)⟩
 exact aJV
 refine .d ⟨rfl,rfl,_,rfl,(sE h (λHG h=>?_) (λHG h=>?_))⟩
 refine .d ?_
 obtain ⟨⟨v105,Ic⟩,I3,h⟩:=bd h
 refine bz (mo (g1000:=g1000) I3) [0] λf108 d109=>?_
 refine ⟨rfl,_,_,rfl,ao,?_⟩
 obtain rfl:=si h
 exact ⟨rfl,_,rfl,(en [0,3] ⟨f108,d109.self,rfl,rfl⟩ (.aI ⟨.i,.i,.s,.oe,⟨⟩⟩) ⟨(ob rfl ⟨.l,.i,.i,.i,⟨⟩⟩),(bu d109),⟨⟩⟩)⟩
 refine .d ?_
 obtain ⟨⟨Vp,LJ⟩,WZ,h⟩:=bd h
 refine cb (aV (g1000:=g1000) WZ) [0] ?_
 refine sV h (λW0 h=>?_) (λW0 h=>?_)
 refine .d ⟨rfl,_,_,rfl,ao,?_⟩
 exact aJV
 refine .d ?_
 obtain ⟨⟨Ie,Ge⟩,HY,h⟩:=bd h
 refine cb (aV (g1000:=g1000) HY) [0] ?_
 refine sV h (λaxK h=>?_) (λaxK h=>?_)
 refine .d ⟨rfl,_,_,rfl,ao,?_⟩
 exact aJV
 refine .d ?_
 obtain ⟨⟨au2,Qw⟩,axL,h⟩:=bd h
 refine cb (aV (g1000:=g1000) axL) [0] ?_
 refine sV h (λaxM h=>?_) (λaxM h=>?_)
 refine .d ⟨rfl,_,_,rfl,ao,?_⟩
 exact aJV
 refine .d ?_
 obtain ⟨⟨SR,LK⟩,axN,h⟩:=bd h
 refine cb (aV (g1000:=g1000) axN) [0] ?_
 refine sV h (λTx h=>?_) (λTx h=>?_)
 refine .d ?_
 obtain ⟨⟨SS,v127⟩,YK,h⟩:=bd h
 refine bz (akh _ _ YK _) [0] λf129 d130=>?_
 refine ⟨rfl,_,_,rfl,ao,?_⟩
 obtain rfl:=si h
 exact ⟨rfl,_,rfl,(en [0,3] ⟨f129,d130.self,rfl,rfl⟩ (.aI ⟨.i,.i,.s,.oe,⟨⟩⟩) ⟨(ob rfl ⟨.l,.i,.i,.i,⟨⟩⟩),(bu d130),⟨⟩⟩)⟩
 refine .d ?_
 obtain ⟨⟨v131,ajy⟩,axO,h⟩:=bd h
 refine cb (aV (g1000:=g1000) axO) [0] ?_
 refine sV h (λTB h=>?_) (λTB h=>?_)
 refine .d ?_
 obtain ⟨⟨SV,Vq⟩,axP,h⟩:=bd h
 refine bz (pz _ _ axP _) [0] λf138 d139=>?_
 refine ⟨rfl,_,_,rfl,ao,(.d (bk h λVr axQ h=>(cb (bh (g1000:=g1000) axQ) [0] ?_)))⟩
 refine .d ⟨rfl,_,rfl,rfl,_,_,rfl,ao,?_⟩
 obtain rfl:=si h
 exact ⟨rfl,_,rfl,(en [0,3] ⟨f138,d139.self,rfl,rfl⟩ (.aI ⟨.i,.i,.s,.oe,⟨⟩⟩) ⟨(ob rfl ⟨.l,.i,.i,.i,⟨⟩⟩),(bu d139),⟨⟩⟩)⟩
 refine .d ?_
 obtain ⟨⟨au3,v143⟩,TC,h⟩:=bd h
 refine cb (aV (g1000:=g1000) TC) [0] ?_
 refine sV h (λTD h=>?_) (λTD h=>?_)
 refine .d (.d (.d ?_))
 obtain ⟨⟨v146,Lq⟩,TF,h⟩:=bd h
 refine cb (aV (g1000:=g1000) TF) [0] ?_
 refine jj h (λTG h=>?_) (λTG h=>?_)
 obtain ⟨⟨SW,Qx⟩,axR,h⟩:=bd h
 refine cb (iS (g1000:=g1000) axR) [0] ?_
 refine .d (pcN 1 (a1:=[.aC 0 g1000 0 0,.own 3 0 0 0]) (h2:=[.row g1000 4 1 62 (λ_=>Qx.lit),.row 0 4 1 29 (λ_=>[.int .i64 0,.int .i64 0,.str [],.cd]),.row 0 4 1 101 (λ_=>BV.lit),.row 0 4 0 29 (λ_=>[])]) ?_)
 obtain ⟨⟨au4,v154⟩,axS,h⟩:=bd h
 refine Sd (GI _ _ _ axS _ _ _ _ (DR.nil (D:=ae.D))) [0,3] ⟨rfl,(Q9 (DR.nil (D:=ae.D))),⟨⟩⟩ λf156 d157=>?_
 refine qX (bF _ _ _ _ rfl) ⟨rfl,_,_,rfl,ao,?_⟩
 obtain rfl:=si h
 exact ⟨rfl,_,rfl,(en [0,4] ⟨f156,d157.self,rfl,rfl⟩ (.aI ⟨.i,.i,.s,.oe,⟨⟩⟩) ⟨(ob rfl ⟨.l,.i,.i,.i,⟨⟩⟩),(bu d157 d157.len d157.len),⟨⟩⟩)⟩
 refine .d (pcN 1 (a1:=[.aC 0 g1000 0 0,.own 3 0 0 0]) (h2:=[.row g1000 4 1 62 (λ_=>Lq.lit),.row 0 4 1 29 (λ_=>[.int .i64 0,.int .i64 0,.str [],.cd]),.row 0 4 1 101 (λ_=>BV.lit),.row 0 4 0 29 (λ_=>[])]) ?_)
 obtain ⟨⟨Qy,v159⟩,UM,h⟩:=bd h
 refine Sd (GI _ _ _ UM _ _ _ _ (DR.nil (D:=ae.D))) [0,3] ⟨rfl,(Q9 (DR.nil (D:=ae.D))),⟨⟩⟩ λf161 d162=>?_
 refine qX (bF _ _ _ _ rfl) ⟨rfl,_,_,rfl,ao,?_⟩
 obtain rfl:=si h
 exact ⟨rfl,_,rfl,(en [0,4] ⟨f161,d162.self,rfl,rfl⟩ (.aI ⟨.i,.i,.s,.oe,⟨⟩⟩) ⟨(ob rfl ⟨.l,.i,.i,.i,⟨⟩⟩),(bu d162 d162.len d162.len),⟨⟩⟩)⟩
 refine .d ?_
 obtain ⟨⟨au5,v164⟩,axT,h⟩:=bd h
 refine cb (aV (g1000:=g1000) axT) [0] ?_
 refine sV h (λaxU h=>?_) (λaxU h=>?_)
 refine .d (pcN 2 (a1:=[.aC 0 g1000 0 0,.int .i64 24,.own 3 0 0 0]) (h2:=[.row g1000 4 1 62 (λ_=>v164.lit),.row 0 4 1 29 (λ_=>[.int .i64 0,.int .i64 0,.str [],.cd]),.row 0 4 1 101 (λ_=>BV.lit),.row 0 4 0 29 (λ_=>[])]) ?_)
 obtain ⟨⟨v167,v168⟩,UN,h⟩:=bd h
 refine Sd (uT (g1000:=g1000) (g1001:=0) UN (DR.nil (D:=ae.D))) [0,3] ⟨rfl,(Q9 (DR.nil (D:=ae.D))),⟨⟩⟩ λf170 d171=>?_
 refine .d (.d ?_)
 obtain ⟨⟨au6,v173⟩,axV,h⟩:=bd h
 refine cb (aV (g1000:=g1000) axV) [0] ?_
 refine sV h (λaxW h=>?_) (λaxW h=>?_)
 obtain ⟨⟨acp,HQ⟩,HZ,h⟩:=bd h
 refine Sd (uT (g1000:=g1000) (g1001:=0) HZ d171) [0,4] ⟨rfl,(Q9 d171),⟨⟩⟩ λf179 d180=>?_
 refine .d ?_
 obtain ⟨⟨Mt,v182⟩,axX,h⟩:=bd h
 refine bz (me _ _ axX _) [0] λf184 d185=>?_
 refine ⟨_,dx,(bk h λajz Ju h=>(.fx ⟨rfl,rfl,(λ_ _=>rfl),DR.xA d180 Ju,ajz.length,dV f179 acp.length [.int .i64 Mt.aj,.int .i64 Mt.aP,.str Mt.aq,.own 6 0 0 Mt.ah.length],DR.ln d180 Ju,dE (DR.ln d180 Ju) ⟨.same _,.same _,.same _,.same _,trivial⟩,(.d (qX (bF _ _ _ _ rfl) ⟨rfl,_,_,rfl,ao,?_⟩))⟩))⟩
 obtain rfl:=si h
 refine ⟨rfl,_,rfl,(.ab 5 acp.length 3 6 _ (λ_=>rT (DR.lq d180 Ju) (d185).po) λaEh=>?_)⟩
 have d189:=DR.jE d180 Ju (ae.bx (x:=Mt) (F0:=aEh) d185)
 exact en [0,5] ⟨_,d189.self,rfl,rfl⟩ (.aI ⟨.i,.i,.s,.oe,⟨⟩⟩) ⟨(ob rfl ⟨.l,.i,.i,.i,⟨⟩⟩),(bu d189 d189.len d189.len),⟨⟩⟩
 refine .d ?_
 obtain ⟨⟨DT,au7⟩,axY,h⟩:=bd h
 refine bz (me _ _ axY _) [0] λf193 d194=>?_
 refine ⟨_,dx,(bk h λajA zM h=>(.fx ⟨rfl,rfl,(λ_ _=>rfl),DR.xA d171 zM,ajA.length,dV f170 v167.length [.int .i64 DT.aj,.int .i64 DT.aP,.str DT.aq,.own 5 0 0 DT.ah.length],DR.ln d171 zM,dE (DR.ln d171 zM) ⟨.same _,.same _,.same _,.same _,trivial⟩,(.d (qX (bF _ _ _ _ rfl) ⟨rfl,_,_,rfl,ao,?_⟩))⟩))⟩
 obtain rfl:=si h
 refine ⟨rfl,_,rfl,(.ab 4 v167.length 3 5 _ (λ_=>rT (DR.lq d171 zM) (d194).po) λaEi=>?_)⟩
 have d198:=DR.jE d171 zM (ae.bx (x:=DT) (F0:=aEi) d194)
 exact en [0,4] ⟨_,d198.self,rfl,rfl⟩ (.aI ⟨.i,.i,.s,.oe,⟨⟩⟩) ⟨(ob rfl ⟨.l,.i,.i,.i,⟨⟩⟩),(bu d198 d198.len d198.len),⟨⟩⟩
 refine .d ?_
 obtain ⟨ajC,h,afO⟩:=bd h
 refine .cut (λσ η=>∃XG,∃XH,∃XI,∃XJ,∃XK,.inl (XG,XH,XI,XJ,XK)=ajC/\σ=[(0,.aC 0 g1000 0 0),(2,.aC 1 0 0 0),(7,.str XK)]/\η=[.row g1000 4 1 62 (λ_=>[sl 4 af.cells XG,.int .i64 XH,.int .i64 XI,.int .i64 XJ]),.row 0 4 1 29 (λ_=>[.int .i64 0,.int .i64 0,.str [],.own 2 0 0 0]),.row 0 4 0 29 (λ_=>[])]) ?_ ?_
 refine .d ?_
 obtain ⟨⟨au8,v208⟩,axZ,h⟩:=bd h
 refine cb (aV (g1000:=g1000) axZ) [0] ?_
 refine jj h (λax0 h=>?_) (λax0 h=>?_)
 refine .d ?_
 obtain ⟨⟨ajB,v212⟩,ax1,h⟩:=bd h
 refine cb (iS (g1000:=g1000) ax1) [0] ?_
 refine .d ?_
 obtain ⟨⟨HR,sQ⟩,W3,h⟩:=bd h
 refine cb (eM (g1000:=g1000) W3) [0] ?_
 refine sV h (λBr h=>?_) (λBr h=>?_)
 refine .d (pcN 1 (a1:=[.aC 0 g1000 0 0,.own 3 0 0 0]) (h2:=[.row g1000 4 1 62 (λ_=>sQ.lit),.row 0 4 1 29 (λ_=>[.int .i64 0,.int .i64 0,.str [],.cd]),.row 0 4 1 101 (λ_=>BV.lit),.row 0 4 0 29 (λ_=>[])]) ?_)
 obtain ⟨⟨v218,Vs⟩,W4,h⟩:=bd h
 refine Sd (GI _ _ _ W4 _ _ _ _ (DR.nil (D:=ae.D))) [0,3] ⟨rfl,(Q9 (DR.nil (D:=ae.D))),⟨⟩⟩ λf221 d222=>?_
 refine qX (bF _ _ _ _ rfl) ⟨rfl,_,_,rfl,ao,?_⟩
 obtain rfl:=si h
 replace h:=afO
 obtain rfl:=si h
 exact ⟨rfl,_,rfl,(en [0,4] ⟨f221,d222.self,rfl,rfl⟩ (.aI ⟨.i,.i,.s,.oe,⟨⟩⟩) ⟨(ob rfl ⟨.l,.i,.i,.i,⟨⟩⟩),(bu d222 d222.len d222.len),⟨⟩⟩)⟩
 exact ct ⟨_,_,_,_,_,si h,rfl,rfl⟩ (tk [0,1,5] ⟨.p,.p,.s,⟨⟩⟩ ⟨(fM rfl),(nb rfl ⟨.i,.i,.s,.g,⟨⟩⟩),gh,⟨⟩⟩)
 exact ct ⟨_,_,_,_,_,si h,rfl,rfl⟩ (tk [0,1,5] ⟨.p,.p,.s,⟨⟩⟩ ⟨(fM rfl),(nb rfl ⟨.i,.i,.s,.g,⟨⟩⟩),gh,⟨⟩⟩)
 rintro _ _ ⟨XG,XH,XI,XJ,XK,rfl,rfl,rfl⟩
 replace h:=afO
 refine .d (bk h λau9 ax2 h=>(cb (bh (g1000:=g1000) ax2) [0] ?_))
 refine .d (bk h λajD afP h=>⟨mM afP,ajD,mN afP,?_⟩)
 obtain ⟨⟨v227,v228⟩,ax3,h⟩:=bd h
 refine cb (iS (g1000:=g1000) ax3) [0] ?_
 refine bk h λajE afQ h=>⟨mM afQ,ajE,mN afQ,(.d (pcN 1 (a1:=[.aC 0 g1000 0 0,.own 3 0 0 0]) (h2:=[.row g1000 4 1 62 (λ_=>v228.lit),.row 0 4 1 29 (λ_=>[.int .i64 0,.int .i64 0,.str [],.own 2 0 0 0]),.row 0 4 0 29 (λ_=>[]),.row 0 4 0 29 (λ_=>[])]) ?_))⟩
 obtain ⟨⟨v232,v233⟩,ax4,h⟩:=bd h
 refine Sd (GI _ _ _ ax4 _ _ _ _ (DR.nil (D:=ae.D))) [0,3] ⟨rfl,(Q9 (DR.nil (D:=ae.D))),⟨⟩⟩ λf235 d236=>?_
 refine qX (bF _ _ _ _ rfl) ⟨rfl,_,_,rfl,ao,?_⟩
 obtain rfl:=si h
 exact ⟨rfl,_,rfl,(en [0,4] ⟨f235,d236.self,rfl,rfl⟩ (.aI ⟨.i,.i,.s,.oe,⟨⟩⟩) ⟨(ob rfl ⟨.l,.i,.i,.i,⟨⟩⟩),(bu d236 d236.len d236.len),⟨⟩⟩)⟩
 intro _ ax5 a0 r h g1000
 refine eT Tryz.func118 ?_
 refine .d (.d (qX (bF _ _ _ _ rfl) ⟨rfl,_,_,rfl,ao,(.d (bk h λXW ax6 h=>(cb (bh (g1000:=g1000) ax6) [0] ?_)))⟩))
 obtain ⟨ax7,h,ax8⟩:=bd h
 refine .cut (λσ η=>∃XX,∃BA,∃XY,∃XZ,∃Mx,∃Jj,∃aki:Nat->List PV,∃ac8:Nat->List PV,DR ae.D Mx.length aki Mx/\DR ae.D Jj.length ac8 Jj/\(XX,BA,XY,XZ,Mx,Jj)=ax7/\σ=[(2,.aC 1 0 0 0),(3,.aC 3 0 0 0)]/\η=[.row g1000 4 1 62 (λ_=>[sl 4 af.cells XX,.int .i64 BA,.int .i64 XY,.int .i64 XZ]),.row 0 4 1 29 (λ_=>[.int .i64 0,.int .i64 0,.str [],.own 2 0 0 Mx.length]),.row 0 4 Mx.length 29 aki,.row 0 4 1 29 (λ_=>[.int .i64 48,.int .i64 0,.str [],.own 4 0 0 Jj.length]),.row 0 4 Jj.length 29 ac8]) ?_ ?_
 have ax9:=ax5 _ _ _ _ _ _ _ h
 refine le (iW.rec (motive:=λuW uX uY kL pG oI aya _=>∀MS:Nat->List PV,∀MT:Nat->List PV,DR ae.D pG.length MS pG->DR ae.D oI.length MT oI->ax7=aya->aQ _ _ [(0,.aC 0 g1000 0 0),(2,.aC 1 0 0 0),(3,.aC 3 0 0 0)] [.row g1000 4 1 62 (λ_=>[sl 4 af.cells uW,.int .i64 uX,.int .i64 uY,.int .i64 kL]),.row 0 4 1 29 (λ_=>[.int .i64 0,.int .i64 0,.str [],.own 2 0 0 pG.length]),.row 0 4 pG.length 29 MS,.row 0 4 1 29 (λ_=>[.int .i64 48,.int .i64 0,.str [],.own 4 0 0 oI.length]),.row 0 4 oI.length 29 MT]) ?_ ax9 (λ_=>[]) (λ_=>[]) ((DR.nil (D:=ae.D)).self) ((DR.nil (D:=ae.D)).self) rfl) (tk [0,1,5,2,7] ⟨.p,.p,.p,⟨⟩⟩ ⟨(fM rfl),(nb rfl ⟨.i,.i,.s,.g,⟨⟩⟩),gh,(nb rfl ⟨.i,.i,.s,.g,⟨⟩⟩),gh,⟨⟩⟩)
 intro _ ayb _ _ uW uX uY kL pG oI aya h afR MS MT Jv Cf  ayc
 subst ayc
 refine aQ.round (.d (.d ⟨rfl,rfl,rfl,_,rfl,(sD h (λayd h=>?_) (λayd h=>?_))⟩))
 refine .t ?_
 obtain ⟨⟨acS,AH⟩,aye,h⟩:=bd h
 refine cb (aV (g1000:=g1000) aye) [0] ?_
 refine .t (.t (jj h (λayf h=>?_) (λayf h=>?_)))
 refine .d ?_
 obtain ⟨⟨acT,AI⟩,ayg,h⟩:=bd h
 refine cb (aV (g1000:=g1000) ayg) [0] ?_
 refine jj h (λayh h=>?_) (λayh h=>?_)
 refine .float [(0,true),(1,true),(2,true),(3,false),(4,false),(5,false),(6,true),(7,false)] aKR ?_
 refine ⟨rfl,rfl,_,rfl,?_⟩
 obtain ⟨⟨qq,Ed⟩,ayi,h⟩:=bd h
 refine bz (ayb _ _ ayi _) [0] λaHi ayj=>?_
 refine ⟨rfl,rfl,_,dx,rfl,rfl,(bk h λYq Jw h=>(.fx ⟨rfl,rfl,(λ_ _=>rfl),DR.xA Cf Jw,Yq.length,dV MT oI.length [.int .i64 qq.aj,.int .i64 qq.aP,.str qq.aq,.own 5 0 0 qq.ah.length],DR.ln Cf Jw,dE (DR.ln Cf Jw) ⟨.same _,.same _,.same _,.same _,trivial⟩,rfl,rfl,_,_,rfl,ao,(.ab 4 oI.length 3 5 _ (λ_=>rT (DR.lq Cf Jw) (ayj).po) λaEj=>?_)⟩))⟩
 have ayk:=DR.jE Cf Jw (ae.bx (x:=qq) (F0:=aEj) ayj)
 exact lg (afR _ _ _ _ _ _ _ h MS _ Jv ayk rfl) (tk [0,1,2,3,4] ⟨.p,.p,.p,⟨⟩⟩ ⟨(fM rfl),(nb rfl ⟨.i,.i,.s,.oe,⟨⟩⟩),(bu Jv),(nb rfl ⟨.i,.i,.s,.oe,⟨⟩⟩),(bu ayk),⟨⟩⟩)
 exact lg (afR _ _ _ _ _ _ _ h MS MT Jv Cf rfl) (tk [0,1,2,3,4] ⟨.p,.p,.p,⟨⟩⟩ ⟨(fM rfl),(nb rfl ⟨.i,.i,.s,.oe,⟨⟩⟩),(bu Jv),(nb rfl ⟨.i,.i,.s,.oe,⟨⟩⟩),(bu Cf),⟨⟩⟩)
 exact ct ⟨_,_,_,_,_,_,MS,MT,Jv,Cf,si h,rfl,rfl⟩ (tk [0,1,2,3,4] ⟨.p,.p,⟨⟩⟩ ⟨(fM rfl),(nb rfl ⟨.i,.i,.s,.oe,⟨⟩⟩),(bu Jv),(nb rfl ⟨.i,.i,.s,.oe,⟨⟩⟩),(bu Cf),⟨⟩⟩)
 exact .f (.f (.f (.f (ct ⟨_,_,_,_,_,_,MS,MT,Jv,Cf,si h,rfl,rfl⟩ (tk [0,1,2,3,4] ⟨.p,.p,⟨⟩⟩ ⟨(fM rfl),(nb rfl ⟨.i,.i,.s,.oe,⟨⟩⟩),(bu Jv),(nb rfl ⟨.i,.i,.s,.oe,⟨⟩⟩),(bu Cf),⟨⟩⟩)))))
 rintro _ _ ⟨XX,BA,XY,XZ,Mx,Jj,aki,ac8,aHj,ac9,rfl,rfl,rfl⟩
 replace h:=ax8
 refine .d ⟨rfl,_,rfl,rfl,_,_,rfl,ao,?_⟩
 obtain rfl:=si h
 exact ⟨rfl,_,rfl,(en [0,4] ⟨ac8,ac9.self,rfl,rfl⟩ (.aI ⟨.i,.i,.s,.oe,⟨⟩⟩) ⟨(ob rfl ⟨.l,.i,.i,.i,⟨⟩⟩),(bu ac9 ac9.len ac9.len),⟨⟩⟩)⟩
 intro F0 F1 nK nL uW uX uY kL pG oI o h
 exact .mk F1 nL F0 nK uW uX uY kL pG oI o h
 intro _ _ _ _ _ _ _ pz MP me akj akk MU MV a0 r h g1000
 refine eT Tryz.func120 ?_
 refine .d (.d ⟨rfl,_,_,rfl,ao,(.d (.d ?_))⟩)
 obtain ⟨⟨L3,Jk⟩,ayl,h⟩:=bd h
 refine cb (eM (g1000:=g1000) ayl) [0] ?_
 refine sV h (λaym h=>?_) (λaym h=>?_)
 refine .d ⟨rfl,rfl,rfl,_,rfl,rfl,rfl,rfl,_,_,rfl,ao,(.d (.float [(0,true),(1,true),(2,true),(3,true),(4,true),(5,true),(6,true),(7,true),(8,true),(9,true),(10,true),(11,true),(12,false),(13,false)] aKR ?_))⟩
 refine ⟨rfl,rfl,rfl,_,rfl,rfl,rfl,rfl,_,rfl,(bk h λajP afS h=>⟨bn afS,_,(ba afS).trans (af.aO ajP),(qX (bF _ _ _ _ rfl) ⟨rfl,_,_,rfl,ao,?_⟩)⟩)⟩
 exact aJV
 refine .d ?_
 obtain ⟨⟨avO,IV⟩,ayn,h⟩:=bd h
 refine cb (eM (g1000:=g1000) ayn) [0] ?_
 refine sV h (λayo h=>?_) (λayo h=>?_)
 refine .d ?_
 obtain ⟨⟨avP,IW⟩,ayp,h⟩:=bd h
 refine bz (me _ _ ayp _) [0] λaEk ayq=>?_
 refine ⟨rfl,_,_,rfl,ao,?_⟩
 obtain rfl:=si h
 exact ⟨rfl,_,rfl,(en [0,3] ⟨aEk,ayq.self,rfl,rfl⟩ (.aI ⟨.i,.i,.s,.oe,⟨⟩⟩) ⟨(ob rfl ⟨.l,.i,.i,.i,⟨⟩⟩),(bu ayq),⟨⟩⟩)⟩
 refine .d ?_
 obtain ⟨⟨avQ,xS⟩,Xa,h⟩:=bd h
 refine cb (aV (g1000:=g1000) Xa) [0] ?_
 refine sV h (λayr h=>?_) (λayr h=>?_)
 refine .d ?_
 obtain ⟨⟨avR,avS⟩,ays,h⟩:=bd h
 refine bz (MV _ _ ays _) [0] λaEl ayt=>?_
 refine ⟨rfl,_,_,rfl,ao,?_⟩
 obtain rfl:=si h
 exact ⟨rfl,_,rfl,(en [0,3] ⟨aEl,ayt.self,rfl,rfl⟩ (.aI ⟨.i,.i,.s,.oe,⟨⟩⟩) ⟨(ob rfl ⟨.l,.i,.i,.i,⟨⟩⟩),(bu ayt),⟨⟩⟩)⟩
 refine .d ?_
 obtain ⟨⟨avT,DZ⟩,ayu,h⟩:=bd h
 refine cb (aV (g1000:=g1000) ayu) [0] ?_
 refine sV h (λayv h=>?_) (λayv h=>?_)
 refine .d ?_
 obtain ⟨⟨IX,wX⟩,Xb,h⟩:=bd h
 refine bz (MU _ _ Xb _) [0] λaHk ayw=>?_
 refine ⟨rfl,_,_,rfl,ao,(.d (.float [(0,true),(1,true),(2,false),(3,false),(4,false),(5,false)] aKR ?_))⟩
 refine ⟨rfl,_,rfl,?_⟩
 obtain ⟨⟨wY,avU⟩,ayx,h⟩:=bd h
 refine bz (me _ _ ayx _) [0] λaHl ayy=>?_
 refine ⟨rfl,_,cJ,(qX (bF _ _ _ _ rfl) ⟨rfl,_,_,rfl,ao,?_⟩)⟩
 obtain rfl:=si h
 refine ⟨rfl,_,rfl,(.ab 6 0 3 3 _ (λ_=>iB (ayw).po) λaEm=>(.ab 6 1 3 5 _ (λ_=>iB (ayy).po) λXe=>?_))⟩
 have xU:=(DR.cp (ae.bx (x:=IX) (F0:=aEm) ayw) (DR.cp (ae.bx (x:=wY) (F0:=Xe) ayy) DR.dL))
 exact en [0,6] ⟨_,xU.self,rfl,rfl⟩ (.aI ⟨.i,.i,.s,.oe,⟨⟩⟩) ⟨(ob rfl ⟨.l,.i,.i,.i,⟨⟩⟩),(bu xU xU.len xU.len),⟨⟩⟩
 refine .d ?_
 obtain ⟨⟨avV,ajQ⟩,ayz,h⟩:=bd h
 refine cb (aV (g1000:=g1000) ayz) [0] ?_
 refine sV h (λayA h=>?_) (λayA h=>?_)
 refine .d ?_
 obtain ⟨⟨avW,avX⟩,ayB,h⟩:=bd h
 refine bz (akk _ _ ayB _) [0] λaEn ayC=>?_
 refine ⟨rfl,_,_,rfl,ao,?_⟩
 obtain rfl:=si h
 exact ⟨rfl,_,rfl,(en [0,3] ⟨aEn,ayC.self,rfl,rfl⟩ (.aI ⟨.i,.i,.s,.oe,⟨⟩⟩) ⟨(ob rfl ⟨.l,.i,.i,.i,⟨⟩⟩),(bu ayC),⟨⟩⟩)⟩
 refine .d ?_
 obtain ⟨⟨avY,ajR⟩,ayD,h⟩:=bd h
 refine cb (aV (g1000:=g1000) ayD) [0] ?_
 refine sV h (λayE h=>?_) (λayE h=>?_)
 refine .d ?_
 obtain ⟨⟨avZ,av0⟩,ayF,h⟩:=bd h
 refine bz (akj _ _ ayF _) [0] λaEo ayG=>?_
 refine ⟨rfl,_,_,rfl,ao,?_⟩
 obtain rfl:=si h
 exact ⟨rfl,_,rfl,(en [0,3] ⟨aEo,ayG.self,rfl,rfl⟩ (.aI ⟨.i,.i,.s,.oe,⟨⟩⟩) ⟨(ob rfl ⟨.l,.i,.i,.i,⟨⟩⟩),(bu ayG),⟨⟩⟩)⟩
 refine .d ?_
 obtain ⟨⟨av1,ajS⟩,ayH,h⟩:=bd h
 refine cb (aV (g1000:=g1000) ayH) [0] ?_
 refine sV h (λayI h=>?_) (λayI h=>?_)
 obtain ⟨⟨ajT,av2⟩,ayJ,h⟩:=bd h
 refine bz (pz _ _ ayJ _) [0] λaHm ayK=>?_
 refine ⟨_,cJ,(qX (bF _ _ _ _ rfl) ⟨rfl,_,_,rfl,ao,(.d (bk h λav3 ayL h=>(cb (bh (g1000:=g1000) ayL) [0] ?_)))⟩)⟩
 refine .d ⟨rfl,_,rfl,rfl,_,_,rfl,ao,?_⟩
 obtain rfl:=si h
 refine ⟨rfl,_,rfl,(.ab 4 0 3 3 _ (λ_=>iB (ayK).po) λaEp=>?_)⟩
 have ada:=(DR.cp (ae.bx (x:=ajT) (F0:=aEp) ayK) DR.dL)
 exact en [0,4] ⟨_,ada.self,rfl,rfl⟩ (.aI ⟨.i,.i,.s,.oe,⟨⟩⟩) ⟨(ob rfl ⟨.l,.i,.i,.i,⟨⟩⟩),(bu ada ada.len ada.len),⟨⟩⟩
 refine .d ?_
 obtain ⟨⟨av4,ajU⟩,ayM,h⟩:=bd h
 refine cb (aV (g1000:=g1000) ayM) [0] ?_
 refine sV h (λayN h=>?_) (λayN h=>?_)
 refine ⟨rfl,rfl,_,_,rfl,ao,(.d (bk h λwL Xo h=>(cb (bh (g1000:=g1000) Xo) [0] ?_)))⟩
 refine .d ⟨rfl,_,rfl,rfl,_,_,rfl,ao,?_⟩
 exact aJV
 refine .d ?_
 obtain ⟨⟨av5,Iq⟩,ayO,h⟩:=bd h
 refine cb (aV (g1000:=g1000) ayO) [0] ?_
 refine sV h (λayP h=>?_) (λayP h=>?_)
 refine ⟨rfl,rfl,_,_,rfl,ao,(.d (bk h λav6 ayQ h=>(cb (bh (g1000:=g1000) ayQ) [0] ?_)))⟩
 refine .d ⟨rfl,_,rfl,rfl,_,_,rfl,ao,?_⟩
 exact aJV
 refine .d ?_
 obtain ⟨⟨zb,ajV⟩,ayR,h⟩:=bd h
 refine cb (aV (g1000:=g1000) ayR) [0] ?_
 refine sV h (λayS h=>?_) (λayS h=>?_)
 refine .d ⟨rfl,rfl,_,_,rfl,ao,(.d ?_)⟩
 obtain ⟨⟨Wm,ajW⟩,ayT,h⟩:=bd h
 refine cb (eM (g1000:=g1000) ayT) [0] ?_
 refine jj h (λayU h=>?_) (λayU h=>?_)
 obtain ⟨⟨ajX,Wn⟩,ayV,h⟩:=bd h
 refine bz (pz _ _ ayV _) [0] λaHn ayW=>?_
 refine ⟨_,cJ,rfl,rfl,_,_,rfl,ao,(.d (bk h λav8 ayX h=>(cb (bh (g1000:=g1000) ayX) [0] ?_)))⟩
 refine .d ⟨rfl,_,rfl,rfl,_,_,rfl,ao,?_⟩
 obtain rfl:=si h
 refine ⟨rfl,_,rfl,(.ab 4 0 3 3 _ (λ_=>iB (ayW).po) λaEq=>?_)⟩
 have adb:=(DR.cp (ae.bx (x:=ajX) (F0:=aEq) ayW) DR.dL)
 exact en [0,4] ⟨_,adb.self,rfl,rfl⟩ (.aI ⟨.i,.i,.s,.oe,⟨⟩⟩) ⟨(ob rfl ⟨.l,.i,.i,.i,⟨⟩⟩),(bu adb adb.len adb.len),⟨⟩⟩
 refine .d (bk h λav7 ayY h=>(cb (bh (g1000:=g1000) ayY) [0] ?_))
 refine .d ⟨rfl,_,rfl,rfl,_,_,rfl,ao,?_⟩
 exact aJV
 refine .d ?_
 obtain ⟨⟨Wo,ajY⟩,ayZ,h⟩:=bd h
 refine cb (aV (g1000:=g1000) ayZ) [0] ?_
 refine sV h (λay0 h=>?_) (λay0 h=>?_)
 obtain ⟨⟨Wp,QI⟩,Xp,h⟩:=bd h
 refine cb (iS (g1000:=g1000) Xp) [0] ?_
 refine qX (bF _ _ _ _ rfl) ⟨rfl,_,_,rfl,ao,(.d (bk h λav9 ay1 h=>(cb (bh (g1000:=g1000) ay1) [0] ?_)))⟩
 refine .d ⟨rfl,_,rfl,rfl,_,_,rfl,ao,?_⟩
 exact aJV
 refine .d ?_
 obtain ⟨⟨Wq,Yd⟩,akl,h⟩:=bd h
 refine cb (aV (g1000:=g1000) akl) [0] ?_
 refine sV h (λakm h=>?_) (λakm h=>?_)
 refine .d (bk h λIr Mk h=>(cb (bh (g1000:=g1000) Mk) [0] ?_))
 refine .d ?_
 obtain ⟨⟨BD,BE⟩,Ml,h⟩:=bd h
 refine bz (MP _ _ _ Ml _) [0] λaGt YL=>?_
 refine ⟨rfl,_,_,rfl,ao,(.d (.d ⟨rfl,_,rfl,(bk h λIs Mm h=>(R9 (kz Mm) ⟨.aI ⟨.i,.i,.s,(.rd YL),⟨⟩⟩,⟨⟩⟩ (jj h (λakn h=>?_) (λakn h=>?_))))⟩))⟩
 refine .d ?_
 obtain ⟨⟨It,afu⟩,ako,h⟩:=bd h
 refine bz (fh (g1000:=g1000) ako) [0] λay2 afT=>?_
 refine ⟨rfl,_,_,rfl,ao,?_⟩
 obtain rfl:=si h
 exact ⟨rfl,_,rfl,(en [0,5] ⟨ay2,afT.self,rfl,rfl⟩ (.aI ⟨.i,.i,.s,.oe,⟨⟩⟩) ⟨(ob rfl ⟨.l,.i,.i,.i,⟨⟩⟩),(bu afT),⟨⟩⟩)⟩
 refine .d (bk h λED Mn h=>(cb (bh (g1000:=g1000) Mn) [0] ?_))
 refine ⟨rfl,_,rfl,_,cJ,(qX (bF _ _ _ _ rfl) ⟨rfl,_,_,rfl,ao,(.d (bk h λaft akp h=>(cb (bh (g1000:=g1000) akp) [0] ?_)))⟩)⟩
 refine .d ⟨rfl,_,rfl,rfl,_,_,rfl,ao,?_⟩
 obtain rfl:=si h
 refine ⟨rfl,_,rfl,(.ab 5 0 3 3 _ (λ_=>iB (YL).po) λay3=>?_)⟩
 have Pj:=(DR.cp (ae.bx (x:=BD) (F0:=ay3) YL) DR.dL)
 exact en [0,5] ⟨_,Pj.self,rfl,rfl⟩ (.aI ⟨.i,.i,.s,.oe,⟨⟩⟩) ⟨(ob rfl ⟨.l,.i,.i,.i,⟨⟩⟩),(bu Pj Pj.len Pj.len),⟨⟩⟩
 refine .d ?_
 obtain ⟨⟨afv,Ye⟩,akq,h⟩:=bd h
 refine cb (aV (g1000:=g1000) akq) [0] ?_
 refine sV h (λakr h=>?_) (λakr h=>?_)
 obtain ⟨⟨Yf,afw⟩,aks,h⟩:=bd h
 refine bz (pz _ _ aks _) [0] λaGu afU=>?_
 refine ⟨_,cJ,(qX (bF _ _ _ _ rfl) ⟨rfl,_,_,rfl,ao,(.d (bk h λafx akt h=>(cb (bh (g1000:=g1000) akt) [0] ?_)))⟩)⟩
 refine .d ⟨rfl,_,rfl,rfl,_,_,rfl,ao,?_⟩
 obtain rfl:=si h
 refine ⟨rfl,_,rfl,(.ab 4 0 3 3 _ (λ_=>iB (afU).po) λay4=>?_)⟩
 have Pk:=(DR.cp (ae.bx (x:=Yf) (F0:=ay4) afU) DR.dL)
 exact en [0,4] ⟨_,Pk.self,rfl,rfl⟩ (.aI ⟨.i,.i,.s,.oe,⟨⟩⟩) ⟨(ob rfl ⟨.l,.i,.i,.i,⟨⟩⟩),(bu Pk Pk.len Pk.len),⟨⟩⟩
 refine .d ?_
 obtain ⟨⟨afy,EE⟩,aku,h⟩:=bd h
 refine cb (aV (g1000:=g1000) aku) [0] ?_
 refine sV h (λakv h=>?_) (λakv h=>?_)
 obtain ⟨⟨Yg,Iu⟩,akw,h⟩:=bd h
 refine bz (pz _ _ akw _) [0] λaGv afV=>?_
 refine ⟨_,cJ,(qX (bF _ _ _ _ rfl) ⟨rfl,_,_,rfl,ao,(.d (bk h λBF akx h=>(cb (bh (g1000:=g1000) akx) [0] ?_)))⟩)⟩
 refine .d ⟨rfl,_,rfl,rfl,_,_,rfl,ao,?_⟩
 obtain rfl:=si h
 refine ⟨rfl,_,rfl,(.ab 4 0 3 3 _ (λ_=>iB (afV).po) λay5=>?_)⟩
 have Pl:=(DR.cp (ae.bx (x:=Yg) (F0:=ay5) afV) DR.dL)
 exact en [0,4] ⟨_,Pl.self,rfl,rfl⟩ (.aI ⟨.i,.i,.s,.oe,⟨⟩⟩) ⟨(ob rfl ⟨.l,.i,.i,.i,⟨⟩⟩),(bu Pl Pl.len Pl.len),⟨⟩⟩
 obtain ⟨ay6,h,aky⟩:=bd h
 refine .cut (λσ η=>∃E1,∃E2,∃E3,∃E4,∃Jl,(E1,E2,E3,E4,Jl)=ay6/\σ=[(0,.aC 0 g1000 0 0),(2,.aC 1 0 0 0),(3,.aC 3 0 0 0),(129,.bool Jl)]/\η=[.row g1000 4 1 62 (λ_=>[sl 4 af.cells E1,.int .i64 E2,.int .i64 E3,.int .i64 E4]),.row 0 4 1 29 (λ_=>[.int .i64 0,.int .i64 0,.str [],.own 2 0 0 0]),.row 0 4 0 29 (λ_=>[]),.row 0 4 1 29 (λ_=>[.int .i64 0,.int .i64 0,.str [],.own 4 0 0 0]),.row 0 4 0 29 (λ_=>[])]) ?_ ?_
 obtain ⟨⟨O6,tJ⟩,akz,h⟩:=bd h
 refine cb (eM (g1000:=g1000) akz) [0] ?_
 refine sV h (λakA h=>?_) (λakA h=>?_)
 refine .t ?_
 obtain ⟨⟨tF,pX⟩,Mp,h⟩:=bd h
 refine cb (eM (g1000:=g1000) Mp) [0] ?_
 refine .t (sV h (λakB h=>?_) (λakB h=>?_))
 refine .t ?_
 obtain ⟨⟨O7,wq⟩,akC,h⟩:=bd h
 refine cb (eM (g1000:=g1000) akC) [0] ?_
 exact .t (ct ⟨_,_,_,_,_,si h,rfl,rfl⟩ (tk [0,1,5,2,7] ⟨.p,.p,.p,.b,⟨⟩⟩ ⟨(fM rfl),(nb rfl ⟨.i,.i,.s,.g,⟨⟩⟩),gh,(nb rfl ⟨.i,.i,.s,.g,⟨⟩⟩),gh,⟨⟩⟩))
 exact .f (.f (ct ⟨_,_,_,_,_,si h,rfl,rfl⟩ (tk [0,1,5,2,7] ⟨.p,.p,.p,.b,⟨⟩⟩ ⟨(fM rfl),(nb rfl ⟨.i,.i,.s,.g,⟨⟩⟩),gh,(nb rfl ⟨.i,.i,.s,.g,⟨⟩⟩),gh,⟨⟩⟩)))
 exact .f (.f (.f (.f (.f (ct ⟨_,_,_,_,_,si h,rfl,rfl⟩ (tk [0,1,5,2,7] ⟨.p,.p,.p,.b,⟨⟩⟩ ⟨(fM rfl),(nb rfl ⟨.i,.i,.s,.g,⟨⟩⟩),gh,(nb rfl ⟨.i,.i,.s,.g,⟨⟩⟩),gh,⟨⟩⟩))))))
 rintro _ _ ⟨E1,E2,E3,E4,Jl,rfl,rfl,rfl⟩
 replace h:=aky
 refine sV h (λakD h=>?_) (λakD h=>?_)
 refine .d ?_
 obtain ⟨⟨Yh,tG⟩,akE,h⟩:=bd h
 refine bz (mo (g1000:=g1000) akE) [0] λaGw afW=>?_
 refine ⟨rfl,_,_,rfl,ao,(.d (.float [(0,true),(1,true),(2,true),(3,true),(4,true),(5,true),(6,true),(7,true),(8,true),(9,true),(10,true),(11,false),(12,true),(13,true),(14,false)] aKR ?_))⟩
 refine ⟨rfl,rfl,rfl,_,rfl,rfl,rfl,rfl,_,rfl,(bk h λafz akF h=>(cx (Sq akF) ⟨rfl,rfl,rfl,_,_,rfl,ao,(.float [(0,true),(1,true),(2,false),(3,false),(4,false),(5,false)] aKR ?_)⟩))⟩
 refine ⟨rfl,_,rfl,?_⟩
 obtain ⟨⟨Yi,afA⟩,akG,h⟩:=bd h
 refine bz (pz _ _ akG _) [0] λaGx afX=>?_
 refine ⟨rfl,_,cJ,(qX (bF _ _ _ _ rfl) ⟨rfl,_,_,rfl,ao,(.d (bk h λIy akH h=>(cb (bh (g1000:=g1000) akH) [0] ?_)))⟩)⟩
 refine .d ⟨rfl,_,rfl,rfl,_,_,rfl,ao,?_⟩
 obtain rfl:=si h
 refine ⟨rfl,_,rfl,(.ab 8 0 3 5 _ (λ_=>iB (afW).po) λay7=>(.ab 8 1 3 7 _ (λ_=>iB (afX).po) λay8=>?_))⟩
 have Pm:=(DR.cp (ae.bx (x:=Yh) (F0:=ay7) afW) (DR.cp (ae.bx (x:=Yi) (F0:=ay8) afX) DR.dL))
 exact en [0,8] ⟨_,Pm.self,rfl,rfl⟩ (.aI ⟨.i,.i,.s,.oe,⟨⟩⟩) ⟨(ob rfl ⟨.l,.i,.i,.i,⟨⟩⟩),(bu Pm Pm.len Pm.len),⟨⟩⟩
 refine .d ?_
 obtain ⟨⟨Iz,Yj⟩,akI,h⟩:=bd h
 refine cb (aV (g1000:=g1000) akI) [0] ?_
 refine sV h (λakJ h=>?_) (λakJ h=>?_)
 refine .d (.d ?_)
 obtain ⟨⟨IE,zU⟩,akK,h⟩:=bd h
 refine cb (eM (g1000:=g1000) akK) [0] ?_
 refine jj h (λakL h=>?_) (λakL h=>?_)
 refine .d ?_
 obtain ⟨⟨IF,IG⟩,Mq,h⟩:=bd h
 refine bz (fh (g1000:=g1000) Mq) [0] λay9 afY=>?_
 refine ⟨rfl,_,_,rfl,ao,?_⟩
 obtain rfl:=si h
 exact ⟨rfl,_,rfl,(en [0,5] ⟨ay9,afY.self,rfl,rfl⟩ (.aI ⟨.i,.i,.s,.oe,⟨⟩⟩) ⟨(ob rfl ⟨.l,.i,.i,.i,⟨⟩⟩),(bu afY),⟨⟩⟩)⟩
 refine .d ⟨rfl,rfl,rfl,_,rfl,rfl,rfl,rfl,_,_,rfl,ao,(.float [(0,true),(1,true),(2,true),(3,true),(4,true),(5,true),(6,true),(7,true),(8,true),(9,true),(10,true),(11,true),(12,false),(13,false)] aKR ?_)⟩
 refine ⟨rfl,rfl,rfl,_,rfl,rfl,rfl,rfl,_,rfl,(bk h λYk YM h=>⟨bn YM,_,(ba YM).trans (af.aO Yk),(qX (bF _ _ _ _ rfl) ⟨rfl,_,_,rfl,ao,(.d (bk h λafB akM h=>(cb (bh (g1000:=g1000) akM) [0] ?_)))⟩)⟩)⟩
 refine .d ⟨rfl,_,rfl,rfl,_,_,rfl,ao,?_⟩
 obtain rfl:=si h
 exact ⟨rfl,_,rfl,(en [0,6] ⟨_,(DR.nil (D:=ae.D)),rfl,rfl⟩ (.aI ⟨.i,.i,.s,.g,⟨⟩⟩) ⟨(ob rfl ⟨.l,.i,.i,.i,⟨⟩⟩),gh,⟨⟩⟩)⟩
 obtain ⟨⟨Yl,II⟩,akN,h⟩:=bd h
 refine bz (pz _ _ akN _) [0] λaGy afZ=>?_
 refine ⟨_,cJ,(qX (bF _ _ _ _ rfl) ⟨rfl,_,_,rfl,ao,(.d (bk h λafC akO h=>(cb (bh (g1000:=g1000) akO) [0] ?_)))⟩)⟩
 refine .d ⟨rfl,_,rfl,rfl,_,_,rfl,ao,?_⟩
 obtain rfl:=si h
 refine ⟨rfl,_,rfl,(.ab 6 0 3 5 _ (λ_=>iB (afZ).po) λaza=>?_)⟩
 have Pn:=(DR.cp (ae.bx (x:=Yl) (F0:=aza) afZ) DR.dL)
 exact en [0,6] ⟨_,Pn.self,rfl,rfl⟩ (.aI ⟨.i,.i,.s,.oe,⟨⟩⟩) ⟨(ob rfl ⟨.l,.i,.i,.i,⟨⟩⟩),(bu Pn Pn.len Pn.len),⟨⟩⟩
 intro _ me a0 r h g1000
 refine eT Tryz.func182 ?_
 refine .d (.d ?_)
 obtain ⟨⟨wK,avI⟩,azb,h⟩:=bd h
 refine bz (me _ _ azb _) [0] λaEr ade=>?_
 refine ⟨_,cJ,(qX (bF _ _ _ _ rfl) ⟨rfl,_,_,rfl,ao,?_⟩)⟩
 obtain ⟨aEs,h,azc⟩:=bd h
 refine .cut (λσ η=>∃Ya,∃BC,∃Yb,∃Yc,∃zf,∃YN:Nat->List PV,DR ae.D zf.length YN zf/\(Ya,BC,Yb,Yc,zf)=aEs/\σ=[(0,.aC 0 g1000 0 0),(2,.aC 1 0 0 0),(3,.aC 3 0 0 0)]/\η=[.row g1000 4 1 62 (λ_=>[sl 4 af.cells Ya,.int .i64 BC,.int .i64 Yb,.int .i64 Yc]),.row 0 4 1 29 (λ_=>[.int .i64 0,.int .i64 0,.str [],.own 2 0 0 0]),.row 0 4 0 29 (λ_=>[]),.row 0 4 1 29 (λ_=>[.int .i64 43,.int .i64 0,.str [],.own 4 0 0 zf.length]),.row 0 4 zf.length 29 YN]) ?_ ?_
 refine .d ?_
 obtain ⟨⟨acz,AB⟩,azd,h⟩:=bd h
 refine cb (aV (g1000:=g1000) azd) [0] ?_
 refine sV h (λaze h=>?_) (λaze h=>?_)
 refine .d (bk h λacA azf h=>(cb (bh (g1000:=g1000) azf) [0] ?_))
 refine .d ?_
 obtain ⟨⟨Q1,acB⟩,azg,h⟩:=bd h
 refine cb (iS (g1000:=g1000) azg) [0] ?_
 refine .d ?_
 obtain ⟨⟨Q2,acC⟩,azh,h⟩:=bd h
 refine bz (mo (g1000:=g1000) azh) [0] λaHo azi=>?_
 refine ⟨rfl,_,_,rfl,ao,(.ab 3 0 3 2 _ (λ_=>iB (ade).po) λazj=>(.d (bk h λacD azk h=>(cb (bh (g1000:=g1000) azk) [0] ?_))))⟩
 refine .float [(0,true),(1,true),(2,true),(3,true),(4,true),(5,false),(6,false),(7,false),(8,false),(9,false),(10,true),(11,false)] aKR ?_
 refine ⟨rfl,rfl,_,rfl,rfl,_,rfl,?_⟩
 obtain ⟨⟨Q3,D4⟩,azl,h⟩:=bd h
 refine bz (me _ _ azl _) [0] λaHp azm=>?_
 refine ⟨rfl,rfl,rfl,_,cJ,rfl,rfl,(qX (bF _ _ _ _ rfl) ⟨rfl,rfl,_,dx,rfl,rfl,?_⟩)⟩
 have YO:=(DR.cp (ae.bx (x:=wK) (F0:=azj) ade) DR.dL)
 refine bk h λX9 Jx h=>(.fx ⟨rfl,rfl,(λ_ _=>rfl),DR.xA YO Jx,X9.length,dV (kg [[.int .i64 wK.aj,.int .i64 wK.aP,.str wK.aq,.dY 4 wK.ah.length 29 aEr azj]]) 1 [.int .i64 44,.int .i64 0,.str Q1,.own 8 0 0 2],DR.ln YO Jx,dE (DR.ln YO Jx) ⟨.same _,.same _,.same _,.same _,trivial⟩,rfl,rfl,_,_,rfl,ao,(.ab 8 0 3 5 _ (λ_=>iB (azi).po) λaEt=>(.ab 8 1 3 7 _ (λ_=>iB (azm).po) λaEu=>?_))⟩)
 have azn:=(DR.cp (ae.bx (x:=Q2) (F0:=aEt) azi) (DR.cp (ae.bx (x:=Q3) (F0:=aEu) azm) DR.dL))
 refine .ab 3 1 3 8 _ (λ_=>rT (DR.lq YO Jx) (azn).po) λaEv=>?_
 have azo:=DR.jE YO Jx (ae.bx (x:=(ae.mk 44 0 Q1 ([Q2,Q3]:List ae))) (F0:=aEv) azn)
 exact ct ⟨_,_,_,_,_,_,azo,si h,rfl,rfl⟩ (tk [0,1,12,4,3] ⟨.p,.p,.p,⟨⟩⟩ ⟨(fM rfl),(nb rfl ⟨.i,.i,.s,.g,⟨⟩⟩),gh,(nb rfl ⟨.i,.i,.s,.oe,⟨⟩⟩),(bu azo),⟨⟩⟩)
 refine .ab 3 0 3 2 _ (λ_=>iB (ade).po) λaEw=>?_
 have adf:=(DR.cp (ae.bx (x:=wK) (F0:=aEw) ade) DR.dL)
 exact ct ⟨_,_,_,_,_,_,adf.self,si h,rfl,rfl⟩ (tk [0,1,7,4,3] ⟨.p,.p,.p,⟨⟩⟩ ⟨(fM rfl),(nb rfl ⟨.i,.i,.s,.g,⟨⟩⟩),gh,(nb rfl ⟨.i,.i,.s,.oe,⟨⟩⟩),(bu adf adf.len adf.len),⟨⟩⟩)
 rintro _ _ ⟨Ya,BC,Yb,Yc,zf,YN,Cg,rfl,rfl,rfl⟩
 replace h:=azc
 refine .d (.d ?_)
 obtain ⟨⟨avJ,acE⟩,azp,h⟩:=bd h
 refine cb (aV (g1000:=g1000) azp) [0] ?_
 refine sV h (λazq h=>?_) (λazq h=>?_)
 refine .float [(0,true),(1,true),(2,true),(3,false),(4,false),(5,false),(6,false),(7,false),(8,true),(9,false)] aKR ?_
 refine ⟨rfl,rfl,_,rfl,?_⟩
 obtain ⟨⟨Q4,ajO⟩,azr,h⟩:=bd h
 refine bz (me _ _ azr _) [0] λaHq adg=>?_
 refine ⟨rfl,rfl,_,cJ,rfl,rfl,(qX (bF _ _ _ _ rfl) ⟨rfl,rfl,_,dx,rfl,rfl,(bk h λacF Ch h=>(.fx ⟨rfl,rfl,(λ_ _=>rfl),DR.xA Cg Ch,acF.length,dV YN zf.length [.int .i64 45,.int .i64 0,.str [],.own 6 0 0 1],DR.ln Cg Ch,dE (DR.ln Cg Ch) ⟨.same _,.same _,.same _,.same _,trivial⟩,rfl,rfl,_,_,rfl,ao,?_⟩))⟩)⟩
 refine .d (.d ⟨rfl,rfl,_,rfl,rfl,(sE h (λazs h=>?_) (λazs h=>?_))⟩)
 refine .d ?_
 obtain ⟨⟨avK,avL⟩,azt,h⟩:=bd h
 refine bz (fh (g1000:=g1000) azt) [0] λaEx azu=>?_
 refine ⟨rfl,_,_,rfl,ao,?_⟩
 obtain rfl:=si h
 refine ⟨rfl,_,rfl,(.ab 6 0 3 5 _ (λ_=>iB (adg).po) λaEy=>?_)⟩
 have azv:=(DR.cp (ae.bx (x:=Q4) (F0:=aEy) adg) DR.dL)
 refine .ab 4 zf.length 3 6 _ (λ_=>rT (DR.lq Cg Ch) (azv).po) λaEz=>?_
 have aHr:=DR.jE Cg Ch (ae.bx (x:=(ae.mk 45 0 [] ([Q4]:List ae))) (F0:=aEz) azv)
 exact en [0,8] ⟨aEx,azu.self,rfl,rfl⟩ (.aI ⟨.i,.i,.s,.oe,⟨⟩⟩) ⟨(ob rfl ⟨.l,.i,.i,.i,⟨⟩⟩),(bu azu),⟨⟩⟩
 refine .d ⟨rfl,_,rfl,rfl,_,_,rfl,ao,?_⟩
 obtain rfl:=si h
 refine ⟨rfl,_,rfl,(.ab 6 0 3 5 _ (λ_=>iB (adg).po) λaEA=>?_)⟩
 have azw:=(DR.cp (ae.bx (x:=Q4) (F0:=aEA) adg) DR.dL)
 refine .ab 4 zf.length 3 6 _ (λ_=>rT (DR.lq Cg Ch) (azw).po) λaEB=>?_
 have adh:=DR.jE Cg Ch (ae.bx (x:=(ae.mk 45 0 [] ([Q4]:List ae))) (F0:=aEB) azw)
 exact en [0,4] ⟨_,adh.self,rfl,rfl⟩ (.aI ⟨.i,.i,.s,.oe,⟨⟩⟩) ⟨(ob rfl ⟨.l,.i,.i,.i,⟨⟩⟩),(bu adh adh.len adh.len),⟨⟩⟩
 refine .d (.d ⟨rfl,rfl,_,rfl,rfl,(sE h (λazx h=>?_) (λazx h=>?_))⟩)
 refine .d ?_
 obtain ⟨⟨avM,avN⟩,azy,h⟩:=bd h
 refine bz (fh (g1000:=g1000) azy) [0] λaEC azz=>?_
 refine ⟨rfl,_,_,rfl,ao,?_⟩
 obtain rfl:=si h
 exact ⟨rfl,_,rfl,(en [0,5] ⟨aEC,azz.self,rfl,rfl⟩ (.aI ⟨.i,.i,.s,.oe,⟨⟩⟩) ⟨(ob rfl ⟨.l,.i,.i,.i,⟨⟩⟩),(bu azz),⟨⟩⟩)⟩
 refine .d ⟨rfl,_,rfl,rfl,_,_,rfl,ao,?_⟩
 obtain rfl:=si h
 exact ⟨rfl,_,rfl,(en [0,4] ⟨YN,Cg.self,rfl,rfl⟩ (.aI ⟨.i,.i,.s,.oe,⟨⟩⟩) ⟨(ob rfl ⟨.l,.i,.i,.i,⟨⟩⟩),(bu Cg Cg.len Cg.len),⟨⟩⟩)⟩
 intro _ _ pz me a0 r h g1000
 refine eT Tryz.func181 ?_
 refine .d (.d (bk h λavE azA h=>(cb (bh (g1000:=g1000) azA) [0] ?_)))
 refine .d ?_
 obtain ⟨⟨B4,avF⟩,azB,h⟩:=bd h
 refine bz (pz _ _ azB _) [0] λazC azD=>?_
 refine ⟨_,cJ,(qX (bF _ _ _ _ rfl) ⟨rfl,_,_,rfl,ao,(.d (bk h λBI Xm h=>(cb (bh (g1000:=g1000) Xm) [0] ?_)))⟩)⟩
 refine .ab 3 0 3 2 _ (λ_=>iB (azD).po) λakP=>(.d (.float [(0,true),(1,true),(2,true),(3,false),(4,false),(5,false),(6,true),(7,false)] aKR ?_))
 refine ⟨rfl,rfl,_,rfl,?_⟩
 obtain ⟨⟨AA,L1⟩,Xn,h⟩:=bd h
 refine bz (mo (g1000:=g1000) Xn) [0] λaED akQ=>?_
 refine ⟨rfl,rfl,_,dx,rfl,rfl,?_⟩
 have Ra:=(DR.cp (ae.bx (x:=B4) (F0:=akP) azD) DR.dL)
 refine bk h λQZ E8 h=>(.fx ⟨rfl,rfl,(λ_ _=>rfl),DR.xA Ra E8,QZ.length,dV (kg [[.int .i64 B4.aj,.int .i64 B4.aP,.str B4.aq,.dY 4 B4.ah.length 29 azC akP]]) 1 [.int .i64 AA.aj,.int .i64 AA.aP,.str AA.aq,.own 5 0 0 AA.ah.length],DR.ln Ra E8,dE (DR.ln Ra E8) ⟨.same _,.same _,.same _,.same _,trivial⟩,rfl,rfl,_,_,rfl,ao,?_⟩)
 obtain ⟨aEE,h,azE⟩:=bd h
 refine .cut (λσ η=>∃X5,∃X6,∃X7,∃X8,∃D3,∃adi:Nat->List PV,DR ae.D D3.length adi D3/\(X5,X6,X7,X8,D3)=aEE/\σ=[(0,.aC 0 g1000 0 0),(2,.aC 1 0 0 0),(3,.aC 3 0 0 0)]/\η=[.row g1000 4 1 62 (λ_=>[sl 4 af.cells X5,.int .i64 X6,.int .i64 X7,.int .i64 X8]),.row 0 4 1 29 (λ_=>[.int .i64 0,.int .i64 0,.str [],.own 2 0 0 0]),.row 0 4 0 29 (λ_=>[]),.row 0 4 1 29 (λ_=>[.int .i64 36,.int .i64 0,.str [],.own 4 0 0 D3.length]),.row 0 4 D3.length 29 adi]) ?_ ?_
 refine .ab 3 1 3 5 _ (λ_=>rT (DR.lq Ra E8) (akQ).po) λakR=>(.d ?_)
 obtain ⟨⟨Q0,ug⟩,azF,h⟩:=bd h
 refine cb (aV (g1000:=g1000) azF) [0] ?_
 refine sV h (λazG h=>?_) (λazG h=>?_)
 refine .float [(0,true),(1,true),(2,true),(3,false),(4,false),(5,false),(6,true),(7,false)] aKR ?_
 refine ⟨rfl,rfl,_,rfl,?_⟩
 obtain ⟨⟨B5,w9⟩,azH,h⟩:=bd h
 refine bz (mo (g1000:=g1000) azH) [0] λaHs Mi=>?_
 refine ⟨rfl,rfl,_,dx,rfl,rfl,?_⟩
 have YP:=DR.jE Ra E8 (ae.bx (x:=AA) (F0:=akR) akQ)
 refine bk h λMA Jy h=>(.fx ⟨rfl,rfl,(λ_ _=>rfl),DR.xA YP Jy,MA.length,dV (dV (kg [[.int .i64 B4.aj,.int .i64 B4.aP,.str B4.aq,.dY 4 B4.ah.length 29 azC akP]]) 1 [.int .i64 AA.aj,.int .i64 AA.aP,.str AA.aq,.dY 4 AA.ah.length 29 aED akR]) QZ.length [.int .i64 B5.aj,.int .i64 B5.aP,.str B5.aq,.own 7 0 0 B5.ah.length],DR.ln YP Jy,dE (DR.ln YP Jy) ⟨.same _,.same _,.same _,.same _,trivial⟩,rfl,rfl,_,_,rfl,ao,(.ab 3 QZ.length 3 7 _ (λ_=>rT (DR.lq YP Jy) (Mi).po) λaEF=>?_)⟩)
 have azI:=DR.jE YP Jy (ae.bx (x:=B5) (F0:=aEF) Mi)
 exact ct ⟨_,_,_,_,_,_,azI,si h,rfl,rfl⟩ (tk [0,1,11,4,3] ⟨.p,.p,.p,⟨⟩⟩ ⟨(fM rfl),(nb rfl ⟨.i,.i,.s,.g,⟨⟩⟩),gh,(nb rfl ⟨.i,.i,.s,.oe,⟨⟩⟩),(bu azI),⟨⟩⟩)
 have azJ:=DR.jE Ra E8 (ae.bx (x:=AA) (F0:=akR) akQ)
 exact ct ⟨_,_,_,_,_,_,azJ,si h,rfl,rfl⟩ (tk [0,1,9,4,3] ⟨.p,.p,.p,⟨⟩⟩ ⟨(fM rfl),(nb rfl ⟨.i,.i,.s,.g,⟨⟩⟩),gh,(nb rfl ⟨.i,.i,.s,.oe,⟨⟩⟩),(bu azJ),⟨⟩⟩)
 rintro _ _ ⟨X5,X6,X7,X8,D3,adi,YQ,rfl,rfl,rfl⟩
 replace h:=azE
 refine .d (bk h λavG azK h=>(cb (bh (g1000:=g1000) azK) [0] ?_))
 refine .d (.float [(0,true),(1,true),(2,true),(3,false),(4,false),(5,false),(6,true),(7,false)] aKR ?_)
 refine ⟨rfl,rfl,_,rfl,?_⟩
 obtain ⟨⟨MB,avH⟩,azL,h⟩:=bd h
 refine bz (me _ _ azL _) [0] λaHt azM=>?_
 refine ⟨rfl,rfl,_,dx,rfl,rfl,(bk h λajN Jz h=>(.fx ⟨rfl,rfl,(λ_ _=>rfl),DR.xA YQ Jz,ajN.length,dV adi D3.length [.int .i64 MB.aj,.int .i64 MB.aP,.str MB.aq,.own 5 0 0 MB.ah.length],DR.ln YQ Jz,dE (DR.ln YQ Jz) ⟨.same _,.same _,.same _,.same _,trivial⟩,rfl,rfl,_,_,rfl,ao,(.d ⟨rfl,_,rfl,rfl,_,_,rfl,ao,?_⟩)⟩))⟩
 obtain rfl:=si h
 refine ⟨rfl,_,rfl,(.ab 4 D3.length 3 5 _ (λ_=>rT (DR.lq YQ Jz) (azM).po) λaEG=>?_)⟩
 have adj:=DR.jE YQ Jz (ae.bx (x:=MB) (F0:=aEG) azM)
 exact en [0,4] ⟨_,adj.self,rfl,rfl⟩ (.aI ⟨.i,.i,.s,.oe,⟨⟩⟩) ⟨(ob rfl ⟨.l,.i,.i,.i,⟨⟩⟩),(bu adj adj.len adj.len),⟨⟩⟩
 intro _ pz a0 r h g1000
 refine eT Tryz.func180 ?_
 refine .d (.d (bk h λavA azN h=>(cb (bh (g1000:=g1000) azN) [0] ?_)))
 refine .d ?_
 obtain ⟨⟨avB,V5⟩,azO,h⟩:=bd h
 refine bz (pz _ _ azO _) [0] λaEH azP=>?_
 refine ⟨rfl,_,_,rfl,ao,(.d (bk h λavC azQ h=>(cb (bh (g1000:=g1000) azQ) [0] ?_)))⟩
 refine .d ⟨rfl,_,rfl,rfl,_,_,rfl,ao,?_⟩
 obtain rfl:=si h
 exact ⟨rfl,_,rfl,(en [0,2] ⟨aEH,azP.self,rfl,rfl⟩ (.aI ⟨.i,.i,.s,.oe,⟨⟩⟩) ⟨(ob rfl ⟨.l,.i,.i,.i,⟨⟩⟩),(bu azP),⟨⟩⟩)⟩
 intro _ _ _ me MU MV a0 r h g1000
 refine eT Tryz.func179 ?_
 refine .d (.d ?_)
 obtain ⟨⟨Av,avD⟩,azR,h⟩:=bd h
 refine bz (MU _ _ azR _) [0] λaHu JA=>?_
 refine ⟨rfl,_,_,rfl,ao,?_⟩
 obtain ⟨aEI,h,azS⟩:=bd h
 refine .cut (λσ η=>∃X0,∃BB,∃X1,∃X2,∃Mz,∃Rb:Nat->List PV,DR ae.D 2 Rb Mz/\(X0,BB,X1,X2,Mz)=aEI/\σ=[(0,.aC 0 g1000 0 0),(2,.aC 1 0 0 0),(4,.aC 3 0 0 0)]/\η=[.row g1000 4 1 62 (λ_=>[sl 4 af.cells X0,.int .i64 BB,.int .i64 X1,.int .i64 X2]),.row 0 4 1 29 (λ_=>[.int .i64 0,.int .i64 0,.str [],.own 2 0 0 0]),.row 0 4 0 29 (λ_=>[]),.row 0 4 1 29 (λ_=>[.int .i64 34,.int .i64 0,.str [],.own 4 0 0 2]),.row 0 4 2 29 Rb]) ?_ ?_
 refine .YR [([(0,true),(1,true)],2,5,[(2,false),(3,false),(4,false),(6,false)]),([],3,5,[(3,false),(4,false),(6,false)]),([],4,5,[(4,false),(6,false)])] [(5,false),(6,false)] aKR ?_
 refine ⟨rfl,_,rfl,?_,?_⟩
 obtain ⟨⟨My,QV⟩,YS,h⟩:=bd h
 refine bz (me _ _ YS _) [0] λaEJ GJ=>?_
 refine ⟨rfl,?_,?_⟩
 refine ⟨_,cJ,?_,?_⟩
 refine qX (bF _ _ _ _ rfl) ⟨rfl,rfl,_,_,rfl,ao,(.ab 5 0 3 2 _ (λ_=>iB (JA).po) λMW=>(.ab 5 1 3 4 _ (λ_=>iB (GJ).po) λMX=>?_))⟩
 have Ci:=(DR.cp (ae.bx (x:=Av) (F0:=MW) JA) (DR.cp (ae.bx (x:=My) (F0:=MX) GJ) DR.dL))
 exact ct ⟨_,_,_,_,_,_,Ci,si h,rfl,rfl⟩ (tk [0,1,9,6,5] ⟨.p,.p,.p,⟨⟩⟩ ⟨(fM rfl),(nb rfl ⟨.i,.i,.s,.g,⟨⟩⟩),gh,(nb rfl ⟨.i,.i,.s,.oe,⟨⟩⟩),(bu Ci),⟨⟩⟩)
 refine ⟨rfl,(qX (bF _ _ _ _ rfl) ⟨rfl,_,_,rfl,ao,(.ab 5 0 3 2 _ (λ_=>iB (JA).po) λMW=>(.ab 5 1 3 4 _ (λ_=>iB (GJ).po) λMX=>?_))⟩)⟩
 have Ci:=(DR.cp (ae.bx (x:=Av) (F0:=MW) JA) (DR.cp (ae.bx (x:=My) (F0:=MX) GJ) DR.dL))
 exact ct ⟨_,_,_,_,_,_,Ci,si h,rfl,rfl⟩ (tk [0,1,9,6,5] ⟨.p,.p,.p,⟨⟩⟩ ⟨(fM rfl),(nb rfl ⟨.i,.i,.s,.g,⟨⟩⟩),gh,(nb rfl ⟨.i,.i,.s,.oe,⟨⟩⟩),(bu Ci),⟨⟩⟩)
 refine ⟨rfl,_,cJ,(qX (bF _ _ _ _ rfl) ⟨rfl,_,_,rfl,ao,(.ab 6 0 3 2 _ (λ_=>iB (JA).po) λMW=>(.ab 6 1 3 4 _ (λ_=>iB (GJ).po) λMX=>?_))⟩)⟩
 have Ci:=(DR.cp (ae.bx (x:=Av) (F0:=MW) JA) (DR.cp (ae.bx (x:=My) (F0:=MX) GJ) DR.dL))
 exact ct ⟨_,_,_,_,_,_,Ci,si h,rfl,rfl⟩ (tk [0,1,9,5,6] ⟨.p,.p,.p,⟨⟩⟩ ⟨(fM rfl),(nb rfl ⟨.i,.i,.s,.g,⟨⟩⟩),gh,(nb rfl ⟨.i,.i,.s,.oe,⟨⟩⟩),(bu Ci),⟨⟩⟩)
 refine ⟨rfl,?_⟩
 obtain ⟨⟨My,QV⟩,YS,h⟩:=bd h
 refine bz (me _ _ YS _) [0] λaEJ GJ=>?_
 refine ⟨rfl,_,cJ,(qX (bF _ _ _ _ rfl) ⟨rfl,_,_,rfl,ao,(.ab 6 0 3 2 _ (λ_=>iB (JA).po) λMW=>(.ab 6 1 3 5 _ (λ_=>iB (GJ).po) λMX=>?_))⟩)⟩
 have Ci:=(DR.cp (ae.bx (x:=Av) (F0:=MW) JA) (DR.cp (ae.bx (x:=My) (F0:=MX) GJ) DR.dL))
 exact ct ⟨_,_,_,_,_,_,Ci,si h,rfl,rfl⟩ (tk [0,1,9,4,6] ⟨.p,.p,.p,⟨⟩⟩ ⟨(fM rfl),(nb rfl ⟨.i,.i,.s,.g,⟨⟩⟩),gh,(nb rfl ⟨.i,.i,.s,.oe,⟨⟩⟩),(bu Ci),⟨⟩⟩)
 rintro _ _ ⟨X0,BB,X1,X2,Mz,Rb,x5,rfl,rfl,rfl⟩
 replace h:=azS
 refine .d (.d ?_)
 obtain ⟨⟨acv,QW⟩,azT,h⟩:=bd h
 refine cb (aV (g1000:=g1000) azT) [0] ?_
 refine sV h (λazU h=>?_) (λazU h=>?_)
 refine .d ?_
 obtain ⟨⟨acw,QX⟩,azV,h⟩:=bd h
 refine cb (aV (g1000:=g1000) azV) [0] ?_
 refine sV h (λazW h=>?_) (λazW h=>?_)
 refine .float [(0,true),(1,true),(2,true),(3,false),(4,false),(5,false),(6,false),(7,false),(8,true),(9,false)] aKR ?_
 refine ⟨rfl,rfl,_,rfl,?_⟩
 obtain ⟨⟨QY,acx⟩,azX,h⟩:=bd h
 refine bz (MV _ _ azX _) [0] λaHv azY=>?_
 refine ⟨rfl,rfl,_,cJ,rfl,rfl,(qX (bF _ _ _ _ rfl) ⟨rfl,rfl,_,dx,rfl,rfl,(bk h λX3 JB h=>(.fx ⟨rfl,rfl,(λ_ _=>rfl),DR.xA x5 JB,X3.length,dV Rb 2 [.int .i64 48,.int .i64 0,.str [],.own 6 0 0 1],DR.ln x5 JB,dE (DR.ln x5 JB) ⟨.same _,.same _,.same _,.same _,trivial⟩,rfl,rfl,_,_,rfl,ao,?_⟩))⟩)⟩
 refine .d ⟨rfl,_,rfl,rfl,_,_,rfl,ao,?_⟩
 obtain rfl:=si h
 refine ⟨rfl,_,rfl,(.ab 6 0 3 5 _ (λ_=>iB (azY).po) λaEK=>?_)⟩
 have azZ:=(DR.cp (ae.bx (x:=QY) (F0:=aEK) azY) DR.dL)
 refine .ab 4 2 3 6 _ (λ_=>rT (DR.lq x5 JB) (azZ).po) λaEL=>?_
 have adk:=DR.jE x5 JB (ae.bx (x:=(ae.mk 48 0 [] ([QY]:List ae))) (F0:=aEL) azZ)
 exact en [0,4] ⟨_,adk.self,rfl,rfl⟩ (.aI ⟨.i,.i,.s,.oe,⟨⟩⟩) ⟨(ob rfl ⟨.l,.i,.i,.i,⟨⟩⟩),(bu adk adk.len adk.len),⟨⟩⟩
 refine .float [(0,true),(1,true),(2,true),(3,false),(4,false),(5,false),(6,true),(7,false)] aKR ?_
 refine ⟨rfl,rfl,_,rfl,?_⟩
 obtain ⟨⟨GF,acy⟩,az0,h⟩:=bd h
 refine bz (me _ _ az0 _) [0] λaHw az1=>?_
 refine ⟨rfl,rfl,_,dx,rfl,rfl,(bk h λX4 JC h=>(.fx ⟨rfl,rfl,(λ_ _=>rfl),DR.xA x5 JC,X4.length,dV Rb 2 [.int .i64 GF.aj,.int .i64 GF.aP,.str GF.aq,.own 5 0 0 GF.ah.length],DR.ln x5 JC,dE (DR.ln x5 JC) ⟨.same _,.same _,.same _,.same _,trivial⟩,rfl,rfl,_,_,rfl,ao,(.d ⟨rfl,_,rfl,rfl,_,_,rfl,ao,?_⟩)⟩))⟩
 obtain rfl:=si h
 refine ⟨rfl,_,rfl,(.ab 4 2 3 5 _ (λ_=>rT (DR.lq x5 JC) (az1).po) λaEM=>?_)⟩
 have adl:=DR.jE x5 JC (ae.bx (x:=GF) (F0:=aEM) az1)
 exact en [0,4] ⟨_,adl.self,rfl,rfl⟩ (.aI ⟨.i,.i,.s,.oe,⟨⟩⟩) ⟨(ob rfl ⟨.l,.i,.i,.i,⟨⟩⟩),(bu adl adl.len adl.len),⟨⟩⟩
 refine .d ⟨rfl,_,rfl,rfl,_,_,rfl,ao,?_⟩
 obtain rfl:=si h
 exact ⟨rfl,_,rfl,(en [0,4] ⟨Rb,x5.self,rfl,rfl⟩ (.aI ⟨.i,.i,.s,.oe,⟨⟩⟩) ⟨(ob rfl ⟨.l,.i,.i,.i,⟨⟩⟩),(bu x5 x5.len x5.len),⟨⟩⟩)⟩
theorem GK {a0:aA} {r:ae×aA} {g1000:Nat} (h:bp a0=some r):KY 51 a0 r g1000:=Cd.2.2.1 a0 r h g1000
set_option synthInstance.maxHeartbeats 400000
set_option synthInstance.maxSize 4000
set_option maxRecDepth 100000
mutual
def kP (a0:ae):Option (ae×ae):=
 (
 ir a0 a0.ah ([]:List ae) ([]:List ae) 0
 :Option ((List ae)×(List ae)×(List ae)))>>=λ(l1,l4,l7)=>
 some ((ae.mk a0.aj a0.aP a0.aq l7),(ae.mk a0.aj a0.aP a0.aq l1))
partial_fixpoint
def ir (a0:ae) (E9:List ae) (su:List ae) (pt:List ae) (uh:Int):Option ((List ae)×(List ae)×(List ae)):=
 (if uh<(a0.ah.length:Int) then
 idx E9 uh>>=λqC=>
 kP qC>>=λ(MY,v34)=>
 db 56 pt [MY]>>=λl40=>
 ir a0 (E9.set uh.toNat (ae.mk qC.aj qC.aP qC.aq v34.ah)) su l40 (bq (uh+1))
 else
 some (E9,su,pt))
partial_fixpoint
end
def YT (a0:ae) (r:ae×ae):Prop:=∀g1000:Nat,∀eK:Nat,∀gX:Nat->List PV,DR ae.D eK gX a0.ah->ACall Tryz.prog 52 [.agg [.int .i64 a0.aj,.int .i64 a0.aP,.str a0.aq,.own 0 g1000 0 eK]] [.row g1000 4 eK 29 gX] (λres h=>∃F0:Nat->List PV,∃F1:Nat->List PV,DR ae.D eK F0 r.2.ah/\DR ae.D r.1.ah.length F1 r.1.ah/\res=.agg [.int .i64 r.1.aj,.int .i64 r.1.aP,.str r.1.aq,.own 1 0 0 r.1.ah.length]/\h=[.row g1000 4 eK 29 F0,.row 0 4 r.1.ah.length 29 F1])
inductive jy:ae->(List ae)->(List ae)->(List ae)->Int->((List ae)×(List ae)×(List ae))->Prop
 | mk (G52:ae->Option (ae×ae)) (aHx:∀a0 r,G52 a0=some r->YT a0 r) (rX:ae->(List ae)->(List ae)->(List ae)->Int->Option ((List ae)×(List ae)×(List ae))) (Po:∀a0 E9 su pt uh o,rX a0 E9 su pt uh=some o->jy a0 E9 su pt uh o) (a0:ae) (E9:List ae) (su:List ae) (pt:List ae) (uh:Int) (o:(List ae)×(List ae)×(List ae)) (h:(
 (if uh<(a0.ah.length:Int) then
 idx E9 uh>>=λqC=>
 G52 qC>>=λ(MY,v34)=>
 db 56 pt [MY]>>=λl40=>
 rX a0 (E9.set uh.toNat (ae.mk qC.aj qC.aP qC.aq v34.ah)) su l40 (bq (uh+1))
 else
 some (E9,su,pt))
 )=some o):jy a0 E9 su pt uh o
theorem Cj:(∀a0 r,kP a0=some r->YT a0 r)/\(∀a0 E9 su pt uh o,ir a0 E9 su pt uh=some o->jy a0 E9 su pt uh o):=by
 refine kP.mutual_partial_correctness YT jy ?_ ?_
 intro _ ag6 a0 r h g1000 eK gX iR
 obtain rfl:=iR.len
 refine eT Tryz.func52 ?_
 refine .d (.d ⟨rfl,rfl,_,rfl,rfl,rfl,_,rfl,rfl,rfl,_,rfl,rfl,_,_,rfl,ao,?_⟩)
 obtain ⟨o10,h,Sw⟩:=bd h
 refine .cut (λσ η=>∃l1,∃l4,∃l7,∃f2:Nat->List PV,∃f5:Nat->List PV,∃f8:Nat->List PV,DR ae.D a0.ah.length f2 l1/\DR ae.D l4.length f5 l4/\DR ae.D l7.length f8 l7/\(l1,l4,l7)=o10/\σ=[(2,.aC 1 0 0 0),(3,.aC 3 0 0 0)]/\η=[.row g1000 4 a0.ah.length 29 f2,.row 0 4 1 29 (λ_=>[.int .i64 0,.int .i64 0,.str [],.own 2 0 0 l4.length]),.row 0 4 l4.length 29 f5,.row 0 4 1 29 (λ_=>[.int .i64 a0.aj,.int .i64 a0.aP,.str a0.aq,.own 4 0 0 l7.length]),.row 0 4 l7.length 29 f8]) ?_ ?_
 refine .d ?_
 have ag8:=ag6 _ _ _ _ _ _ h
 refine le (jy.rec (motive:=λp48 E9 su pt uh o46 _=>∀f14:Nat->List PV,∀f17:Nat->List PV,∀f20:Nat->List PV,DR ae.D a0.ah.length f14 E9->DR ae.D su.length f17 su->DR ae.D pt.length f20 pt->a0=p48->o10=o46->aQ _ _ [(1,.aC 1 0 0 0),(2,.aC 2 0 0 0),(3,.aC 4 0 0 0),(4,.int .i64 uh)] [.row g1000 4 a0.ah.length 29 f14,.row 0 4 1 29 (λ_=>[.int .i64 a0.aj,.int .i64 a0.aP,.str a0.aq,.own 0 g1000 0 a0.ah.length]),.row 0 4 1 29 (λ_=>[.int .i64 0,.int .i64 0,.str [],.own 3 0 0 su.length]),.row 0 4 su.length 29 f17,.row 0 4 1 29 (λ_=>[.int .i64 a0.aj,.int .i64 a0.aP,.str a0.aq,.own 5 0 0 pt.length]),.row 0 4 pt.length 29 f20]) ?_ ag8 gX (λ_=>[]) (λ_=>[]) iR ((DR.nil (D:=ae.D)).self) ((DR.nil (D:=ae.D)).self) rfl rfl) (tk [0,1,2,7,3,9] ⟨.p,.p,.p,.i,⟨⟩⟩ ⟨(odd iR),(nb rfl ⟨.i,.i,.s,.oe,⟨⟩⟩),(nb rfl ⟨.i,.i,.s,.g,⟨⟩⟩),gh,(nb rfl ⟨.i,.i,.s,.g,⟨⟩⟩),gh,⟨⟩⟩)
 intro _ ahE _ _ p48 E9 su pt uh o46 h aEN f14 f17 f20 d15 d18 d21 Ly Ti
 subst Ly
 subst Ti
 refine aQ.round (.d (.d ⟨rfl,rfl,_,rfl,rfl,(sD h (λEe h=>?_) (λEe h=>?_))⟩))
 refine bk h λqC Ck h=>?_
 obtain ⟨F29,f30,e32,d31⟩:=ae.af0 (DR.idx d15 Ck)
 refine .ex [.row g1000 4 a0.ah.length 29 (dV f14 uh.toNat [.int .i64 qC.aj,.int .i64 qC.aP,.str qC.aq,.own 6 0 0 qC.ah.length]),.row 0 4 1 29 (λ_=>[.int .i64 a0.aj,.int .i64 a0.aP,.str a0.aq,.own 0 g1000 0 a0.ah.length]),.row 0 4 1 29 (λ_=>[.int .i64 0,.int .i64 0,.str [],.own 3 0 0 su.length]),.row 0 4 su.length 29 f17,.row 0 4 1 29 (λ_=>[.int .i64 a0.aj,.int .i64 a0.aP,.str a0.aq,.own 5 0 0 pt.length]),.row 0 4 pt.length 29 f20,.row 0 4 qC.ah.length 29 f30] (exs 0 3 [.int .i64 qC.aj,.int .i64 qC.aP,.str qC.aq,.dY 4 qC.ah.length 29 f30 F29] [.int .i64 qC.aj,.int .i64 qC.aP,.str qC.aq,.own 6 0 0 qC.ah.length] (dV f14 uh.toNat [.int .i64 qC.aj,.int .i64 qC.aP,.str qC.aq,.own 6 0 0 qC.ah.length]) (DR.lt d15 Ck) e32 iX akS rfl rfl rfl rfl) (.d (.float [(0,true),(1,true),(2,true),(3,true),(4,true),(5,true),(6,true),(7,false),(8,false),(9,false),(10,true),(11,false)] aKR ?_))
 refine ⟨rfl,rfl,_,rfl,rfl,rfl,_,rfl,rfl,DR.bd d15 Ck,_,aHJ _,rfl,_,iX,?_⟩
 obtain ⟨⟨MY,v34⟩,akT,h⟩:=bd h
 refine az2 (ahE _ _ akT _ _ _ d31) [6] ⟨(Q9 d31),⟨⟩⟩ ?_
 rintro _ _ ⟨f38,f36,d39,d37,rfl,rfl⟩
 refine nx ?_
 refine ⟨rfl,rfl,_,dx,rfl,rfl,(bk h λl40 GL h=>(.fx ⟨rfl,rfl,(λ_ _=>rfl),DR.xA d21 GL,l40.length,dV f20 pt.length [.int .i64 MY.aj,.int .i64 MY.aP,.str MY.aq,.own 7 0 0 MY.ah.length],DR.ln d21 GL,dE (DR.ln d21 GL) ⟨.same _,.same _,.same _,.same _,trivial⟩,rfl,rfl,_,_,rfl,ao,(.ab 0 uh.toNat 3 6 _ (λ_=>rT (DR.lt d15 Ck) (d39).po) λF42=>(.ab 5 pt.length 3 7 _ (λ_=>rT (DR.lq d21 GL) (d37).po) λF43=>?_))⟩))⟩
 have d44:DR ae.D a0.ah.length (dV f14 uh.toNat [.int .i64 qC.aj,.int .i64 qC.aP,.str qC.aq,.dY 4 qC.ah.length 29 f38 F42]) (E9.set uh.toNat (ae.mk qC.aj qC.aP qC.aq v34.ah)):=DR.set d15 (MZ Ck) (ae.bx (x:=(ae.mk qC.aj qC.aP qC.aq v34.ah)) d39:ae.D [.int .i64 qC.aj,.int .i64 qC.aP,.str qC.aq,.dY 4 qC.ah.length 29 f38 F42] (ae.mk qC.aj qC.aP qC.aq v34.ah))
 have d45:=DR.jE d21 GL (ae.bx (x:=MY) (F0:=F43) d37)
 exact lg (aEN _ _ _ _ _ _ h _ f17 _ d44 d18 d45 rfl rfl) (tk [0,1,2,3,4,5] ⟨.p,.p,.p,.i,⟨⟩⟩ ⟨(odd d44),(nb rfl ⟨.i,.i,.s,.oe,⟨⟩⟩),(nb rfl ⟨.i,.i,.s,.oe,⟨⟩⟩),(bu d18),(nb rfl ⟨.i,.i,.s,.oe,⟨⟩⟩),(bu d45),⟨⟩⟩)
 exact ct ⟨_,_,_,f14,f17,f20,d15,d18,d21,si h,rfl,rfl⟩ (tk [0,2,3,4,5] ⟨.p,.p,⟨⟩⟩ ⟨(odd d15),(nb rfl ⟨.i,.i,.s,.oe,⟨⟩⟩),(bu d18),(nb rfl ⟨.i,.i,.s,.oe,⟨⟩⟩),(bu d21),⟨⟩⟩)
 rintro _ _ ⟨l1,l4,l7,f2,f5,f8,d3,d6,d9,rfl,rfl,rfl⟩
 replace h:=Sw
 refine .d ⟨rfl,_,rfl,rfl,_,_,rfl,ao,?_⟩
 obtain rfl:=si h
 exact ⟨rfl,_,rfl,(en [0,4] ⟨f2,f8,d3,d9.self,rfl,rfl⟩ (.aI ⟨.i,.i,.s,.oe,⟨⟩⟩) ⟨(odd d3),(bu d9 d9.len d9.len),⟨⟩⟩)⟩
 intro F0 F1 nK nL a0 E9 su pt uh o h
 exact .mk F0 nK F1 nL a0 E9 su pt uh o h
theorem GM {a0:ae} {r:ae×ae} {g1000:Nat} {eK:Nat} {gX:Nat->List PV} (h:kP a0=some r) (iR:DR ae.D eK gX a0.ah):ACall Tryz.prog 52 [.agg [.int .i64 a0.aj,.int .i64 a0.aP,.str a0.aq,.own 0 g1000 0 eK]] [.row g1000 4 eK 29 gX] (λres h=>∃F0:Nat->List PV,∃F1:Nat->List PV,DR ae.D eK F0 r.2.ah/\DR ae.D r.1.ah.length F1 r.1.ah/\res=.agg [.int .i64 r.1.aj,.int .i64 r.1.aP,.str r.1.aq,.own 1 0 0 r.1.ah.length]/\h=[.row g1000 4 eK 29 F0,.row 0 4 r.1.ah.length 29 F1]):=Cj.1 a0 r h g1000 eK gX iR
def lP (a0:aB):Option (ae×Int):=
 sF [60,63,32] a0>>=λs1=>
 x7 s1>>=λ(v3,v4,v5)=>
 (if v4=0 then
 bp (aA.mk v3 0 (a0.length:Int) (-1))>>=λ(v8,v9)=>
 (
 (if v9.ay>=0 then
 some true
 else
 some (decide (v9.fI<(v3.length:Int))))
 :Option (Bool))>>=λb13=>
 (if b13=true then
 some ((ae.mk 0 0 [] []),10)
 else
 pT v8>>=λv19=>
 (if v19=true then
 kP v8>>=λ(v22,DA)=>
 some (v22,0)
 else
 some ((ae.mk 0 0 [] []),11)))
 else
 some ((ae.mk 0 0 [] []),v4))
theorem Cl {a0:aB} {r:ae×Int} (h:lP a0=some r):au0 19 a0 r:=by
 refine eT Tryz.func19 ?_
 unfold lP at h
 refine .d (.d (bk h λs1 Mr h=>⟨mM Mr,s1,mN Mr,?_⟩))
 obtain ⟨⟨v3,v4,v5⟩,hv6,h⟩:=bd h
 refine cx (YU hv6) (.d (.d (sN h (λzL h=>?_) (λzL h=>?_))))
 refine .d ⟨rfl,_,_,rfl,ao,?_⟩
 obtain rfl:=si h
 exact ⟨rfl,_,rfl,(en [1] ⟨_,(DR.nil (D:=ae.D)),rfl,rfl⟩ (.cP ⟨.aI ⟨.i,.i,.s,.g,⟨⟩⟩,.i,⟨⟩⟩) ⟨gh,⟨⟩⟩)⟩
 refine .d ⟨rfl,_,_,rfl,ao,(.d ?_)⟩
 obtain ⟨⟨v8,v9⟩,SO,h⟩:=bd h
 refine bz (GK (g1000:=0) SO) [1] λf11 d12=>?_
 refine ⟨rfl,_,_,rfl,ao,(.d ?_)⟩
 obtain ⟨o14,h,YV⟩:=bd h
 refine .cut (λσ η=>∃b13,b13=o14/\σ=[(2,.aC 0 0 0 0),(8,.aC 2 0 0 0),(25,.bool b13)]/\η=[.row 0 4 1 29 (λ_=>[.int .i64 0,.int .i64 0,.str [],.own 1 0 0 0]),.row 0 4 0 29 (λ_=>[]),.row 0 4 1 29 (λ_=>[.int .i64 v8.aj,.int .i64 v8.aP,.str v8.aq,.own 3 0 0 v8.ah.length]),.row 0 4 v8.ah.length 29 f11]) ?_ ?_
 refine ⟨rfl,rfl,_,rfl,(sD h (λtX h=>?_) (λtX h=>?_))⟩
 exact .t (.t (.t (.t (.t (ct ⟨_,si h,rfl,rfl⟩ (tk [0,5,3,2] ⟨.p,.p,.b,⟨⟩⟩ ⟨(nb rfl ⟨.i,.i,.s,.g,⟨⟩⟩),gh,(nb rfl ⟨.i,.i,.s,.oe,⟨⟩⟩),(bu d12),⟨⟩⟩))))))
 exact ⟨rfl,(.f ⟨rfl,_,rfl,(.f (.f (.f (.f (ct ⟨_,si h,rfl,rfl⟩ (tk [0,5,3,2] ⟨.p,.p,.b,⟨⟩⟩ ⟨(nb rfl ⟨.i,.i,.s,.g,⟨⟩⟩),gh,(nb rfl ⟨.i,.i,.s,.oe,⟨⟩⟩),(bu d12),⟨⟩⟩))))))⟩)⟩
 rintro _ _ ⟨b13,rfl,rfl,rfl⟩
 replace h:=YV
 refine sV h (λAi h=>?_) (λAi h=>?_)
 refine .d ⟨rfl,_,_,rfl,ao,?_⟩
 exact aJX
 refine .d ⟨rfl,_,rfl,(bk h λv19 akU h=>(R9 (H2 akU) ⟨.aI ⟨.i,.i,.s,(.rd d12),⟨⟩⟩,⟨⟩⟩ (jj h (λRc h=>?_) (λRc h=>?_))))⟩
 refine .d ⟨rfl,_,_,rfl,ao,?_⟩
 exact aJX
 refine .d ⟨rfl,_,rfl,?_⟩
 obtain ⟨⟨v22,DA⟩,M0,h⟩:=bd h
 refine az2 (GM (g1000:=0) M0 d12) [3] ⟨(Q9 d12),⟨⟩⟩ ?_
 rintro _ _ ⟨f27,f25,d28,d26,rfl,rfl⟩
 refine nx ?_
 refine ⟨rfl,_,_,rfl,ao,?_⟩
 obtain rfl:=si h
 exact ⟨rfl,_,rfl,(en [4] ⟨f25,d26.self,rfl,rfl⟩ (.cP ⟨.aI ⟨.i,.i,.s,.oe,⟨⟩⟩,.i,⟨⟩⟩) ⟨(bu d26),⟨⟩⟩)⟩
end Go.Am
