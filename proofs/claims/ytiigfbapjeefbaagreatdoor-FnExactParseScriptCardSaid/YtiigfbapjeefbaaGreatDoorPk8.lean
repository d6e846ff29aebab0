/- Texts of the proof, joined and shortened. -/
import Derived.Test.YtiigfbapjeefbaaGreatDoorPk7
set_option linter.unusedVariables false
set_option linter.unusedSimpArgs false
set_option synthInstance.maxHeartbeats 400000
set_option synthInstance.maxSize 4000
set_option maxRecDepth 100000
set_option maxHeartbeats 8000000
namespace Go.Am
open Go Go.RowKit Go.Proofs
def dk (a1:Int) (u0:List ah) (T7:Int) (QO:Int) (Ol:Int) (BZ:List ae):Option ty7:=
 (if Ol<0 then
 (
 aB (aC.mk u0 T7 QO Ol) [38]>>=λ(MA,xc)=>
 (if MA=true then
 some (xc.fT,xc.fI,xc.aw,xc.av,1)
 else
 some (xc.fT,xc.fI,xc.aw,xc.av,0))
 :Option ((List ah)×Int×Int×Int×Int))>>=λ(l35,Ia,ME,EE,H8)=>
 cf (aC.mk l35 Ia ME EE) 2>>=λ(vy,E3)=>
 cC 56 BZ [(ae.mk a1 H8 vy ([]:List ae))]>>=λl50=>
 aB E3 [44]>>=λ(tt,v53)=>
 (if tt=true then
 dk a1 v53.fT v53.fI v53.aw v53.av l50
 else
 aL v53 [41]>>=λyD=>
 some (.inr (l50,yD)))
 else
 some (.inl (u0,T7,QO,Ol,BZ)))
partial_fixpoint
def eH (a0:aC) (a1:Int) (a2:List ae):Option SK:=
 aL a0 [40]>>=λv1=>
 ((
 (if a1=24 then
 aB v1 [41]>>=λ(v11,v12)=>
 (if v11=true then
 some (.inr (a2,v12))
 else
 some (.inl (v12.fT,v12.fI,v12.aw,v12.av)))
 else
 some (.inl (v1.fT,v1.fI,v1.aw,v1.av)))
 :Option (((List ah)×Int×Int×Int) ⊕ SK))>>=λo7=>match o7 with
 | .inr r=>some r
 | .inl (l3,y4,y5,y6)=>
 ((
 dk a1 l3 y4 y5 y6 a2
 :Option ty7)>>=λT3=>match T3 with
 | .inr r=>some r
 | .inl (SL,xd,qa,xB,oq)=>
 some (oq,(aC.mk SL xd qa xB))
 )
 )
theorem nf {a0:aC} {a1:Int} {a2:List ae} {r:(List ae)×aC} {g1000:Nat} {g1001:Nat} {eR:Nat} {gX:Nat->List PV} (h:eH a0 a1 a2=some r) (lX:DR ae.D eR gX a2):ACall Tryz.prog 117 [.aA 0 g1000 0 0,pI a1,.own 1 g1001 0 eR] [.row g1000 4 1 62 (λ_=>a0.lit),.row g1001 4 eR 29 gX] (λres h=>∃F2:Nat->List PV,DR ae.D r.1.length F2 r.1/\res=.own 2 0 0 r.1.length/\h=[.row g1000 4 1 62 (λ_=>r.2.lit),.dead,.row 0 4 r.1.length 29 F2]):=by
 obtain rfl:=lX.len
 refine ep Tryz.func117 ?_
 unfold eH at h
 refine .d (.d (bk h λv1 tu h=>(bK (aX tu) [0] ?_)))
 obtain ⟨o7,h,JG⟩:=bd h
 refine .cut (λσ η=>∃l3,∃y4,∃y5,∃y6,.inl (l3,y4,y5,y6)=o7/\σ=[(0,.aA 0 g1000 0 0),(1,pI a1),(2,.own 2 0 0 a2.length)]/\η=[.row g1000 4 1 62 (λ_=>[sl 4 ah.cells l3,pI y4,pI y5,pI y6]),.dead,.row 0 4 a2.length 29 gX]) ?_ ?_
 refine .d (sE h (λlS h=>?_) (λlS h=>?_))
 refine .t ?_
 obtain ⟨⟨v11,v12⟩,EI,h⟩:=bd h
 refine bK (aQ EI) [0] ?_
 refine .t (sV h (λsq h=>?_) (λsq h=>?_))
 refine .d ?_
 obtain rfl:=si h
 replace h:=JG
 obtain rfl:=si h
 exact en [0,1,1] ⟨gX,lX.self,rfl,rfl⟩ (.oe) SM
 exact ct ⟨_,_,_,_,si h,rfl,rfl⟩ (tk [0,1,1] SN KZ)
 exact .f (.f (.f (ct ⟨_,_,_,_,si h,rfl,rfl⟩ (tk [0,1,1] SN KZ))))
 rintro _ _ ⟨l3,y4,y5,y6,rfl,rfl,rfl⟩
 replace h:=JG
 obtain ⟨T3,h,awF⟩:=bd h
 refine .cut (λσ η=>∃SL,∃xd,∃qa,∃xB,∃oq,∃f20:Nat->List PV,DR ae.D oq.length f20 oq/\.inl (SL,xd,qa,xB,oq)=T3/\σ=[(2,.own 2 0 0 oq.length)]/\η=[.row g1000 4 1 62 (λ_=>[sl 4 ah.cells SL,pI xd,pI qa,pI xB]),.dead,.row 0 4 oq.length 29 f20]) ?_ ?_
 refine le (dk.partial_correctness a1 (motive:=λu0 T7 QO Ol BZ o62=>∀f30:Nat->List PV,DR ae.D BZ.length f30 BZ->T3=o62->aK _ _ [(0,.aA 0 g1000 0 0),(1,pI a1),(2,.own 2 0 0 BZ.length)] [.row g1000 4 1 62 (λ_=>[sl 4 ah.cells u0,pI T7,pI QO,pI Ol]),.dead,.row 0 4 BZ.length 29 f30]) ?_ l3 y4 y5 y6 a2 T3 h gX lX rfl) (tk [0,1,2] SN KZ)
 intro F33 aFn u0 T7 QO Ol BZ o62 h f30 d31 aFo
 subst aFo
 refine aK.round (.d (.d ⟨rfl,rfl,rfl,_,rfl,(sD h (λzH h=>?_) (λzH h=>?_))⟩))
 refine .d ⟨rfl,_,_,rfl,aj,?_⟩
 obtain ⟨o40,h,adX⟩:=bd h
 refine .cut (λσ η=>∃l35,∃Ia,∃ME,∃EE,∃H8,(l35,Ia,ME,EE,H8)=o40/\σ=[(0,.aA 0 g1000 0 0),(1,pI a1),(2,.own 2 0 0 BZ.length),(7,.aA 3 0 0 0)]/\η=[.row g1000 4 1 62 (λ_=>[sl 4 ah.cells l35,pI Ia,pI ME,pI EE]),.dead,.row 0 4 BZ.length 29 f30,.row 0 4 1 29 (λ_=>[pI a1,pI H8,.str [],.own 4 0 0 0]),.row 0 4 0 29 (λ_=>[])]) ?_ ?_
 refine .d ?_
 obtain ⟨⟨MA,xc⟩,akO,h⟩:=bd h
 refine bK (aQ akO) [0] ?_
 refine sV h (λOm h=>?_) (λOm h=>?_)
 exact ⟨rfl,rfl,_,_,rfl,aj,(ct ⟨_,_,_,_,_,si h,rfl,rfl⟩ (tk [0,1,2,3,8] adY ⟨(On rfl),dd,yY,(nb rfl ⟨.i,.i,.s,.g,⟨⟩⟩),gh,⟨⟩⟩))⟩
 exact ct ⟨_,_,_,_,_,si h,rfl,rfl⟩ (tk [0,1,2,3,8] adY ⟨(On rfl),dd,yY,(nb rfl ⟨.i,.i,.s,.g,⟨⟩⟩),gh,⟨⟩⟩)
 rintro _ _ ⟨l35,Ia,ME,EE,H8,rfl,rfl,rfl⟩
 replace h:=adX
 refine .d ?_
 obtain ⟨⟨vy,E3⟩,Zr,h⟩:=bd h
 refine bK (dL Zr) [0] ?_
 refine ⟨rfl,rfl,_,_,rfl,aj,(.d ⟨rfl,_,rfl,_,bT,(bk h λl50 Oo h=>(.dO ⟨rfl,rfl,(λ_ _=>rfl),DR.rO d31 Oo,l50.length,da f30 BZ.length [pI a1,pI H8,.str vy,.own 4 0 0 0],DR.ln d31 Oo,cc (DR.ln d31 Oo) ⟨.same _,.same _,.same _,.same _,trivial⟩,(.d ?_)⟩))⟩)⟩
 obtain ⟨⟨tt,v53⟩,YE,h⟩:=bd h
 refine bK (aQ YE) [0] ?_
 refine fP h (λYF h=>?_) (λYF h=>?_)
 refine .d (bk h λyD aif h=>(bK (aX aif) [0] ?_))
 refine .d ?_
 obtain rfl:=si h
 replace h:=awF
 obtain rfl:=si h
 refine .ab 2 BZ.length 3 4 _ (λ_=>pf (DR.lq d31 Oo) (DR.nil (D:=ae.D)).po) λF58=>?_
 have d59:=DR.gu d31 Oo (ae.bh (x:=(ae.mk a1 H8 vy ([]:List ae))) (F0:=F58) (DR.nil (D:=ae.D)))
 exact en [0,1,2] (rs d59) (.oe) SM
 refine .ab 2 BZ.length 3 4 _ (λ_=>pf (DR.lq d31 Oo) (DR.nil (D:=ae.D)).po) λF60=>?_
 have d61:=DR.gu d31 Oo (ae.bh (x:=(ae.mk a1 H8 vy ([]:List ae))) (F0:=F60) (DR.nil (D:=ae.D)))
 exact lg (aFn _ _ _ _ _ _ h _ d61 rfl) (tk [0,1,2] SN KZ)
 exact ct ⟨_,_,_,_,_,f30,d31,si h,rfl,rfl⟩ (tk [0,1,2] ⟨.oe,⟨⟩⟩ KZ)
 rintro _ _ ⟨SL,xd,qa,xB,oq,f20,d21,rfl,rfl,rfl⟩
 replace h:=awF
 refine .d ?_
 obtain rfl:=si h
 exact en [0,1,2] ⟨f20,d21.self,rfl,rfl⟩ (.oe) SM
mutual
def jd (a0:aC):Option mo:=
 aB a0 [93]>>=λ(v1,v2)=>
 (if v1=true then
 some ((ae.mk 5 0 [] []),v2)
 else
 ((
 eJ v2.fT v2.fI v2.aw v2.av ([]:List ae) ([]:List ae)
 :Option ty3)>>=λFe=>match Fe with
 | .inr r=>some r
 | .inl (l5,y6,y7,y8,l9,Ff)=>
 some ((ae.mk 5 0 [] Ff),(aC.mk l5 y6 y7 y8))
 ))
partial_fixpoint
def aJ (a0:aC):Option mo:=
 (if a0.fI>=(a0.fT.length:Int) then
 c6 a0>>=λ(Oq,P6)=>
 some (Oq,P6)
 else
 idx a0.fT a0.fI>>=λCY=>
 (if CY.ai=4 then
 some ((ae.mk 1 CY.aE [] []),(aC.mk a0.fT (bm (a0.fI+1)) a0.aw a0.av))
 else
 (if CY.ai=5 then
 some ((ae.mk 2 0 CY.aq []),(aC.mk a0.fT (bm (a0.fI+1)) a0.aw a0.av))
 else
 (if CY.ai=2 then
 gI a0>>=λ(v105,J4)=>
 some (v105,J4)
 else
 aB a0 [110,117,108,108]>>=λ(W6,EV)=>
 (if W6=true then
 some ((ae.mk 3 0 [] []),EV)
 else
 aB EV [102,97,108,115,101]>>=λ(J5,Bj)=>
 (if J5=true then
 some ((ae.mk 3 1 [] []),Bj)
 else
 aB Bj [116,114,117,101]>>=λ(SO,Se)=>
 (if SO=true then
 some ((ae.mk 3 2 [] []),Se)
 else
 aB Se [91]>>=λ(Uo,Ny)=>
 (if Uo=true then
 jd Ny>>=λ(Jm,v127)=>
 some (Jm,v127)
 else
 aB Ny [40]>>=λ(v131,akP)=>
 (if v131=true then
 bz akP>>=λ(Uq,W7)=>
 aL W7 [41]>>=λW8=>
 some (Uq,W8)
 else
 aB akP [110,101,119]>>=λ(awG,v143)=>
 (if awG=true then
 aB v143 [115,116,97,116,105,99]>>=λ(v146,MW)=>
 (if v146=true then
 dU MW ([]:List ae)>>=λ(Sg,v159)=>
 some ((ae.mk 22 0 [115,116,97,116,105,99] Sg),v159)
 else
 cf MW 3>>=λ(Ur,Sf)=>
 dU Sf ([]:List ae)>>=λ(awH,v154)=>
 some ((ae.mk 22 0 Ur awH),v154))
 else
 aB v143 [102,117,110,99,116,105,111,110]>>=λ(awI,v164)=>
 (if awI=true then
 eH v164 24 ([]:List ae)>>=λ(v167,v168)=>
 aB v168 [117,115,101]>>=λ(awJ,v173)=>
 (if awJ=true then
 eH v173 25 v167>>=λ(adZ,JI)=>
 bV JI>>=λ(Ot,v182)=>
 cC 56 adZ [Ot]>>=λakQ=>
 some ((ae.mk 23 0 [] akQ),v182)
 else
 bV v173>>=λ(EW,awK)=>
 cC 56 v167 [EW]>>=λakR=>
 some ((ae.mk 23 0 [] akR),awK))
 else
 ((
 aB v164 [115,116,97,116,105,99]>>=λ(awL,v208)=>
 (if awL=true then
 some (.inl (v208.fT,v208.fI,v208.aw,v208.av,[115,116,97,116,105,99]))
 else
 cf v208 3>>=λ(akS,v212)=>
 bq v212 0 6 [40]>>=λ(JJ,tJ)=>
 (if JJ=true then
 dU tJ ([]:List ae)>>=λ(v218,W9)=>
 some (.inr ((ae.mk 18 0 akS v218),W9))
 else
 some (.inl (tJ.fT,tJ.fI,tJ.aw,tJ.av,akS))))
 :Option (((List ah)×Int×Int×Int×aD) ⊕ mo))>>=λakT=>match akT with
 | .inr r=>some r
 | .inl (Zz,ZA,ZB,ZC,ZD)=>
 aL (aC.mk Zz ZA ZB ZC) [58,58]>>=λawM=>
 wQ ZD [58,58]>>=λakU=>
 cf awM 3>>=λ(v227,v228)=>
 wQ akU v227>>=λakV=>
 dU v228 ([]:List ae)>>=λ(v232,v233)=>
 some ((ae.mk 21 0 akV v232),v233)
 ))))))))))))
partial_fixpoint
def ng (a0:aC):Option mo:=
 gg a0 true>>=λ(Uu,awN)=>
 some (Uu,awN)
partial_fixpoint
def gg (a0:aC) (a1:Bool):Option mo:=
 aJ a0>>=λ(ZE,HN)=>
 ((
 aZ a1 HN.fT HN.fI HN.aw HN.av ([]:List ae) ZE.ai ZE.aE ZE.aq ZE.af
 :Option ty1)>>=λad0=>match ad0 with
 | .inr r=>some r
 | .inl (CZ,C2,C3,C4,Fg,C5,C6,C7,yZ)=>
 some ((ae.mk C5 C6 C7 yZ),(aC.mk CZ C2 C3 C4))
 )
partial_fixpoint
def fu (a0:aC):Option mo:=
 aB a0 [33]>>=λ(awO,akW)=>
 (if awO=true then
 fu akW>>=λ(akX,awP)=>
 some ((ae.mk 9 1 [] ([akX]:List ae)),awP)
 else
 aB akW [45]>>=λ(ND,wR)=>
 (if ND=true then
 fu wR>>=λ(J7,awQ)=>
 some ((ae.mk 9 2 [] ([J7]:List ae)),awQ)
 else
 ng wR>>=λ(awR,awS)=>
 some (awR,awS)))
partial_fixpoint
def cu (a0:aC) (a1:Int):Option mo:=
 (if a1=11 then
 fu a0>>=λ(awT,awU)=>
 some (awT,awU)
 else
 cu a0 (bm (a1+1))>>=λ(ZF,ZG)=>
 ((
 aP a1 ZG.fT ZG.fI ZG.aw ZG.av ([]:List ae) ZF.ai ZF.aE ZF.aq ZF.af
 :Option ty1)>>=λad1=>match ad1 with
 | .inr r=>some r
 | .inl (ZH,ZI,ZJ,ZK,Ou,ZL,ZM,ZN,K0)=>
 some ((ae.mk ZL ZM ZN K0),(aC.mk ZH ZI ZJ ZK))
 ))
partial_fixpoint
def eO (a0:aC):Option mo:=
 cu a0 4>>=λ(ad2,awV)=>
 aB awV [63,63]>>=λ(awW,akY)=>
 (if awW=true then
 eO akY>>=λ(akZ,awX)=>
 some ((ae.mk 13 0 [] ([ad2,akZ]:List ae)),awX)
 else
 some (ad2,akY))
partial_fixpoint
def je (a0:aC):Option mo:=
 eO a0>>=λ(ad3,awY)=>
 aB awY [63]>>=λ(awZ,ak0)=>
 (if awZ=true then
 bz ak0>>=λ(ak1,aw0)=>
 aL aw0 [58]>>=λaw1=>
 je aw1>>=λ(ak2,aw2)=>
 some ((ae.mk 14 0 [] ([ad3,ak1,ak2]:List ae)),aw2)
 else
 some (ad3,ak0))
partial_fixpoint
def bz (a0:aC):Option mo:=
 je a0>>=λ(Ov,aw3)=>
 bq aw3 0 6 [61]>>=λ(aw4,K1)=>
 (if aw4=true then
 ff Ov>>=λaw5=>
 (if aw5=true then
 bq (aC.mk K1.fT (bm (K1.fI+1)) K1.aw K1.av) 0 6 [38]>>=λ(aw6,K2)=>
 (if aw6=true then
 (if Ov.ai=4 then
 (if K1.fI=(bm (a0.fI+1)) then
 gI (aC.mk K2.fT (bm (K2.fI+1)) K2.aw K2.av)>>=λ(yR,aw7)=>
 some ((ae.mk 17 0 Ov.aq ([yR]:List ae)),aw7)
 else
 c6 K2>>=λ(NR,xG)=>
 some (NR,xG))
 else
 c6 K2>>=λ(aw8,aw9)=>
 some (aw8,aw9))
 else
 bz K2>>=λ(ak3,axa)=>
 some ((ae.mk 15 0 [] ([Ov,ak3]:List ae)),axa))
 else
 c6 K1>>=λ(axb,axc)=>
 some (axb,axc))
 else
 some (Ov,K1))
partial_fixpoint
def bV (a0:aC):Option mo:=
 aL a0 [123]>>=λZO=>
 (
 dh ZO.fT ZO.fI ZO.aw ZO.av ([]:List ae) ([]:List ae)
 :Option ty9)>>=λ(ZP,Cw,ZQ,ZR,Ow,K3)=>
 some ((ae.mk 48 0 [] K3),(aC.mk ZP Cw ZQ ZR))
partial_fixpoint
def nh (a0:aC):Option mo:=
 aL a0 [40]>>=λaxd=>
 bz axd>>=λ(axe,XN)=>
 aL XN [41]>>=λaxf=>
 some (axe,axf)
partial_fixpoint
def ot (a0:aC):Option mo:=
 nh a0>>=λ(Bp,axg)=>
 (
 bV axg>>=λ(Ox,SP)=>
 some (SP.fT,SP.fI,SP.aw,SP.av,([Bp,Ox]:List ae))
 :Option Bw)>>=λ(ZS,Cx,ZT,ZU,Oy)=>
 aB (aC.mk ZS Cx ZT ZU) [101,108,115,101]>>=λ(ad4,SQ)=>
 (if ad4=true then
 aB SQ [105,102]>>=λ(ad5,SR)=>
 (if ad5=true then
 ot SR>>=λ(SS,ad6)=>
 cC 56 Oy [(ae.mk 48 0 [] ([SS]:List ae))]>>=λZV=>
 some ((ae.mk 34 0 [] ZV),ad6)
 else
 bV SR>>=λ(Ib,ad7)=>
 cC 56 Oy [Ib]>>=λZW=>
 some ((ae.mk 34 0 [] ZW),ad7))
 else
 some ((ae.mk 34 0 [] Oy),SQ))
partial_fixpoint
def nn (a0:aC):Option mo:=
 aL a0 [40]>>=λaxh=>
 bz axh>>=λ(C8,axi)=>
 aL axi [97,115]>>=λCE=>
 gI CE>>=λ(Bx,NS)=>
 cC 56 ([C8]:List ae) [Bx]>>=λSU=>
 (
 aB NS [61,62]>>=λ(SV,uP)=>
 (if SV=true then
 gI uP>>=λ(C9,xP)=>
 cC 56 SU [C9]>>=λOz=>
 some (xP.fT,xP.fI,xP.aw,xP.av,Oz)
 else
 some (uP.fT,uP.fI,uP.aw,uP.av,SU))
 :Option Bw)>>=λ(ZX,ZY,ZZ,Z0,Fh)=>
 aL (aC.mk ZX ZY ZZ Z0) [41]>>=λaxj=>
 bV axj>>=λ(OA,axk)=>
 cC 56 Fh [OA]>>=λak4=>
 some ((ae.mk 36 0 [] ak4),axk)
partial_fixpoint
def ou (a0:aC):Option mo:=
 bV a0>>=λ(xz,axl)=>
 (
 aB axl [99,97,116,99,104]>>=λ(ad8,By)=>
 (if ad8=true then
 aL By [40]>>=λad9=>
 cf ad9 3>>=λ(SW,aea)=>
 gI aea>>=λ(SX,aeb)=>
 aL aeb [41]>>=λaec=>
 bV aec>>=λ(SY,Fi)=>
 cC 56 ([xz]:List ae) [(ae.mk 44 0 SW ([SX,SY]:List ae))]>>=λZ1=>
 some (Fi.fT,Fi.fI,Fi.aw,Fi.av,Z1)
 else
 some (By.fT,By.fI,By.aw,By.av,([xz]:List ae)))
 :Option Bw)>>=λ(Z2,Cy,Z3,Z4,z8)=>
 aB (aC.mk Z2 Cy Z3 Z4) [102,105,110,97,108,108,121]>>=λ(axm,aed)=>
 (if axm=true then
 bV aed>>=λ(SZ,ak5)=>
 cC 56 z8 [(ae.mk 45 0 [] ([SZ]:List ae))]>>=λaee=>
 (if (aee.length:Int)=1 then
 c6 ak5>>=λ(axn,axo)=>
 some (axn,axo)
 else
 some ((ae.mk 43 0 [] aee),ak5))
 else
 (if (z8.length:Int)=1 then
 c6 aed>>=λ(axp,axq)=>
 some (axp,axq)
 else
 some ((ae.mk 43 0 [] z8),aed)))
partial_fixpoint
def bb (a0:aC):Option mo:=
 bq a0 0 1 []>>=λ(NU,K4)=>
 (if NU=true then
 idx K4.fT (bm ((bm (K4.fI+1)) - 1))>>=λak6=>
 some ((ae.mk 31 0 ak6.aq []),(aC.mk K4.fT (bm (K4.fI+1)) K4.aw K4.av))
 else
 bq K4 0 6 [123]>>=λ(axr,KF)=>
 (if axr=true then
 bV KF>>=λ(axs,KG)=>
 some (axs,KG)
 else
 aB KF [105,102]>>=λ(axt,yT)=>
 (if axt=true then
 ot yT>>=λ(axu,axv)=>
 some (axu,axv)
 else
 aB yT [119,104,105,108,101]>>=λ(axw,E6)=>
 (if axw=true then
 nh E6>>=λ(KH,xK)=>
 bV xK>>=λ(xL,axx)=>
 some ((ae.mk 35 0 [] ([KH,xL]:List ae)),axx)
 else
 aB E6 [102,111,114,101,97,99,104]>>=λ(axy,ak7)=>
 (if axy=true then
 nn ak7>>=λ(axz,axA)=>
 some (axz,axA)
 else
 aB ak7 [116,114,121]>>=λ(axB,ak8)=>
 (if axB=true then
 ou ak8>>=λ(axC,axD)=>
 some (axC,axD)
 else
 aB ak8 [101,99,104,111]>>=λ(axE,ak9)=>
 (if axE=true then
 bz ak9>>=λ(ala,axF)=>
 aL axF [59]>>=λaxG=>
 some ((ae.mk 32 0 [] ([ala]:List ae)),axG)
 else
 aB ak9 [98,114,101,97,107]>>=λ(axH,alb)=>
 (if axH=true then
 aL alb [59]>>=λxA=>
 some ((ae.mk 37 0 [] []),xA)
 else
 aB alb [99,111,110,116,105,110,117,101]>>=λ(axI,Kf)=>
 (if axI=true then
 aL Kf [59]>>=λaxJ=>
 some ((ae.mk 38 0 [] []),axJ)
 else
 aB Kf [114,101,116,117,114,110]>>=λ(zW,alc)=>
 (if zW=true then
 bq alc 0 6 [59]>>=λ(X5,ald)=>
 (if X5=true then
 aL ald [59]>>=λaxK=>
 some ((ae.mk 39 0 [] []),axK)
 else
 bz ald>>=λ(ale,X6)=>
 aL X6 [59]>>=λaxL=>
 some ((ae.mk 39 0 [] ([ale]:List ae)),axL))
 else
 aB alc [103,108,111,98,97,108]>>=λ(X7,alf)=>
 (if X7=true then
 cf alf 2>>=λ(X8,Sr)=>
 aL Sr [59]>>=λaxM=>
 some ((ae.mk 40 0 X8 []),axM)
 else
 aB alf [117,110,115,101,116]>>=λ(X9,Z5)=>
 (if X9=true then
 aL Z5 [40]>>=λKg=>
 gg Kg false>>=λ(Cz,CA)=>
 ff Cz>>=λKh=>
 (if Kh=true then
 aL CA [41]>>=λGb=>
 aL Gb [59]>>=λagN=>
 some ((ae.mk 41 0 [] ([Cz]:List ae)),agN)
 else
 c6 CA>>=λ(Ki,agO)=>
 some (Ki,agO))
 else
 aB Z5 [116,104,114,111,119]>>=λ(agP,Z6)=>
 (if agP=true then
 bz Z6>>=λ(Z7,agQ)=>
 aL agQ [59]>>=λagR=>
 some ((ae.mk 42 0 [] ([Z7]:List ae)),agR)
 else
 aB Z6 [121,105,101,108,100]>>=λ(agS,Gc)=>
 (if agS=true then
 bz Gc>>=λ(Z8,Kj)=>
 aL Kj [59]>>=λCB=>
 some ((ae.mk 46 0 [] ([Z8]:List ae)),CB)
 else
 (
 bq Gc 0 2 []>>=λ(QP,uA)=>
 (if QP=true then
 bq uA 1 6 [61]>>=λ(uv,qj)=>
 (if uv=true then
 bq qj 2 3 [121,105,101,108,100]>>=λ(QQ,xe)=>
 some (xe.fT,xe.fI,xe.aw,xe.av,QQ)
 else
 some (qj.fT,qj.fI,qj.aw,qj.av,false))
 else
 some (uA.fT,uA.fI,uA.aw,uA.av,false))
 :Option S4)>>=λ(Gv,Gw,Gx,Gy,K5)=>
 (if K5=true then
 gI (aC.mk Gv Gw Gx Gy)>>=λ(Z9,uw)=>
 tN (uw.fT.length:Int) (bm (uw.fI+2))>>=λagT=>
 bz (aC.mk uw.fT agT uw.aw uw.av)>>=λ(aaa,agU)=>
 aL agU [59]>>=λKn=>
 some ((ae.mk 46 0 [] ([Z9,aaa]:List ae)),Kn)
 else
 aB (aC.mk Gv Gw Gx Gy) [105,110,99,108,117,100,101]>>=λ(Ko,aab)=>
 (if Ko=true then
 bq aab 0 5 []>>=λ(Kt,A3)=>
 (if Kt=true then
 idx A3.fT (bm ((bm (A3.fI+1)) - 1))>>=λaac=>
 aL (aC.mk A3.fT (bm (A3.fI+1)) A3.aw A3.av) [59]>>=λagV=>
 some ((ae.mk 47 0 aac.aq []),agV)
 else
 c6 A3>>=λ(Ku,Kv)=>
 some (Ku,Kv))
 else
 bz aab>>=λ(aad,Kw)=>
 aL Kw [59]>>=λagW=>
 some ((ae.mk 33 0 [] ([aad]:List ae)),agW)))))))))))))))))
partial_fixpoint
def dU (a0:aC) (a1:List ae):Option SK:=
 aL a0 [40]>>=λagX=>
 aB agX [41]>>=λ(agY,Gz)=>
 (if agY=true then
 some (a1,Gz)
 else
 ((
 dV Gz.fT Gz.fI Gz.aw Gz.av a1
 :Option ty7)>>=λQR=>match QR with
 | .inr r=>some r
 | .inl (K6,K7,K8,K9,A4)=>
 some (A4,(aC.mk K6 K7 K8 K9))
 ))
partial_fixpoint
def eJ (tM:List ah) (La:Int) (ur:Int) (nO:Int) (wB:List ae) (u0:List ae):Option ty3:=
 (if nO<0 then
 bz (aC.mk tM La ur nO)>>=λ(vy,E3)=>
 (
 aB E3 [61,62]>>=λ(Jl,zD)=>
 (if Jl=true then
 bz zD>>=λ(EB,AR)=>
 cC 56 ([vy]:List ae) [EB]>>=λFj=>
 some (AR.fT,AR.fI,AR.aw,AR.av,Fj)
 else
 some (zD.fT,zD.fI,zD.aw,zD.av,([vy]:List ae)))
 :Option Bw)>>=λ(l52,y53,y54,Jd,S6)=>
 cC 56 u0 [(ae.mk 6 0 [] S6)]>>=λl78=>
 aB (aC.mk l52 y53 y54 Jd) [44]>>=λ(v80,zU)=>
 (if v80=true then
 eJ zU.fT zU.fI zU.aw zU.av wB l78
 else
 aL zU [93]>>=λGA=>
 some (.inr ((ae.mk 5 0 [] l78),GA)))
 else
 some (.inl (tM,La,ur,nO,wB,u0)))
partial_fixpoint
def aZ (a1:Bool) (qT:List ah) (vz:Int) (vA:Int) (tO:Int) (lz:List ae) (gA:Int) (gB:Int) (gC:aD) (fW:List ae):Option ty1:=
 (if tO<0 then
 aB (aC.mk qT vz vA tO) [91]>>=λ(aef,xy)=>
 (if aef=true then
 (if a1=true then
 ff (ae.mk gA gB gC fW)>>=λHO=>
 (if HO=true then
 aB xy [93]>>=λ(Nk,zV)=>
 (if Nk=true then
 aL zV [61]>>=λaeg=>
 bz aeg>>=λ(JM,aeh)=>
 some (.inr ((ae.mk 16 0 [] ([(ae.mk gA gB gC fW),JM]:List ae)),aeh))
 else
 bz zV>>=λ(aae,MX)=>
 aL MX [93]>>=λFk=>
 aZ a1 Fk.fT Fk.fI Fk.aw Fk.av lz 7 0 [] ([(ae.mk gA gB gC fW),aae]:List ae))
 else
 bz xy>>=λ(J6,aei)=>
 aL aei [93]>>=λFl=>
 aZ a1 Fl.fT Fl.fI Fl.aw Fl.av lz 7 0 [] ([(ae.mk gA gB gC fW),J6]:List ae))
 else
 bz xy>>=λ(aaf,aej)=>
 aL aej [93]>>=λu6=>
 aZ a1 u6.fT u6.fI u6.aw u6.av lz 7 0 [] ([(ae.mk gA gB gC fW),aaf]:List ae))
 else
 aB xy [45,62]>>=λ(aek,S7)=>
 (if aek=true then
 cf S7 3>>=λ(S8,ael)=>
 bq ael 0 6 [40]>>=λ(Cv,Aa)=>
 (if Cv=true then
 dU Aa ([(ae.mk gA gB gC fW)]:List ae)>>=λ(aem,xw)=>
 aZ a1 xw.fT xw.fI xw.aw xw.av lz 20 0 S8 aem
 else
 aZ a1 Aa.fT Aa.fI Aa.aw Aa.av lz 8 0 S8 ([(ae.mk gA gB gC fW)]:List ae))
 else
 bq S7 0 6 [40]>>=λ(Hj,E1)=>
 (if Hj=true then
 dU E1 ([(ae.mk gA gB gC fW)]:List ae)>>=λ(aen,Fm)=>
 aZ a1 Fm.fT Fm.fI Fm.aw Fm.av lz 19 0 [] aen
 else
 some (.inr ((ae.mk gA gB gC fW),E1)))))
 else
 some (.inl (qT,vz,vA,tO,lz,gA,gB,gC,fW)))
partial_fixpoint
def aP (a1:Int) (mK:List ah) (mL:Int) (rP:Int) (rQ:Int) (lY:List ae) (mq:Int) (mr:Int) (mu:aD) (kv:List ae):Option ty1:=
 (if mL<(mK.length:Int) then
 idx mK mL>>=λDa=>
 (if Da.ai=6 then
 idx mK mL>>=λaag=>
 kj aag.aq>>=λDb=>
 (
 (if a1=4 then
 aB (aC.mk mK mL rP rQ) [124,124]>>=λ(aeo,Fo)=>
 some (Fo.fT,Fo.fI,Fo.aw,Fo.av,aeo)
 else
 some (mK,mL,rP,rQ,false))
 :Option S4)>>=λ(Dc,Dd,De,Df,OB)=>
 (if OB=true then
 cu (aC.mk Dc Dd De Df) 5>>=λ(J8,Fp)=>
 aP a1 Fp.fT Fp.fI Fp.aw Fp.av lY 12 0 [] ([(ae.mk mq mr mu kv),J8]:List ae)
 else
 (
 (if a1=5 then
 aB (aC.mk Dc Dd De Df) [38,38]>>=λ(aep,Fq)=>
 some (Fq.fT,Fq.fI,Fq.aw,Fq.av,aep)
 else
 some (Dc,Dd,De,Df,false))
 :Option S4)>>=λ(Bz,BA,BB,BC,OC)=>
 (if OC=true then
 cu (aC.mk Bz BA BB BC) 6>>=λ(aah,Fs)=>
 aP a1 Fs.fT Fs.fI Fs.aw Fs.av lY 11 0 [] ([(ae.mk mq mr mu kv),aah]:List ae)
 else
 (
 (if Db>0 then
 ly Db>>=λaeq=>
 some (aeq==a1)
 else
 some false)
 :Option (Bool))>>=λOD=>
 (if OD=true then
 cu (aC.mk Bz (bm (BA+1)) BB BC) (bm (a1+1))>>=λ(Ka,Ft)=>
 aP a1 Ft.fT Ft.fI Ft.aw Ft.av lY 10 Db [] ([(ae.mk mq mr mu kv),Ka]:List ae)
 else
 some (.inr ((ae.mk mq mr mu kv),(aC.mk Bz BA BB BC))))))
 else
 some (.inl (mK,mL,rP,rQ,lY,mq,mr,mu,kv)))
 else
 some (.inl (mK,mL,rP,rQ,lY,mq,mr,mu,kv)))
partial_fixpoint
def dh (vB:List ah) (vC:Int) (vD:Int) (kO:Int) (pU:List ae) (oT:List ae):Option ty9:=
 (if kO<0 then
 aB (aC.mk vB vC vD kO) [125]>>=λ(aer,BD)=>
 (if aer=true then
 some (BD.fT,BD.fI,BD.aw,BD.av,pU,oT)
 else
 aB BD [59]>>=λ(aes,BE)=>
 (if aes=true then
 dh BE.fT BE.fI BE.aw BE.av pU oT
 else
 bb BE>>=λ(qW,Fu)=>
 cC 56 oT [qW]>>=λaai=>
 dh Fu.fT Fu.fI Fu.aw Fu.av pU aai))
 else
 some (vB,vC,vD,kO,pU,oT))
partial_fixpoint
def dV (eG:List ah) (oU:Int) (oV:Int) (nq:Int) (kS:List ae):Option ty7:=
 (if nq<0 then
 bz (aC.mk eG oU oV nq)>>=λ(qk,QS)=>
 cC 56 kS [qk]>>=λDg=>
 aB QS [44]>>=λ(QT,uB)=>
 (if QT=true then
 dV uB.fT uB.fI uB.aw uB.av Dg
 else
 aL uB [41]>>=λQU=>
 some (.inr (Dg,QU)))
 else
 some (.inl (eG,oU,oV,nq,kS)))
partial_fixpoint
end
def aaj (a0:aC) (r:ae×aC):Prop:=∀g1000:Nat,GB 223 a0 r g1000
def aak (a0:aC) (r:ae×aC):Prop:=∀g1000:Nat,GB 209 a0 r g1000
def aal (a0:aC) (r:ae×aC):Prop:=∀g1000:Nat,GB 227 a0 r g1000
def aam (a0:aC) (a1:Bool) (r:ae×aC):Prop:=∀g1000:Nat,aFp 183 a0 a1 r g1000
def aan (a0:aC) (r:ae×aC):Prop:=∀g1000:Nat,GB 215 a0 r g1000
def OE (a0:aC) (a1:Int) (r:ae×aC):Prop:=∀g1000:Nat,axN 203 a0 a1 r g1000
def aao (a0:aC) (r:ae×aC):Prop:=∀g1000:Nat,GB 166 a0 r g1000
def aap (a0:aC) (r:ae×aC):Prop:=∀g1000:Nat,GB 102 a0 r g1000
def Lb (a0:aC) (r:ae×aC):Prop:=∀g1000:Nat,GB 51 a0 r g1000
def aaq (a0:aC) (r:ae×aC):Prop:=∀g1000:Nat,GB 118 a0 r g1000
def aar (a0:aC) (r:ae×aC):Prop:=∀g1000:Nat,GB 180 a0 r g1000
def aas (a0:aC) (r:ae×aC):Prop:=∀g1000:Nat,GB 179 a0 r g1000
def aat (a0:aC) (r:ae×aC):Prop:=∀g1000:Nat,GB 181 a0 r g1000
def aau (a0:aC) (r:ae×aC):Prop:=∀g1000:Nat,GB 182 a0 r g1000
def OF (a0:aC) (r:ae×aC):Prop:=∀g1000:Nat,GB 120 a0 r g1000
def OH (a0:aC) (a1:List ae) (r:(List ae)×aC):Prop:=∀g1000:Nat,∀g1001:Nat,∀eR:Nat,∀gX:Nat->List PV,DR ae.D eR gX a1->ACall Tryz.prog 210 [.aA 0 g1000 0 0,.own 1 g1001 0 eR] [.row g1000 4 1 62 (λ_=>a0.lit),.row g1001 4 eR 29 gX] (λres h=>∃F2:Nat->List PV,DR ae.D r.1.length F2 r.1/\res=.own 2 0 0 r.1.length/\h=[.row g1000 4 1 62 (λ_=>r.2.lit),.dead,.row 0 4 r.1.length 29 F2])
inductive jD:(List ah)->Int->Int->Int->(List ae)->(List ae)->ty3->Prop
 | mk (T8:aC->Option mo) (axO:∀a0 r,T8 a0=some r->Lb a0 r) (sM:(List ah)->Int->Int->Int->(List ae)->(List ae)->Option ty3) (QV:∀tM La ur nO wB u0 o,sM tM La ur nO wB u0=some o->jD tM La ur nO wB u0 o) (tM:List ah) (La:Int) (ur:Int) (nO:Int) (wB:List ae) (u0:List ae) (o:ty9 ⊕ mo) (h:(
 (if nO<0 then
 T8 (aC.mk tM La ur nO)>>=λ(vy,E3)=>
 (
 aB E3 [61,62]>>=λ(Jl,zD)=>
 (if Jl=true then
 T8 zD>>=λ(EB,AR)=>
 cC 56 ([vy]:List ae) [EB]>>=λFj=>
 some (AR.fT,AR.fI,AR.aw,AR.av,Fj)
 else
 some (zD.fT,zD.fI,zD.aw,zD.av,([vy]:List ae)))
 :Option Bw)>>=λ(l52,y53,y54,Jd,S6)=>
 cC 56 u0 [(ae.mk 6 0 [] S6)]>>=λl78=>
 aB (aC.mk l52 y53 y54 Jd) [44]>>=λ(v80,zU)=>
 (if v80=true then
 sM zU.fT zU.fI zU.aw zU.av wB l78
 else
 aL zU [93]>>=λGA=>
 some (.inr ((ae.mk 5 0 [] l78),GA)))
 else
 some (.inl (tM,La,ur,nO,wB,u0)))
 )=some o):jD tM La ur nO wB u0 o
inductive jf:Bool->(List ah)->Int->Int->Int->(List ae)->Int->Int->aD->(List ae)->ty1->Prop
 | mk (T8:aC->Option mo) (axO:∀a0 r,T8 a0=some r->Lb a0 r) (alg:aC->(List ae)->Option SK) (aII:∀a0 a1 r,alg a0 a1=some r->OH a0 a1 r) (fv:Bool->(List ah)->Int->Int->Int->(List ae)->Int->Int->aD->(List ae)->Option ty1) (OI:∀a1 qT vz vA tO lz gA gB gC fW o,fv a1 qT vz vA tO lz gA gB gC fW=some o->jf a1 qT vz vA tO lz gA gB gC fW o) (a1:Bool) (qT:List ah) (vz:Int) (vA:Int) (tO:Int) (lz:List ae) (gA:Int) (gB:Int) (gC:aD) (fW:List ae) (o:ty5 ⊕ mo) (h:(
 (if tO<0 then
 aB (aC.mk qT vz vA tO) [91]>>=λ(aef,xy)=>
 (if aef=true then
 (if a1=true then
 ff (ae.mk gA gB gC fW)>>=λHO=>
 (if HO=true then
 aB xy [93]>>=λ(Nk,zV)=>
 (if Nk=true then
 aL zV [61]>>=λaeg=>
 T8 aeg>>=λ(JM,aeh)=>
 some (.inr ((ae.mk 16 0 [] ([(ae.mk gA gB gC fW),JM]:List ae)),aeh))
 else
 T8 zV>>=λ(aae,MX)=>
 aL MX [93]>>=λFk=>
 fv a1 Fk.fT Fk.fI Fk.aw Fk.av lz 7 0 [] ([(ae.mk gA gB gC fW),aae]:List ae))
 else
 T8 xy>>=λ(J6,aei)=>
 aL aei [93]>>=λFl=>
 fv a1 Fl.fT Fl.fI Fl.aw Fl.av lz 7 0 [] ([(ae.mk gA gB gC fW),J6]:List ae))
 else
 T8 xy>>=λ(aaf,aej)=>
 aL aej [93]>>=λu6=>
 fv a1 u6.fT u6.fI u6.aw u6.av lz 7 0 [] ([(ae.mk gA gB gC fW),aaf]:List ae))
 else
 aB xy [45,62]>>=λ(aek,S7)=>
 (if aek=true then
 cf S7 3>>=λ(S8,ael)=>
 bq ael 0 6 [40]>>=λ(Cv,Aa)=>
 (if Cv=true then
 alg Aa ([(ae.mk gA gB gC fW)]:List ae)>>=λ(aem,xw)=>
 fv a1 xw.fT xw.fI xw.aw xw.av lz 20 0 S8 aem
 else
 fv a1 Aa.fT Aa.fI Aa.aw Aa.av lz 8 0 S8 ([(ae.mk gA gB gC fW)]:List ae))
 else
 bq S7 0 6 [40]>>=λ(Hj,E1)=>
 (if Hj=true then
 alg E1 ([(ae.mk gA gB gC fW)]:List ae)>>=λ(aen,Fm)=>
 fv a1 Fm.fT Fm.fI Fm.aw Fm.av lz 19 0 [] aen
 else
 some (.inr ((ae.mk gA gB gC fW),E1)))))
 else
 some (.inl (qT,vz,vA,tO,lz,gA,gB,gC,fW)))
 )=some o):jf a1 qT vz vA tO lz gA gB gC fW o
inductive iq:Int->(List ah)->Int->Int->Int->(List ae)->Int->Int->aD->(List ae)->ty1->Prop
 | mk (aet:aC->Int->Option mo) (aIJ:∀a0 a1 r,aet a0 a1=some r->OE a0 a1 r) (j4:Int->(List ah)->Int->Int->Int->(List ae)->Int->Int->aD->(List ae)->Option ty1) (MG:∀a1 mK mL rP rQ lY mq mr mu kv o,j4 a1 mK mL rP rQ lY mq mr mu kv=some o->iq a1 mK mL rP rQ lY mq mr mu kv o) (a1:Int) (mK:List ah) (mL:Int) (rP:Int) (rQ:Int) (lY:List ae) (mq:Int) (mr:Int) (mu:aD) (kv:List ae) (o:ty5 ⊕ mo) (h:(
 (if mL<(mK.length:Int) then
 idx mK mL>>=λDa=>
 (if Da.ai=6 then
 idx mK mL>>=λaag=>
 kj aag.aq>>=λDb=>
 (
 (if a1=4 then
 aB (aC.mk mK mL rP rQ) [124,124]>>=λ(aeo,Fo)=>
 some (Fo.fT,Fo.fI,Fo.aw,Fo.av,aeo)
 else
 some (mK,mL,rP,rQ,false))
 :Option S4)>>=λ(Dc,Dd,De,Df,OB)=>
 (if OB=true then
 aet (aC.mk Dc Dd De Df) 5>>=λ(J8,Fp)=>
 j4 a1 Fp.fT Fp.fI Fp.aw Fp.av lY 12 0 [] ([(ae.mk mq mr mu kv),J8]:List ae)
 else
 (
 (if a1=5 then
 aB (aC.mk Dc Dd De Df) [38,38]>>=λ(aep,Fq)=>
 some (Fq.fT,Fq.fI,Fq.aw,Fq.av,aep)
 else
 some (Dc,Dd,De,Df,false))
 :Option S4)>>=λ(Bz,BA,BB,BC,OC)=>
 (if OC=true then
 aet (aC.mk Bz BA BB BC) 6>>=λ(aah,Fs)=>
 j4 a1 Fs.fT Fs.fI Fs.aw Fs.av lY 11 0 [] ([(ae.mk mq mr mu kv),aah]:List ae)
 else
 (
 (if Db>0 then
 ly Db>>=λaeq=>
 some (aeq==a1)
 else
 some false)
 :Option (Bool))>>=λOD=>
 (if OD=true then
 aet (aC.mk Bz (bm (BA+1)) BB BC) (bm (a1+1))>>=λ(Ka,Ft)=>
 j4 a1 Ft.fT Ft.fI Ft.aw Ft.av lY 10 Db [] ([(ae.mk mq mr mu kv),Ka]:List ae)
 else
 some (.inr ((ae.mk mq mr mu kv),(aC.mk Bz BA BB BC))))))
 else
 some (.inl (mK,mL,rP,rQ,lY,mq,mr,mu,kv)))
 else
 some (.inl (mK,mL,rP,rQ,lY,mq,mr,mu,kv)))
 )=some o):iq a1 mK mL rP rQ lY mq mr mu kv o
inductive jg:(List ah)->Int->Int->Int->(List ae)->(List ae)->ty9->Prop
 | mk (axP:aC->Option mo) (aIK:∀a0 r,axP a0=some r->OF a0 r) (nr:(List ah)->Int->Int->Int->(List ae)->(List ae)->Option ty9) (OJ:∀vB vC vD kO pU oT o,nr vB vC vD kO pU oT=some o->jg vB vC vD kO pU oT o) (vB:List ah) (vC:Int) (vD:Int) (kO:Int) (pU:List ae) (oT:List ae) (o:(List ah)×Int×Int×Int×(List ae)×(List ae)) (h:(
 (if kO<0 then
 aB (aC.mk vB vC vD kO) [125]>>=λ(aer,BD)=>
 (if aer=true then
 some (BD.fT,BD.fI,BD.aw,BD.av,pU,oT)
 else
 aB BD [59]>>=λ(aes,BE)=>
 (if aes=true then
 nr BE.fT BE.fI BE.aw BE.av pU oT
 else
 axP BE>>=λ(qW,Fu)=>
 cC 56 oT [qW]>>=λaai=>
 nr Fu.fT Fu.fI Fu.aw Fu.av pU aai))
 else
 some (vB,vC,vD,kO,pU,oT))
 )=some o):jg vB vC vD kO pU oT o
inductive jE:(List ah)->Int->Int->Int->(List ae)->ty7->Prop
 | mk (T8:aC->Option mo) (axO:∀a0 r,T8 a0=some r->Lb a0 r) (sO:(List ah)->Int->Int->Int->(List ae)->Option ty7) (QW:∀eG oU oV nq kS o,sO eG oU oV nq kS=some o->jE eG oU oV nq kS o) (eG:List ah) (oU:Int) (oV:Int) (nq:Int) (kS:List ae) (o:Bw ⊕ SK) (h:(
 (if nq<0 then
 T8 (aC.mk eG oU oV nq)>>=λ(qk,QS)=>
 cC 56 kS [qk]>>=λDg=>
 aB QS [44]>>=λ(QT,uB)=>
 (if QT=true then
 sO uB.fT uB.fI uB.aw uB.av Dg
 else
 aL uB [41]>>=λQU=>
 some (.inr (Dg,QU)))
 else
 some (.inl (eG,oU,oV,nq,kS)))
 )=some o):jE eG oU oV nq kS o
theorem qo:(∀a0 r,jd a0=some r->aaj a0 r)/\(∀tM La ur nO wB u0 o,eJ tM La ur nO wB u0=some o->jD tM La ur nO wB u0 o)/\(∀a0 r,bz a0=some r->Lb a0 r)/\(∀a0 r,je a0=some r->aap a0 r)/\(∀a0 r,eO a0=some r->aao a0 r)/\(∀a0 a1 r,cu a0 a1=some r->OE a0 a1 r)/\(∀a1 mK mL rP rQ lY mq mr mu kv o,aP a1 mK mL rP rQ lY mq mr mu kv=some o->iq a1 mK mL rP rQ lY mq mr mu kv o)/\(∀a0 r,fu a0=some r->aan a0 r)/\(∀a0 r,ng a0=some r->aal a0 r)/\(∀a0 a1 r,gg a0 a1=some r->aam a0 a1 r)/\(∀a1 qT vz vA tO lz gA gB gC fW o,aZ a1 qT vz vA tO lz gA gB gC fW=some o->jf a1 qT vz vA tO lz gA gB gC fW o)/\(∀a0 a1 r,dU a0 a1=some r->OH a0 a1 r)/\(∀eG oU oV nq kS o,dV eG oU oV nq kS=some o->jE eG oU oV nq kS o)/\(∀a0 r,aJ a0=some r->aak a0 r)/\(∀a0 r,bV a0=some r->aaq a0 r)/\(∀vB vC vD kO pU oT o,dh vB vC vD kO pU oT=some o->jg vB vC vD kO pU oT o)/\(∀a0 r,bb a0=some r->OF a0 r)/\(∀a0 r,ou a0=some r->aau a0 r)/\(∀a0 r,nn a0=some r->aat a0 r)/\(∀a0 r,nh a0=some r->aar a0 r)/\(∀a0 r,ot a0=some r->aas a0 r):=by
 refine jd.mutual_partial_correctness aaj jD Lb aap aao OE iq aan aal aam jf OH jE aak aaq jg OF aau aat aar aas ?_ ?_ ?_ ?_ ?_ ?_ ?_ ?_ ?_ ?_ ?_ ?_ ?_ ?_ ?_ ?_ ?_ ?_ ?_ ?_ ?_
 intro _ aFq a0 r h g1000
 refine ep Tryz.func223 ?_
 refine .d (.d (p9 (bA _ _ _ _ rfl) ⟨rfl,_,_,rfl,aj,(.d (.d ?_))⟩))
 obtain ⟨⟨v1,v2⟩,tD,h⟩:=bd h
 refine bK (aQ tD) [0] ?_
 refine sV h (λuX h=>?_) (λuX h=>?_)
 refine .d ⟨rfl,_,rfl,rfl,_,_,rfl,aj,?_⟩
 exact aMq
 obtain ⟨Fe,h,OK⟩:=bd h
 refine .cut (λσ η=>∃l5,∃y6,∃y7,∃y8,∃l9,∃Ff,∃f10:Nat->List PV,∃f13:Nat->List PV,DR ae.D l9.length f10 l9/\DR ae.D Ff.length f13 Ff/\.inl (l5,y6,y7,y8,l9,Ff)=Fe/\σ=[(2,.aA 1 0 0 0),(3,.aA 3 0 0 0)]/\η=[.row g1000 4 1 62 (λ_=>[sl 4 ah.cells l5,pI y6,pI y7,pI y8]),.row 0 4 1 29 (λ_=>[pI 0,pI 0,.str [],.own 2 0 0 l9.length]),.row 0 4 l9.length 29 f10,.row 0 4 1 29 (λ_=>[pI 5,pI 0,.str [],.own 4 0 0 Ff.length]),.row 0 4 Ff.length 29 f13]) ?_ ?_
 have aFr:=aFq _ _ _ _ _ _ _ h
 refine le (jD.rec (motive:=λtM La ur nO wB u0 o90 _=>∀f23:Nat->List PV,∀f26:Nat->List PV,DR ae.D wB.length f23 wB->DR ae.D u0.length f26 u0->Fe=o90->aK _ _ [(0,.aA 0 g1000 0 0),(2,.aA 1 0 0 0),(3,.aA 3 0 0 0)] [.row g1000 4 1 62 (λ_=>[sl 4 ah.cells tM,pI La,pI ur,pI nO]),.row 0 4 1 29 (λ_=>[pI 0,pI 0,.str [],.own 2 0 0 wB.length]),.row 0 4 wB.length 29 f23,.row 0 4 1 29 (λ_=>[pI 5,pI 0,.str [],.own 4 0 0 u0.length]),.row 0 4 u0.length 29 f26]) ?_ aFr (λ_=>[]) (λ_=>[]) ((DR.nil (D:=ae.D)).self) ((DR.nil (D:=ae.D)).self) rfl) (tk [0,1,5,2,7] gP T5)
 intro _ axQ _ _ tM La ur nO wB u0 o90 h aFs f23 f26 d24 d27  alh
 subst alh
 refine aK.round (.d (.d ⟨rfl,rfl,rfl,_,rfl,(sD h (λOm h=>?_) (λOm h=>?_))⟩))
 refine .d ?_
 obtain ⟨⟨vy,E3⟩,Zr,h⟩:=bd h
 refine bp (axQ _ _ Zr _) [0] λf50 d51=>?_
 refine ⟨_,cm,(p9 (bA _ _ _ _ rfl) ⟨rfl,_,_,rfl,aj,?_⟩)⟩
 obtain ⟨o59,h,aFt⟩:=bd h
 refine .cut (λσ η=>∃l52,∃y53,∃y54,∃Jd,∃S6,∃f57:Nat->List PV,DR ae.D S6.length f57 S6/\(l52,y53,y54,Jd,S6)=o59/\σ=[(0,.aA 0 g1000 0 0),(2,.aA 1 0 0 0),(3,.aA 3 0 0 0),(4,.aA 5 0 0 0)]/\η=[.row g1000 4 1 62 (λ_=>[sl 4 ah.cells l52,pI y53,pI y54,pI Jd]),.row 0 4 1 29 (λ_=>[pI 0,pI 0,.str [],.own 2 0 0 wB.length]),.row 0 4 wB.length 29 f23,.row 0 4 1 29 (λ_=>[pI 5,pI 0,.str [],.own 4 0 0 u0.length]),.row 0 4 u0.length 29 f26,.row 0 4 1 29 (λ_=>[pI 6,pI 0,.str [],.own 6 0 0 S6.length]),.row 0 4 S6.length 29 f57]) ?_ ?_
 refine .ab 6 0 3 5 _ (λ_=>gN (d51).po) λF62=>(.d ?_)
 obtain ⟨⟨Jl,zD⟩,akM,h⟩:=bd h
 refine bK (aQ akM) [0] ?_
 refine sV h (λM9 h=>?_) (λM9 h=>?_)
 refine .float [(0,true),(1,true),(2,true),(3,false),(4,false),(5,false),(6,true),(7,false)] aNh ?_
 refine ⟨rfl,rfl,_,rfl,?_⟩
 obtain ⟨⟨EB,AR⟩,VW,h⟩:=bd h
 refine bp (axQ _ _ VW _) [0] λf70 d71=>?_
 refine ⟨rfl,rfl,_,bT,rfl,rfl,?_⟩
 have d72:=(DR.bS (ae.bh (x:=vy) (F0:=F62) d51) DR.cZ)
 refine bk h λFj aav h=>(.dO ⟨rfl,rfl,(λ_ _=>rfl),DR.rO d72 aav,Fj.length,da (jr [[pI vy.ai,pI vy.aE,.str vy.aq,.dI 4 vy.af.length 29 f50 F62]]) 1 [pI EB.ai,pI EB.aE,.str EB.aq,.own 8 0 0 EB.af.length],DR.ln d72 aav,cc (DR.ln d72 aav) ⟨.same _,.same _,.same _,.same _,trivial⟩,rfl,rfl,_,_,rfl,aj,(.ab 6 1 3 8 _ (λ_=>pf (DR.lq d72 aav) (d71).po) λF75=>?_)⟩)
 have d76:=DR.gu d72 aav (ae.bh (x:=EB) (F0:=F75) d71)
 exact ct ⟨_,_,_,_,_,_,d76,si h,rfl,rfl⟩ (tk [0,1,2,3,4,7,6] ⟨.p,.p,.p,.p,⟨⟩⟩ adV)
 have d77:=(DR.bS (ae.bh (x:=vy) (F0:=F62) d51) DR.cZ)
 exact ct ⟨_,_,_,_,_,_,d77.self,si h,rfl,rfl⟩ (tk [0,1,2,3,4,7,6] ⟨.p,.p,.p,.p,⟨⟩⟩ adV)
 rintro _ _ ⟨l52,y53,y54,Jd,S6,f57,d58,rfl,rfl,rfl⟩
 replace h:=aFt
 refine .d ⟨rfl,rfl,_,rfl,rfl,_,rfl,_,bT,(bk h λl78 Ab h=>(.dO ⟨rfl,rfl,(λ_ _=>rfl),DR.rO d27 Ab,l78.length,da f26 u0.length [pI 6,pI 0,.str [],.own 6 0 0 S6.length],DR.ln d27 Ab,cc (DR.ln d27 Ab) ⟨.same _,.same _,.same _,.same _,trivial⟩,rfl,rfl,_,_,rfl,aj,(.d ?_)⟩))⟩
 obtain ⟨⟨v80,zU⟩,Zj,h⟩:=bd h
 refine bK (aQ Zj) [0] ?_
 refine fP h (λaFu h=>?_) (λaFu h=>?_)
 refine .d (bk h λGA ali h=>(bK (aX ali) [0] ?_))
 refine .d ⟨rfl,_,rfl,rfl,_,_,rfl,aj,?_⟩
 obtain rfl:=si h
 replace h:=OK
 obtain rfl:=si h
 refine ⟨rfl,_,rfl,(.ab 4 u0.length 3 6 _ (λ_=>pf (DR.lq d27 Ab) (d58).po) λF86=>?_)⟩
 have d87:=DR.gu d27 Ab (ae.bh (x:=(ae.mk 6 0 [] S6)) (F0:=F86) d58)
 exact en [0,4] (rs d87) eo lO
 refine .ab 4 u0.length 3 6 _ (λ_=>pf (DR.lq d27 Ab) (d58).po) λF88=>?_
 have d89:=DR.gu d27 Ab (ae.bh (x:=(ae.mk 6 0 [] S6)) (F0:=F88) d58)
 exact lg (aFs _ _ _ _ _ _ _ h f23 _ d24 d89 rfl) (tk [0,1,2,3,4] gP nQ)
 exact ct ⟨_,_,_,_,_,_,f23,f26,d24,d27,si h,rfl,rfl⟩ (tk [0,1,2,3,4] uO nQ)
 rintro _ _ ⟨l5,y6,y7,y8,l9,Ff,f10,f13,d11,d14,rfl,rfl,rfl⟩
 replace h:=OK
 refine .d ⟨rfl,_,rfl,rfl,_,_,rfl,aj,?_⟩
 obtain rfl:=si h
 exact ⟨rfl,_,rfl,(en [0,4] ⟨f13,d14.self,rfl,rfl⟩ eo lO)⟩
 intro F0 F1 n8 n9 tM La ur nO wB u0 o h
 exact .mk F1 n9 F0 n8 tM La ur nO wB u0 o h
 intro _ _ pJ OL a0 r h g1000
 refine ep Tryz.func51 ?_
 refine .d (.d ⟨rfl,rfl,rfl,_,rfl,(.d ?_)⟩)
 obtain ⟨⟨Ov,aw3⟩,axR,h⟩:=bd h
 refine bp (OL _ _ axR _) [0] λaFv aeu=>?_
 refine ⟨rfl,_,_,rfl,aj,(.d (.d ?_))⟩
 obtain ⟨⟨aw4,K1⟩,axS,h⟩:=bd h
 refine bK (cO axS) [0] ?_
 refine fP h (λaxT h=>?_) (λaxT h=>?_)
 refine .d ⟨rfl,_,rfl,rfl,_,_,rfl,aj,?_⟩
 obtain rfl:=si h
 exact ⟨rfl,_,rfl,(en [0,2] ⟨aFv,aeu.self,rfl,rfl⟩ eo lO)⟩
 refine .d (.d ⟨rfl,_,rfl,(bk h λaw5 axU h=>(T6 (kD axU) ⟨.kR ⟨.i,.i,.s,(.rd aeu),⟨⟩⟩,⟨⟩⟩ (fP h (λaxV h=>?_) (λaxV h=>?_))))⟩)
 refine .d ?_
 obtain ⟨⟨axb,axc⟩,axW,h⟩:=bd h
 refine bp (eQ (g1000:=g1000) axW) [0] λaFw aFx=>?_
 refine ⟨rfl,_,_,rfl,aj,?_⟩
 obtain rfl:=si h
 exact ⟨rfl,_,rfl,(en [0,4] ⟨aFw,aFx.self,rfl,rfl⟩ eo lO)⟩
 refine .d ⟨rfl,rfl,rfl,_,rfl,(.d ⟨rfl,rfl,rfl,_,rfl,rfl,rfl,rfl,_,_,rfl,aj,(.d (.d ?_))⟩)⟩
 obtain ⟨⟨aw6,K2⟩,axX,h⟩:=bd h
 refine bK (cO axX) [0] ?_
 refine sV h (λaxY h=>?_) (λaxY h=>?_)
 refine .d (.d ⟨rfl,rfl,_,rfl,(sN h (λaxZ h=>?_) (λaxZ h=>?_))⟩)
 refine .t (.t (.t (.d ?_)))
 obtain ⟨⟨aw8,aw9⟩,ax0,h⟩:=bd h
 refine bp (eQ (g1000:=g1000) ax0) [0] λaFy aFz=>?_
 refine ⟨rfl,_,_,rfl,aj,?_⟩
 obtain rfl:=si h
 exact ⟨rfl,_,rfl,(en [0,4] ⟨aFy,aFz.self,rfl,rfl⟩ eo lO)⟩
 refine .f (.f (UJ h (λax1 h=>?_) (λax1 h=>?_)))
 refine .d ?_
 obtain ⟨⟨NR,xG⟩,Y1,h⟩:=bd h
 refine bp (eQ (g1000:=g1000) Y1) [0] λaFA aFB=>?_
 refine ⟨rfl,_,_,rfl,aj,?_⟩
 obtain rfl:=si h
 exact ⟨rfl,_,rfl,(en [0,4] ⟨aFA,aFB.self,rfl,rfl⟩ eo lO)⟩
 refine .d ⟨rfl,rfl,rfl,_,rfl,rfl,rfl,rfl,_,_,rfl,aj,(.d (.float [(0,true),(1,true),(2,true),(3,false),(4,false),(5,false),(6,false)] aNh ?_))⟩
 refine ⟨rfl,rfl,_,rfl,?_⟩
 obtain ⟨⟨yR,aw7⟩,ax2,h⟩:=bd h
 refine bp (mC (g1000:=g1000) ax2) [0] λaJu ax3=>?_
 refine ⟨rfl,rfl,_,cm,rfl,rfl,(p9 (bA _ _ _ _ rfl) ⟨rfl,_,_,rfl,aj,?_⟩)⟩
 obtain rfl:=si h
 refine ⟨rfl,_,rfl,(.ab 5 0 3 4 _ (λ_=>gN (ax3).po) λajR=>?_)⟩
 have ajS:=(DR.bS (ae.bh (x:=yR) (F0:=ajR) ax3) DR.cZ)
 exact en [0,5] (rs ajS) eo lO
 refine .d (.float [(0,true),(1,true),(2,false),(3,false),(4,false),(5,false)] aNh ?_)
 refine ⟨rfl,_,rfl,?_⟩
 obtain ⟨⟨ak3,axa⟩,ax4,h⟩:=bd h
 refine bp (pJ _ _ ax4 _) [0] λaJv ax5=>?_
 refine ⟨rfl,_,cm,(p9 (bA _ _ _ _ rfl) ⟨rfl,_,_,rfl,aj,?_⟩)⟩
 obtain rfl:=si h
 refine ⟨rfl,_,rfl,(.ab 5 0 3 2 _ (λ_=>gN (aeu).po) λaFC=>(.ab 5 1 3 4 _ (λ_=>gN (ax5).po) λaFD=>?_))⟩
 have aFE:=(DR.bS (ae.bh (x:=Ov) (F0:=aFC) aeu) (DR.bS (ae.bh (x:=ak3) (F0:=aFD) ax5) DR.cZ))
 exact en [0,5] (rs aFE) eo lO
 intro _ _ _ pJ OL OM a0 r h g1000
 refine ep Tryz.func102 ?_
 refine .d (.d ?_)
 obtain ⟨⟨ad3,awY⟩,ax6,h⟩:=bd h
 refine bp (OM _ _ ax6 _) [0] λaFF alj=>?_
 refine ⟨rfl,_,_,rfl,aj,(.d (.d ?_))⟩
 obtain ⟨⟨awZ,ak0⟩,ax7,h⟩:=bd h
 refine bK (aQ ax7) [0] ?_
 refine sV h (λax8 h=>?_) (λax8 h=>?_)
 refine .d ?_
 obtain ⟨⟨ak1,aw0⟩,ax9,h⟩:=bd h
 refine bp (pJ _ _ ax9 _) [0] λaJw aya=>?_
 refine ⟨rfl,_,_,rfl,aj,(.d (bk h λaw1 ayb h=>(bK (aX ayb) [0] ?_)))⟩
 refine .d (.float [(0,true),(1,true),(2,true),(3,false),(4,false),(5,false),(6,false)] aNh ?_)
 refine ⟨rfl,_,rfl,rfl,_,rfl,?_⟩
 obtain ⟨⟨ak2,aw2⟩,ayc,h⟩:=bd h
 refine bp (OL _ _ ayc _) [0] λaJx ayd=>?_
 refine ⟨rfl,rfl,_,cm,(p9 (bA _ _ _ _ rfl) ⟨rfl,_,_,rfl,aj,?_⟩)⟩
 obtain rfl:=si h
 refine ⟨rfl,_,rfl,(.ab 7 0 3 2 _ (λ_=>gN (alj).po) λaFG=>(.ab 7 1 3 4 _ (λ_=>gN (aya).po) λaFH=>(.ab 7 2 3 6 _ (λ_=>gN (ayd).po) λaFI=>?_)))⟩
 have aFJ:=(DR.bS (ae.bh (x:=ad3) (F0:=aFG) alj) (DR.bS (ae.bh (x:=ak1) (F0:=aFH) aya) (DR.bS (ae.bh (x:=ak2) (F0:=aFI) ayd) DR.cZ)))
 exact en [0,7] (rs aFJ) eo lO
 refine .d ⟨rfl,_,rfl,rfl,_,_,rfl,aj,?_⟩
 obtain rfl:=si h
 exact ⟨rfl,_,rfl,(en [0,2] ⟨aFF,alj.self,rfl,rfl⟩ eo lO)⟩
 intro _ _ OM ON a0 r h g1000
 refine ep Tryz.func166 ?_
 refine .d (.d ?_)
 obtain ⟨⟨ad2,awV⟩,aye,h⟩:=bd h
 refine bp (ON _ _ _ aye _) [0] λaFK alk=>?_
 refine ⟨rfl,_,_,rfl,aj,(.d (.d ?_))⟩
 obtain ⟨⟨awW,akY⟩,ayf,h⟩:=bd h
 refine bK (aQ ayf) [0] ?_
 refine sV h (λayg h=>?_) (λayg h=>?_)
 refine .d (.float [(0,true),(1,true),(2,false),(3,false),(4,false),(5,false)] aNh ?_)
 refine ⟨rfl,_,rfl,?_⟩
 obtain ⟨⟨akZ,awX⟩,ayh,h⟩:=bd h
 refine bp (OM _ _ ayh _) [0] λaJy ayi=>?_
 refine ⟨rfl,_,cm,(p9 (bA _ _ _ _ rfl) ⟨rfl,_,_,rfl,aj,?_⟩)⟩
 obtain rfl:=si h
 refine ⟨rfl,_,rfl,(.ab 5 0 3 2 _ (λ_=>gN (alk).po) λaFL=>(.ab 5 1 3 4 _ (λ_=>gN (ayi).po) λaFM=>?_))⟩
 have aFN:=(DR.bS (ae.bh (x:=ad2) (F0:=aFL) alk) (DR.bS (ae.bh (x:=akZ) (F0:=aFM) ayi) DR.cZ))
 exact en [0,5] (rs aFN) eo lO
 refine .d ⟨rfl,_,rfl,rfl,_,_,rfl,aj,?_⟩
 obtain rfl:=si h
 exact ⟨rfl,_,rfl,(en [0,2] ⟨aFK,alk.self,rfl,rfl⟩ eo lO)⟩
 intro _ _ _ ON ayj Ic a0 a1 r h g1000
 refine ep Tryz.func203 ?_
 refine .d (.d (.d (sE h (λayk h=>?_) (λayk h=>?_))))
 refine .d ?_
 obtain ⟨⟨awT,awU⟩,ayl,h⟩:=bd h
 refine bp (Ic _ _ ayl _) [0] λaFO aFP=>?_
 refine ⟨rfl,_,_,rfl,aj,?_⟩
 obtain rfl:=si h
 exact ⟨rfl,_,rfl,(en [0,2] ⟨aFO,aFP.self,rfl,rfl⟩ eo lO)⟩
 refine .d ?_
 obtain ⟨⟨ZF,ZG⟩,aym,h⟩:=bd h
 refine bp (ON _ _ _ aym _) [0] λaFQ aFR=>?_
 refine ⟨rfl,_,_,rfl,aj,?_⟩
 obtain ⟨ad1,h,agZ⟩:=bd h
 refine .cut (λσ η=>∃ZH,∃ZI,∃ZJ,∃ZK,∃Ou,∃ZL,∃ZM,∃ZN,∃K0,∃alm:Nat->List PV,∃aev:Nat->List PV,DR ae.D Ou.length alm Ou/\DR ae.D K0.length aev K0/\.inl (ZH,ZI,ZJ,ZK,Ou,ZL,ZM,ZN,K0)=ad1/\σ=[(4,.aA 1 0 0 0),(5,.aA 3 0 0 0)]/\η=[.row g1000 4 1 62 (λ_=>[sl 4 ah.cells ZH,pI ZI,pI ZJ,pI ZK]),.row 0 4 1 29 (λ_=>[pI 0,pI 0,.str [],.own 2 0 0 Ou.length]),.row 0 4 Ou.length 29 alm,.row 0 4 1 29 (λ_=>[pI ZL,pI ZM,.str ZN,.own 4 0 0 K0.length]),.row 0 4 K0.length 29 aev]) ?_ ?_
 have ayn:=ayj _ _ _ _ _ _ _ _ _ _ _ h
 refine le (iq.rec (motive:=λayo mK mL rP rQ lY mq mr mu kv ayp _=>∀Dh:Nat->List PV,∀Ie:Nat->List PV,DR ae.D lY.length Dh lY->DR ae.D kv.length Ie kv->a1=ayo->ad1=ayp->aK _ _ [(0,.aA 0 g1000 0 0),(1,pI a1),(4,.aA 1 0 0 0),(5,.aA 3 0 0 0)] [.row g1000 4 1 62 (λ_=>[sl 4 ah.cells mK,pI mL,pI rP,pI rQ]),.row 0 4 1 29 (λ_=>[pI 0,pI 0,.str [],.own 2 0 0 lY.length]),.row 0 4 lY.length 29 Dh,.row 0 4 1 29 (λ_=>[pI mq,pI mr,.str mu,.own 4 0 0 kv.length]),.row 0 4 kv.length 29 Ie]) ?_ ayn (λ_=>[]) aFQ ((DR.nil (D:=ae.D)).self) aFR rfl rfl) (tk [0,1,6,3,2] SC ED)
 intro _ aaw _ _ ayo mK mL rP rQ lY mq mr mu kv ayp h aax Dh Ie KP CO aew ayq
 subst aew
 subst ayq
 refine aK.round (.d (.d ⟨rfl,rfl,rfl,_,rfl,rfl,rfl,rfl,_,rfl,(sD h (λayr h=>?_) (λayr h=>?_))⟩))
 refine .t ⟨rfl,(.t ⟨rfl,(.t ⟨rfl,_,rfl,(.t (.t ⟨rfl,(.t ⟨rfl,(.t ⟨rfl,_,rfl,(.t (bk h λDa ag0 h=>?_))⟩)⟩)⟩))⟩)⟩)⟩
 refine ⟨bf ag0,_,(aU ag0).trans (ah.aO Da),(.t (.t (.t (.t (sE h (λays h=>?_) (λays h=>?_))))))⟩
 refine .d (.float [(0,true),(1,true),(2,true),(3,true),(4,true),(5,true),(6,true),(7,true),(8,true),(9,true),(10,true),(11,false),(12,true)] aNh ?_)
 refine ⟨rfl,rfl,rfl,_,rfl,rfl,rfl,rfl,_,rfl,(bk h λaag ag1 h=>⟨bf ag1,_,(aU ag1).trans (ah.aO aag),(bk h λDb ayt h=>(b8 (Ta ayt) ?_))⟩)⟩
 obtain ⟨aFS,h,ayu⟩:=bd h
 refine .cut (λσ η=>∃Dc,∃Dd,∃De,∃Df,∃OB,(Dc,Dd,De,Df,OB)=aFS/\σ=[(0,.aA 0 g1000 0 0),(1,pI a1),(4,.aA 1 0 0 0),(5,.aA 3 0 0 0),(6,pI Db),(26,.aA 0 g1000 0 0),(27,.aA 0 g1000 0 0),(28,.aA 0 g1000 0 0),(29,sl 4 ah.cells mK),(30,.aA 0 g1000 0 0),(31,.aA 0 g1000 0 0),(32,.aA 0 g1000 0 1),(33,pI mL),(36,pI Da.ai),(37,.bool (Da.ai==6)),(52,.bool OB)]/\η=[.row g1000 4 1 62 (λ_=>[sl 4 ah.cells Dc,pI Dd,pI De,pI Df]),.row 0 4 1 29 (λ_=>[pI 0,pI 0,.str [],.own 2 0 0 lY.length]),.row 0 4 lY.length 29 Dh,.row 0 4 1 29 (λ_=>[pI mq,pI mr,.str mu,.own 4 0 0 kv.length]),.row 0 4 kv.length 29 Ie]) ?_ ?_
 refine sE h (λayv h=>?_) (λayv h=>?_)
 refine .t ?_
 obtain ⟨⟨aeo,Fo⟩,ayw,h⟩:=bd h
 refine bK (aQ ayw) [0] ?_
 exact .t (ct ⟨_,_,_,_,_,si h,rfl,rfl⟩ (tk [0,1,2,3,4] Tb nQ))
 exact .f (.f (ct ⟨_,_,_,_,_,si h,rfl,rfl⟩ (tk [0,1,2,3,4] Tb nQ)))
 rintro _ _ ⟨Dc,Dd,De,Df,OB,rfl,rfl,rfl⟩
 replace h:=ayu
 refine sV h (λayx h=>?_) (λayx h=>?_)
 refine .float [(0,true),(1,true),(2,false),(3,false),(4,false),(5,false)] aNh ?_
 refine ⟨rfl,_,rfl,?_⟩
 obtain ⟨⟨J8,Fp⟩,ayy,h⟩:=bd h
 refine bp (aaw _ _ _ ayy _) [0] λaJz ayz=>?_
 refine ⟨rfl,_,cm,(p9 (bA _ _ _ _ rfl) ⟨rfl,_,_,rfl,aj,(.ab 6 0 3 4 _ (λ_=>gN (CO).po) λajK=>(.ab 6 1 3 5 _ (λ_=>gN (ayz).po) λaFT=>?_))⟩)⟩
 have aFU:=(DR.bS (ae.bh (x:=(ae.mk mq mr mu kv)) (F0:=ajK) CO) (DR.bS (ae.bh (x:=J8) (F0:=aFT) ayz) DR.cZ))
 exact lg (aax _ _ _ _ _ _ _ _ _ _ _ h Dh _ KP aFU.self rfl rfl) (tk [0,1,2,3,6] SC nQ)
 obtain ⟨aFV,h,ayA⟩:=bd h
 refine .cut (λσ η=>∃Bz,∃BA,∃BB,∃BC,∃OC,(Bz,BA,BB,BC,OC)=aFV/\σ=[(0,.aA 0 g1000 0 0),(1,pI a1),(4,.aA 1 0 0 0),(5,.aA 3 0 0 0),(6,pI Db),(26,.aA 0 g1000 0 0),(27,.aA 0 g1000 0 0),(28,.aA 0 g1000 0 0),(29,sl 4 ah.cells mK),(30,.aA 0 g1000 0 0),(31,.aA 0 g1000 0 0),(32,.aA 0 g1000 0 1),(33,pI mL),(36,pI Da.ai),(37,.bool (Da.ai==6)),(64,.bool OC)]/\η=[.row g1000 4 1 62 (λ_=>[sl 4 ah.cells Bz,pI BA,pI BB,pI BC]),.row 0 4 1 29 (λ_=>[pI 0,pI 0,.str [],.own 2 0 0 lY.length]),.row 0 4 lY.length 29 Dh,.row 0 4 1 29 (λ_=>[pI mq,pI mr,.str mu,.own 4 0 0 kv.length]),.row 0 4 kv.length 29 Ie]) ?_ ?_
 refine sE h (λayB h=>?_) (λayB h=>?_)
 refine .t ?_
 obtain ⟨⟨aep,Fq⟩,ayC,h⟩:=bd h
 refine bK (aQ ayC) [0] ?_
 exact .t (ct ⟨_,_,_,_,_,si h,rfl,rfl⟩ (tk [0,1,2,3,4] Tb nQ))
 exact .f (.f (ct ⟨_,_,_,_,_,si h,rfl,rfl⟩ (tk [0,1,2,3,4] Tb nQ)))
 rintro _ _ ⟨Bz,BA,BB,BC,OC,rfl,rfl,rfl⟩
 replace h:=ayA
 refine sV h (λayD h=>?_) (λayD h=>?_)
 refine .float [(0,true),(1,true),(2,false),(3,false),(4,false),(5,false)] aNh ?_
 refine ⟨rfl,_,rfl,?_⟩
 obtain ⟨⟨aah,Fs⟩,ayE,h⟩:=bd h
 refine bp (aaw _ _ _ ayE _) [0] λaJA ayF=>?_
 refine ⟨rfl,_,cm,(p9 (bA _ _ _ _ rfl) ⟨rfl,_,_,rfl,aj,(.ab 6 0 3 4 _ (λ_=>gN (CO).po) λaFW=>(.ab 6 1 3 5 _ (λ_=>gN (ayF).po) λaFX=>?_))⟩)⟩
 have aFY:=(DR.bS (ae.bh (x:=(ae.mk mq mr mu kv)) (F0:=aFW) CO) (DR.bS (ae.bh (x:=aah) (F0:=aFX) ayF) DR.cZ))
 exact lg (aax _ _ _ _ _ _ _ _ _ _ _ h Dh _ KP aFY.self rfl rfl) (tk [0,1,2,3,6] SC nQ)
 obtain ⟨aFZ,h,ayG⟩:=bd h
 refine .cut (λσ η=>∃OD,OD=aFZ/\σ=[(0,.aA 0 g1000 0 0),(1,pI a1),(4,.aA 1 0 0 0),(5,.aA 3 0 0 0),(6,pI Db),(26,.aA 0 g1000 0 0),(27,.aA 0 g1000 0 0),(28,.aA 0 g1000 0 0),(29,sl 4 ah.cells mK),(30,.aA 0 g1000 0 0),(31,.aA 0 g1000 0 0),(32,.aA 0 g1000 0 1),(33,pI mL),(36,pI Da.ai),(37,.bool (Da.ai==6)),(76,.bool OD)]/\η=[.row g1000 4 1 62 (λ_=>[sl 4 ah.cells Bz,pI BA,pI BB,pI BC]),.row 0 4 1 29 (λ_=>[pI 0,pI 0,.str [],.own 2 0 0 lY.length]),.row 0 4 lY.length 29 Dh,.row 0 4 1 29 (λ_=>[pI mq,pI mr,.str mu,.own 4 0 0 kv.length]),.row 0 4 kv.length 29 Ie]) ?_ ?_
 refine sD h (λayH h=>?_) (λayH h=>?_)
 exact .t (bk h λaeq ayI h=>(b8 (Fv ayI) (.t (.t (.t (ct ⟨_,si h,rfl,rfl⟩ (tk [0,1,2,3,4] Tb nQ)))))))
 exact .f (.f (.f (.f (ct ⟨_,si h,rfl,rfl⟩ (tk [0,1,2,3,4] Tb nQ)))))
 rintro _ _ ⟨OD,rfl,rfl,rfl⟩
 replace h:=ayG
 refine sV h (λayJ h=>?_) (λayJ h=>?_)
 refine .d ⟨rfl,rfl,rfl,_,rfl,rfl,rfl,rfl,_,_,rfl,aj,(.float [(0,true),(1,true),(2,true),(3,true),(4,true),(5,false),(6,false),(7,true),(8,false)] aNh ?_)⟩
 refine ⟨rfl,_,rfl,?_⟩
 obtain ⟨⟨Ka,Ft⟩,ayK,h⟩:=bd h
 refine bp (aaw _ _ _ ayK _) [0] λaJB ayL=>?_
 refine ⟨rfl,_,cm,rfl,_,_,rfl,aj,(.ab 6 0 3 4 _ (λ_=>gN (CO).po) λaF0=>(.ab 6 1 3 5 _ (λ_=>gN (ayL).po) λaF1=>?_))⟩
 have aF2:=(DR.bS (ae.bh (x:=(ae.mk mq mr mu kv)) (F0:=aF0) CO) (DR.bS (ae.bh (x:=Ka) (F0:=aF1) ayL) DR.cZ))
 exact lg (aax _ _ _ _ _ _ _ _ _ _ _ h Dh _ KP aF2.self rfl rfl) (tk [0,1,2,3,6] SC nQ)
 refine .d ⟨rfl,_,rfl,rfl,_,_,rfl,aj,?_⟩
 obtain rfl:=si h
 replace h:=agZ
 obtain rfl:=si h
 exact ⟨rfl,_,rfl,(en [0,4] ⟨Ie,CO.self,rfl,rfl⟩ eo lO)⟩
 exact ct ⟨_,_,_,_,_,_,_,_,_,Dh,Ie,KP,CO,si h,rfl,rfl⟩ (tk [0,1,2,3,4] uO nQ)
 exact .f (.f (.f (.f (.f (.f (.f (.f (.f (.f (.f (.f (.f (ct ⟨_,_,_,_,_,_,_,_,_,Dh,Ie,KP,CO,si h,rfl,rfl⟩ (tk [0,1,2,3,4] uO nQ))))))))))))))
 rintro _ _ ⟨ZH,ZI,ZJ,ZK,Ou,ZL,ZM,ZN,K0,alm,aev,aty,aF3,rfl,rfl,rfl⟩
 replace h:=agZ
 refine .d ⟨rfl,_,rfl,rfl,_,_,rfl,aj,?_⟩
 obtain rfl:=si h
 exact ⟨rfl,_,rfl,(en [0,4] ⟨aev,aF3.self,rfl,rfl⟩ eo lO)⟩
 intro F0 F1 n8 n9 a1 mK mL rP rQ lY mq mr mu kv o h
 exact .mk F0 n8 F1 n9 a1 mK mL rP rQ lY mq mr mu kv o h
 intro _ _ Ic aln a0 r h g1000
 refine ep Tryz.func215 ?_
 refine .d (.d (.d ?_))
 obtain ⟨⟨awO,akW⟩,ayM,h⟩:=bd h
 refine bK (aQ ayM) [0] ?_
 refine sV h (λayN h=>?_) (λayN h=>?_)
 refine .d ?_
 obtain ⟨⟨akX,awP⟩,ayO,h⟩:=bd h
 refine bp (Ic _ _ ayO _) [0] λaJC ayP=>?_
 refine ⟨_,cm,rfl,_,_,rfl,aj,?_⟩
 obtain rfl:=si h
 refine ⟨rfl,_,rfl,(.ab 3 0 3 2 _ (λ_=>gN (ayP).po) λaF4=>?_)⟩
 have aF5:=(DR.bS (ae.bh (x:=akX) (F0:=aF4) ayP) DR.cZ)
 exact en [0,3] (rs aF5) eo lO
 refine .d (.d ?_)
 obtain ⟨⟨ND,wR⟩,YM,h⟩:=bd h
 refine bK (aQ YM) [0] ?_
 refine sV h (λYN h=>?_) (λYN h=>?_)
 refine .d ?_
 obtain ⟨⟨J7,awQ⟩,ayQ,h⟩:=bd h
 refine bp (Ic _ _ ayQ _) [0] λaJD ayR=>?_
 refine ⟨_,cm,rfl,_,_,rfl,aj,?_⟩
 obtain rfl:=si h
 refine ⟨rfl,_,rfl,(.ab 3 0 3 2 _ (λ_=>gN (ayR).po) λaF6=>?_)⟩
 have aF7:=(DR.bS (ae.bh (x:=J7) (F0:=aF6) ayR) DR.cZ)
 exact en [0,3] (rs aF7) eo lO
 refine .d ?_
 obtain ⟨⟨awR,awS⟩,ayS,h⟩:=bd h
 refine bp (aln _ _ ayS _) [0] λaF8 aF9=>?_
 refine ⟨rfl,_,_,rfl,aj,?_⟩
 obtain rfl:=si h
 exact ⟨rfl,_,rfl,(en [0,2] ⟨aF8,aF9.self,rfl,rfl⟩ eo lO)⟩
 intro _ OO a0 r h g1000
 refine ep Tryz.func227 ?_
 refine .d (.d ?_)
 obtain ⟨⟨Uu,awN⟩,ayT,h⟩:=bd h
 refine bp (OO _ _ _ ayT _) [0] λf240 d241=>?_
 refine ⟨rfl,_,_,rfl,aj,?_⟩
 obtain rfl:=si h
 exact ⟨rfl,_,rfl,(en [0,2] ⟨f240,d241.self,rfl,rfl⟩ eo lO)⟩
 intro _ _ Wo alo a0 a1 r h g1000
 refine ep Tryz.func183 ?_
 refine .d (.d ?_)
 obtain ⟨⟨ZE,HN⟩,ayU,h⟩:=bd h
 refine bp (alo _ _ ayU _) [0] λf245 d246=>?_
 refine ⟨rfl,_,_,rfl,aj,?_⟩
 obtain ⟨ad0,h,aay⟩:=bd h
 refine .cut (λσ η=>∃CZ,∃C2,∃C3,∃C4,∃Fg,∃C5,∃C6,∃C7,∃yZ,∃f252:Nat->List PV,∃f258:Nat->List PV,DR ae.D Fg.length f252 Fg/\DR ae.D yZ.length f258 yZ/\.inl (CZ,C2,C3,C4,Fg,C5,C6,C7,yZ)=ad0/\σ=[(4,.aA 1 0 0 0),(5,.aA 3 0 0 0)]/\η=[.row g1000 4 1 62 (λ_=>[sl 4 ah.cells CZ,pI C2,pI C3,pI C4]),.row 0 4 1 29 (λ_=>[pI 0,pI 0,.str [],.own 2 0 0 Fg.length]),.row 0 4 Fg.length 29 f252,.row 0 4 1 29 (λ_=>[pI C5,pI C6,.str C7,.own 4 0 0 yZ.length]),.row 0 4 yZ.length 29 f258]) ?_ ?_
 have Wy:=Wo _ _ _ _ _ _ _ _ _ _ _ h
 refine le (jf.rec (motive:=λWz qT vz vA tO lz gA gB gC fW WA _=>∀f268:Nat->List PV,∀f274:Nat->List PV,DR ae.D lz.length f268 lz->DR ae.D fW.length f274 fW->a1=Wz->ad0=WA->aK _ _ [(0,.aA 0 g1000 0 0),(1,.bool a1),(4,.aA 1 0 0 0),(5,.aA 3 0 0 0)] [.row g1000 4 1 62 (λ_=>[sl 4 ah.cells qT,pI vz,pI vA,pI tO]),.row 0 4 1 29 (λ_=>[pI 0,pI 0,.str [],.own 2 0 0 lz.length]),.row 0 4 lz.length 29 f268,.row 0 4 1 29 (λ_=>[pI gA,pI gB,.str gC,.own 4 0 0 fW.length]),.row 0 4 fW.length 29 f274]) ?_ Wy (λ_=>[]) f245 ((DR.nil (D:=ae.D)).self) d246 rfl rfl) (tk [0,1,6,3,2] yV ED)
 intro _ QX _ ag2 _ _ Wz qT vz vA tO lz gA gB gC fW WA h GC f268 f274 d269 d275 Hv WB
 subst Hv
 subst WB
 refine aK.round (.d (.d ⟨rfl,rfl,rfl,_,rfl,(sD h (λJx h=>?_) (λJx h=>?_))⟩))
 refine .d ?_
 obtain ⟨⟨aef,xy⟩,ayV,h⟩:=bd h
 refine bK (aQ ayV) [0] ?_
 refine sV h (λayW h=>?_) (λayW h=>?_)
 refine .d (.d (sV h (λZn h=>?_) (λZn h=>?_)))
 refine ⟨rfl,_,rfl,(.t (bk h λHO ayX h=>(T6 (kD ayX) ⟨.kR ⟨.i,.i,.s,(.rd d275),⟨⟩⟩,⟨⟩⟩ (.t (sV h (λayY h=>?_) (λayY h=>?_))))))⟩
 refine .t ?_
 obtain ⟨⟨Nk,zV⟩,ayZ,h⟩:=bd h
 refine bK (aQ ayZ) [0] ?_
 refine .t (sV h (λay0 h=>?_) (λay0 h=>?_))
 refine .d (bk h λaeg ay1 h=>(bK (aX ay1) [0] ?_))
 refine .d (.float [(0,true),(1,true),(2,false),(3,false),(4,false),(5,false)] aNh ?_)
 refine ⟨rfl,_,rfl,?_⟩
 obtain ⟨⟨JM,aeh⟩,ay2,h⟩:=bd h
 refine bp (QX _ _ ay2 _) [0] λf312 d313=>?_
 refine ⟨rfl,_,cm,(p9 (bA _ _ _ _ rfl) ⟨rfl,_,_,rfl,aj,?_⟩)⟩
 obtain rfl:=si h
 replace h:=aay
 obtain rfl:=si h
 refine ⟨rfl,_,rfl,(.ab 6 0 3 4 _ (λ_=>gN (d275).po) λaGa=>(.ab 6 1 3 5 _ (λ_=>gN (d313).po) λaGb=>?_))⟩
 have d316:=(DR.bS (ae.bh (x:=(ae.mk gA gB gC fW)) (F0:=aGa) d275) (DR.bS (ae.bh (x:=JM) (F0:=aGb) d313) DR.cZ))
 exact en [0,6] (rs d316) eo lO
 refine .d ?_
 obtain ⟨⟨aae,MX⟩,VA,h⟩:=bd h
 refine bp (QX _ _ VA _) [0] λf320 d321=>?_
 refine ⟨rfl,_,_,rfl,aj,(.d (bk h λFk ay3 h=>(bK (aX ay3) [0] ?_)))⟩
 refine ⟨rfl,_,rfl,rfl,_,rfl,_,cm,(p9 (bA _ _ _ _ rfl) ⟨rfl,_,_,rfl,aj,(.ab 7 0 3 4 _ (λ_=>gN (d275).po) λaGc=>(.ab 7 1 3 5 _ (λ_=>gN (d321).po) λaGd=>?_))⟩)⟩
 have d326:=(DR.bS (ae.bh (x:=(ae.mk gA gB gC fW)) (F0:=aGc) d275) (DR.bS (ae.bh (x:=aae) (F0:=aGd) d321) DR.cZ))
 exact lg (GC _ _ _ _ _ _ _ _ _ _ _ h f268 _ d269 d326.self rfl rfl) (tk [0,1,2,3,7] yV nQ)
 refine .f (.f (.f (.d ?_)))
 obtain ⟨⟨J6,aei⟩,ay4,h⟩:=bd h
 refine bp (QX _ _ ay4 _) [0] λf330 d331=>?_
 refine ⟨rfl,_,_,rfl,aj,(.d (bk h λFl ay5 h=>(bK (aX ay5) [0] ?_)))⟩
 refine ⟨rfl,_,rfl,rfl,_,rfl,_,cm,(p9 (bA _ _ _ _ rfl) ⟨rfl,_,_,rfl,aj,(.ab 7 0 3 4 _ (λ_=>gN (d275).po) λaGe=>(.ab 7 1 3 5 _ (λ_=>gN (d331).po) λaGf=>?_))⟩)⟩
 have d336:=(DR.bS (ae.bh (x:=(ae.mk gA gB gC fW)) (F0:=aGe) d275) (DR.bS (ae.bh (x:=J6) (F0:=aGf) d331) DR.cZ))
 exact lg (GC _ _ _ _ _ _ _ _ _ _ _ h f268 _ d269 d336.self rfl rfl) (tk [0,1,2,3,7] yV nQ)
 refine .f (.f (.f (.f (.f (.f (.d ?_))))))
 obtain ⟨⟨aaf,aej⟩,ay6,h⟩:=bd h
 refine bp (QX _ _ ay6 _) [0] λf340 d341=>?_
 refine ⟨rfl,_,_,rfl,aj,(.d (bk h λu6 WC h=>(bK (aX WC) [0] ?_)))⟩
 refine ⟨rfl,_,rfl,rfl,_,rfl,_,cm,(p9 (bA _ _ _ _ rfl) ⟨rfl,_,_,rfl,aj,(.ab 7 0 3 4 _ (λ_=>gN (d275).po) λaGg=>(.ab 7 1 3 5 _ (λ_=>gN (d341).po) λaGh=>?_))⟩)⟩
 have d346:=(DR.bS (ae.bh (x:=(ae.mk gA gB gC fW)) (F0:=aGg) d275) (DR.bS (ae.bh (x:=aaf) (F0:=aGh) d341) DR.cZ))
 exact lg (GC _ _ _ _ _ _ _ _ _ _ _ h f268 _ d269 d346.self rfl rfl) (tk [0,1,2,3,7] yV nQ)
 refine .d ?_
 obtain ⟨⟨aek,S7⟩,ay7,h⟩:=bd h
 refine bK (aQ ay7) [0] ?_
 refine sV h (λJz h=>?_) (λJz h=>?_)
 refine .d ?_
 obtain ⟨⟨S8,ael⟩,ay8,h⟩:=bd h
 refine bK (dL ay8) [0] ?_
 refine .d ?_
 obtain ⟨⟨Cv,Aa⟩,ay9,h⟩:=bd h
 refine bK (cO ay9) [0] ?_
 refine sV h (λaza h=>?_) (λaza h=>?_)
 refine ⟨rfl,_,rfl,_,cm,(arV 5 0 3 4 (λOP=>[.row g1000 4 1 62 (λ_=>Aa.lit),.row 0 4 1 29 (λ_=>[pI 0,pI 0,.str [],.own 2 0 0 lz.length]),.row 0 4 lz.length 29 f268,.row 0 4 1 29 (λ_=>[pI gA,pI gB,.str gC,.own 4 0 0 fW.length]),.dead,.row 0 4 1 29 (jr [[pI gA,pI gB,.str gC,.dI 4 fW.length 29 f274 OP]])]) (λOP=>aaz [pI gA,pI gB,.str gC,.own 4 0 0 fW.length] [pI gA,pI gB,.str gC,.dI 4 fW.length 29 f274 OP] (jr [[pI gA,pI gB,.str gC,.dI 4 fW.length 29 f274 OP]]) aNd rfl rfl (B0 [pI gA,pI gB,.str gC,.dI 4 fW.length 29 f274 OP]) (d275).po rfl rfl rfl rfl aNd rfl) λOP=>?_)⟩
 have d359:=(DR.bS (ae.bh (x:=(ae.mk gA gB gC fW)) (F0:=OP) d275) DR.cZ)
 obtain ⟨⟨aem,xw⟩,WD,h⟩:=bd h
 refine QY (ag2 _ _ _ WD _ _ _ _ d359) [0,5] ⟨rfl,(OQ d359),⟨⟩⟩ λf363 d364=>?_
 exact p9 (bA _ _ _ _ rfl) ⟨rfl,_,_,rfl,aj,(lg (GC _ _ _ _ _ _ _ _ _ _ _ h f268 f363 d269 d364 rfl rfl) (tk [0,1,2,3,6] yV nQ))⟩
 refine ⟨rfl,_,rfl,_,cm,(p9 (bA _ _ _ _ rfl) ⟨rfl,_,_,rfl,aj,(.ab 5 0 3 4 _ (λ_=>gN (d275).po) λakz=>?_)⟩)⟩
 have d366:=(DR.bS (ae.bh (x:=(ae.mk gA gB gC fW)) (F0:=akz) d275) DR.cZ)
 exact lg (GC _ _ _ _ _ _ _ _ _ _ _ h f268 _ d269 d366.self rfl rfl) (tk [0,1,2,3,5] yV nQ)
 refine .d ?_
 obtain ⟨⟨Hj,E1⟩,Zi,h⟩:=bd h
 refine bK (cO Zi) [0] ?_
 refine sV h (λazb h=>?_) (λazb h=>?_)
 refine ⟨rfl,_,rfl,_,cm,(arV 5 0 3 4 (λOR=>[.row g1000 4 1 62 (λ_=>E1.lit),.row 0 4 1 29 (λ_=>[pI 0,pI 0,.str [],.own 2 0 0 lz.length]),.row 0 4 lz.length 29 f268,.row 0 4 1 29 (λ_=>[pI gA,pI gB,.str gC,.own 4 0 0 fW.length]),.dead,.row 0 4 1 29 (jr [[pI gA,pI gB,.str gC,.dI 4 fW.length 29 f274 OR]])]) (λOR=>aaz [pI gA,pI gB,.str gC,.own 4 0 0 fW.length] [pI gA,pI gB,.str gC,.dI 4 fW.length 29 f274 OR] (jr [[pI gA,pI gB,.str gC,.dI 4 fW.length 29 f274 OR]]) aNd rfl rfl (B0 [pI gA,pI gB,.str gC,.dI 4 fW.length 29 f274 OR]) (d275).po rfl rfl rfl rfl aNd rfl) λOR=>?_)⟩
 have azc:=(DR.bS (ae.bh (x:=(ae.mk gA gB gC fW)) (F0:=OR) d275) DR.cZ)
 obtain ⟨⟨aen,Fm⟩,azd,h⟩:=bd h
 refine QY (ag2 _ _ _ azd _ _ _ _ azc) [0,5] ⟨rfl,(OQ azc),⟨⟩⟩ λaGi aGj=>?_
 exact p9 (bA _ _ _ _ rfl) ⟨rfl,_,_,rfl,aj,(lg (GC _ _ _ _ _ _ _ _ _ _ _ h f268 aGi d269 aGj rfl rfl) (tk [0,1,2,3,6] yV nQ))⟩
 refine .d ⟨rfl,_,rfl,rfl,_,_,rfl,aj,?_⟩
 obtain rfl:=si h
 replace h:=aay
 obtain rfl:=si h
 exact ⟨rfl,_,rfl,(en [0,4] ⟨f274,d275.self,rfl,rfl⟩ eo lO)⟩
 exact ct ⟨_,_,_,_,_,_,_,_,_,f268,f274,d269,d275,si h,rfl,rfl⟩ (tk [0,1,2,3,4] uO nQ)
 rintro _ _ ⟨CZ,C2,C3,C4,Fg,C5,C6,C7,yZ,f252,f258,d253,d259,rfl,rfl,rfl⟩
 replace h:=aay
 refine .d ⟨rfl,_,rfl,rfl,_,_,rfl,aj,?_⟩
 obtain rfl:=si h
 exact ⟨rfl,_,rfl,(en [0,4] ⟨f258,d259.self,rfl,rfl⟩ eo lO)⟩
 intro F0 F1 F2 n8 n9 hF2 a1 qT vz vA tO lz gA gB gC fW o h
 exact .mk F0 n8 F2 hF2 F1 n9 a1 qT vz vA tO lz gA gB gC fW o h
 intro _ alp a0 a1 r h g1000 g1001 eR gX lX
 obtain rfl:=lX.len
 refine ep Tryz.func210 ?_
 refine .d (.d (bk h λagX alq h=>(bK (aX alq) [0] ?_)))
 refine .d (.d ?_)
 obtain ⟨⟨agY,Gz⟩,alr,h⟩:=bd h
 refine bK (aQ alr) [0] ?_
 refine sV h (λals h=>?_) (λals h=>?_)
 refine .d ?_
 obtain rfl:=si h
 exact en [0,1,1] ⟨gX,lX.self,rfl,rfl⟩ (.oe) SM
 obtain ⟨QR,h,aaA⟩:=bd h
 refine .cut (λσ η=>∃K6,∃K7,∃K8,∃K9,∃A4,∃QZ:Nat->List PV,DR ae.D A4.length QZ A4/\.inl (K6,K7,K8,K9,A4)=QR/\σ=[(1,.own 2 0 0 A4.length)]/\η=[.row g1000 4 1 62 (λ_=>[sl 4 ah.cells K6,pI K7,pI K8,pI K9]),.dead,.row 0 4 A4.length 29 QZ]) ?_ ?_
 have alu:=alp _ _ _ _ _ _ h
 refine le (jE.rec (motive:=λeG oU oV nq kS ag3 _=>∀Lc:Nat->List PV,DR ae.D kS.length Lc kS->QR=ag3->aK _ _ [(0,.aA 0 g1000 0 0),(1,.own 2 0 0 kS.length)] [.row g1000 4 1 62 (λ_=>[sl 4 ah.cells eG,pI oU,pI oV,pI nq]),.dead,.row 0 4 kS.length 29 Lc]) ?_ alu gX lX rfl) (tk [0,1,1] H2 KZ)
 intro _ alv _ _ eG oU oV nq kS ag3 h alw Lc A5  alx
 subst alx
 refine aK.round (.d (.d ⟨rfl,rfl,rfl,_,rfl,(sD h (λaly h=>?_) (λaly h=>?_))⟩))
 refine .d ?_
 obtain ⟨⟨qk,QS⟩,alz,h⟩:=bd h
 refine bp (alv _ _ alz _) [0] λaIL Q0=>?_
 refine ⟨_,bT,(bk h λDg xQ h=>(.dO ⟨rfl,rfl,(λ_ _=>rfl),DR.rO A5 xQ,Dg.length,da Lc kS.length [pI qk.ai,pI qk.aE,.str qk.aq,.own 3 0 0 qk.af.length],DR.ln A5 xQ,cc (DR.ln A5 xQ) ⟨.same _,.same _,.same _,.same _,trivial⟩,(.d ?_)⟩))⟩
 obtain ⟨⟨QT,uB⟩,alA,h⟩:=bd h
 refine bK (aQ alA) [0] ?_
 refine fP h (λalB h=>?_) (λalB h=>?_)
 refine .d (bk h λQU alC h=>(bK (aX alC) [0] ?_))
 refine .d ?_
 obtain rfl:=si h
 replace h:=aaA
 obtain rfl:=si h
 refine .ab 2 kS.length 3 3 _ (λ_=>pf (DR.lq A5 xQ) (Q0).po) λaze=>?_
 have azf:=DR.gu A5 xQ (ae.bh (x:=qk) (F0:=aze) Q0)
 exact en [0,1,2] (rs azf) (.oe) SM
 refine .ab 2 kS.length 3 3 _ (λ_=>pf (DR.lq A5 xQ) (Q0).po) λazg=>?_
 have azh:=DR.gu A5 xQ (ae.bh (x:=qk) (F0:=azg) Q0)
 exact lg (alw _ _ _ _ _ _ h _ azh rfl) (tk [0,1,2] H2 KZ)
 exact ct ⟨_,_,_,_,_,Lc,A5,si h,rfl,rfl⟩ (tk [0,1,2] ⟨.oe,⟨⟩⟩ KZ)
 rintro _ _ ⟨K6,K7,K8,K9,A4,QZ,azi,rfl,rfl,rfl⟩
 replace h:=aaA
 refine .d ?_
 obtain rfl:=si h
 exact en [0,1,2] ⟨QZ,azi.self,rfl,rfl⟩ (.oe) SM
 intro F0 F1 n8 n9 eG oU oV nq kS o h
 exact .mk F0 n8 F1 n9 eG oU oV nq kS o h
 intro _ _ _ _ alD pJ Ig mv a0 r h g1000
 refine ep Tryz.func209 ?_
 refine .d (.d (.d ⟨rfl,rfl,rfl,_,rfl,rfl,rfl,rfl,_,rfl,(sD h (λaib h=>?_) (λaib h=>?_))⟩))
 refine .d ?_
 obtain ⟨⟨Oq,P6⟩,UU,h⟩:=bd h
 refine bp (eQ (g1000:=g1000) UU) [0] λf98 d99=>?_
 refine ⟨rfl,_,_,rfl,aj,?_⟩
 obtain rfl:=si h
 exact ⟨rfl,_,rfl,(en [0,2] ⟨f98,d99.self,rfl,rfl⟩ eo lO)⟩
 refine .d (.float [(0,true),(1,true),(2,true),(3,true),(4,true),(5,true),(6,true),(7,true),(8,true),(9,true),(10,false),(11,false)] aNh ?_)
 refine ⟨rfl,rfl,rfl,_,rfl,rfl,rfl,rfl,_,rfl,(bk h λCY A6 h=>⟨bf A6,_,(aU A6).trans (ah.aO CY),rfl,rfl,rfl,rfl,rfl,rfl,rfl,_,_,rfl,aj,?_⟩)⟩
 refine .d (.d ⟨rfl,rfl,_,rfl,(sE h (λJp h=>?_) (λJp h=>?_))⟩)
 refine .d ⟨rfl,rfl,rfl,_,rfl,rfl,rfl,rfl,_,_,rfl,aj,(.d ⟨rfl,rfl,_,rfl,rfl,_,_,rfl,aj,?_⟩)⟩
 exact aMq
 refine .d ⟨rfl,rfl,_,rfl,(sE h (λJq h=>?_) (λJq h=>?_))⟩
 refine .d ⟨rfl,rfl,rfl,_,rfl,rfl,rfl,rfl,_,_,rfl,aj,(.d ⟨rfl,rfl,_,rfl,(p9 (bA _ _ _ _ rfl) ⟨rfl,_,_,rfl,aj,?_⟩)⟩)⟩
 exact aMq
 refine .d ⟨rfl,rfl,_,rfl,(sE h (λJr h=>?_) (λJr h=>?_))⟩
 refine .d ?_
 obtain ⟨⟨v105,J4⟩,KM,h⟩:=bd h
 refine bp (mC (g1000:=g1000) KM) [0] λf108 d109=>?_
 refine ⟨rfl,_,_,rfl,aj,?_⟩
 obtain rfl:=si h
 exact ⟨rfl,_,rfl,(en [0,3] ⟨f108,d109.self,rfl,rfl⟩ eo lO)⟩
 refine .d ?_
 obtain ⟨⟨W6,EV⟩,YG,h⟩:=bd h
 refine bK (aQ YG) [0] ?_
 refine sV h (λYH h=>?_) (λYH h=>?_)
 refine .d ⟨rfl,_,_,rfl,aj,?_⟩
 exact aMq
 refine .d ?_
 obtain ⟨⟨J5,Bj⟩,Ck,h⟩:=bd h
 refine bK (aQ Ck) [0] ?_
 refine sV h (λazj h=>?_) (λazj h=>?_)
 refine .d ⟨rfl,_,_,rfl,aj,?_⟩
 exact aMq
 refine .d ?_
 obtain ⟨⟨SO,Se⟩,azk,h⟩:=bd h
 refine bK (aQ azk) [0] ?_
 refine sV h (λazl h=>?_) (λazl h=>?_)
 refine .d ⟨rfl,_,_,rfl,aj,?_⟩
 exact aMq
 refine .d ?_
 obtain ⟨⟨Uo,Ny⟩,azm,h⟩:=bd h
 refine bK (aQ azm) [0] ?_
 refine sV h (λUY h=>?_) (λUY h=>?_)
 refine .d ?_
 obtain ⟨⟨Jm,v127⟩,aaB,h⟩:=bd h
 refine bp (alD _ _ aaB _) [0] λf129 d130=>?_
 refine ⟨rfl,_,_,rfl,aj,?_⟩
 obtain rfl:=si h
 exact ⟨rfl,_,rfl,(en [0,3] ⟨f129,d130.self,rfl,rfl⟩ eo lO)⟩
 refine .d ?_
 obtain ⟨⟨v131,akP⟩,azn,h⟩:=bd h
 refine bK (aQ azn) [0] ?_
 refine sV h (λU3 h=>?_) (λU3 h=>?_)
 refine .d ?_
 obtain ⟨⟨Uq,W7⟩,azo,h⟩:=bd h
 refine bp (pJ _ _ azo _) [0] λf138 d139=>?_
 refine ⟨rfl,_,_,rfl,aj,(.d (bk h λW8 azp h=>(bK (aX azp) [0] ?_)))⟩
 refine .d ⟨rfl,_,rfl,rfl,_,_,rfl,aj,?_⟩
 obtain rfl:=si h
 exact ⟨rfl,_,rfl,(en [0,3] ⟨f138,d139.self,rfl,rfl⟩ eo lO)⟩
 refine .d ?_
 obtain ⟨⟨awG,v143⟩,U4,h⟩:=bd h
 refine bK (aQ U4) [0] ?_
 refine sV h (λU5 h=>?_) (λU5 h=>?_)
 refine .d (.d (.d ?_))
 obtain ⟨⟨v146,MW⟩,U7,h⟩:=bd h
 refine bK (aQ U7) [0] ?_
 refine fP h (λU8 h=>?_) (λU8 h=>?_)
 obtain ⟨⟨Ur,Sf⟩,azq,h⟩:=bd h
 refine bK (dL azq) [0] ?_
 refine .d (pcN 1 (a1:=[.aA 0 g1000 0 0,.own 3 0 0 0]) (h2:=[.row g1000 4 1 62 (λ_=>Sf.lit),.row 0 4 1 29 (λ_=>[pI 0,pI 0,.str [],.ck]),.row 0 4 1 101 (λ_=>CY.lit),.row 0 4 0 29 (λ_=>[])]) ?_)
 obtain ⟨⟨awH,v154⟩,azr,h⟩:=bd h
 refine QY (Ig _ _ _ azr _ _ _ _ (DR.nil (D:=ae.D))) [0,3] ⟨rfl,(OQ (DR.nil (D:=ae.D))),⟨⟩⟩ λf156 d157=>?_
 refine p9 (bA _ _ _ _ rfl) ⟨rfl,_,_,rfl,aj,?_⟩
 obtain rfl:=si h
 exact ⟨rfl,_,rfl,(en [0,4] ⟨f156,d157.self,rfl,rfl⟩ eo lO)⟩
 refine .d (pcN 1 (a1:=[.aA 0 g1000 0 0,.own 3 0 0 0]) (h2:=[.row g1000 4 1 62 (λ_=>MW.lit),.row 0 4 1 29 (λ_=>[pI 0,pI 0,.str [],.ck]),.row 0 4 1 101 (λ_=>CY.lit),.row 0 4 0 29 (λ_=>[])]) ?_)
 obtain ⟨⟨Sg,v159⟩,Wk,h⟩:=bd h
 refine QY (Ig _ _ _ Wk _ _ _ _ (DR.nil (D:=ae.D))) [0,3] ⟨rfl,(OQ (DR.nil (D:=ae.D))),⟨⟩⟩ λf161 d162=>?_
 refine p9 (bA _ _ _ _ rfl) ⟨rfl,_,_,rfl,aj,?_⟩
 obtain rfl:=si h
 exact ⟨rfl,_,rfl,(en [0,4] ⟨f161,d162.self,rfl,rfl⟩ eo lO)⟩
 refine .d ?_
 obtain ⟨⟨awI,v164⟩,azs,h⟩:=bd h
 refine bK (aQ azs) [0] ?_
 refine sV h (λazt h=>?_) (λazt h=>?_)
 refine .d (pcN 2 (a1:=[.aA 0 g1000 0 0,pI 24,.own 3 0 0 0]) (h2:=[.row g1000 4 1 62 (λ_=>v164.lit),.row 0 4 1 29 (λ_=>[pI 0,pI 0,.str [],.ck]),.row 0 4 1 101 (λ_=>CY.lit),.row 0 4 0 29 (λ_=>[])]) ?_)
 obtain ⟨⟨v167,v168⟩,Wl,h⟩:=bd h
 refine QY (nf (g1000:=g1000) (g1001:=0) Wl (DR.nil (D:=ae.D))) [0,3] ⟨rfl,(OQ (DR.nil (D:=ae.D))),⟨⟩⟩ λf170 d171=>?_
 refine .d (.d ?_)
 obtain ⟨⟨awJ,v173⟩,azu,h⟩:=bd h
 refine bK (aQ azu) [0] ?_
 refine sV h (λazv h=>?_) (λazv h=>?_)
 obtain ⟨⟨adZ,JI⟩,JP,h⟩:=bd h
 refine QY (nf (g1000:=g1000) (g1001:=0) JP d171) [0,4] ⟨rfl,(OQ d171),⟨⟩⟩ λf179 d180=>?_
 refine .d ?_
 obtain ⟨⟨Ot,v182⟩,azw,h⟩:=bd h
 refine bp (mv _ _ azw _) [0] λf184 d185=>?_
 refine ⟨_,bT,(bk h λakQ Ld h=>(.dO ⟨rfl,rfl,(λ_ _=>rfl),DR.rO d180 Ld,akQ.length,da f179 adZ.length [pI Ot.ai,pI Ot.aE,.str Ot.aq,.own 6 0 0 Ot.af.length],DR.ln d180 Ld,cc (DR.ln d180 Ld) ⟨.same _,.same _,.same _,.same _,trivial⟩,(.d (p9 (bA _ _ _ _ rfl) ⟨rfl,_,_,rfl,aj,?_⟩))⟩))⟩
 obtain rfl:=si h
 refine ⟨rfl,_,rfl,(.ab 5 adZ.length 3 6 _ (λ_=>pf (DR.lq d180 Ld) (d185).po) λaGk=>?_)⟩
 have d189:=DR.gu d180 Ld (ae.bh (x:=Ot) (F0:=aGk) d185)
 exact en [0,5] (rs d189) eo lO
 refine .d ?_
 obtain ⟨⟨EW,awK⟩,azx,h⟩:=bd h
 refine bp (mv _ _ azx _) [0] λf193 d194=>?_
 refine ⟨_,bT,(bk h λakR AM h=>(.dO ⟨rfl,rfl,(λ_ _=>rfl),DR.rO d171 AM,akR.length,da f170 v167.length [pI EW.ai,pI EW.aE,.str EW.aq,.own 5 0 0 EW.af.length],DR.ln d171 AM,cc (DR.ln d171 AM) ⟨.same _,.same _,.same _,.same _,trivial⟩,(.d (p9 (bA _ _ _ _ rfl) ⟨rfl,_,_,rfl,aj,?_⟩))⟩))⟩
 obtain rfl:=si h
 refine ⟨rfl,_,rfl,(.ab 4 v167.length 3 5 _ (λ_=>pf (DR.lq d171 AM) (d194).po) λaGl=>?_)⟩
 have d198:=DR.gu d171 AM (ae.bh (x:=EW) (F0:=aGl) d194)
 exact en [0,4] (rs d198) eo lO
 refine .d ?_
 obtain ⟨akT,h,ag4⟩:=bd h
 refine .cut (λσ η=>∃Zz,∃ZA,∃ZB,∃ZC,∃ZD,.inl (Zz,ZA,ZB,ZC,ZD)=akT/\σ=[(0,.aA 0 g1000 0 0),(2,.aA 1 0 0 0),(7,.str ZD)]/\η=[.row g1000 4 1 62 (λ_=>[sl 4 ah.cells Zz,pI ZA,pI ZB,pI ZC]),.row 0 4 1 29 (λ_=>[pI 0,pI 0,.str [],.own 2 0 0 0]),.row 0 4 0 29 (λ_=>[])]) ?_ ?_
 refine .d ?_
 obtain ⟨⟨awL,v208⟩,azy,h⟩:=bd h
 refine bK (aQ azy) [0] ?_
 refine fP h (λazz h=>?_) (λazz h=>?_)
 refine .d ?_
 obtain ⟨⟨akS,v212⟩,azA,h⟩:=bd h
 refine bK (dL azA) [0] ?_
 refine .d ?_
 obtain ⟨⟨JJ,tJ⟩,YK,h⟩:=bd h
 refine bK (cO YK) [0] ?_
 refine sV h (λCc h=>?_) (λCc h=>?_)
 refine .d (pcN 1 (a1:=[.aA 0 g1000 0 0,.own 3 0 0 0]) (h2:=[.row g1000 4 1 62 (λ_=>tJ.lit),.row 0 4 1 29 (λ_=>[pI 0,pI 0,.str [],.ck]),.row 0 4 1 101 (λ_=>CY.lit),.row 0 4 0 29 (λ_=>[])]) ?_)
 obtain ⟨⟨v218,W9⟩,YL,h⟩:=bd h
 refine QY (Ig _ _ _ YL _ _ _ _ (DR.nil (D:=ae.D))) [0,3] ⟨rfl,(OQ (DR.nil (D:=ae.D))),⟨⟩⟩ λf221 d222=>?_
 refine p9 (bA _ _ _ _ rfl) ⟨rfl,_,_,rfl,aj,?_⟩
 obtain rfl:=si h
 replace h:=ag4
 obtain rfl:=si h
 exact ⟨rfl,_,rfl,(en [0,4] ⟨f221,d222.self,rfl,rfl⟩ eo lO)⟩
 exact ct ⟨_,_,_,_,_,si h,rfl,rfl⟩ (tk [0,1,5] ⟨.p,.p,.s,⟨⟩⟩ E8)
 exact ct ⟨_,_,_,_,_,si h,rfl,rfl⟩ (tk [0,1,5] ⟨.p,.p,.s,⟨⟩⟩ E8)
 rintro _ _ ⟨Zz,ZA,ZB,ZC,ZD,rfl,rfl,rfl⟩
 replace h:=ag4
 refine .d (bk h λawM azB h=>(bK (aX azB) [0] ?_))
 refine .d (bk h λakU ag5 h=>⟨pR ag5,akU,pT ag5,?_⟩)
 obtain ⟨⟨v227,v228⟩,azC,h⟩:=bd h
 refine bK (dL azC) [0] ?_
 refine bk h λakV ag6 h=>⟨pR ag6,akV,pT ag6,(.d (pcN 1 (a1:=[.aA 0 g1000 0 0,.own 3 0 0 0]) (h2:=[.row g1000 4 1 62 (λ_=>v228.lit),.row 0 4 1 29 (λ_=>[pI 0,pI 0,.str [],.own 2 0 0 0]),.row 0 4 0 29 (λ_=>[]),.row 0 4 0 29 (λ_=>[])]) ?_))⟩
 obtain ⟨⟨v232,v233⟩,azD,h⟩:=bd h
 refine QY (Ig _ _ _ azD _ _ _ _ (DR.nil (D:=ae.D))) [0,3] ⟨rfl,(OQ (DR.nil (D:=ae.D))),⟨⟩⟩ λf235 d236=>?_
 refine p9 (bA _ _ _ _ rfl) ⟨rfl,_,_,rfl,aj,?_⟩
 obtain rfl:=si h
 exact ⟨rfl,_,rfl,(en [0,4] ⟨f235,d236.self,rfl,rfl⟩ eo lO)⟩
 intro _ azE a0 r h g1000
 refine ep Tryz.func118 ?_
 refine .d (.d (p9 (bA _ _ _ _ rfl) ⟨rfl,_,_,rfl,aj,(.d (bk h λZO azF h=>(bK (aX azF) [0] ?_)))⟩))
 obtain ⟨azG,h,azH⟩:=bd h
 refine .cut (λσ η=>∃ZP,∃Cw,∃ZQ,∃ZR,∃Ow,∃K3,∃alE:Nat->List PV,∃aex:Nat->List PV,DR ae.D Ow.length alE Ow/\DR ae.D K3.length aex K3/\(ZP,Cw,ZQ,ZR,Ow,K3)=azG/\σ=[(2,.aA 1 0 0 0),(3,.aA 3 0 0 0)]/\η=[.row g1000 4 1 62 (λ_=>[sl 4 ah.cells ZP,pI Cw,pI ZQ,pI ZR]),.row 0 4 1 29 (λ_=>[pI 0,pI 0,.str [],.own 2 0 0 Ow.length]),.row 0 4 Ow.length 29 alE,.row 0 4 1 29 (λ_=>[pI 48,pI 0,.str [],.own 4 0 0 K3.length]),.row 0 4 K3.length 29 aex]) ?_ ?_
 have azI:=azE _ _ _ _ _ _ _ h
 refine le (jg.rec (motive:=λvB vC vD kO pU oT azJ _=>∀OS:Nat->List PV,∀OT:Nat->List PV,DR ae.D pU.length OS pU->DR ae.D oT.length OT oT->azG=azJ->aK _ _ [(0,.aA 0 g1000 0 0),(2,.aA 1 0 0 0),(3,.aA 3 0 0 0)] [.row g1000 4 1 62 (λ_=>[sl 4 ah.cells vB,pI vC,pI vD,pI kO]),.row 0 4 1 29 (λ_=>[pI 0,pI 0,.str [],.own 2 0 0 pU.length]),.row 0 4 pU.length 29 OS,.row 0 4 1 29 (λ_=>[pI 48,pI 0,.str [],.own 4 0 0 oT.length]),.row 0 4 oT.length 29 OT]) ?_ azI (λ_=>[]) (λ_=>[]) ((DR.nil (D:=ae.D)).self) ((DR.nil (D:=ae.D)).self) rfl) (tk [0,1,5,2,7] gP T5)
 intro _ azK _ _ vB vC vD kO pU oT azJ h ag7 OS OT aey Le  azL
 subst azL
 refine aK.round (.d (.d ⟨rfl,rfl,rfl,_,rfl,(sD h (λazM h=>?_) (λazM h=>?_))⟩))
 refine .t ?_
 obtain ⟨⟨aer,BD⟩,azN,h⟩:=bd h
 refine bK (aQ azN) [0] ?_
 refine .t (.t (fP h (λazO h=>?_) (λazO h=>?_)))
 refine .d ?_
 obtain ⟨⟨aes,BE⟩,azP,h⟩:=bd h
 refine bK (aQ azP) [0] ?_
 refine fP h (λazQ h=>?_) (λazQ h=>?_)
 refine .float [(0,true),(1,true),(2,true),(3,false),(4,false),(5,false),(6,true),(7,false)] aNh ?_
 refine ⟨rfl,rfl,_,rfl,?_⟩
 obtain ⟨⟨qW,Fu⟩,azR,h⟩:=bd h
 refine bp (azK _ _ azR _) [0] λaJE azS=>?_
 refine ⟨rfl,rfl,_,bT,rfl,rfl,(bk h λaai Lf h=>(.dO ⟨rfl,rfl,(λ_ _=>rfl),DR.rO Le Lf,aai.length,da OT oT.length [pI qW.ai,pI qW.aE,.str qW.aq,.own 5 0 0 qW.af.length],DR.ln Le Lf,cc (DR.ln Le Lf) ⟨.same _,.same _,.same _,.same _,trivial⟩,rfl,rfl,_,_,rfl,aj,(.ab 4 oT.length 3 5 _ (λ_=>pf (DR.lq Le Lf) (azS).po) λaGm=>?_)⟩))⟩
 have aGn:=DR.gu Le Lf (ae.bh (x:=qW) (F0:=aGm) azS)
 exact lg (ag7 _ _ _ _ _ _ _ h OS _ aey aGn rfl) (tk [0,1,2,3,4] gP nQ)
 exact lg (ag7 _ _ _ _ _ _ _ h OS OT aey Le rfl) (tk [0,1,2,3,4] gP nQ)
 exact ct ⟨_,_,_,_,_,_,OS,OT,aey,Le,si h,rfl,rfl⟩ (tk [0,1,2,3,4] uO nQ)
 exact .f (.f (.f (.f (ct ⟨_,_,_,_,_,_,OS,OT,aey,Le,si h,rfl,rfl⟩ (tk [0,1,2,3,4] uO nQ)))))
 rintro _ _ ⟨ZP,Cw,ZQ,ZR,Ow,K3,alE,aex,aJF,aGo,rfl,rfl,rfl⟩
 replace h:=azH
 refine .d ⟨rfl,_,rfl,rfl,_,_,rfl,aj,?_⟩
 obtain rfl:=si h
 exact ⟨rfl,_,rfl,(en [0,4] ⟨aex,aGo.self,rfl,rfl⟩ eo lO)⟩
 intro F0 F1 n8 n9 vB vC vD kO pU oT o h
 exact .mk F1 n9 F0 n8 vB vC vD kO pU oT o h
 intro _ _ _ _ _ _ _ pJ OO mv alF alG OU OV a0 r h g1000
 refine ep Tryz.func120 ?_
 refine .d (.d ⟨rfl,_,_,rfl,aj,(.d (.d ?_))⟩)
 obtain ⟨⟨NU,K4⟩,azT,h⟩:=bd h
 refine bK (cO azT) [0] ?_
 refine sV h (λazU h=>?_) (λazU h=>?_)
 refine .d ⟨rfl,rfl,rfl,_,rfl,rfl,rfl,rfl,_,_,rfl,aj,(.d (.float [(0,true),(1,true),(2,true),(3,true),(4,true),(5,true),(6,true),(7,true),(8,true),(9,true),(10,true),(11,true),(12,false),(13,false)] aNh ?_))⟩
 refine ⟨rfl,rfl,rfl,_,rfl,rfl,rfl,rfl,_,rfl,(bk h λak6 ag8 h=>⟨bf ag8,_,(aU ag8).trans (ah.aO ak6),(p9 (bA _ _ _ _ rfl) ⟨rfl,_,_,rfl,aj,?_⟩)⟩)⟩
 exact aMq
 refine .d ?_
 obtain ⟨⟨axr,KF⟩,azV,h⟩:=bd h
 refine bK (cO azV) [0] ?_
 refine sV h (λazW h=>?_) (λazW h=>?_)
 refine .d ?_
 obtain ⟨⟨axs,KG⟩,azX,h⟩:=bd h
 refine bp (mv _ _ azX _) [0] λaGp aGq=>?_
 refine ⟨rfl,_,_,rfl,aj,?_⟩
 obtain rfl:=si h
 exact ⟨rfl,_,rfl,(en [0,3] ⟨aGp,aGq.self,rfl,rfl⟩ eo lO)⟩
 refine .d ?_
 obtain ⟨⟨axt,yT⟩,YR,h⟩:=bd h
 refine bK (aQ YR) [0] ?_
 refine sV h (λazY h=>?_) (λazY h=>?_)
 refine .d ?_
 obtain ⟨⟨axu,axv⟩,azZ,h⟩:=bd h
 refine bp (OV _ _ azZ _) [0] λaGr aGs=>?_
 refine ⟨rfl,_,_,rfl,aj,?_⟩
 obtain rfl:=si h
 exact ⟨rfl,_,rfl,(en [0,3] ⟨aGr,aGs.self,rfl,rfl⟩ eo lO)⟩
 refine .d ?_
 obtain ⟨⟨axw,E6⟩,az0,h⟩:=bd h
 refine bK (aQ az0) [0] ?_
 refine sV h (λaz1 h=>?_) (λaz1 h=>?_)
 refine .d ?_
 obtain ⟨⟨KH,xK⟩,YS,h⟩:=bd h
 refine bp (OU _ _ YS _) [0] λaJG az2=>?_
 refine ⟨rfl,_,_,rfl,aj,(.d (.float [(0,true),(1,true),(2,false),(3,false),(4,false),(5,false)] aNh ?_))⟩
 refine ⟨rfl,_,rfl,?_⟩
 obtain ⟨⟨xL,axx⟩,az3,h⟩:=bd h
 refine bp (mv _ _ az3 _) [0] λaJH az4=>?_
 refine ⟨rfl,_,cm,(p9 (bA _ _ _ _ rfl) ⟨rfl,_,_,rfl,aj,?_⟩)⟩
 obtain rfl:=si h
 refine ⟨rfl,_,rfl,(.ab 6 0 3 3 _ (λ_=>gN (az2).po) λaGt=>(.ab 6 1 3 5 _ (λ_=>gN (az4).po) λYV=>?_))⟩
 have YW:=(DR.bS (ae.bh (x:=KH) (F0:=aGt) az2) (DR.bS (ae.bh (x:=xL) (F0:=YV) az4) DR.cZ))
 exact en [0,6] (rs YW) eo lO
 refine .d ?_
 obtain ⟨⟨axy,ak7⟩,az5,h⟩:=bd h
 refine bK (aQ az5) [0] ?_
 refine sV h (λaz6 h=>?_) (λaz6 h=>?_)
 refine .d ?_
 obtain ⟨⟨axz,axA⟩,az7,h⟩:=bd h
 refine bp (alG _ _ az7 _) [0] λaGu aGv=>?_
 refine ⟨rfl,_,_,rfl,aj,?_⟩
 obtain rfl:=si h
 exact ⟨rfl,_,rfl,(en [0,3] ⟨aGu,aGv.self,rfl,rfl⟩ eo lO)⟩
 refine .d ?_
 obtain ⟨⟨axB,ak8⟩,az8,h⟩:=bd h
 refine bK (aQ az8) [0] ?_
 refine sV h (λaz9 h=>?_) (λaz9 h=>?_)
 refine .d ?_
 obtain ⟨⟨axC,axD⟩,aAa,h⟩:=bd h
 refine bp (alF _ _ aAa _) [0] λaGw aGx=>?_
 refine ⟨rfl,_,_,rfl,aj,?_⟩
 obtain rfl:=si h
 exact ⟨rfl,_,rfl,(en [0,3] ⟨aGw,aGx.self,rfl,rfl⟩ eo lO)⟩
 refine .d ?_
 obtain ⟨⟨axE,ak9⟩,aAb,h⟩:=bd h
 refine bK (aQ aAb) [0] ?_
 refine sV h (λaAc h=>?_) (λaAc h=>?_)
 obtain ⟨⟨ala,axF⟩,aAd,h⟩:=bd h
 refine bp (pJ _ _ aAd _) [0] λaJI aAe=>?_
 refine ⟨_,cm,(p9 (bA _ _ _ _ rfl) ⟨rfl,_,_,rfl,aj,(.d (bk h λaxG aAf h=>(bK (aX aAf) [0] ?_)))⟩)⟩
 refine .d ⟨rfl,_,rfl,rfl,_,_,rfl,aj,?_⟩
 obtain rfl:=si h
 refine ⟨rfl,_,rfl,(.ab 4 0 3 3 _ (λ_=>gN (aAe).po) λaGy=>?_)⟩
 have aGz:=(DR.bS (ae.bh (x:=ala) (F0:=aGy) aAe) DR.cZ)
 exact en [0,4] (rs aGz) eo lO
 refine .d ?_
 obtain ⟨⟨axH,alb⟩,aAg,h⟩:=bd h
 refine bK (aQ aAg) [0] ?_
 refine sV h (λaAh h=>?_) (λaAh h=>?_)
 refine ⟨rfl,rfl,_,_,rfl,aj,(.d (bk h λxA Y7 h=>(bK (aX Y7) [0] ?_)))⟩
 refine .d ⟨rfl,_,rfl,rfl,_,_,rfl,aj,?_⟩
 exact aMq
 refine .d ?_
 obtain ⟨⟨axI,Kf⟩,aAi,h⟩:=bd h
 refine bK (aQ aAi) [0] ?_
 refine sV h (λaAj h=>?_) (λaAj h=>?_)
 refine ⟨rfl,rfl,_,_,rfl,aj,(.d (bk h λaxJ aAk h=>(bK (aX aAk) [0] ?_)))⟩
 refine .d ⟨rfl,_,rfl,rfl,_,_,rfl,aj,?_⟩
 exact aMq
 refine .d ?_
 obtain ⟨⟨zW,alc⟩,aAl,h⟩:=bd h
 refine bK (aQ aAl) [0] ?_
 refine sV h (λaAm h=>?_) (λaAm h=>?_)
 refine .d ⟨rfl,rfl,_,_,rfl,aj,(.d ?_)⟩
 obtain ⟨⟨X5,ald⟩,aAn,h⟩:=bd h
 refine bK (cO aAn) [0] ?_
 refine fP h (λaAo h=>?_) (λaAo h=>?_)
 obtain ⟨⟨ale,X6⟩,aAp,h⟩:=bd h
 refine bp (pJ _ _ aAp _) [0] λaJJ aAq=>?_
 refine ⟨_,cm,rfl,rfl,_,_,rfl,aj,(.d (bk h λaxL aAr h=>(bK (aX aAr) [0] ?_)))⟩
 refine .d ⟨rfl,_,rfl,rfl,_,_,rfl,aj,?_⟩
 obtain rfl:=si h
 refine ⟨rfl,_,rfl,(.ab 4 0 3 3 _ (λ_=>gN (aAq).po) λaGA=>?_)⟩
 have aGB:=(DR.bS (ae.bh (x:=ale) (F0:=aGA) aAq) DR.cZ)
 exact en [0,4] (rs aGB) eo lO
 refine .d (bk h λaxK aAs h=>(bK (aX aAs) [0] ?_))
 refine .d ⟨rfl,_,rfl,rfl,_,_,rfl,aj,?_⟩
 exact aMq
 refine .d ?_
 obtain ⟨⟨X7,alf⟩,aAt,h⟩:=bd h
 refine bK (aQ aAt) [0] ?_
 refine sV h (λaAu h=>?_) (λaAu h=>?_)
 obtain ⟨⟨X8,Sr⟩,Y8,h⟩:=bd h
 refine bK (dL Y8) [0] ?_
 refine p9 (bA _ _ _ _ rfl) ⟨rfl,_,_,rfl,aj,(.d (bk h λaxM aAv h=>(bK (aX aAv) [0] ?_)))⟩
 refine .d ⟨rfl,_,rfl,rfl,_,_,rfl,aj,?_⟩
 exact aMq
 refine .d ?_
 obtain ⟨⟨X9,Z5⟩,alH,h⟩:=bd h
 refine bK (aQ alH) [0] ?_
 refine sV h (λalI h=>?_) (λalI h=>?_)
 refine .d (bk h λKg N9 h=>(bK (aX N9) [0] ?_))
 refine .d ?_
 obtain ⟨⟨Cz,CA⟩,Oa,h⟩:=bd h
 refine bp (OO _ _ _ Oa _) [0] λaIM aaC=>?_
 refine ⟨rfl,_,_,rfl,aj,(.d (.d ⟨rfl,_,rfl,(bk h λKh Ob h=>(T6 (kD Ob) ⟨.kR ⟨.i,.i,.s,(.rd aaC),⟨⟩⟩,⟨⟩⟩ (fP h (λalJ h=>?_) (λalJ h=>?_))))⟩))⟩
 refine .d ?_
 obtain ⟨⟨Ki,agO⟩,alK,h⟩:=bd h
 refine bp (eQ (g1000:=g1000) alK) [0] λaAw aAx=>?_
 refine ⟨rfl,_,_,rfl,aj,?_⟩
 obtain rfl:=si h
 exact ⟨rfl,_,rfl,(en [0,5] ⟨aAw,aAx.self,rfl,rfl⟩ eo lO)⟩
 refine .d (bk h λGb Oc h=>(bK (aX Oc) [0] ?_))
 refine ⟨rfl,_,rfl,_,cm,(p9 (bA _ _ _ _ rfl) ⟨rfl,_,_,rfl,aj,(.d (bk h λagN alL h=>(bK (aX alL) [0] ?_)))⟩)⟩
 refine .d ⟨rfl,_,rfl,rfl,_,_,rfl,aj,?_⟩
 obtain rfl:=si h
 refine ⟨rfl,_,rfl,(.ab 5 0 3 3 _ (λ_=>gN (aaC).po) λaAy=>?_)⟩
 have aAz:=(DR.bS (ae.bh (x:=Cz) (F0:=aAy) aaC) DR.cZ)
 exact en [0,5] (rs aAz) eo lO
 refine .d ?_
 obtain ⟨⟨agP,Z6⟩,alM,h⟩:=bd h
 refine bK (aQ alM) [0] ?_
 refine sV h (λalN h=>?_) (λalN h=>?_)
 obtain ⟨⟨Z7,agQ⟩,alO,h⟩:=bd h
 refine bp (pJ _ _ alO _) [0] λaIN ag9=>?_
 refine ⟨_,cm,(p9 (bA _ _ _ _ rfl) ⟨rfl,_,_,rfl,aj,(.d (bk h λagR alP h=>(bK (aX alP) [0] ?_)))⟩)⟩
 refine .d ⟨rfl,_,rfl,rfl,_,_,rfl,aj,?_⟩
 obtain rfl:=si h
 refine ⟨rfl,_,rfl,(.ab 4 0 3 3 _ (λ_=>gN (ag9).po) λaAA=>?_)⟩
 have aAB:=(DR.bS (ae.bh (x:=Z7) (F0:=aAA) ag9) DR.cZ)
 exact en [0,4] (rs aAB) eo lO
 refine .d ?_
 obtain ⟨⟨agS,Gc⟩,alQ,h⟩:=bd h
 refine bK (aQ alQ) [0] ?_
 refine sV h (λalR h=>?_) (λalR h=>?_)
 obtain ⟨⟨Z8,Kj⟩,alS,h⟩:=bd h
 refine bp (pJ _ _ alS _) [0] λaIO aha=>?_
 refine ⟨_,cm,(p9 (bA _ _ _ _ rfl) ⟨rfl,_,_,rfl,aj,(.d (bk h λCB alT h=>(bK (aX alT) [0] ?_)))⟩)⟩
 refine .d ⟨rfl,_,rfl,rfl,_,_,rfl,aj,?_⟩
 obtain rfl:=si h
 refine ⟨rfl,_,rfl,(.ab 4 0 3 3 _ (λ_=>gN (aha).po) λaAC=>?_)⟩
 have aAD:=(DR.bS (ae.bh (x:=Z8) (F0:=aAC) aha) DR.cZ)
 exact en [0,4] (rs aAD) eo lO
 obtain ⟨aAE,h,alU⟩:=bd h
 refine .cut (λσ η=>∃Gv,∃Gw,∃Gx,∃Gy,∃K5,(Gv,Gw,Gx,Gy,K5)=aAE/\σ=[(0,.aA 0 g1000 0 0),(2,.aA 1 0 0 0),(3,.aA 3 0 0 0),(129,.bool K5)]/\η=[.row g1000 4 1 62 (λ_=>[sl 4 ah.cells Gv,pI Gw,pI Gx,pI Gy]),.row 0 4 1 29 (λ_=>[pI 0,pI 0,.str [],.own 2 0 0 0]),.row 0 4 0 29 (λ_=>[]),.row 0 4 1 29 (λ_=>[pI 0,pI 0,.str [],.own 4 0 0 0]),.row 0 4 0 29 (λ_=>[])]) ?_ ?_
 obtain ⟨⟨QP,uA⟩,alV,h⟩:=bd h
 refine bK (cO alV) [0] ?_
 refine sV h (λalW h=>?_) (λalW h=>?_)
 refine .t ?_
 obtain ⟨⟨uv,qj⟩,Oe,h⟩:=bd h
 refine bK (cO Oe) [0] ?_
 refine .t (sV h (λalX h=>?_) (λalX h=>?_))
 refine .t ?_
 obtain ⟨⟨QQ,xe⟩,alY,h⟩:=bd h
 refine bK (cO alY) [0] ?_
 exact .t (ct ⟨_,_,_,_,_,si h,rfl,rfl⟩ (tk [0,1,5,2,7] Fa T5))
 exact .f (.f (ct ⟨_,_,_,_,_,si h,rfl,rfl⟩ (tk [0,1,5,2,7] Fa T5)))
 exact .f (.f (.f (.f (.f (ct ⟨_,_,_,_,_,si h,rfl,rfl⟩ (tk [0,1,5,2,7] Fa T5))))))
 rintro _ _ ⟨Gv,Gw,Gx,Gy,K5,rfl,rfl,rfl⟩
 replace h:=alU
 refine sV h (λalZ h=>?_) (λalZ h=>?_)
 refine .d ?_
 obtain ⟨⟨Z9,uw⟩,al0,h⟩:=bd h
 refine bp (mC (g1000:=g1000) al0) [0] λaIP ahb=>?_
 refine ⟨rfl,_,_,rfl,aj,(.d (.float [(0,true),(1,true),(2,true),(3,true),(4,true),(5,true),(6,true),(7,true),(8,true),(9,true),(10,true),(11,false),(12,true),(13,true),(14,false)] aNh ?_))⟩
 refine ⟨rfl,rfl,rfl,_,rfl,rfl,rfl,rfl,_,rfl,(bk h λagT al1 h=>(b8 (aaD al1) ⟨rfl,rfl,rfl,_,_,rfl,aj,(.float [(0,true),(1,true),(2,false),(3,false),(4,false),(5,false)] aNh ?_)⟩))⟩
 refine ⟨rfl,_,rfl,?_⟩
 obtain ⟨⟨aaa,agU⟩,al2,h⟩:=bd h
 refine bp (pJ _ _ al2 _) [0] λaIQ ahc=>?_
 refine ⟨rfl,_,cm,(p9 (bA _ _ _ _ rfl) ⟨rfl,_,_,rfl,aj,(.d (bk h λKn al3 h=>(bK (aX al3) [0] ?_)))⟩)⟩
 refine .d ⟨rfl,_,rfl,rfl,_,_,rfl,aj,?_⟩
 obtain rfl:=si h
 refine ⟨rfl,_,rfl,(.ab 8 0 3 5 _ (λ_=>gN (ahb).po) λaAF=>(.ab 8 1 3 7 _ (λ_=>gN (ahc).po) λaAG=>?_))⟩
 have aAH:=(DR.bS (ae.bh (x:=Z9) (F0:=aAF) ahb) (DR.bS (ae.bh (x:=aaa) (F0:=aAG) ahc) DR.cZ))
 exact en [0,8] (rs aAH) eo lO
 refine .d ?_
 obtain ⟨⟨Ko,aab⟩,al4,h⟩:=bd h
 refine bK (aQ al4) [0] ?_
 refine sV h (λal5 h=>?_) (λal5 h=>?_)
 refine .d (.d ?_)
 obtain ⟨⟨Kt,A3⟩,al6,h⟩:=bd h
 refine bK (cO al6) [0] ?_
 refine fP h (λal7 h=>?_) (λal7 h=>?_)
 refine .d ?_
 obtain ⟨⟨Ku,Kv⟩,Og,h⟩:=bd h
 refine bp (eQ (g1000:=g1000) Og) [0] λaAI aAJ=>?_
 refine ⟨rfl,_,_,rfl,aj,?_⟩
 obtain rfl:=si h
 exact ⟨rfl,_,rfl,(en [0,5] ⟨aAI,aAJ.self,rfl,rfl⟩ eo lO)⟩
 refine .d ⟨rfl,rfl,rfl,_,rfl,rfl,rfl,rfl,_,_,rfl,aj,(.float [(0,true),(1,true),(2,true),(3,true),(4,true),(5,true),(6,true),(7,true),(8,true),(9,true),(10,true),(11,true),(12,false),(13,false)] aNh ?_)⟩
 refine ⟨rfl,rfl,rfl,_,rfl,rfl,rfl,rfl,_,rfl,(bk h λaac aaE h=>⟨bf aaE,_,(aU aaE).trans (ah.aO aac),(p9 (bA _ _ _ _ rfl) ⟨rfl,_,_,rfl,aj,(.d (bk h λagV al8 h=>(bK (aX al8) [0] ?_)))⟩)⟩)⟩
 refine .d ⟨rfl,_,rfl,rfl,_,_,rfl,aj,?_⟩
 obtain rfl:=si h
 exact ⟨rfl,_,rfl,(en [0,6] ⟨_,(DR.nil (D:=ae.D)),rfl,rfl⟩ xb wX)⟩
 obtain ⟨⟨aad,Kw⟩,al9,h⟩:=bd h
 refine bp (pJ _ _ al9 _) [0] λaIR ahd=>?_
 refine ⟨_,cm,(p9 (bA _ _ _ _ rfl) ⟨rfl,_,_,rfl,aj,(.d (bk h λagW ama h=>(bK (aX ama) [0] ?_)))⟩)⟩
 refine .d ⟨rfl,_,rfl,rfl,_,_,rfl,aj,?_⟩
 obtain rfl:=si h
 refine ⟨rfl,_,rfl,(.ab 6 0 3 5 _ (λ_=>gN (ahd).po) λaAK=>?_)⟩
 have aAL:=(DR.bS (ae.bh (x:=aad) (F0:=aAK) ahd) DR.cZ)
 exact en [0,6] (rs aAL) eo lO
 intro _ mv a0 r h g1000
 refine ep Tryz.func182 ?_
 refine .d (.d ?_)
 obtain ⟨⟨xz,axl⟩,aAM,h⟩:=bd h
 refine bp (mv _ _ aAM _) [0] λaGC aez=>?_
 refine ⟨_,cm,(p9 (bA _ _ _ _ rfl) ⟨rfl,_,_,rfl,aj,?_⟩)⟩
 obtain ⟨aGD,h,aAN⟩:=bd h
 refine .cut (λσ η=>∃Z2,∃Cy,∃Z3,∃Z4,∃z8,∃aaF:Nat->List PV,DR ae.D z8.length aaF z8/\(Z2,Cy,Z3,Z4,z8)=aGD/\σ=[(0,.aA 0 g1000 0 0),(2,.aA 1 0 0 0),(3,.aA 3 0 0 0)]/\η=[.row g1000 4 1 62 (λ_=>[sl 4 ah.cells Z2,pI Cy,pI Z3,pI Z4]),.row 0 4 1 29 (λ_=>[pI 0,pI 0,.str [],.own 2 0 0 0]),.row 0 4 0 29 (λ_=>[]),.row 0 4 1 29 (λ_=>[pI 43,pI 0,.str [],.own 4 0 0 z8.length]),.row 0 4 z8.length 29 aaF]) ?_ ?_
 refine .d ?_
 obtain ⟨⟨ad8,By⟩,aAO,h⟩:=bd h
 refine bK (aQ aAO) [0] ?_
 refine sV h (λaAP h=>?_) (λaAP h=>?_)
 refine .d (bk h λad9 aAQ h=>(bK (aX aAQ) [0] ?_))
 refine .d ?_
 obtain ⟨⟨SW,aea⟩,aAR,h⟩:=bd h
 refine bK (dL aAR) [0] ?_
 refine .d ?_
 obtain ⟨⟨SX,aeb⟩,aAS,h⟩:=bd h
 refine bp (mC (g1000:=g1000) aAS) [0] λaJK aAT=>?_
 refine ⟨rfl,_,_,rfl,aj,(.ab 3 0 3 2 _ (λ_=>gN (aez).po) λaAU=>(.d (bk h λaec aAV h=>(bK (aX aAV) [0] ?_))))⟩
 refine .float [(0,true),(1,true),(2,true),(3,true),(4,true),(5,false),(6,false),(7,false),(8,false),(9,false),(10,true),(11,false)] aNh ?_
 refine ⟨rfl,rfl,_,rfl,rfl,_,rfl,?_⟩
 obtain ⟨⟨SY,Fi⟩,aAW,h⟩:=bd h
 refine bp (mv _ _ aAW _) [0] λaJL aAX=>?_
 refine ⟨rfl,rfl,rfl,_,cm,rfl,rfl,(p9 (bA _ _ _ _ rfl) ⟨rfl,rfl,_,bT,rfl,rfl,?_⟩)⟩
 have aaG:=(DR.bS (ae.bh (x:=xz) (F0:=aAU) aez) DR.cZ)
 refine bk h λZ1 Lg h=>(.dO ⟨rfl,rfl,(λ_ _=>rfl),DR.rO aaG Lg,Z1.length,da (jr [[pI xz.ai,pI xz.aE,.str xz.aq,.dI 4 xz.af.length 29 aGC aAU]]) 1 [pI 44,pI 0,.str SW,.own 8 0 0 2],DR.ln aaG Lg,cc (DR.ln aaG Lg) ⟨.same _,.same _,.same _,.same _,trivial⟩,rfl,rfl,_,_,rfl,aj,(.ab 8 0 3 5 _ (λ_=>gN (aAT).po) λaGE=>(.ab 8 1 3 7 _ (λ_=>gN (aAX).po) λaGF=>?_))⟩)
 have aAY:=(DR.bS (ae.bh (x:=SX) (F0:=aGE) aAT) (DR.bS (ae.bh (x:=SY) (F0:=aGF) aAX) DR.cZ))
 refine .ab 3 1 3 8 _ (λ_=>pf (DR.lq aaG Lg) (aAY).po) λaGG=>?_
 have aGH:=DR.gu aaG Lg (ae.bh (x:=(ae.mk 44 0 SW ([SX,SY]:List ae))) (F0:=aGG) aAY)
 exact ct ⟨_,_,_,_,_,_,aGH,si h,rfl,rfl⟩ (tk [0,1,12,4,3] gP ED)
 refine .ab 3 0 3 2 _ (λ_=>gN (aez).po) λaGI=>?_
 have aGJ:=(DR.bS (ae.bh (x:=xz) (F0:=aGI) aez) DR.cZ)
 exact ct ⟨_,_,_,_,_,_,aGJ.self,si h,rfl,rfl⟩ (tk [0,1,7,4,3] gP ED)
 rintro _ _ ⟨Z2,Cy,Z3,Z4,z8,aaF,Lh,rfl,rfl,rfl⟩
 replace h:=aAN
 refine .d (.d ?_)
 obtain ⟨⟨axm,aed⟩,aAZ,h⟩:=bd h
 refine bK (aQ aAZ) [0] ?_
 refine sV h (λaA0 h=>?_) (λaA0 h=>?_)
 refine .float [(0,true),(1,true),(2,true),(3,false),(4,false),(5,false),(6,false),(7,false),(8,true),(9,false)] aNh ?_
 refine ⟨rfl,rfl,_,rfl,?_⟩
 obtain ⟨⟨SZ,ak5⟩,aA1,h⟩:=bd h
 refine bp (mv _ _ aA1 _) [0] λaJM aeA=>?_
 refine ⟨rfl,rfl,_,cm,rfl,rfl,(p9 (bA _ _ _ _ rfl) ⟨rfl,rfl,_,bT,rfl,rfl,(bk h λaee Di h=>(.dO ⟨rfl,rfl,(λ_ _=>rfl),DR.rO Lh Di,aee.length,da aaF z8.length [pI 45,pI 0,.str [],.own 6 0 0 1],DR.ln Lh Di,cc (DR.ln Lh Di) ⟨.same _,.same _,.same _,.same _,trivial⟩,rfl,rfl,_,_,rfl,aj,?_⟩))⟩)⟩
 refine .d (.d ⟨rfl,rfl,_,rfl,rfl,(sE h (λaA2 h=>?_) (λaA2 h=>?_))⟩)
 refine .d ?_
 obtain ⟨⟨axn,axo⟩,aA3,h⟩:=bd h
 refine bp (eQ (g1000:=g1000) aA3) [0] λaGK aGL=>?_
 refine ⟨rfl,_,_,rfl,aj,?_⟩
 obtain rfl:=si h
 refine ⟨rfl,_,rfl,(.ab 6 0 3 5 _ (λ_=>gN (aeA).po) λaGM=>?_)⟩
 have aA4:=(DR.bS (ae.bh (x:=SZ) (F0:=aGM) aeA) DR.cZ)
 refine .ab 4 z8.length 3 6 _ (λ_=>pf (DR.lq Lh Di) (aA4).po) λaGN=>?_
 have aJN:=DR.gu Lh Di (ae.bh (x:=(ae.mk 45 0 [] ([SZ]:List ae))) (F0:=aGN) aA4)
 exact en [0,8] ⟨aGK,aGL.self,rfl,rfl⟩ eo lO
 refine .d ⟨rfl,_,rfl,rfl,_,_,rfl,aj,?_⟩
 obtain rfl:=si h
 refine ⟨rfl,_,rfl,(.ab 6 0 3 5 _ (λ_=>gN (aeA).po) λaGO=>?_)⟩
 have aA5:=(DR.bS (ae.bh (x:=SZ) (F0:=aGO) aeA) DR.cZ)
 refine .ab 4 z8.length 3 6 _ (λ_=>pf (DR.lq Lh Di) (aA5).po) λaGP=>?_
 have aGQ:=DR.gu Lh Di (ae.bh (x:=(ae.mk 45 0 [] ([SZ]:List ae))) (F0:=aGP) aA5)
 exact en [0,4] (rs aGQ) eo lO
 refine .d (.d ⟨rfl,rfl,_,rfl,rfl,(sE h (λaA6 h=>?_) (λaA6 h=>?_))⟩)
 refine .d ?_
 obtain ⟨⟨axp,axq⟩,aA7,h⟩:=bd h
 refine bp (eQ (g1000:=g1000) aA7) [0] λaGR aGS=>?_
 refine ⟨rfl,_,_,rfl,aj,?_⟩
 obtain rfl:=si h
 exact ⟨rfl,_,rfl,(en [0,5] ⟨aGR,aGS.self,rfl,rfl⟩ eo lO)⟩
 refine .d ⟨rfl,_,rfl,rfl,_,_,rfl,aj,?_⟩
 obtain rfl:=si h
 exact ⟨rfl,_,rfl,(en [0,4] ⟨aaF,Lh.self,rfl,rfl⟩ eo lO)⟩
 intro _ _ pJ mv a0 r h g1000
 refine ep Tryz.func181 ?_
 refine .d (.d (bk h λaxh aA8 h=>(bK (aX aA8) [0] ?_)))
 refine .d ?_
 obtain ⟨⟨C8,axi⟩,aA9,h⟩:=bd h
 refine bp (pJ _ _ aA9 _) [0] λaBa aBb=>?_
 refine ⟨_,cm,(p9 (bA _ _ _ _ rfl) ⟨rfl,_,_,rfl,aj,(.d (bk h λCE Y4 h=>(bK (aX Y4) [0] ?_)))⟩)⟩
 refine .ab 3 0 3 2 _ (λ_=>gN (aBb).po) λamc=>(.d (.float [(0,true),(1,true),(2,true),(3,false),(4,false),(5,false),(6,true),(7,false)] aNh ?_))
 refine ⟨rfl,rfl,_,rfl,?_⟩
 obtain ⟨⟨Bx,NS⟩,Y5,h⟩:=bd h
 refine bp (mC (g1000:=g1000) Y5) [0] λaGT amd=>?_
 refine ⟨rfl,rfl,_,bT,rfl,rfl,?_⟩
 have Tc:=(DR.bS (ae.bh (x:=C8) (F0:=amc) aBb) DR.cZ)
 refine bk h λSU GD h=>(.dO ⟨rfl,rfl,(λ_ _=>rfl),DR.rO Tc GD,SU.length,da (jr [[pI C8.ai,pI C8.aE,.str C8.aq,.dI 4 C8.af.length 29 aBa amc]]) 1 [pI Bx.ai,pI Bx.aE,.str Bx.aq,.own 5 0 0 Bx.af.length],DR.ln Tc GD,cc (DR.ln Tc GD) ⟨.same _,.same _,.same _,.same _,trivial⟩,rfl,rfl,_,_,rfl,aj,?_⟩)
 obtain ⟨aGU,h,aBc⟩:=bd h
 refine .cut (λσ η=>∃ZX,∃ZY,∃ZZ,∃Z0,∃Fh,∃aeB:Nat->List PV,DR ae.D Fh.length aeB Fh/\(ZX,ZY,ZZ,Z0,Fh)=aGU/\σ=[(0,.aA 0 g1000 0 0),(2,.aA 1 0 0 0),(3,.aA 3 0 0 0)]/\η=[.row g1000 4 1 62 (λ_=>[sl 4 ah.cells ZX,pI ZY,pI ZZ,pI Z0]),.row 0 4 1 29 (λ_=>[pI 0,pI 0,.str [],.own 2 0 0 0]),.row 0 4 0 29 (λ_=>[]),.row 0 4 1 29 (λ_=>[pI 36,pI 0,.str [],.own 4 0 0 Fh.length]),.row 0 4 Fh.length 29 aeB]) ?_ ?_
 refine .ab 3 1 3 5 _ (λ_=>pf (DR.lq Tc GD) (amd).po) λame=>(.d ?_)
 obtain ⟨⟨SV,uP⟩,aBd,h⟩:=bd h
 refine bK (aQ aBd) [0] ?_
 refine sV h (λaBe h=>?_) (λaBe h=>?_)
 refine .float [(0,true),(1,true),(2,true),(3,false),(4,false),(5,false),(6,true),(7,false)] aNh ?_
 refine ⟨rfl,rfl,_,rfl,?_⟩
 obtain ⟨⟨C9,xP⟩,aBf,h⟩:=bd h
 refine bp (mC (g1000:=g1000) aBf) [0] λaJO adT=>?_
 refine ⟨rfl,rfl,_,bT,rfl,rfl,?_⟩
 have aaH:=DR.gu Tc GD (ae.bh (x:=Bx) (F0:=ame) amd)
 refine bk h λOz Li h=>(.dO ⟨rfl,rfl,(λ_ _=>rfl),DR.rO aaH Li,Oz.length,da (da (jr [[pI C8.ai,pI C8.aE,.str C8.aq,.dI 4 C8.af.length 29 aBa amc]]) 1 [pI Bx.ai,pI Bx.aE,.str Bx.aq,.dI 4 Bx.af.length 29 aGT ame]) SU.length [pI C9.ai,pI C9.aE,.str C9.aq,.own 7 0 0 C9.af.length],DR.ln aaH Li,cc (DR.ln aaH Li) ⟨.same _,.same _,.same _,.same _,trivial⟩,rfl,rfl,_,_,rfl,aj,(.ab 3 SU.length 3 7 _ (λ_=>pf (DR.lq aaH Li) (adT).po) λaGV=>?_)⟩)
 have aGW:=DR.gu aaH Li (ae.bh (x:=C9) (F0:=aGV) adT)
 exact ct ⟨_,_,_,_,_,_,aGW,si h,rfl,rfl⟩ (tk [0,1,11,4,3] gP ED)
 have aGX:=DR.gu Tc GD (ae.bh (x:=Bx) (F0:=ame) amd)
 exact ct ⟨_,_,_,_,_,_,aGX,si h,rfl,rfl⟩ (tk [0,1,9,4,3] gP ED)
 rintro _ _ ⟨ZX,ZY,ZZ,Z0,Fh,aeB,aaI,rfl,rfl,rfl⟩
 replace h:=aBc
 refine .d (bk h λaxj aBg h=>(bK (aX aBg) [0] ?_))
 refine .d (.float [(0,true),(1,true),(2,true),(3,false),(4,false),(5,false),(6,true),(7,false)] aNh ?_)
 refine ⟨rfl,rfl,_,rfl,?_⟩
 obtain ⟨⟨OA,axk⟩,aBh,h⟩:=bd h
 refine bp (mv _ _ aBh _) [0] λaJP aBi=>?_
 refine ⟨rfl,rfl,_,bT,rfl,rfl,(bk h λak4 Lj h=>(.dO ⟨rfl,rfl,(λ_ _=>rfl),DR.rO aaI Lj,ak4.length,da aeB Fh.length [pI OA.ai,pI OA.aE,.str OA.aq,.own 5 0 0 OA.af.length],DR.ln aaI Lj,cc (DR.ln aaI Lj) ⟨.same _,.same _,.same _,.same _,trivial⟩,rfl,rfl,_,_,rfl,aj,(.d ⟨rfl,_,rfl,rfl,_,_,rfl,aj,?_⟩)⟩))⟩
 obtain rfl:=si h
 refine ⟨rfl,_,rfl,(.ab 4 Fh.length 3 5 _ (λ_=>pf (DR.lq aaI Lj) (aBi).po) λaGY=>?_)⟩
 have aGZ:=DR.gu aaI Lj (ae.bh (x:=OA) (F0:=aGY) aBi)
 exact en [0,4] (rs aGZ) eo lO
 intro _ pJ a0 r h g1000
 refine ep Tryz.func180 ?_
 refine .d (.d (bk h λaxd aBj h=>(bK (aX aBj) [0] ?_)))
 refine .d ?_
 obtain ⟨⟨axe,XN⟩,aBk,h⟩:=bd h
 refine bp (pJ _ _ aBk _) [0] λaG0 aG1=>?_
 refine ⟨rfl,_,_,rfl,aj,(.d (bk h λaxf aBl h=>(bK (aX aBl) [0] ?_)))⟩
 refine .d ⟨rfl,_,rfl,rfl,_,_,rfl,aj,?_⟩
 obtain rfl:=si h
 exact ⟨rfl,_,rfl,(en [0,2] ⟨aG0,aG1.self,rfl,rfl⟩ eo lO)⟩
 intro _ _ _ mv OU OV a0 r h g1000
 refine ep Tryz.func179 ?_
 refine .d (.d ?_)
 obtain ⟨⟨Bp,axg⟩,aBm,h⟩:=bd h
 refine bp (OU _ _ aBm _) [0] λaJQ Lk=>?_
 refine ⟨rfl,_,_,rfl,aj,?_⟩
 obtain ⟨aG2,h,aBn⟩:=bd h
 refine .cut (λσ η=>∃ZS,∃Cx,∃ZT,∃ZU,∃Oy,∃Td:Nat->List PV,DR ae.D 2 Td Oy/\(ZS,Cx,ZT,ZU,Oy)=aG2/\σ=[(0,.aA 0 g1000 0 0),(2,.aA 1 0 0 0),(4,.aA 3 0 0 0)]/\η=[.row g1000 4 1 62 (λ_=>[sl 4 ah.cells ZS,pI Cx,pI ZT,pI ZU]),.row 0 4 1 29 (λ_=>[pI 0,pI 0,.str [],.own 2 0 0 0]),.row 0 4 0 29 (λ_=>[]),.row 0 4 1 29 (λ_=>[pI 34,pI 0,.str [],.own 4 0 0 2]),.row 0 4 2 29 Td]) ?_ ?_
 refine .CQ [([(0,true),(1,true)],2,5,[(2,false),(3,false),(4,false),(6,false)]),([],3,5,[(3,false),(4,false),(6,false)]),([],4,5,[(4,false),(6,false)])] [(5,false),(6,false)] aNh ?_
 refine ⟨rfl,_,rfl,?_,?_⟩
 obtain ⟨⟨Ox,SP⟩,aaJ,h⟩:=bd h
 refine bp (mv _ _ aaJ _) [0] λaG3 Ih=>?_
 refine ⟨rfl,?_,?_⟩
 refine ⟨_,cm,?_,?_⟩
 refine p9 (bA _ _ _ _ rfl) ⟨rfl,rfl,_,_,rfl,aj,(.ab 5 0 3 2 _ (λ_=>gN (Lk).po) λOW=>(.ab 5 1 3 4 _ (λ_=>gN (Ih).po) λOX=>?_))⟩
 have OY:=(DR.bS (ae.bh (x:=Bp) (F0:=OW) Lk) (DR.bS (ae.bh (x:=Ox) (F0:=OX) Ih) DR.cZ))
 exact ct ⟨_,_,_,_,_,_,OY,si h,rfl,rfl⟩ (tk [0,1,9,6,5] gP ED)
 refine ⟨rfl,(p9 (bA _ _ _ _ rfl) ⟨rfl,_,_,rfl,aj,(.ab 5 0 3 2 _ (λ_=>gN (Lk).po) λOW=>(.ab 5 1 3 4 _ (λ_=>gN (Ih).po) λOX=>?_))⟩)⟩
 have OY:=(DR.bS (ae.bh (x:=Bp) (F0:=OW) Lk) (DR.bS (ae.bh (x:=Ox) (F0:=OX) Ih) DR.cZ))
 exact ct ⟨_,_,_,_,_,_,OY,si h,rfl,rfl⟩ (tk [0,1,9,6,5] gP ED)
 refine ⟨rfl,_,cm,(p9 (bA _ _ _ _ rfl) ⟨rfl,_,_,rfl,aj,(.ab 6 0 3 2 _ (λ_=>gN (Lk).po) λOW=>(.ab 6 1 3 4 _ (λ_=>gN (Ih).po) λOX=>?_))⟩)⟩
 have OY:=(DR.bS (ae.bh (x:=Bp) (F0:=OW) Lk) (DR.bS (ae.bh (x:=Ox) (F0:=OX) Ih) DR.cZ))
 exact ct ⟨_,_,_,_,_,_,OY,si h,rfl,rfl⟩ (tk [0,1,9,5,6] gP ED)
 refine ⟨rfl,?_⟩
 obtain ⟨⟨Ox,SP⟩,aaJ,h⟩:=bd h
 refine bp (mv _ _ aaJ _) [0] λaG3 Ih=>?_
 refine ⟨rfl,_,cm,(p9 (bA _ _ _ _ rfl) ⟨rfl,_,_,rfl,aj,(.ab 6 0 3 2 _ (λ_=>gN (Lk).po) λOW=>(.ab 6 1 3 5 _ (λ_=>gN (Ih).po) λOX=>?_))⟩)⟩
 have OY:=(DR.bS (ae.bh (x:=Bp) (F0:=OW) Lk) (DR.bS (ae.bh (x:=Ox) (F0:=OX) Ih) DR.cZ))
 exact ct ⟨_,_,_,_,_,_,OY,si h,rfl,rfl⟩ (tk [0,1,9,4,6] gP ED)
 rintro _ _ ⟨ZS,Cx,ZT,ZU,Oy,Td,Dj,rfl,rfl,rfl⟩
 replace h:=aBn
 refine .d (.d ?_)
 obtain ⟨⟨ad4,SQ⟩,aBo,h⟩:=bd h
 refine bK (aQ aBo) [0] ?_
 refine sV h (λaBp h=>?_) (λaBp h=>?_)
 refine .d ?_
 obtain ⟨⟨ad5,SR⟩,aBq,h⟩:=bd h
 refine bK (aQ aBq) [0] ?_
 refine sV h (λaBr h=>?_) (λaBr h=>?_)
 refine .float [(0,true),(1,true),(2,true),(3,false),(4,false),(5,false),(6,false),(7,false),(8,true),(9,false)] aNh ?_
 refine ⟨rfl,rfl,_,rfl,?_⟩
 obtain ⟨⟨SS,ad6⟩,aBs,h⟩:=bd h
 refine bp (OV _ _ aBs _) [0] λaJR aBt=>?_
 refine ⟨rfl,rfl,_,cm,rfl,rfl,(p9 (bA _ _ _ _ rfl) ⟨rfl,rfl,_,bT,rfl,rfl,(bk h λZV Ll h=>(.dO ⟨rfl,rfl,(λ_ _=>rfl),DR.rO Dj Ll,ZV.length,da Td 2 [pI 48,pI 0,.str [],.own 6 0 0 1],DR.ln Dj Ll,cc (DR.ln Dj Ll) ⟨.same _,.same _,.same _,.same _,trivial⟩,rfl,rfl,_,_,rfl,aj,?_⟩))⟩)⟩
 refine .d ⟨rfl,_,rfl,rfl,_,_,rfl,aj,?_⟩
 obtain rfl:=si h
 refine ⟨rfl,_,rfl,(.ab 6 0 3 5 _ (λ_=>gN (aBt).po) λaG4=>?_)⟩
 have aBu:=(DR.bS (ae.bh (x:=SS) (F0:=aG4) aBt) DR.cZ)
 refine .ab 4 2 3 6 _ (λ_=>pf (DR.lq Dj Ll) (aBu).po) λaG5=>?_
 have aG6:=DR.gu Dj Ll (ae.bh (x:=(ae.mk 48 0 [] ([SS]:List ae))) (F0:=aG5) aBu)
 exact en [0,4] (rs aG6) eo lO
 refine .float [(0,true),(1,true),(2,true),(3,false),(4,false),(5,false),(6,true),(7,false)] aNh ?_
 refine ⟨rfl,rfl,_,rfl,?_⟩
 obtain ⟨⟨Ib,ad7⟩,aBv,h⟩:=bd h
 refine bp (mv _ _ aBv _) [0] λaJS aBw=>?_
 refine ⟨rfl,rfl,_,bT,rfl,rfl,(bk h λZW Lm h=>(.dO ⟨rfl,rfl,(λ_ _=>rfl),DR.rO Dj Lm,ZW.length,da Td 2 [pI Ib.ai,pI Ib.aE,.str Ib.aq,.own 5 0 0 Ib.af.length],DR.ln Dj Lm,cc (DR.ln Dj Lm) ⟨.same _,.same _,.same _,.same _,trivial⟩,rfl,rfl,_,_,rfl,aj,(.d ⟨rfl,_,rfl,rfl,_,_,rfl,aj,?_⟩)⟩))⟩
 obtain rfl:=si h
 refine ⟨rfl,_,rfl,(.ab 4 2 3 5 _ (λ_=>pf (DR.lq Dj Lm) (aBw).po) λaG7=>?_)⟩
 have aG8:=DR.gu Dj Lm (ae.bh (x:=Ib) (F0:=aG7) aBw)
 exact en [0,4] (rs aG8) eo lO
 refine .d ⟨rfl,_,rfl,rfl,_,_,rfl,aj,?_⟩
 obtain rfl:=si h
 exact ⟨rfl,_,rfl,(en [0,4] ⟨Td,Dj.self,rfl,rfl⟩ eo lO)⟩
theorem kk {a0:aC} {r:ae×aC} {g1000:Nat} (h:aJ a0=some r):GB 209 a0 r g1000:=qo.2.2.2.2.2.2.2.2.2.2.2.2.2.1 a0 r h g1000
theorem xf {a0:aC} {r:ae×aC} {g1000:Nat} (h:bV a0=some r):GB 118 a0 r g1000:=qo.2.2.2.2.2.2.2.2.2.2.2.2.2.2.1 a0 r h g1000
theorem Ii {a0:aC} {r:ae×aC} {g1000:Nat} (h:bb a0=some r):GB 120 a0 r g1000:=qo.2.2.2.2.2.2.2.2.2.2.2.2.2.2.2.2.1 a0 r h g1000
end Go.Am
