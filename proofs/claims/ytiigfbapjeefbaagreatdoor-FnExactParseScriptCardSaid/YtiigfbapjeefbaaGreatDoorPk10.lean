/- Texts of the proof, joined and shortened. -/
import Derived.Test.YtiigfbapjeefbaaGreatDoorPk9
set_option linter.unusedVariables false
set_option linter.unusedSimpArgs false
set_option synthInstance.maxHeartbeats 400000
set_option synthInstance.maxSize 4000
set_option maxRecDepth 100000
set_option maxHeartbeats 8000000
namespace Go.Am
open Go Go.RowKit Go.Proofs
mutual
def bs (a0:ak):Option kN:=
 aI a0 [123]>>=λv1=>
 (
 cw v1.ao v1.bx v1.aw v1.av ([]:List ae) ([]:List ae)
 :Option ty8)>>=λ(l3,y4,y5,b6,l7,l10)=>
 some ((ae.mk 48 0 [] l10),(ak.mk l3 y4 y5 b6))
partial_fixpoint
def dE (a0:ak) (a1:Int):Option kN:=
 a7 a0>>=λ(v69,v70)=>
 aI v70 [59]>>=λv74=>
 some ((ae.mk a1 0 [] ([v69]:List ae)),v74)
partial_fixpoint
def gp (a0:ak):Option kN:=
 aI a0 [40]>>=λv78=>
 a7 v78>>=λ(v80,zU)=>
 aI zU [41]>>=λv85=>
 some (v80,v85)
partial_fixpoint
def aR (a0:ak):Option kN:=
 cD a0 0>>=λ(v87,v88)=>
 (if v88.av=true then
 some ((ae.mk 0 0 [] []),v88)
 else
 (if v87.ai=1 then
 some ((ae.mk 31 0 v87.aq []),(ak.mk v88.ao (bm (v88.bx+1)) v88.aw v88.av))
 else
 aV v88 0 [123]>>=λ(v92,v93)=>
 (if v92=true then
 bs v93>>=λ(P6,v97)=>
 some (P6,v97)
 else
 au v93 [101,99,104,111]>>=λ(arW,aiU)=>
 (if arW=true then
 dE aiU 32>>=λ(v105,J4)=>
 some (v105,J4)
 else
 aV aiU 0 [105,102]>>=λ(W6,EV)=>
 (if W6=true then
 fV EV>>=λ(J5,Bj)=>
 some (J5,Bj)
 else
 au EV [119,104,105,108,101]>>=λ(Se,vk)=>
 (if Se=true then
 gp vk>>=λ(Ny,v124)=>
 bs v124>>=λ(aiV,Up)=>
 some ((ae.mk 35 0 [] ([Ny,aiV]:List ae)),Up)
 else
 au vk [102,111,114,101,97,99,104]>>=λ(W7,aiW)=>
 (if W7=true then
 ky aiW>>=λ(W8,v141)=>
 some (W8,v141)
 else
 au aiW [98,114,101,97,107]>>=λ(v145,v146)=>
 (if v145=true then
 aI v146 [59]>>=λarX=>
 some ((ae.mk 37 0 [] []),arX)
 else
 au v146 [99,111,110,116,105,110,117,101]>>=λ(Sf,v152)=>
 (if Sf=true then
 aI v152 [59]>>=λUs=>
 some ((ae.mk 38 0 [] []),Us)
 else
 au v152 [114,101,116,117,114,110]>>=λ(v157,Sg)=>
 (if v157=true then
 au Sg [59]>>=λ(arY,v162)=>
 (if arY=true then
 some ((ae.mk 39 0 [] []),v162)
 else
 dE v162 39>>=λ(Jn,arZ)=>
 some (Jn,arZ))
 else
 au Sg [103,108,111,98,97,108]>>=λ(ar0,v171)=>
 (if ar0=true then
 bu v171 2>>=λ(VY,v175)=>
 aI v175 [59]>>=λJI=>
 some ((ae.mk 40 0 VY []),JI)
 else
 au v171 [117,110,115,101,116]>>=λ(ar1,aiX)=>
 (if ar1=true then
 aI aiX [40]>>=λv183=>
 ia v183>>=λ(aiY,V2)=>
 aI V2 [41]>>=λEW=>
 aI EW [59]>>=λar2=>
 some ((ae.mk 41 0 [] ([aiY]:List ae)),ar2)
 else
 au aiX [116,104,114,111,119]>>=λ(v196,RR)=>
 (if v196=true then
 dE RR 42>>=λ(ar3,v201)=>
 some (ar3,v201)
 else
 au RR [116,114,121]>>=λ(Nn,v206)=>
 (if Nn=true then
 gF v206>>=λ(ar4,v210)=>
 some (ar4,v210)
 else
 au v206 [121,105,101,108,100]>>=λ(JJ,tJ)=>
 (if JJ=true then
 dE tJ 46>>=λ(v218,W9)=>
 some (v218,W9)
 else
 (
 (if v87.ai=2 then
 bC v87.aq>>=λv232=>
 (if v232=true then
 aV tJ 1 [61]>>=λ(adn,v236)=>
 (if adn=true then
 aV v236 2 [121,105,101,108,100]>>=λ(ado,zM)=>
 some (zM.ao,zM.bx,zM.aw,zM.av,ado)
 else
 some (v236.ao,v236.bx,v236.aw,v236.av,false))
 else
 some (tJ.ao,tJ.bx,tJ.aw,tJ.av,false))
 else
 some (tJ.ao,tJ.bx,tJ.aw,tJ.av,false))
 :Option Sh)>>=λ(Si,Sj,Sk,Sl,Xa)=>
 (if Xa=true then
 cx (ak.mk Si Sj Sk Sl)>>=λ(HN,JK)=>
 dE (ak.mk JK.ao (bm (JK.bx+2)) JK.aw JK.av) 46>>=λ(Xb,ar5)=>
 cC 56 ([HN]:List ae) Xb.af>>=λar6=>
 some ((ae.mk Xb.ai Xb.aE Xb.aq ar6),ar5)
 else
 au (ak.mk Si Sj Sk Sl) [105,110,99,108,117,100,101]>>=λ(ar7,R7)=>
 (if ar7=true then
 bu R7 5>>=λ(ar8,ar9)=>
 aI ar9 [59]>>=λasa=>
 some ((ae.mk 47 0 ar8 []),asa)
 else
 dE R7 33>>=λ(asb,asc)=>
 some (asb,asc))))))))))))))))))
partial_fixpoint
def fV (a0:ak):Option kN:=
 aI a0 [105,102]>>=λasd=>
 gp asd>>=λ(JL,ase)=>
 (
 bs ase>>=λ(Sm,Sn)=>
 some (Sn.ao,Sn.bx,Sn.aw,Sn.av,([JL,Sm]:List ae))
 :Option Ct)>>=λ(Xc,Xd,Xe,Xf,NA)=>
 au (ak.mk Xc Xd Xe Xf) [101,108,115,101]>>=λ(xy,Hg)=>
 (if xy=true then
 aV Hg 0 [105,102]>>=λ(HO,Hh)=>
 (if HO=true then
 fV Hh>>=λ(zV,adp)=>
 cC 56 NA [(ae.mk 48 0 [] ([zV]:List ae))]>>=λXg=>
 some ((ae.mk 34 0 [] Xg),adp)
 else
 bs Hh>>=λ(HP,Nl)=>
 cC 56 NA [HP]>>=λXh=>
 some ((ae.mk 34 0 [] Xh),Nl))
 else
 some ((ae.mk 34 0 [] NA),Hg))
partial_fixpoint
def ky (a0:ak):Option kN:=
 aI a0 [40]>>=λV5=>
 a7 V5>>=λ(Cu,J6)=>
 aI J6 [97,115]>>=λasf=>
 cx asf>>=λ(Bn,asg)=>
 cC 56 ([Cu]:List ae) [Bn]>>=λSo=>
 (
 au asg [61,62]>>=λ(ash,Cv)=>
 (if ash=true then
 cx Cv>>=λ(NB,Xi)=>
 cC 56 So [NB]>>=λaiZ=>
 some (Xi.ao,Xi.bx,Xi.aw,Xi.av,aiZ)
 else
 some (Cv.ao,Cv.bx,Cv.aw,Cv.av,So))
 :Option Ct)>>=λ(Xj,Xk,Xl,Xm,EZ)=>
 aI (ak.mk Xj Xk Xl Xm) [41]>>=λE1=>
 bs E1>>=λ(NC,asi)=>
 cC 56 EZ [NC]>>=λai0=>
 some ((ae.mk 36 0 [] ai0),asi)
partial_fixpoint
def gF (a0:ak):Option kN:=
 bs a0>>=λ(HQ,asj)=>
 (
 au asj [99,97,116,99,104]>>=λ(ND,wR)=>
 (if ND=true then
 aI wR [40]>>=λJ7=>
 bu J7 3>>=λ(Sp,adq)=>
 cx adq>>=λ(qi,adr)=>
 must (1*56<=140737488355328)>>=λ_=>
 aI adr [41]>>=λads=>
 bs ads>>=λ(HR,E2)=>
 cC 56 [qi] [HR]>>=λNF=>
 cC 56 ([HQ]:List ae) [(ae.mk 44 0 Sp NF)]>>=λXn=>
 some (E2.ao,E2.bx,E2.aw,E2.av,Xn)
 else
 some (wR.ao,wR.bx,wR.aw,wR.av,([HQ]:List ae)))
 :Option Ct)>>=λ(Xo,Xp,Xq,Xr,yQ)=>
 au (ak.mk Xo Xp Xq Xr) [102,105,110,97,108,108,121]>>=λ(asl,Ca)=>
 (if asl=true then
 bs Ca>>=λ(Sq,Xs)=>
 cC 56 yQ [(ae.mk 45 0 [] ([Sq]:List ae))]>>=λXt=>
 (if (Xt.length:Int)=1 then
 some ((ae.mk 43 0 [] Xt),(ak.mk Xs.ao Xs.bx Xs.aw true))
 else
 some ((ae.mk 43 0 [] Xt),Xs))
 else
 (if (yQ.length:Int)=1 then
 some ((ae.mk 43 0 [] yQ),(ak.mk Ca.ao Ca.bx Ca.aw true))
 else
 some ((ae.mk 43 0 [] yQ),Ca)))
partial_fixpoint
def ia (a0:ak):Option kN:=
 bW a0 true>>=λ(Xu,NG)=>
 (if NG.av=true then
 some (Xu,NG)
 else
 fg Xu>>=λasm=>
 (if asm=true then
 some (Xu,NG)
 else
 some (Xu,(ak.mk NG.ao NG.bx NG.aw true))))
partial_fixpoint
def a7 (a0:ak):Option kN:=
 dj a0>>=λ(Bo,adt)=>
 (if adt.av=true then
 some (Bo,adt)
 else
 aV adt 0 [61]>>=λ(asn,vm)=>
 (if asn=true then
 fg Bo>>=λaso=>
 (if aso=true then
 (if (bm (vm.bx+1))=(bm (a0.bx+2)) then
 idx vm.ao a0.bx>>=λai1=>
 (if ai1.ai=2 then
 au (ak.mk vm.ao (bm (vm.bx+1)) vm.aw vm.av) [38]>>=λ(asp,ai2)=>
 (if asp=true then
 cx ai2>>=λ(ai3,asq)=>
 some ((ae.mk 17 0 Bo.aq ([ai3]:List ae)),asq)
 else
 a7 ai2>>=λ(ai4,J8)=>
 some ((ae.mk 15 0 [] ([Bo,ai4]:List ae)),J8))
 else
 a7 (ak.mk vm.ao (bm (vm.bx+1)) vm.aw vm.av)>>=λ(ai5,asr)=>
 some ((ae.mk 15 0 [] ([Bo,ai5]:List ae)),asr))
 else
 a7 (ak.mk vm.ao (bm (vm.bx+1)) vm.aw vm.av)>>=λ(ai6,ass)=>
 some ((ae.mk 15 0 [] ([Bo,ai6]:List ae)),ass))
 else
 some (Bo,vm))
 else
 some (Bo,vm)))
partial_fixpoint
def dj (a0:ak):Option kN:=
 bY a0>>=λ(adu,ast)=>
 au ast [63]>>=λ(asu,ai7)=>
 (if asu=true then
 a7 ai7>>=λ(ai8,asv)=>
 aI asv [58]>>=λKa=>
 dj Ka>>=λ(ai9,asw)=>
 some ((ae.mk 14 0 [] ([adu,ai8,ai9]:List ae)),asw)
 else
 some (adu,ai7))
partial_fixpoint
def bY (a0:ak):Option kN:=
 eN a0>>=λ(adv,asx)=>
 au asx [63,63]>>=λ(asy,aja)=>
 (if asy=true then
 bY aja>>=λ(ajb,asz)=>
 some ((ae.mk 13 0 [] ([adv,ajb]:List ae)),asz)
 else
 some (adv,aja))
partial_fixpoint
def eN (a0:ak):Option kN:=
 dF a0>>=λ(Xv,Xw)=>
 (
 ca Xw.ao Xw.bx Xw.aw Xw.av ([]:List ae) Xv.ai Xv.aE Xv.aq Xv.af
 :Option Xx)>>=λ(Xy,Xz,XA,XB,NH,XC,XD,XE,Kb)=>
 some ((ae.mk XC XD XE Kb),(ak.mk Xy Xz XA XB))
partial_fixpoint
def dF (a0:ak):Option kN:=
 bn a0 6>>=λ(XF,XG)=>
 (
 bR XG.ao XG.bx XG.aw XG.av ([]:List ae) XF.ai XF.aE XF.aq XF.af
 :Option Xx)>>=λ(XH,XI,Cw,XJ,NI,XK,XL,XM,Kc)=>
 some ((ae.mk XK XL XM Kc),(ak.mk XH XI Cw XJ))
partial_fixpoint
def bn (a0:ak) (a1:Int):Option kN:=
 (if a1>10 then
 cy a0>>=λ(XN,asA)=>
 some (XN,asA)
 else
 bn a0 (bm (a1+1))>>=λ(XO,Bp)=>
 ((
 bI a1 Bp.ao Bp.bx Bp.aw Bp.av ([]:List ae) XO.ai XO.aE XO.aq XO.af
 :Option ty0)>>=λadw=>match adw with
 | .inr r=>some r
 | .inl (XP,XR,Cx,XS,NJ,XT,XU,XV,Kd)=>
 some ((ae.mk XT XU XV Kd),(ak.mk XP XR Cx XS))
 ))
partial_fixpoint
def cy (a0:ak):Option kN:=
 au a0 [33]>>=λ(asB,ajc)=>
 (if asB=true then
 cy ajc>>=λ(ajd,asC)=>
 some ((ae.mk 9 1 [] ([ajd]:List ae)),asC)
 else
 au ajc [45]>>=λ(asD,aje)=>
 (if asD=true then
 cy aje>>=λ(ajf,asE)=>
 some ((ae.mk 9 2 [] ([ajf]:List ae)),asE)
 else
 bW aje false>>=λ(asF,asG)=>
 some (asF,asG)))
partial_fixpoint
def bW (a0:ak) (a1:Bool):Option kN:=
 aH a0>>=λ(XW,xz)=>
 ((
 aG a1 xz.ao xz.bx xz.aw xz.av ([]:List ae) XW.ai XW.aE XW.aq XW.af
 :Option ty0)>>=λadx=>match adx with
 | .inr r=>some r
 | .inl (XX,XY,Cy,XZ,NK,X0,X1,X2,Ke)=>
 some ((ae.mk X0 X1 X2 Ke),(ak.mk XX XY Cy XZ))
 )
partial_fixpoint
def aH (a0:ak):Option kN:=
 cD a0 0>>=λ(X3,Bq)=>
 (if Bq.av=true then
 some ((ae.mk 0 0 [] []),Bq)
 else
 (
 (if X3.ai=4 then
 some (Bq.ao,Bq.bx,Bq.aw,Bq.av,true)
 else
 (if X3.ai=5 then
 some (Bq.ao,Bq.bx,Bq.aw,Bq.av,true)
 else
 aV Bq 0 [116,114,117,101]>>=λ(ady,xA)=>
 (if ady=true then
 some (xA.ao,xA.bx,xA.aw,xA.av,true)
 else
 aV xA 0 [102,97,108,115,101]>>=λ(Kf,Br)=>
 (if Kf=true then
 some (Br.ao,Br.bx,Br.aw,Br.av,true)
 else
 aV Br 0 [110,117,108,108]>>=λ(adz,zW)=>
 some (zW.ao,zW.bx,zW.aw,zW.av,adz)))))
 :Option Sh)>>=λ(NL,NM,NN,NP,X4)=>
 (if X4=true then
 bJ (ak.mk NL NM NN NP)>>=λ(asH,X5)=>
 some (asH,X5)
 else
 (if X3.ai=2 then
 cx (ak.mk NL NM NN NP)>>=λ(X6,asI)=>
 some (X6,asI)
 else
 au (ak.mk NL NM NN NP) [91]>>=λ(asJ,ajg)=>
 (if asJ=true then
 gq ajg>>=λ(asK,X7)=>
 some (asK,X7)
 else
 au ajg [40]>>=λ(X8,Sr)=>
 (if X8=true then
 a7 Sr>>=λ(asL,X9)=>
 aI X9 [41]>>=λKg=>
 some (asL,Kg)
 else
 au Sr [110,101,119]>>=λ(Cz,CA)=>
 (if Cz=true then
 cE CA>>=λ(ags,Kh)=>
 cV Kh>>=λ(agt,Ki)=>
 some ((ae.mk 22 0 ags agt),Ki)
 else
 au CA [102,117,110,99,116,105,111,110]>>=λ(agu,Gb)=>
 (if agu=true then
 ee Gb>>=λ(vn,agv)=>
 au agv [117,115,101]>>=λ(agw,Ya)=>
 (if agw=true then
 (
 aV Ya 0 [40]>>=λ(Gc,Gd)=>
 (if Gc=true then
 aV Gd 1 [41]>>=λ(Kj,Kk)=>
 some (Kk.ao,Kk.bx,Kk.aw,Kk.av,Kj)
 else
 some (Gd.ao,Gd.bx,Gd.aw,Gd.av,false))
 :Option Sh)>>=λ(Ge,Gf,Gg,Kl,Km)=>
 (if Km=true then
 some ((ae.mk 23 0 [] vn),(ak.mk Ge (bm (Gf+1)) Gg true))
 else
 fA (ak.mk Ge Gf Gg Kl) 25>>=λ(CB,agx)=>
 cC 56 vn CB>>=λagy=>
 bs agx>>=λ(CC,agz)=>
 cC 56 agy [CC]>>=λYb=>
 some ((ae.mk 23 0 [] Yb),agz))
 else
 bs Ya>>=λ(uv,qj)=>
 cC 56 vn [uv]>>=λYc=>
 some ((ae.mk 23 0 [] Yc),qj))
 else
 cE Gb>>=λ(uw,Gh)=>
 ((
 (if uw=([115,116,97,116,105,99]:aD) then
 some (.inl (Gh.ao,Gh.bx,Gh.aw,Gh.av))
 else
 aV Gh 0 [40]>>=λ(Kn,Gi)=>
 (if Kn=true then
 cV Gi>>=λ(agA,Ko)=>
 some (.inr ((ae.mk 18 0 uw agA),Ko))
 else
 some (.inl (Gi.ao,Gi.bx,Gi.aw,Gi.av))))
 :Option (((List ah)×Int×Int×Bool) ⊕ kN))>>=λYd=>match Yd with
 | .inr r=>some r
 | .inl (Kp,Kq,Kr,Ks)=>
 aI (ak.mk Kp Kq Kr Ks) [58,58]>>=λKt=>
 wQ uw [58,58]>>=λYe=>
 bu Kt 3>>=λ(Ku,Kv)=>
 wQ Ye Ku>>=λYf=>
 cV Kv>>=λ(agB,agC)=>
 some ((ae.mk 21 0 Yf agB),agC)
 ))))))))
partial_fixpoint
def gq (a0:ak):Option kN:=
 au a0 [93]>>=λ(Kw,Gj)=>
 (if Kw=true then
 some ((ae.mk 5 0 [] []),Gj)
 else
 ((
 cW Gj.ao Gj.bx Gj.aw Gj.av ([]:List ae) ([]:List ae)
 :Option ty2)>>=λQA=>match QA with
 | .inr r=>some r
 | .inl (Kx,Ky,Kz,KA,CD,AX)=>
 some ((ae.mk 5 0 [] AX),(ak.mk Kx Ky Kz KA))
 ))
partial_fixpoint
def cV (a0:ak):Option NQ:=
 aI a0 [40]>>=λagD=>
 au agD [41]>>=λ(agE,Gk)=>
 (if agE=true then
 some (([]:List ae),Gk)
 else
 ((
 cM Gk.ao Gk.bx Gk.aw Gk.av ([]:List ae)
 :Option ty6)>>=λQB=>match QB with
 | .inr r=>some r
 | .inl (KB,KC,KD,KE,AY)=>
 some (AY,(ak.mk KB KC KD KE))
 ))
partial_fixpoint
def cw (tq:List ah) (qa:Int) (xB:Int) (Bs:Bool) (BY:List ae) (tr:List ae):Option ty8:=
 (if Bs=true then
 some (tq,qa,xB,Bs,BY,tr)
 else
 au (ak.mk tq qa xB Bs) [125]>>=λ(E3,v49)=>
 (if E3=true then
 some (v49.ao,v49.bx,v49.aw,v49.av,BY,tr)
 else
 au v49 [59]>>=λ(tt,v53)=>
 (if tt=true then
 cw v53.ao v53.bx v53.aw v53.av BY tr
 else
 aR v53>>=λ(yD,zX)=>
 cC 56 tr [yD]>>=λYg=>
 cw zX.ao zX.bx zX.aw zX.av BY Yg)))
partial_fixpoint
def ca (xC:List ah) (xD:Int) (xE:Int) (xF:Bool) (sF:List ae) (uH:Int) (uI:Int) (uJ:aD) (rM:List ae):Option Xx:=
 au (ak.mk xC xD xE xF) [124,124]>>=λ(NR,xG)=>
 (if NR=true then
 dF xG>>=λ(Yh,yR)=>
 ca yR.ao yR.bx yR.aw yR.av sF 12 0 [] ([(ae.mk uH uI uJ rM),Yh]:List ae)
 else
 some (xG.ao,xG.bx,xG.aw,xG.av,sF,uH,uI,uJ,rM))
partial_fixpoint
def bR (xH:List ah) (kO:Int) (xI:Int) (xJ:Bool) (sG:List ae) (uK:Int) (uL:Int) (uM:aD) (rN:List ae):Option Xx:=
 au (ak.mk xH kO xI xJ) [38,38]>>=λ(adA,qW)=>
 (if adA=true then
 bn qW 6>>=λ(Yi,E4)=>
 bR E4.ao E4.bx E4.aw E4.av sG 11 0 [] ([(ae.mk uK uL uM rN),Yi]:List ae)
 else
 some (qW.ao,qW.bx,qW.aw,qW.av,sG,uK,uL,uM,rN))
partial_fixpoint
def bI (a1:Int) (vo:List ah) (vq:Int) (vr:Int) (tK:Bool) (sH:List ae) (pO:Int) (pP:Int) (pQ:aD) (om:List ae):Option ty0:=
 (if tK=true then
 some (.inl (vo,vq,vr,tK,sH,pO,pP,pQ,om))
 else
 cD (ak.mk vo vq vr tK) 0>>=λ(Ss,wT)=>
 lV Ss.aq>>=λCE=>
 (if Ss.ai=6 then
 (if CE=0 then
 some (.inr ((ae.mk pO pP pQ om),wT))
 else
 kJ CE>>=λNS=>
 (if NS=a1 then
 bn (ak.mk wT.ao (bm (wT.bx+1)) wT.aw wT.av) (bm (a1+1))>>=λ(Yj,E5)=>
 bI a1 E5.ao E5.bx E5.aw E5.av sH 10 CE [] ([(ae.mk pO pP pQ om),Yj]:List ae)
 else
 some (.inr ((ae.mk pO pP pQ om),wT))))
 else
 some (.inr ((ae.mk pO pP pQ om),wT))))
partial_fixpoint
def aG (a1:Bool) (vt:List ah) (vu:Int) (vv:Int) (tL:Bool) (nM:List ae) (kq:Int) (kr:Int) (ku:aD) (jB:List ae):Option ty0:=
 (if tL=true then
 some (.inl (vt,vu,vv,tL,nM,kq,kr,ku,jB))
 else
 (
 aV (ak.mk vt vu vv tL) 0 [91]>>=λ(St,uN)=>
 (if St=true then
 aV uN 1 [93]>>=λ(Su,j3)=>
 (if Su=true then
 fg (ae.mk kq kr ku jB)>>=λSv=>
 (if Sv=true then
 some (j3.ao,j3.bx,j3.aw,j3.av,(!a1))
 else
 some (j3.ao,j3.bx,j3.aw,j3.av,false))
 else
 some (j3.ao,j3.bx,j3.aw,j3.av,false))
 else
 some (uN.ao,uN.bx,uN.aw,uN.av,false))
 :Option Sh)>>=λ(HT,HU,HV,HW,NT)=>
 (if NT=true then
 aI (ak.mk HT (bm (HU+2)) HV HW) [61]>>=λadB=>
 a7 adB>>=λ(Yk,NU)=>
 some (.inr ((ae.mk 16 0 [] ([(ae.mk kq kr ku jB),Yk]:List ae)),NU))
 else
 au (ak.mk HT HU HV HW) [91]>>=λ(KF,Sw)=>
 (if KF=true then
 a7 Sw>>=λ(KG,adC)=>
 aI adC [93]>>=λyT=>
 aG a1 yT.ao yT.bx yT.aw yT.av nM 7 0 [] ([(ae.mk kq kr ku jB),KG]:List ae)
 else
 au Sw [45,62]>>=λ(adD,Sx)=>
 (if adD=true then
 bu Sx 3>>=λ(E6,adE)=>
 aV adE 0 [40]>>=λ(KH,xK)=>
 (if KH=true then
 cV xK>>=λ(Yl,xL)=>
 cC 56 ([(ae.mk kq kr ku jB)]:List ae) Yl>>=λYm=>
 aG a1 xL.ao xL.bx xL.aw xL.av nM 20 0 E6 Ym
 else
 aG a1 xK.ao xK.bx xK.aw xK.av nM 8 0 E6 ([(ae.mk kq kr ku jB)]:List ae))
 else
 aV Sx 0 [40]>>=λ(adF,Sy)=>
 (if adF=true then
 cV Sy>>=λ(Yn,CF)=>
 cC 56 ([(ae.mk kq kr ku jB)]:List ae) Yn>>=λYo=>
 aG a1 CF.ao CF.bx CF.aw CF.av nM 19 0 [] Yo
 else
 some (.inr ((ae.mk kq kr ku jB),Sy)))))))
partial_fixpoint
def cW (oL:List ah) (oM:Int) (oN:Int) (mX:Bool) (lG:List ae) (eG:List ae):Option ty2:=
 (if mX=true then
 some (.inl (oL,oM,oN,mX,lG,eG))
 else
 a7 (ak.mk oL oM oN mX)>>=λ(ux,qk)=>
 (
 au qk [61,62]>>=λ(QC,uy)=>
 (if QC=true then
 a7 uy>>=λ(yU,w7)=>
 cC 56 ([ux]:List ae) [yU]>>=λKI=>
 some (w7.ao,w7.bx,w7.aw,w7.av,KI)
 else
 some (uy.ao,uy.bx,uy.aw,uy.av,([ux]:List ae)))
 :Option Ct)>>=λ(CG,CH,CI,CJ,sI)=>
 cC 56 eG [(ae.mk 6 0 [] sI)]>>=λCK=>
 au (ak.mk CG CH CI CJ) [93]>>=λ(QD,Gl)=>
 (if QD=true then
 some (.inr ((ae.mk 5 0 [] CK),Gl))
 else
 aI Gl [44]>>=λw8=>
 cW w8.ao w8.bx w8.aw w8.av lG CK))
partial_fixpoint
def cM (oO:List ah) (oP:Int) (oQ:Int) (mY:Bool) (kP:List ae):Option ty6:=
 (if mY=true then
 some (.inl (oO,oP,oQ,mY,kP))
 else
 a7 (ak.mk oO oP oQ mY)>>=λ(w9,QE)=>
 cC 56 kP [w9]>>=λCL=>
 au QE [41]>>=λ(QF,Gm)=>
 (if QF=true then
 some (.inr (CL,Gm))
 else
 aI Gm [44]>>=λxa=>
 cM xa.ao xa.bx xa.aw xa.av CL))
partial_fixpoint
end
def Yp (a0:ak) (r:ae×ak):Prop:=∀g1000:Nat,E7 124 a0 r g1000
def Yq (a0:ak) (a1:Int) (r:ae×ak):Prop:=∀g1000:Nat,asM 187 a0 a1 r g1000
def Yr (a0:ak) (r:ae×ak):Prop:=∀g1000:Nat,E7 189 a0 r g1000
def NV (a0:ak) (r:ae×ak):Prop:=∀g1000:Nat,E7 126 a0 r g1000
def Ys (a0:ak) (r:ae×ak):Prop:=∀g1000:Nat,E7 188 a0 r g1000
def Yt (a0:ak) (r:ae×ak):Prop:=∀g1000:Nat,E7 190 a0 r g1000
def Yu (a0:ak) (r:ae×ak):Prop:=∀g1000:Nat,E7 192 a0 r g1000
def Yv (a0:ak) (r:ae×ak):Prop:=∀g1000:Nat,E7 191 a0 r g1000
def KJ (a0:ak) (r:ae×ak):Prop:=∀g1000:Nat,E7 54 a0 r g1000
def Yw (a0:ak) (r:ae×ak):Prop:=∀g1000:Nat,E7 110 a0 r g1000
def Yx (a0:ak) (r:ae×ak):Prop:=∀g1000:Nat,E7 176 a0 r g1000
def Yy (a0:ak) (r:ae×ak):Prop:=∀g1000:Nat,E7 208 a0 r g1000
def NW (a0:ak) (r:ae×ak):Prop:=∀g1000:Nat,E7 222 a0 r g1000
def HX (a0:ak) (a1:Int) (r:ae×ak):Prop:=∀g1000:Nat,asM 232 a0 a1 r g1000
def Yz (a0:ak) (r:ae×ak):Prop:=∀g1000:Nat,E7 244 a0 r g1000
def YA (a0:ak) (a1:Bool) (r:ae×ak):Prop:=∀g1000:Nat,aDJ 212 a0 a1 r g1000
def YB (a0:ak) (r:ae×ak):Prop:=∀g1000:Nat,E7 224 a0 r g1000
def YC (a0:ak) (r:ae×ak):Prop:=∀g1000:Nat,E7 233 a0 r g1000
def NX (a0:ak) (r:(List ae)×ak):Prop:=∀g1000:Nat,ajh 225 a0 r g1000
inductive gr:(List ah)->Int->Int->Bool->(List ae)->(List ae)->ty8->Prop
 | mk (asN:ak->Option kN) (aIA:∀a0 r,asN a0=some r->NV a0 r) (kQ:(List ah)->Int->Int->Bool->(List ae)->(List ae)->Option ty8) (Jb:∀tq qa xB Bs BY tr o,kQ tq qa xB Bs BY tr=some o->gr tq qa xB Bs BY tr o) (tq:List ah) (qa:Int) (xB:Int) (Bs:Bool) (BY:List ae) (tr:List ae) (o:(List ah)×Int×Int×Bool×(List ae)×(List ae)) (h:(
 (if Bs=true then
 some (tq,qa,xB,Bs,BY,tr)
 else
 au (ak.mk tq qa xB Bs) [125]>>=λ(E3,v49)=>
 (if E3=true then
 some (v49.ao,v49.bx,v49.aw,v49.av,BY,tr)
 else
 au v49 [59]>>=λ(tt,v53)=>
 (if tt=true then
 kQ v53.ao v53.bx v53.aw v53.av BY tr
 else
 asN v53>>=λ(yD,zX)=>
 cC 56 tr [yD]>>=λYg=>
 kQ zX.ao zX.bx zX.aw zX.av BY Yg)))
 )=some o):gr tq qa xB Bs BY tr o
inductive jc:(List ah)->Int->Int->Bool->(List ae)->Int->Int->aD->(List ae)->Xx->Prop
 | mk (asO:ak->Option kN) (aIB:∀a0 r,asO a0=some r->NW a0 r) (ri:(List ah)->Int->Int->Bool->(List ae)->Int->Int->aD->(List ae)->Option Xx) (NY:∀xC xD xE xF sF uH uI uJ rM o,ri xC xD xE xF sF uH uI uJ rM=some o->jc xC xD xE xF sF uH uI uJ rM o) (xC:List ah) (xD:Int) (xE:Int) (xF:Bool) (sF:List ae) (uH:Int) (uI:Int) (uJ:aD) (rM:List ae) (o:(List ah)×Int×Int×Bool×(List ae)×Int×Int×aD×(List ae)) (h:(
 au (ak.mk xC xD xE xF) [124,124]>>=λ(NR,xG)=>
 (if NR=true then
 asO xG>>=λ(Yh,yR)=>
 ri yR.ao yR.bx yR.aw yR.av sF 12 0 [] ([(ae.mk uH uI uJ rM),Yh]:List ae)
 else
 some (xG.ao,xG.bx,xG.aw,xG.av,sF,uH,uI,uJ,rM))
 )=some o):jc xC xD xE xF sF uH uI uJ rM o
inductive il:(List ah)->Int->Int->Bool->(List ae)->Int->Int->aD->(List ae)->Xx->Prop
 | mk (YD:ak->Int->Option kN) (asP:∀a0 a1 r,YD a0 a1=some r->HX a0 a1 r) (ql:(List ah)->Int->Int->Bool->(List ae)->Int->Int->aD->(List ae)->Option Xx) (MC:∀xH kO xI xJ sG uK uL uM rN o,ql xH kO xI xJ sG uK uL uM rN=some o->il xH kO xI xJ sG uK uL uM rN o) (xH:List ah) (kO:Int) (xI:Int) (xJ:Bool) (sG:List ae) (uK:Int) (uL:Int) (uM:aD) (rN:List ae) (o:(List ah)×Int×Int×Bool×(List ae)×Int×Int×aD×(List ae)) (h:(
 au (ak.mk xH kO xI xJ) [38,38]>>=λ(adA,qW)=>
 (if adA=true then
 YD qW 6>>=λ(Yi,E4)=>
 ql E4.ao E4.bx E4.aw E4.av sG 11 0 [] ([(ae.mk uK uL uM rN),Yi]:List ae)
 else
 some (qW.ao,qW.bx,qW.aw,qW.av,sG,uK,uL,uM,rN))
 )=some o):il xH kO xI xJ sG uK uL uM rN o
inductive fN:Int->(List ah)->Int->Int->Bool->(List ae)->Int->Int->aD->(List ae)->ty0->Prop
 | mk (YD:ak->Int->Option kN) (asP:∀a0 a1 r,YD a0 a1=some r->HX a0 a1 r) (nP:Int->(List ah)->Int->Int->Bool->(List ae)->Int->Int->aD->(List ae)->Option ty0) (HY:∀a1 vo vq vr tK sH pO pP pQ om o,nP a1 vo vq vr tK sH pO pP pQ om=some o->fN a1 vo vq vr tK sH pO pP pQ om o) (a1:Int) (vo:List ah) (vq:Int) (vr:Int) (tK:Bool) (sH:List ae) (pO:Int) (pP:Int) (pQ:aD) (om:List ae) (o:Xx ⊕ kN) (h:(
 (if tK=true then
 some (.inl (vo,vq,vr,tK,sH,pO,pP,pQ,om))
 else
 cD (ak.mk vo vq vr tK) 0>>=λ(Ss,wT)=>
 lV Ss.aq>>=λCE=>
 (if Ss.ai=6 then
 (if CE=0 then
 some (.inr ((ae.mk pO pP pQ om),wT))
 else
 kJ CE>>=λNS=>
 (if NS=a1 then
 YD (ak.mk wT.ao (bm (wT.bx+1)) wT.aw wT.av) (bm (a1+1))>>=λ(Yj,E5)=>
 nP a1 E5.ao E5.bx E5.aw E5.av sH 10 CE [] ([(ae.mk pO pP pQ om),Yj]:List ae)
 else
 some (.inr ((ae.mk pO pP pQ om),wT))))
 else
 some (.inr ((ae.mk pO pP pQ om),wT))))
 )=some o):fN a1 vo vq vr tK sH pO pP pQ om o
inductive fq:Bool->(List ah)->Int->Int->Bool->(List ae)->Int->Int->aD->(List ae)->ty0->Prop
 | mk (G54:ak->Option kN) (asQ:∀a0 r,G54 a0=some r->KJ a0 r) (aji:ak->Option NQ) (aIC:∀a0 r,aji a0=some r->NX a0 r) (ft:Bool->(List ah)->Int->Int->Bool->(List ae)->Int->Int->aD->(List ae)->Option ty0) (Gn:∀a1 vt vu vv tL nM kq kr ku jB o,ft a1 vt vu vv tL nM kq kr ku jB=some o->fq a1 vt vu vv tL nM kq kr ku jB o) (a1:Bool) (vt:List ah) (vu:Int) (vv:Int) (tL:Bool) (nM:List ae) (kq:Int) (kr:Int) (ku:aD) (jB:List ae) (o:Xx ⊕ kN) (h:(
 (if tL=true then
 some (.inl (vt,vu,vv,tL,nM,kq,kr,ku,jB))
 else
 (
 aV (ak.mk vt vu vv tL) 0 [91]>>=λ(St,uN)=>
 (if St=true then
 aV uN 1 [93]>>=λ(Su,j3)=>
 (if Su=true then
 fg (ae.mk kq kr ku jB)>>=λSv=>
 (if Sv=true then
 some (j3.ao,j3.bx,j3.aw,j3.av,(!a1))
 else
 some (j3.ao,j3.bx,j3.aw,j3.av,false))
 else
 some (j3.ao,j3.bx,j3.aw,j3.av,false))
 else
 some (uN.ao,uN.bx,uN.aw,uN.av,false))
 :Option Sh)>>=λ(HT,HU,HV,HW,NT)=>
 (if NT=true then
 aI (ak.mk HT (bm (HU+2)) HV HW) [61]>>=λadB=>
 G54 adB>>=λ(Yk,NU)=>
 some (.inr ((ae.mk 16 0 [] ([(ae.mk kq kr ku jB),Yk]:List ae)),NU))
 else
 au (ak.mk HT HU HV HW) [91]>>=λ(KF,Sw)=>
 (if KF=true then
 G54 Sw>>=λ(KG,adC)=>
 aI adC [93]>>=λyT=>
 ft a1 yT.ao yT.bx yT.aw yT.av nM 7 0 [] ([(ae.mk kq kr ku jB),KG]:List ae)
 else
 au Sw [45,62]>>=λ(adD,Sx)=>
 (if adD=true then
 bu Sx 3>>=λ(E6,adE)=>
 aV adE 0 [40]>>=λ(KH,xK)=>
 (if KH=true then
 aji xK>>=λ(Yl,xL)=>
 cC 56 ([(ae.mk kq kr ku jB)]:List ae) Yl>>=λYm=>
 ft a1 xL.ao xL.bx xL.aw xL.av nM 20 0 E6 Ym
 else
 ft a1 xK.ao xK.bx xK.aw xK.av nM 8 0 E6 ([(ae.mk kq kr ku jB)]:List ae))
 else
 aV Sx 0 [40]>>=λ(adF,Sy)=>
 (if adF=true then
 aji Sy>>=λ(Yn,CF)=>
 cC 56 ([(ae.mk kq kr ku jB)]:List ae) Yn>>=λYo=>
 ft a1 CF.ao CF.bx CF.aw CF.av nM 19 0 [] Yo
 else
 some (.inr ((ae.mk kq kr ku jB),Sy)))))))
 )=some o):fq a1 vt vu vv tL nM kq kr ku jB o
inductive gK:(List ah)->Int->Int->Bool->(List ae)->(List ae)->ty2->Prop
 | mk (G54:ak->Option kN) (asQ:∀a0 r,G54 a0=some r->KJ a0 r) (pG:(List ah)->Int->Int->Bool->(List ae)->(List ae)->Option ty2) (KK:∀oL oM oN mX lG eG o,pG oL oM oN mX lG eG=some o->gK oL oM oN mX lG eG o) (oL:List ah) (oM:Int) (oN:Int) (mX:Bool) (lG:List ae) (eG:List ae) (o:ty8 ⊕ kN) (h:(
 (if mX=true then
 some (.inl (oL,oM,oN,mX,lG,eG))
 else
 G54 (ak.mk oL oM oN mX)>>=λ(ux,qk)=>
 (
 au qk [61,62]>>=λ(QC,uy)=>
 (if QC=true then
 G54 uy>>=λ(yU,w7)=>
 cC 56 ([ux]:List ae) [yU]>>=λKI=>
 some (w7.ao,w7.bx,w7.aw,w7.av,KI)
 else
 some (uy.ao,uy.bx,uy.aw,uy.av,([ux]:List ae)))
 :Option Ct)>>=λ(CG,CH,CI,CJ,sI)=>
 cC 56 eG [(ae.mk 6 0 [] sI)]>>=λCK=>
 au (ak.mk CG CH CI CJ) [93]>>=λ(QD,Gl)=>
 (if QD=true then
 some (.inr ((ae.mk 5 0 [] CK),Gl))
 else
 aI Gl [44]>>=λw8=>
 pG w8.ao w8.bx w8.aw w8.av lG CK))
 )=some o):gK oL oM oN mX lG eG o
inductive gL:(List ah)->Int->Int->Bool->(List ae)->ty6->Prop
 | mk (G54:ak->Option kN) (asQ:∀a0 r,G54 a0=some r->KJ a0 r) (pH:(List ah)->Int->Int->Bool->(List ae)->Option ty6) (KL:∀oO oP oQ mY kP o,pH oO oP oQ mY kP=some o->gL oO oP oQ mY kP o) (oO:List ah) (oP:Int) (oQ:Int) (mY:Bool) (kP:List ae) (o:Ct ⊕ NQ) (h:(
 (if mY=true then
 some (.inl (oO,oP,oQ,mY,kP))
 else
 G54 (ak.mk oO oP oQ mY)>>=λ(w9,QE)=>
 cC 56 kP [w9]>>=λCL=>
 au QE [41]>>=λ(QF,Gm)=>
 (if QF=true then
 some (.inr (CL,Gm))
 else
 aI Gm [44]>>=λxa=>
 pH xa.ao xa.bx xa.aw xa.av CL))
 )=some o):gL oO oP oQ mY kP o
theorem qm:(∀a0 r,bs a0=some r->Yp a0 r)/\(∀tq qa xB Bs BY tr o,cw tq qa xB Bs BY tr=some o->gr tq qa xB Bs BY tr o)/\(∀a0 r,aR a0=some r->NV a0 r)/\(∀a0 r,gF a0=some r->Yu a0 r)/\(∀a0 r,ia a0=some r->Yv a0 r)/\(∀a0 a1 r,bW a0 a1=some r->YA a0 a1 r)/\(∀a1 vt vu vv tL nM kq kr ku jB o,aG a1 vt vu vv tL nM kq kr ku jB=some o->fq a1 vt vu vv tL nM kq kr ku jB o)/\(∀a0 r,cV a0=some r->NX a0 r)/\(∀oO oP oQ mY kP o,cM oO oP oQ mY kP=some o->gL oO oP oQ mY kP o)/\(∀a0 r,a7 a0=some r->KJ a0 r)/\(∀a0 r,dj a0=some r->Yw a0 r)/\(∀a0 r,bY a0=some r->Yx a0 r)/\(∀a0 r,eN a0=some r->Yy a0 r)/\(∀xC xD xE xF sF uH uI uJ rM o,ca xC xD xE xF sF uH uI uJ rM=some o->jc xC xD xE xF sF uH uI uJ rM o)/\(∀a0 r,dF a0=some r->NW a0 r)/\(∀xH kO xI xJ sG uK uL uM rN o,bR xH kO xI xJ sG uK uL uM rN=some o->il xH kO xI xJ sG uK uL uM rN o)/\(∀a0 a1 r,bn a0 a1=some r->HX a0 a1 r)/\(∀a1 vo vq vr tK sH pO pP pQ om o,bI a1 vo vq vr tK sH pO pP pQ om=some o->fN a1 vo vq vr tK sH pO pP pQ om o)/\(∀a0 r,cy a0=some r->Yz a0 r)/\(∀a0 r,aH a0=some r->YB a0 r)/\(∀a0 r,gq a0=some r->YC a0 r)/\(∀oL oM oN mX lG eG o,cW oL oM oN mX lG eG=some o->gK oL oM oN mX lG eG o)/\(∀a0 r,ky a0=some r->Yt a0 r)/\(∀a0 r,gp a0=some r->Yr a0 r)/\(∀a0 r,fV a0=some r->Ys a0 r)/\(∀a0 a1 r,dE a0 a1=some r->Yq a0 a1 r):=by
 refine bs.mutual_partial_correctness Yp gr NV Yu Yv YA fq NX gL KJ Yw Yx Yy jc NW il HX fN Yz YB YC gK Yt Yr Ys Yq ?_ ?_ ?_ ?_ ?_ ?_ ?_ ?_ ?_ ?_ ?_ ?_ ?_ ?_ ?_ ?_ ?_ ?_ ?_ ?_ ?_ ?_ ?_ ?_ ?_ ?_
 intro _ aDK a0 r h g1000
 refine ep Tryz.func124 ?_
 refine .d (.d ⟨rfl,_,_,rfl,aj,(.d (bk h λv1 tu h=>(bK (aY tu) [0] ?_)))⟩)
 obtain ⟨o13,h,aDL⟩:=bd h
 refine .cut (λσ η=>∃l3,∃y4,∃y5,∃b6,∃l7,∃l10,∃f8:Nat->List PV,∃f11:Nat->List PV,DR ae.D l7.length f8 l7/\DR ae.D l10.length f11 l10/\(l3,y4,y5,b6,l7,l10)=o13/\σ=[(2,.aA 1 0 0 0),(3,.aA 3 0 0 0)]/\η=[.row g1000 4 1 67 (λ_=>[sl 4 ah.cells l3,pI y4,pI y5,.bool b6]),.row 0 4 1 29 (λ_=>[pI 0,pI 0,.str [],.own 2 0 0 l7.length]),.row 0 4 l7.length 29 f8,.row 0 4 1 29 (λ_=>[pI 48,pI 0,.str [],.own 4 0 0 l10.length]),.row 0 4 l10.length 29 f11]) ?_ ?_
 have aDM:=aDK _ _ _ _ _ _ _ h
 refine le (gr.rec (motive:=λtq qa xB Bs BY tr o65 _=>∀f21:Nat->List PV,∀f24:Nat->List PV,DR ae.D BY.length f21 BY->DR ae.D tr.length f24 tr->o13=o65->aK _ _ [(0,.aA 0 g1000 0 0),(2,.aA 1 0 0 0),(3,.aA 3 0 0 0)] [.row g1000 4 1 67 (λ_=>[sl 4 ah.cells tq,pI qa,pI xB,.bool Bs]),.row 0 4 1 29 (λ_=>[pI 0,pI 0,.str [],.own 2 0 0 BY.length]),.row 0 4 BY.length 29 f21,.row 0 4 1 29 (λ_=>[pI 48,pI 0,.str [],.own 4 0 0 tr.length]),.row 0 4 tr.length 29 f24]) ?_ aDM (λ_=>[]) (λ_=>[]) ((DR.nil (D:=ae.D)).self) ((DR.nil (D:=ae.D)).self) rfl) (tk [0,1,5,2,7] gP T5)
 intro _ aDN _ _ tq qa xB Bs BY tr o65 h adG f21 f24 d22 d25  ajj
 subst ajj
 refine aK.round (.d (.d ⟨rfl,rfl,rfl,_,rfl,(fP h (λCg h=>?_) (λCg h=>?_))⟩))
 refine .t ?_
 obtain ⟨⟨E3,v49⟩,NZ,h⟩:=bd h
 refine bK (az NZ) [0] ?_
 refine .t (.t (fP h (λHl h=>?_) (λHl h=>?_)))
 refine .d ?_
 obtain ⟨⟨tt,v53⟩,YE,h⟩:=bd h
 refine bK (az YE) [0] ?_
 refine fP h (λYF h=>?_) (λYF h=>?_)
 refine .float [(0,true),(1,true),(2,true),(3,false),(4,false),(5,false),(6,true),(7,false)] aNh ?_
 refine ⟨rfl,rfl,_,rfl,?_⟩
 obtain ⟨⟨yD,zX⟩,ajk,h⟩:=bd h
 refine bp (aDN _ _ ajk _) [0] λf59 d60=>?_
 refine ⟨rfl,rfl,_,bT,rfl,rfl,(bk h λYg CM h=>(.dO ⟨rfl,rfl,(λ_ _=>rfl),DR.rO d25 CM,Yg.length,da f24 tr.length [pI yD.ai,pI yD.aE,.str yD.aq,.own 5 0 0 yD.af.length],DR.ln d25 CM,cc (DR.ln d25 CM) ⟨.same _,.same _,.same _,.same _,trivial⟩,rfl,rfl,_,_,rfl,aj,(.ab 4 tr.length 3 5 _ (λ_=>pf (DR.lq d25 CM) (d60).po) λF63=>?_)⟩))⟩
 have d64:=DR.gu d25 CM (ae.bh (x:=yD) (F0:=F63) d60)
 exact lg (adG _ _ _ _ _ _ _ h f21 _ d22 d64 rfl) (tk [0,1,2,3,4] gP nQ)
 exact lg (adG _ _ _ _ _ _ _ h f21 f24 d22 d25 rfl) (tk [0,1,2,3,4] gP nQ)
 exact ct ⟨_,_,_,_,_,_,f21,f24,d22,d25,si h,rfl,rfl⟩ (tk [0,1,2,3,4] uO nQ)
 exact .f (.f (.f (.f (ct ⟨_,_,_,_,_,_,f21,f24,d22,d25,si h,rfl,rfl⟩ (tk [0,1,2,3,4] uO nQ)))))
 rintro _ _ ⟨l3,y4,y5,b6,l7,l10,f8,f11,d9,d12,rfl,rfl,rfl⟩
 replace h:=aDL
 refine .d ⟨rfl,_,rfl,rfl,_,_,rfl,aj,?_⟩
 obtain rfl:=si h
 exact ⟨rfl,_,rfl,(en [0,4] ⟨f11,d12.self,rfl,rfl⟩ eo kh)⟩
 intro F0 F1 n8 n9 tq qa xB Bs BY tr o h
 exact .mk F1 n9 F0 n8 tq qa xB Bs BY tr o h
 intro _ _ _ _ _ _ _ mn ajl ajm ajn N0 N1 zY a0 r h g1000
 refine ep Tryz.func126 ?_
 refine .d (.d ?_)
 obtain ⟨⟨v87,v88⟩,aDO,h⟩:=bd h
 refine bK (fJ aDO) [0] ?_
 refine ⟨rfl,_,_,rfl,aj,(.d (.d ⟨rfl,rfl,rfl,_,rfl,(sV h (λaDP h=>?_) (λaDP h=>?_))⟩))⟩
 refine .d ⟨rfl,_,_,rfl,aj,?_⟩
 exact aMp
 refine .d ⟨rfl,rfl,_,rfl,(sE h (λaiD h=>?_) (λaiD h=>?_))⟩
 refine .d ⟨rfl,rfl,rfl,_,rfl,rfl,rfl,rfl,_,_,rfl,aj,(.d ⟨rfl,rfl,_,rfl,rfl,_,_,rfl,aj,?_⟩)⟩
 exact aMp
 refine .d ?_
 obtain ⟨⟨v92,v93⟩,ajo,h⟩:=bd h
 refine bK (cr ajo) [0] ?_
 refine sV h (λUT h=>?_) (λUT h=>?_)
 refine .d ?_
 obtain ⟨⟨P6,v97⟩,aDQ,h⟩:=bd h
 refine bp (mn _ _ aDQ _) [0] λf99 d100=>?_
 refine ⟨rfl,_,_,rfl,aj,?_⟩
 obtain rfl:=si h
 exact ⟨rfl,_,rfl,(en [0,3] ⟨f99,d100.self,rfl,rfl⟩ eo kh)⟩
 refine .d ?_
 obtain ⟨⟨arW,aiU⟩,asR,h⟩:=bd h
 refine bK (az asR) [0] ?_
 refine sV h (λJr h=>?_) (λJr h=>?_)
 refine .d ?_
 obtain ⟨⟨v105,J4⟩,KM,h⟩:=bd h
 refine bp (zY _ _ _ KM _) [0] λf108 d109=>?_
 refine ⟨rfl,_,_,rfl,aj,?_⟩
 obtain rfl:=si h
 exact ⟨rfl,_,rfl,(en [0,3] ⟨f108,d109.self,rfl,rfl⟩ eo kh)⟩
 refine .d ?_
 obtain ⟨⟨W6,EV⟩,YG,h⟩:=bd h
 refine bK (cr YG) [0] ?_
 refine sV h (λYH h=>?_) (λYH h=>?_)
 refine .d ?_
 obtain ⟨⟨J5,Bj⟩,Ck,h⟩:=bd h
 refine bp (N1 _ _ Ck _) [0] λf117 d118=>?_
 refine ⟨rfl,_,_,rfl,aj,?_⟩
 obtain rfl:=si h
 exact ⟨rfl,_,rfl,(en [0,3] ⟨f117,d118.self,rfl,rfl⟩ eo kh)⟩
 refine .d ?_
 obtain ⟨⟨Se,vk⟩,YI,h⟩:=bd h
 refine bK (az YI) [0] ?_
 refine sV h (λasS h=>?_) (λasS h=>?_)
 refine .d ?_
 obtain ⟨⟨Ny,v124⟩,YJ,h⟩:=bd h
 refine bp (N0 _ _ YJ _) [0] λf126 d127=>?_
 refine ⟨rfl,_,_,rfl,aj,(.d (.float [(0,true),(1,true),(2,false),(3,false),(4,true),(5,false)] aNh ?_))⟩
 refine ⟨rfl,_,rfl,?_⟩
 obtain ⟨⟨aiV,Up⟩,U1,h⟩:=bd h
 refine bp (mn _ _ U1 _) [0] λf131 d132=>?_
 refine ⟨rfl,_,cm,rfl,_,_,rfl,aj,?_⟩
 obtain rfl:=si h
 refine ⟨rfl,_,rfl,(.ab 6 0 3 3 _ (λ_=>gN (d127).po) λaDR=>(.ab 6 1 3 5 _ (λ_=>gN (d132).po) λaDS=>?_))⟩
 have d135:=(DR.bS (ae.bh (x:=Ny) (F0:=aDR) d127) (DR.bS (ae.bh (x:=aiV) (F0:=aDS) d132) DR.cZ))
 exact en [0,6] (rs d135) eo kh
 refine .d ?_
 obtain ⟨⟨W7,aiW⟩,asT,h⟩:=bd h
 refine bK (az asT) [0] ?_
 refine sV h (λasU h=>?_) (λasU h=>?_)
 refine .d ?_
 obtain ⟨⟨W8,v141⟩,asV,h⟩:=bd h
 refine bp (ajn _ _ asV _) [0] λf143 d144=>?_
 refine ⟨rfl,_,_,rfl,aj,?_⟩
 obtain rfl:=si h
 exact ⟨rfl,_,rfl,(en [0,3] ⟨f143,d144.self,rfl,rfl⟩ eo kh)⟩
 refine .d ?_
 obtain ⟨⟨v145,v146⟩,asW,h⟩:=bd h
 refine bK (az asW) [0] ?_
 refine sV h (λasX h=>?_) (λasX h=>?_)
 refine .d (bk h λarX asY h=>(bK (aY asY) [0] ?_))
 refine .d ⟨rfl,_,_,rfl,aj,?_⟩
 exact aMp
 refine .d ?_
 obtain ⟨⟨Sf,v152⟩,asZ,h⟩:=bd h
 refine bK (az asZ) [0] ?_
 refine sV h (λJu h=>?_) (λJu h=>?_)
 refine .d (bk h λUs Va h=>(bK (aY Va) [0] ?_))
 refine .d ⟨rfl,_,_,rfl,aj,?_⟩
 exact aMp
 refine .d ?_
 obtain ⟨⟨v157,Sg⟩,as0,h⟩:=bd h
 refine bK (az as0) [0] ?_
 refine sV h (λas1 h=>?_) (λas1 h=>?_)
 refine .d (.d ?_)
 obtain ⟨⟨arY,v162⟩,as2,h⟩:=bd h
 refine bK (az as2) [0] ?_
 refine sV h (λJv h=>?_) (λJv h=>?_)
 refine .d ⟨rfl,_,_,rfl,aj,?_⟩
 exact aMp
 refine .d ?_
 obtain ⟨⟨Jn,arZ⟩,as3,h⟩:=bd h
 refine bp (zY _ _ _ as3 _) [0] λf168 d169=>?_
 refine ⟨rfl,_,_,rfl,aj,?_⟩
 obtain rfl:=si h
 exact ⟨rfl,_,rfl,(en [0,3] ⟨f168,d169.self,rfl,rfl⟩ eo kh)⟩
 refine .d ?_
 obtain ⟨⟨ar0,v171⟩,as4,h⟩:=bd h
 refine bK (az as4) [0] ?_
 refine sV h (λWm h=>?_) (λWm h=>?_)
 refine .d ?_
 obtain ⟨⟨VY,v175⟩,as5,h⟩:=bd h
 refine bK (cz as5) [0] ?_
 refine ⟨rfl,_,_,rfl,aj,(.d (bk h λJI JP h=>(bK (aY JP) [0] ?_)))⟩
 refine .d ⟨rfl,_,rfl,rfl,_,_,rfl,aj,?_⟩
 obtain rfl:=si h
 exact ⟨rfl,_,rfl,(en [0,5] ⟨_,(DR.nil (D:=ae.D)),rfl,rfl⟩ xb wU)⟩
 refine .d ?_
 obtain ⟨⟨ar1,aiX⟩,as6,h⟩:=bd h
 refine bK (az as6) [0] ?_
 refine sV h (λas7 h=>?_) (λas7 h=>?_)
 refine .d (bk h λv183 VR h=>(bK (aY VR) [0] ?_))
 refine .d ?_
 obtain ⟨⟨aiY,V2⟩,Wn,h⟩:=bd h
 refine bp (ajm _ _ Wn _) [0] λf188 d189=>?_
 refine ⟨_,cm,rfl,_,_,rfl,aj,(.d (bk h λEW as8 h=>(bK (aY as8) [0] ?_)))⟩
 refine .d (bk h λar2 as9 h=>(bK (aY as9) [0] ?_))
 refine .d ⟨rfl,_,rfl,rfl,_,_,rfl,aj,?_⟩
 obtain rfl:=si h
 refine ⟨rfl,_,rfl,(.ab 4 0 3 3 _ (λ_=>gN (d189).po) λaDT=>?_)⟩
 have d195:=(DR.bS (ae.bh (x:=aiY) (F0:=aDT) d189) DR.cZ)
 exact en [0,4] (rs d195) eo kh
 refine .d ?_
 obtain ⟨⟨v196,RR⟩,Ve,h⟩:=bd h
 refine bK (az Ve) [0] ?_
 refine sV h (λVf h=>?_) (λVf h=>?_)
 refine .d ?_
 obtain ⟨⟨ar3,v201⟩,ata,h⟩:=bd h
 refine bp (zY _ _ _ ata _) [0] λf203 d204=>?_
 refine ⟨rfl,_,_,rfl,aj,?_⟩
 obtain rfl:=si h
 exact ⟨rfl,_,rfl,(en [0,3] ⟨f203,d204.self,rfl,rfl⟩ eo kh)⟩
 refine .d ?_
 obtain ⟨⟨Nn,v206⟩,atb,h⟩:=bd h
 refine bK (az atb) [0] ?_
 refine sV h (λatc h=>?_) (λatc h=>?_)
 refine .d ?_
 obtain ⟨⟨ar4,v210⟩,atd,h⟩:=bd h
 refine bp (ajl _ _ atd _) [0] λf212 d213=>?_
 refine ⟨rfl,_,_,rfl,aj,?_⟩
 obtain rfl:=si h
 exact ⟨rfl,_,rfl,(en [0,3] ⟨f212,d213.self,rfl,rfl⟩ eo kh)⟩
 refine .d ?_
 obtain ⟨⟨JJ,tJ⟩,YK,h⟩:=bd h
 refine bK (az YK) [0] ?_
 refine sV h (λCc h=>?_) (λCc h=>?_)
 refine .d ?_
 obtain ⟨⟨v218,W9⟩,YL,h⟩:=bd h
 refine bp (zY _ _ _ YL _) [0] λf221 d222=>?_
 refine ⟨rfl,_,_,rfl,aj,?_⟩
 obtain rfl:=si h
 exact ⟨rfl,_,rfl,(en [0,3] ⟨f221,d222.self,rfl,rfl⟩ eo kh)⟩
 obtain ⟨aDU,h,ate⟩:=bd h
 refine .cut (λσ η=>∃Si,∃Sj,∃Sk,∃Sl,∃Xa,(Si,Sj,Sk,Sl,Xa)=aDU/\σ=[(0,.aA 0 g1000 0 0),(2,.aA 1 0 0 0),(120,.bool Xa)]/\η=[.row g1000 4 1 67 (λ_=>[sl 4 ah.cells Si,pI Sj,pI Sk,.bool Sl]),.row 0 4 1 29 (λ_=>[pI 0,pI 0,.str [],.own 2 0 0 0]),.row 0 4 0 29 (λ_=>[])]) ?_ ?_
 refine ⟨rfl,rfl,_,rfl,(sE h (λVj h=>?_) (λVj h=>?_))⟩
 refine ⟨rfl,(.t ⟨rfl,_,rfl,(.t (bk h λv232 atf h=>(b8 (cH atf) (.t (sV h (λWp h=>?_) (λWp h=>?_))))))⟩)⟩
 refine .t ?_
 obtain ⟨⟨adn,v236⟩,atg,h⟩:=bd h
 refine bK (cr atg) [0] ?_
 refine .t (sV h (λath h=>?_) (λath h=>?_))
 refine .t ?_
 obtain ⟨⟨ado,zM⟩,Wq,h⟩:=bd h
 refine bK (cr Wq) [0] ?_
 exact .t (ct ⟨_,_,_,_,_,si h,rfl,rfl⟩ (tk [0,1,5] Sz E8))
 exact .f (.f (ct ⟨_,_,_,_,_,si h,rfl,rfl⟩ (tk [0,1,5] Sz E8)))
 exact .f (.f (.f (.f (.f (ct ⟨_,_,_,_,_,si h,rfl,rfl⟩ (tk [0,1,5] Sz E8))))))
 exact .f (.f (.f (.f (.f (.f (.f (.f (.f (ct ⟨_,_,_,_,_,si h,rfl,rfl⟩ (tk [0,1,5] Sz E8))))))))))
 rintro _ _ ⟨Si,Sj,Sk,Sl,Xa,rfl,rfl,rfl⟩
 replace h:=ate
 refine sV h (λWr h=>?_) (λWr h=>?_)
 refine .d ?_
 obtain ⟨⟨HN,JK⟩,Ws,h⟩:=bd h
 refine bp (fC (g1000:=g1000) Ws) [0] λf246 d247=>?_
 refine ⟨rfl,_,_,rfl,aj,(.d ⟨rfl,rfl,rfl,_,rfl,rfl,rfl,rfl,_,_,rfl,aj,(.d ?_)⟩)⟩
 obtain ⟨⟨Xb,ar5⟩,ati,h⟩:=bd h
 refine bp (zY _ _ _ ati _) [0] λf251 d252=>?_
 refine ⟨rfl,_,_,rfl,aj,(.d ⟨rfl,_,rfl,_,cm,rfl,rfl,_,rfl,(bk h λar6 JR h=>(.move ⟨rfl,rfl,DR.jbd rfl d252.len JR,rfl,rfl,_,_,rfl,aj,(.d ⟨rfl,_,rfl,rfl,_,_,rfl,aj,?_⟩)⟩))⟩)⟩
 obtain rfl:=si h
 refine ⟨rfl,_,rfl,(.ab 7 0 3 3 _ (λ_=>abJ (d247).po) λaDV=>?_)⟩
 have d256:=(DR.MD (DR.bS (ae.bh (x:=HN) (F0:=aDV) d247) DR.cZ) d252 JR)
 exact en [0,7] (rs d256) eo kh
 refine .d ?_
 obtain ⟨⟨ar7,R7⟩,Wt,h⟩:=bd h
 refine bK (az Wt) [0] ?_
 refine sV h (λWu h=>?_) (λWu h=>?_)
 refine .d ?_
 obtain ⟨⟨ar8,ar9⟩,atj,h⟩:=bd h
 refine bK (cz atj) [0] ?_
 refine ⟨rfl,_,_,rfl,aj,(.d (bk h λasa atk h=>(bK (aY atk) [0] ?_)))⟩
 refine .d ⟨rfl,_,rfl,rfl,_,_,rfl,aj,?_⟩
 obtain rfl:=si h
 exact ⟨rfl,_,rfl,(en [0,5] ⟨_,(DR.nil (D:=ae.D)),rfl,rfl⟩ xb wU)⟩
 refine .d ?_
 obtain ⟨⟨asb,asc⟩,atl,h⟩:=bd h
 refine bp (zY _ _ _ atl _) [0] λf269 d270=>?_
 refine ⟨rfl,_,_,rfl,aj,?_⟩
 obtain rfl:=si h
 exact ⟨rfl,_,rfl,(en [0,3] ⟨f269,d270.self,rfl,rfl⟩ eo kh)⟩
 intro _ mn a0 r h g1000
 refine ep Tryz.func192 ?_
 refine .d (.d ?_)
 obtain ⟨⟨HQ,asj⟩,atm,h⟩:=bd h
 refine bp (mn _ _ atm _) [0] λaDW adH=>?_
 refine ⟨_,cm,rfl,_,_,rfl,aj,?_⟩
 obtain ⟨aDX,h,atn⟩:=bd h
 refine .cut (λσ η=>∃Xo,∃Xp,∃Xq,∃Xr,∃yQ,∃SA:Nat->List PV,DR ae.D yQ.length SA yQ/\(Xo,Xp,Xq,Xr,yQ)=aDX/\σ=[(0,.aA 0 g1000 0 0),(2,.aA 1 0 0 0),(3,.aA 3 0 0 0)]/\η=[.row g1000 4 1 67 (λ_=>[sl 4 ah.cells Xo,pI Xp,pI Xq,.bool Xr]),.row 0 4 1 29 (λ_=>[pI 0,pI 0,.str [],.own 2 0 0 0]),.row 0 4 0 29 (λ_=>[]),.row 0 4 1 29 (λ_=>[pI 43,pI 0,.str [],.own 4 0 0 yQ.length]),.row 0 4 yQ.length 29 SA]) ?_ ?_
 refine .d ?_
 obtain ⟨⟨ND,wR⟩,YM,h⟩:=bd h
 refine bK (az YM) [0] ?_
 refine sV h (λYN h=>?_) (λYN h=>?_)
 refine .d (bk h λJ7 ato h=>(bK (aY ato) [0] ?_))
 refine .d ?_
 obtain ⟨⟨Sp,adq⟩,atp,h⟩:=bd h
 refine bK (cz atp) [0] ?_
 refine ⟨rfl,_,_,rfl,aj,(.d (.float [(0,true),(1,true),(2,true),(3,false),(4,false),(5,false),(6,true),(7,false)] aNh ?_))⟩
 refine ⟨rfl,rfl,_,rfl,?_⟩
 obtain ⟨⟨qi,adr⟩,atq,h⟩:=bd h
 refine bp (fC (g1000:=g1000) atq) [0] λajp atr=>?_
 refine ⟨rfl,rfl,_,bT,rfl,rfl,?_⟩
 obtain ⟨_,ats,h⟩:=bd h
 refine .dO ⟨rfl,(λ_ _=>rfl),wA ats,1,da (λ_=>[]) 0 [pI qi.ai,pI qi.aE,.str qi.aq,.own 6 0 0 qi.af.length],rfl,HZ rfl ⟨.same _,.same _,.same _,.same _,trivial⟩,rfl,rfl,_,_,rfl,aj,(.d (bk h λads att h=>(bK (aY att) [0] ?_)))⟩
 refine .ab 8 0 3 6 _ (λ_=>pf (aKe 0) (atr).po) λajq=>(.ab 3 0 3 2 _ (λ_=>gN (adH).po) λatu=>(.d (.float [(0,true),(1,true),(2,true),(3,false),(4,false),(5,false),(6,true),(7,false)] aNh ?_)))
 refine ⟨rfl,rfl,_,rfl,?_⟩
 obtain ⟨⟨HR,E2⟩,atv,h⟩:=bd h
 refine bp (mn _ _ atv _) [0] λaI9 atw=>?_
 refine ⟨rfl,rfl,_,bT,rfl,rfl,?_⟩
 have YO:DR ae.D 1 (da (λ_=>[]) 0 [pI qi.ai,pI qi.aE,.str qi.aq,.dI 4 qi.af.length 29 ajp ajq]) [qi]:=DR.app DR.nil (ae.bh (x:=qi) atr:ae.D [pI qi.ai,pI qi.aE,.str qi.aq,.dI 4 qi.af.length 29 ajp ajq] qi)
 refine bk h λNF KN h=>(.dO ⟨rfl,rfl,(λ_ _=>rfl),DR.rO YO KN,NF.length,da (da (λ_=>[]) 0 [pI qi.ai,pI qi.aE,.str qi.aq,.dI 4 qi.af.length 29 ajp ajq]) 1 [pI HR.ai,pI HR.aE,.str HR.aq,.own 9 0 0 HR.af.length],DR.ln YO KN,cc (DR.ln YO KN) ⟨.same _,.same _,.same _,.same _,trivial⟩,rfl,rfl,_,_,rfl,aj,rfl,rfl,_,rfl,rfl,_,rfl,_,bT,?_⟩)
 have YP:=(DR.bS (ae.bh (x:=HQ) (F0:=atu) adH) DR.cZ)
 refine bk h λXn KO h=>(.dO ⟨rfl,rfl,(λ_ _=>rfl),DR.rO YP KO,Xn.length,da (jr [[pI HQ.ai,pI HQ.aE,.str HQ.aq,.dI 4 HQ.af.length 29 aDW atu]]) 1 [pI 44,pI 0,.str Sp,.own 8 (0+1) 0 NF.length],DR.ln YP KO,cc (DR.ln YP KO) ⟨.same _,.same _,.same _,.same _,trivial⟩,rfl,rfl,_,_,rfl,aj,(.ab 8 1 3 9 _ (λ_=>pf (DR.lq YO KN) (atw).po) λaDY=>?_)⟩)
 have atx:=DR.gu YO KN (ae.bh (x:=HR) (F0:=aDY) atw)
 refine .ab 3 1 3 8 _ (λ_=>pf (DR.lq YP KO) (atx).po) λaDZ=>?_
 have aty:=DR.gu YP KO (ae.bh (x:=(ae.mk 44 0 Sp NF)) (F0:=aDZ) atx)
 exact ct ⟨_,_,_,_,_,_,aty,si h,rfl,rfl⟩ (tk [0,1,14,4,3] gP ED)
 refine .ab 3 0 3 2 _ (λ_=>gN (adH).po) λaD0=>?_
 have aD1:=(DR.bS (ae.bh (x:=HQ) (F0:=aD0) adH) DR.cZ)
 exact ct ⟨_,_,_,_,_,_,aD1.self,si h,rfl,rfl⟩ (tk [0,1,7,4,3] gP ED)
 rintro _ _ ⟨Xo,Xp,Xq,Xr,yQ,SA,H0,rfl,rfl,rfl⟩
 replace h:=atn
 refine .d (.d ?_)
 obtain ⟨⟨asl,Ca⟩,VL,h⟩:=bd h
 refine bK (az VL) [0] ?_
 refine sV h (λVM h=>?_) (λVM h=>?_)
 refine .float [(0,true),(1,true),(2,true),(3,false),(4,false),(5,true),(6,false),(7,false),(8,true),(9,false)] aNh ?_
 refine ⟨rfl,rfl,_,rfl,?_⟩
 obtain ⟨⟨Sq,Xs⟩,atz,h⟩:=bd h
 refine bp (mn _ _ atz _) [0] λaJa adI=>?_
 refine ⟨rfl,rfl,_,cm,rfl,rfl,_,bT,rfl,rfl,(bk h λXt CN h=>(.dO ⟨rfl,rfl,(λ_ _=>rfl),DR.rO H0 CN,Xt.length,da SA yQ.length [pI 45,pI 0,.str [],.own 6 0 0 1],DR.ln H0 CN,cc (DR.ln H0 CN) ⟨.same _,.same _,.same _,.same _,trivial⟩,rfl,rfl,_,_,rfl,aj,(.d (.d ⟨rfl,?_⟩))⟩))⟩
 refine ⟨rfl,_,rfl,rfl,(sE h (λVO h=>?_) (λVO h=>?_))⟩
 refine ⟨rfl,rfl,rfl,_,_,rfl,aj,(.d ⟨rfl,_,rfl,rfl,_,_,rfl,aj,?_⟩)⟩
 obtain rfl:=si h
 refine ⟨rfl,_,rfl,(.ab 6 0 3 5 _ (λ_=>gN (adI).po) λaD2=>?_)⟩
 have KP:=(DR.bS (ae.bh (x:=Sq) (F0:=aD2) adI) DR.cZ)
 refine .ab 4 yQ.length 3 6 _ (λ_=>pf (DR.lq H0 CN) (KP).po) λaD3=>?_
 have aD4:=DR.gu H0 CN (ae.bh (x:=(ae.mk 45 0 [] ([Sq]:List ae))) (F0:=aD3) KP)
 exact en [0,4] (rs aD4) eo kh
 refine .d ⟨rfl,_,rfl,rfl,_,_,rfl,aj,?_⟩
 obtain rfl:=si h
 refine ⟨rfl,_,rfl,(.ab 6 0 3 5 _ (λ_=>gN (adI).po) λaD5=>?_)⟩
 have atB:=(DR.bS (ae.bh (x:=Sq) (F0:=aD5) adI) DR.cZ)
 refine .ab 4 yQ.length 3 6 _ (λ_=>pf (DR.lq H0 CN) (atB).po) λaD6=>?_
 have CO:=DR.gu H0 CN (ae.bh (x:=(ae.mk 45 0 [] ([Sq]:List ae))) (F0:=aD6) atB)
 exact en [0,4] (rs CO) eo kh
 refine .d (.d ⟨rfl,rfl,_,rfl,rfl,(sE h (λatC h=>?_) (λatC h=>?_))⟩)
 refine ⟨rfl,rfl,rfl,_,_,rfl,aj,(.d ⟨rfl,_,rfl,rfl,_,_,rfl,aj,?_⟩)⟩
 obtain rfl:=si h
 exact ⟨rfl,_,rfl,(en [0,4] ⟨SA,H0.self,rfl,rfl⟩ eo kh)⟩
 refine .d ⟨rfl,_,rfl,rfl,_,_,rfl,aj,?_⟩
 obtain rfl:=si h
 exact ⟨rfl,_,rfl,(en [0,4] ⟨SA,H0.self,rfl,rfl⟩ eo kh)⟩
 intro _ N2 a0 r h g1000
 refine ep Tryz.func191 ?_
 refine .d (.d ?_)
 obtain ⟨⟨Xu,NG⟩,atD,h⟩:=bd h
 refine bp (N2 _ _ _ atD _) [0] λajr adJ=>?_
 refine ⟨rfl,_,_,rfl,aj,(.d (.d ⟨rfl,rfl,rfl,_,rfl,(fP h (λatF h=>?_) (λatF h=>?_))⟩))⟩
 refine ⟨rfl,_,rfl,(.t (bk h λasm atG h=>(T6 (lT atG) ⟨.kR ⟨.i,.i,.s,(.rd adJ),⟨⟩⟩,⟨⟩⟩ (.t (.t (fP h (λatH h=>?_) (λatH h=>?_)))))))⟩
 refine ⟨rfl,rfl,rfl,_,_,rfl,aj,(.d ⟨rfl,_,rfl,rfl,_,_,rfl,aj,?_⟩)⟩
 exact aMz
 refine .d ⟨rfl,_,rfl,rfl,_,_,rfl,aj,?_⟩
 exact aMz
 refine .f (.f (.f (.f (.d ⟨rfl,_,rfl,rfl,_,_,rfl,aj,?_⟩))))
 exact aMz
 intro _ _ atI ajs a0 a1 r h g1000
 refine ep Tryz.func212 ?_
 refine .d (.d ?_)
 obtain ⟨⟨XW,xz⟩,atJ,h⟩:=bd h
 refine bp (ajs _ _ atJ _) [0] λaD7 aD8=>?_
 refine ⟨rfl,_,_,rfl,aj,?_⟩
 obtain ⟨adx,h,YQ⟩:=bd h
 refine .cut (λσ η=>∃XX,∃XY,∃Cy,∃XZ,∃NK,∃X0,∃X1,∃X2,∃Ke,∃ajt:Nat->List PV,∃adK:Nat->List PV,DR ae.D NK.length ajt NK/\DR ae.D Ke.length adK Ke/\.inl (XX,XY,Cy,XZ,NK,X0,X1,X2,Ke)=adx/\σ=[(4,.aA 1 0 0 0),(5,.aA 3 0 0 0)]/\η=[.row g1000 4 1 67 (λ_=>[sl 4 ah.cells XX,pI XY,pI Cy,.bool XZ]),.row 0 4 1 29 (λ_=>[pI 0,pI 0,.str [],.own 2 0 0 NK.length]),.row 0 4 NK.length 29 ajt,.row 0 4 1 29 (λ_=>[pI X0,pI X1,.str X2,.own 4 0 0 Ke.length]),.row 0 4 Ke.length 29 adK]) ?_ ?_
 have atK:=atI _ _ _ _ _ _ _ _ _ _ _ h
 refine le (fq.rec (motive:=λatL vt vu vv tL nM kq kr ku jB atM _=>∀CP:Nat->List PV,∀SB:Nat->List PV,DR ae.D nM.length CP nM->DR ae.D jB.length SB jB->a1=atL->adx=atM->aK _ _ [(0,.aA 0 g1000 0 0),(1,.bool a1),(4,.aA 1 0 0 0),(5,.aA 3 0 0 0)] [.row g1000 4 1 67 (λ_=>[sl 4 ah.cells vt,pI vu,pI vv,.bool tL]),.row 0 4 1 29 (λ_=>[pI 0,pI 0,.str [],.own 2 0 0 nM.length]),.row 0 4 nM.length 29 CP,.row 0 4 1 29 (λ_=>[pI kq,pI kr,.str ku,.own 4 0 0 jB.length]),.row 0 4 jB.length 29 SB]) ?_ atK (λ_=>[]) aD7 ((DR.nil (D:=ae.D)).self) aD8 rfl rfl) (tk [0,1,6,3,2] yV ED)
 intro _ agF _ QG _ _ atL vt vu vv tL nM kq kr ku jB atM h Gp CP SB N3 vw adL atN
 subst adL
 subst atN
 refine aK.round (.d (.d ⟨rfl,rfl,rfl,_,rfl,(fP h (λatO h=>?_) (λatO h=>?_))⟩))
 obtain ⟨aD9,h,atP⟩:=bd h
 refine .cut (λσ η=>∃HT,∃HU,∃HV,∃HW,∃NT,(HT,HU,HV,HW,NT)=aD9/\σ=[(0,.aA 0 g1000 0 0),(1,.bool a1),(4,.aA 1 0 0 0),(5,.aA 3 0 0 0),(15,.bool NT)]/\η=[.row g1000 4 1 67 (λ_=>[sl 4 ah.cells HT,pI HU,pI HV,.bool HW]),.row 0 4 1 29 (λ_=>[pI 0,pI 0,.str [],.own 2 0 0 nM.length]),.row 0 4 nM.length 29 CP,.row 0 4 1 29 (λ_=>[pI kq,pI kr,.str ku,.own 4 0 0 jB.length]),.row 0 4 jB.length 29 SB]) ?_ ?_
 obtain ⟨⟨St,uN⟩,atQ,h⟩:=bd h
 refine bK (cr atQ) [0] ?_
 refine sV h (λatT h=>?_) (λatT h=>?_)
 refine .t ?_
 obtain ⟨⟨Su,j3⟩,atU,h⟩:=bd h
 refine bK (cr atU) [0] ?_
 refine .t (sV h (λatV h=>?_) (λatV h=>?_))
 refine ⟨rfl,_,rfl,(.t (bk h λSv atW h=>(T6 (lT atW) ⟨.kR ⟨.i,.i,.s,(.rd vw),⟨⟩⟩,⟨⟩⟩ (.t (sV h (λatX h=>?_) (λatX h=>?_))))))⟩
 exact .t (.t (ct ⟨_,_,_,_,_,si h,rfl,rfl⟩ (tk [0,1,2,3,4] adM nQ)))
 exact .f (.f (ct ⟨_,_,_,_,_,si h,rfl,rfl⟩ (tk [0,1,2,3,4] adM nQ)))
 exact .f (.f (.f (.f (.f (ct ⟨_,_,_,_,_,si h,rfl,rfl⟩ (tk [0,1,2,3,4] adM nQ))))))
 exact .f (.f (.f (.f (.f (.f (.f (.f (ct ⟨_,_,_,_,_,si h,rfl,rfl⟩ (tk [0,1,2,3,4] adM nQ)))))))))
 rintro _ _ ⟨HT,HU,HV,HW,NT,rfl,rfl,rfl⟩
 replace h:=atP
 refine sV h (λatY h=>?_) (λatY h=>?_)
 refine .d ⟨rfl,rfl,rfl,_,rfl,rfl,rfl,rfl,_,_,rfl,aj,(.d (bk h λadB atZ h=>(bK (aY atZ) [0] ?_)))⟩
 refine .d (.float [(0,true),(1,true),(2,false),(3,false),(4,true),(5,false)] aNh ?_)
 refine ⟨rfl,_,rfl,?_⟩
 obtain ⟨⟨Yk,NU⟩,at1,h⟩:=bd h
 refine bp (agF _ _ at1 _) [0] λaJb at2=>?_
 refine ⟨rfl,_,cm,rfl,_,_,rfl,aj,?_⟩
 obtain rfl:=si h
 replace h:=YQ
 obtain rfl:=si h
 refine ⟨rfl,_,rfl,(.ab 6 0 3 4 _ (λ_=>gN (vw).po) λaEa=>(.ab 6 1 3 5 _ (λ_=>gN (at2).po) λaEb=>?_))⟩
 have aEc:=(DR.bS (ae.bh (x:=(ae.mk kq kr ku jB)) (F0:=aEa) vw) (DR.bS (ae.bh (x:=Yk) (F0:=aEb) at2) DR.cZ))
 exact en [0,6] (rs aEc) eo kh
 refine .d ?_
 obtain ⟨⟨KF,Sw⟩,at3,h⟩:=bd h
 refine bK (az at3) [0] ?_
 refine sV h (λat4 h=>?_) (λat4 h=>?_)
 refine .d (.float [(0,true),(1,true),(2,false),(3,false),(4,true),(5,false)] aNh ?_)
 refine ⟨rfl,_,rfl,?_⟩
 obtain ⟨⟨KG,adC⟩,at6,h⟩:=bd h
 refine bp (agF _ _ at6 _) [0] λaJc at7=>?_
 refine ⟨rfl,_,cm,rfl,_,_,rfl,aj,(bk h λyT YR h=>(bK (aY YR) [0] ?_))⟩
 refine .ab 6 0 3 4 _ (λ_=>gN (vw).po) λaEd=>(.ab 6 1 3 5 _ (λ_=>gN (at7).po) λaEe=>?_)
 have aEf:=(DR.bS (ae.bh (x:=(ae.mk kq kr ku jB)) (F0:=aEd) vw) (DR.bS (ae.bh (x:=KG) (F0:=aEe) at7) DR.cZ))
 exact lg (Gp _ _ _ _ _ _ _ _ _ _ _ h CP _ N3 aEf.self rfl rfl) (tk [0,1,2,3,6] yV nQ)
 refine .d ?_
 obtain ⟨⟨adD,Sx⟩,aua,h⟩:=bd h
 refine bK (az aua) [0] ?_
 refine sV h (λaub h=>?_) (λaub h=>?_)
 refine .d ?_
 obtain ⟨⟨E6,adE⟩,auc,h⟩:=bd h
 refine bK (cz auc) [0] ?_
 refine .d ?_
 obtain ⟨⟨KH,xK⟩,YS,h⟩:=bd h
 refine bK (cr YS) [0] ?_
 refine sV h (λaud h=>?_) (λaud h=>?_)
 refine .CQ [([(0,true),(1,true),(3,true)],2,4,[(2,false),(5,false),(6,true),(7,false)])] [(4,false),(5,false),(6,true),(7,false)] aNh ?_
 refine ⟨rfl,_,rfl,?_,?_⟩
 refine ⟨_,cm,?_⟩
 obtain ⟨⟨Yl,xL⟩,YT,h⟩:=bd h
 refine bp (QG _ _ YT _) [0] λaEg YU=>?_
 refine ⟨rfl,(bk h λYm KQ h=>(.move ⟨rfl,rfl,DR.jbd rfl YU.len KQ,rfl,_,_,rfl,aj,(.ab 5 0 3 4 _ (λ_=>abJ (vw).po) λYV=>?_)⟩))⟩
 have YW:=(DR.MD (DR.bS (ae.bh (x:=(ae.mk kq kr ku jB)) (F0:=YV) vw) DR.cZ) YU KQ)
 exact lg (Gp _ _ _ _ _ _ _ _ _ _ _ h CP _ N3 YW.self rfl rfl) (tk [0,1,2,3,5] yV nQ)
 obtain ⟨⟨Yl,xL⟩,YT,h⟩:=bd h
 refine bp (QG _ _ YT _) [0] λaEg YU=>?_
 refine ⟨rfl,_,cm,(bk h λYm KQ h=>(.move ⟨rfl,rfl,DR.jbd rfl YU.len KQ,rfl,_,_,rfl,aj,(.ab 6 0 3 4 _ (λ_=>abJ (vw).po) λYV=>?_)⟩))⟩
 have YW:=(DR.MD (DR.bS (ae.bh (x:=(ae.mk kq kr ku jB)) (F0:=YV) vw) DR.cZ) YU KQ)
 exact lg (Gp _ _ _ _ _ _ _ _ _ _ _ h CP _ N3 YW.self rfl rfl) (tk [0,1,2,3,6] yV nQ)
 refine ⟨rfl,_,rfl,_,cm,rfl,_,_,rfl,aj,(.ab 5 0 3 4 _ (λ_=>gN (vw).po) λaEh=>?_)⟩
 have aEi:=(DR.bS (ae.bh (x:=(ae.mk kq kr ku jB)) (F0:=aEh) vw) DR.cZ)
 exact lg (Gp _ _ _ _ _ _ _ _ _ _ _ h CP _ N3 aEi.self rfl rfl) (tk [0,1,2,3,5] yV nQ)
 refine .d ?_
 obtain ⟨⟨adF,Sy⟩,aue,h⟩:=bd h
 refine bK (cr aue) [0] ?_
 refine sV h (λauf h=>?_) (λauf h=>?_)
 refine .CQ [([(0,true),(2,true)],1,3,[(1,false),(4,false),(5,true),(6,false)])] [(3,false),(4,false),(5,true),(6,false)] aNh ?_
 refine ⟨rfl,_,rfl,?_,?_⟩
 refine ⟨_,cm,?_⟩
 obtain ⟨⟨Yn,CF⟩,YX,h⟩:=bd h
 refine bp (QG _ _ YX _) [0] λaEj YY=>?_
 refine ⟨rfl,(bk h λYo KR h=>(.move ⟨rfl,rfl,DR.jbd rfl YY.len KR,rfl,_,_,rfl,aj,(.ab 5 0 3 4 _ (λ_=>abJ (vw).po) λaju=>?_)⟩))⟩
 have ajv:=(DR.MD (DR.bS (ae.bh (x:=(ae.mk kq kr ku jB)) (F0:=aju) vw) DR.cZ) YY KR)
 exact lg (Gp _ _ _ _ _ _ _ _ _ _ _ h CP _ N3 ajv.self rfl rfl) (tk [0,1,2,3,5] yV nQ)
 obtain ⟨⟨Yn,CF⟩,YX,h⟩:=bd h
 refine bp (QG _ _ YX _) [0] λaEj YY=>?_
 refine ⟨rfl,_,cm,(bk h λYo KR h=>(.move ⟨rfl,rfl,DR.jbd rfl YY.len KR,rfl,_,_,rfl,aj,(.ab 6 0 3 4 _ (λ_=>abJ (vw).po) λaju=>?_)⟩))⟩
 have ajv:=(DR.MD (DR.bS (ae.bh (x:=(ae.mk kq kr ku jB)) (F0:=aju) vw) DR.cZ) YY KR)
 exact lg (Gp _ _ _ _ _ _ _ _ _ _ _ h CP _ N3 ajv.self rfl rfl) (tk [0,1,2,3,6] yV nQ)
 refine .d ⟨rfl,_,rfl,rfl,_,_,rfl,aj,?_⟩
 obtain rfl:=si h
 replace h:=YQ
 obtain rfl:=si h
 exact ⟨rfl,_,rfl,(en [0,4] ⟨SB,vw.self,rfl,rfl⟩ eo kh)⟩
 exact ct ⟨_,_,_,_,_,_,_,_,_,CP,SB,N3,vw,si h,rfl,rfl⟩ (tk [0,1,2,3,4] uO nQ)
 rintro _ _ ⟨XX,XY,Cy,XZ,NK,X0,X1,X2,Ke,ajt,adK,aJd,aEk,rfl,rfl,rfl⟩
 replace h:=YQ
 refine .d ⟨rfl,_,rfl,rfl,_,_,rfl,aj,?_⟩
 obtain rfl:=si h
 exact ⟨rfl,_,rfl,(en [0,4] ⟨adK,aEk.self,rfl,rfl⟩ eo kh)⟩
 intro F0 F1 F2 n8 n9 hF2 a1 vt vu vv tL nM kq kr ku jB o h
 exact .mk F2 hF2 F1 n9 F0 n8 a1 vt vu vv tL nM kq kr ku jB o h
 intro _ ajw a0 r h g1000
 refine ep Tryz.func225 ?_
 refine .d (.d ⟨(jr []),(λi h=>absurd h (aKR i)),(.d (bk h λagD ajx h=>(bK (aY ajx) [0] ?_)))⟩)
 refine .d (.d ?_)
 obtain ⟨⟨agE,Gk⟩,ajy,h⟩:=bd h
 refine bK (az ajy) [0] ?_
 refine sV h (λajz h=>?_) (λajz h=>?_)
 refine .d ?_
 obtain rfl:=si h
 have aug:DR ae.D 0 (jr []) ([]:List ae):=DR.cZ
 exact en [0,1] (rs aug) (.oe) kh
 obtain ⟨QB,h,YZ⟩:=bd h
 refine .cut (λσ η=>∃KB,∃KC,∃KD,∃KE,∃AY,∃QH:Nat->List PV,DR ae.D AY.length QH AY/\.inl (KB,KC,KD,KE,AY)=QB/\σ=[(3,.own 1 0 0 AY.length)]/\η=[.row g1000 4 1 67 (λ_=>[sl 4 ah.cells KB,pI KC,pI KD,.bool KE]),.row 0 4 AY.length 29 QH]) ?_ ?_
 have auh:DR ae.D 0 (jr []) ([]:List ae):=DR.cZ
 have ajA:=ajw _ _ _ _ _ _ h
 refine le (gL.rec (motive:=λoO oP oQ mY kP agG _=>∀KS:Nat->List PV,DR ae.D kP.length KS kP->QB=agG->aK _ _ [(0,.aA 0 g1000 0 0),(3,.own 1 0 0 kP.length)] [.row g1000 4 1 67 (λ_=>[sl 4 ah.cells oO,pI oP,pI oQ,.bool mY]),.row 0 4 kP.length 29 KS]) ?_ ajA (jr []) auh.self rfl) (tk [0,1] H2 zZ)
 intro _ ajB _ _ oO oP oQ mY kP agG h ajC KS AZ  ajD
 subst ajD
 refine aK.round (.d (.d ⟨rfl,rfl,rfl,_,rfl,(fP h (λajE h=>?_) (λajE h=>?_))⟩))
 refine .d ?_
 obtain ⟨⟨w9,QE⟩,ajF,h⟩:=bd h
 refine bp (ajB _ _ ajF _) [0] λaID QI=>?_
 refine ⟨_,bT,(bk h λCL xM h=>(.dO ⟨rfl,rfl,(λ_ _=>rfl),DR.rO AZ xM,CL.length,da KS kP.length [pI w9.ai,pI w9.aE,.str w9.aq,.own 2 0 0 w9.af.length],DR.ln AZ xM,cc (DR.ln AZ xM) ⟨.same _,.same _,.same _,.same _,trivial⟩,(.d (.d ?_))⟩))⟩
 obtain ⟨⟨QF,Gm⟩,ajG,h⟩:=bd h
 refine bK (az ajG) [0] ?_
 refine sV h (λajH h=>?_) (λajH h=>?_)
 refine .d ?_
 obtain rfl:=si h
 replace h:=YZ
 obtain rfl:=si h
 refine .ab 1 kP.length 3 2 _ (λ_=>pf (DR.lq AZ xM) (QI).po) λaui=>?_
 have auj:=DR.gu AZ xM (ae.bh (x:=w9) (F0:=aui) QI)
 exact en [0,1] (rs auj) (.oe) kh
 refine bk h λxa ajI h=>(bK (aY ajI) [0] ?_)
 refine .ab 1 kP.length 3 2 _ (λ_=>pf (DR.lq AZ xM) (QI).po) λauk=>?_
 have aul:=DR.gu AZ xM (ae.bh (x:=w9) (F0:=auk) QI)
 exact lg (ajC _ _ _ _ _ _ h _ aul rfl) (tk [0,1] H2 zZ)
 exact ct ⟨_,_,_,_,_,KS,AZ,si h,rfl,rfl⟩ (tk [0,1] ⟨.oe,⟨⟩⟩ zZ)
 rintro _ _ ⟨KB,KC,KD,KE,AY,QH,aum,rfl,rfl,rfl⟩
 replace h:=YZ
 refine .d ?_
 obtain rfl:=si h
 exact en [0,1] ⟨QH,aum.self,rfl,rfl⟩ (.oe) kh
 intro F0 F1 n8 n9 oO oP oQ mY kP o h
 exact .mk F1 n9 F0 n8 oO oP oQ mY kP o h
 intro _ _ sJ N4 a0 r h g1000
 refine ep Tryz.func54 ?_
 refine .d (.d ⟨rfl,rfl,rfl,_,rfl,(.d ?_)⟩)
 obtain ⟨⟨Bo,adt⟩,aun,h⟩:=bd h
 refine bp (N4 _ _ aun _) [0] λajJ E9=>?_
 refine ⟨rfl,_,_,rfl,aj,(.d (.d ⟨rfl,rfl,rfl,_,rfl,(sV h (λauo h=>?_) (λauo h=>?_))⟩))⟩
 refine .t (.t (.t (.t (.t (.t (.t (.t (.d ⟨rfl,_,rfl,rfl,_,_,rfl,aj,?_⟩))))))))
 exact aMA
 refine .f ?_
 obtain ⟨⟨asn,vm⟩,aup,h⟩:=bd h
 refine bK (cr aup) [0] ?_
 refine .f (.f (fP h (λauq h=>?_) (λauq h=>?_)))
 refine .t (.t (.t (.t (.d ⟨rfl,_,rfl,rfl,_,_,rfl,aj,?_⟩))))
 exact aMA
 refine ⟨rfl,_,rfl,(.f (bk h λaso aur h=>(T6 (lT aur) ⟨.kR ⟨.i,.i,.s,(.rd E9),⟨⟩⟩,⟨⟩⟩ (.f (.f (fP h (λaus h=>?_) (λaus h=>?_)))))))⟩
 refine .d ⟨rfl,_,rfl,rfl,_,_,rfl,aj,?_⟩
 exact aMA
 refine .d ⟨rfl,rfl,rfl,_,rfl,rfl,rfl,rfl,_,_,rfl,aj,(.d (.d ⟨rfl,rfl,rfl,_,rfl,(sE h (λaut h=>?_) (λaut h=>?_))⟩))⟩
 refine .t ⟨rfl,(.t ⟨rfl,(.t ⟨rfl,_,rfl,(.t (.t (bk h λai1 agH h=>⟨bf agH,_,(aU agH).trans (ah.aO ai1),(.t (.t (.t (.t (sE h (λauu h=>?_) (λauu h=>?_))))))⟩)))⟩)⟩)⟩
 refine .t ?_
 obtain ⟨⟨asp,ai2⟩,auv,h⟩:=bd h
 refine bK (az auv) [0] ?_
 refine .t (sV h (λauw h=>?_) (λauw h=>?_))
 refine .d (.float [(0,true),(1,true),(2,true),(3,false),(4,false),(5,true),(6,false)] aNh ?_)
 refine ⟨rfl,rfl,_,rfl,?_⟩
 obtain ⟨⟨ai3,asq⟩,auy,h⟩:=bd h
 refine bp (fC (g1000:=g1000) auy) [0] λaJe auz=>?_
 refine ⟨rfl,rfl,_,cm,rfl,rfl,rfl,_,_,rfl,aj,?_⟩
 obtain rfl:=si h
 refine ⟨rfl,_,rfl,(.ab 5 0 3 4 _ (λ_=>gN (auz).po) λaEl=>?_)⟩
 have aEm:=(DR.bS (ae.bh (x:=ai3) (F0:=aEl) auz) DR.cZ)
 exact en [0,5] (rs aEm) eo kh
 refine .d (.float [(0,true),(1,true),(2,false),(3,false),(4,true),(5,false)] aNh ?_)
 refine ⟨rfl,_,rfl,?_⟩
 obtain ⟨⟨ai4,J8⟩,auA,h⟩:=bd h
 refine bp (sJ _ _ auA _) [0] λaJf auB=>?_
 refine ⟨rfl,_,cm,rfl,_,_,rfl,aj,?_⟩
 obtain rfl:=si h
 refine ⟨rfl,_,rfl,(.ab 5 0 3 2 _ (λ_=>gN (E9).po) λaEn=>(.ab 5 1 3 4 _ (λ_=>gN (auB).po) λajK=>?_))⟩
 have aEo:=(DR.bS (ae.bh (x:=Bo) (F0:=aEn) E9) (DR.bS (ae.bh (x:=ai4) (F0:=ajK) auB) DR.cZ))
 exact en [0,5] (rs aEo) eo kh
 refine .f (.f (.f (.d (.float [(0,true),(1,true),(2,false),(3,false),(4,true),(5,false)] aNh ?_))))
 refine ⟨rfl,_,rfl,?_⟩
 obtain ⟨⟨ai5,asr⟩,auC,h⟩:=bd h
 refine bp (sJ _ _ auC _) [0] λaJg auD=>?_
 refine ⟨rfl,_,cm,rfl,_,_,rfl,aj,?_⟩
 obtain rfl:=si h
 refine ⟨rfl,_,rfl,(.ab 5 0 3 2 _ (λ_=>gN (E9).po) λaEp=>(.ab 5 1 3 4 _ (λ_=>gN (auD).po) λaEq=>?_))⟩
 have aEr:=(DR.bS (ae.bh (x:=Bo) (F0:=aEp) E9) (DR.bS (ae.bh (x:=ai5) (F0:=aEq) auD) DR.cZ))
 exact en [0,5] (rs aEr) eo kh
 refine .f (.f (.f (.f (.f (.f (.f (.f (.f (.f (.f (.f (.f (.d (.float [(0,true),(1,true),(2,false),(3,false),(4,true),(5,false)] aNh ?_))))))))))))))
 refine ⟨rfl,_,rfl,?_⟩
 obtain ⟨⟨ai6,ass⟩,auE,h⟩:=bd h
 refine bp (sJ _ _ auE _) [0] λaJh auF=>?_
 refine ⟨rfl,_,cm,rfl,_,_,rfl,aj,?_⟩
 obtain rfl:=si h
 refine ⟨rfl,_,rfl,(.ab 5 0 3 2 _ (λ_=>gN (E9).po) λaEs=>(.ab 5 1 3 4 _ (λ_=>gN (auF).po) λaEt=>?_))⟩
 have aEu:=(DR.bS (ae.bh (x:=Bo) (F0:=aEs) E9) (DR.bS (ae.bh (x:=ai6) (F0:=aEt) auF) DR.cZ))
 exact en [0,5] (rs aEu) eo kh
 intro _ _ _ sJ N4 N5 a0 r h g1000
 refine ep Tryz.func110 ?_
 refine .d (.d ?_)
 obtain ⟨⟨adu,ast⟩,auG,h⟩:=bd h
 refine bp (N5 _ _ auG _) [0] λaEv ajL=>?_
 refine ⟨rfl,_,_,rfl,aj,(.d (.d ?_))⟩
 obtain ⟨⟨asu,ai7⟩,auH,h⟩:=bd h
 refine bK (az auH) [0] ?_
 refine fP h (λauI h=>?_) (λauI h=>?_)
 refine .d ⟨rfl,_,rfl,rfl,_,_,rfl,aj,?_⟩
 obtain rfl:=si h
 exact ⟨rfl,_,rfl,(en [0,2] ⟨aEv,ajL.self,rfl,rfl⟩ eo kh)⟩
 refine .d ?_
 obtain ⟨⟨ai8,asv⟩,auJ,h⟩:=bd h
 refine bp (sJ _ _ auJ _) [0] λaJi auK=>?_
 refine ⟨rfl,_,_,rfl,aj,(.d (bk h λKa auL h=>(bK (aY auL) [0] ?_)))⟩
 refine .d (.float [(0,true),(1,true),(2,true),(3,false),(4,false),(5,true),(6,false)] aNh ?_)
 refine ⟨rfl,_,rfl,rfl,_,rfl,?_⟩
 obtain ⟨⟨ai9,asw⟩,auM,h⟩:=bd h
 refine bp (N4 _ _ auM _) [0] λaJj auN=>?_
 refine ⟨rfl,rfl,_,cm,rfl,_,_,rfl,aj,?_⟩
 obtain rfl:=si h
 refine ⟨rfl,_,rfl,(.ab 7 0 3 2 _ (λ_=>gN (ajL).po) λaEw=>(.ab 7 1 3 4 _ (λ_=>gN (auK).po) λaEx=>(.ab 7 2 3 6 _ (λ_=>gN (auN).po) λaEy=>?_)))⟩
 have aEz:=(DR.bS (ae.bh (x:=adu) (F0:=aEw) ajL) (DR.bS (ae.bh (x:=ai8) (F0:=aEx) auK) (DR.bS (ae.bh (x:=ai9) (F0:=aEy) auN) DR.cZ)))
 exact en [0,7] (rs aEz) eo kh
 intro _ _ N5 ajM a0 r h g1000
 refine ep Tryz.func176 ?_
 refine .d (.d ?_)
 obtain ⟨⟨adv,asx⟩,auO,h⟩:=bd h
 refine bp (ajM _ _ auO _) [0] λaEA ajN=>?_
 refine ⟨rfl,_,_,rfl,aj,(.d (.d ?_))⟩
 obtain ⟨⟨asy,aja⟩,auP,h⟩:=bd h
 refine bK (az auP) [0] ?_
 refine sV h (λauQ h=>?_) (λauQ h=>?_)
 refine .d (.float [(0,true),(1,true),(2,false),(3,false),(4,true),(5,false)] aNh ?_)
 refine ⟨rfl,_,rfl,?_⟩
 obtain ⟨⟨ajb,asz⟩,auR,h⟩:=bd h
 refine bp (N5 _ _ auR _) [0] λaJk auS=>?_
 refine ⟨rfl,_,cm,rfl,_,_,rfl,aj,?_⟩
 obtain rfl:=si h
 refine ⟨rfl,_,rfl,(.ab 5 0 3 2 _ (λ_=>gN (ajN).po) λaEB=>(.ab 5 1 3 4 _ (λ_=>gN (auS).po) λaEC=>?_))⟩
 have aED:=(DR.bS (ae.bh (x:=adv) (F0:=aEB) ajN) (DR.bS (ae.bh (x:=ajb) (F0:=aEC) auS) DR.cZ))
 exact en [0,5] (rs aED) eo kh
 refine .d ⟨rfl,_,rfl,rfl,_,_,rfl,aj,?_⟩
 obtain rfl:=si h
 exact ⟨rfl,_,rfl,(en [0,2] ⟨aEA,ajN.self,rfl,rfl⟩ eo kh)⟩
 intro _ _ auT ajO a0 r h g1000
 refine ep Tryz.func208 ?_
 refine .d (.d ?_)
 obtain ⟨⟨Xv,Xw⟩,auU,h⟩:=bd h
 refine bp (ajO _ _ auU _) [0] λaEE aEF=>?_
 refine ⟨rfl,_,_,rfl,aj,?_⟩
 obtain ⟨auV,h,auW⟩:=bd h
 refine .cut (λσ η=>∃Xy,∃Xz,∃XA,∃XB,∃NH,∃XC,∃XD,∃XE,∃Kb,∃ajP:Nat->List PV,∃adN:Nat->List PV,DR ae.D NH.length ajP NH/\DR ae.D Kb.length adN Kb/\(Xy,Xz,XA,XB,NH,XC,XD,XE,Kb)=auV/\σ=[(2,.aA 1 0 0 0),(3,.aA 3 0 0 0)]/\η=[.row g1000 4 1 67 (λ_=>[sl 4 ah.cells Xy,pI Xz,pI XA,.bool XB]),.row 0 4 1 29 (λ_=>[pI 0,pI 0,.str [],.own 2 0 0 NH.length]),.row 0 4 NH.length 29 ajP,.row 0 4 1 29 (λ_=>[pI XC,pI XD,.str XE,.own 4 0 0 Kb.length]),.row 0 4 Kb.length 29 adN]) ?_ ?_
 have auX:=auT _ _ _ _ _ _ _ _ _ _ h
 refine le (jc.rec (motive:=λxC xD xE xF sF uH uI uJ rM auY _=>∀Y0:Nat->List PV,∀adO:Nat->List PV,DR ae.D sF.length Y0 sF->DR ae.D rM.length adO rM->auV=auY->aK _ _ [(0,.aA 0 g1000 0 0),(2,.aA 1 0 0 0),(3,.aA 3 0 0 0)] [.row g1000 4 1 67 (λ_=>[sl 4 ah.cells xC,pI xD,pI xE,.bool xF]),.row 0 4 1 29 (λ_=>[pI 0,pI 0,.str [],.own 2 0 0 sF.length]),.row 0 4 sF.length 29 Y0,.row 0 4 1 29 (λ_=>[pI uH,pI uI,.str uJ,.own 4 0 0 rM.length]),.row 0 4 rM.length 29 adO]) ?_ auX (λ_=>[]) aEE ((DR.nil (D:=ae.D)).self) aEF rfl) (tk [0,1,6,3,2] gP ED)
 intro _ auZ _ _ xC xD xE xF sF uH uI uJ rM auY h au0 Y0 adO au1 ajQ  au2
 subst au2
 refine aK.round (.d (.d ?_))
 obtain ⟨⟨NR,xG⟩,Y1,h⟩:=bd h
 refine bK (az Y1) [0] ?_
 refine sV h (λau3 h=>?_) (λau3 h=>?_)
 refine .float [(0,true),(1,true),(2,false),(3,false),(4,true),(5,false)] aNh ?_
 refine ⟨rfl,_,rfl,?_⟩
 obtain ⟨⟨Yh,yR⟩,au4,h⟩:=bd h
 refine bp (auZ _ _ au4 _) [0] λaJl au5=>?_
 refine ⟨rfl,_,cm,rfl,_,_,rfl,aj,(.ab 6 0 3 4 _ (λ_=>gN (ajQ).po) λaEG=>(.ab 6 1 3 5 _ (λ_=>gN (au5).po) λajR=>?_))⟩
 have ajS:=(DR.bS (ae.bh (x:=(ae.mk uH uI uJ rM)) (F0:=aEG) ajQ) (DR.bS (ae.bh (x:=Yh) (F0:=ajR) au5) DR.cZ))
 exact lg (au0 _ _ _ _ _ _ _ _ _ _ h Y0 _ au1 ajS.self rfl) (tk [0,1,2,3,6] gP nQ)
 exact ct ⟨_,_,_,_,_,_,_,_,_,Y0,adO,au1,ajQ,si h,rfl,rfl⟩ (tk [0,1,2,3,4] uO nQ)
 rintro _ _ ⟨Xy,Xz,XA,XB,NH,XC,XD,XE,Kb,ajP,adN,aJm,aEH,rfl,rfl,rfl⟩
 replace h:=auW
 refine .d ⟨rfl,_,rfl,rfl,_,_,rfl,aj,?_⟩
 obtain rfl:=si h
 exact ⟨rfl,_,rfl,(en [0,4] ⟨adN,aEH.self,rfl,rfl⟩ eo kh)⟩
 intro F0 F1 n8 n9 xC xD xE xF sF uH uI uJ rM o h
 exact .mk F1 n9 F0 n8 xC xD xE xF sF uH uI uJ rM o h
 intro _ _ au6 N6 a0 r h g1000
 refine ep Tryz.func222 ?_
 refine .d (.d ?_)
 obtain ⟨⟨XF,XG⟩,au7,h⟩:=bd h
 refine bp (N6 _ _ _ au7 _) [0] λaEI aEJ=>?_
 refine ⟨rfl,_,_,rfl,aj,?_⟩
 obtain ⟨au8,h,au9⟩:=bd h
 refine .cut (λσ η=>∃XH,∃XI,∃Cw,∃XJ,∃NI,∃XK,∃XL,∃XM,∃Kc,∃ajT:Nat->List PV,∃adP:Nat->List PV,DR ae.D NI.length ajT NI/\DR ae.D Kc.length adP Kc/\(XH,XI,Cw,XJ,NI,XK,XL,XM,Kc)=au8/\σ=[(2,.aA 1 0 0 0),(3,.aA 3 0 0 0)]/\η=[.row g1000 4 1 67 (λ_=>[sl 4 ah.cells XH,pI XI,pI Cw,.bool XJ]),.row 0 4 1 29 (λ_=>[pI 0,pI 0,.str [],.own 2 0 0 NI.length]),.row 0 4 NI.length 29 ajT,.row 0 4 1 29 (λ_=>[pI XK,pI XL,.str XM,.own 4 0 0 Kc.length]),.row 0 4 Kc.length 29 adP]) ?_ ?_
 have ava:=au6 _ _ _ _ _ _ _ _ _ _ h
 refine le (il.rec (motive:=λxH kO xI xJ sG uK uL uM rN avb _=>∀Y2:Nat->List PV,∀adQ:Nat->List PV,DR ae.D sG.length Y2 sG->DR ae.D rN.length adQ rN->au8=avb->aK _ _ [(0,.aA 0 g1000 0 0),(2,.aA 1 0 0 0),(3,.aA 3 0 0 0)] [.row g1000 4 1 67 (λ_=>[sl 4 ah.cells xH,pI kO,pI xI,.bool xJ]),.row 0 4 1 29 (λ_=>[pI 0,pI 0,.str [],.own 2 0 0 sG.length]),.row 0 4 sG.length 29 Y2,.row 0 4 1 29 (λ_=>[pI uK,pI uL,.str uM,.own 4 0 0 rN.length]),.row 0 4 rN.length 29 adQ]) ?_ ava (λ_=>[]) aEI ((DR.nil (D:=ae.D)).self) aEJ rfl) (tk [0,1,6,3,2] gP ED)
 intro _ avc _ _ xH kO xI xJ sG uK uL uM rN avb h avd Y2 adQ ave ajU  avf
 subst avf
 refine aK.round (.d (.d ?_))
 obtain ⟨⟨adA,qW⟩,avg,h⟩:=bd h
 refine bK (az avg) [0] ?_
 refine sV h (λavh h=>?_) (λavh h=>?_)
 refine .float [(0,true),(1,true),(2,false),(3,false),(4,true),(5,false)] aNh ?_
 refine ⟨rfl,_,rfl,?_⟩
 obtain ⟨⟨Yi,E4⟩,avi,h⟩:=bd h
 refine bp (avc _ _ _ avi _) [0] λaJn avj=>?_
 refine ⟨rfl,_,cm,rfl,_,_,rfl,aj,(.ab 6 0 3 4 _ (λ_=>gN (ajU).po) λaEK=>(.ab 6 1 3 5 _ (λ_=>gN (avj).po) λaEL=>?_))⟩
 have aEM:=(DR.bS (ae.bh (x:=(ae.mk uK uL uM rN)) (F0:=aEK) ajU) (DR.bS (ae.bh (x:=Yi) (F0:=aEL) avj) DR.cZ))
 exact lg (avd _ _ _ _ _ _ _ _ _ _ h Y2 _ ave aEM.self rfl) (tk [0,1,2,3,6] gP nQ)
 exact ct ⟨_,_,_,_,_,_,_,_,_,Y2,adQ,ave,ajU,si h,rfl,rfl⟩ (tk [0,1,2,3,4] uO nQ)
 rintro _ _ ⟨XH,XI,Cw,XJ,NI,XK,XL,XM,Kc,ajT,adP,aJo,aEN,rfl,rfl,rfl⟩
 replace h:=au9
 refine .d ⟨rfl,_,rfl,rfl,_,_,rfl,aj,?_⟩
 obtain rfl:=si h
 exact ⟨rfl,_,rfl,(en [0,4] ⟨adP,aEN.self,rfl,rfl⟩ eo kh)⟩
 intro F0 F1 n8 n9 xH kO xI xJ sG uK uL uM rN o h
 exact .mk F1 n9 F0 n8 xH kO xI xJ sG uK uL uM rN o h
 intro _ _ _ N6 avk H3 a0 a1 r h g1000
 refine ep Tryz.func232 ?_
 refine .d (.d (.d (sD h (λavl h=>?_) (λavl h=>?_))))
 refine .d ?_
 obtain ⟨⟨XN,asA⟩,avm,h⟩:=bd h
 refine bp (H3 _ _ avm _) [0] λaEO aEP=>?_
 refine ⟨rfl,_,_,rfl,aj,?_⟩
 obtain rfl:=si h
 exact ⟨rfl,_,rfl,(en [0,2] ⟨aEO,aEP.self,rfl,rfl⟩ eo kh)⟩
 refine .d ?_
 obtain ⟨⟨XO,Bp⟩,avn,h⟩:=bd h
 refine bp (N6 _ _ _ avn _) [0] λaEQ aER=>?_
 refine ⟨rfl,_,_,rfl,aj,?_⟩
 obtain ⟨adw,h,QJ⟩:=bd h
 refine .cut (λσ η=>∃XP,∃XR,∃Cx,∃XS,∃NJ,∃XT,∃XU,∃XV,∃Kd,∃ajV:Nat->List PV,∃adR:Nat->List PV,DR ae.D NJ.length ajV NJ/\DR ae.D Kd.length adR Kd/\.inl (XP,XR,Cx,XS,NJ,XT,XU,XV,Kd)=adw/\σ=[(4,.aA 1 0 0 0),(5,.aA 3 0 0 0)]/\η=[.row g1000 4 1 67 (λ_=>[sl 4 ah.cells XP,pI XR,pI Cx,.bool XS]),.row 0 4 1 29 (λ_=>[pI 0,pI 0,.str [],.own 2 0 0 NJ.length]),.row 0 4 NJ.length 29 ajV,.row 0 4 1 29 (λ_=>[pI XT,pI XU,.str XV,.own 4 0 0 Kd.length]),.row 0 4 Kd.length 29 adR]) ?_ ?_
 have avo:=avk _ _ _ _ _ _ _ _ _ _ _ h
 refine le (fN.rec (motive:=λavp vo vq vr tK sH pO pP pQ om avq _=>∀Y3:Nat->List PV,∀N7:Nat->List PV,DR ae.D sH.length Y3 sH->DR ae.D om.length N7 om->a1=avp->adw=avq->aK _ _ [(0,.aA 0 g1000 0 0),(1,pI a1),(4,.aA 1 0 0 0),(5,.aA 3 0 0 0)] [.row g1000 4 1 67 (λ_=>[sl 4 ah.cells vo,pI vq,pI vr,.bool tK]),.row 0 4 1 29 (λ_=>[pI 0,pI 0,.str [],.own 2 0 0 sH.length]),.row 0 4 sH.length 29 Y3,.row 0 4 1 29 (λ_=>[pI pO,pI pP,.str pQ,.own 4 0 0 om.length]),.row 0 4 om.length 29 N7]) ?_ avo (λ_=>[]) aEQ ((DR.nil (D:=ae.D)).self) aER rfl rfl) (tk [0,1,6,3,2] SC ED)
 intro _ avr _ _ avp vo vq vr tK sH pO pP pQ om avq h avs Y3 N7 avt SD adS avu
 subst adS
 subst avu
 refine aK.round (.d (.d ⟨rfl,rfl,rfl,_,rfl,(fP h (λavv h=>?_) (λavv h=>?_))⟩))
 refine .d ?_
 obtain ⟨⟨Ss,wT⟩,avw,h⟩:=bd h
 refine bK (fJ avw) [0] ?_
 refine ⟨rfl,_,_,rfl,aj,(.d ⟨rfl,rfl,_,rfl,(bk h λCE Y4 h=>(b8 (SE Y4) (.d (.d ⟨rfl,rfl,_,rfl,(sN h (λavx h=>?_) (λavx h=>?_))⟩))))⟩)⟩
 refine .t (.t (.t (.t (.t (.t (.t (.t (.d ⟨rfl,_,rfl,rfl,_,_,rfl,aj,?_⟩))))))))
 obtain rfl:=si h
 exact aMg
 refine .f (.f (sE h (λavy h=>?_) (λavy h=>?_)))
 refine .t (.t (.t (.t (.t (.d ⟨rfl,_,rfl,rfl,_,_,rfl,aj,?_⟩)))))
 obtain rfl:=si h
 exact aMg
 refine .f (bk h λNS Y5 h=>(b8 (H4 Y5) (.f (.f (.f (sN h (λavz h=>?_) (λavz h=>?_)))))))
 refine .d ⟨rfl,_,rfl,rfl,_,_,rfl,aj,?_⟩
 obtain rfl:=si h
 exact aMg
 refine .d ⟨rfl,rfl,rfl,_,rfl,rfl,rfl,rfl,_,_,rfl,aj,(.float [(0,true),(1,true),(2,true),(3,true),(4,true),(5,false),(6,false),(7,true),(8,false)] aNh ?_)⟩
 refine ⟨rfl,_,rfl,?_⟩
 obtain ⟨⟨Yj,E5⟩,avA,h⟩:=bd h
 refine bp (avr _ _ _ avA _) [0] λaJp avB=>?_
 refine ⟨rfl,_,cm,rfl,_,_,rfl,aj,(.ab 7 0 3 4 _ (λ_=>gN (SD).po) λaES=>(.ab 7 1 3 6 _ (λ_=>gN (avB).po) λaET=>?_))⟩
 have aEU:=(DR.bS (ae.bh (x:=(ae.mk pO pP pQ om)) (F0:=aES) SD) (DR.bS (ae.bh (x:=Yj) (F0:=aET) avB) DR.cZ))
 exact lg (avs _ _ _ _ _ _ _ _ _ _ _ h Y3 _ avt aEU.self rfl rfl) (tk [0,1,2,3,7] SC nQ)
 exact ct ⟨_,_,_,_,_,_,_,_,_,Y3,N7,avt,SD,si h,rfl,rfl⟩ (tk [0,1,2,3,4] uO nQ)
 rintro _ _ ⟨XP,XR,Cx,XS,NJ,XT,XU,XV,Kd,ajV,adR,aJq,aEV,rfl,rfl,rfl⟩
 replace h:=QJ
 refine .d ⟨rfl,_,rfl,rfl,_,_,rfl,aj,?_⟩
 obtain rfl:=si h
 exact ⟨rfl,_,rfl,(en [0,4] ⟨adR,aEV.self,rfl,rfl⟩ eo kh)⟩
 intro F0 F1 n8 n9 a1 vo vq vr tK sH pO pP pQ om o h
 exact .mk F0 n8 F1 n9 a1 vo vq vr tK sH pO pP pQ om o h
 intro _ _ N2 H3 a0 r h g1000
 refine ep Tryz.func244 ?_
 refine .d (.d (.d ?_))
 obtain ⟨⟨asB,ajc⟩,avC,h⟩:=bd h
 refine bK (az avC) [0] ?_
 refine sV h (λavD h=>?_) (λavD h=>?_)
 refine .d ?_
 obtain ⟨⟨ajd,asC⟩,avE,h⟩:=bd h
 refine bp (H3 _ _ avE _) [0] λaJr avF=>?_
 refine ⟨_,cm,rfl,_,_,rfl,aj,?_⟩
 obtain rfl:=si h
 refine ⟨rfl,_,rfl,(.ab 3 0 3 2 _ (λ_=>gN (avF).po) λaEW=>?_)⟩
 have adT:=(DR.bS (ae.bh (x:=ajd) (F0:=aEW) avF) DR.cZ)
 exact en [0,3] (rs adT) eo kh
 refine .d (.d ?_)
 obtain ⟨⟨asD,aje⟩,avG,h⟩:=bd h
 refine bK (az avG) [0] ?_
 refine sV h (λavH h=>?_) (λavH h=>?_)
 refine .d ?_
 obtain ⟨⟨ajf,asE⟩,avI,h⟩:=bd h
 refine bp (H3 _ _ avI _) [0] λaJs avJ=>?_
 refine ⟨_,cm,rfl,_,_,rfl,aj,?_⟩
 obtain rfl:=si h
 refine ⟨rfl,_,rfl,(.ab 3 0 3 2 _ (λ_=>gN (avJ).po) λaEX=>?_)⟩
 have aEY:=(DR.bS (ae.bh (x:=ajf) (F0:=aEX) avJ) DR.cZ)
 exact en [0,3] (rs aEY) eo kh
 refine .d ?_
 obtain ⟨⟨asF,asG⟩,avK,h⟩:=bd h
 refine bp (N2 _ _ _ avK _) [0] λaEZ aE0=>?_
 refine ⟨rfl,_,_,rfl,aj,?_⟩
 obtain rfl:=si h
 exact ⟨rfl,_,rfl,(en [0,2] ⟨aEZ,aE0.self,rfl,rfl⟩ eo kh)⟩
 intro _ _ _ _ mn N8 sJ ajW a0 r h g1000
 refine ep Tryz.func224 ?_
 refine .d (.d ?_)
 obtain ⟨⟨X3,Bq⟩,avL,h⟩:=bd h
 refine bK (fJ avL) [0] ?_
 refine ⟨rfl,_,_,rfl,aj,(.d (.d ⟨rfl,rfl,rfl,_,rfl,(sV h (λavM h=>?_) (λavM h=>?_))⟩))⟩
 refine .d ⟨rfl,_,_,rfl,aj,?_⟩
 exact aMp
 obtain ⟨aE1,h,avN⟩:=bd h
 refine .cut (λσ η=>∃NL,∃NM,∃NN,∃NP,∃X4,(NL,NM,NN,NP,X4)=aE1/\σ=[(0,.aA 0 g1000 0 0),(2,.aA 1 0 0 0),(3,.aA 3 0 0 0),(16,.bool X4)]/\η=[.row g1000 4 1 67 (λ_=>[sl 4 ah.cells NL,pI NM,pI NN,.bool NP]),.row 0 4 1 29 (λ_=>[pI 0,pI 0,.str [],.own 2 0 0 0]),.row 0 4 0 29 (λ_=>[]),.row 0 4 1 101 (λ_=>X3.lit)]) ?_ ?_
 refine ⟨rfl,rfl,_,rfl,(sE h (λavO h=>?_) (λavO h=>?_))⟩
 exact .t (.t (.t (.t (.t (.t (.t (.t (.t (.t (.t (.t (ct ⟨_,_,_,_,_,si h,rfl,rfl⟩ (tk [0,1,5,2] Fa Y6)))))))))))))
 refine ⟨rfl,(.f ⟨rfl,_,rfl,(.f (.f (sE h (λavP h=>?_) (λavP h=>?_))))⟩)⟩
 exact .t (.t (.t (.t (.t (.t (.t (.t (ct ⟨_,_,_,_,_,si h,rfl,rfl⟩ (tk [0,1,5,2] Fa Y6)))))))))
 refine .f ?_
 obtain ⟨⟨ady,xA⟩,Y7,h⟩:=bd h
 refine bK (cr Y7) [0] ?_
 refine .f (sV h (λavQ h=>?_) (λavQ h=>?_))
 exact .t (.t (.t (.t (.t (ct ⟨_,_,_,_,_,si h,rfl,rfl⟩ (tk [0,1,5,2] Fa Y6))))))
 refine .f ?_
 obtain ⟨⟨Kf,Br⟩,avR,h⟩:=bd h
 refine bK (cr avR) [0] ?_
 refine .f (sV h (λavS h=>?_) (λavS h=>?_))
 exact .t (.t (ct ⟨_,_,_,_,_,si h,rfl,rfl⟩ (tk [0,1,5,2] Fa Y6)))
 refine .f ?_
 obtain ⟨⟨adz,zW⟩,avT,h⟩:=bd h
 refine bK (cr avT) [0] ?_
 exact .f (ct ⟨_,_,_,_,_,si h,rfl,rfl⟩ (tk [0,1,5,2] Fa Y6))
 rintro _ _ ⟨NL,NM,NN,NP,X4,rfl,rfl,rfl⟩
 replace h:=avN
 refine sV h (λavU h=>?_) (λavU h=>?_)
 refine .d ?_
 obtain ⟨⟨asH,X5⟩,avV,h⟩:=bd h
 refine bp (qn (g1000:=g1000) avV) [0] λaE2 aE3=>?_
 refine ⟨rfl,_,_,rfl,aj,?_⟩
 obtain rfl:=si h
 exact ⟨rfl,_,rfl,(en [0,4] ⟨aE2,aE3.self,rfl,rfl⟩ eo kh)⟩
 refine .d ⟨rfl,rfl,_,rfl,(sE h (λavW h=>?_) (λavW h=>?_))⟩
 refine .d ?_
 obtain ⟨⟨X6,asI⟩,avX,h⟩:=bd h
 refine bp (fC (g1000:=g1000) avX) [0] λaE4 aE5=>?_
 refine ⟨rfl,_,_,rfl,aj,?_⟩
 obtain rfl:=si h
 exact ⟨rfl,_,rfl,(en [0,4] ⟨aE4,aE5.self,rfl,rfl⟩ eo kh)⟩
 refine .d ?_
 obtain ⟨⟨asJ,ajg⟩,avY,h⟩:=bd h
 refine bK (az avY) [0] ?_
 refine sV h (λavZ h=>?_) (λavZ h=>?_)
 refine .d ?_
 obtain ⟨⟨asK,X7⟩,av0,h⟩:=bd h
 refine bp (ajW _ _ av0 _) [0] λaE6 aE7=>?_
 refine ⟨rfl,_,_,rfl,aj,?_⟩
 obtain rfl:=si h
 exact ⟨rfl,_,rfl,(en [0,4] ⟨aE6,aE7.self,rfl,rfl⟩ eo kh)⟩
 refine .d ?_
 obtain ⟨⟨X8,Sr⟩,Y8,h⟩:=bd h
 refine bK (az Y8) [0] ?_
 refine sV h (λav1 h=>?_) (λav1 h=>?_)
 refine .d ?_
 obtain ⟨⟨asL,X9⟩,ajX,h⟩:=bd h
 refine bp (sJ _ _ ajX _) [0] λav2 av3=>?_
 refine ⟨rfl,_,_,rfl,aj,(.d (bk h λKg N9 h=>(bK (aY N9) [0] ?_)))⟩
 refine .d ⟨rfl,_,rfl,rfl,_,_,rfl,aj,?_⟩
 obtain rfl:=si h
 exact ⟨rfl,_,rfl,(en [0,4] ⟨av2,av3.self,rfl,rfl⟩ eo kh)⟩
 refine .d ?_
 obtain ⟨⟨Cz,CA⟩,Oa,h⟩:=bd h
 refine bK (az Oa) [0] ?_
 refine sV h (λajY h=>?_) (λajY h=>?_)
 refine .d ?_
 obtain ⟨⟨ags,Kh⟩,Ob,h⟩:=bd h
 refine bK (oR Ob) [0] ?_
 refine ⟨rfl,_,_,rfl,aj,(.d ?_)⟩
 obtain ⟨⟨agt,Ki⟩,ajZ,h⟩:=bd h
 refine bp (N8 _ _ ajZ _) [0] λav4 av5=>?_
 refine ⟨rfl,rfl,_,_,rfl,aj,(.d ⟨rfl,_,rfl,rfl,_,_,rfl,aj,?_⟩)⟩
 obtain rfl:=si h
 exact ⟨rfl,_,rfl,(en [0,5] ⟨av4,av5.self,rfl,rfl⟩ eo kh)⟩
 refine .d ?_
 obtain ⟨⟨agu,Gb⟩,Oc,h⟩:=bd h
 refine bK (az Oc) [0] ?_
 refine sV h (λaj0 h=>?_) (λaj0 h=>?_)
 refine .d ?_
 obtain ⟨⟨vn,agv⟩,aj1,h⟩:=bd h
 refine bp (mZ (g1000:=g1000) aj1) [0] λQK uz=>?_
 refine ⟨rfl,_,_,rfl,aj,(.d (.d ?_))⟩
 obtain ⟨⟨agw,Ya⟩,aj2,h⟩:=bd h
 refine bK (az aj2) [0] ?_
 refine sV h (λaj3 h=>?_) (λaj3 h=>?_)
 refine .d ?_
 obtain ⟨av6,h,aj4⟩:=bd h
 refine .cut (λσ η=>∃Ge,∃Gf,∃Gg,∃Kl,∃Km,(Ge,Gf,Gg,Kl,Km)=av6/\σ=[(0,.aA 0 g1000 0 0),(2,.aA 1 0 0 0),(6,.aA 3 0 0 0),(81,.bool Km)]/\η=[.row g1000 4 1 67 (λ_=>[sl 4 ah.cells Ge,pI Gf,pI Gg,.bool Kl]),.row 0 4 1 29 (λ_=>[pI 0,pI 0,.str [],.own 2 0 0 0]),.row 0 4 0 29 (λ_=>[]),.row 0 4 1 29 (λ_=>[pI 23,pI 0,.str [],.own 4 0 0 vn.length]),.row 0 4 vn.length 29 QK]) ?_ ?_
 obtain ⟨⟨Gc,Gd⟩,aj5,h⟩:=bd h
 refine bK (cr aj5) [0] ?_
 refine sV h (λaj6 h=>?_) (λaj6 h=>?_)
 refine .t ?_
 obtain ⟨⟨Kj,Kk⟩,aj7,h⟩:=bd h
 refine bK (cr aj7) [0] ?_
 exact .t (ct ⟨_,_,_,_,_,si h,rfl,rfl⟩ (tk [0,1,2,5,4] Fa tz5))
 exact .f (.f (ct ⟨_,_,_,_,_,si h,rfl,rfl⟩ (tk [0,1,2,5,4] Fa tz5)))
 rintro _ _ ⟨Ge,Gf,Gg,Kl,Km,rfl,rfl,rfl⟩
 replace h:=aj4
 refine sV h (λaj8 h=>?_) (λaj8 h=>?_)
 refine .d ⟨rfl,rfl,rfl,_,rfl,rfl,rfl,rfl,_,_,rfl,aj,(.d ⟨rfl,rfl,rfl,_,_,rfl,aj,(.d ⟨rfl,_,rfl,rfl,_,_,rfl,aj,?_⟩)⟩)⟩
 obtain rfl:=si h
 exact ⟨rfl,_,rfl,(en [0,4] ⟨QK,uz.self,rfl,rfl⟩ eo kh)⟩
 refine .float [(0,true),(1,true),(2,true),(3,false),(4,false),(5,true),(6,false)] aNh ?_
 refine ⟨rfl,rfl,_,rfl,?_⟩
 obtain ⟨⟨CB,agx⟩,aj9,h⟩:=bd h
 refine bp (oS (g1000:=g1000) aj9) [0] λav7 Gq=>?_
 refine ⟨rfl,rfl,(bk h λagy z6 h=>(.move ⟨rfl,rfl,DR.jbd uz.len Gq.len z6,rfl,rfl,_,_,rfl,aj,(.d (.float [(0,true),(1,true),(2,true),(3,false),(4,false),(5,false),(6,true),(7,false)] aNh ?_))⟩))⟩
 refine ⟨rfl,rfl,_,rfl,?_⟩
 obtain ⟨⟨CC,agz⟩,aka,h⟩:=bd h
 refine bp (mn _ _ aka _) [0] λaIE agI=>?_
 refine ⟨rfl,rfl,_,bT,rfl,rfl,(bk h λYb CR h=>(.dO ⟨rfl,rfl,(λ_ _=>rfl),DR.rO (DR.MD uz Gq z6) CR,Yb.length,da (Od QK vn.length av7) (vn.length+CB.length) [pI CC.ai,pI CC.aE,.str CC.aq,.own 6 0 0 CC.af.length],DR.ln (DR.MD uz Gq z6) CR,cc (DR.ln (DR.MD uz Gq z6) CR) ⟨.same _,.same _,.same _,.same _,trivial⟩,rfl,rfl,_,_,rfl,aj,(.d ⟨rfl,_,rfl,rfl,_,_,rfl,aj,?_⟩)⟩))⟩
 obtain rfl:=si h
 refine ⟨rfl,_,rfl,(.ab 4 (vn.length+CB.length) 3 6 _ (λ_=>pf (DR.lq (DR.MD uz Gq z6) CR) (agI).po) λav8=>?_)⟩
 have av9:=DR.gu (DR.MD uz Gq z6) CR (ae.bh (x:=CC) (F0:=av8) agI)
 exact en [0,4] (rs av9) eo kh
 refine .d (.float [(0,true),(1,true),(2,true),(3,false),(4,false),(5,false),(6,true),(7,false)] aNh ?_)
 refine ⟨rfl,rfl,_,rfl,?_⟩
 obtain ⟨⟨uv,qj⟩,Oe,h⟩:=bd h
 refine bp (mn _ _ Oe _) [0] λaIF agJ=>?_
 refine ⟨rfl,rfl,_,bT,rfl,rfl,(bk h λYc CS h=>(.dO ⟨rfl,rfl,(λ_ _=>rfl),DR.rO uz CS,Yc.length,da QK vn.length [pI uv.ai,pI uv.aE,.str uv.aq,.own 6 0 0 uv.af.length],DR.ln uz CS,cc (DR.ln uz CS) ⟨.same _,.same _,.same _,.same _,trivial⟩,rfl,rfl,_,_,rfl,aj,(.d ⟨rfl,_,rfl,rfl,_,_,rfl,aj,?_⟩)⟩))⟩
 obtain rfl:=si h
 refine ⟨rfl,_,rfl,(.ab 4 vn.length 3 6 _ (λ_=>pf (DR.lq uz CS) (agJ).po) λawa=>?_)⟩
 have awb:=DR.gu uz CS (ae.bh (x:=uv) (F0:=awa) agJ)
 exact en [0,4] (rs awb) eo kh
 refine .d ?_
 obtain ⟨⟨uw,Gh⟩,akb,h⟩:=bd h
 refine bK (oR akb) [0] ?_
 obtain ⟨Yd,h,Y9⟩:=bd h
 refine .cut (λσ η=>∃Kp,∃Kq,∃Kr,∃Ks,.inl (Kp,Kq,Kr,Ks)=Yd/\σ=[(0,.aA 0 g1000 0 0),(2,.aA 1 0 0 0),(7,.str uw)]/\η=[.row g1000 4 1 67 (λ_=>[sl 4 ah.cells Kp,pI Kq,pI Kr,.bool Ks]),.row 0 4 1 29 (λ_=>[pI 0,pI 0,.str [],.own 2 0 0 0]),.row 0 4 0 29 (λ_=>[])]) ?_ ?_
 refine .d (UJ h (λakc h=>?_) (λakc h=>?_))
 refine .t ?_
 obtain ⟨⟨Kn,Gi⟩,akd,h⟩:=bd h
 refine bK (cr akd) [0] ?_
 refine .t (sV h (λake h=>?_) (λake h=>?_))
 refine .d ?_
 obtain ⟨⟨agA,Ko⟩,akf,h⟩:=bd h
 refine bp (N8 _ _ akf _) [0] λawc awd=>?_
 refine ⟨rfl,_,_,rfl,aj,?_⟩
 obtain rfl:=si h
 replace h:=Y9
 obtain rfl:=si h
 exact ⟨rfl,_,rfl,(en [0,4] ⟨awc,awd.self,rfl,rfl⟩ eo kh)⟩
 exact ct ⟨_,_,_,_,si h,rfl,rfl⟩ (tk [0,1,2] ⟨.p,.p,.s,⟨⟩⟩ adU)
 exact .f (.f (.f (ct ⟨_,_,_,_,si h,rfl,rfl⟩ (tk [0,1,2] ⟨.p,.p,.s,⟨⟩⟩ adU))))
 rintro _ _ ⟨Kp,Kq,Kr,Ks,rfl,rfl,rfl⟩
 replace h:=Y9
 refine .d (bk h λKt akg h=>(bK (aY akg) [0] ?_))
 refine .d (bk h λYe Za h=>⟨pR Za,Ye,pT Za,?_⟩)
 obtain ⟨⟨Ku,Kv⟩,Og,h⟩:=bd h
 refine bK (cz Og) [0] ?_
 refine bk h λYf Zb h=>⟨pR Zb,Yf,pT Zb,(.d ?_)⟩
 obtain ⟨⟨agB,agC⟩,akh,h⟩:=bd h
 refine bp (N8 _ _ akh _) [0] λawe awf=>?_
 refine ⟨rfl,_,_,rfl,aj,?_⟩
 obtain rfl:=si h
 exact ⟨rfl,_,rfl,(en [0,3] ⟨awe,awf.self,rfl,rfl⟩ eo kh)⟩
 intro _ aki a0 r h g1000
 refine ep Tryz.func233 ?_
 refine .d (.d ⟨rfl,_,_,rfl,aj,(.d (.d ?_))⟩)
 obtain ⟨⟨Kw,Gj⟩,akj,h⟩:=bd h
 refine bK (az akj) [0] ?_
 refine sV h (λakk h=>?_) (λakk h=>?_)
 refine .d ⟨rfl,_,rfl,rfl,_,_,rfl,aj,?_⟩
 exact aMp
 obtain ⟨QA,h,Zc⟩:=bd h
 refine .cut (λσ η=>∃Kx,∃Ky,∃Kz,∃KA,∃CD,∃AX,∃Zd:Nat->List PV,∃QL:Nat->List PV,DR ae.D CD.length Zd CD/\DR ae.D AX.length QL AX/\.inl (Kx,Ky,Kz,KA,CD,AX)=QA/\σ=[(2,.aA 1 0 0 0),(3,.aA 3 0 0 0)]/\η=[.row g1000 4 1 67 (λ_=>[sl 4 ah.cells Kx,pI Ky,pI Kz,.bool KA]),.row 0 4 1 29 (λ_=>[pI 0,pI 0,.str [],.own 2 0 0 CD.length]),.row 0 4 CD.length 29 Zd,.row 0 4 1 29 (λ_=>[pI 5,pI 0,.str [],.own 4 0 0 AX.length]),.row 0 4 AX.length 29 QL]) ?_ ?_
 have akl:=aki _ _ _ _ _ _ _ h
 refine le (gK.rec (motive:=λoL oM oN mX lG eG agK _=>∀Gr:Nat->List PV,∀Gs:Nat->List PV,DR ae.D lG.length Gr lG->DR ae.D eG.length Gs eG->QA=agK->aK _ _ [(0,.aA 0 g1000 0 0),(2,.aA 1 0 0 0),(3,.aA 3 0 0 0)] [.row g1000 4 1 67 (λ_=>[sl 4 ah.cells oL,pI oM,pI oN,.bool mX]),.row 0 4 1 29 (λ_=>[pI 0,pI 0,.str [],.own 2 0 0 lG.length]),.row 0 4 lG.length 29 Gr,.row 0 4 1 29 (λ_=>[pI 5,pI 0,.str [],.own 4 0 0 eG.length]),.row 0 4 eG.length 29 Gs]) ?_ akl (λ_=>[]) (λ_=>[]) ((DR.nil (D:=ae.D)).self) ((DR.nil (D:=ae.D)).self) rfl) (tk [0,1,5,2,7] gP T5)
 intro _ Ze _ _ oL oM oN mX lG eG agK h akm Gr Gs agL A0  akn
 subst akn
 refine aK.round (.d (.d ⟨rfl,rfl,rfl,_,rfl,(fP h (λako h=>?_) (λako h=>?_))⟩))
 refine .d ?_
 obtain ⟨⟨ux,qk⟩,akp,h⟩:=bd h
 refine bp (Ze _ _ akp _) [0] λawg Zf=>?_
 refine ⟨_,cm,rfl,_,_,rfl,aj,?_⟩
 obtain ⟨awh,h,akq⟩:=bd h
 refine .cut (λσ η=>∃CG,∃CH,∃CI,∃CJ,∃sI,∃Zg:Nat->List PV,DR ae.D sI.length Zg sI/\(CG,CH,CI,CJ,sI)=awh/\σ=[(0,.aA 0 g1000 0 0),(2,.aA 1 0 0 0),(3,.aA 3 0 0 0),(4,.aA 5 0 0 0)]/\η=[.row g1000 4 1 67 (λ_=>[sl 4 ah.cells CG,pI CH,pI CI,.bool CJ]),.row 0 4 1 29 (λ_=>[pI 0,pI 0,.str [],.own 2 0 0 lG.length]),.row 0 4 lG.length 29 Gr,.row 0 4 1 29 (λ_=>[pI 5,pI 0,.str [],.own 4 0 0 eG.length]),.row 0 4 eG.length 29 Gs,.row 0 4 1 29 (λ_=>[pI 6,pI 0,.str [],.own 6 0 0 sI.length]),.row 0 4 sI.length 29 Zg]) ?_ ?_
 refine .ab 6 0 3 5 _ (λ_=>gN (Zf).po) λZh=>(.d ?_)
 obtain ⟨⟨QC,uy⟩,akr,h⟩:=bd h
 refine bK (az akr) [0] ?_
 refine sV h (λaks h=>?_) (λaks h=>?_)
 refine .float [(0,true),(1,true),(2,true),(3,false),(4,false),(5,false),(6,true),(7,false)] aNh ?_
 refine ⟨rfl,rfl,_,rfl,?_⟩
 obtain ⟨⟨yU,w7⟩,akt,h⟩:=bd h
 refine bp (Ze _ _ akt _) [0] λaIG agM=>?_
 refine ⟨rfl,rfl,_,bT,rfl,rfl,?_⟩
 have KT:=(DR.bS (ae.bh (x:=ux) (F0:=Zh) Zf) DR.cZ)
 refine bk h λKI CT h=>(.dO ⟨rfl,rfl,(λ_ _=>rfl),DR.rO KT CT,KI.length,da (jr [[pI ux.ai,pI ux.aE,.str ux.aq,.dI 4 ux.af.length 29 awg Zh]]) 1 [pI yU.ai,pI yU.aE,.str yU.aq,.own 8 0 0 yU.af.length],DR.ln KT CT,cc (DR.ln KT CT) ⟨.same _,.same _,.same _,.same _,trivial⟩,rfl,rfl,_,_,rfl,aj,(.ab 6 1 3 8 _ (λ_=>pf (DR.lq KT CT) (agM).po) λawi=>?_)⟩)
 have awj:=DR.gu KT CT (ae.bh (x:=yU) (F0:=awi) agM)
 exact ct ⟨_,_,_,_,_,_,awj,si h,rfl,rfl⟩ (tk [0,1,2,3,4,7,6] ⟨.p,.p,.p,.p,⟨⟩⟩ adV)
 have awk:=(DR.bS (ae.bh (x:=ux) (F0:=Zh) Zf) DR.cZ)
 exact ct ⟨_,_,_,_,_,_,awk.self,si h,rfl,rfl⟩ (tk [0,1,2,3,4,7,6] ⟨.p,.p,.p,.p,⟨⟩⟩ adV)
 rintro _ _ ⟨CG,CH,CI,CJ,sI,Zg,QM,rfl,rfl,rfl⟩
 replace h:=akq
 refine .d ⟨rfl,rfl,_,rfl,rfl,_,rfl,_,bT,(bk h λCK xN h=>(.dO ⟨rfl,rfl,(λ_ _=>rfl),DR.rO A0 xN,CK.length,da Gs eG.length [pI 6,pI 0,.str [],.own 6 0 0 sI.length],DR.ln A0 xN,cc (DR.ln A0 xN) ⟨.same _,.same _,.same _,.same _,trivial⟩,rfl,rfl,_,_,rfl,aj,(.d (.d ?_))⟩))⟩
 obtain ⟨⟨QD,Gl⟩,aku,h⟩:=bd h
 refine bK (az aku) [0] ?_
 refine sV h (λakv h=>?_) (λakv h=>?_)
 refine .d ⟨rfl,_,rfl,rfl,_,_,rfl,aj,?_⟩
 obtain rfl:=si h
 replace h:=Zc
 obtain rfl:=si h
 refine ⟨rfl,_,rfl,(.ab 4 eG.length 3 6 _ (λ_=>pf (DR.lq A0 xN) (QM).po) λawl=>?_)⟩
 have awm:=DR.gu A0 xN (ae.bh (x:=(ae.mk 6 0 [] sI)) (F0:=awl) QM)
 exact en [0,4] (rs awm) eo kh
 refine bk h λw8 akw h=>(bK (aY akw) [0] ?_)
 refine .ab 4 eG.length 3 6 _ (λ_=>pf (DR.lq A0 xN) (QM).po) λawn=>?_
 have awo:=DR.gu A0 xN (ae.bh (x:=(ae.mk 6 0 [] sI)) (F0:=awn) QM)
 exact lg (akm _ _ _ _ _ _ _ h Gr _ agL awo rfl) (tk [0,1,2,3,4] gP nQ)
 exact ct ⟨_,_,_,_,_,_,Gr,Gs,agL,A0,si h,rfl,rfl⟩ (tk [0,1,2,3,4] uO nQ)
 rintro _ _ ⟨Kx,Ky,Kz,KA,CD,AX,Zd,QL,aIH,awp,rfl,rfl,rfl⟩
 replace h:=Zc
 refine .d ⟨rfl,_,rfl,rfl,_,_,rfl,aj,?_⟩
 obtain rfl:=si h
 exact ⟨rfl,_,rfl,(en [0,4] ⟨QL,awp.self,rfl,rfl⟩ eo kh)⟩
 intro F0 F1 n8 n9 oL oM oN mX lG eG o h
 exact .mk F0 n8 F1 n9 oL oM oN mX lG eG o h
 intro _ _ mn sJ a0 r h g1000
 refine ep Tryz.func190 ?_
 refine .d (.d (bk h λV5 Wx h=>(bK (aY Wx) [0] ?_)))
 refine .d ?_
 obtain ⟨⟨Cu,J6⟩,awq,h⟩:=bd h
 refine bp (sJ _ _ awq _) [0] λf329 d330=>?_
 refine ⟨_,cm,rfl,_,_,rfl,aj,(.d (bk h λasf awr h=>(bK (aY awr) [0] ?_)))⟩
 refine .ab 3 0 3 2 _ (λ_=>gN (d330).po) λakx=>(.d (.float [(0,true),(1,true),(2,true),(3,false),(4,false),(5,false),(6,true),(7,false)] aNh ?_))
 refine ⟨rfl,rfl,_,rfl,?_⟩
 obtain ⟨⟨Bn,asg⟩,aws,h⟩:=bd h
 refine bp (fC (g1000:=g1000) aws) [0] λf337 d338=>?_
 refine ⟨rfl,rfl,_,bT,rfl,rfl,?_⟩
 have d339:=(DR.bS (ae.bh (x:=Cu) (F0:=akx) d330) DR.cZ)
 refine bk h λSo Gt h=>(.dO ⟨rfl,rfl,(λ_ _=>rfl),DR.rO d339 Gt,So.length,da (jr [[pI Cu.ai,pI Cu.aE,.str Cu.aq,.dI 4 Cu.af.length 29 f329 akx]]) 1 [pI Bn.ai,pI Bn.aE,.str Bn.aq,.own 5 0 0 Bn.af.length],DR.ln d339 Gt,cc (DR.ln d339 Gt) ⟨.same _,.same _,.same _,.same _,trivial⟩,rfl,rfl,_,_,rfl,aj,?_⟩)
 obtain ⟨aE8,h,awt⟩:=bd h
 refine .cut (λσ η=>∃Xj,∃Xk,∃Xl,∃Xm,∃EZ,∃f347:Nat->List PV,DR ae.D EZ.length f347 EZ/\(Xj,Xk,Xl,Xm,EZ)=aE8/\σ=[(0,.aA 0 g1000 0 0),(2,.aA 1 0 0 0),(3,.aA 3 0 0 0)]/\η=[.row g1000 4 1 67 (λ_=>[sl 4 ah.cells Xj,pI Xk,pI Xl,.bool Xm]),.row 0 4 1 29 (λ_=>[pI 0,pI 0,.str [],.own 2 0 0 0]),.row 0 4 0 29 (λ_=>[]),.row 0 4 1 29 (λ_=>[pI 36,pI 0,.str [],.own 4 0 0 EZ.length]),.row 0 4 EZ.length 29 f347]) ?_ ?_
 refine .ab 3 1 3 5 _ (λ_=>pf (DR.lq d339 Gt) (d338).po) λaky=>(.d ?_)
 obtain ⟨⟨ash,Cv⟩,awu,h⟩:=bd h
 refine bK (az awu) [0] ?_
 refine sV h (λawv h=>?_) (λawv h=>?_)
 refine .float [(0,true),(1,true),(2,true),(3,false),(4,false),(5,false),(6,true),(7,false)] aNh ?_
 refine ⟨rfl,rfl,_,rfl,?_⟩
 obtain ⟨⟨NB,Xi⟩,aww,h⟩:=bd h
 refine bp (fC (g1000:=g1000) aww) [0] λf360 d361=>?_
 refine ⟨rfl,rfl,_,bT,rfl,rfl,?_⟩
 have d362:=DR.gu d339 Gt (ae.bh (x:=Bn) (F0:=aky) d338)
 refine bk h λaiZ KU h=>(.dO ⟨rfl,rfl,(λ_ _=>rfl),DR.rO d362 KU,aiZ.length,da (da (jr [[pI Cu.ai,pI Cu.aE,.str Cu.aq,.dI 4 Cu.af.length 29 f329 akx]]) 1 [pI Bn.ai,pI Bn.aE,.str Bn.aq,.dI 4 Bn.af.length 29 f337 aky]) So.length [pI NB.ai,pI NB.aE,.str NB.aq,.own 7 0 0 NB.af.length],DR.ln d362 KU,cc (DR.ln d362 KU) ⟨.same _,.same _,.same _,.same _,trivial⟩,rfl,rfl,_,_,rfl,aj,(.ab 3 So.length 3 7 _ (λ_=>pf (DR.lq d362 KU) (d361).po) λakz=>?_)⟩)
 have d366:=DR.gu d362 KU (ae.bh (x:=NB) (F0:=akz) d361)
 exact ct ⟨_,_,_,_,_,_,d366,si h,rfl,rfl⟩ (tk [0,1,11,4,3] gP ED)
 have d367:=DR.gu d339 Gt (ae.bh (x:=Bn) (F0:=aky) d338)
 exact ct ⟨_,_,_,_,_,_,d367,si h,rfl,rfl⟩ (tk [0,1,9,4,3] gP ED)
 rintro _ _ ⟨Xj,Xk,Xl,Xm,EZ,f347,d348,rfl,rfl,rfl⟩
 replace h:=awt
 refine .d (bk h λE1 Zi h=>(bK (aY Zi) [0] ?_))
 refine .d (.float [(0,true),(1,true),(2,true),(3,false),(4,false),(5,false),(6,true),(7,false)] aNh ?_)
 refine ⟨rfl,rfl,_,rfl,?_⟩
 obtain ⟨⟨NC,asi⟩,awx,h⟩:=bd h
 refine bp (mn _ _ awx _) [0] λaJt awy=>?_
 refine ⟨rfl,rfl,_,bT,rfl,rfl,(bk h λai0 KV h=>(.dO ⟨rfl,rfl,(λ_ _=>rfl),DR.rO d348 KV,ai0.length,da f347 EZ.length [pI NC.ai,pI NC.aE,.str NC.aq,.own 5 0 0 NC.af.length],DR.ln d348 KV,cc (DR.ln d348 KV) ⟨.same _,.same _,.same _,.same _,trivial⟩,rfl,rfl,_,_,rfl,aj,(.d ⟨rfl,_,rfl,rfl,_,_,rfl,aj,?_⟩)⟩))⟩
 obtain rfl:=si h
 refine ⟨rfl,_,rfl,(.ab 4 EZ.length 3 5 _ (λ_=>pf (DR.lq d348 KV) (awy).po) λaE9=>?_)⟩
 have aFa:=DR.gu d348 KV (ae.bh (x:=NC) (F0:=aE9) awy)
 exact en [0,4] (rs aFa) eo kh
 intro _ sJ a0 r h g1000
 refine ep Tryz.func189 ?_
 refine .d (.d (bk h λv78 aFb h=>(bK (aY aFb) [0] ?_)))
 refine .d ?_
 obtain ⟨⟨v80,zU⟩,Zj,h⟩:=bd h
 refine bp (sJ _ _ Zj _) [0] λf83 d84=>?_
 refine ⟨rfl,_,_,rfl,aj,(.d (bk h λv85 Hn h=>(bK (aY Hn) [0] ?_)))⟩
 refine .d ⟨rfl,_,rfl,rfl,_,_,rfl,aj,?_⟩
 obtain rfl:=si h
 exact ⟨rfl,_,rfl,(en [0,2] ⟨f83,d84.self,rfl,rfl⟩ eo kh)⟩
 intro _ _ _ mn N0 N1 a0 r h g1000
 refine ep Tryz.func188 ?_
 refine .d (.d (bk h λasd awz h=>(bK (aY awz) [0] ?_)))
 refine .d ?_
 obtain ⟨⟨JL,ase⟩,awA,h⟩:=bd h
 refine bp (N0 _ _ awA _) [0] λf276 d277=>?_
 refine ⟨rfl,_,_,rfl,aj,?_⟩
 obtain ⟨aFc,h,awB⟩:=bd h
 refine .cut (λσ η=>∃Xc,∃Xd,∃Xe,∃Xf,∃NA,∃f283:Nat->List PV,DR ae.D 2 f283 NA/\(Xc,Xd,Xe,Xf,NA)=aFc/\σ=[(0,.aA 0 g1000 0 0),(2,.aA 1 0 0 0),(4,.aA 3 0 0 0)]/\η=[.row g1000 4 1 67 (λ_=>[sl 4 ah.cells Xc,pI Xd,pI Xe,.bool Xf]),.row 0 4 1 29 (λ_=>[pI 0,pI 0,.str [],.own 2 0 0 0]),.row 0 4 0 29 (λ_=>[]),.row 0 4 1 29 (λ_=>[pI 34,pI 0,.str [],.own 4 0 0 2]),.row 0 4 2 29 f283]) ?_ ?_
 refine .CQ [([(0,true),(1,true)],2,5,[(2,false),(3,false),(4,true),(6,false)]),([],3,5,[(3,false),(4,true),(6,false)])] [(4,true),(5,false),(6,false)] aNh ?_
 refine ⟨rfl,_,rfl,?_,?_⟩
 obtain ⟨⟨Sm,Sn⟩,Zk,h⟩:=bd h
 refine bp (mn _ _ Zk _) [0] λf291 d292=>?_
 refine ⟨rfl,?_,?_⟩
 refine ⟨_,cm,rfl,rfl,rfl,_,_,rfl,aj,(.ab 5 0 3 2 _ (λ_=>gN (d277).po) λZl=>(.ab 5 1 3 4 _ (λ_=>gN (d292).po) λZm=>?_))⟩
 have d295:=(DR.bS (ae.bh (x:=JL) (F0:=Zl) d277) (DR.bS (ae.bh (x:=Sm) (F0:=Zm) d292) DR.cZ))
 exact ct ⟨_,_,_,_,_,_,d295,si h,rfl,rfl⟩ (tk [0,1,9,6,5] gP ED)
 refine ⟨rfl,_,cm,rfl,_,_,rfl,aj,(.ab 6 0 3 2 _ (λ_=>gN (d277).po) λZl=>(.ab 6 1 3 4 _ (λ_=>gN (d292).po) λZm=>?_))⟩
 have d295:=(DR.bS (ae.bh (x:=JL) (F0:=Zl) d277) (DR.bS (ae.bh (x:=Sm) (F0:=Zm) d292) DR.cZ))
 exact ct ⟨_,_,_,_,_,_,d295,si h,rfl,rfl⟩ (tk [0,1,9,5,6] gP ED)
 refine ⟨rfl,?_⟩
 obtain ⟨⟨Sm,Sn⟩,Zk,h⟩:=bd h
 refine bp (mn _ _ Zk _) [0] λf291 d292=>?_
 refine ⟨rfl,_,cm,rfl,_,_,rfl,aj,(.ab 6 0 3 2 _ (λ_=>gN (d277).po) λZl=>(.ab 6 1 3 5 _ (λ_=>gN (d292).po) λZm=>?_))⟩
 have d295:=(DR.bS (ae.bh (x:=JL) (F0:=Zl) d277) (DR.bS (ae.bh (x:=Sm) (F0:=Zm) d292) DR.cZ))
 exact ct ⟨_,_,_,_,_,_,d295,si h,rfl,rfl⟩ (tk [0,1,9,4,6] gP ED)
 rintro _ _ ⟨Xc,Xd,Xe,Xf,NA,f283,d284,rfl,rfl,rfl⟩
 replace h:=awB
 refine .d (.d ?_)
 obtain ⟨⟨xy,Hg⟩,Vt,h⟩:=bd h
 refine bK (az Vt) [0] ?_
 refine sV h (λZn h=>?_) (λZn h=>?_)
 refine .d ?_
 obtain ⟨⟨HO,Hh⟩,Vu,h⟩:=bd h
 refine bK (cr Vu) [0] ?_
 refine sV h (λVv h=>?_) (λVv h=>?_)
 refine .float [(0,true),(1,true),(2,true),(3,false),(4,false),(5,true),(6,false),(7,false),(8,true),(9,false)] aNh ?_
 refine ⟨rfl,rfl,_,rfl,?_⟩
 obtain ⟨⟨zV,adp⟩,awC,h⟩:=bd h
 refine bp (N1 _ _ awC _) [0] λf307 d308=>?_
 refine ⟨rfl,rfl,_,cm,rfl,rfl,_,bT,rfl,rfl,(bk h λXg KW h=>(.dO ⟨rfl,rfl,(λ_ _=>rfl),DR.rO d284 KW,Xg.length,da f283 2 [pI 48,pI 0,.str [],.own 6 0 0 1],DR.ln d284 KW,cc (DR.ln d284 KW) ⟨.same _,.same _,.same _,.same _,trivial⟩,rfl,rfl,_,_,rfl,aj,(.d ⟨rfl,_,rfl,rfl,_,_,rfl,aj,?_⟩)⟩))⟩
 obtain rfl:=si h
 refine ⟨rfl,_,rfl,(.ab 6 0 3 5 _ (λ_=>gN (d308).po) λaFd=>?_)⟩
 have d312:=(DR.bS (ae.bh (x:=zV) (F0:=aFd) d308) DR.cZ)
 refine .ab 4 2 3 6 _ (λ_=>pf (DR.lq d284 KW) (d312).po) λaFe=>?_
 have d314:=DR.gu d284 KW (ae.bh (x:=(ae.mk 48 0 [] ([zV]:List ae))) (F0:=aFe) d312)
 exact en [0,4] (rs d314) eo kh
 refine .float [(0,true),(1,true),(2,true),(3,false),(4,false),(5,false),(6,true),(7,false)] aNh ?_
 refine ⟨rfl,rfl,_,rfl,?_⟩
 obtain ⟨⟨HP,Nl⟩,Ww,h⟩:=bd h
 refine bp (mn _ _ Ww _) [0] λf318 d319=>?_
 refine ⟨rfl,rfl,_,bT,rfl,rfl,(bk h λXh KX h=>(.dO ⟨rfl,rfl,(λ_ _=>rfl),DR.rO d284 KX,Xh.length,da f283 2 [pI HP.ai,pI HP.aE,.str HP.aq,.own 5 0 0 HP.af.length],DR.ln d284 KX,cc (DR.ln d284 KX) ⟨.same _,.same _,.same _,.same _,trivial⟩,rfl,rfl,_,_,rfl,aj,(.d ⟨rfl,_,rfl,rfl,_,_,rfl,aj,?_⟩)⟩))⟩
 obtain rfl:=si h
 refine ⟨rfl,_,rfl,(.ab 4 2 3 5 _ (λ_=>pf (DR.lq d284 KX) (d319).po) λaFf=>?_)⟩
 have d323:=DR.gu d284 KX (ae.bh (x:=HP) (F0:=aFf) d319)
 exact en [0,4] (rs d323) eo kh
 refine .d ⟨rfl,_,rfl,rfl,_,_,rfl,aj,?_⟩
 obtain rfl:=si h
 exact ⟨rfl,_,rfl,(en [0,4] ⟨f283,d284.self,rfl,rfl⟩ eo kh)⟩
 intro _ sJ a0 a1 r h g1000
 refine ep Tryz.func187 ?_
 refine .d (.d ?_)
 obtain ⟨⟨v69,v70⟩,akA,h⟩:=bd h
 refine bp (sJ _ _ akA _) [0] λf72 d73=>?_
 refine ⟨_,cm,rfl,_,_,rfl,aj,(.d (bk h λv74 akB h=>(bK (aY akB) [0] ?_)))⟩
 refine .d ⟨rfl,_,rfl,rfl,_,_,rfl,aj,?_⟩
 obtain rfl:=si h
 refine ⟨rfl,_,rfl,(.ab 3 0 3 2 _ (λ_=>gN (d73).po) λF76=>?_)⟩
 have d77:=(DR.bS (ae.bh (x:=v69) (F0:=F76) d73) DR.cZ)
 exact en [0,3] (rs d77) eo kh
theorem sK {a0:ak} {r:ae×ak} {g1000:Nat} (h:bs a0=some r):E7 124 a0 r g1000:=qm.1 a0 r h g1000
theorem Bt {a0:ak} {r:ae×ak} {g1000:Nat} (h:aR a0=some r):E7 126 a0 r g1000:=qm.2.2.1 a0 r h g1000
set_option synthInstance.maxHeartbeats 400000
set_option synthInstance.maxSize 4000
set_option maxRecDepth 100000
def jC (a0:ak):Option kN:=
 (
 au a0 [112,114,105,118,97,116,101]>>=λ(v9,v10)=>
 (if v9=true then
 some (v10.ao,v10.bx,v10.aw,v10.av,1)
 else
 some (v10.ao,v10.bx,v10.aw,v10.av,0))
 :Option ((List ah)×Int×Int×Bool×Int))>>=λ(l1,y2,y3,b4,y5)=>
 cD (ak.mk l1 y2 y3 b4) 0>>=λ(ml,wV)=>
 (if ml.ai=2 then
 bu wV 2>>=λ(AV,RQ)=>
 au RQ [61]>>=λ(v20,v21)=>
 (if v20=true then
 bJ v21>>=λ(v24,H5)=>
 aI H5 [59]>>=λSF=>
 some ((ae.mk 54 y5 AV ([v24]:List ae)),SF)
 else
 aI v21 [59]>>=λzB=>
 some ((ae.mk 54 y5 AV ([(ae.mk 3 0 [] [])]:List ae)),zB))
 else
 (
 au wV [115,116,97,116,105,99]>>=λ(xc,qO)=>
 (if xc=true then
 some (qO.ao,qO.bx,qO.aw,qO.av,bm (y5+2))
 else
 some (qO.ao,qO.bx,qO.aw,qO.av,y5))
 :Option ((List ah)×Int×Int×Bool×Int))>>=λ(Oh,ME,EE,b39,y40)=>
 aI (ak.mk Oh ME EE b39) [102,117,110,99,116,105,111,110]>>=λE3=>
 bu E3 3>>=λ(JB,v51)=>
 ee v51>>=λ(v53,QN)=>
 bs QN>>=λ(Fb,v59)=>
 cC 56 v53 [Fb]>>=λJc=>
 some ((ae.mk 55 y40 JB Jc),v59))
theorem yW {a0:ak} {r:ae×ak} {g1000:Nat} (h:jC a0=some r):E7 186 a0 r g1000:=by
 refine ep Tryz.func186 ?_
 unfold jC at h
 refine .d (.d ?_)
 obtain ⟨o6,h,wy⟩:=bd h
 refine .cut (λσ η=>∃l1,∃y2,∃y3,∃b4,∃y5,(l1,y2,y3,b4,y5)=o6/\σ=[(0,.aA 0 g1000 0 0),(2,.aA 1 0 0 0),(3,pI y5)]/\η=[.row g1000 4 1 67 (λ_=>[sl 4 ah.cells l1,pI y2,pI y3,.bool b4]),.row 0 4 1 29 (λ_=>[pI 0,pI 0,.str [],.own 2 0 0 0]),.row 0 4 0 29 (λ_=>[])]) ?_ ?_
 refine .d ?_
 obtain ⟨⟨v9,v10⟩,CU,h⟩:=bd h
 refine bK (az CU) [0] ?_
 refine sV h (λoI h=>?_) (λoI h=>?_)
 exact ct ⟨_,_,_,_,_,si h,rfl,rfl⟩ (tk [0,1,4] ⟨.p,.p,.i,⟨⟩⟩ E8)
 exact ct ⟨_,_,_,_,_,si h,rfl,rfl⟩ (tk [0,1,4] ⟨.p,.p,.i,⟨⟩⟩ E8)
 rintro _ _ ⟨l1,y2,y3,b4,y5,rfl,rfl,rfl⟩
 replace h:=wy
 refine .d (.d ?_)
 obtain ⟨⟨ml,wV⟩,H6,h⟩:=bd h
 refine bK (fJ H6) [0] ?_
 refine sE h (λnK h=>?_) (λnK h=>?_)
 refine .d ?_
 obtain ⟨⟨AV,RQ⟩,M3,h⟩:=bd h
 refine bK (cz M3) [0] ?_
 refine ⟨rfl,_,_,rfl,aj,(.d ⟨rfl,_,_,rfl,aj,(.d (.d ?_))⟩)⟩
 obtain ⟨⟨v20,v21⟩,zQ,h⟩:=bd h
 refine bK (az zQ) [0] ?_
 refine sV h (λsr h=>?_) (λsr h=>?_)
 obtain ⟨⟨v24,H5⟩,akC,h⟩:=bd h
 refine bp (qn (g1000:=g1000) akC) [0] λf27 d28=>?_
 refine ⟨rfl,_,_,rfl,aj,(.d (bk h λSF Zo h=>(bK (aY Zo) [0] ?_)))⟩
 refine .d ⟨rfl,_,rfl,_,cm,rfl,rfl,_,_,rfl,aj,(.d ⟨rfl,_,rfl,rfl,_,_,rfl,aj,?_⟩)⟩
 obtain rfl:=si h
 refine ⟨rfl,_,rfl,(.ab 6 0 3 5 _ (λ_=>gN (d28).po) λF31=>?_)⟩
 have d32:=(DR.bS (ae.bh (x:=v24) (F0:=F31) d28) DR.cZ)
 exact en [0,6] (rs d32) eo kh
 refine .d (bk h λzB Zp h=>(bK (aY Zp) [0] ?_))
 refine .d ⟨rfl,_,rfl,(jr [[pI 3,pI 0,.str [],.dI 4 0 29 (λ_=>[]) (λ_=>False)]]),(Zq (vx rfl ⟨.same _,.same _,.same _,.Bu _ _ _,trivial⟩ trivial)),rfl,rfl,_,_,rfl,aj,(.d ⟨rfl,_,rfl,rfl,_,_,rfl,aj,?_⟩)⟩
 obtain rfl:=si h
 refine ⟨rfl,_,rfl,?_⟩
 have d35:=(DR.bS (ae.bh (x:=(ae.mk 3 0 [] [])) (F0:=(λ_=>False)) DR.nil) DR.cZ)
 exact en [0,5] (rs d35) eo kh
 obtain ⟨o41,h,aFg⟩:=bd h
 refine .cut (λσ η=>∃Oh,∃ME,∃EE,∃b39,∃y40,(Oh,ME,EE,b39,y40)=o41/\σ=[(0,.aA 0 g1000 0 0),(2,.aA 1 0 0 0),(3,pI y40)]/\η=[.row g1000 4 1 67 (λ_=>[sl 4 ah.cells Oh,pI ME,pI EE,.bool b39]),.row 0 4 1 29 (λ_=>[pI 0,pI 0,.str [],.own 2 0 0 0]),.row 0 4 0 29 (λ_=>[])]) ?_ ?_
 refine .d ?_
 obtain ⟨⟨xc,qO⟩,Ng,h⟩:=bd h
 refine bK (az Ng) [0] ?_
 refine sV h (λCg h=>?_) (λCg h=>?_)
 exact ct ⟨_,_,_,_,_,si h,rfl,rfl⟩ (tk [0,1,2] ⟨.p,.p,.i,⟨⟩⟩ adU)
 exact ct ⟨_,_,_,_,_,si h,rfl,rfl⟩ (tk [0,1,2] ⟨.p,.p,.i,⟨⟩⟩ adU)
 rintro _ _ ⟨Oh,ME,EE,b39,y40,rfl,rfl,rfl⟩
 replace h:=aFg
 refine .d (bk h λE3 Zr h=>(bK (aY Zr) [0] ?_))
 refine .d ?_
 obtain ⟨⟨JB,v51⟩,akD,h⟩:=bd h
 refine bK (cz akD) [0] ?_
 refine ⟨rfl,_,_,rfl,aj,(.d ?_)⟩
 obtain ⟨⟨v53,QN⟩,Oi,h⟩:=bd h
 refine bp (mZ (g1000:=g1000) Oi) [0] λf56 d57=>?_
 obtain ⟨⟨Fb,v59⟩,akE,h⟩:=bd h
 refine bp (sK (g1000:=g1000) akE) [0] λf61 d62=>?_
 refine ⟨_,bT,(bk h λJc CV h=>(.dO ⟨rfl,rfl,(λ_ _=>rfl),DR.rO d57 CV,Jc.length,da f56 v53.length [pI Fb.ai,pI Fb.aE,.str Fb.aq,.own 5 0 0 Fb.af.length],DR.ln d57 CV,cc (DR.ln d57 CV) ⟨.same _,.same _,.same _,.same _,trivial⟩,rfl,rfl,_,_,rfl,aj,(.d ⟨rfl,_,rfl,rfl,_,_,rfl,aj,?_⟩)⟩))⟩
 obtain rfl:=si h
 refine ⟨rfl,_,rfl,(.ab 4 v53.length 3 5 _ (λ_=>pf (DR.lq d57 CV) (d62).po) λF65=>?_)⟩
 have d66:=DR.gu d57 CV (ae.bh (x:=Fb) (F0:=F65) d62)
 exact en [0,4] (rs d66) eo kh
def dJ (Bv:List ah) (Gu:Int) (xd:Int) (b17:Bool) (tM:List ae):Option Ct:=
 au (ak.mk Bv Gu xd b17) [117,115,101]>>=λ(CW,v24)=>
 (if CW=true then
 bu v24 3>>=λ(zy,v28)=>
 cC 56 tM [(ae.mk 53 0 zy [])]>>=λH7=>
 aI v28 [59]>>=λzN=>
 dJ zN.ao zN.bx zN.aw zN.av H7
 else
 some (v24.ao,v24.bx,v24.aw,v24.av,tM))
partial_fixpoint
def dK (l47:List ah) (y48:Int) (y49:Int) (b50:Bool) (Zs:List ae):Option Ct:=
 (if b50=true then
 some (l47,y48,y49,b50,Zs)
 else
 au (ak.mk l47 y48 y49 b50) [125]>>=λ(zX,Fb)=>
 (if zX=true then
 some (Fb.ao,Fb.bx,Fb.aw,Fb.av,Zs)
 else
 jC Fb>>=λ(Cd,v62)=>
 cC 56 Zs [Cd]>>=λl66=>
 dK v62.ao v62.bx v62.aw v62.av l66))
partial_fixpoint
def im (a0:ak):Option NQ:=
 aI a0 [123]>>=λv1=>
 (
 dJ v1.ao v1.bx v1.aw v1.av ([]:List ae)
 :Option Ct)>>=λ(l3,y4,y5,b6,l7)=>
 (
 dK l3 y4 y5 b6 l7
 :Option Ct)>>=λ(l37,EE,H8,b40,SG)=>
 some (SG,(ak.mk l37 EE H8 b40))
theorem pn {a0:ak} {r:(List ae)×ak} {g1000:Nat} (h:im a0=some r):ajh 125 a0 r g1000:=by
 refine ep Tryz.func125 ?_
 unfold im at h
 refine .d (.d ⟨(jr []),(λi h=>absurd h (aKR i)),(.d (bk h λv1 tu h=>(bK (aY tu) [0] ?_)))⟩)
 obtain ⟨T4,h,Hu⟩:=bd h
 refine .cut (λσ η=>∃l3,∃y4,∃y5,∃b6,∃l7,∃f8:Nat->List PV,DR ae.D l7.length f8 l7/\(l3,y4,y5,b6,l7)=T4/\σ=[(0,.aA 0 g1000 0 0),(3,.own 1 0 0 l7.length)]/\η=[.row g1000 4 1 67 (λ_=>[sl 4 ah.cells l3,pI y4,pI y5,.bool b6]),.row 0 4 l7.length 29 f8]) ?_ ?_
 have d13:DR ae.D 0 (jr []) ([]:List ae):=DR.cZ
 refine le (dJ.partial_correctness  (motive:=λBv Gu xd b17 tM o35=>∀f19:Nat->List PV,DR ae.D tM.length f19 tM->T4=o35->aK _ _ [(0,.aA 0 g1000 0 0),(3,.own 1 0 0 tM.length)] [.row g1000 4 1 67 (λ_=>[sl 4 ah.cells Bv,pI Gu,pI xd,.bool b17]),.row 0 4 tM.length 29 f19]) ?_ v1.ao v1.bx v1.aw v1.av ([]:List ae) T4 h (jr []) d13.self rfl) (tk [0,1] H2 zZ)
 intro F22 akF Bv Gu xd b17 tM o35 h f19 d20 akG
 subst akG
 refine aK.round (.d (.d ?_))
 obtain ⟨⟨CW,v24⟩,Nt,h⟩:=bd h
 refine bK (az Nt) [0] ?_
 refine sV h (λwP h=>?_) (λwP h=>?_)
 refine .d ?_
 obtain ⟨⟨zy,v28⟩,akH,h⟩:=bd h
 refine bK (cz akH) [0] ?_
 refine ⟨_,bT,(bk h λH7 tH h=>(.dO ⟨rfl,rfl,(λ_ _=>rfl),DR.rO d20 tH,H7.length,da f19 tM.length [pI 53,pI 0,.str zy,.dI 4 0 29 (λ_=>[]) (λ_=>False)],DR.ln d20 tH,cc (DR.ln d20 tH) ⟨.same _,.same _,.same _,.Bu _ _ _,trivial⟩,(bk h λzN WE h=>(bK (aY WE) [0] ?_))⟩))⟩
 have d34:=DR.gu d20 tH (ae.bh (x:=(ae.mk 53 0 zy [])) (F0:=(λ_=>False)) DR.nil)
 exact lg (akF _ _ _ _ _ _ h _ d34 rfl) (tk [0,1] H2 zZ)
 exact ct ⟨_,_,_,_,_,f19,d20,si h,rfl,rfl⟩ (tk [0,1] H2 zZ)
 rintro _ _ ⟨l3,y4,y5,b6,l7,f8,d9,rfl,rfl,rfl⟩
 replace h:=Hu
 obtain ⟨o44,h,SH⟩:=bd h
 refine .cut (λσ η=>∃l37,∃EE,∃H8,∃b40,∃SG,∃f42:Nat->List PV,DR ae.D SG.length f42 SG/\(l37,EE,H8,b40,SG)=o44/\σ=[(3,.own 1 0 0 SG.length)]/\η=[.row g1000 4 1 67 (λ_=>[sl 4 ah.cells l37,pI EE,pI H8,.bool b40]),.row 0 4 SG.length 29 f42]) ?_ ?_
 refine le (dK.partial_correctness  (motive:=λl47 y48 y49 b50 Zs o70=>∀f52:Nat->List PV,DR ae.D Zs.length f52 Zs->o44=o70->aK _ _ [(0,.aA 0 g1000 0 0),(3,.own 1 0 0 Zs.length)] [.row g1000 4 1 67 (λ_=>[sl 4 ah.cells l47,pI y48,pI y49,.bool b50]),.row 0 4 Zs.length 29 f52]) ?_ l3 y4 y5 b6 l7 o44 h f8 d9 rfl) (tk [0,1] H2 zZ)
 intro F55 aFh l47 y48 y49 b50 Zs o70 h f52 d53 aFi
 subst aFi
 refine aK.round (.d (.d ⟨rfl,rfl,rfl,_,rfl,(fP h (λM6 h=>?_) (λM6 h=>?_))⟩))
 refine .t ?_
 obtain ⟨⟨zX,Fb⟩,Zt,h⟩:=bd h
 refine bK (az Zt) [0] ?_
 refine .t (.t (fP h (λah4 h=>?_) (λah4 h=>?_)))
 obtain ⟨⟨Cd,v62⟩,akI,h⟩:=bd h
 refine bp (yW (g1000:=g1000) akI) [0] λf64 d65=>?_
 refine ⟨_,bT,(bk h λl66 Zu h=>(.dO ⟨rfl,rfl,(λ_ _=>rfl),DR.rO d53 Zu,l66.length,da f52 Zs.length [pI Cd.ai,pI Cd.aE,.str Cd.aq,.own 2 0 0 Cd.af.length],DR.ln d53 Zu,cc (DR.ln d53 Zu) ⟨.same _,.same _,.same _,.same _,trivial⟩,(.ab 1 Zs.length 3 2 _ (λ_=>pf (DR.lq d53 Zu) (d65).po) λF68=>?_)⟩))⟩
 have d69:=DR.gu d53 Zu (ae.bh (x:=Cd) (F0:=F68) d65)
 exact lg (aFh _ _ _ _ _ _ h _ d69 rfl) (tk [0,1] H2 zZ)
 exact ct ⟨_,_,_,_,_,f52,d53,si h,rfl,rfl⟩ (tk [0,1] ⟨.oe,⟨⟩⟩ zZ)
 exact .f (.f (.f (.f (ct ⟨_,_,_,_,_,f52,d53,si h,rfl,rfl⟩ (tk [0,1] ⟨.oe,⟨⟩⟩ zZ)))))
 rintro _ _ ⟨l37,EE,H8,b40,SG,f42,d43,rfl,rfl,rfl⟩
 replace h:=SH
 refine .d ?_
 obtain rfl:=si h
 exact en [0,1] ⟨f42,d43.self,rfl,rfl⟩ (.oe) kh
def lW (a0:ak):Option kN:=
 (
 aV a0 0 [102,117,110,99,116,105,111,110]>>=λ(v9,v10)=>
 (if v9=true then
 cD v10 1>>=λ(ml,wV)=>
 some (wV.ao,wV.bx,wV.aw,wV.av,(ml.ai==3))
 else
 some (v10.ao,v10.bx,v10.aw,v10.av,false))
 :Option Sh)>>=λ(l1,y2,y3,b4,b5)=>
 (if b5=true then
 bu (ak.mk l1 (bm (y2+1)) y3 b4) 3>>=λ(AV,RQ)=>
 ee RQ>>=λ(v20,v21)=>
 bs v21>>=λ(H5,v26)=>
 cC 56 v20 [H5]>>=λH7=>
 some ((ae.mk 49 0 AV H7),v26)
 else
 au (ak.mk l1 y2 y3 b4) [99,108,97,115,115]>>=λ(Fc,V6)=>
 (if Fc=true then
 bu V6 3>>=λ(uu,v39)=>
 au v39 [101,120,116,101,110,100,115]>>=λ(zC,v42)=>
 (if zC=true then
 bu v42 3>>=λ(qO,v46)=>
 must (1*56<=140737488355328)>>=λ_=>
 im v46>>=λ(v49,JB)=>
 cC 56 [(ae.mk 52 0 qO [])] v49>>=λl55=>
 some ((ae.mk 50 0 uu l55),JB)
 else
 im v42>>=λ(zX,Fb)=>
 must (zX.length*56<=140737488355328)>>=λ_=>
 some ((ae.mk 50 0 uu zX),Fb))
 else
 au V6 [116,114,97,105,116]>>=λ(Jl,zD)=>
 (if Jl=true then
 bu zD 3>>=λ(EB,AR)=>
 im AR>>=λ(v70,Um)=>
 some ((ae.mk 51 0 EB v70),Um)
 else
 aR zD>>=λ(v75,v76)=>
 some (v75,v76))))
theorem CX {a0:ak} {r:ae×ak} {g1000:Nat} (h:lW a0=some r):E7 59 a0 r g1000:=by
 refine ep Tryz.func59 ?_
 unfold lW at h
 refine .d (.d ?_)
 obtain ⟨o6,h,wy⟩:=bd h
 refine .cut (λσ η=>∃l1,∃y2,∃y3,∃b4,∃b5,(l1,y2,y3,b4,b5)=o6/\σ=[(0,.aA 0 g1000 0 0),(2,.aA 1 0 0 0),(6,.bool b5)]/\η=[.row g1000 4 1 67 (λ_=>[sl 4 ah.cells l1,pI y2,pI y3,.bool b4]),.row 0 4 1 29 (λ_=>[pI 0,pI 0,.str [],.own 2 0 0 0]),.row 0 4 0 29 (λ_=>[])]) ?_ ?_
 obtain ⟨⟨v9,v10⟩,CU,h⟩:=bd h
 refine bK (cr CU) [0] ?_
 refine sV h (λoI h=>?_) (λoI h=>?_)
 refine .t ?_
 obtain ⟨⟨ml,wV⟩,H6,h⟩:=bd h
 refine bK (fJ H6) [0] ?_
 exact .t (.t (.t (ct ⟨_,_,_,_,_,si h,rfl,rfl⟩ (tk [0,1,4] Sz E8))))
 exact .f (.f (.f (.f (ct ⟨_,_,_,_,_,si h,rfl,rfl⟩ (tk [0,1,4] Sz E8)))))
 rintro _ _ ⟨l1,y2,y3,b4,b5,rfl,rfl,rfl⟩
 replace h:=wy
 refine sV h (λnK h=>?_) (λnK h=>?_)
 refine .d ⟨rfl,rfl,rfl,_,rfl,rfl,rfl,rfl,_,_,rfl,aj,(.d ?_)⟩
 obtain ⟨⟨AV,RQ⟩,M3,h⟩:=bd h
 refine bK (cz M3) [0] ?_
 refine ⟨rfl,_,_,rfl,aj,(.d ?_)⟩
 obtain ⟨⟨v20,v21⟩,zQ,h⟩:=bd h
 refine bp (mZ (g1000:=g1000) zQ) [0] λf23 d24=>?_
 obtain ⟨⟨H5,v26⟩,akJ,h⟩:=bd h
 refine bp (sK (g1000:=g1000) akJ) [0] λf28 d29=>?_
 refine ⟨_,bT,(bk h λH7 tH h=>(.dO ⟨rfl,rfl,(λ_ _=>rfl),DR.rO d24 tH,H7.length,da f23 v20.length [pI H5.ai,pI H5.aE,.str H5.aq,.own 5 0 0 H5.af.length],DR.ln d24 tH,cc (DR.ln d24 tH) ⟨.same _,.same _,.same _,.same _,trivial⟩,rfl,rfl,_,_,rfl,aj,(.d ⟨rfl,_,rfl,rfl,_,_,rfl,aj,?_⟩)⟩))⟩
 obtain rfl:=si h
 refine ⟨rfl,_,rfl,(.ab 4 v20.length 3 5 _ (λ_=>pf (DR.lq d24 tH) (d29).po) λF32=>?_)⟩
 have d33:=DR.gu d24 tH (ae.bh (x:=H5) (F0:=F32) d29)
 exact en [0,4] (rs d33) eo kh
 refine .d ?_
 obtain ⟨⟨Fc,V6⟩,Wf,h⟩:=bd h
 refine bK (az Wf) [0] ?_
 refine sV h (λzI h=>?_) (λzI h=>?_)
 refine .d ?_
 obtain ⟨⟨uu,v39⟩,aFj,h⟩:=bd h
 refine bK (cz aFj) [0] ?_
 refine ⟨rfl,_,_,rfl,aj,(.d (.d ?_))⟩
 obtain ⟨⟨zC,v42⟩,akK,h⟩:=bd h
 refine bK (az akK) [0] ?_
 refine sV h (λakL h=>?_) (λakL h=>?_)
 refine .float [(0,true),(1,true),(2,true),(3,false),(4,true),(5,false),(6,false),(7,true),(8,false)] aNh ?_
 refine ⟨rfl,rfl,_,rfl,?_⟩
 obtain ⟨⟨qO,v46⟩,Zv,h⟩:=bd h
 refine bK (cz Zv) [0] ?_
 refine ⟨rfl,rfl,_,bT,rfl,rfl,?_⟩
 obtain ⟨_,aFk,h⟩:=bd h
 refine .dO ⟨rfl,(λ_ _=>rfl),wA aFk,1,da (λ_=>[]) 0 [pI 52,pI 0,.str qO,.dI 4 0 29 (λ_=>[]) (λ_=>False)],rfl,HZ rfl ⟨.same _,.same _,.same _,.Bu _ _ _,trivial⟩,rfl,rfl,_,_,rfl,aj,(.d (.float [(0,true),(1,true),(2,true),(3,false),(4,false),(5,true),(6,false)] aNh ?_))⟩
 refine ⟨rfl,rfl,_,rfl,?_⟩
 obtain ⟨⟨v49,JB⟩,Nh,h⟩:=bd h
 refine bp (pn (g1000:=g1000) Nh) [0] λf52 d53=>?_
 refine ⟨rfl,rfl,?_⟩
 have d54:DR ae.D 1 (da (λ_=>[]) 0 [pI 52,pI 0,.str qO,.dI 4 0 29 (λ_=>[]) (λ_=>False)]) [(ae.mk 52 0 qO [])]:=DR.app DR.nil (ae.bh (x:=(ae.mk 52 0 qO [])) DR.nil:ae.D [pI 52,pI 0,.str qO,.dI 4 0 29 (λ_=>[]) (λ_=>False)] (ae.mk 52 0 qO []))
 refine bk h λl55 Oj h=>(.move ⟨rfl,rfl,DR.jbd d54.len d53.len Oj,rfl,rfl,_,_,rfl,aj,(.d ⟨rfl,_,rfl,rfl,_,_,rfl,aj,?_⟩)⟩)
 obtain rfl:=si h
 exact ⟨rfl,_,rfl,(en [0,5] ⟨_,(DR.MD d54 d53 Oj).self,rfl,rfl⟩ (.kR ⟨.i,.i,.s,(.od (by first | rfl | exact (DR.MD d54 d53 Oj).len | exact (DR.MD d54 d53 Oj).len.symm)),⟨⟩⟩) ⟨(ob rfl ⟨.l,.i,.i,.b,⟨⟩⟩),(nwd (DR.MD d54 d53 Oj) (DR.MD d54 d53 Oj).len (DR.MD d54 d53 Oj).len),⟨⟩⟩)⟩
 refine .d (.float [(0,true),(1,true),(2,true),(3,false),(4,false),(5,true),(6,false)] aNh ?_)
 refine ⟨rfl,rfl,_,rfl,?_⟩
 obtain ⟨⟨zX,Fb⟩,Zt,h⟩:=bd h
 refine bp (pn (g1000:=g1000) Zt) [0] λf60 d61=>?_
 refine ⟨rfl,rfl,?_⟩
 obtain ⟨_,aFl,h⟩:=bd h
 refine .move ⟨rfl,DR.mb d61 (wA aFl),rfl,rfl,_,_,rfl,aj,(.d ⟨rfl,_,rfl,rfl,_,_,rfl,aj,?_⟩)⟩
 obtain rfl:=si h
 exact ⟨rfl,_,rfl,(en [0,5] ⟨f60,d61.self,rfl,rfl⟩ eo kh)⟩
 refine .d ?_
 obtain ⟨⟨Jl,zD⟩,akM,h⟩:=bd h
 refine bK (az akM) [0] ?_
 refine sV h (λM9 h=>?_) (λM9 h=>?_)
 refine .d ?_
 obtain ⟨⟨EB,AR⟩,VW,h⟩:=bd h
 refine bK (cz VW) [0] ?_
 refine ⟨rfl,_,_,rfl,aj,(.d ?_)⟩
 obtain ⟨⟨v70,Um⟩,Na,h⟩:=bd h
 refine bp (pn (g1000:=g1000) Na) [0] λf73 d74=>?_
 refine ⟨rfl,rfl,_,_,rfl,aj,(.d ⟨rfl,_,rfl,rfl,_,_,rfl,aj,?_⟩)⟩
 obtain rfl:=si h
 exact ⟨rfl,_,rfl,(en [0,4] ⟨f73,d74.self,rfl,rfl⟩ eo kh)⟩
 refine .d ?_
 obtain ⟨⟨v75,v76⟩,aFm,h⟩:=bd h
 refine bp (Bt (g1000:=g1000) aFm) [0] λf78 d79=>?_
 refine ⟨rfl,_,_,rfl,aj,?_⟩
 obtain rfl:=si h
 exact ⟨rfl,_,rfl,(en [0,3] ⟨f78,d79.self,rfl,rfl⟩ eo kh)⟩
def dy (v1:List ah) (oq:List ae) (wB:List ah) (MF:Int) (AL:Int) (b25:Bool) (xO:List ae):Option ((List ae)×(List ah)×Int×Int×Bool×(List ae)):=
 (if b25=true then
 some (oq,wB,MF,AL,b25,xO)
 else
 (if MF<(v1.length:Int) then
 au (ak.mk wB MF AL b25) [59]>>=λ(zB,Fc)=>
 (if zB=true then
 dy v1 oq Fc.ao Fc.bx Fc.aw Fc.av xO
 else
 lW Fc>>=λ(v37,uu)=>
 cC 56 xO [v37]>>=λl42=>
 dy v1 oq uu.ao uu.bx uu.aw uu.av l42)
 else
 some (oq,wB,MF,AL,b25,xO)))
partial_fixpoint
def iR (a0:aD):Option (ae×Int×Int):=
 yX a0>>=λ(v1,v2,v3)=>
 (if v2=0 then
 (
 dy v1 ([]:List ae) v1 0 (a0.length:Int) false ([]:List ae)
 :Option ((List ae)×(List ah)×Int×Int×Bool×(List ae)))>>=λ(l6,l9,qP,iH,b12,yp)=>
 (if b12=true then
 ki (ak.mk l9 qP iH b12)>>=λ(v49,JB)=>
 some ((ae.mk 0 0 [] []),10,v49)
 else
 mQ (ae.mk 56 0 [] yp)>>=λtt=>
 (if tt=true then
 some ((ae.mk 56 0 [] yp),0,0)
 else
 some ((ae.mk 0 0 [] []),11,0)))
 else
 some ((ae.mk 0 0 [] []),v2,v3))
theorem sL {a0:aD} {r:ae×Int×Int} (h:iR a0=some r):awD 24 a0 r:=by
 refine ep Tryz.func24 ?_
 unfold iR at h
 refine .d (.d ?_)
 obtain ⟨⟨v1,v2,v3⟩,RP,h⟩:=bd h
 refine b8 (Zw RP) (.d (.d (sN h (λAK h=>?_) (λAK h=>?_))))
 refine .d ⟨rfl,_,_,rfl,aj,?_⟩
 obtain rfl:=si h
 exact ⟨rfl,_,rfl,(en [1] ⟨_,(DR.nil (D:=ae.D)),rfl,rfl⟩ SI SJ)⟩
 refine .d ⟨rfl,_,_,rfl,aj,(.d ⟨rfl,_,_,rfl,aj,?_⟩)⟩
 obtain ⟨Qf,h,aiF⟩:=bd h
 refine .cut (λσ η=>∃l6,∃l9,∃qP,∃iH,∃b12,∃yp,∃f7:Nat->List PV,∃f14:Nat->List PV,DR ae.D l6.length f7 l6/\DR ae.D yp.length f14 yp/\(l6,l9,qP,iH,b12,yp)=Qf/\σ=[(2,.aA 0 0 0 0),(8,.aA 2 0 0 0),(9,.aA 3 0 0 0)]/\η=[.row 0 4 1 29 (λ_=>[pI 0,pI 0,.str [],.own 1 0 0 l6.length]),.row 0 4 l6.length 29 f7,.row 0 4 1 67 (λ_=>[sl 4 ah.cells l9,pI qP,pI iH,.bool b12]),.row 0 4 1 29 (λ_=>[pI 56,pI 0,.str [],.own 4 0 0 yp.length]),.row 0 4 yp.length 29 f14]) ?_ ?_
 refine le (dy.partial_correctness v1 ([]:List ae) (motive:=λwB MF AL b25 xO UH=>∀f20:Nat->List PV,∀f27:Nat->List PV,DR ae.D ([]:List ae).length f20 ([]:List ae)->DR ae.D xO.length f27 xO->Qf=UH->aK _ _ [(2,.aA 0 0 0 0),(5,sl 4 ah.cells v1),(8,.aA 2 0 0 0),(9,.aA 3 0 0 0)] [.row 0 4 1 29 (λ_=>[pI 0,pI 0,.str [],.own 1 0 0 ([]:List ae).length]),.row 0 4 ([]:List ae).length 29 f20,.row 0 4 1 67 (λ_=>[sl 4 ah.cells wB,pI MF,pI AL,.bool b25]),.row 0 4 1 29 (λ_=>[pI 56,pI 0,.str [],.own 4 0 0 xO.length]),.row 0 4 xO.length 29 f27]) ?_ v1 0 (a0.length:Int) false ([]:List ae) Qf h (λ_=>[]) (λ_=>[]) ((DR.nil (D:=ae.D)).self) ((DR.nil (D:=ae.D)).self) rfl) (tk [0,4,1,2,7] ⟨.p,.l,.p,.p,⟨⟩⟩ ⟨(nb rfl ⟨.i,.i,.s,.g,⟨⟩⟩),gh,(nbp rfl),(nb rfl ⟨.i,.i,.s,.g,⟨⟩⟩),gh,⟨⟩⟩)
 intro F30 awE wB MF AL b25 xO UH h f20 f27 d21 d28 M5
 subst M5
 refine aK.round (.d (.d ⟨rfl,rfl,_,rfl,(fP h (λzL h=>?_) (λzL h=>?_))⟩))
 refine ⟨rfl,(.t ⟨rfl,_,rfl,(.t (.t (.t (.t (sD h (λCe h=>?_) (λCe h=>?_))))))⟩)⟩
 refine .d (.d ?_)
 obtain ⟨⟨zB,Fc⟩,Zx,h⟩:=bd h
 refine bK (az Zx) [2] ?_
 refine sV h (λVT h=>?_) (λVT h=>?_)
 exact lg (awE _ _ _ _ _ _ h f20 f27 d21 d28 rfl) (tk [0,1,2,3,4] ⟨.p,.l,.p,.p,⟨⟩⟩ adW)
 refine .float [(0,true),(1,true),(2,false),(3,false),(4,false),(5,true),(6,false)] aNh ?_
 refine ⟨rfl,rfl,_,rfl,?_⟩
 obtain ⟨⟨v37,uu⟩,Ns,h⟩:=bd h
 refine bp (CX (g1000:=0) Ns) [2] λf40 d41=>?_
 refine ⟨rfl,rfl,_,bT,rfl,rfl,(bk h λl42 KY h=>(.dO ⟨rfl,rfl,(λ_ _=>rfl),DR.rO d28 KY,l42.length,da f27 xO.length [pI v37.ai,pI v37.aE,.str v37.aq,.own 5 0 0 v37.af.length],DR.ln d28 KY,cc (DR.ln d28 KY) ⟨.same _,.same _,.same _,.same _,trivial⟩,rfl,rfl,_,_,rfl,aj,(.ab 4 xO.length 3 5 _ (λ_=>pf (DR.lq d28 KY) (d41).po) λF44=>?_)⟩))⟩
 have d45:=DR.gu d28 KY (ae.bh (x:=v37) (F0:=F44) d41)
 exact lg (awE _ _ _ _ _ _ h f20 _ d21 d45 rfl) (tk [0,1,2,3,4] ⟨.p,.l,.p,.p,⟨⟩⟩ adW)
 exact ct ⟨_,_,_,_,_,_,f20,f27,d21,d28,si h,rfl,rfl⟩ (tk [0,1,2,3,4] gP adW)
 exact .f (.f (.f (.f (.f (.f (ct ⟨_,_,_,_,_,_,f20,f27,d21,d28,si h,rfl,rfl⟩ (tk [0,1,2,3,4] gP adW)))))))
 rintro _ _ ⟨l6,l9,qP,iH,b12,yp,f7,f14,d8,d15,rfl,rfl,rfl⟩
 replace h:=aiF
 refine .d (.d ⟨rfl,rfl,_,rfl,(sV h (λZy h=>?_) (λZy h=>?_))⟩)
 refine .d ?_
 obtain ⟨⟨v49,JB⟩,Nh,h⟩:=bd h
 refine bK (z7 Nh) [2] ?_
 refine ⟨rfl,_,_,rfl,aj,?_⟩
 obtain rfl:=si h
 exact ⟨rfl,_,rfl,(en [5] ⟨_,(DR.nil (D:=ae.D)),rfl,rfl⟩ SI SJ)⟩
 refine .d (.d ⟨rfl,_,rfl,(bk h λtt H9 h=>(T6 (EL H9) ⟨.kR ⟨.i,.i,.s,(.rd d15),⟨⟩⟩,⟨⟩⟩ (fP h (λakN h=>?_) (λakN h=>?_))))⟩)
 refine .d ⟨rfl,_,_,rfl,aj,?_⟩
 obtain rfl:=si h
 exact ⟨rfl,_,rfl,(en [5] ⟨_,(DR.nil (D:=ae.D)),rfl,rfl⟩ SI SJ)⟩
 refine .d ⟨rfl,_,rfl,rfl,_,_,rfl,aj,?_⟩
 obtain rfl:=si h
 exact ⟨rfl,_,rfl,(en [4] ⟨f14,d15.self,rfl,rfl⟩ (.nR ⟨.kR ⟨.i,.i,.s,.oe,⟨⟩⟩,.i,.i,⟨⟩⟩) ⟨yY,⟨⟩⟩)⟩
end Go.Am
