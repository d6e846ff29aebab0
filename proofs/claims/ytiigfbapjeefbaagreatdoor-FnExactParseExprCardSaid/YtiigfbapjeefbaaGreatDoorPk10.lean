/- Texts of the proof, joined and shortened. -/
import Derived.Test.YtiigfbapjeefbaaGreatDoorPk9
set_option linter.unusedVariables false
set_option linter.unusedSimpArgs false
set_option synthInstance.maxHeartbeats 400000
set_option synthInstance.maxSize 4000
set_option maxRecDepth 100000
set_option maxHeartbeats 8000000
namespace Go.Am
open Go Go.RowKit Go.Proofs
mutual
def bL (a0:ai):Option (ae×ai):=
 aK a0 [123]>>=λv1=>
 (
 ck v1.ar v1.bM v1.az v1.ay ([]:List ae) ([]:List ae)
 :Option ((List af)×Int×Int×Bool×(List ae)×(List ae)))>>=λ(l3,y4,y5,b6,l7,l10)=>
 some ((ae.mk 48 0 [] l10),(ai.mk l3 y4 y5 b6))
partial_fixpoint
def dF (a0:ai) (a1:Int):Option (ae×ai):=
 aU a0>>=λ(v69,v70)=>
 aK v70 [59]>>=λv74=>
 some ((ae.mk a1 0 [] ([v69]:List ae)),v74)
partial_fixpoint
def gq (a0:ai):Option (ae×ai):=
 aK a0 [40]>>=λv78=>
 aU v78>>=λ(v80,AY)=>
 aK AY [41]>>=λv85=>
 some (v80,v85)
partial_fixpoint
def aL (a0:ai):Option (ae×ai):=
 dB a0 0>>=λ(v87,v88)=>
 (if v88.ay=true then
 some ((ae.mk 0 0 [] []),v88)
 else
 (if v87.aj=1 then
 some ((ae.mk 31 0 v87.aq []),(ai.mk v88.ar (bq (v88.bM+1)) v88.az v88.ay))
 else
 aW v88 0 [123]>>=λ(v92,v93)=>
 (if v92=true then
 bL v93>>=λ(v96,v97)=>
 some (v96,v97)
 else
 av v93 [101,99,104,111]>>=λ(aqp,ahU)=>
 (if aqp=true then
 dF ahU 32>>=λ(v105,Ic)=>
 some (v105,Ic)
 else
 aW ahU 0 [105,102]>>=λ(Vp,LJ)=>
 (if Vp=true then
 fP LJ>>=λ(Ie,Ge)=>
 some (Ie,Ge)
 else
 av LJ [119,104,105,108,101]>>=λ(Qw,Aq)=>
 (if Qw=true then
 gq Aq>>=λ(LK,v124)=>
 bL v124>>=λ(ahV,SU)=>
 some ((ae.mk 35 0 [] ([LK,ahV]:List ae)),SU)
 else
 av Aq [102,111,114,101,97,99,104]>>=λ(Vq,ahW)=>
 (if Vq=true then
 kn ahW>>=λ(Vr,v141)=>
 some (Vr,v141)
 else
 av ahW [98,114,101,97,107]>>=λ(v145,v146)=>
 (if v145=true then
 aK v146 [59]>>=λaqq=>
 some ((ae.mk 37 0 [] []),aqq)
 else
 av v146 [99,111,110,116,105,110,117,101]>>=λ(Qx,v152)=>
 (if Qx=true then
 aK v152 [59]>>=λSX=>
 some ((ae.mk 38 0 [] []),SX)
 else
 av v152 [114,101,116,117,114,110]>>=λ(v157,Qy)=>
 (if v157=true then
 av Qy [59]>>=λ(aqr,v162)=>
 (if aqr=true then
 some ((ae.mk 39 0 [] []),v162)
 else
 dF v162 39>>=λ(HA,aqs)=>
 some (HA,aqs))
 else
 av Qy [103,108,111,98,97,108]>>=λ(aqt,v171)=>
 (if aqt=true then
 bT v171 2>>=λ(Ur,v175)=>
 aK v175 [59]>>=λHQ=>
 some ((ae.mk 40 0 Ur []),HQ)
 else
 av v171 [117,110,115,101,116]>>=λ(aqu,ahX)=>
 (if aqu=true then
 aK ahX [40]>>=λv183=>
 ic v183>>=λ(ahY,Uu)=>
 aK Uu [41]>>=λDT=>
 aK DT [59]>>=λaqv=>
 some ((ae.mk 41 0 [] ([ahY]:List ae)),aqv)
 else
 av ahX [116,104,114,111,119]>>=λ(v196,Qh)=>
 (if v196=true then
 dF Qh 42>>=λ(aqw,v201)=>
 some (aqw,v201)
 else
 av Qh [116,114,121]>>=λ(LC,v206)=>
 (if LC=true then
 gC v206>>=λ(aqx,v210)=>
 some (aqx,v210)
 else
 av v206 [121,105,101,108,100]>>=λ(HR,sQ)=>
 (if HR=true then
 dF sQ 46>>=λ(v218,Vs)=>
 some (v218,Vs)
 else
 (
 (if v87.aj=2 then
 bK v87.aq>>=λv232=>
 (if v232=true then
 aW sQ 1 [61]>>=λ(abo,v236)=>
 (if abo=true then
 aW v236 2 [121,105,101,108,100]>>=λ(abp,yX)=>
 some (yX.ar,yX.bM,yX.az,yX.ay,abp)
 else
 some (v236.ar,v236.bM,v236.az,v236.ay,false))
 else
 some (sQ.ar,sQ.bM,sQ.az,sQ.ay,false))
 else
 some (sQ.ar,sQ.bM,sQ.az,sQ.ay,false))
 :Option ((List af)×Int×Int×Bool×Bool))>>=λ(Qz,QA,QB,QC,Vt)=>
 (if Vt=true then
 cm (ai.mk Qz QA QB QC)>>=λ(Gp,HT)=>
 dF (ai.mk HT.ar (bq (HT.bM+2)) HT.az HT.ay) 46>>=λ(Vu,aqy)=>
 db 56 ([Gp]:List ae) Vu.ah>>=λaqz=>
 some ((ae.mk Vu.aj Vu.aP Vu.aq aqz),aqy)
 else
 av (ai.mk Qz QA QB QC) [105,110,99,108,117,100,101]>>=λ(aqA,Qq)=>
 (if aqA=true then
 bT Qq 5>>=λ(aqB,aqC)=>
 aK aqC [59]>>=λaqD=>
 some ((ae.mk 47 0 aqB []),aqD)
 else
 dF Qq 33>>=λ(aqE,aqF)=>
 some (aqE,aqF))))))))))))))))))
partial_fixpoint
def fP (a0:ai):Option (ae×ai):=
 aK a0 [105,102]>>=λaqG=>
 gq aqG>>=λ(HU,aqH)=>
 (
 bL aqH>>=λ(QD,QE)=>
 some (QE.ar,QE.bM,QE.az,QE.ay,([HU,QD]:List ae))
 :Option ((List af)×Int×Int×Bool×(List ae)))>>=λ(Vv,Vw,Vx,Vy,LL)=>
 av (ai.mk Vv Vw Vx Vy) [101,108,115,101]>>=λ(wJ,FW)=>
 (if wJ=true then
 aW FW 0 [105,102]>>=λ(Gq,FX)=>
 (if Gq=true then
 fP FX>>=λ(za,abq)=>
 db 56 LL [(ae.mk 48 0 [] ([za]:List ae))]>>=λVz=>
 some ((ae.mk 34 0 [] Vz),abq)
 else
 bL FX>>=λ(Gr,LB)=>
 db 56 LL [Gr]>>=λVA=>
 some ((ae.mk 34 0 [] VA),LB))
 else
 some ((ae.mk 34 0 [] LL),FW))
partial_fixpoint
def kn (a0:ai):Option (ae×ai):=
 aK a0 [40]>>=λUx=>
 aU Ux>>=λ(By,Ig)=>
 aK Ig [97,115]>>=λaqI=>
 cm aqI>>=λ(Ar,aqJ)=>
 db 56 ([By]:List ae) [Ar]>>=λQF=>
 (
 av aqJ [61,62]>>=λ(aqK,Bz)=>
 (if aqK=true then
 cm Bz>>=λ(LM,VB)=>
 db 56 QF [LM]>>=λahZ=>
 some (VB.ar,VB.bM,VB.az,VB.ay,ahZ)
 else
 some (Bz.ar,Bz.bM,Bz.az,Bz.ay,QF))
 :Option ((List af)×Int×Int×Bool×(List ae)))>>=λ(VC,VD,VE,VF,DU)=>
 aK (ai.mk VC VD VE VF) [41]>>=λDV=>
 bL DV>>=λ(LN,aqL)=>
 db 56 DU [LN]>>=λah0=>
 some ((ae.mk 36 0 [] ah0),aqL)
partial_fixpoint
def gC (a0:ai):Option (ae×ai):=
 bL a0>>=λ(Gs,aqM)=>
 (
 av aqM [99,97,116,99,104]>>=λ(LO,vV)=>
 (if LO=true then
 aK vV [40]>>=λIh=>
 bT Ih 3>>=λ(QG,abr)=>
 cm abr>>=λ(pW,abt)=>
 must (1*56<=140737488355328)>>=λ_=>
 aK abt [41]>>=λabu=>
 bL abu>>=λ(Gt,DW)=>
 db 56 [pW] [Gt]>>=λLP=>
 db 56 ([Gs]:List ae) [(ae.mk 44 0 QG LP)]>>=λVG=>
 some (DW.ar,DW.bM,DW.az,DW.ay,VG)
 else
 some (vV.ar,vV.bM,vV.az,vV.ay,([Gs]:List ae)))
 :Option ((List af)×Int×Int×Bool×(List ae)))>>=λ(VH,VI,VJ,VK,xQ)=>
 av (ai.mk VH VI VJ VK) [102,105,110,97,108,108,121]>>=λ(aqN,Bq)=>
 (if aqN=true then
 bL Bq>>=λ(QH,VL)=>
 db 56 xQ [(ae.mk 45 0 [] ([QH]:List ae))]>>=λVM=>
 (if (VM.length:Int)=1 then
 some ((ae.mk 43 0 [] VM),(ai.mk VL.ar VL.bM VL.az true))
 else
 some ((ae.mk 43 0 [] VM),VL))
 else
 (if (xQ.length:Int)=1 then
 some ((ae.mk 43 0 [] xQ),(ai.mk Bq.ar Bq.bM Bq.az true))
 else
 some ((ae.mk 43 0 [] xQ),Bq)))
partial_fixpoint
def ic (a0:ai):Option (ae×ai):=
 bV a0 true>>=λ(VN,LQ)=>
 (if LQ.ay=true then
 some (VN,LQ)
 else
 eX VN>>=λaqO=>
 (if aqO=true then
 some (VN,LQ)
 else
 some (VN,(ai.mk LQ.ar LQ.bM LQ.az true))))
partial_fixpoint
def aU (a0:ai):Option (ae×ai):=
 dn a0>>=λ(Au,abv)=>
 (if abv.ay=true then
 some (Au,abv)
 else
 aW abv 0 [61]>>=λ(aqP,uJ)=>
 (if aqP=true then
 eX Au>>=λaqQ=>
 (if aqQ=true then
 (if (bq (uJ.bM+1))=(bq (a0.bM+2)) then
 idx uJ.ar a0.bM>>=λah1=>
 (if ah1.aj=2 then
 av (ai.mk uJ.ar (bq (uJ.bM+1)) uJ.az uJ.ay) [38]>>=λ(aqR,ah2)=>
 (if aqR=true then
 cm ah2>>=λ(ah3,aqS)=>
 some ((ae.mk 17 0 Au.aq ([ah3]:List ae)),aqS)
 else
 aU ah2>>=λ(ah4,Ii)=>
 some ((ae.mk 15 0 [] ([Au,ah4]:List ae)),Ii))
 else
 aU (ai.mk uJ.ar (bq (uJ.bM+1)) uJ.az uJ.ay)>>=λ(ah5,aqT)=>
 some ((ae.mk 15 0 [] ([Au,ah5]:List ae)),aqT))
 else
 aU (ai.mk uJ.ar (bq (uJ.bM+1)) uJ.az uJ.ay)>>=λ(ah6,aqU)=>
 some ((ae.mk 15 0 [] ([Au,ah6]:List ae)),aqU))
 else
 some (Au,uJ))
 else
 some (Au,uJ)))
partial_fixpoint
def dn (a0:ai):Option (ae×ai):=
 bW a0>>=λ(abw,aqV)=>
 av aqV [63]>>=λ(aqW,ah7)=>
 (if aqW=true then
 aU ah7>>=λ(ah8,aqX)=>
 aK aqX [58]>>=λIj=>
 dn Ij>>=λ(ah9,aqY)=>
 some ((ae.mk 14 0 [] ([abw,ah8,ah9]:List ae)),aqY)
 else
 some (abw,ah7))
partial_fixpoint
def bW (a0:ai):Option (ae×ai):=
 eG a0>>=λ(abx,aqZ)=>
 av aqZ [63,63]>>=λ(aq0,aia)=>
 (if aq0=true then
 bW aia>>=λ(aib,aq1)=>
 some ((ae.mk 13 0 [] ([abx,aib]:List ae)),aq1)
 else
 some (abx,aia))
partial_fixpoint
def eG (a0:ai):Option (ae×ai):=
 dG a0>>=λ(VO,VP)=>
 (
 bX VP.ar VP.bM VP.az VP.ay ([]:List ae) VO.aj VO.aP VO.aq VO.ah
 :Option ((List af)×Int×Int×Bool×(List ae)×Int×Int×aB×(List ae)))>>=λ(VQ,VR,VS,VT,LR,VU,VV,VW,Ik)=>
 some ((ae.mk VU VV VW Ik),(ai.mk VQ VR VS VT))
partial_fixpoint
def dG (a0:ai):Option (ae×ai):=
 bm a0 6>>=λ(VX,VY)=>
 (
 bR VY.ar VY.bM VY.az VY.ay ([]:List ae) VX.aj VX.aP VX.aq VX.ah
 :Option ((List af)×Int×Int×Bool×(List ae)×Int×Int×aB×(List ae)))>>=λ(VZ,V0,BA,V1,LS,V2,V3,V4,Il)=>
 some ((ae.mk V2 V3 V4 Il),(ai.mk VZ V0 BA V1))
partial_fixpoint
def bm (a0:ai) (a1:Int):Option (ae×ai):=
 (if a1>10 then
 cn a0>>=λ(V5,aq2)=>
 some (V5,aq2)
 else
 bm a0 (bq (a1+1))>>=λ(V6,Av)=>
 ((
 bD a1 Av.ar Av.bM Av.az Av.ay ([]:List ae) V6.aj V6.aP V6.aq V6.ah
 :Option (((List af)×Int×Int×Bool×(List ae)×Int×Int×aB×(List ae)) ⊕ (ae×ai)))>>=λaby=>match aby with
 | .inr r=>some r
 | .inl (V7,V8,BB,V9,LU,Wa,Wb,Wc,Im)=>
 some ((ae.mk Wa Wb Wc Im),(ai.mk V7 V8 BB V9))
 ))
partial_fixpoint
def cn (a0:ai):Option (ae×ai):=
 av a0 [33]>>=λ(aq3,aic)=>
 (if aq3=true then
 cn aic>>=λ(aid,aq4)=>
 some ((ae.mk 9 1 [] ([aid]:List ae)),aq4)
 else
 av aic [45]>>=λ(aq5,aie)=>
 (if aq5=true then
 cn aie>>=λ(aif,aq6)=>
 some ((ae.mk 9 2 [] ([aif]:List ae)),aq6)
 else
 bV aie false>>=λ(aq7,aq8)=>
 some (aq7,aq8)))
partial_fixpoint
def bV (a0:ai) (a1:Bool):Option (ae×ai):=
 aH a0>>=λ(Wd,wK)=>
 ((
 aF a1 wK.ar wK.bM wK.az wK.ay ([]:List ae) Wd.aj Wd.aP Wd.aq Wd.ah
 :Option (((List af)×Int×Int×Bool×(List ae)×Int×Int×aB×(List ae)) ⊕ (ae×ai)))>>=λabz=>match abz with
 | .inr r=>some r
 | .inl (We,Wf,BC,Wg,LV,Wh,Wi,Wj,Ip)=>
 some ((ae.mk Wh Wi Wj Ip),(ai.mk We Wf BC Wg))
 )
partial_fixpoint
def aH (a0:ai):Option (ae×ai):=
 dB a0 0>>=λ(Wk,Aw)=>
 (if Aw.ay=true then
 some ((ae.mk 0 0 [] []),Aw)
 else
 (
 (if Wk.aj=4 then
 some (Aw.ar,Aw.bM,Aw.az,Aw.ay,true)
 else
 (if Wk.aj=5 then
 some (Aw.ar,Aw.bM,Aw.az,Aw.ay,true)
 else
 aW Aw 0 [116,114,117,101]>>=λ(abA,wL)=>
 (if abA=true then
 some (wL.ar,wL.bM,wL.az,wL.ay,true)
 else
 aW wL 0 [102,97,108,115,101]>>=λ(Iq,Ax)=>
 (if Iq=true then
 some (Ax.ar,Ax.bM,Ax.az,Ax.ay,true)
 else
 aW Ax 0 [110,117,108,108]>>=λ(abB,zb)=>
 some (zb.ar,zb.bM,zb.az,zb.ay,abB)))))
 :Option ((List af)×Int×Int×Bool×Bool))>>=λ(LW,LX,LY,LZ,Wl)=>
 (if Wl=true then
 eo (ai.mk LW LX LY LZ)>>=λ(aq9,Wm)=>
 some (aq9,Wm)
 else
 (if Wk.aj=2 then
 cm (ai.mk LW LX LY LZ)>>=λ(Wn,ara)=>
 some (Wn,ara)
 else
 av (ai.mk LW LX LY LZ) [91]>>=λ(arb,aih)=>
 (if arb=true then
 gr aih>>=λ(arc,Wo)=>
 some (arc,Wo)
 else
 av aih [40]>>=λ(Wp,QI)=>
 (if Wp=true then
 aU QI>>=λ(ard,Wq)=>
 aK Wq [41]>>=λIr=>
 some (ard,Ir)
 else
 av QI [110,101,119]>>=λ(BD,BE)=>
 (if BD=true then
 cy BE>>=λ(ae3,Is)=>
 cV Is>>=λ(ae4,It)=>
 some ((ae.mk 22 0 ae3 ae4),It)
 else
 av BE [102,117,110,99,116,105,111,110]>>=λ(ae5,ED)=>
 (if ae5=true then
 ju ED>>=λ(uK,ae6)=>
 av ae6 [117,115,101]>>=λ(ae7,Wr)=>
 (if ae7=true then
 (
 aW Wr 0 [40]>>=λ(EE,EF)=>
 (if EE=true then
 aW EF 1 [41]>>=λ(Iu,Iv)=>
 some (Iv.ar,Iv.bM,Iv.az,Iv.ay,Iu)
 else
 some (EF.ar,EF.bM,EF.az,EF.ay,false))
 :Option ((List af)×Int×Int×Bool×Bool))>>=λ(EG,EH,EI,Iw,Ix)=>
 (if Ix=true then
 some ((ae.mk 23 0 [] uK),(ai.mk EG (bq (EH+1)) EI true))
 else
 fq (ai.mk EG EH EI Iw) 25>>=λ(BF,ae8)=>
 db 56 uK BF>>=λae9=>
 bL ae8>>=λ(BG,afa)=>
 db 56 ae9 [BG]>>=λWs=>
 some ((ae.mk 23 0 [] Ws),afa))
 else
 bL Wr>>=λ(tF,pX)=>
 db 56 uK [tF]>>=λWt=>
 some ((ae.mk 23 0 [] Wt),pX))
 else
 cy ED>>=λ(tG,EJ)=>
 ((
 (if tG=([115,116,97,116,105,99]:aB) then
 some (.inl (EJ.ar,EJ.bM,EJ.az,EJ.ay))
 else
 aW EJ 0 [40]>>=λ(Iy,EK)=>
 (if Iy=true then
 cV EK>>=λ(afb,Iz)=>
 some (.inr ((ae.mk 18 0 tG afb),Iz))
 else
 some (.inl (EK.ar,EK.bM,EK.az,EK.ay))))
 :Option (((List af)×Int×Int×Bool) ⊕ (ae×ai)))>>=λWu=>match Wu with
 | .inr r=>some r
 | .inl (IA,IB,IC,ID)=>
 aK (ai.mk IA IB IC ID) [58,58]>>=λIE=>
 sF tG [58,58]>>=λWv=>
 bT IE 3>>=λ(IF,IG)=>
 sF Wv IF>>=λWw=>
 cV IG>>=λ(afc,afd)=>
 some ((ae.mk 21 0 Ww afc),afd)
 ))))))))
partial_fixpoint
def gr (a0:ai):Option (ae×ai):=
 av a0 [93]>>=λ(II,EL)=>
 (if II=true then
 some ((ae.mk 5 0 [] []),EL)
 else
 ((
 cW EL.ar EL.bM EL.az EL.ay ([]:List ae) ([]:List ae)
 :Option (((List af)×Int×Int×Bool×(List ae)×(List ae)) ⊕ (ae×ai)))>>=λOJ=>match OJ with
 | .inr r=>some r
 | .inl (IJ,IK,IL,IM,BH,zS)=>
 some ((ae.mk 5 0 [] zS),(ai.mk IJ IK IL IM))
 ))
partial_fixpoint
def cV (a0:ai):Option ((List ae)×ai):=
 aK a0 [40]>>=λafe=>
 av afe [41]>>=λ(aff,EM)=>
 (if aff=true then
 some (([]:List ae),EM)
 else
 ((
 cF EM.ar EM.bM EM.az EM.ay ([]:List ae)
 :Option (((List af)×Int×Int×Bool×(List ae)) ⊕ ((List ae)×ai)))>>=λOK=>match OK with
 | .inr r=>some r
 | .inl (IP,IQ,IS,IU,zT)=>
 some (zT,(ai.mk IP IQ IS IU))
 ))
partial_fixpoint
def ck (su:List af) (sw:Int) (wM:Int) (Ay:Bool) (AZ:List ae) (sx:List ae):Option ((List af)×Int×Int×Bool×(List ae)×(List ae)):=
 (if Ay=true then
 some (su,sw,wM,Ay,AZ,sx)
 else
 av (ai.mk su sw wM Ay) [125]>>=λ(R8,v49)=>
 (if R8=true then
 some (v49.ar,v49.bM,v49.az,v49.ay,AZ,sx)
 else
 av v49 [59]>>=λ(qn,v53)=>
 (if qn=true then
 ck v53.ar v53.bM v53.az v53.ay AZ sx
 else
 aL v53>>=λ(KW,Hv)=>
 db 56 sx [KW]>>=λl61=>
 ck Hv.ar Hv.bM Hv.az Hv.ay AZ l61)))
partial_fixpoint
def bX (wN:List af) (wO:Int) (wP:Int) (wQ:Bool) (rP:List ae) (tY:Int) (tZ:Int) (ua:aB) (qT:List ae):Option ((List af)×Int×Int×Bool×(List ae)×Int×Int×aB×(List ae)):=
 av (ai.mk wN wO wP wQ) [124,124]>>=λ(L0,wR)=>
 (if L0=true then
 dG wR>>=λ(Wx,xR)=>
 bX xR.ar xR.bM xR.az xR.ay rP 12 0 [] ([(ae.mk tY tZ ua qT),Wx]:List ae)
 else
 some (wR.ar,wR.bM,wR.az,wR.ay,rP,tY,tZ,ua,qT))
partial_fixpoint
def bR (wT:List af) (kL:Int) (wU:Int) (wV:Bool) (rQ:List ae) (ub:Int) (uc:Int) (ud:aB) (qU:List ae):Option ((List af)×Int×Int×Bool×(List ae)×Int×Int×aB×(List ae)):=
 av (ai.mk wT kL wU wV) [38,38]>>=λ(abC,qq)=>
 (if abC=true then
 bm qq 6>>=λ(Wy,DX)=>
 bR DX.ar DX.bM DX.az DX.ay rQ 11 0 [] ([(ae.mk ub uc ud qU),Wy]:List ae)
 else
 some (qq.ar,qq.bM,qq.az,qq.ay,rQ,ub,uc,ud,qU))
partial_fixpoint
def bD (a1:Int) (uL:List af) (uM:Int) (uN:Int) (sR:Bool) (rR:List ae) (pD:Int) (pE:Int) (pF:aB) (nR:List ae):Option (((List af)×Int×Int×Bool×(List ae)×Int×Int×aB×(List ae)) ⊕ (ae×ai)):=
 (if sR=true then
 some (.inl (uL,uM,uN,sR,rR,pD,pE,pF,nR))
 else
 dB (ai.mk uL uM uN sR) 0>>=λ(QJ,vW)=>
 lN QJ.aq>>=λBI=>
 (if QJ.aj=6 then
 (if BI=0 then
 some (.inr ((ae.mk pD pE pF nR),vW))
 else
 ky BI>>=λL1=>
 (if L1=a1 then
 bm (ai.mk vW.ar (bq (vW.bM+1)) vW.az vW.ay) (bq (a1+1))>>=λ(Wz,DY)=>
 bD a1 DY.ar DY.bM DY.az DY.ay rR 10 BI [] ([(ae.mk pD pE pF nR),Wz]:List ae)
 else
 some (.inr ((ae.mk pD pE pF nR),vW))))
 else
 some (.inr ((ae.mk pD pE pF nR),vW))))
partial_fixpoint
def aF (a1:Bool) (uO:List af) (uP:Int) (uQ:Int) (sS:Bool) (nC:List ae) (kc:Int) (ke:Int) (kf:aB) (jv:List ae):Option (((List af)×Int×Int×Bool×(List ae)×Int×Int×aB×(List ae)) ⊕ (ae×ai)):=
 (if sS=true then
 some (.inl (uO,uP,uQ,sS,nC,kc,ke,kf,jv))
 else
 (
 aW (ai.mk uO uP uQ sS) 0 [91]>>=λ(QK,ue)=>
 (if QK=true then
 aW ue 1 [93]>>=λ(QL,jN)=>
 (if QL=true then
 eX (ae.mk kc ke kf jv)>>=λQM=>
 (if QM=true then
 some (jN.ar,jN.bM,jN.az,jN.ay,(!a1))
 else
 some (jN.ar,jN.bM,jN.az,jN.ay,false))
 else
 some (jN.ar,jN.bM,jN.az,jN.ay,false))
 else
 some (ue.ar,ue.bM,ue.az,ue.ay,false))
 :Option ((List af)×Int×Int×Bool×Bool))>>=λ(Gu,Gv,Gw,Gx,L2)=>
 (if L2=true then
 aK (ai.mk Gu (bq (Gv+2)) Gw Gx) [61]>>=λabD=>
 aU abD>>=λ(WA,L3)=>
 some (.inr ((ae.mk 16 0 [] ([(ae.mk kc ke kf jv),WA]:List ae)),L3))
 else
 av (ai.mk Gu Gv Gw Gx) [91]>>=λ(IV,QN)=>
 (if IV=true then
 aU QN>>=λ(IW,abE)=>
 aK abE [93]>>=λxS=>
 aF a1 xS.ar xS.bM xS.az xS.ay nC 7 0 [] ([(ae.mk kc ke kf jv),IW]:List ae)
 else
 av QN [45,62]>>=λ(abG,QO)=>
 (if abG=true then
 bT QO 3>>=λ(DZ,abH)=>
 aW abH 0 [40]>>=λ(IX,wX)=>
 (if IX=true then
 cV wX>>=λ(WB,wY)=>
 db 56 ([(ae.mk kc ke kf jv)]:List ae) WB>>=λWC=>
 aF a1 wY.ar wY.bM wY.az wY.ay nC 20 0 DZ WC
 else
 aF a1 wX.ar wX.bM wX.az wX.ay nC 8 0 DZ ([(ae.mk kc ke kf jv)]:List ae))
 else
 aW QO 0 [40]>>=λ(abI,QP)=>
 (if abI=true then
 cV QP>>=λ(WD,BJ)=>
 db 56 ([(ae.mk kc ke kf jv)]:List ae) WD>>=λWE=>
 aF a1 BJ.ar BJ.bM BJ.az BJ.ay nC 19 0 [] WE
 else
 some (.inr ((ae.mk kc ke kf jv),QP)))))))
partial_fixpoint
def cW (oz:List af) (oA:Int) (oB:Int) (mT:Bool) (lB:List ae) (eE:List ae):Option (((List af)×Int×Int×Bool×(List ae)×(List ae)) ⊕ (ae×ai)):=
 (if mT=true then
 some (.inl (oz,oA,oB,mT,lB,eE))
 else
 aU (ai.mk oz oA oB mT)>>=λ(tH,pY)=>
 (
 av pY [61,62]>>=λ(OL,tI)=>
 (if OL=true then
 aU tI>>=λ(xT,wj)=>
 db 56 ([tH]:List ae) [xT]>>=λIY=>
 some (wj.ar,wj.bM,wj.az,wj.ay,IY)
 else
 some (tI.ar,tI.bM,tI.az,tI.ay,([tH]:List ae)))
 :Option ((List af)×Int×Int×Bool×(List ae)))>>=λ(BK,BL,BM,BN,rS)=>
 db 56 eE [(ae.mk 6 0 [] rS)]>>=λBO=>
 av (ai.mk BK BL BM BN) [93]>>=λ(OM,EN)=>
 (if OM=true then
 some (.inr ((ae.mk 5 0 [] BO),EN))
 else
 aK EN [44]>>=λwk=>
 cW wk.ar wk.bM wk.az wk.ay lB BO))
partial_fixpoint
def cF (oC:List af) (oD:Int) (oE:Int) (mU:Bool) (kM:List ae):Option (((List af)×Int×Int×Bool×(List ae)) ⊕ ((List ae)×ai)):=
 (if mU=true then
 some (.inl (oC,oD,oE,mU,kM))
 else
 aU (ai.mk oC oD oE mU)>>=λ(wm,ON)=>
 db 56 kM [wm]>>=λBP=>
 av ON [41]>>=λ(OO,EO)=>
 (if OO=true then
 some (.inr (BP,EO))
 else
 aK EO [44]>>=λwo=>
 cF wo.ar wo.bM wo.az wo.ay BP))
partial_fixpoint
end
def WG (a0:ai) (r:ae×ai):Prop:=∀g1000:Nat,Hj 124 a0 r g1000
def WH (a0:ai) (a1:Int) (r:ae×ai):Prop:=∀g1000:Nat,arf 187 a0 a1 r g1000
def WI (a0:ai) (r:ae×ai):Prop:=∀g1000:Nat,Hj 189 a0 r g1000
def L4 (a0:ai) (r:ae×ai):Prop:=∀g1000:Nat,Hj 126 a0 r g1000
def WJ (a0:ai) (r:ae×ai):Prop:=∀g1000:Nat,Hj 188 a0 r g1000
def WK (a0:ai) (r:ae×ai):Prop:=∀g1000:Nat,Hj 190 a0 r g1000
def WL (a0:ai) (r:ae×ai):Prop:=∀g1000:Nat,Hj 192 a0 r g1000
def WM (a0:ai) (r:ae×ai):Prop:=∀g1000:Nat,Hj 191 a0 r g1000
def IZ (a0:ai) (r:ae×ai):Prop:=∀g1000:Nat,Hj 54 a0 r g1000
def WN (a0:ai) (r:ae×ai):Prop:=∀g1000:Nat,Hj 110 a0 r g1000
def WO (a0:ai) (r:ae×ai):Prop:=∀g1000:Nat,Hj 176 a0 r g1000
def WQ (a0:ai) (r:ae×ai):Prop:=∀g1000:Nat,Hj 208 a0 r g1000
def L5 (a0:ai) (r:ae×ai):Prop:=∀g1000:Nat,Hj 222 a0 r g1000
def Gy (a0:ai) (a1:Int) (r:ae×ai):Prop:=∀g1000:Nat,arf 232 a0 a1 r g1000
def WR (a0:ai) (r:ae×ai):Prop:=∀g1000:Nat,Hj 244 a0 r g1000
def WS (a0:ai) (a1:Bool) (r:ae×ai):Prop:=∀g1000:Nat,aCn 212 a0 a1 r g1000
def WT (a0:ai) (r:ae×ai):Prop:=∀g1000:Nat,Hj 224 a0 r g1000
def WU (a0:ai) (r:ae×ai):Prop:=∀g1000:Nat,Hj 233 a0 r g1000
def L6 (a0:ai) (r:(List ae)×ai):Prop:=∀g1000:Nat,arh 225 a0 r g1000
inductive gu:(List af)->Int->Int->Bool->(List ae)->(List ae)->((List af)×Int×Int×Bool×(List ae)×(List ae))->Prop
 | mk (ari:ai->Option (ae×ai)) (aGh:∀a0 r,ari a0=some r->L4 a0 r) (kN:(List af)->Int->Int->Bool->(List ae)->(List ae)->Option ((List af)×Int×Int×Bool×(List ae)×(List ae))) (Hk:∀su sw wM Ay AZ sx o,kN su sw wM Ay AZ sx=some o->gu su sw wM Ay AZ sx o) (su:List af) (sw:Int) (wM:Int) (Ay:Bool) (AZ:List ae) (sx:List ae) (o:(List af)×Int×Int×Bool×(List ae)×(List ae)) (h:(
 (if Ay=true then
 some (su,sw,wM,Ay,AZ,sx)
 else
 av (ai.mk su sw wM Ay) [125]>>=λ(R8,v49)=>
 (if R8=true then
 some (v49.ar,v49.bM,v49.az,v49.ay,AZ,sx)
 else
 av v49 [59]>>=λ(qn,v53)=>
 (if qn=true then
 kN v53.ar v53.bM v53.az v53.ay AZ sx
 else
 ari v53>>=λ(KW,Hv)=>
 db 56 sx [KW]>>=λl61=>
 kN Hv.ar Hv.bM Hv.az Hv.ay AZ l61)))
 )=some o):gu su sw wM Ay AZ sx o
inductive iQ:(List af)->Int->Int->Bool->(List ae)->Int->Int->aB->(List ae)->((List af)×Int×Int×Bool×(List ae)×Int×Int×aB×(List ae))->Prop
 | mk (arj:ai->Option (ae×ai)) (aGi:∀a0 r,arj a0=some r->L5 a0 r) (qB:(List af)->Int->Int->Bool->(List ae)->Int->Int->aB->(List ae)->Option ((List af)×Int×Int×Bool×(List ae)×Int×Int×aB×(List ae))) (L7:∀wN wO wP wQ rP tY tZ ua qT o,qB wN wO wP wQ rP tY tZ ua qT=some o->iQ wN wO wP wQ rP tY tZ ua qT o) (wN:List af) (wO:Int) (wP:Int) (wQ:Bool) (rP:List ae) (tY:Int) (tZ:Int) (ua:aB) (qT:List ae) (o:(List af)×Int×Int×Bool×(List ae)×Int×Int×aB×(List ae)) (h:(
 av (ai.mk wN wO wP wQ) [124,124]>>=λ(L0,wR)=>
 (if L0=true then
 arj wR>>=λ(Wx,xR)=>
 qB xR.ar xR.bM xR.az xR.ay rP 12 0 [] ([(ae.mk tY tZ ua qT),Wx]:List ae)
 else
 some (wR.ar,wR.bM,wR.az,wR.ay,rP,tY,tZ,ua,qT))
 )=some o):iQ wN wO wP wQ rP tY tZ ua qT o
inductive im:(List af)->Int->Int->Bool->(List ae)->Int->Int->aB->(List ae)->((List af)×Int×Int×Bool×(List ae)×Int×Int×aB×(List ae))->Prop
 | mk (WV:ai->Int->Option (ae×ai)) (ark:∀a0 a1 r,WV a0 a1=some r->Gy a0 a1 r) (pZ:(List af)->Int->Int->Bool->(List ae)->Int->Int->aB->(List ae)->Option ((List af)×Int×Int×Bool×(List ae)×Int×Int×aB×(List ae))) (KX:∀wT kL wU wV rQ ub uc ud qU o,pZ wT kL wU wV rQ ub uc ud qU=some o->im wT kL wU wV rQ ub uc ud qU o) (wT:List af) (kL:Int) (wU:Int) (wV:Bool) (rQ:List ae) (ub:Int) (uc:Int) (ud:aB) (qU:List ae) (o:(List af)×Int×Int×Bool×(List ae)×Int×Int×aB×(List ae)) (h:(
 av (ai.mk wT kL wU wV) [38,38]>>=λ(abC,qq)=>
 (if abC=true then
 WV qq 6>>=λ(Wy,DX)=>
 pZ DX.ar DX.bM DX.az DX.ay rQ 11 0 [] ([(ae.mk ub uc ud qU),Wy]:List ae)
 else
 some (qq.ar,qq.bM,qq.az,qq.ay,rQ,ub,uc,ud,qU))
 )=some o):im wT kL wU wV rQ ub uc ud qU o
inductive fK:Int->(List af)->Int->Int->Bool->(List ae)->Int->Int->aB->(List ae)->(((List af)×Int×Int×Bool×(List ae)×Int×Int×aB×(List ae)) ⊕ (ae×ai))->Prop
 | mk (WV:ai->Int->Option (ae×ai)) (ark:∀a0 a1 r,WV a0 a1=some r->Gy a0 a1 r) (nD:Int->(List af)->Int->Int->Bool->(List ae)->Int->Int->aB->(List ae)->Option (((List af)×Int×Int×Bool×(List ae)×Int×Int×aB×(List ae)) ⊕ (ae×ai))) (Gz:∀a1 uL uM uN sR rR pD pE pF nR o,nD a1 uL uM uN sR rR pD pE pF nR=some o->fK a1 uL uM uN sR rR pD pE pF nR o) (a1:Int) (uL:List af) (uM:Int) (uN:Int) (sR:Bool) (rR:List ae) (pD:Int) (pE:Int) (pF:aB) (nR:List ae) (o:((List af)×Int×Int×Bool×(List ae)×Int×Int×aB×(List ae)) ⊕ (ae×ai)) (h:(
 (if sR=true then
 some (.inl (uL,uM,uN,sR,rR,pD,pE,pF,nR))
 else
 dB (ai.mk uL uM uN sR) 0>>=λ(QJ,vW)=>
 lN QJ.aq>>=λBI=>
 (if QJ.aj=6 then
 (if BI=0 then
 some (.inr ((ae.mk pD pE pF nR),vW))
 else
 ky BI>>=λL1=>
 (if L1=a1 then
 WV (ai.mk vW.ar (bq (vW.bM+1)) vW.az vW.ay) (bq (a1+1))>>=λ(Wz,DY)=>
 nD a1 DY.ar DY.bM DY.az DY.ay rR 10 BI [] ([(ae.mk pD pE pF nR),Wz]:List ae)
 else
 some (.inr ((ae.mk pD pE pF nR),vW))))
 else
 some (.inr ((ae.mk pD pE pF nR),vW))))
 )=some o):fK a1 uL uM uN sR rR pD pE pF nR o
inductive e9:Bool->(List af)->Int->Int->Bool->(List ae)->Int->Int->aB->(List ae)->(((List af)×Int×Int×Bool×(List ae)×Int×Int×aB×(List ae)) ⊕ (ae×ai))->Prop
 | mk (G54:ai->Option (ae×ai)) (arl:∀a0 r,G54 a0=some r->IZ a0 r) (aii:ai->Option ((List ae)×ai)) (aGj:∀a0 r,aii a0=some r->L6 a0 r) (fe:Bool->(List af)->Int->Int->Bool->(List ae)->Int->Int->aB->(List ae)->Option (((List af)×Int×Int×Bool×(List ae)×Int×Int×aB×(List ae)) ⊕ (ae×ai))) (EP:∀a1 uO uP uQ sS nC kc ke kf jv o,fe a1 uO uP uQ sS nC kc ke kf jv=some o->e9 a1 uO uP uQ sS nC kc ke kf jv o) (a1:Bool) (uO:List af) (uP:Int) (uQ:Int) (sS:Bool) (nC:List ae) (kc:Int) (ke:Int) (kf:aB) (jv:List ae) (o:((List af)×Int×Int×Bool×(List ae)×Int×Int×aB×(List ae)) ⊕ (ae×ai)) (h:(
 (if sS=true then
 some (.inl (uO,uP,uQ,sS,nC,kc,ke,kf,jv))
 else
 (
 aW (ai.mk uO uP uQ sS) 0 [91]>>=λ(QK,ue)=>
 (if QK=true then
 aW ue 1 [93]>>=λ(QL,jN)=>
 (if QL=true then
 eX (ae.mk kc ke kf jv)>>=λQM=>
 (if QM=true then
 some (jN.ar,jN.bM,jN.az,jN.ay,(!a1))
 else
 some (jN.ar,jN.bM,jN.az,jN.ay,false))
 else
 some (jN.ar,jN.bM,jN.az,jN.ay,false))
 else
 some (ue.ar,ue.bM,ue.az,ue.ay,false))
 :Option ((List af)×Int×Int×Bool×Bool))>>=λ(Gu,Gv,Gw,Gx,L2)=>
 (if L2=true then
 aK (ai.mk Gu (bq (Gv+2)) Gw Gx) [61]>>=λabD=>
 G54 abD>>=λ(WA,L3)=>
 some (.inr ((ae.mk 16 0 [] ([(ae.mk kc ke kf jv),WA]:List ae)),L3))
 else
 av (ai.mk Gu Gv Gw Gx) [91]>>=λ(IV,QN)=>
 (if IV=true then
 G54 QN>>=λ(IW,abE)=>
 aK abE [93]>>=λxS=>
 fe a1 xS.ar xS.bM xS.az xS.ay nC 7 0 [] ([(ae.mk kc ke kf jv),IW]:List ae)
 else
 av QN [45,62]>>=λ(abG,QO)=>
 (if abG=true then
 bT QO 3>>=λ(DZ,abH)=>
 aW abH 0 [40]>>=λ(IX,wX)=>
 (if IX=true then
 aii wX>>=λ(WB,wY)=>
 db 56 ([(ae.mk kc ke kf jv)]:List ae) WB>>=λWC=>
 fe a1 wY.ar wY.bM wY.az wY.ay nC 20 0 DZ WC
 else
 fe a1 wX.ar wX.bM wX.az wX.ay nC 8 0 DZ ([(ae.mk kc ke kf jv)]:List ae))
 else
 aW QO 0 [40]>>=λ(abI,QP)=>
 (if abI=true then
 aii QP>>=λ(WD,BJ)=>
 db 56 ([(ae.mk kc ke kf jv)]:List ae) WD>>=λWE=>
 fe a1 BJ.ar BJ.bM BJ.az BJ.ay nC 19 0 [] WE
 else
 some (.inr ((ae.mk kc ke kf jv),QP)))))))
 )=some o):e9 a1 uO uP uQ sS nC kc ke kf jv o
inductive gL:(List af)->Int->Int->Bool->(List ae)->(List ae)->(((List af)×Int×Int×Bool×(List ae)×(List ae)) ⊕ (ae×ai))->Prop
 | mk (G54:ai->Option (ae×ai)) (arl:∀a0 r,G54 a0=some r->IZ a0 r) (pn:(List af)->Int->Int->Bool->(List ae)->(List ae)->Option (((List af)×Int×Int×Bool×(List ae)×(List ae)) ⊕ (ae×ai))) (I1:∀oz oA oB mT lB eE o,pn oz oA oB mT lB eE=some o->gL oz oA oB mT lB eE o) (oz:List af) (oA:Int) (oB:Int) (mT:Bool) (lB:List ae) (eE:List ae) (o:((List af)×Int×Int×Bool×(List ae)×(List ae)) ⊕ (ae×ai)) (h:(
 (if mT=true then
 some (.inl (oz,oA,oB,mT,lB,eE))
 else
 G54 (ai.mk oz oA oB mT)>>=λ(tH,pY)=>
 (
 av pY [61,62]>>=λ(OL,tI)=>
 (if OL=true then
 G54 tI>>=λ(xT,wj)=>
 db 56 ([tH]:List ae) [xT]>>=λIY=>
 some (wj.ar,wj.bM,wj.az,wj.ay,IY)
 else
 some (tI.ar,tI.bM,tI.az,tI.ay,([tH]:List ae)))
 :Option ((List af)×Int×Int×Bool×(List ae)))>>=λ(BK,BL,BM,BN,rS)=>
 db 56 eE [(ae.mk 6 0 [] rS)]>>=λBO=>
 av (ai.mk BK BL BM BN) [93]>>=λ(OM,EN)=>
 (if OM=true then
 some (.inr ((ae.mk 5 0 [] BO),EN))
 else
 aK EN [44]>>=λwk=>
 pn wk.ar wk.bM wk.az wk.ay lB BO))
 )=some o):gL oz oA oB mT lB eE o
inductive gM:(List af)->Int->Int->Bool->(List ae)->(((List af)×Int×Int×Bool×(List ae)) ⊕ ((List ae)×ai))->Prop
 | mk (G54:ai->Option (ae×ai)) (arl:∀a0 r,G54 a0=some r->IZ a0 r) (pq:(List af)->Int->Int->Bool->(List ae)->Option (((List af)×Int×Int×Bool×(List ae)) ⊕ ((List ae)×ai))) (I2:∀oC oD oE mU kM o,pq oC oD oE mU kM=some o->gM oC oD oE mU kM o) (oC:List af) (oD:Int) (oE:Int) (mU:Bool) (kM:List ae) (o:((List af)×Int×Int×Bool×(List ae)) ⊕ ((List ae)×ai)) (h:(
 (if mU=true then
 some (.inl (oC,oD,oE,mU,kM))
 else
 G54 (ai.mk oC oD oE mU)>>=λ(wm,ON)=>
 db 56 kM [wm]>>=λBP=>
 av ON [41]>>=λ(OO,EO)=>
 (if OO=true then
 some (.inr (BP,EO))
 else
 aK EO [44]>>=λwo=>
 pq wo.ar wo.bM wo.az wo.ay BP))
 )=some o):gM oC oD oE mU kM o
theorem wZ:(∀a0 r,bL a0=some r->WG a0 r)/\(∀su sw wM Ay AZ sx o,ck su sw wM Ay AZ sx=some o->gu su sw wM Ay AZ sx o)/\(∀a0 r,aL a0=some r->L4 a0 r)/\(∀a0 r,gC a0=some r->WL a0 r)/\(∀a0 r,ic a0=some r->WM a0 r)/\(∀a0 a1 r,bV a0 a1=some r->WS a0 a1 r)/\(∀a1 uO uP uQ sS nC kc ke kf jv o,aF a1 uO uP uQ sS nC kc ke kf jv=some o->e9 a1 uO uP uQ sS nC kc ke kf jv o)/\(∀a0 r,cV a0=some r->L6 a0 r)/\(∀oC oD oE mU kM o,cF oC oD oE mU kM=some o->gM oC oD oE mU kM o)/\(∀a0 r,aU a0=some r->IZ a0 r)/\(∀a0 r,dn a0=some r->WN a0 r)/\(∀a0 r,bW a0=some r->WO a0 r)/\(∀a0 r,eG a0=some r->WQ a0 r)/\(∀wN wO wP wQ rP tY tZ ua qT o,bX wN wO wP wQ rP tY tZ ua qT=some o->iQ wN wO wP wQ rP tY tZ ua qT o)/\(∀a0 r,dG a0=some r->L5 a0 r)/\(∀wT kL wU wV rQ ub uc ud qU o,bR wT kL wU wV rQ ub uc ud qU=some o->im wT kL wU wV rQ ub uc ud qU o)/\(∀a0 a1 r,bm a0 a1=some r->Gy a0 a1 r)/\(∀a1 uL uM uN sR rR pD pE pF nR o,bD a1 uL uM uN sR rR pD pE pF nR=some o->fK a1 uL uM uN sR rR pD pE pF nR o)/\(∀a0 r,cn a0=some r->WR a0 r)/\(∀a0 r,aH a0=some r->WT a0 r)/\(∀a0 r,gr a0=some r->WU a0 r)/\(∀oz oA oB mT lB eE o,cW oz oA oB mT lB eE=some o->gL oz oA oB mT lB eE o)/\(∀a0 r,kn a0=some r->WK a0 r)/\(∀a0 r,gq a0=some r->WI a0 r)/\(∀a0 r,fP a0=some r->WJ a0 r)/\(∀a0 a1 r,dF a0 a1=some r->WH a0 a1 r):=by
 refine bL.mutual_partial_correctness WG gu L4 WL WM WS e9 L6 gM IZ WN WO WQ iQ L5 im Gy fK WR WT WU gL WK WI WJ WH ?_ ?_ ?_ ?_ ?_ ?_ ?_ ?_ ?_ ?_ ?_ ?_ ?_ ?_ ?_ ?_ ?_ ?_ ?_ ?_ ?_ ?_ ?_ ?_ ?_ ?_
 intro _ aCo a0 r h g1000
 refine eT Tryz.func124 ?_
 refine .d (.d ⟨rfl,_,_,rfl,ao,(.d (bk h λv1 rA h=>(cb (bf (g1000:=g1000) rA) [0] ?_)))⟩)
 obtain ⟨o13,h,aCp⟩:=bd h
 refine .cut (λσ η=>∃l3,∃y4,∃y5,∃b6,∃l7,∃l10,∃f8:Nat->List PV,∃f11:Nat->List PV,DR ae.D l7.length f8 l7/\DR ae.D l10.length f11 l10/\(l3,y4,y5,b6,l7,l10)=o13/\σ=[(2,.aC 1 0 0 0),(3,.aC 3 0 0 0)]/\η=[.row g1000 4 1 67 (λ_=>[sl 4 af.cells l3,.int .i64 y4,.int .i64 y5,.bool b6]),.row 0 4 1 29 (λ_=>[.int .i64 0,.int .i64 0,.str [],.own 2 0 0 l7.length]),.row 0 4 l7.length 29 f8,.row 0 4 1 29 (λ_=>[.int .i64 48,.int .i64 0,.str [],.own 4 0 0 l10.length]),.row 0 4 l10.length 29 f11]) ?_ ?_
 have aCq:=aCo _ _ _ _ _ _ _ h
 refine le (gu.rec (motive:=λsu sw wM Ay AZ sx o65 _=>∀f21:Nat->List PV,∀f24:Nat->List PV,DR ae.D AZ.length f21 AZ->DR ae.D sx.length f24 sx->o13=o65->aQ _ _ [(0,.aC 0 g1000 0 0),(2,.aC 1 0 0 0),(3,.aC 3 0 0 0)] [.row g1000 4 1 67 (λ_=>[sl 4 af.cells su,.int .i64 sw,.int .i64 wM,.bool Ay]),.row 0 4 1 29 (λ_=>[.int .i64 0,.int .i64 0,.str [],.own 2 0 0 AZ.length]),.row 0 4 AZ.length 29 f21,.row 0 4 1 29 (λ_=>[.int .i64 48,.int .i64 0,.str [],.own 4 0 0 sx.length]),.row 0 4 sx.length 29 f24]) ?_ aCq (λ_=>[]) (λ_=>[]) ((DR.nil (D:=ae.D)).self) ((DR.nil (D:=ae.D)).self) rfl) (tk [0,1,5,2,7] ⟨.p,.p,.p,⟨⟩⟩ ⟨(fM rfl),(nb rfl ⟨.i,.i,.s,.g,⟨⟩⟩),gh,(nb rfl ⟨.i,.i,.s,.g,⟨⟩⟩),gh,⟨⟩⟩)
 intro _ aCr _ _ su sw wM Ay AZ sx o65 h abK f21 f24 d22 d25  aij
 subst aij
 refine aQ.round (.d (.d ⟨rfl,rfl,rfl,_,rfl,(jj h (λWW h=>?_) (λWW h=>?_))⟩))
 refine .t ?_
 obtain ⟨⟨R8,v49⟩,SE,h⟩:=bd h
 refine cb (aD (g1000:=g1000) SE) [0] ?_
 refine .t (.t (jj h (λFM h=>?_) (λFM h=>?_)))
 refine .d ?_
 obtain ⟨⟨qn,v53⟩,L8,h⟩:=bd h
 refine cb (aD (g1000:=g1000) L8) [0] ?_
 refine jj h (λWX h=>?_) (λWX h=>?_)
 refine .float [(0,true),(1,true),(2,true),(3,false),(4,false),(5,false),(6,true),(7,false)] aKR ?_
 refine ⟨rfl,rfl,_,rfl,?_⟩
 obtain ⟨⟨KW,Hv⟩,aik,h⟩:=bd h
 refine bz (aCr _ _ aik _) [0] λf59 d60=>?_
 refine ⟨rfl,rfl,_,dx,rfl,rfl,(bk h λl61 WY h=>(.fx ⟨rfl,rfl,(λ_ _=>rfl),DR.xA d25 WY,l61.length,dV f24 sx.length [.int .i64 KW.aj,.int .i64 KW.aP,.str KW.aq,.own 5 0 0 KW.ah.length],DR.ln d25 WY,dE (DR.ln d25 WY) ⟨.same _,.same _,.same _,.same _,trivial⟩,rfl,rfl,_,_,rfl,ao,(.ab 4 sx.length 3 5 _ (λ_=>rT (DR.lq d25 WY) (d60).po) λF63=>?_)⟩))⟩
 have d64:=DR.jE d25 WY (ae.bx (x:=KW) (F0:=F63) d60)
 exact lg (abK _ _ _ _ _ _ _ h f21 _ d22 d64 rfl) (tk [0,1,2,3,4] ⟨.p,.p,.p,⟨⟩⟩ ⟨(fM rfl),(nb rfl ⟨.i,.i,.s,.oe,⟨⟩⟩),(bu d22),(nb rfl ⟨.i,.i,.s,.oe,⟨⟩⟩),(bu d64),⟨⟩⟩)
 exact lg (abK _ _ _ _ _ _ _ h f21 f24 d22 d25 rfl) (tk [0,1,2,3,4] ⟨.p,.p,.p,⟨⟩⟩ ⟨(fM rfl),(nb rfl ⟨.i,.i,.s,.oe,⟨⟩⟩),(bu d22),(nb rfl ⟨.i,.i,.s,.oe,⟨⟩⟩),(bu d25),⟨⟩⟩)
 exact ct ⟨_,_,_,_,_,_,f21,f24,d22,d25,si h,rfl,rfl⟩ (tk [0,1,2,3,4] ⟨.p,.p,⟨⟩⟩ ⟨(fM rfl),(nb rfl ⟨.i,.i,.s,.oe,⟨⟩⟩),(bu d22),(nb rfl ⟨.i,.i,.s,.oe,⟨⟩⟩),(bu d25),⟨⟩⟩)
 exact .f (.f (.f (.f (ct ⟨_,_,_,_,_,_,f21,f24,d22,d25,si h,rfl,rfl⟩ (tk [0,1,2,3,4] ⟨.p,.p,⟨⟩⟩ ⟨(fM rfl),(nb rfl ⟨.i,.i,.s,.oe,⟨⟩⟩),(bu d22),(nb rfl ⟨.i,.i,.s,.oe,⟨⟩⟩),(bu d25),⟨⟩⟩)))))
 rintro _ _ ⟨l3,y4,y5,b6,l7,l10,f8,f11,d9,d12,rfl,rfl,rfl⟩
 replace h:=aCp
 refine .d ⟨rfl,_,rfl,rfl,_,_,rfl,ao,?_⟩
 obtain rfl:=si h
 exact ⟨rfl,_,rfl,(en [0,4] ⟨f11,d12.self,rfl,rfl⟩ (.aI ⟨.i,.i,.s,.oe,⟨⟩⟩) ⟨(ob rfl ⟨.l,.i,.i,.b,⟨⟩⟩),(bu d12 d12.len d12.len),⟨⟩⟩)⟩
 intro F0 F1 nK nL su sw wM Ay AZ sx o h
 exact .mk F1 nL F0 nK su sw wM Ay AZ sx o h
 intro _ _ _ _ _ _ _ lY ail aim ain L9 Ma zc a0 r h g1000
 refine eT Tryz.func126 ?_
 refine .d (.d ?_)
 obtain ⟨⟨v87,v88⟩,aCs,h⟩:=bd h
 refine cb (iG (g1000:=g1000) aCs) [0] ?_
 refine ⟨rfl,_,_,rfl,ao,(.d (.d ⟨rfl,rfl,rfl,_,rfl,(sV h (λaCt h=>?_) (λaCt h=>?_))⟩))⟩
 refine .d ⟨rfl,_,_,rfl,ao,?_⟩
 exact aJU
 refine .d ⟨rfl,rfl,_,rfl,(sE h (λahJ h=>?_) (λahJ h=>?_))⟩
 refine .d ⟨rfl,rfl,rfl,_,rfl,rfl,rfl,rfl,_,_,rfl,ao,(.d ⟨rfl,rfl,_,rfl,rfl,_,_,rfl,ao,?_⟩)⟩
 exact aJU
 refine .d ?_
 obtain ⟨⟨v92,v93⟩,aio,h⟩:=bd h
 refine cb (cC (g1000:=g1000) aio) [0] ?_
 refine sV h (λTs h=>?_) (λTs h=>?_)
 refine .d ?_
 obtain ⟨⟨v96,v97⟩,aCu,h⟩:=bd h
 refine bz (lY _ _ aCu _) [0] λf99 d100=>?_
 refine ⟨rfl,_,_,rfl,ao,?_⟩
 obtain rfl:=si h
 exact ⟨rfl,_,rfl,(en [0,3] ⟨f99,d100.self,rfl,rfl⟩ (.aI ⟨.i,.i,.s,.oe,⟨⟩⟩) ⟨(ob rfl ⟨.l,.i,.i,.b,⟨⟩⟩),(bu d100),⟨⟩⟩)⟩
 refine .d ?_
 obtain ⟨⟨aqp,ahU⟩,arn,h⟩:=bd h
 refine cb (aD (g1000:=g1000) arn) [0] ?_
 refine sV h (λHG h=>?_) (λHG h=>?_)
 refine .d ?_
 obtain ⟨⟨v105,Ic⟩,I3,h⟩:=bd h
 refine bz (zc _ _ _ I3 _) [0] λf108 d109=>?_
 refine ⟨rfl,_,_,rfl,ao,?_⟩
 obtain rfl:=si h
 exact ⟨rfl,_,rfl,(en [0,3] ⟨f108,d109.self,rfl,rfl⟩ (.aI ⟨.i,.i,.s,.oe,⟨⟩⟩) ⟨(ob rfl ⟨.l,.i,.i,.b,⟨⟩⟩),(bu d109),⟨⟩⟩)⟩
 refine .d ?_
 obtain ⟨⟨Vp,LJ⟩,WZ,h⟩:=bd h
 refine cb (cC (g1000:=g1000) WZ) [0] ?_
 refine sV h (λW0 h=>?_) (λW0 h=>?_)
 refine .d ?_
 obtain ⟨⟨Ie,Ge⟩,HY,h⟩:=bd h
 refine bz (Ma _ _ HY _) [0] λf117 d118=>?_
 refine ⟨rfl,_,_,rfl,ao,?_⟩
 obtain rfl:=si h
 exact ⟨rfl,_,rfl,(en [0,3] ⟨f117,d118.self,rfl,rfl⟩ (.aI ⟨.i,.i,.s,.oe,⟨⟩⟩) ⟨(ob rfl ⟨.l,.i,.i,.b,⟨⟩⟩),(bu d118),⟨⟩⟩)⟩
 refine .d ?_
 obtain ⟨⟨Qw,Aq⟩,W1,h⟩:=bd h
 refine cb (aD (g1000:=g1000) W1) [0] ?_
 refine sV h (λaro h=>?_) (λaro h=>?_)
 refine .d ?_
 obtain ⟨⟨LK,v124⟩,W2,h⟩:=bd h
 refine bz (L9 _ _ W2 _) [0] λf126 d127=>?_
 refine ⟨rfl,_,_,rfl,ao,(.d (.float [(0,true),(1,true),(2,false),(3,false),(4,true),(5,false)] aKR ?_))⟩
 refine ⟨rfl,_,rfl,?_⟩
 obtain ⟨⟨ahV,SU⟩,Tz,h⟩:=bd h
 refine bz (lY _ _ Tz _) [0] λf131 d132=>?_
 refine ⟨rfl,_,cJ,rfl,_,_,rfl,ao,?_⟩
 obtain rfl:=si h
 refine ⟨rfl,_,rfl,(.ab 6 0 3 3 _ (λ_=>iB (d127).po) λaCv=>(.ab 6 1 3 5 _ (λ_=>iB (d132).po) λaCw=>?_))⟩
 have d135:=(DR.cp (ae.bx (x:=LK) (F0:=aCv) d127) (DR.cp (ae.bx (x:=ahV) (F0:=aCw) d132) DR.dL))
 exact en [0,6] ⟨_,d135.self,rfl,rfl⟩ (.aI ⟨.i,.i,.s,.oe,⟨⟩⟩) ⟨(ob rfl ⟨.l,.i,.i,.b,⟨⟩⟩),(bu d135 d135.len d135.len),⟨⟩⟩
 refine .d ?_
 obtain ⟨⟨Vq,ahW⟩,arp,h⟩:=bd h
 refine cb (aD (g1000:=g1000) arp) [0] ?_
 refine sV h (λarq h=>?_) (λarq h=>?_)
 refine .d ?_
 obtain ⟨⟨Vr,v141⟩,ars,h⟩:=bd h
 refine bz (ain _ _ ars _) [0] λf143 d144=>?_
 refine ⟨rfl,_,_,rfl,ao,?_⟩
 obtain rfl:=si h
 exact ⟨rfl,_,rfl,(en [0,3] ⟨f143,d144.self,rfl,rfl⟩ (.aI ⟨.i,.i,.s,.oe,⟨⟩⟩) ⟨(ob rfl ⟨.l,.i,.i,.b,⟨⟩⟩),(bu d144),⟨⟩⟩)⟩
 refine .d ?_
 obtain ⟨⟨v145,v146⟩,art,h⟩:=bd h
 refine cb (aD (g1000:=g1000) art) [0] ?_
 refine sV h (λaru h=>?_) (λaru h=>?_)
 refine .d (bk h λaqq arv h=>(cb (bf (g1000:=g1000) arv) [0] ?_))
 refine .d ⟨rfl,_,_,rfl,ao,?_⟩
 exact aJU
 refine .d ?_
 obtain ⟨⟨Qx,v152⟩,arw,h⟩:=bd h
 refine cb (aD (g1000:=g1000) arw) [0] ?_
 refine sV h (λHH h=>?_) (λHH h=>?_)
 refine .d (bk h λSX TJ h=>(cb (bf (g1000:=g1000) TJ) [0] ?_))
 refine .d ⟨rfl,_,_,rfl,ao,?_⟩
 exact aJU
 refine .d ?_
 obtain ⟨⟨v157,Qy⟩,arx,h⟩:=bd h
 refine cb (aD (g1000:=g1000) arx) [0] ?_
 refine sV h (λary h=>?_) (λary h=>?_)
 refine .d (.d ?_)
 obtain ⟨⟨aqr,v162⟩,arz,h⟩:=bd h
 refine cb (aD (g1000:=g1000) arz) [0] ?_
 refine sV h (λHI h=>?_) (λHI h=>?_)
 refine .d ⟨rfl,_,_,rfl,ao,?_⟩
 exact aJU
 refine .d ?_
 obtain ⟨⟨HA,aqs⟩,arA,h⟩:=bd h
 refine bz (zc _ _ _ arA _) [0] λf168 d169=>?_
 refine ⟨rfl,_,_,rfl,ao,?_⟩
 obtain rfl:=si h
 exact ⟨rfl,_,rfl,(en [0,3] ⟨f168,d169.self,rfl,rfl⟩ (.aI ⟨.i,.i,.s,.oe,⟨⟩⟩) ⟨(ob rfl ⟨.l,.i,.i,.b,⟨⟩⟩),(bu d169),⟨⟩⟩)⟩
 refine .d ?_
 obtain ⟨⟨aqt,v171⟩,arB,h⟩:=bd h
 refine cb (aD (g1000:=g1000) arB) [0] ?_
 refine sV h (λUO h=>?_) (λUO h=>?_)
 refine .d ?_
 obtain ⟨⟨Ur,v175⟩,arC,h⟩:=bd h
 refine cb (fC (g1000:=g1000) arC) [0] ?_
 refine ⟨rfl,_,_,rfl,ao,(.d (bk h λHQ HZ h=>(cb (bf (g1000:=g1000) HZ) [0] ?_)))⟩
 refine .d ⟨rfl,_,rfl,rfl,_,_,rfl,ao,?_⟩
 obtain rfl:=si h
 exact ⟨rfl,_,rfl,(en [0,5] ⟨_,(DR.nil (D:=ae.D)),rfl,rfl⟩ (.aI ⟨.i,.i,.s,.g,⟨⟩⟩) ⟨(ob rfl ⟨.l,.i,.i,.b,⟨⟩⟩),gh,⟨⟩⟩)⟩
 refine .d ?_
 obtain ⟨⟨aqu,ahX⟩,arD,h⟩:=bd h
 refine cb (aD (g1000:=g1000) arD) [0] ?_
 refine sV h (λarE h=>?_) (λarE h=>?_)
 refine .d (bk h λv183 Up h=>(cb (bf (g1000:=g1000) Up) [0] ?_))
 refine .d ?_
 obtain ⟨⟨ahY,Uu⟩,UP,h⟩:=bd h
 refine bz (aim _ _ UP _) [0] λf188 d189=>?_
 refine ⟨_,cJ,rfl,_,_,rfl,ao,(.d (bk h λDT arF h=>(cb (bf (g1000:=g1000) arF) [0] ?_)))⟩
 refine .d (bk h λaqv arG h=>(cb (bf (g1000:=g1000) arG) [0] ?_))
 refine .d ⟨rfl,_,rfl,rfl,_,_,rfl,ao,?_⟩
 obtain rfl:=si h
 refine ⟨rfl,_,rfl,(.ab 4 0 3 3 _ (λ_=>iB (d189).po) λaCx=>?_)⟩
 have d195:=(DR.cp (ae.bx (x:=ahY) (F0:=aCx) d189) DR.dL)
 exact en [0,4] ⟨_,d195.self,rfl,rfl⟩ (.aI ⟨.i,.i,.s,.oe,⟨⟩⟩) ⟨(ob rfl ⟨.l,.i,.i,.b,⟨⟩⟩),(bu d195 d195.len d195.len),⟨⟩⟩
 refine .d ?_
 obtain ⟨⟨v196,Qh⟩,TN,h⟩:=bd h
 refine cb (aD (g1000:=g1000) TN) [0] ?_
 refine sV h (λTO h=>?_) (λTO h=>?_)
 refine .d ?_
 obtain ⟨⟨aqw,v201⟩,arH,h⟩:=bd h
 refine bz (zc _ _ _ arH _) [0] λf203 d204=>?_
 refine ⟨rfl,_,_,rfl,ao,?_⟩
 obtain rfl:=si h
 exact ⟨rfl,_,rfl,(en [0,3] ⟨f203,d204.self,rfl,rfl⟩ (.aI ⟨.i,.i,.s,.oe,⟨⟩⟩) ⟨(ob rfl ⟨.l,.i,.i,.b,⟨⟩⟩),(bu d204),⟨⟩⟩)⟩
 refine .d ?_
 obtain ⟨⟨LC,v206⟩,arI,h⟩:=bd h
 refine cb (aD (g1000:=g1000) arI) [0] ?_
 refine sV h (λarJ h=>?_) (λarJ h=>?_)
 refine .d ?_
 obtain ⟨⟨aqx,v210⟩,arK,h⟩:=bd h
 refine bz (ail _ _ arK _) [0] λf212 d213=>?_
 refine ⟨rfl,_,_,rfl,ao,?_⟩
 obtain rfl:=si h
 exact ⟨rfl,_,rfl,(en [0,3] ⟨f212,d213.self,rfl,rfl⟩ (.aI ⟨.i,.i,.s,.oe,⟨⟩⟩) ⟨(ob rfl ⟨.l,.i,.i,.b,⟨⟩⟩),(bu d213),⟨⟩⟩)⟩
 refine .d ?_
 obtain ⟨⟨HR,sQ⟩,W3,h⟩:=bd h
 refine cb (aD (g1000:=g1000) W3) [0] ?_
 refine sV h (λBr h=>?_) (λBr h=>?_)
 refine .d ?_
 obtain ⟨⟨v218,Vs⟩,W4,h⟩:=bd h
 refine bz (zc _ _ _ W4 _) [0] λf221 d222=>?_
 refine ⟨rfl,_,_,rfl,ao,?_⟩
 obtain rfl:=si h
 exact ⟨rfl,_,rfl,(en [0,3] ⟨f221,d222.self,rfl,rfl⟩ (.aI ⟨.i,.i,.s,.oe,⟨⟩⟩) ⟨(ob rfl ⟨.l,.i,.i,.b,⟨⟩⟩),(bu d222),⟨⟩⟩)⟩
 obtain ⟨aCy,h,arL⟩:=bd h
 refine .cut (λσ η=>∃Qz,∃QA,∃QB,∃QC,∃Vt,(Qz,QA,QB,QC,Vt)=aCy/\σ=[(0,.aC 0 g1000 0 0),(2,.aC 1 0 0 0),(120,.bool Vt)]/\η=[.row g1000 4 1 67 (λ_=>[sl 4 af.cells Qz,.int .i64 QA,.int .i64 QB,.bool QC]),.row 0 4 1 29 (λ_=>[.int .i64 0,.int .i64 0,.str [],.own 2 0 0 0]),.row 0 4 0 29 (λ_=>[])]) ?_ ?_
 refine ⟨rfl,rfl,_,rfl,(sE h (λTS h=>?_) (λTS h=>?_))⟩
 refine ⟨rfl,(.t ⟨rfl,_,rfl,(.t (bk h λv232 arM h=>(cx (da arM) (.t (sV h (λUR h=>?_) (λUR h=>?_))))))⟩)⟩
 refine .t ?_
 obtain ⟨⟨abo,v236⟩,arN,h⟩:=bd h
 refine cb (cC (g1000:=g1000) arN) [0] ?_
 refine .t (sV h (λarO h=>?_) (λarO h=>?_))
 refine .t ?_
 obtain ⟨⟨abp,yX⟩,US,h⟩:=bd h
 refine cb (cC (g1000:=g1000) US) [0] ?_
 exact .t (ct ⟨_,_,_,_,_,si h,rfl,rfl⟩ (tk [0,1,5] ⟨.p,.p,.b,⟨⟩⟩ ⟨(fM rfl),(nb rfl ⟨.i,.i,.s,.g,⟨⟩⟩),gh,⟨⟩⟩))
 exact .f (.f (ct ⟨_,_,_,_,_,si h,rfl,rfl⟩ (tk [0,1,5] ⟨.p,.p,.b,⟨⟩⟩ ⟨(fM rfl),(nb rfl ⟨.i,.i,.s,.g,⟨⟩⟩),gh,⟨⟩⟩)))
 exact .f (.f (.f (.f (.f (ct ⟨_,_,_,_,_,si h,rfl,rfl⟩ (tk [0,1,5] ⟨.p,.p,.b,⟨⟩⟩ ⟨(fM rfl),(nb rfl ⟨.i,.i,.s,.g,⟨⟩⟩),gh,⟨⟩⟩))))))
 exact .f (.f (.f (.f (.f (.f (.f (.f (.f (ct ⟨_,_,_,_,_,si h,rfl,rfl⟩ (tk [0,1,5] ⟨.p,.p,.b,⟨⟩⟩ ⟨(fM rfl),(nb rfl ⟨.i,.i,.s,.g,⟨⟩⟩),gh,⟨⟩⟩))))))))))
 rintro _ _ ⟨Qz,QA,QB,QC,Vt,rfl,rfl,rfl⟩
 replace h:=arL
 refine sV h (λUT h=>?_) (λUT h=>?_)
 refine .d ?_
 obtain ⟨⟨Gp,HT⟩,UU,h⟩:=bd h
 refine bz (ft (g1000:=g1000) UU) [0] λf246 d247=>?_
 refine ⟨rfl,_,_,rfl,ao,(.d ⟨rfl,rfl,rfl,_,rfl,rfl,rfl,rfl,_,_,rfl,ao,(.d ?_)⟩)⟩
 obtain ⟨⟨Vu,aqy⟩,arP,h⟩:=bd h
 refine bz (zc _ _ _ arP _) [0] λf251 d252=>?_
 refine ⟨rfl,_,_,rfl,ao,(.d ⟨rfl,_,rfl,_,cJ,rfl,rfl,_,rfl,(bk h λaqz H0 h=>(.move ⟨rfl,rfl,DR.jbd rfl d252.len H0,rfl,rfl,_,_,rfl,ao,(.d ⟨rfl,_,rfl,rfl,_,_,rfl,ao,?_⟩)⟩))⟩)⟩
 obtain rfl:=si h
 refine ⟨rfl,_,rfl,(.ab 7 0 3 3 _ (λ_=>abJ (d247).po) λaCz=>?_)⟩
 have d256:=(DR.jnq (DR.cp (ae.bx (x:=Gp) (F0:=aCz) d247) DR.dL) d252 H0)
 exact en [0,7] ⟨_,d256.self,rfl,rfl⟩ (.aI ⟨.i,.i,.s,.oe,⟨⟩⟩) ⟨(ob rfl ⟨.l,.i,.i,.b,⟨⟩⟩),(bu d256 d256.len d256.len),⟨⟩⟩
 refine .d ?_
 obtain ⟨⟨aqA,Qq⟩,UW,h⟩:=bd h
 refine cb (aD (g1000:=g1000) UW) [0] ?_
 refine sV h (λUX h=>?_) (λUX h=>?_)
 refine .d ?_
 obtain ⟨⟨aqB,aqC⟩,arQ,h⟩:=bd h
 refine cb (fC (g1000:=g1000) arQ) [0] ?_
 refine ⟨rfl,_,_,rfl,ao,(.d (bk h λaqD arR h=>(cb (bf (g1000:=g1000) arR) [0] ?_)))⟩
 refine .d ⟨rfl,_,rfl,rfl,_,_,rfl,ao,?_⟩
 obtain rfl:=si h
 exact ⟨rfl,_,rfl,(en [0,5] ⟨_,(DR.nil (D:=ae.D)),rfl,rfl⟩ (.aI ⟨.i,.i,.s,.g,⟨⟩⟩) ⟨(ob rfl ⟨.l,.i,.i,.b,⟨⟩⟩),gh,⟨⟩⟩)⟩
 refine .d ?_
 obtain ⟨⟨aqE,aqF⟩,arS,h⟩:=bd h
 refine bz (zc _ _ _ arS _) [0] λf269 d270=>?_
 refine ⟨rfl,_,_,rfl,ao,?_⟩
 obtain rfl:=si h
 exact ⟨rfl,_,rfl,(en [0,3] ⟨f269,d270.self,rfl,rfl⟩ (.aI ⟨.i,.i,.s,.oe,⟨⟩⟩) ⟨(ob rfl ⟨.l,.i,.i,.b,⟨⟩⟩),(bu d270),⟨⟩⟩)⟩
 intro _ lY a0 r h g1000
 refine eT Tryz.func192 ?_
 refine .d (.d ?_)
 obtain ⟨⟨Gs,aqM⟩,arT,h⟩:=bd h
 refine bz (lY _ _ arT _) [0] λaCA abM=>?_
 refine ⟨_,cJ,rfl,_,_,rfl,ao,?_⟩
 obtain ⟨aCB,h,arU⟩:=bd h
 refine .cut (λσ η=>∃VH,∃VI,∃VJ,∃VK,∃xQ,∃QQ:Nat->List PV,DR ae.D xQ.length QQ xQ/\(VH,VI,VJ,VK,xQ)=aCB/\σ=[(0,.aC 0 g1000 0 0),(2,.aC 1 0 0 0),(3,.aC 3 0 0 0)]/\η=[.row g1000 4 1 67 (λ_=>[sl 4 af.cells VH,.int .i64 VI,.int .i64 VJ,.bool VK]),.row 0 4 1 29 (λ_=>[.int .i64 0,.int .i64 0,.str [],.own 2 0 0 0]),.row 0 4 0 29 (λ_=>[]),.row 0 4 1 29 (λ_=>[.int .i64 43,.int .i64 0,.str [],.own 4 0 0 xQ.length]),.row 0 4 xQ.length 29 QQ]) ?_ ?_
 refine .d ?_
 obtain ⟨⟨LO,vV⟩,W5,h⟩:=bd h
 refine cb (aD (g1000:=g1000) W5) [0] ?_
 refine sV h (λW6 h=>?_) (λW6 h=>?_)
 refine .d (bk h λIh arV h=>(cb (bf (g1000:=g1000) arV) [0] ?_))
 refine .d ?_
 obtain ⟨⟨QG,abr⟩,arW,h⟩:=bd h
 refine cb (fC (g1000:=g1000) arW) [0] ?_
 refine ⟨rfl,_,_,rfl,ao,(.d (.float [(0,true),(1,true),(2,true),(3,false),(4,false),(5,false),(6,true),(7,false)] aKR ?_))⟩
 refine ⟨rfl,rfl,_,rfl,?_⟩
 obtain ⟨⟨pW,abt⟩,arX,h⟩:=bd h
 refine bz (ft (g1000:=g1000) arX) [0] λaip arY=>?_
 refine ⟨rfl,rfl,_,dx,rfl,rfl,?_⟩
 obtain ⟨_,arZ,h⟩:=bd h
 refine .fx ⟨rfl,(λ_ _=>rfl),QR arZ,1,dV (λ_=>[]) 0 [.int .i64 pW.aj,.int .i64 pW.aP,.str pW.aq,.own 6 0 0 pW.ah.length],rfl,abN rfl ⟨.same _,.same _,.same _,.same _,trivial⟩,rfl,rfl,_,_,rfl,ao,(.d (bk h λabu ar0 h=>(cb (bf (g1000:=g1000) ar0) [0] ?_)))⟩
 refine .ab 8 0 3 6 _ (λ_=>rT (aHP 0) (arY).po) λaiq=>(.ab 3 0 3 2 _ (λ_=>iB (abM).po) λar1=>(.d (.float [(0,true),(1,true),(2,true),(3,false),(4,false),(5,false),(6,true),(7,false)] aKR ?_)))
 refine ⟨rfl,rfl,_,rfl,?_⟩
 obtain ⟨⟨Gt,DW⟩,ar2,h⟩:=bd h
 refine bz (lY _ _ ar2 _) [0] λaGN ar3=>?_
 refine ⟨rfl,rfl,_,dx,rfl,rfl,?_⟩
 have W7:DR ae.D 1 (dV (λ_=>[]) 0 [.int .i64 pW.aj,.int .i64 pW.aP,.str pW.aq,.dY 4 pW.ah.length 29 aip aiq]) [pW]:=DR.app DR.nil (ae.bx (x:=pW) arY:ae.D [.int .i64 pW.aj,.int .i64 pW.aP,.str pW.aq,.dY 4 pW.ah.length 29 aip aiq] pW)
 refine bk h λLP I4 h=>(.fx ⟨rfl,rfl,(λ_ _=>rfl),DR.xA W7 I4,LP.length,dV (dV (λ_=>[]) 0 [.int .i64 pW.aj,.int .i64 pW.aP,.str pW.aq,.dY 4 pW.ah.length 29 aip aiq]) 1 [.int .i64 Gt.aj,.int .i64 Gt.aP,.str Gt.aq,.own 9 0 0 Gt.ah.length],DR.ln W7 I4,dE (DR.ln W7 I4) ⟨.same _,.same _,.same _,.same _,trivial⟩,rfl,rfl,_,_,rfl,ao,rfl,rfl,_,rfl,rfl,_,rfl,_,dx,?_⟩)
 have W8:=(DR.cp (ae.bx (x:=Gs) (F0:=ar1) abM) DR.dL)
 refine bk h λVG I6 h=>(.fx ⟨rfl,rfl,(λ_ _=>rfl),DR.xA W8 I6,VG.length,dV (kg [[.int .i64 Gs.aj,.int .i64 Gs.aP,.str Gs.aq,.dY 4 Gs.ah.length 29 aCA ar1]]) 1 [.int .i64 44,.int .i64 0,.str QG,.own 8 (0+1) 0 LP.length],DR.ln W8 I6,dE (DR.ln W8 I6) ⟨.same _,.same _,.same _,.same _,trivial⟩,rfl,rfl,_,_,rfl,ao,(.ab 8 1 3 9 _ (λ_=>rT (DR.lq W7 I4) (ar3).po) λaCC=>?_)⟩)
 have ar4:=DR.jE W7 I4 (ae.bx (x:=Gt) (F0:=aCC) ar3)
 refine .ab 3 1 3 8 _ (λ_=>rT (DR.lq W8 I6) (ar4).po) λaCD=>?_
 have air:=DR.jE W8 I6 (ae.bx (x:=(ae.mk 44 0 QG LP)) (F0:=aCD) ar4)
 exact ct ⟨_,_,_,_,_,_,air,si h,rfl,rfl⟩ (tk [0,1,14,4,3] ⟨.p,.p,.p,⟨⟩⟩ ⟨(fM rfl),(nb rfl ⟨.i,.i,.s,.g,⟨⟩⟩),gh,(nb rfl ⟨.i,.i,.s,.oe,⟨⟩⟩),(bu air),⟨⟩⟩)
 refine .ab 3 0 3 2 _ (λ_=>iB (abM).po) λaCE=>?_
 have abO:=(DR.cp (ae.bx (x:=Gs) (F0:=aCE) abM) DR.dL)
 exact ct ⟨_,_,_,_,_,_,abO.self,si h,rfl,rfl⟩ (tk [0,1,7,4,3] ⟨.p,.p,.p,⟨⟩⟩ ⟨(fM rfl),(nb rfl ⟨.i,.i,.s,.g,⟨⟩⟩),gh,(nb rfl ⟨.i,.i,.s,.oe,⟨⟩⟩),(bu abO abO.len abO.len),⟨⟩⟩)
 rintro _ _ ⟨VH,VI,VJ,VK,xQ,QQ,w5,rfl,rfl,rfl⟩
 replace h:=arU
 refine .d (.d ?_)
 obtain ⟨⟨aqN,Bq⟩,Uj,h⟩:=bd h
 refine cb (aD (g1000:=g1000) Uj) [0] ?_
 refine sV h (λUk h=>?_) (λUk h=>?_)
 refine .float [(0,true),(1,true),(2,true),(3,false),(4,false),(5,true),(6,false),(7,false),(8,true),(9,false)] aKR ?_
 refine ⟨rfl,rfl,_,rfl,?_⟩
 obtain ⟨⟨QH,VL⟩,ar5,h⟩:=bd h
 refine bz (lY _ _ ar5 _) [0] λaGO abP=>?_
 refine ⟨rfl,rfl,_,cJ,rfl,rfl,_,dx,rfl,rfl,(bk h λVM BQ h=>(.fx ⟨rfl,rfl,(λ_ _=>rfl),DR.xA w5 BQ,VM.length,dV QQ xQ.length [.int .i64 45,.int .i64 0,.str [],.own 6 0 0 1],DR.ln w5 BQ,dE (DR.ln w5 BQ) ⟨.same _,.same _,.same _,.same _,trivial⟩,rfl,rfl,_,_,rfl,ao,(.d (.d ⟨rfl,?_⟩))⟩))⟩
 refine ⟨rfl,_,rfl,rfl,(sE h (λUm h=>?_) (λUm h=>?_))⟩
 refine ⟨rfl,rfl,rfl,_,_,rfl,ao,(.d ⟨rfl,_,rfl,rfl,_,_,rfl,ao,?_⟩)⟩
 obtain rfl:=si h
 refine ⟨rfl,_,rfl,(.ab 6 0 3 5 _ (λ_=>iB (abP).po) λaCF=>?_)⟩
 have sT:=(DR.cp (ae.bx (x:=QH) (F0:=aCF) abP) DR.dL)
 refine .ab 4 xQ.length 3 6 _ (λ_=>rT (DR.lq w5 BQ) (sT).po) λaCG=>?_
 have abQ:=DR.jE w5 BQ (ae.bx (x:=(ae.mk 45 0 [] ([QH]:List ae))) (F0:=aCG) sT)
 exact en [0,4] ⟨_,abQ.self,rfl,rfl⟩ (.aI ⟨.i,.i,.s,.oe,⟨⟩⟩) ⟨(ob rfl ⟨.l,.i,.i,.b,⟨⟩⟩),(bu abQ abQ.len abQ.len),⟨⟩⟩
 refine .d ⟨rfl,_,rfl,rfl,_,_,rfl,ao,?_⟩
 obtain rfl:=si h
 refine ⟨rfl,_,rfl,(.ab 6 0 3 5 _ (λ_=>iB (abP).po) λaCH=>?_)⟩
 have ar6:=(DR.cp (ae.bx (x:=QH) (F0:=aCH) abP) DR.dL)
 refine .ab 4 xQ.length 3 6 _ (λ_=>rT (DR.lq w5 BQ) (ar6).po) λaCI=>?_
 have oY:=DR.jE w5 BQ (ae.bx (x:=(ae.mk 45 0 [] ([QH]:List ae))) (F0:=aCI) ar6)
 exact en [0,4] ⟨_,oY.self,rfl,rfl⟩ (.aI ⟨.i,.i,.s,.oe,⟨⟩⟩) ⟨(ob rfl ⟨.l,.i,.i,.b,⟨⟩⟩),(bu oY oY.len oY.len),⟨⟩⟩
 refine .d (.d ⟨rfl,rfl,_,rfl,rfl,(sE h (λar7 h=>?_) (λar7 h=>?_))⟩)
 refine ⟨rfl,rfl,rfl,_,_,rfl,ao,(.d ⟨rfl,_,rfl,rfl,_,_,rfl,ao,?_⟩)⟩
 obtain rfl:=si h
 exact ⟨rfl,_,rfl,(en [0,4] ⟨QQ,w5.self,rfl,rfl⟩ (.aI ⟨.i,.i,.s,.oe,⟨⟩⟩) ⟨(ob rfl ⟨.l,.i,.i,.b,⟨⟩⟩),(bu w5 w5.len w5.len),⟨⟩⟩)⟩
 refine .d ⟨rfl,_,rfl,rfl,_,_,rfl,ao,?_⟩
 obtain rfl:=si h
 exact ⟨rfl,_,rfl,(en [0,4] ⟨QQ,w5.self,rfl,rfl⟩ (.aI ⟨.i,.i,.s,.oe,⟨⟩⟩) ⟨(ob rfl ⟨.l,.i,.i,.b,⟨⟩⟩),(bu w5 w5.len w5.len),⟨⟩⟩)⟩
 intro _ Mb a0 r h g1000
 refine eT Tryz.func191 ?_
 refine .d (.d ?_)
 obtain ⟨⟨VN,LQ⟩,ar8,h⟩:=bd h
 refine bz (Mb _ _ _ ar8 _) [0] λais Mc=>?_
 refine ⟨rfl,_,_,rfl,ao,(.d (.d ⟨rfl,rfl,rfl,_,rfl,(jj h (λar9 h=>?_) (λar9 h=>?_))⟩))⟩
 refine ⟨rfl,_,rfl,(.t (bk h λaqO asa h=>(R9 (lI asa) ⟨.aI ⟨.i,.i,.s,(.rd Mc),⟨⟩⟩,⟨⟩⟩ (.t (.t (jj h (λasb h=>?_) (λasb h=>?_)))))))⟩
 refine ⟨rfl,rfl,rfl,_,_,rfl,ao,(.d ⟨rfl,_,rfl,rfl,_,_,rfl,ao,?_⟩)⟩
 exact aKc
 refine .d ⟨rfl,_,rfl,rfl,_,_,rfl,ao,?_⟩
 exact aKc
 refine .f (.f (.f (.f (.d ⟨rfl,_,rfl,rfl,_,_,rfl,ao,?_⟩))))
 exact aKc
 intro _ _ asc ait a0 a1 r h g1000
 refine eT Tryz.func212 ?_
 refine .d (.d ?_)
 obtain ⟨⟨Wd,wK⟩,asd,h⟩:=bd h
 refine bz (ait _ _ asd _) [0] λaCJ ase=>?_
 refine ⟨rfl,_,_,rfl,ao,?_⟩
 obtain ⟨abz,h,W9⟩:=bd h
 refine .cut (λσ η=>∃We,∃Wf,∃BC,∃Wg,∃LV,∃Wh,∃Wi,∃Wj,∃Ip,∃aiu:Nat->List PV,∃abR:Nat->List PV,DR ae.D LV.length aiu LV/\DR ae.D Ip.length abR Ip/\.inl (We,Wf,BC,Wg,LV,Wh,Wi,Wj,Ip)=abz/\σ=[(4,.aC 1 0 0 0),(5,.aC 3 0 0 0)]/\η=[.row g1000 4 1 67 (λ_=>[sl 4 af.cells We,.int .i64 Wf,.int .i64 BC,.bool Wg]),.row 0 4 1 29 (λ_=>[.int .i64 0,.int .i64 0,.str [],.own 2 0 0 LV.length]),.row 0 4 LV.length 29 aiu,.row 0 4 1 29 (λ_=>[.int .i64 Wh,.int .i64 Wi,.str Wj,.own 4 0 0 Ip.length]),.row 0 4 Ip.length 29 abR]) ?_ ?_
 have asf:=asc _ _ _ _ _ _ _ _ _ _ _ h
 refine le (e9.rec (motive:=λasg uO uP uQ sS nC kc ke kf jv ash _=>∀BR:Nat->List PV,∀QS:Nat->List PV,DR ae.D nC.length BR nC->DR ae.D jv.length QS jv->a1=asg->abz=ash->aQ _ _ [(0,.aC 0 g1000 0 0),(1,.bool a1),(4,.aC 1 0 0 0),(5,.aC 3 0 0 0)] [.row g1000 4 1 67 (λ_=>[sl 4 af.cells uO,.int .i64 uP,.int .i64 uQ,.bool sS]),.row 0 4 1 29 (λ_=>[.int .i64 0,.int .i64 0,.str [],.own 2 0 0 nC.length]),.row 0 4 nC.length 29 BR,.row 0 4 1 29 (λ_=>[.int .i64 kc,.int .i64 ke,.str kf,.own 4 0 0 jv.length]),.row 0 4 jv.length 29 QS]) ?_ asf (λ_=>[]) aCJ ((DR.nil (D:=ae.D)).self) ase rfl rfl) (tk [0,1,6,3,2] ⟨.p,.b,.p,.p,⟨⟩⟩ ⟨(fM rfl),(nb rfl ⟨.i,.i,.s,.g,⟨⟩⟩),gh,(nb rfl ⟨.i,.i,.s,.oe,⟨⟩⟩),(bu ase),⟨⟩⟩)
 intro _ afg _ OP _ _ asg uO uP uQ sS nC kc ke kf jv ash h ER BR QS uf oZ abS asi
 subst abS
 subst asi
 refine aQ.round (.d (.d ⟨rfl,rfl,rfl,_,rfl,(jj h (λasj h=>?_) (λasj h=>?_))⟩))
 obtain ⟨aCK,h,asl⟩:=bd h
 refine .cut (λσ η=>∃Gu,∃Gv,∃Gw,∃Gx,∃L2,(Gu,Gv,Gw,Gx,L2)=aCK/\σ=[(0,.aC 0 g1000 0 0),(1,.bool a1),(4,.aC 1 0 0 0),(5,.aC 3 0 0 0),(15,.bool L2)]/\η=[.row g1000 4 1 67 (λ_=>[sl 4 af.cells Gu,.int .i64 Gv,.int .i64 Gw,.bool Gx]),.row 0 4 1 29 (λ_=>[.int .i64 0,.int .i64 0,.str [],.own 2 0 0 nC.length]),.row 0 4 nC.length 29 BR,.row 0 4 1 29 (λ_=>[.int .i64 kc,.int .i64 ke,.str kf,.own 4 0 0 jv.length]),.row 0 4 jv.length 29 QS]) ?_ ?_
 obtain ⟨⟨QK,ue⟩,asm,h⟩:=bd h
 refine cb (cC (g1000:=g1000) asm) [0] ?_
 refine sV h (λasn h=>?_) (λasn h=>?_)
 refine .t ?_
 obtain ⟨⟨QL,jN⟩,aso,h⟩:=bd h
 refine cb (cC (g1000:=g1000) aso) [0] ?_
 refine .t (sV h (λasp h=>?_) (λasp h=>?_))
 refine ⟨rfl,_,rfl,(.t (bk h λQM asq h=>(R9 (lI asq) ⟨.aI ⟨.i,.i,.s,(.rd oZ),⟨⟩⟩,⟨⟩⟩ (.t (sV h (λasr h=>?_) (λasr h=>?_))))))⟩
 exact .t (.t (ct ⟨_,_,_,_,_,si h,rfl,rfl⟩ (tk [0,1,2,3,4] ⟨.p,.b,.p,.p,.b,⟨⟩⟩ ⟨(fM rfl),(nb rfl ⟨.i,.i,.s,.oe,⟨⟩⟩),(bu uf),(nb rfl ⟨.i,.i,.s,.oe,⟨⟩⟩),(bu oZ),⟨⟩⟩)))
 exact .f (.f (ct ⟨_,_,_,_,_,si h,rfl,rfl⟩ (tk [0,1,2,3,4] ⟨.p,.b,.p,.p,.b,⟨⟩⟩ ⟨(fM rfl),(nb rfl ⟨.i,.i,.s,.oe,⟨⟩⟩),(bu uf),(nb rfl ⟨.i,.i,.s,.oe,⟨⟩⟩),(bu oZ),⟨⟩⟩)))
 exact .f (.f (.f (.f (.f (ct ⟨_,_,_,_,_,si h,rfl,rfl⟩ (tk [0,1,2,3,4] ⟨.p,.b,.p,.p,.b,⟨⟩⟩ ⟨(fM rfl),(nb rfl ⟨.i,.i,.s,.oe,⟨⟩⟩),(bu uf),(nb rfl ⟨.i,.i,.s,.oe,⟨⟩⟩),(bu oZ),⟨⟩⟩))))))
 exact .f (.f (.f (.f (.f (.f (.f (.f (ct ⟨_,_,_,_,_,si h,rfl,rfl⟩ (tk [0,1,2,3,4] ⟨.p,.b,.p,.p,.b,⟨⟩⟩ ⟨(fM rfl),(nb rfl ⟨.i,.i,.s,.oe,⟨⟩⟩),(bu uf),(nb rfl ⟨.i,.i,.s,.oe,⟨⟩⟩),(bu oZ),⟨⟩⟩)))))))))
 rintro _ _ ⟨Gu,Gv,Gw,Gx,L2,rfl,rfl,rfl⟩
 replace h:=asl
 refine sV h (λass h=>?_) (λass h=>?_)
 refine .d ⟨rfl,rfl,rfl,_,rfl,rfl,rfl,rfl,_,_,rfl,ao,(.d (bk h λabD ast h=>(cb (bf (g1000:=g1000) ast) [0] ?_)))⟩
 refine .d (.float [(0,true),(1,true),(2,false),(3,false),(4,true),(5,false)] aKR ?_)
 refine ⟨rfl,_,rfl,?_⟩
 obtain ⟨⟨WA,L3⟩,asu,h⟩:=bd h
 refine bz (afg _ _ asu _) [0] λaGP asv=>?_
 refine ⟨rfl,_,cJ,rfl,_,_,rfl,ao,?_⟩
 obtain rfl:=si h
 replace h:=W9
 obtain rfl:=si h
 refine ⟨rfl,_,rfl,(.ab 6 0 3 4 _ (λ_=>iB (oZ).po) λaCL=>(.ab 6 1 3 5 _ (λ_=>iB (asv).po) λaCM=>?_))⟩
 have abT:=(DR.cp (ae.bx (x:=(ae.mk kc ke kf jv)) (F0:=aCL) oZ) (DR.cp (ae.bx (x:=WA) (F0:=aCM) asv) DR.dL))
 exact en [0,6] ⟨_,abT.self,rfl,rfl⟩ (.aI ⟨.i,.i,.s,.oe,⟨⟩⟩) ⟨(ob rfl ⟨.l,.i,.i,.b,⟨⟩⟩),(bu abT abT.len abT.len),⟨⟩⟩
 refine .d ?_
 obtain ⟨⟨IV,QN⟩,asw,h⟩:=bd h
 refine cb (aD (g1000:=g1000) asw) [0] ?_
 refine sV h (λasx h=>?_) (λasx h=>?_)
 refine .d (.float [(0,true),(1,true),(2,false),(3,false),(4,true),(5,false)] aKR ?_)
 refine ⟨rfl,_,rfl,?_⟩
 obtain ⟨⟨IW,abE⟩,asy,h⟩:=bd h
 refine bz (afg _ _ asy _) [0] λaGQ asz=>?_
 refine ⟨rfl,_,cJ,rfl,_,_,rfl,ao,(bk h λxS Xa h=>(cb (bf (g1000:=g1000) Xa) [0] ?_))⟩
 refine .ab 6 0 3 4 _ (λ_=>iB (oZ).po) λaCN=>(.ab 6 1 3 5 _ (λ_=>iB (asz).po) λaCO=>?_)
 have abU:=(DR.cp (ae.bx (x:=(ae.mk kc ke kf jv)) (F0:=aCN) oZ) (DR.cp (ae.bx (x:=IW) (F0:=aCO) asz) DR.dL))
 exact lg (ER _ _ _ _ _ _ _ _ _ _ _ h BR _ uf abU.self rfl rfl) (tk [0,1,2,3,6] ⟨.p,.b,.p,.p,⟨⟩⟩ ⟨(fM rfl),(nb rfl ⟨.i,.i,.s,.oe,⟨⟩⟩),(bu uf),(nb rfl ⟨.i,.i,.s,.oe,⟨⟩⟩),(bu abU abU.len abU.len),⟨⟩⟩)
 refine .d ?_
 obtain ⟨⟨abG,QO⟩,asA,h⟩:=bd h
 refine cb (aD (g1000:=g1000) asA) [0] ?_
 refine sV h (λasB h=>?_) (λasB h=>?_)
 refine .d ?_
 obtain ⟨⟨DZ,abH⟩,asC,h⟩:=bd h
 refine cb (fC (g1000:=g1000) asC) [0] ?_
 refine .d ?_
 obtain ⟨⟨IX,wX⟩,Xb,h⟩:=bd h
 refine cb (cC (g1000:=g1000) Xb) [0] ?_
 refine sV h (λasD h=>?_) (λasD h=>?_)
 refine .Md [(0,true),(1,true),(3,true)] 2 [(4,false),(5,false),(6,true),(7,false)] 4 [(2,false),(5,false),(6,true),(7,false)] aKR ?_
 refine ⟨rfl,_,rfl,?_,?_⟩
 refine ⟨_,cJ,?_⟩
 obtain ⟨⟨WB,wY⟩,Xc,h⟩:=bd h
 refine bz (OP _ _ Xc _) [0] λaCP Xd=>?_
 refine ⟨rfl,(bk h λWC I7 h=>(.move ⟨rfl,rfl,DR.jbd rfl Xd.len I7,rfl,_,_,rfl,ao,(.ab 5 0 3 4 _ (λ_=>abJ (oZ).po) λXe=>?_)⟩))⟩
 have xU:=(DR.jnq (DR.cp (ae.bx (x:=(ae.mk kc ke kf jv)) (F0:=Xe) oZ) DR.dL) Xd I7)
 exact lg (ER _ _ _ _ _ _ _ _ _ _ _ h BR _ uf xU.self rfl rfl) (tk [0,1,2,3,5] ⟨.p,.b,.p,.p,⟨⟩⟩ ⟨(fM rfl),(nb rfl ⟨.i,.i,.s,.oe,⟨⟩⟩),(bu uf),(nb rfl ⟨.i,.i,.s,.oe,⟨⟩⟩),(bu xU xU.len xU.len),⟨⟩⟩)
 obtain ⟨⟨WB,wY⟩,Xc,h⟩:=bd h
 refine bz (OP _ _ Xc _) [0] λaCP Xd=>?_
 refine ⟨rfl,_,cJ,(bk h λWC I7 h=>(.move ⟨rfl,rfl,DR.jbd rfl Xd.len I7,rfl,_,_,rfl,ao,(.ab 6 0 3 4 _ (λ_=>abJ (oZ).po) λXe=>?_)⟩))⟩
 have xU:=(DR.jnq (DR.cp (ae.bx (x:=(ae.mk kc ke kf jv)) (F0:=Xe) oZ) DR.dL) Xd I7)
 exact lg (ER _ _ _ _ _ _ _ _ _ _ _ h BR _ uf xU.self rfl rfl) (tk [0,1,2,3,6] ⟨.p,.b,.p,.p,⟨⟩⟩ ⟨(fM rfl),(nb rfl ⟨.i,.i,.s,.oe,⟨⟩⟩),(bu uf),(nb rfl ⟨.i,.i,.s,.oe,⟨⟩⟩),(bu xU xU.len xU.len),⟨⟩⟩)
 refine ⟨rfl,_,rfl,_,cJ,rfl,_,_,rfl,ao,(.ab 5 0 3 4 _ (λ_=>iB (oZ).po) λaCQ=>?_)⟩
 have abV:=(DR.cp (ae.bx (x:=(ae.mk kc ke kf jv)) (F0:=aCQ) oZ) DR.dL)
 exact lg (ER _ _ _ _ _ _ _ _ _ _ _ h BR _ uf abV.self rfl rfl) (tk [0,1,2,3,5] ⟨.p,.b,.p,.p,⟨⟩⟩ ⟨(fM rfl),(nb rfl ⟨.i,.i,.s,.oe,⟨⟩⟩),(bu uf),(nb rfl ⟨.i,.i,.s,.oe,⟨⟩⟩),(bu abV abV.len abV.len),⟨⟩⟩)
 refine .d ?_
 obtain ⟨⟨abI,QP⟩,asE,h⟩:=bd h
 refine cb (cC (g1000:=g1000) asE) [0] ?_
 refine sV h (λasF h=>?_) (λasF h=>?_)
 refine .Md [(0,true),(2,true)] 1 [(3,false),(4,false),(5,true),(6,false)] 3 [(1,false),(4,false),(5,true),(6,false)] aKR ?_
 refine ⟨rfl,_,rfl,?_,?_⟩
 refine ⟨_,cJ,?_⟩
 obtain ⟨⟨WD,BJ⟩,Xf,h⟩:=bd h
 refine bz (OP _ _ Xf _) [0] λaCR Xg=>?_
 refine ⟨rfl,(bk h λWE I8 h=>(.move ⟨rfl,rfl,DR.jbd rfl Xg.len I8,rfl,_,_,rfl,ao,(.ab 5 0 3 4 _ (λ_=>abJ (oZ).po) λaiv=>?_)⟩))⟩
 have GA:=(DR.jnq (DR.cp (ae.bx (x:=(ae.mk kc ke kf jv)) (F0:=aiv) oZ) DR.dL) Xg I8)
 exact lg (ER _ _ _ _ _ _ _ _ _ _ _ h BR _ uf GA.self rfl rfl) (tk [0,1,2,3,5] ⟨.p,.b,.p,.p,⟨⟩⟩ ⟨(fM rfl),(nb rfl ⟨.i,.i,.s,.oe,⟨⟩⟩),(bu uf),(nb rfl ⟨.i,.i,.s,.oe,⟨⟩⟩),(bu GA GA.len GA.len),⟨⟩⟩)
 obtain ⟨⟨WD,BJ⟩,Xf,h⟩:=bd h
 refine bz (OP _ _ Xf _) [0] λaCR Xg=>?_
 refine ⟨rfl,_,cJ,(bk h λWE I8 h=>(.move ⟨rfl,rfl,DR.jbd rfl Xg.len I8,rfl,_,_,rfl,ao,(.ab 6 0 3 4 _ (λ_=>abJ (oZ).po) λaiv=>?_)⟩))⟩
 have GA:=(DR.jnq (DR.cp (ae.bx (x:=(ae.mk kc ke kf jv)) (F0:=aiv) oZ) DR.dL) Xg I8)
 exact lg (ER _ _ _ _ _ _ _ _ _ _ _ h BR _ uf GA.self rfl rfl) (tk [0,1,2,3,6] ⟨.p,.b,.p,.p,⟨⟩⟩ ⟨(fM rfl),(nb rfl ⟨.i,.i,.s,.oe,⟨⟩⟩),(bu uf),(nb rfl ⟨.i,.i,.s,.oe,⟨⟩⟩),(bu GA GA.len GA.len),⟨⟩⟩)
 refine .d ⟨rfl,_,rfl,rfl,_,_,rfl,ao,?_⟩
 obtain rfl:=si h
 replace h:=W9
 obtain rfl:=si h
 exact ⟨rfl,_,rfl,(en [0,4] ⟨QS,oZ.self,rfl,rfl⟩ (.aI ⟨.i,.i,.s,.oe,⟨⟩⟩) ⟨(ob rfl ⟨.l,.i,.i,.b,⟨⟩⟩),(bu oZ oZ.len oZ.len),⟨⟩⟩)⟩
 exact ct ⟨_,_,_,_,_,_,_,_,_,BR,QS,uf,oZ,si h,rfl,rfl⟩ (tk [0,1,2,3,4] ⟨.p,.p,⟨⟩⟩ ⟨(fM rfl),(nb rfl ⟨.i,.i,.s,.oe,⟨⟩⟩),(bu uf),(nb rfl ⟨.i,.i,.s,.oe,⟨⟩⟩),(bu oZ),⟨⟩⟩)
 rintro _ _ ⟨We,Wf,BC,Wg,LV,Wh,Wi,Wj,Ip,aiu,abR,aGR,abW,rfl,rfl,rfl⟩
 replace h:=W9
 refine .d ⟨rfl,_,rfl,rfl,_,_,rfl,ao,?_⟩
 obtain rfl:=si h
 exact ⟨rfl,_,rfl,(en [0,4] ⟨abR,abW.self,rfl,rfl⟩ (.aI ⟨.i,.i,.s,.oe,⟨⟩⟩) ⟨(ob rfl ⟨.l,.i,.i,.b,⟨⟩⟩),(bu abW abW.len abW.len),⟨⟩⟩)⟩
 intro F0 F1 F2 nK nL hF2 a1 uO uP uQ sS nC kc ke kf jv o h
 exact .mk F2 hF2 F1 nL F0 nK a1 uO uP uQ sS nC kc ke kf jv o h
 intro _ aiw a0 r h g1000
 refine eT Tryz.func225 ?_
 refine .d (.d ⟨(kg []),(λi h=>absurd h (aIs i)),(.d (bk h λafe aix h=>(cb (bf (g1000:=g1000) aix) [0] ?_)))⟩)
 refine .d (.d ?_)
 obtain ⟨⟨aff,EM⟩,aiy,h⟩:=bd h
 refine cb (aD (g1000:=g1000) aiy) [0] ?_
 refine sV h (λaiz h=>?_) (λaiz h=>?_)
 refine .d ?_
 obtain rfl:=si h
 have OQ:DR ae.D 0 (kg []) ([]:List ae):=DR.dL
 exact en [0,1] ⟨_,OQ.self,rfl,rfl⟩ (.oe) ⟨(ob rfl ⟨.l,.i,.i,.b,⟨⟩⟩),(bu OQ OQ.len OQ.len),⟨⟩⟩
 obtain ⟨OK,h,Xh⟩:=bd h
 refine .cut (λσ η=>∃IP,∃IQ,∃IS,∃IU,∃zT,∃OR:Nat->List PV,DR ae.D zT.length OR zT/\.inl (IP,IQ,IS,IU,zT)=OK/\σ=[(3,.own 1 0 0 zT.length)]/\η=[.row g1000 4 1 67 (λ_=>[sl 4 af.cells IP,.int .i64 IQ,.int .i64 IS,.bool IU]),.row 0 4 zT.length 29 OR]) ?_ ?_
 have OS:DR ae.D 0 (kg []) ([]:List ae):=DR.dL
 have aiA:=aiw _ _ _ _ _ _ h
 refine le (gM.rec (motive:=λoC oD oE mU kM afh _=>∀Ja:Nat->List PV,DR ae.D kM.length Ja kM->OK=afh->aQ _ _ [(0,.aC 0 g1000 0 0),(3,.own 1 0 0 kM.length)] [.row g1000 4 1 67 (λ_=>[sl 4 af.cells oC,.int .i64 oD,.int .i64 oE,.bool mU]),.row 0 4 kM.length 29 Ja]) ?_ aiA (kg []) OS.self rfl) (tk [0,1] ⟨.p,.oe,⟨⟩⟩ ⟨(fM rfl),(bu OS OS.len OS.len),⟨⟩⟩)
 intro _ aiB _ _ oC oD oE mU kM afh h aiC Ja xV  aiD
 subst aiD
 refine aQ.round (.d (.d ⟨rfl,rfl,rfl,_,rfl,(jj h (λaiE h=>?_) (λaiE h=>?_))⟩))
 refine .d ?_
 obtain ⟨⟨wm,ON⟩,aiF,h⟩:=bd h
 refine bz (aiB _ _ aiF _) [0] λaGk OT=>?_
 refine ⟨_,dx,(bk h λBP w6 h=>(.fx ⟨rfl,rfl,(λ_ _=>rfl),DR.xA xV w6,BP.length,dV Ja kM.length [.int .i64 wm.aj,.int .i64 wm.aP,.str wm.aq,.own 2 0 0 wm.ah.length],DR.ln xV w6,dE (DR.ln xV w6) ⟨.same _,.same _,.same _,.same _,trivial⟩,(.d (.d ?_))⟩))⟩
 obtain ⟨⟨OO,EO⟩,aiG,h⟩:=bd h
 refine cb (aD (g1000:=g1000) aiG) [0] ?_
 refine sV h (λaiH h=>?_) (λaiH h=>?_)
 refine .d ?_
 obtain rfl:=si h
 replace h:=Xh
 obtain rfl:=si h
 refine .ab 1 kM.length 3 2 _ (λ_=>rT (DR.lq xV w6) (OT).po) λasG=>?_
 have afi:=DR.jE xV w6 (ae.bx (x:=wm) (F0:=asG) OT)
 exact en [0,1] ⟨_,afi.self,rfl,rfl⟩ (.oe) ⟨(ob rfl ⟨.l,.i,.i,.b,⟨⟩⟩),(bu afi),⟨⟩⟩
 refine bk h λwo aiI h=>(cb (bf (g1000:=g1000) aiI) [0] ?_)
 refine .ab 1 kM.length 3 2 _ (λ_=>rT (DR.lq xV w6) (OT).po) λasH=>?_
 have afj:=DR.jE xV w6 (ae.bx (x:=wm) (F0:=asH) OT)
 exact lg (aiC _ _ _ _ _ _ h _ afj rfl) (tk [0,1] ⟨.p,.oe,⟨⟩⟩ ⟨(fM rfl),(bu afj),⟨⟩⟩)
 exact ct ⟨_,_,_,_,_,Ja,xV,si h,rfl,rfl⟩ (tk [0,1] ⟨.oe,⟨⟩⟩ ⟨(fM rfl),(bu xV),⟨⟩⟩)
 rintro _ _ ⟨IP,IQ,IS,IU,zT,OR,afk,rfl,rfl,rfl⟩
 replace h:=Xh
 refine .d ?_
 obtain rfl:=si h
 exact en [0,1] ⟨OR,afk.self,rfl,rfl⟩ (.oe) ⟨(ob rfl ⟨.l,.i,.i,.b,⟨⟩⟩),(bu afk),⟨⟩⟩
 intro F0 F1 nK nL oC oD oE mU kM o h
 exact .mk F1 nL F0 nK oC oD oE mU kM o h
 intro _ _ rU Me a0 r h g1000
 refine eT Tryz.func54 ?_
 refine .d (.d ⟨rfl,rfl,rfl,_,rfl,(.d ?_)⟩)
 obtain ⟨⟨Au,abv⟩,asI,h⟩:=bd h
 refine bz (Me _ _ asI _) [0] λaiJ zd=>?_
 refine ⟨rfl,_,_,rfl,ao,(.d (.d ⟨rfl,rfl,rfl,_,rfl,(sV h (λasJ h=>?_) (λasJ h=>?_))⟩))⟩
 refine .t (.t (.t (.t (.t (.t (.t (.t (.d ⟨rfl,_,rfl,rfl,_,_,rfl,ao,?_⟩))))))))
 exact aKd
 refine .f ?_
 obtain ⟨⟨aqP,uJ⟩,asK,h⟩:=bd h
 refine cb (cC (g1000:=g1000) asK) [0] ?_
 refine .f (.f (jj h (λasL h=>?_) (λasL h=>?_)))
 refine .t (.t (.t (.t (.d ⟨rfl,_,rfl,rfl,_,_,rfl,ao,?_⟩))))
 exact aKd
 refine ⟨rfl,_,rfl,(.f (bk h λaqQ asM h=>(R9 (lI asM) ⟨.aI ⟨.i,.i,.s,(.rd zd),⟨⟩⟩,⟨⟩⟩ (.f (.f (jj h (λasN h=>?_) (λasN h=>?_)))))))⟩
 refine .d ⟨rfl,_,rfl,rfl,_,_,rfl,ao,?_⟩
 exact aKd
 refine .d ⟨rfl,rfl,rfl,_,rfl,rfl,rfl,rfl,_,_,rfl,ao,(.d (.d ⟨rfl,rfl,rfl,_,rfl,(sE h (λasO h=>?_) (λasO h=>?_))⟩))⟩
 refine .t ⟨rfl,(.t ⟨rfl,(.t ⟨rfl,_,rfl,(.t (.t (bk h λah1 afl h=>⟨bn afl,_,(ba afl).trans (af.aO ah1),(.t (.t (.t (.t (sE h (λasP h=>?_) (λasP h=>?_))))))⟩)))⟩)⟩)⟩
 refine .t ?_
 obtain ⟨⟨aqR,ah2⟩,asQ,h⟩:=bd h
 refine cb (aD (g1000:=g1000) asQ) [0] ?_
 refine .t (sV h (λasR h=>?_) (λasR h=>?_))
 refine .d (.float [(0,true),(1,true),(2,true),(3,false),(4,false),(5,true),(6,false)] aKR ?_)
 refine ⟨rfl,rfl,_,rfl,?_⟩
 obtain ⟨⟨ah3,aqS⟩,asS,h⟩:=bd h
 refine bz (ft (g1000:=g1000) asS) [0] λaGS asT=>?_
 refine ⟨rfl,rfl,_,cJ,rfl,rfl,rfl,_,_,rfl,ao,?_⟩
 obtain rfl:=si h
 refine ⟨rfl,_,rfl,(.ab 5 0 3 4 _ (λ_=>iB (asT).po) λaCS=>?_)⟩
 have abX:=(DR.cp (ae.bx (x:=ah3) (F0:=aCS) asT) DR.dL)
 exact en [0,5] ⟨_,abX.self,rfl,rfl⟩ (.aI ⟨.i,.i,.s,.oe,⟨⟩⟩) ⟨(ob rfl ⟨.l,.i,.i,.b,⟨⟩⟩),(bu abX abX.len abX.len),⟨⟩⟩
 refine .d (.float [(0,true),(1,true),(2,false),(3,false),(4,true),(5,false)] aKR ?_)
 refine ⟨rfl,_,rfl,?_⟩
 obtain ⟨⟨ah4,Ii⟩,asU,h⟩:=bd h
 refine bz (rU _ _ asU _) [0] λaGT asV=>?_
 refine ⟨rfl,_,cJ,rfl,_,_,rfl,ao,?_⟩
 obtain rfl:=si h
 refine ⟨rfl,_,rfl,(.ab 5 0 3 2 _ (λ_=>iB (zd).po) λaCT=>(.ab 5 1 3 4 _ (λ_=>iB (asV).po) λaiK=>?_))⟩
 have abY:=(DR.cp (ae.bx (x:=Au) (F0:=aCT) zd) (DR.cp (ae.bx (x:=ah4) (F0:=aiK) asV) DR.dL))
 exact en [0,5] ⟨_,abY.self,rfl,rfl⟩ (.aI ⟨.i,.i,.s,.oe,⟨⟩⟩) ⟨(ob rfl ⟨.l,.i,.i,.b,⟨⟩⟩),(bu abY abY.len abY.len),⟨⟩⟩
 refine .f (.f (.f (.d (.float [(0,true),(1,true),(2,false),(3,false),(4,true),(5,false)] aKR ?_))))
 refine ⟨rfl,_,rfl,?_⟩
 obtain ⟨⟨ah5,aqT⟩,asW,h⟩:=bd h
 refine bz (rU _ _ asW _) [0] λaGU asX=>?_
 refine ⟨rfl,_,cJ,rfl,_,_,rfl,ao,?_⟩
 obtain rfl:=si h
 refine ⟨rfl,_,rfl,(.ab 5 0 3 2 _ (λ_=>iB (zd).po) λaCU=>(.ab 5 1 3 4 _ (λ_=>iB (asX).po) λaCV=>?_))⟩
 have abZ:=(DR.cp (ae.bx (x:=Au) (F0:=aCU) zd) (DR.cp (ae.bx (x:=ah5) (F0:=aCV) asX) DR.dL))
 exact en [0,5] ⟨_,abZ.self,rfl,rfl⟩ (.aI ⟨.i,.i,.s,.oe,⟨⟩⟩) ⟨(ob rfl ⟨.l,.i,.i,.b,⟨⟩⟩),(bu abZ abZ.len abZ.len),⟨⟩⟩
 refine .f (.f (.f (.f (.f (.f (.f (.f (.f (.f (.f (.f (.f (.d (.float [(0,true),(1,true),(2,false),(3,false),(4,true),(5,false)] aKR ?_))))))))))))))
 refine ⟨rfl,_,rfl,?_⟩
 obtain ⟨⟨ah6,aqU⟩,asY,h⟩:=bd h
 refine bz (rU _ _ asY _) [0] λaGV asZ=>?_
 refine ⟨rfl,_,cJ,rfl,_,_,rfl,ao,?_⟩
 obtain rfl:=si h
 refine ⟨rfl,_,rfl,(.ab 5 0 3 2 _ (λ_=>iB (zd).po) λaCW=>(.ab 5 1 3 4 _ (λ_=>iB (asZ).po) λaCX=>?_))⟩
 have ab0:=(DR.cp (ae.bx (x:=Au) (F0:=aCW) zd) (DR.cp (ae.bx (x:=ah6) (F0:=aCX) asZ) DR.dL))
 exact en [0,5] ⟨_,ab0.self,rfl,rfl⟩ (.aI ⟨.i,.i,.s,.oe,⟨⟩⟩) ⟨(ob rfl ⟨.l,.i,.i,.b,⟨⟩⟩),(bu ab0 ab0.len ab0.len),⟨⟩⟩
 intro _ _ _ rU Me Mf a0 r h g1000
 refine eT Tryz.func110 ?_
 refine .d (.d ?_)
 obtain ⟨⟨abw,aqV⟩,as0,h⟩:=bd h
 refine bz (Mf _ _ as0 _) [0] λaCY ab1=>?_
 refine ⟨rfl,_,_,rfl,ao,(.d (.d ?_))⟩
 obtain ⟨⟨aqW,ah7⟩,as1,h⟩:=bd h
 refine cb (aD (g1000:=g1000) as1) [0] ?_
 refine jj h (λas2 h=>?_) (λas2 h=>?_)
 refine .d ⟨rfl,_,rfl,rfl,_,_,rfl,ao,?_⟩
 obtain rfl:=si h
 exact ⟨rfl,_,rfl,(en [0,2] ⟨aCY,ab1.self,rfl,rfl⟩ (.aI ⟨.i,.i,.s,.oe,⟨⟩⟩) ⟨(ob rfl ⟨.l,.i,.i,.b,⟨⟩⟩),(bu ab1),⟨⟩⟩)⟩
 refine .d ?_
 obtain ⟨⟨ah8,aqX⟩,as3,h⟩:=bd h
 refine bz (rU _ _ as3 _) [0] λaGW as4=>?_
 refine ⟨rfl,_,_,rfl,ao,(.d (bk h λIj as5 h=>(cb (bf (g1000:=g1000) as5) [0] ?_)))⟩
 refine .d (.float [(0,true),(1,true),(2,true),(3,false),(4,false),(5,true),(6,false)] aKR ?_)
 refine ⟨rfl,_,rfl,rfl,_,rfl,?_⟩
 obtain ⟨⟨ah9,aqY⟩,as6,h⟩:=bd h
 refine bz (Me _ _ as6 _) [0] λaGX as7=>?_
 refine ⟨rfl,rfl,_,cJ,rfl,_,_,rfl,ao,?_⟩
 obtain rfl:=si h
 refine ⟨rfl,_,rfl,(.ab 7 0 3 2 _ (λ_=>iB (ab1).po) λaCZ=>(.ab 7 1 3 4 _ (λ_=>iB (as4).po) λaC0=>(.ab 7 2 3 6 _ (λ_=>iB (as7).po) λaC1=>?_)))⟩
 have ab2:=(DR.cp (ae.bx (x:=abw) (F0:=aCZ) ab1) (DR.cp (ae.bx (x:=ah8) (F0:=aC0) as4) (DR.cp (ae.bx (x:=ah9) (F0:=aC1) as7) DR.dL)))
 exact en [0,7] ⟨_,ab2.self,rfl,rfl⟩ (.aI ⟨.i,.i,.s,.oe,⟨⟩⟩) ⟨(ob rfl ⟨.l,.i,.i,.b,⟨⟩⟩),(bu ab2 ab2.len ab2.len),⟨⟩⟩
 intro _ _ Mf aiL a0 r h g1000
 refine eT Tryz.func176 ?_
 refine .d (.d ?_)
 obtain ⟨⟨abx,aqZ⟩,as8,h⟩:=bd h
 refine bz (aiL _ _ as8 _) [0] λaC2 ab3=>?_
 refine ⟨rfl,_,_,rfl,ao,(.d (.d ?_))⟩
 obtain ⟨⟨aq0,aia⟩,as9,h⟩:=bd h
 refine cb (aD (g1000:=g1000) as9) [0] ?_
 refine sV h (λata h=>?_) (λata h=>?_)
 refine .d (.float [(0,true),(1,true),(2,false),(3,false),(4,true),(5,false)] aKR ?_)
 refine ⟨rfl,_,rfl,?_⟩
 obtain ⟨⟨aib,aq1⟩,atb,h⟩:=bd h
 refine bz (Mf _ _ atb _) [0] λaGY atc=>?_
 refine ⟨rfl,_,cJ,rfl,_,_,rfl,ao,?_⟩
 obtain rfl:=si h
 refine ⟨rfl,_,rfl,(.ab 5 0 3 2 _ (λ_=>iB (ab3).po) λaC3=>(.ab 5 1 3 4 _ (λ_=>iB (atc).po) λaC4=>?_))⟩
 have ab4:=(DR.cp (ae.bx (x:=abx) (F0:=aC3) ab3) (DR.cp (ae.bx (x:=aib) (F0:=aC4) atc) DR.dL))
 exact en [0,5] ⟨_,ab4.self,rfl,rfl⟩ (.aI ⟨.i,.i,.s,.oe,⟨⟩⟩) ⟨(ob rfl ⟨.l,.i,.i,.b,⟨⟩⟩),(bu ab4 ab4.len ab4.len),⟨⟩⟩
 refine .d ⟨rfl,_,rfl,rfl,_,_,rfl,ao,?_⟩
 obtain rfl:=si h
 exact ⟨rfl,_,rfl,(en [0,2] ⟨aC2,ab3.self,rfl,rfl⟩ (.aI ⟨.i,.i,.s,.oe,⟨⟩⟩) ⟨(ob rfl ⟨.l,.i,.i,.b,⟨⟩⟩),(bu ab3),⟨⟩⟩)⟩
 intro _ _ atd aiM a0 r h g1000
 refine eT Tryz.func208 ?_
 refine .d (.d ?_)
 obtain ⟨⟨VO,VP⟩,ate,h⟩:=bd h
 refine bz (aiM _ _ ate _) [0] λaC5 atf=>?_
 refine ⟨rfl,_,_,rfl,ao,?_⟩
 obtain ⟨atg,h,ath⟩:=bd h
 refine .cut (λσ η=>∃VQ,∃VR,∃VS,∃VT,∃LR,∃VU,∃VV,∃VW,∃Ik,∃aiN:Nat->List PV,∃ab5:Nat->List PV,DR ae.D LR.length aiN LR/\DR ae.D Ik.length ab5 Ik/\(VQ,VR,VS,VT,LR,VU,VV,VW,Ik)=atg/\σ=[(2,.aC 1 0 0 0),(3,.aC 3 0 0 0)]/\η=[.row g1000 4 1 67 (λ_=>[sl 4 af.cells VQ,.int .i64 VR,.int .i64 VS,.bool VT]),.row 0 4 1 29 (λ_=>[.int .i64 0,.int .i64 0,.str [],.own 2 0 0 LR.length]),.row 0 4 LR.length 29 aiN,.row 0 4 1 29 (λ_=>[.int .i64 VU,.int .i64 VV,.str VW,.own 4 0 0 Ik.length]),.row 0 4 Ik.length 29 ab5]) ?_ ?_
 have ati:=atd _ _ _ _ _ _ _ _ _ _ h
 refine le (iQ.rec (motive:=λwN wO wP wQ rP tY tZ ua qT atj _=>∀Xi:Nat->List PV,∀ab6:Nat->List PV,DR ae.D rP.length Xi rP->DR ae.D qT.length ab6 qT->atg=atj->aQ _ _ [(0,.aC 0 g1000 0 0),(2,.aC 1 0 0 0),(3,.aC 3 0 0 0)] [.row g1000 4 1 67 (λ_=>[sl 4 af.cells wN,.int .i64 wO,.int .i64 wP,.bool wQ]),.row 0 4 1 29 (λ_=>[.int .i64 0,.int .i64 0,.str [],.own 2 0 0 rP.length]),.row 0 4 rP.length 29 Xi,.row 0 4 1 29 (λ_=>[.int .i64 tY,.int .i64 tZ,.str ua,.own 4 0 0 qT.length]),.row 0 4 qT.length 29 ab6]) ?_ ati (λ_=>[]) aC5 ((DR.nil (D:=ae.D)).self) atf rfl) (tk [0,1,6,3,2] ⟨.p,.p,.p,⟨⟩⟩ ⟨(fM rfl),(nb rfl ⟨.i,.i,.s,.g,⟨⟩⟩),gh,(nb rfl ⟨.i,.i,.s,.oe,⟨⟩⟩),(bu atf),⟨⟩⟩)
 intro _ atk _ _ wN wO wP wQ rP tY tZ ua qT atj h atl Xi ab6 ab7 ab8  atm
 subst atm
 refine aQ.round (.d (.d ?_))
 obtain ⟨⟨L0,wR⟩,Xj,h⟩:=bd h
 refine cb (aD (g1000:=g1000) Xj) [0] ?_
 refine sV h (λatn h=>?_) (λatn h=>?_)
 refine .float [(0,true),(1,true),(2,false),(3,false),(4,true),(5,false)] aKR ?_
 refine ⟨rfl,_,rfl,?_⟩
 obtain ⟨⟨Wx,xR⟩,ato,h⟩:=bd h
 refine bz (atk _ _ ato _) [0] λaGZ atp=>?_
 refine ⟨rfl,_,cJ,rfl,_,_,rfl,ao,(.ab 6 0 3 4 _ (λ_=>iB (ab8).po) λaC6=>(.ab 6 1 3 5 _ (λ_=>iB (atp).po) λaiO=>?_))⟩
 have GB:=(DR.cp (ae.bx (x:=(ae.mk tY tZ ua qT)) (F0:=aC6) ab8) (DR.cp (ae.bx (x:=Wx) (F0:=aiO) atp) DR.dL))
 exact lg (atl _ _ _ _ _ _ _ _ _ _ h Xi _ ab7 GB.self rfl) (tk [0,1,2,3,6] ⟨.p,.p,.p,⟨⟩⟩ ⟨(fM rfl),(nb rfl ⟨.i,.i,.s,.oe,⟨⟩⟩),(bu ab7),(nb rfl ⟨.i,.i,.s,.oe,⟨⟩⟩),(bu GB GB.len GB.len),⟨⟩⟩)
 exact ct ⟨_,_,_,_,_,_,_,_,_,Xi,ab6,ab7,ab8,si h,rfl,rfl⟩ (tk [0,1,2,3,4] ⟨.p,.p,⟨⟩⟩ ⟨(fM rfl),(nb rfl ⟨.i,.i,.s,.oe,⟨⟩⟩),(bu ab7),(nb rfl ⟨.i,.i,.s,.oe,⟨⟩⟩),(bu ab8),⟨⟩⟩)
 rintro _ _ ⟨VQ,VR,VS,VT,LR,VU,VV,VW,Ik,aiN,ab5,aG0,ab9,rfl,rfl,rfl⟩
 replace h:=ath
 refine .d ⟨rfl,_,rfl,rfl,_,_,rfl,ao,?_⟩
 obtain rfl:=si h
 exact ⟨rfl,_,rfl,(en [0,4] ⟨ab5,ab9.self,rfl,rfl⟩ (.aI ⟨.i,.i,.s,.oe,⟨⟩⟩) ⟨(ob rfl ⟨.l,.i,.i,.b,⟨⟩⟩),(bu ab9 ab9.len ab9.len),⟨⟩⟩)⟩
 intro F0 F1 nK nL wN wO wP wQ rP tY tZ ua qT o h
 exact .mk F1 nL F0 nK wN wO wP wQ rP tY tZ ua qT o h
 intro _ _ atq Mg a0 r h g1000
 refine eT Tryz.func222 ?_
 refine .d (.d ?_)
 obtain ⟨⟨VX,VY⟩,atr,h⟩:=bd h
 refine bz (Mg _ _ _ atr _) [0] λaC7 ats=>?_
 refine ⟨rfl,_,_,rfl,ao,?_⟩
 obtain ⟨att,h,atu⟩:=bd h
 refine .cut (λσ η=>∃VZ,∃V0,∃BA,∃V1,∃LS,∃V2,∃V3,∃V4,∃Il,∃aiP:Nat->List PV,∃aca:Nat->List PV,DR ae.D LS.length aiP LS/\DR ae.D Il.length aca Il/\(VZ,V0,BA,V1,LS,V2,V3,V4,Il)=att/\σ=[(2,.aC 1 0 0 0),(3,.aC 3 0 0 0)]/\η=[.row g1000 4 1 67 (λ_=>[sl 4 af.cells VZ,.int .i64 V0,.int .i64 BA,.bool V1]),.row 0 4 1 29 (λ_=>[.int .i64 0,.int .i64 0,.str [],.own 2 0 0 LS.length]),.row 0 4 LS.length 29 aiP,.row 0 4 1 29 (λ_=>[.int .i64 V2,.int .i64 V3,.str V4,.own 4 0 0 Il.length]),.row 0 4 Il.length 29 aca]) ?_ ?_
 have atv:=atq _ _ _ _ _ _ _ _ _ _ h
 refine le (im.rec (motive:=λwT kL wU wV rQ ub uc ud qU atw _=>∀Xk:Nat->List PV,∀acb:Nat->List PV,DR ae.D rQ.length Xk rQ->DR ae.D qU.length acb qU->att=atw->aQ _ _ [(0,.aC 0 g1000 0 0),(2,.aC 1 0 0 0),(3,.aC 3 0 0 0)] [.row g1000 4 1 67 (λ_=>[sl 4 af.cells wT,.int .i64 kL,.int .i64 wU,.bool wV]),.row 0 4 1 29 (λ_=>[.int .i64 0,.int .i64 0,.str [],.own 2 0 0 rQ.length]),.row 0 4 rQ.length 29 Xk,.row 0 4 1 29 (λ_=>[.int .i64 ub,.int .i64 uc,.str ud,.own 4 0 0 qU.length]),.row 0 4 qU.length 29 acb]) ?_ atv (λ_=>[]) aC7 ((DR.nil (D:=ae.D)).self) ats rfl) (tk [0,1,6,3,2] ⟨.p,.p,.p,⟨⟩⟩ ⟨(fM rfl),(nb rfl ⟨.i,.i,.s,.g,⟨⟩⟩),gh,(nb rfl ⟨.i,.i,.s,.oe,⟨⟩⟩),(bu ats),⟨⟩⟩)
 intro _ atx _ _ wT kL wU wV rQ ub uc ud qU atw h aty Xk acb acd ace  atz
 subst atz
 refine aQ.round (.d (.d ?_))
 obtain ⟨⟨abC,qq⟩,atB,h⟩:=bd h
 refine cb (aD (g1000:=g1000) atB) [0] ?_
 refine sV h (λatC h=>?_) (λatC h=>?_)
 refine .float [(0,true),(1,true),(2,false),(3,false),(4,true),(5,false)] aKR ?_
 refine ⟨rfl,_,rfl,?_⟩
 obtain ⟨⟨Wy,DX⟩,atD,h⟩:=bd h
 refine bz (atx _ _ _ atD _) [0] λaG1 atF=>?_
 refine ⟨rfl,_,cJ,rfl,_,_,rfl,ao,(.ab 6 0 3 4 _ (λ_=>iB (ace).po) λaC8=>(.ab 6 1 3 5 _ (λ_=>iB (atF).po) λaC9=>?_))⟩
 have acf:=(DR.cp (ae.bx (x:=(ae.mk ub uc ud qU)) (F0:=aC8) ace) (DR.cp (ae.bx (x:=Wy) (F0:=aC9) atF) DR.dL))
 exact lg (aty _ _ _ _ _ _ _ _ _ _ h Xk _ acd acf.self rfl) (tk [0,1,2,3,6] ⟨.p,.p,.p,⟨⟩⟩ ⟨(fM rfl),(nb rfl ⟨.i,.i,.s,.oe,⟨⟩⟩),(bu acd),(nb rfl ⟨.i,.i,.s,.oe,⟨⟩⟩),(bu acf acf.len acf.len),⟨⟩⟩)
 exact ct ⟨_,_,_,_,_,_,_,_,_,Xk,acb,acd,ace,si h,rfl,rfl⟩ (tk [0,1,2,3,4] ⟨.p,.p,⟨⟩⟩ ⟨(fM rfl),(nb rfl ⟨.i,.i,.s,.oe,⟨⟩⟩),(bu acd),(nb rfl ⟨.i,.i,.s,.oe,⟨⟩⟩),(bu ace),⟨⟩⟩)
 rintro _ _ ⟨VZ,V0,BA,V1,LS,V2,V3,V4,Il,aiP,aca,aG2,acg,rfl,rfl,rfl⟩
 replace h:=atu
 refine .d ⟨rfl,_,rfl,rfl,_,_,rfl,ao,?_⟩
 obtain rfl:=si h
 exact ⟨rfl,_,rfl,(en [0,4] ⟨aca,acg.self,rfl,rfl⟩ (.aI ⟨.i,.i,.s,.oe,⟨⟩⟩) ⟨(ob rfl ⟨.l,.i,.i,.b,⟨⟩⟩),(bu acg acg.len acg.len),⟨⟩⟩)⟩
 intro F0 F1 nK nL wT kL wU wV rQ ub uc ud qU o h
 exact .mk F1 nL F0 nK wT kL wU wV rQ ub uc ud qU o h
 intro _ _ _ Mg atG GC a0 a1 r h g1000
 refine eT Tryz.func232 ?_
 refine .d (.d (.d (sD h (λatH h=>?_) (λatH h=>?_))))
 refine .d ?_
 obtain ⟨⟨V5,aq2⟩,atI,h⟩:=bd h
 refine bz (GC _ _ atI _) [0] λaDa atJ=>?_
 refine ⟨rfl,_,_,rfl,ao,?_⟩
 obtain rfl:=si h
 exact ⟨rfl,_,rfl,(en [0,2] ⟨aDa,atJ.self,rfl,rfl⟩ (.aI ⟨.i,.i,.s,.oe,⟨⟩⟩) ⟨(ob rfl ⟨.l,.i,.i,.b,⟨⟩⟩),(bu atJ),⟨⟩⟩)⟩
 refine .d ?_
 obtain ⟨⟨V6,Av⟩,atK,h⟩:=bd h
 refine bz (Mg _ _ _ atK _) [0] λaDb atL=>?_
 refine ⟨rfl,_,_,rfl,ao,?_⟩
 obtain ⟨aby,h,OU⟩:=bd h
 refine .cut (λσ η=>∃V7,∃V8,∃BB,∃V9,∃LU,∃Wa,∃Wb,∃Wc,∃Im,∃aiQ:Nat->List PV,∃ach:Nat->List PV,DR ae.D LU.length aiQ LU/\DR ae.D Im.length ach Im/\.inl (V7,V8,BB,V9,LU,Wa,Wb,Wc,Im)=aby/\σ=[(4,.aC 1 0 0 0),(5,.aC 3 0 0 0)]/\η=[.row g1000 4 1 67 (λ_=>[sl 4 af.cells V7,.int .i64 V8,.int .i64 BB,.bool V9]),.row 0 4 1 29 (λ_=>[.int .i64 0,.int .i64 0,.str [],.own 2 0 0 LU.length]),.row 0 4 LU.length 29 aiQ,.row 0 4 1 29 (λ_=>[.int .i64 Wa,.int .i64 Wb,.str Wc,.own 4 0 0 Im.length]),.row 0 4 Im.length 29 ach]) ?_ ?_
 have atM:=atG _ _ _ _ _ _ _ _ _ _ _ h
 refine le (fK.rec (motive:=λatN uL uM uN sR rR pD pE pF nR atO _=>∀Xl:Nat->List PV,∀Mh:Nat->List PV,DR ae.D rR.length Xl rR->DR ae.D nR.length Mh nR->a1=atN->aby=atO->aQ _ _ [(0,.aC 0 g1000 0 0),(1,.int .i64 a1),(4,.aC 1 0 0 0),(5,.aC 3 0 0 0)] [.row g1000 4 1 67 (λ_=>[sl 4 af.cells uL,.int .i64 uM,.int .i64 uN,.bool sR]),.row 0 4 1 29 (λ_=>[.int .i64 0,.int .i64 0,.str [],.own 2 0 0 rR.length]),.row 0 4 rR.length 29 Xl,.row 0 4 1 29 (λ_=>[.int .i64 pD,.int .i64 pE,.str pF,.own 4 0 0 nR.length]),.row 0 4 nR.length 29 Mh]) ?_ atM (λ_=>[]) aDb ((DR.nil (D:=ae.D)).self) atL rfl rfl) (tk [0,1,6,3,2] ⟨.p,.i,.p,.p,⟨⟩⟩ ⟨(fM rfl),(nb rfl ⟨.i,.i,.s,.g,⟨⟩⟩),gh,(nb rfl ⟨.i,.i,.s,.oe,⟨⟩⟩),(bu atL),⟨⟩⟩)
 intro _ atP _ _ atN uL uM uN sR rR pD pE pF nR atO h atQ Xl Mh aci vY acj atT
 subst acj
 subst atT
 refine aQ.round (.d (.d ⟨rfl,rfl,rfl,_,rfl,(jj h (λatU h=>?_) (λatU h=>?_))⟩))
 refine .d ?_
 obtain ⟨⟨QJ,vW⟩,atV,h⟩:=bd h
 refine cb (iG (g1000:=g1000) atV) [0] ?_
 refine ⟨rfl,_,_,rfl,ao,(.d ⟨rfl,rfl,_,rfl,(bk h λBI Xm h=>(cx (QT Xm) (.d (.d ⟨rfl,rfl,_,rfl,(sN h (λatW h=>?_) (λatW h=>?_))⟩))))⟩)⟩
 refine .t (.t (.t (.t (.t (.t (.t (.t (.d ⟨rfl,_,rfl,rfl,_,_,rfl,ao,?_⟩))))))))
 obtain rfl:=si h
 exact aJM
 refine .f (.f (sE h (λatX h=>?_) (λatX h=>?_)))
 refine .t (.t (.t (.t (.t (.d ⟨rfl,_,rfl,rfl,_,_,rfl,ao,?_⟩)))))
 obtain rfl:=si h
 exact aJM
 refine .f (bk h λL1 Xn h=>(cx (FK Xn) (.f (.f (.f (sN h (λatY h=>?_) (λatY h=>?_)))))))
 refine .d ⟨rfl,_,rfl,rfl,_,_,rfl,ao,?_⟩
 obtain rfl:=si h
 exact aJM
 refine .d ⟨rfl,rfl,rfl,_,rfl,rfl,rfl,rfl,_,_,rfl,ao,(.float [(0,true),(1,true),(2,true),(3,true),(4,true),(5,false),(6,false),(7,true),(8,false)] aKR ?_)⟩
 refine ⟨rfl,_,rfl,?_⟩
 obtain ⟨⟨Wz,DY⟩,atZ,h⟩:=bd h
 refine bz (atP _ _ _ atZ _) [0] λaG3 at1=>?_
 refine ⟨rfl,_,cJ,rfl,_,_,rfl,ao,(.ab 7 0 3 4 _ (λ_=>iB (vY).po) λaDc=>(.ab 7 1 3 6 _ (λ_=>iB (at1).po) λaDd=>?_))⟩
 have ack:=(DR.cp (ae.bx (x:=(ae.mk pD pE pF nR)) (F0:=aDc) vY) (DR.cp (ae.bx (x:=Wz) (F0:=aDd) at1) DR.dL))
 exact lg (atQ _ _ _ _ _ _ _ _ _ _ _ h Xl _ aci ack.self rfl rfl) (tk [0,1,2,3,7] ⟨.p,.i,.p,.p,⟨⟩⟩ ⟨(fM rfl),(nb rfl ⟨.i,.i,.s,.oe,⟨⟩⟩),(bu aci),(nb rfl ⟨.i,.i,.s,.oe,⟨⟩⟩),(bu ack ack.len ack.len),⟨⟩⟩)
 exact ct ⟨_,_,_,_,_,_,_,_,_,Xl,Mh,aci,vY,si h,rfl,rfl⟩ (tk [0,1,2,3,4] ⟨.p,.p,⟨⟩⟩ ⟨(fM rfl),(nb rfl ⟨.i,.i,.s,.oe,⟨⟩⟩),(bu aci),(nb rfl ⟨.i,.i,.s,.oe,⟨⟩⟩),(bu vY),⟨⟩⟩)
 rintro _ _ ⟨V7,V8,BB,V9,LU,Wa,Wb,Wc,Im,aiQ,ach,aG4,acm,rfl,rfl,rfl⟩
 replace h:=OU
 refine .d ⟨rfl,_,rfl,rfl,_,_,rfl,ao,?_⟩
 obtain rfl:=si h
 exact ⟨rfl,_,rfl,(en [0,4] ⟨ach,acm.self,rfl,rfl⟩ (.aI ⟨.i,.i,.s,.oe,⟨⟩⟩) ⟨(ob rfl ⟨.l,.i,.i,.b,⟨⟩⟩),(bu acm acm.len acm.len),⟨⟩⟩)⟩
 intro F0 F1 nK nL a1 uL uM uN sR rR pD pE pF nR o h
 exact .mk F0 nK F1 nL a1 uL uM uN sR rR pD pE pF nR o h
 intro _ _ Mb GC a0 r h g1000
 refine eT Tryz.func244 ?_
 refine .d (.d (.d ?_))
 obtain ⟨⟨aq3,aic⟩,at2,h⟩:=bd h
 refine cb (aD (g1000:=g1000) at2) [0] ?_
 refine sV h (λat3 h=>?_) (λat3 h=>?_)
 refine .d ?_
 obtain ⟨⟨aid,aq4⟩,at4,h⟩:=bd h
 refine bz (GC _ _ at4 _) [0] λaG5 at6=>?_
 refine ⟨_,cJ,rfl,_,_,rfl,ao,?_⟩
 obtain rfl:=si h
 refine ⟨rfl,_,rfl,(.ab 3 0 3 2 _ (λ_=>iB (at6).po) λaDe=>?_)⟩
 have Mi:=(DR.cp (ae.bx (x:=aid) (F0:=aDe) at6) DR.dL)
 exact en [0,3] ⟨_,Mi.self,rfl,rfl⟩ (.aI ⟨.i,.i,.s,.oe,⟨⟩⟩) ⟨(ob rfl ⟨.l,.i,.i,.b,⟨⟩⟩),(bu Mi Mi.len Mi.len),⟨⟩⟩
 refine .d (.d ?_)
 obtain ⟨⟨aq5,aie⟩,at7,h⟩:=bd h
 refine cb (aD (g1000:=g1000) at7) [0] ?_
 refine sV h (λaua h=>?_) (λaua h=>?_)
 refine .d ?_
 obtain ⟨⟨aif,aq6⟩,aub,h⟩:=bd h
 refine bz (GC _ _ aub _) [0] λaG6 auc=>?_
 refine ⟨_,cJ,rfl,_,_,rfl,ao,?_⟩
 obtain rfl:=si h
 refine ⟨rfl,_,rfl,(.ab 3 0 3 2 _ (λ_=>iB (auc).po) λaDf=>?_)⟩
 have acn:=(DR.cp (ae.bx (x:=aif) (F0:=aDf) auc) DR.dL)
 exact en [0,3] ⟨_,acn.self,rfl,rfl⟩ (.aI ⟨.i,.i,.s,.oe,⟨⟩⟩) ⟨(ob rfl ⟨.l,.i,.i,.b,⟨⟩⟩),(bu acn acn.len acn.len),⟨⟩⟩
 refine .d ?_
 obtain ⟨⟨aq7,aq8⟩,aud,h⟩:=bd h
 refine bz (Mb _ _ _ aud _) [0] λaDg aue=>?_
 refine ⟨rfl,_,_,rfl,ao,?_⟩
 obtain rfl:=si h
 exact ⟨rfl,_,rfl,(en [0,2] ⟨aDg,aue.self,rfl,rfl⟩ (.aI ⟨.i,.i,.s,.oe,⟨⟩⟩) ⟨(ob rfl ⟨.l,.i,.i,.b,⟨⟩⟩),(bu aue),⟨⟩⟩)⟩
 intro _ _ _ _ lY Mj rU aiR a0 r h g1000
 refine eT Tryz.func224 ?_
 refine .d (.d ?_)
 obtain ⟨⟨Wk,Aw⟩,auf,h⟩:=bd h
 refine cb (iG (g1000:=g1000) auf) [0] ?_
 refine ⟨rfl,_,_,rfl,ao,(.d (.d ⟨rfl,rfl,rfl,_,rfl,(sV h (λaug h=>?_) (λaug h=>?_))⟩))⟩
 refine .d ⟨rfl,_,_,rfl,ao,?_⟩
 exact aJU
 obtain ⟨aDh,h,auh⟩:=bd h
 refine .cut (λσ η=>∃LW,∃LX,∃LY,∃LZ,∃Wl,(LW,LX,LY,LZ,Wl)=aDh/\σ=[(0,.aC 0 g1000 0 0),(2,.aC 1 0 0 0),(3,.aC 3 0 0 0),(16,.bool Wl)]/\η=[.row g1000 4 1 67 (λ_=>[sl 4 af.cells LW,.int .i64 LX,.int .i64 LY,.bool LZ]),.row 0 4 1 29 (λ_=>[.int .i64 0,.int .i64 0,.str [],.own 2 0 0 0]),.row 0 4 0 29 (λ_=>[]),.row 0 4 1 101 (λ_=>Wk.lit)]) ?_ ?_
 refine ⟨rfl,rfl,_,rfl,(sE h (λaui h=>?_) (λaui h=>?_))⟩
 exact .t (.t (.t (.t (.t (.t (.t (.t (.t (.t (.t (.t (ct ⟨_,_,_,_,_,si h,rfl,rfl⟩ (tk [0,1,5,2] ⟨.p,.p,.p,.b,⟨⟩⟩ ⟨(fM rfl),(nb rfl ⟨.i,.i,.s,.g,⟨⟩⟩),gh,(gg rfl),⟨⟩⟩)))))))))))))
 refine ⟨rfl,(.f ⟨rfl,_,rfl,(.f (.f (sE h (λauj h=>?_) (λauj h=>?_))))⟩)⟩
 exact .t (.t (.t (.t (.t (.t (.t (.t (ct ⟨_,_,_,_,_,si h,rfl,rfl⟩ (tk [0,1,5,2] ⟨.p,.p,.p,.b,⟨⟩⟩ ⟨(fM rfl),(nb rfl ⟨.i,.i,.s,.g,⟨⟩⟩),gh,(gg rfl),⟨⟩⟩)))))))))
 refine .f ?_
 obtain ⟨⟨abA,wL⟩,Xo,h⟩:=bd h
 refine cb (cC (g1000:=g1000) Xo) [0] ?_
 refine .f (sV h (λauk h=>?_) (λauk h=>?_))
 exact .t (.t (.t (.t (.t (ct ⟨_,_,_,_,_,si h,rfl,rfl⟩ (tk [0,1,5,2] ⟨.p,.p,.p,.b,⟨⟩⟩ ⟨(fM rfl),(nb rfl ⟨.i,.i,.s,.g,⟨⟩⟩),gh,(gg rfl),⟨⟩⟩))))))
 refine .f ?_
 obtain ⟨⟨Iq,Ax⟩,aul,h⟩:=bd h
 refine cb (cC (g1000:=g1000) aul) [0] ?_
 refine .f (sV h (λaum h=>?_) (λaum h=>?_))
 exact .t (.t (ct ⟨_,_,_,_,_,si h,rfl,rfl⟩ (tk [0,1,5,2] ⟨.p,.p,.p,.b,⟨⟩⟩ ⟨(fM rfl),(nb rfl ⟨.i,.i,.s,.g,⟨⟩⟩),gh,(gg rfl),⟨⟩⟩)))
 refine .f ?_
 obtain ⟨⟨abB,zb⟩,aun,h⟩:=bd h
 refine cb (cC (g1000:=g1000) aun) [0] ?_
 exact .f (ct ⟨_,_,_,_,_,si h,rfl,rfl⟩ (tk [0,1,5,2] ⟨.p,.p,.p,.b,⟨⟩⟩ ⟨(fM rfl),(nb rfl ⟨.i,.i,.s,.g,⟨⟩⟩),gh,(gg rfl),⟨⟩⟩))
 rintro _ _ ⟨LW,LX,LY,LZ,Wl,rfl,rfl,rfl⟩
 replace h:=auh
 refine sV h (λauo h=>?_) (λauo h=>?_)
 refine .d ?_
 obtain ⟨⟨aq9,Wm⟩,aup,h⟩:=bd h
 refine bz (w7 (g1000:=g1000) aup) [0] λaDi auq=>?_
 refine ⟨rfl,_,_,rfl,ao,?_⟩
 obtain rfl:=si h
 exact ⟨rfl,_,rfl,(en [0,4] ⟨aDi,auq.self,rfl,rfl⟩ (.aI ⟨.i,.i,.s,.oe,⟨⟩⟩) ⟨(ob rfl ⟨.l,.i,.i,.b,⟨⟩⟩),(bu auq),⟨⟩⟩)⟩
 refine .d ⟨rfl,rfl,_,rfl,(sE h (λaur h=>?_) (λaur h=>?_))⟩
 refine .d ?_
 obtain ⟨⟨Wn,ara⟩,aus,h⟩:=bd h
 refine bz (ft (g1000:=g1000) aus) [0] λaDj aut=>?_
 refine ⟨rfl,_,_,rfl,ao,?_⟩
 obtain rfl:=si h
 exact ⟨rfl,_,rfl,(en [0,4] ⟨aDj,aut.self,rfl,rfl⟩ (.aI ⟨.i,.i,.s,.oe,⟨⟩⟩) ⟨(ob rfl ⟨.l,.i,.i,.b,⟨⟩⟩),(bu aut),⟨⟩⟩)⟩
 refine .d ?_
 obtain ⟨⟨arb,aih⟩,auu,h⟩:=bd h
 refine cb (aD (g1000:=g1000) auu) [0] ?_
 refine sV h (λauv h=>?_) (λauv h=>?_)
 refine .d ?_
 obtain ⟨⟨arc,Wo⟩,auw,h⟩:=bd h
 refine bz (aiR _ _ auw _) [0] λaDk auy=>?_
 refine ⟨rfl,_,_,rfl,ao,?_⟩
 obtain rfl:=si h
 exact ⟨rfl,_,rfl,(en [0,4] ⟨aDk,auy.self,rfl,rfl⟩ (.aI ⟨.i,.i,.s,.oe,⟨⟩⟩) ⟨(ob rfl ⟨.l,.i,.i,.b,⟨⟩⟩),(bu auy),⟨⟩⟩)⟩
 refine .d ?_
 obtain ⟨⟨Wp,QI⟩,Xp,h⟩:=bd h
 refine cb (aD (g1000:=g1000) Xp) [0] ?_
 refine sV h (λauz h=>?_) (λauz h=>?_)
 refine .d ?_
 obtain ⟨⟨ard,Wq⟩,aiS,h⟩:=bd h
 refine bz (rU _ _ aiS _) [0] λauA afm=>?_
 refine ⟨rfl,_,_,rfl,ao,(.d (bk h λIr Mk h=>(cb (bf (g1000:=g1000) Mk) [0] ?_)))⟩
 refine .d ⟨rfl,_,rfl,rfl,_,_,rfl,ao,?_⟩
 obtain rfl:=si h
 exact ⟨rfl,_,rfl,(en [0,4] ⟨auA,afm.self,rfl,rfl⟩ (.aI ⟨.i,.i,.s,.oe,⟨⟩⟩) ⟨(ob rfl ⟨.l,.i,.i,.b,⟨⟩⟩),(bu afm),⟨⟩⟩)⟩
 refine .d ?_
 obtain ⟨⟨BD,BE⟩,Ml,h⟩:=bd h
 refine cb (aD (g1000:=g1000) Ml) [0] ?_
 refine sV h (λaiT h=>?_) (λaiT h=>?_)
 refine .d ?_
 obtain ⟨⟨ae3,Is⟩,Mm,h⟩:=bd h
 refine cb (oF (g1000:=g1000) Mm) [0] ?_
 refine ⟨rfl,_,_,rfl,ao,(.d ?_)⟩
 obtain ⟨⟨ae4,It⟩,aiU,h⟩:=bd h
 refine bz (Mj _ _ aiU _) [0] λauB OV=>?_
 refine ⟨rfl,rfl,_,_,rfl,ao,(.d ⟨rfl,_,rfl,rfl,_,_,rfl,ao,?_⟩)⟩
 obtain rfl:=si h
 exact ⟨rfl,_,rfl,(en [0,5] ⟨auB,OV.self,rfl,rfl⟩ (.aI ⟨.i,.i,.s,.oe,⟨⟩⟩) ⟨(ob rfl ⟨.l,.i,.i,.b,⟨⟩⟩),(bu OV OV.len OV.len),⟨⟩⟩)⟩
 refine .d ?_
 obtain ⟨⟨ae5,ED⟩,Mn,h⟩:=bd h
 refine cb (aD (g1000:=g1000) Mn) [0] ?_
 refine sV h (λaiV h=>?_) (λaiV h=>?_)
 refine .d ?_
 obtain ⟨⟨uK,ae6⟩,aiW,h⟩:=bd h
 refine bz (xW (g1000:=g1000) aiW) [0] λOW oG=>?_
 refine ⟨rfl,_,_,rfl,ao,(.d (.d ?_))⟩
 obtain ⟨⟨ae7,Wr⟩,aiX,h⟩:=bd h
 refine cb (aD (g1000:=g1000) aiX) [0] ?_
 refine sV h (λaiY h=>?_) (λaiY h=>?_)
 refine .d ?_
 obtain ⟨auC,h,aiZ⟩:=bd h
 refine .cut (λσ η=>∃EG,∃EH,∃EI,∃Iw,∃Ix,(EG,EH,EI,Iw,Ix)=auC/\σ=[(0,.aC 0 g1000 0 0),(2,.aC 1 0 0 0),(6,.aC 3 0 0 0),(81,.bool Ix)]/\η=[.row g1000 4 1 67 (λ_=>[sl 4 af.cells EG,.int .i64 EH,.int .i64 EI,.bool Iw]),.row 0 4 1 29 (λ_=>[.int .i64 0,.int .i64 0,.str [],.own 2 0 0 0]),.row 0 4 0 29 (λ_=>[]),.row 0 4 1 29 (λ_=>[.int .i64 23,.int .i64 0,.str [],.own 4 0 0 uK.length]),.row 0 4 uK.length 29 OW]) ?_ ?_
 obtain ⟨⟨EE,EF⟩,ai0,h⟩:=bd h
 refine cb (cC (g1000:=g1000) ai0) [0] ?_
 refine sV h (λai1 h=>?_) (λai1 h=>?_)
 refine .t ?_
 obtain ⟨⟨Iu,Iv⟩,ai2,h⟩:=bd h
 refine cb (cC (g1000:=g1000) ai2) [0] ?_
 exact .t (ct ⟨_,_,_,_,_,si h,rfl,rfl⟩ (tk [0,1,2,5,4] ⟨.p,.p,.p,.b,⟨⟩⟩ ⟨(fM rfl),(nb rfl ⟨.i,.i,.s,(.od aLa),⟨⟩⟩),(bu (DR.nil (D:=ae.D))),(nb rfl ⟨.i,.i,.s,.oe,⟨⟩⟩),(bu oG),⟨⟩⟩))
 exact .f (.f (ct ⟨_,_,_,_,_,si h,rfl,rfl⟩ (tk [0,1,2,5,4] ⟨.p,.p,.p,.b,⟨⟩⟩ ⟨(fM rfl),(nb rfl ⟨.i,.i,.s,(.od aLa),⟨⟩⟩),(bu (DR.nil (D:=ae.D))),(nb rfl ⟨.i,.i,.s,.oe,⟨⟩⟩),(bu oG),⟨⟩⟩)))
 rintro _ _ ⟨EG,EH,EI,Iw,Ix,rfl,rfl,rfl⟩
 replace h:=aiZ
 refine sV h (λai3 h=>?_) (λai3 h=>?_)
 refine .d ⟨rfl,rfl,rfl,_,rfl,rfl,rfl,rfl,_,_,rfl,ao,(.d ⟨rfl,rfl,rfl,_,_,rfl,ao,(.d ⟨rfl,_,rfl,rfl,_,_,rfl,ao,?_⟩)⟩)⟩
 obtain rfl:=si h
 exact ⟨rfl,_,rfl,(en [0,4] ⟨OW,oG.self,rfl,rfl⟩ (.aI ⟨.i,.i,.s,.oe,⟨⟩⟩) ⟨(ob rfl ⟨.l,.i,.i,.b,⟨⟩⟩),(bu oG oG.len oG.len),⟨⟩⟩)⟩
 refine .float [(0,true),(1,true),(2,true),(3,false),(4,false),(5,true),(6,false)] aKR ?_
 refine ⟨rfl,rfl,_,rfl,?_⟩
 obtain ⟨⟨BF,ae8⟩,ai4,h⟩:=bd h
 refine bz (oH (g1000:=g1000) ai4) [0] λauD ES=>?_
 refine ⟨rfl,rfl,(bk h λae9 ze h=>(.move ⟨rfl,rfl,DR.jbd oG.len ES.len ze,rfl,rfl,_,_,rfl,ao,(.d (.float [(0,true),(1,true),(2,true),(3,false),(4,false),(5,false),(6,true),(7,false)] aKR ?_))⟩))⟩
 refine ⟨rfl,rfl,_,rfl,?_⟩
 obtain ⟨⟨BG,afa⟩,ai5,h⟩:=bd h
 refine bz (lY _ _ ai5 _) [0] λaGl afn=>?_
 refine ⟨rfl,rfl,_,dx,rfl,rfl,(bk h λWs BS h=>(.fx ⟨rfl,rfl,(λ_ _=>rfl),DR.xA (DR.jnq oG ES ze) BS,Ws.length,dV (Mo OW uK.length auD) (uK.length+BF.length) [.int .i64 BG.aj,.int .i64 BG.aP,.str BG.aq,.own 6 0 0 BG.ah.length],DR.ln (DR.jnq oG ES ze) BS,dE (DR.ln (DR.jnq oG ES ze) BS) ⟨.same _,.same _,.same _,.same _,trivial⟩,rfl,rfl,_,_,rfl,ao,(.d ⟨rfl,_,rfl,rfl,_,_,rfl,ao,?_⟩)⟩))⟩
 obtain rfl:=si h
 refine ⟨rfl,_,rfl,(.ab 4 (uK.length+BF.length) 3 6 _ (λ_=>rT (DR.lq (DR.jnq oG ES ze) BS) (afn).po) λauE=>?_)⟩
 have OX:=DR.jE (DR.jnq oG ES ze) BS (ae.bx (x:=BG) (F0:=auE) afn)
 exact en [0,4] ⟨_,OX.self,rfl,rfl⟩ (.aI ⟨.i,.i,.s,.oe,⟨⟩⟩) ⟨(ob rfl ⟨.l,.i,.i,.b,⟨⟩⟩),(bu OX OX.len OX.len),⟨⟩⟩
 refine .d (.float [(0,true),(1,true),(2,true),(3,false),(4,false),(5,false),(6,true),(7,false)] aKR ?_)
 refine ⟨rfl,rfl,_,rfl,?_⟩
 obtain ⟨⟨tF,pX⟩,Mp,h⟩:=bd h
 refine bz (lY _ _ Mp _) [0] λaGm afo=>?_
 refine ⟨rfl,rfl,_,dx,rfl,rfl,(bk h λWt BT h=>(.fx ⟨rfl,rfl,(λ_ _=>rfl),DR.xA oG BT,Wt.length,dV OW uK.length [.int .i64 tF.aj,.int .i64 tF.aP,.str tF.aq,.own 6 0 0 tF.ah.length],DR.ln oG BT,dE (DR.ln oG BT) ⟨.same _,.same _,.same _,.same _,trivial⟩,rfl,rfl,_,_,rfl,ao,(.d ⟨rfl,_,rfl,rfl,_,_,rfl,ao,?_⟩)⟩))⟩
 obtain rfl:=si h
 refine ⟨rfl,_,rfl,(.ab 4 uK.length 3 6 _ (λ_=>rT (DR.lq oG BT) (afo).po) λauF=>?_)⟩
 have OY:=DR.jE oG BT (ae.bx (x:=tF) (F0:=auF) afo)
 exact en [0,4] ⟨_,OY.self,rfl,rfl⟩ (.aI ⟨.i,.i,.s,.oe,⟨⟩⟩) ⟨(ob rfl ⟨.l,.i,.i,.b,⟨⟩⟩),(bu OY OY.len OY.len),⟨⟩⟩
 refine .d ?_
 obtain ⟨⟨tG,EJ⟩,ai6,h⟩:=bd h
 refine cb (oF (g1000:=g1000) ai6) [0] ?_
 obtain ⟨Wu,h,Xq⟩:=bd h
 refine .cut (λσ η=>∃IA,∃IB,∃IC,∃ID,.inl (IA,IB,IC,ID)=Wu/\σ=[(0,.aC 0 g1000 0 0),(2,.aC 1 0 0 0),(7,.str tG)]/\η=[.row g1000 4 1 67 (λ_=>[sl 4 af.cells IA,.int .i64 IB,.int .i64 IC,.bool ID]),.row 0 4 1 29 (λ_=>[.int .i64 0,.int .i64 0,.str [],.own 2 0 0 0]),.row 0 4 0 29 (λ_=>[])]) ?_ ?_
 refine .d (sEn h (λai7 h=>?_) (λai7 h=>?_))
 refine .t ?_
 obtain ⟨⟨Iy,EK⟩,ai8,h⟩:=bd h
 refine cb (cC (g1000:=g1000) ai8) [0] ?_
 refine .t (sV h (λai9 h=>?_) (λai9 h=>?_))
 refine .d ?_
 obtain ⟨⟨afb,Iz⟩,aja,h⟩:=bd h
 refine bz (Mj _ _ aja _) [0] λauG OZ=>?_
 refine ⟨rfl,_,_,rfl,ao,?_⟩
 obtain rfl:=si h
 replace h:=Xq
 obtain rfl:=si h
 exact ⟨rfl,_,rfl,(en [0,4] ⟨auG,OZ.self,rfl,rfl⟩ (.aI ⟨.i,.i,.s,.oe,⟨⟩⟩) ⟨(ob rfl ⟨.l,.i,.i,.b,⟨⟩⟩),(bu OZ OZ.len OZ.len),⟨⟩⟩)⟩
 exact ct ⟨_,_,_,_,si h,rfl,rfl⟩ (tk [0,1,2] ⟨.p,.p,.s,⟨⟩⟩ ⟨(fM rfl),(nb rfl ⟨.i,.i,.s,(.od aLa),⟨⟩⟩),(bu (DR.nil (D:=ae.D))),⟨⟩⟩)
 exact .f (.f (.f (ct ⟨_,_,_,_,si h,rfl,rfl⟩ (tk [0,1,2] ⟨.p,.p,.s,⟨⟩⟩ ⟨(fM rfl),(nb rfl ⟨.i,.i,.s,(.od aLa),⟨⟩⟩),(bu (DR.nil (D:=ae.D))),⟨⟩⟩))))
 rintro _ _ ⟨IA,IB,IC,ID,rfl,rfl,rfl⟩
 replace h:=Xq
 refine .d (bk h λIE ajb h=>(cb (bf (g1000:=g1000) ajb) [0] ?_))
 refine .d (bk h λWv Xr h=>⟨mM Xr,Wv,mN Xr,?_⟩)
 obtain ⟨⟨IF,IG⟩,Mq,h⟩:=bd h
 refine cb (fC (g1000:=g1000) Mq) [0] ?_
 refine bk h λWw Xs h=>⟨mM Xs,Ww,mN Xs,(.d ?_)⟩
 obtain ⟨⟨afc,afd⟩,ajc,h⟩:=bd h
 refine bz (Mj _ _ ajc _) [0] λauH O0=>?_
 refine ⟨rfl,_,_,rfl,ao,?_⟩
 obtain rfl:=si h
 exact ⟨rfl,_,rfl,(en [0,3] ⟨auH,O0.self,rfl,rfl⟩ (.aI ⟨.i,.i,.s,.oe,⟨⟩⟩) ⟨(ob rfl ⟨.l,.i,.i,.b,⟨⟩⟩),(bu O0 O0.len O0.len),⟨⟩⟩)⟩
 intro _ ajd a0 r h g1000
 refine eT Tryz.func233 ?_
 refine .d (.d ⟨rfl,_,_,rfl,ao,(.d (.d ?_))⟩)
 obtain ⟨⟨II,EL⟩,aje,h⟩:=bd h
 refine cb (aD (g1000:=g1000) aje) [0] ?_
 refine sV h (λajf h=>?_) (λajf h=>?_)
 refine .d ⟨rfl,_,rfl,rfl,_,_,rfl,ao,?_⟩
 exact aJU
 obtain ⟨OJ,h,Xt⟩:=bd h
 refine .cut (λσ η=>∃IJ,∃IK,∃IL,∃IM,∃BH,∃zS,∃Xu:Nat->List PV,∃O1:Nat->List PV,DR ae.D BH.length Xu BH/\DR ae.D zS.length O1 zS/\.inl (IJ,IK,IL,IM,BH,zS)=OJ/\σ=[(2,.aC 1 0 0 0),(3,.aC 3 0 0 0)]/\η=[.row g1000 4 1 67 (λ_=>[sl 4 af.cells IJ,.int .i64 IK,.int .i64 IL,.bool IM]),.row 0 4 1 29 (λ_=>[.int .i64 0,.int .i64 0,.str [],.own 2 0 0 BH.length]),.row 0 4 BH.length 29 Xu,.row 0 4 1 29 (λ_=>[.int .i64 5,.int .i64 0,.str [],.own 4 0 0 zS.length]),.row 0 4 zS.length 29 O1]) ?_ ?_
 have ajg:=ajd _ _ _ _ _ _ _ h
 refine le (gL.rec (motive:=λoz oA oB mT lB eE afp _=>∀ET:Nat->List PV,∀EU:Nat->List PV,DR ae.D lB.length ET lB->DR ae.D eE.length EU eE->OJ=afp->aQ _ _ [(0,.aC 0 g1000 0 0),(2,.aC 1 0 0 0),(3,.aC 3 0 0 0)] [.row g1000 4 1 67 (λ_=>[sl 4 af.cells oz,.int .i64 oA,.int .i64 oB,.bool mT]),.row 0 4 1 29 (λ_=>[.int .i64 0,.int .i64 0,.str [],.own 2 0 0 lB.length]),.row 0 4 lB.length 29 ET,.row 0 4 1 29 (λ_=>[.int .i64 5,.int .i64 0,.str [],.own 4 0 0 eE.length]),.row 0 4 eE.length 29 EU]) ?_ ajg (λ_=>[]) (λ_=>[]) ((DR.nil (D:=ae.D)).self) ((DR.nil (D:=ae.D)).self) rfl) (tk [0,1,5,2,7] ⟨.p,.p,.p,⟨⟩⟩ ⟨(fM rfl),(nb rfl ⟨.i,.i,.s,.g,⟨⟩⟩),gh,(nb rfl ⟨.i,.i,.s,.g,⟨⟩⟩),gh,⟨⟩⟩)
 intro _ Xv _ _ oz oA oB mT lB eE afp h ajh ET EU EV uR  aji
 subst aji
 refine aQ.round (.d (.d ⟨rfl,rfl,rfl,_,rfl,(jj h (λajj h=>?_) (λajj h=>?_))⟩))
 refine .d ?_
 obtain ⟨⟨tH,pY⟩,ajk,h⟩:=bd h
 refine bz (Xv _ _ ajk _) [0] λauI Xw=>?_
 refine ⟨_,cJ,rfl,_,_,rfl,ao,?_⟩
 obtain ⟨auJ,h,ajl⟩:=bd h
 refine .cut (λσ η=>∃BK,∃BL,∃BM,∃BN,∃rS,∃Xx:Nat->List PV,DR ae.D rS.length Xx rS/\(BK,BL,BM,BN,rS)=auJ/\σ=[(0,.aC 0 g1000 0 0),(2,.aC 1 0 0 0),(3,.aC 3 0 0 0),(4,.aC 5 0 0 0)]/\η=[.row g1000 4 1 67 (λ_=>[sl 4 af.cells BK,.int .i64 BL,.int .i64 BM,.bool BN]),.row 0 4 1 29 (λ_=>[.int .i64 0,.int .i64 0,.str [],.own 2 0 0 lB.length]),.row 0 4 lB.length 29 ET,.row 0 4 1 29 (λ_=>[.int .i64 5,.int .i64 0,.str [],.own 4 0 0 eE.length]),.row 0 4 eE.length 29 EU,.row 0 4 1 29 (λ_=>[.int .i64 6,.int .i64 0,.str [],.own 6 0 0 rS.length]),.row 0 4 rS.length 29 Xx]) ?_ ?_
 refine .ab 6 0 3 5 _ (λ_=>iB (Xw).po) λXy=>(.d ?_)
 obtain ⟨⟨OL,tI⟩,ajm,h⟩:=bd h
 refine cb (aD (g1000:=g1000) ajm) [0] ?_
 refine sV h (λajn h=>?_) (λajn h=>?_)
 refine .float [(0,true),(1,true),(2,true),(3,false),(4,false),(5,false),(6,true),(7,false)] aKR ?_
 refine ⟨rfl,rfl,_,rfl,?_⟩
 obtain ⟨⟨xT,wj⟩,ajo,h⟩:=bd h
 refine bz (Xv _ _ ajo _) [0] λaGn afq=>?_
 refine ⟨rfl,rfl,_,dx,rfl,rfl,?_⟩
 have Jb:=(DR.cp (ae.bx (x:=tH) (F0:=Xy) Xw) DR.dL)
 refine bk h λIY BU h=>(.fx ⟨rfl,rfl,(λ_ _=>rfl),DR.xA Jb BU,IY.length,dV (kg [[.int .i64 tH.aj,.int .i64 tH.aP,.str tH.aq,.dY 4 tH.ah.length 29 auI Xy]]) 1 [.int .i64 xT.aj,.int .i64 xT.aP,.str xT.aq,.own 8 0 0 xT.ah.length],DR.ln Jb BU,dE (DR.ln Jb BU) ⟨.same _,.same _,.same _,.same _,trivial⟩,rfl,rfl,_,_,rfl,ao,(.ab 6 1 3 8 _ (λ_=>rT (DR.lq Jb BU) (afq).po) λauK=>?_)⟩)
 have afr:=DR.jE Jb BU (ae.bx (x:=xT) (F0:=auK) afq)
 exact ct ⟨_,_,_,_,_,_,afr,si h,rfl,rfl⟩ (tk [0,1,2,3,4,7,6] ⟨.p,.p,.p,.p,⟨⟩⟩ ⟨(fM rfl),(nb rfl ⟨.i,.i,.s,.oe,⟨⟩⟩),(bu EV),(nb rfl ⟨.i,.i,.s,.oe,⟨⟩⟩),(bu uR),(nb rfl ⟨.i,.i,.s,.oe,⟨⟩⟩),(bu afr),⟨⟩⟩)
 have O2:=(DR.cp (ae.bx (x:=tH) (F0:=Xy) Xw) DR.dL)
 exact ct ⟨_,_,_,_,_,_,O2.self,si h,rfl,rfl⟩ (tk [0,1,2,3,4,7,6] ⟨.p,.p,.p,.p,⟨⟩⟩ ⟨(fM rfl),(nb rfl ⟨.i,.i,.s,.oe,⟨⟩⟩),(bu EV),(nb rfl ⟨.i,.i,.s,.oe,⟨⟩⟩),(bu uR),(nb rfl ⟨.i,.i,.s,.oe,⟨⟩⟩),(bu O2 O2.len O2.len),⟨⟩⟩)
 rintro _ _ ⟨BK,BL,BM,BN,rS,Xx,O3,rfl,rfl,rfl⟩
 replace h:=ajl
 refine .d ⟨rfl,rfl,_,rfl,rfl,_,rfl,_,dx,(bk h λBO w8 h=>(.fx ⟨rfl,rfl,(λ_ _=>rfl),DR.xA uR w8,BO.length,dV EU eE.length [.int .i64 6,.int .i64 0,.str [],.own 6 0 0 rS.length],DR.ln uR w8,dE (DR.ln uR w8) ⟨.same _,.same _,.same _,.same _,trivial⟩,rfl,rfl,_,_,rfl,ao,(.d (.d ?_))⟩))⟩
 obtain ⟨⟨OM,EN⟩,ajp,h⟩:=bd h
 refine cb (aD (g1000:=g1000) ajp) [0] ?_
 refine sV h (λajq h=>?_) (λajq h=>?_)
 refine .d ⟨rfl,_,rfl,rfl,_,_,rfl,ao,?_⟩
 obtain rfl:=si h
 replace h:=Xt
 obtain rfl:=si h
 refine ⟨rfl,_,rfl,(.ab 4 eE.length 3 6 _ (λ_=>rT (DR.lq uR w8) (O3).po) λauL=>?_)⟩
 have O4:=DR.jE uR w8 (ae.bx (x:=(ae.mk 6 0 [] rS)) (F0:=auL) O3)
 exact en [0,4] ⟨_,O4.self,rfl,rfl⟩ (.aI ⟨.i,.i,.s,.oe,⟨⟩⟩) ⟨(ob rfl ⟨.l,.i,.i,.b,⟨⟩⟩),(bu O4 O4.len O4.len),⟨⟩⟩
 refine bk h λwk ajr h=>(cb (bf (g1000:=g1000) ajr) [0] ?_)
 refine .ab 4 eE.length 3 6 _ (λ_=>rT (DR.lq uR w8) (O3).po) λauM=>?_
 have afs:=DR.jE uR w8 (ae.bx (x:=(ae.mk 6 0 [] rS)) (F0:=auM) O3)
 exact lg (ajh _ _ _ _ _ _ _ h ET _ EV afs rfl) (tk [0,1,2,3,4] ⟨.p,.p,.p,⟨⟩⟩ ⟨(fM rfl),(nb rfl ⟨.i,.i,.s,.oe,⟨⟩⟩),(bu EV),(nb rfl ⟨.i,.i,.s,.oe,⟨⟩⟩),(bu afs),⟨⟩⟩)
 exact ct ⟨_,_,_,_,_,_,ET,EU,EV,uR,si h,rfl,rfl⟩ (tk [0,1,2,3,4] ⟨.p,.p,⟨⟩⟩ ⟨(fM rfl),(nb rfl ⟨.i,.i,.s,.oe,⟨⟩⟩),(bu EV),(nb rfl ⟨.i,.i,.s,.oe,⟨⟩⟩),(bu uR),⟨⟩⟩)
 rintro _ _ ⟨IJ,IK,IL,IM,BH,zS,Xu,O1,aGo,O5,rfl,rfl,rfl⟩
 replace h:=Xt
 refine .d ⟨rfl,_,rfl,rfl,_,_,rfl,ao,?_⟩
 obtain rfl:=si h
 exact ⟨rfl,_,rfl,(en [0,4] ⟨O1,O5.self,rfl,rfl⟩ (.aI ⟨.i,.i,.s,.oe,⟨⟩⟩) ⟨(ob rfl ⟨.l,.i,.i,.b,⟨⟩⟩),(bu O5 O5.len O5.len),⟨⟩⟩)⟩
 intro F0 F1 nK nL oz oA oB mT lB eE o h
 exact .mk F0 nK F1 nL oz oA oB mT lB eE o h
 intro _ _ lY rU a0 r h g1000
 refine eT Tryz.func190 ?_
 refine .d (.d (bk h λUx U0 h=>(cb (bf (g1000:=g1000) U0) [0] ?_)))
 refine .d ?_
 obtain ⟨⟨By,Ig⟩,auN,h⟩:=bd h
 refine bz (rU _ _ auN _) [0] λf329 d330=>?_
 refine ⟨_,cJ,rfl,_,_,rfl,ao,(.d (bk h λaqI auO h=>(cb (bf (g1000:=g1000) auO) [0] ?_)))⟩
 refine .ab 3 0 3 2 _ (λ_=>iB (d330).po) λajs=>(.d (.float [(0,true),(1,true),(2,true),(3,false),(4,false),(5,false),(6,true),(7,false)] aKR ?_))
 refine ⟨rfl,rfl,_,rfl,?_⟩
 obtain ⟨⟨Ar,aqJ⟩,auP,h⟩:=bd h
 refine bz (ft (g1000:=g1000) auP) [0] λf337 d338=>?_
 refine ⟨rfl,rfl,_,dx,rfl,rfl,?_⟩
 have d339:=(DR.cp (ae.bx (x:=By) (F0:=ajs) d330) DR.dL)
 refine bk h λQF EW h=>(.fx ⟨rfl,rfl,(λ_ _=>rfl),DR.xA d339 EW,QF.length,dV (kg [[.int .i64 By.aj,.int .i64 By.aP,.str By.aq,.dY 4 By.ah.length 29 f329 ajs]]) 1 [.int .i64 Ar.aj,.int .i64 Ar.aP,.str Ar.aq,.own 5 0 0 Ar.ah.length],DR.ln d339 EW,dE (DR.ln d339 EW) ⟨.same _,.same _,.same _,.same _,trivial⟩,rfl,rfl,_,_,rfl,ao,?_⟩)
 obtain ⟨aDl,h,auQ⟩:=bd h
 refine .cut (λσ η=>∃VC,∃VD,∃VE,∃VF,∃DU,∃f347:Nat->List PV,DR ae.D DU.length f347 DU/\(VC,VD,VE,VF,DU)=aDl/\σ=[(0,.aC 0 g1000 0 0),(2,.aC 1 0 0 0),(3,.aC 3 0 0 0)]/\η=[.row g1000 4 1 67 (λ_=>[sl 4 af.cells VC,.int .i64 VD,.int .i64 VE,.bool VF]),.row 0 4 1 29 (λ_=>[.int .i64 0,.int .i64 0,.str [],.own 2 0 0 0]),.row 0 4 0 29 (λ_=>[]),.row 0 4 1 29 (λ_=>[.int .i64 36,.int .i64 0,.str [],.own 4 0 0 DU.length]),.row 0 4 DU.length 29 f347]) ?_ ?_
 refine .ab 3 1 3 5 _ (λ_=>rT (DR.lq d339 EW) (d338).po) λajt=>(.d ?_)
 obtain ⟨⟨aqK,Bz⟩,auR,h⟩:=bd h
 refine cb (aD (g1000:=g1000) auR) [0] ?_
 refine sV h (λauS h=>?_) (λauS h=>?_)
 refine .float [(0,true),(1,true),(2,true),(3,false),(4,false),(5,false),(6,true),(7,false)] aKR ?_
 refine ⟨rfl,rfl,_,rfl,?_⟩
 obtain ⟨⟨LM,VB⟩,auT,h⟩:=bd h
 refine bz (ft (g1000:=g1000) auT) [0] λf360 d361=>?_
 refine ⟨rfl,rfl,_,dx,rfl,rfl,?_⟩
 have d362:=DR.jE d339 EW (ae.bx (x:=Ar) (F0:=ajt) d338)
 refine bk h λahZ Jc h=>(.fx ⟨rfl,rfl,(λ_ _=>rfl),DR.xA d362 Jc,ahZ.length,dV (dV (kg [[.int .i64 By.aj,.int .i64 By.aP,.str By.aq,.dY 4 By.ah.length 29 f329 ajs]]) 1 [.int .i64 Ar.aj,.int .i64 Ar.aP,.str Ar.aq,.dY 4 Ar.ah.length 29 f337 ajt]) QF.length [.int .i64 LM.aj,.int .i64 LM.aP,.str LM.aq,.own 7 0 0 LM.ah.length],DR.ln d362 Jc,dE (DR.ln d362 Jc) ⟨.same _,.same _,.same _,.same _,trivial⟩,rfl,rfl,_,_,rfl,ao,(.ab 3 QF.length 3 7 _ (λ_=>rT (DR.lq d362 Jc) (d361).po) λaju=>?_)⟩)
 have d366:=DR.jE d362 Jc (ae.bx (x:=LM) (F0:=aju) d361)
 exact ct ⟨_,_,_,_,_,_,d366,si h,rfl,rfl⟩ (tk [0,1,11,4,3] ⟨.p,.p,.p,⟨⟩⟩ ⟨(fM rfl),(nb rfl ⟨.i,.i,.s,.g,⟨⟩⟩),gh,(nb rfl ⟨.i,.i,.s,.oe,⟨⟩⟩),(bu d366),⟨⟩⟩)
 have d367:=DR.jE d339 EW (ae.bx (x:=Ar) (F0:=ajt) d338)
 exact ct ⟨_,_,_,_,_,_,d367,si h,rfl,rfl⟩ (tk [0,1,9,4,3] ⟨.p,.p,.p,⟨⟩⟩ ⟨(fM rfl),(nb rfl ⟨.i,.i,.s,.g,⟨⟩⟩),gh,(nb rfl ⟨.i,.i,.s,.oe,⟨⟩⟩),(bu d367),⟨⟩⟩)
 rintro _ _ ⟨VC,VD,VE,VF,DU,f347,d348,rfl,rfl,rfl⟩
 replace h:=auQ
 refine .d (bk h λDV Xz h=>(cb (bf (g1000:=g1000) Xz) [0] ?_))
 refine .d (.float [(0,true),(1,true),(2,true),(3,false),(4,false),(5,false),(6,true),(7,false)] aKR ?_)
 refine ⟨rfl,rfl,_,rfl,?_⟩
 obtain ⟨⟨LN,aqL⟩,auU,h⟩:=bd h
 refine bz (lY _ _ auU _) [0] λaG7 auV=>?_
 refine ⟨rfl,rfl,_,dx,rfl,rfl,(bk h λah0 Jd h=>(.fx ⟨rfl,rfl,(λ_ _=>rfl),DR.xA d348 Jd,ah0.length,dV f347 DU.length [.int .i64 LN.aj,.int .i64 LN.aP,.str LN.aq,.own 5 0 0 LN.ah.length],DR.ln d348 Jd,dE (DR.ln d348 Jd) ⟨.same _,.same _,.same _,.same _,trivial⟩,rfl,rfl,_,_,rfl,ao,(.d ⟨rfl,_,rfl,rfl,_,_,rfl,ao,?_⟩)⟩))⟩
 obtain rfl:=si h
 refine ⟨rfl,_,rfl,(.ab 4 DU.length 3 5 _ (λ_=>rT (DR.lq d348 Jd) (auV).po) λaDm=>?_)⟩
 have aco:=DR.jE d348 Jd (ae.bx (x:=LN) (F0:=aDm) auV)
 exact en [0,4] ⟨_,aco.self,rfl,rfl⟩ (.aI ⟨.i,.i,.s,.oe,⟨⟩⟩) ⟨(ob rfl ⟨.l,.i,.i,.b,⟨⟩⟩),(bu aco aco.len aco.len),⟨⟩⟩
 intro _ rU a0 r h g1000
 refine eT Tryz.func189 ?_
 refine .d (.d (bk h λv78 aDn h=>(cb (bf (g1000:=g1000) aDn) [0] ?_)))
 refine .d ?_
 obtain ⟨⟨v80,AY⟩,ajv,h⟩:=bd h
 refine bz (rU _ _ ajv _) [0] λf83 d84=>?_
 refine ⟨rfl,_,_,rfl,ao,(.d (bk h λv85 Lz h=>(cb (bf (g1000:=g1000) Lz) [0] ?_)))⟩
 refine .d ⟨rfl,_,rfl,rfl,_,_,rfl,ao,?_⟩
 obtain rfl:=si h
 exact ⟨rfl,_,rfl,(en [0,2] ⟨f83,d84.self,rfl,rfl⟩ (.aI ⟨.i,.i,.s,.oe,⟨⟩⟩) ⟨(ob rfl ⟨.l,.i,.i,.b,⟨⟩⟩),(bu d84),⟨⟩⟩)⟩
 intro _ _ _ lY L9 Ma a0 r h g1000
 refine eT Tryz.func188 ?_
 refine .d (.d (bk h λaqG auW h=>(cb (bf (g1000:=g1000) auW) [0] ?_)))
 refine .d ?_
 obtain ⟨⟨HU,aqH⟩,auX,h⟩:=bd h
 refine bz (L9 _ _ auX _) [0] λf276 d277=>?_
 refine ⟨rfl,_,_,rfl,ao,?_⟩
 obtain ⟨aDo,h,auY⟩:=bd h
 refine .cut (λσ η=>∃Vv,∃Vw,∃Vx,∃Vy,∃LL,∃f283:Nat->List PV,DR ae.D 2 f283 LL/\(Vv,Vw,Vx,Vy,LL)=aDo/\σ=[(0,.aC 0 g1000 0 0),(2,.aC 1 0 0 0),(4,.aC 3 0 0 0)]/\η=[.row g1000 4 1 67 (λ_=>[sl 4 af.cells Vv,.int .i64 Vw,.int .i64 Vx,.bool Vy]),.row 0 4 1 29 (λ_=>[.int .i64 0,.int .i64 0,.str [],.own 2 0 0 0]),.row 0 4 0 29 (λ_=>[]),.row 0 4 1 29 (λ_=>[.int .i64 34,.int .i64 0,.str [],.own 4 0 0 2]),.row 0 4 2 29 f283]) ?_ ?_
 refine .XA [(0,true),(1,true)] 2 [] 3 [(4,true),(5,false),(6,false)] 5 [(3,false),(4,true),(6,false)] 5 [(2,false),(3,false),(4,true),(6,false)] aKR ?_
 refine ⟨rfl,_,rfl,?_,?_⟩
 obtain ⟨⟨QD,QE⟩,XB,h⟩:=bd h
 refine bz (lY _ _ XB _) [0] λf291 d292=>?_
 refine ⟨rfl,?_,?_⟩
 refine ⟨_,cJ,rfl,rfl,rfl,_,_,rfl,ao,(.ab 5 0 3 2 _ (λ_=>iB (d277).po) λXC=>(.ab 5 1 3 4 _ (λ_=>iB (d292).po) λXD=>?_))⟩
 have d295:=(DR.cp (ae.bx (x:=HU) (F0:=XC) d277) (DR.cp (ae.bx (x:=QD) (F0:=XD) d292) DR.dL))
 exact ct ⟨_,_,_,_,_,_,d295,si h,rfl,rfl⟩ (tk [0,1,9,6,5] ⟨.p,.p,.p,⟨⟩⟩ ⟨(fM rfl),(nb rfl ⟨.i,.i,.s,.g,⟨⟩⟩),gh,(nb rfl ⟨.i,.i,.s,.oe,⟨⟩⟩),(bu d295),⟨⟩⟩)
 refine ⟨rfl,_,cJ,rfl,_,_,rfl,ao,(.ab 6 0 3 2 _ (λ_=>iB (d277).po) λXC=>(.ab 6 1 3 4 _ (λ_=>iB (d292).po) λXD=>?_))⟩
 have d295:=(DR.cp (ae.bx (x:=HU) (F0:=XC) d277) (DR.cp (ae.bx (x:=QD) (F0:=XD) d292) DR.dL))
 exact ct ⟨_,_,_,_,_,_,d295,si h,rfl,rfl⟩ (tk [0,1,9,5,6] ⟨.p,.p,.p,⟨⟩⟩ ⟨(fM rfl),(nb rfl ⟨.i,.i,.s,.g,⟨⟩⟩),gh,(nb rfl ⟨.i,.i,.s,.oe,⟨⟩⟩),(bu d295),⟨⟩⟩)
 refine ⟨rfl,?_⟩
 obtain ⟨⟨QD,QE⟩,XB,h⟩:=bd h
 refine bz (lY _ _ XB _) [0] λf291 d292=>?_
 refine ⟨rfl,_,cJ,rfl,_,_,rfl,ao,(.ab 6 0 3 2 _ (λ_=>iB (d277).po) λXC=>(.ab 6 1 3 5 _ (λ_=>iB (d292).po) λXD=>?_))⟩
 have d295:=(DR.cp (ae.bx (x:=HU) (F0:=XC) d277) (DR.cp (ae.bx (x:=QD) (F0:=XD) d292) DR.dL))
 exact ct ⟨_,_,_,_,_,_,d295,si h,rfl,rfl⟩ (tk [0,1,9,4,6] ⟨.p,.p,.p,⟨⟩⟩ ⟨(fM rfl),(nb rfl ⟨.i,.i,.s,.g,⟨⟩⟩),gh,(nb rfl ⟨.i,.i,.s,.oe,⟨⟩⟩),(bu d295),⟨⟩⟩)
 rintro _ _ ⟨Vv,Vw,Vx,Vy,LL,f283,d284,rfl,rfl,rfl⟩
 replace h:=auY
 refine .d (.d ?_)
 obtain ⟨⟨wJ,FW⟩,T1,h⟩:=bd h
 refine cb (aD (g1000:=g1000) T1) [0] ?_
 refine sV h (λXE h=>?_) (λXE h=>?_)
 refine .d ?_
 obtain ⟨⟨Gq,FX⟩,T2,h⟩:=bd h
 refine cb (cC (g1000:=g1000) T2) [0] ?_
 refine sV h (λT3 h=>?_) (λT3 h=>?_)
 refine .float [(0,true),(1,true),(2,true),(3,false),(4,false),(5,true),(6,false),(7,false),(8,true),(9,false)] aKR ?_
 refine ⟨rfl,rfl,_,rfl,?_⟩
 obtain ⟨⟨za,abq⟩,auZ,h⟩:=bd h
 refine bz (Ma _ _ auZ _) [0] λf307 d308=>?_
 refine ⟨rfl,rfl,_,cJ,rfl,rfl,_,dx,rfl,rfl,(bk h λVz Je h=>(.fx ⟨rfl,rfl,(λ_ _=>rfl),DR.xA d284 Je,Vz.length,dV f283 2 [.int .i64 48,.int .i64 0,.str [],.own 6 0 0 1],DR.ln d284 Je,dE (DR.ln d284 Je) ⟨.same _,.same _,.same _,.same _,trivial⟩,rfl,rfl,_,_,rfl,ao,(.d ⟨rfl,_,rfl,rfl,_,_,rfl,ao,?_⟩)⟩))⟩
 obtain rfl:=si h
 refine ⟨rfl,_,rfl,(.ab 6 0 3 5 _ (λ_=>iB (d308).po) λaDp=>?_)⟩
 have d312:=(DR.cp (ae.bx (x:=za) (F0:=aDp) d308) DR.dL)
 refine .ab 4 2 3 6 _ (λ_=>rT (DR.lq d284 Je) (d312).po) λaDq=>?_
 have d314:=DR.jE d284 Je (ae.bx (x:=(ae.mk 48 0 [] ([za]:List ae))) (F0:=aDq) d312)
 exact en [0,4] ⟨_,d314.self,rfl,rfl⟩ (.aI ⟨.i,.i,.s,.oe,⟨⟩⟩) ⟨(ob rfl ⟨.l,.i,.i,.b,⟨⟩⟩),(bu d314 d314.len d314.len),⟨⟩⟩
 refine .float [(0,true),(1,true),(2,true),(3,false),(4,false),(5,false),(6,true),(7,false)] aKR ?_
 refine ⟨rfl,rfl,_,rfl,?_⟩
 obtain ⟨⟨Gr,LB⟩,UZ,h⟩:=bd h
 refine bz (lY _ _ UZ _) [0] λf318 d319=>?_
 refine ⟨rfl,rfl,_,dx,rfl,rfl,(bk h λVA Jf h=>(.fx ⟨rfl,rfl,(λ_ _=>rfl),DR.xA d284 Jf,VA.length,dV f283 2 [.int .i64 Gr.aj,.int .i64 Gr.aP,.str Gr.aq,.own 5 0 0 Gr.ah.length],DR.ln d284 Jf,dE (DR.ln d284 Jf) ⟨.same _,.same _,.same _,.same _,trivial⟩,rfl,rfl,_,_,rfl,ao,(.d ⟨rfl,_,rfl,rfl,_,_,rfl,ao,?_⟩)⟩))⟩
 obtain rfl:=si h
 refine ⟨rfl,_,rfl,(.ab 4 2 3 5 _ (λ_=>rT (DR.lq d284 Jf) (d319).po) λaDr=>?_)⟩
 have d323:=DR.jE d284 Jf (ae.bx (x:=Gr) (F0:=aDr) d319)
 exact en [0,4] ⟨_,d323.self,rfl,rfl⟩ (.aI ⟨.i,.i,.s,.oe,⟨⟩⟩) ⟨(ob rfl ⟨.l,.i,.i,.b,⟨⟩⟩),(bu d323 d323.len d323.len),⟨⟩⟩
 refine .d ⟨rfl,_,rfl,rfl,_,_,rfl,ao,?_⟩
 obtain rfl:=si h
 exact ⟨rfl,_,rfl,(en [0,4] ⟨f283,d284.self,rfl,rfl⟩ (.aI ⟨.i,.i,.s,.oe,⟨⟩⟩) ⟨(ob rfl ⟨.l,.i,.i,.b,⟨⟩⟩),(bu d284 d284.len d284.len),⟨⟩⟩)⟩
 intro _ rU a0 a1 r h g1000
 refine eT Tryz.func187 ?_
 refine .d (.d ?_)
 obtain ⟨⟨v69,v70⟩,aDs,h⟩:=bd h
 refine bz (rU _ _ aDs _) [0] λf72 d73=>?_
 refine ⟨_,cJ,rfl,_,_,rfl,ao,(.d (bk h λv74 aDt h=>(cb (bf (g1000:=g1000) aDt) [0] ?_)))⟩
 refine .d ⟨rfl,_,rfl,rfl,_,_,rfl,ao,?_⟩
 obtain rfl:=si h
 refine ⟨rfl,_,rfl,(.ab 3 0 3 2 _ (λ_=>iB (d73).po) λF76=>?_)⟩
 have d77:=(DR.cp (ae.bx (x:=v69) (F0:=F76) d73) DR.dL)
 exact en [0,3] ⟨_,d77.self,rfl,rfl⟩ (.aI ⟨.i,.i,.s,.oe,⟨⟩⟩) ⟨(ob rfl ⟨.l,.i,.i,.b,⟨⟩⟩),(bu d77 d77.len d77.len),⟨⟩⟩
theorem Az {a0:ai} {r:ae×ai} {g1000:Nat} (h:aU a0=some r):Hj 54 a0 r g1000:=wZ.2.2.2.2.2.2.2.2.2.1 a0 r h g1000
set_option synthInstance.maxHeartbeats 400000
set_option synthInstance.maxSize 4000
set_option maxRecDepth 100000
def j7 (a0:aB):Option (ae×Int):=
 sF [60,63,32] a0>>=λs1=>
 xX s1>>=λ(v3,v4,v5)=>
 (if v4=0 then
 aU (ai.mk v3 0 0 false)>>=λ(v8,v9)=>
 (if v9.ay=true then
 some ((ae.mk 0 0 [] []),10)
 else
 (if v9.bM<(v3.length:Int) then
 some ((ae.mk 0 0 [] []),10)
 else
 pR v8>>=λBk=>
 (if Bk=true then
 some (v8,0)
 else
 some ((ae.mk 0 0 [] []),11))))
 else
 some ((ae.mk 0 0 [] []),v4))
theorem uS {a0:aB} {r:ae×Int} (h:j7 a0=some r):au0 20 a0 r:=by
 refine eT Tryz.func20 ?_
 unfold j7 at h
 refine .d (.d (bk h λs1 Mr h=>⟨mM Mr,s1,mN Mr,?_⟩))
 obtain ⟨⟨v3,v4,v5⟩,hv6,h⟩:=bd h
 refine cx (XF hv6) (.d (.d (sN h (λzL h=>?_) (λzL h=>?_))))
 refine .d ⟨rfl,_,_,rfl,ao,?_⟩
 obtain rfl:=si h
 exact ⟨rfl,_,rfl,(en [1] ⟨_,(DR.nil (D:=ae.D)),rfl,rfl⟩ (.cP ⟨.aI ⟨.i,.i,.s,.g,⟨⟩⟩,.i,⟨⟩⟩) ⟨gh,⟨⟩⟩)⟩
 refine .d ⟨rfl,_,_,rfl,ao,(.d ?_)⟩
 obtain ⟨⟨v8,v9⟩,SO,h⟩:=bd h
 refine bz (Az (g1000:=0) SO) [1] λf11 d12=>?_
 refine ⟨rfl,_,_,rfl,ao,(.d (.d ⟨rfl,rfl,_,rfl,(sV h (λtU h=>?_) (λtU h=>?_))⟩))⟩
 refine .t (.t (.t (.t (.t (.t (.d ⟨rfl,_,_,rfl,ao,?_⟩))))))
 exact aJX
 refine ⟨rfl,(.f ⟨rfl,_,rfl,(.f (.f (.f (.f (sD h (λtV h=>?_) (λtV h=>?_))))))⟩)⟩
 refine .d ⟨rfl,_,_,rfl,ao,?_⟩
 exact aJX
 refine .d (.d ⟨rfl,_,rfl,(bk h λBk FN h=>(R9 (HO FN) ⟨.aI ⟨.i,.i,.s,(.rd d12),⟨⟩⟩,⟨⟩⟩ (jj h (λtX h=>?_) (λtX h=>?_))))⟩)
 refine .d ⟨rfl,_,_,rfl,ao,?_⟩
 exact aJX
 refine .d ⟨rfl,_,rfl,rfl,_,_,rfl,ao,?_⟩
 obtain rfl:=si h
 exact ⟨rfl,_,rfl,(en [2] ⟨f11,d12.self,rfl,rfl⟩ (.cP ⟨.aI ⟨.i,.i,.s,.oe,⟨⟩⟩,.i,⟨⟩⟩) ⟨(bu d12),⟨⟩⟩)⟩
end Go.Am
