/- Texts of the proof, joined and shortened. -/
import Derived.Test.YtiigfbapjeefbaaGreatDoorPk8
set_option linter.unusedVariables false
set_option linter.unusedSimpArgs false
set_option synthInstance.maxHeartbeats 400000
set_option synthInstance.maxSize 4000
set_option maxRecDepth 100000
namespace Go.Am
open Go Go.RowKit Go.Proofs
def js (a0:aC):Option mo:=
 (
 aB a0 [112,114,105,118,97,116,101]>>=λ(v9,v10)=>
 (if v9=true then
 some (v10.fT,v10.fI,v10.aw,v10.av,1)
 else
 some (v10.fT,v10.fI,v10.aw,v10.av,0))
 :Option ((List ah)×Int×Int×Int×Int))>>=λ(l1,y2,y3,y4,y5)=>
 bq (aC.mk l1 y2 y3 y4) 0 2 []>>=λ(ml,wV)=>
 (if ml=true then
 cf wV 2>>=λ(AV,RQ)=>
 aB RQ [61]>>=λ(v20,v21)=>
 (if v20=true then
 bq v21 0 4 []>>=λ(v24,H5)=>
 (if v24=true then
 aJ H5>>=λ(v90,v91)=>
 aL v91 [59]>>=λOq=>
 some ((ae.mk 54 y5 AV ([v90]:List ae)),Oq)
 else
 bq H5 0 5 []>>=λ(v28,SF)=>
 (if v28=true then
 aJ SF>>=λ(v80,zU)=>
 aL zU [59]>>=λv85=>
 some ((ae.mk 54 y5 AV ([v80]:List ae)),v85)
 else
 bq SF 0 3 [110,117,108,108]>>=λ(zN,zB)=>
 (if zN=true then
 aJ zB>>=λ(v70,Um)=>
 aL Um [59]>>=λv75=>
 some ((ae.mk 54 y5 AV ([v70]:List ae)),v75)
 else
 bq zB 0 3 [116,114,117,101]>>=λ(R9,v37)=>
 (if R9=true then
 aJ v37>>=λ(v60,Cd)=>
 aL Cd [59]>>=λv65=>
 some ((ae.mk 54 y5 AV ([v60]:List ae)),v65)
 else
 bq v37 0 3 [102,97,108,115,101]>>=λ(v40,zC)=>
 (if v40=true then
 aJ zC>>=λ(JB,v51)=>
 aL v51 [59]>>=λVZ=>
 some ((ae.mk 54 y5 AV ([JB]:List ae)),VZ)
 else
 c6 zC>>=λ(xc,qO)=>
 some (xc,qO))))))
 else
 aL v21 [59]>>=λaBx=>
 some ((ae.mk 54 y5 AV ([(ae.mk 3 0 [] [])]:List ae)),aBx))
 else
 (
 aB wV [115,116,97,116,105,99]>>=λ(EV,xt)=>
 (if EV=true then
 some (xt.fT,xt.fI,xt.aw,xt.av,bm (y5+2))
 else
 some (xt.fT,xt.fI,xt.aw,xt.av,y5))
 :Option ((List ah)×Int×Int×Int×Int))>>=λ(aaK,aaL,aaM,aaN,Te)=>
 aL (aC.mk aaK aaL aaM aaN) [102,117,110,99,116,105,111,110]>>=λBj=>
 cf Bj 3>>=λ(v117,SO)=>
 eH SO 24 ([]:List ae)>>=λ(vk,aBy)=>
 bV aBy>>=λ(OZ,Jm)=>
 cC 56 vk [OZ]>>=λamf=>
 some ((ae.mk 55 Te v117 amf),Jm))
theorem Dk {a0:aC} {r:ae×aC} {g1000:Nat} (h:js a0=some r):GB 178 a0 r g1000:=by
 refine ep Tryz.func178 ?_
 unfold js at h
 refine .d (.d ⟨rfl,_,_,rfl,aj,?_⟩)
 obtain ⟨o6,h,wy⟩:=bd h
 refine .cut (λσ η=>∃l1,∃y2,∃y3,∃y4,∃y5,(l1,y2,y3,y4,y5)=o6/\σ=[(0,.aA 0 g1000 0 0),(2,.aA 1 0 0 0),(3,.aA 3 0 0 0)]/\η=[.row g1000 4 1 62 (λ_=>[sl 4 ah.cells l1,pI y2,pI y3,pI y4]),.row 0 4 1 29 (λ_=>[pI 0,pI 0,.str [],.own 2 0 0 0]),.row 0 4 0 29 (λ_=>[]),.row 0 4 1 29 (λ_=>[pI 54,pI y5,.str [],.own 4 0 0 0]),.row 0 4 0 29 (λ_=>[])]) ?_ ?_
 refine .d ?_
 obtain ⟨⟨v9,v10⟩,CU,h⟩:=bd h
 refine bK (aQ CU) [0] ?_
 refine sV h (λoI h=>?_) (λoI h=>?_)
 exact ⟨rfl,rfl,_,_,rfl,aj,(ct ⟨_,_,_,_,_,si h,rfl,rfl⟩ (tk [0,1,5,2,7] gP T5))⟩
 exact ct ⟨_,_,_,_,_,si h,rfl,rfl⟩ (tk [0,1,5,2,7] gP T5)
 rintro _ _ ⟨l1,y2,y3,y4,y5,rfl,rfl,rfl⟩
 replace h:=wy
 refine .d (.d ?_)
 obtain ⟨⟨ml,wV⟩,H6,h⟩:=bd h
 refine bK (cO H6) [0] ?_
 refine sV h (λnK h=>?_) (λnK h=>?_)
 refine .d ?_
 obtain ⟨⟨AV,RQ⟩,M3,h⟩:=bd h
 refine bK (dL M3) [0] ?_
 refine ⟨rfl,rfl,_,_,rfl,aj,(.d ⟨(jr [[pI 3,pI 0,.str [],.dI 4 0 29 (λ_=>[]) (λ_=>False)]]),(Zq (vx rfl ⟨.same _,.same _,.same _,.Bu _ _ _,trivial⟩ trivial)),rfl,rfl,_,_,rfl,aj,(.d (.d ?_))⟩)⟩
 obtain ⟨⟨v20,v21⟩,zQ,h⟩:=bd h
 refine bK (aQ zQ) [0] ?_
 refine sV h (λsr h=>?_) (λsr h=>?_)
 refine .d (.d ?_)
 obtain ⟨⟨v24,H5⟩,akC,h⟩:=bd h
 refine bK (cO akC) [0] ?_
 refine fP h (λHz h=>?_) (λHz h=>?_)
 refine .t ?_
 obtain ⟨⟨v28,SF⟩,Zo,h⟩:=bd h
 refine bK (cO Zo) [0] ?_
 refine .t (.t (fP h (λzL h=>?_) (λzL h=>?_)))
 refine .t ?_
 obtain ⟨⟨zN,zB⟩,Zp,h⟩:=bd h
 refine bK (cO Zp) [0] ?_
 refine .t (.t (fP h (λCf h=>?_) (λCf h=>?_)))
 refine .t ?_
 obtain ⟨⟨R9,v37⟩,aG9,h⟩:=bd h
 refine bK (cO aG9) [0] ?_
 refine .t (.t (fP h (λCb h=>?_) (λCb h=>?_)))
 refine .t ?_
 obtain ⟨⟨v40,zC⟩,aaO,h⟩:=bd h
 refine bK (cO aaO) [0] ?_
 refine .t (.t (fP h (λO0 h=>?_) (λO0 h=>?_)))
 refine .d ?_
 obtain ⟨⟨xc,qO⟩,Ng,h⟩:=bd h
 refine bp (eQ (g1000:=g1000) Ng) [0] λf47 d48=>?_
 refine ⟨rfl,_,_,rfl,aj,?_⟩
 obtain rfl:=si h
 refine ⟨rfl,_,rfl,?_⟩
 have d49:=(DR.bS (ae.bh (x:=(ae.mk 3 0 [] [])) (F0:=(λ_=>False)) DR.nil) DR.cZ)
 exact en [0,6] ⟨f47,d48.self,rfl,rfl⟩ eo lO
 obtain ⟨⟨JB,v51⟩,akD,h⟩:=bd h
 refine bp (kk (g1000:=g1000) akD) [0] λf53 d54=>?_
 refine ⟨_,cm,rfl,rfl,_,_,rfl,aj,(.d (bk h λVZ Wh h=>(bK (aX Wh) [0] ?_)))⟩
 refine .d ⟨rfl,_,rfl,rfl,_,_,rfl,aj,?_⟩
 obtain rfl:=si h
 refine ⟨rfl,_,rfl,(.ab 7 0 3 6 _ (λ_=>gN (d54).po) λF57=>?_)⟩
 have d58:=(DR.bS (ae.bh (x:=(ae.mk 3 0 [] [])) (F0:=(λ_=>False)) DR.nil) DR.cZ)
 have d59:=(DR.bS (ae.bh (x:=JB) (F0:=F57) d54) DR.cZ)
 exact en [0,7] (rs d59) eo lO
 refine .f (.f (.f (.f ?_)))
 obtain ⟨⟨v60,Cd⟩,VU,h⟩:=bd h
 refine bp (kk (g1000:=g1000) VU) [0] λf63 d64=>?_
 refine ⟨_,cm,rfl,rfl,_,_,rfl,aj,(.d (bk h λv65 aii h=>(bK (aX aii) [0] ?_)))⟩
 refine .d ⟨rfl,_,rfl,rfl,_,_,rfl,aj,?_⟩
 obtain rfl:=si h
 refine ⟨rfl,_,rfl,(.ab 7 0 3 6 _ (λ_=>gN (d64).po) λF67=>?_)⟩
 have d68:=(DR.bS (ae.bh (x:=(ae.mk 3 0 [] [])) (F0:=(λ_=>False)) DR.nil) DR.cZ)
 have d69:=(DR.bS (ae.bh (x:=v60) (F0:=F67) d64) DR.cZ)
 exact en [0,7] (rs d69) eo lO
 refine .f (.f (.f (.f (.f (.f (.f (.f ?_)))))))
 obtain ⟨⟨v70,Um⟩,Na,h⟩:=bd h
 refine bp (kk (g1000:=g1000) Na) [0] λf73 d74=>?_
 refine ⟨_,cm,rfl,rfl,_,_,rfl,aj,(.d (bk h λv75 aaP h=>(bK (aX aaP) [0] ?_)))⟩
 refine .d ⟨rfl,_,rfl,rfl,_,_,rfl,aj,?_⟩
 obtain rfl:=si h
 refine ⟨rfl,_,rfl,(.ab 7 0 3 6 _ (λ_=>gN (d74).po) λF77=>?_)⟩
 have d78:=(DR.bS (ae.bh (x:=(ae.mk 3 0 [] [])) (F0:=(λ_=>False)) DR.nil) DR.cZ)
 have d79:=(DR.bS (ae.bh (x:=v70) (F0:=F77) d74) DR.cZ)
 exact en [0,7] (rs d79) eo lO
 refine .f (.f (.f (.f (.f (.f (.f (.f (.f (.f (.f (.f ?_)))))))))))
 obtain ⟨⟨v80,zU⟩,Zj,h⟩:=bd h
 refine bp (kk (g1000:=g1000) Zj) [0] λf83 d84=>?_
 refine ⟨_,cm,rfl,rfl,_,_,rfl,aj,(.d (bk h λv85 Hn h=>(bK (aX Hn) [0] ?_)))⟩
 refine .d ⟨rfl,_,rfl,rfl,_,_,rfl,aj,?_⟩
 obtain rfl:=si h
 refine ⟨rfl,_,rfl,(.ab 7 0 3 6 _ (λ_=>gN (d84).po) λF87=>?_)⟩
 have d88:=(DR.bS (ae.bh (x:=(ae.mk 3 0 [] [])) (F0:=(λ_=>False)) DR.nil) DR.cZ)
 have d89:=(DR.bS (ae.bh (x:=v80) (F0:=F87) d84) DR.cZ)
 exact en [0,7] (rs d89) eo lO
 refine .f (.f (.f (.f (.f (.f (.f (.f (.f (.f (.f (.f (.f (.f (.f ?_))))))))))))))
 refine .f ?_
 obtain ⟨⟨v90,v91⟩,aHa,h⟩:=bd h
 refine bp (kk (g1000:=g1000) aHa) [0] λf93 d94=>?_
 refine ⟨_,cm,rfl,rfl,_,_,rfl,aj,(.d (bk h λOq aHb h=>(bK (aX aHb) [0] ?_)))⟩
 refine .d ⟨rfl,_,rfl,rfl,_,_,rfl,aj,?_⟩
 obtain rfl:=si h
 refine ⟨rfl,_,rfl,(.ab 7 0 3 6 _ (λ_=>gN (d94).po) λF97=>?_)⟩
 have d98:=(DR.bS (ae.bh (x:=(ae.mk 3 0 [] [])) (F0:=(λ_=>False)) DR.nil) DR.cZ)
 have d99:=(DR.bS (ae.bh (x:=v90) (F0:=F97) d94) DR.cZ)
 exact en [0,7] (rs d99) eo lO
 refine .d (bk h λaBx aBz h=>(bK (aX aBz) [0] ?_))
 refine .d ⟨rfl,_,rfl,rfl,_,_,rfl,aj,?_⟩
 obtain rfl:=si h
 refine ⟨rfl,_,rfl,?_⟩
 have d102:=(DR.bS (ae.bh (x:=(ae.mk 3 0 [] [])) (F0:=(λ_=>False)) DR.nil) DR.cZ)
 exact en [0,5] (rs d102) eo lO
 refine .d ⟨rfl,rfl,_,_,rfl,aj,?_⟩
 obtain ⟨aHc,h,aBA⟩:=bd h
 refine .cut (λσ η=>∃aaK,∃aaL,∃aaM,∃aaN,∃Te,(aaK,aaL,aaM,aaN,Te)=aHc/\σ=[(0,.aA 0 g1000 0 0),(2,.aA 1 0 0 0),(3,.aA 3 0 0 0)]/\η=[.row g1000 4 1 62 (λ_=>[sl 4 ah.cells aaK,pI aaL,pI aaM,pI aaN]),.row 0 4 1 29 (λ_=>[pI 0,pI 0,.str [],.own 2 0 0 0]),.row 0 4 0 29 (λ_=>[]),.row 0 4 1 29 (λ_=>[pI 55,pI Te,.str [],.own 4 0 0 0]),.row 0 4 0 29 (λ_=>[])]) ?_ ?_
 refine .d ?_
 obtain ⟨⟨EV,xt⟩,Js,h⟩:=bd h
 refine bK (aQ Js) [0] ?_
 refine sV h (λJt h=>?_) (λJt h=>?_)
 exact ⟨rfl,rfl,_,rfl,rfl,rfl,_,_,rfl,aj,(ct ⟨_,_,_,_,_,si h,rfl,rfl⟩ (tk [0,1,2,3,4] gP aBB))⟩
 exact ct ⟨_,_,_,_,_,si h,rfl,rfl⟩ (tk [0,1,2,3,4] gP aBB)
 rintro _ _ ⟨aaK,aaL,aaM,aaN,Te,rfl,rfl,rfl⟩
 replace h:=aBA
 refine .d (bk h λBj Ck h=>(bK (aX Ck) [0] ?_))
 refine .d ?_
 obtain ⟨⟨v117,SO⟩,aBC,h⟩:=bd h
 refine bK (dL aBC) [0] ?_
 refine ⟨rfl,rfl,_,_,rfl,aj,(.d (pcN 2 (a1:=[.aA 0 g1000 0 0,pI 24,.own 5 0 0 0]) (h2:=[.row g1000 4 1 62 (λ_=>SO.lit),.row 0 4 1 29 (λ_=>[pI 0,pI 0,.str [],.own 2 0 0 0]),.row 0 4 0 29 (λ_=>[]),.row 0 4 1 29 (λ_=>[pI 55,pI Te,.str v117,.own 4 0 0 0]),.row 0 4 0 29 (λ_=>[]),.row 0 4 0 29 (λ_=>[])]) ?_))⟩
 obtain ⟨⟨vk,aBy⟩,aBD,h⟩:=bd h
 refine QY (nf (g1000:=g1000) (g1001:=0) aBD (DR.nil (D:=ae.D))) [0,5] ⟨rfl,(OQ (DR.nil (D:=ae.D))),⟨⟩⟩ λf123 d124=>?_
 refine ⟨rfl,rfl,_,_,rfl,aj,(.d (.float [(0,true),(1,true),(2,true),(3,false),(4,false),(5,false),(6,true),(7,false)] aNh ?_))⟩
 refine ⟨rfl,rfl,_,rfl,?_⟩
 obtain ⟨⟨OZ,Jm⟩,UZ,h⟩:=bd h
 refine bp (xf (g1000:=g1000) UZ) [0] λf128 d129=>?_
 refine ⟨rfl,rfl,_,bT,rfl,rfl,(bk h λamf Ln h=>(.dO ⟨rfl,rfl,(λ_ _=>rfl),DR.rO d124 Ln,amf.length,da f123 vk.length [pI OZ.ai,pI OZ.aE,.str OZ.aq,.own 7 0 0 OZ.af.length],DR.ln d124 Ln,cc (DR.ln d124 Ln) ⟨.same _,.same _,.same _,.same _,trivial⟩,rfl,rfl,_,_,rfl,aj,(.d ⟨rfl,_,rfl,rfl,_,_,rfl,aj,?_⟩)⟩))⟩
 obtain rfl:=si h
 refine ⟨rfl,_,rfl,(.ab 6 vk.length 3 7 _ (λ_=>pf (DR.lq d124 Ln) (d129).po) λaHd=>?_)⟩
 have d133:=DR.gu d124 Ln (ae.bh (x:=OZ) (F0:=aHd) d129)
 exact en [0,6] (rs d133) eo lO
def dY (Oh:List ah) (ME:Int) (EE:Int) (H8:Int) (GF:List ae):Option Bw:=
 aB (aC.mk Oh ME EE H8) [117,115,101]>>=λ(qO,v46)=>
 (if qO=true then
 cf v46 3>>=λ(v49,JB)=>
 cC 56 GF [(ae.mk 53 0 v49 [])]>>=λl52=>
 aL JB [59]>>=λQN=>
 dY QN.fT QN.fI QN.aw QN.av l52
 else
 some (v46.fT,v46.fI,v46.aw,v46.av,GF))
partial_fixpoint
def dZ (l69:List ah) (Tf:Int) (y71:Int) (y72:Int) (Fj:List ae):Option Bw:=
 (if y72<0 then
 aB (aC.mk l69 Tf y71 y72) [125]>>=λ(v79,v80)=>
 (if v79=true then
 some (v80.fT,v80.fI,v80.aw,v80.av,Fj)
 else
 js v80>>=λ(Lo,GA)=>
 cC 56 Fj [Lo]>>=λl88=>
 dZ GA.fT GA.fI GA.aw GA.av l88)
 else
 some (l69,Tf,y71,y72,Fj))
partial_fixpoint
def lA (a0:aC) (a1:Int):Option mo:=
 cf a0 3>>=λ(v1,v2)=>
 (
 (if a1=50 then
 aB v2 [101,120,116,101,110,100,115]>>=λ(yq,qV)=>
 (if yq=true then
 cf qV 3>>=λ(nL,v20)=>
 must (1*56<=140737488355328)>>=λ_=>
 some (v20.fT,v20.fI,v20.aw,v20.av,[(ae.mk 52 0 nL [])])
 else
 some (qV.fT,qV.fI,qV.aw,qV.av,([]:List ae)))
 else
 some (v2.fT,v2.fI,v2.aw,v2.av,([]:List ae)))
 :Option Bw)>>=λ(l4,y5,y6,y7,l8)=>
 aL (aC.mk l4 y5 y6 y7) [123]>>=λv24=>
 (
 dY v24.fT v24.fI v24.aw v24.av l8
 :Option Bw)>>=λ(xO,QO,Ol,y29,H7)=>
 (
 dZ xO QO Ol y29 H7
 :Option Bw)>>=λ(l59,y60,y61,y62,Jc)=>
 some ((ae.mk a1 0 v1 Jc),(aC.mk l59 y60 y61 y62))
theorem xg {a0:aC} {a1:Int} {r:ae×aC} {g1000:Nat} (h:lA a0 a1=some r):axN 119 a0 a1 r g1000:=by
 refine ep Tryz.func119 ?_
 unfold lA at h
 refine .d (.d ?_)
 obtain ⟨⟨v1,v2⟩,tD,h⟩:=bd h
 refine bK (dL tD) [0] ?_
 refine p9 (bA _ _ _ _ rfl) ⟨rfl,_,_,rfl,aj,?_⟩
 obtain ⟨Q1,h,amg⟩:=bd h
 refine .cut (λσ η=>∃l4,∃y5,∃y6,∃y7,∃l8,∃f9:Nat->List PV,DR ae.D l8.length f9 l8/\(l4,y5,y6,y7,l8)=Q1/\σ=[(0,.aA 0 g1000 0 0),(4,.aA 1 0 0 0),(5,.aA 3 0 0 0)]/\η=[.row g1000 4 1 62 (λ_=>[sl 4 ah.cells l4,pI y5,pI y6,pI y7]),.row 0 4 1 29 (λ_=>[pI 0,pI 0,.str [],.own 2 0 0 0]),.row 0 4 0 29 (λ_=>[]),.row 0 4 1 29 (λ_=>[pI a1,pI 0,.str v1,.own 4 0 0 l8.length]),.row 0 4 l8.length 29 f9]) ?_ ?_
 refine .d (sE h (λsq h=>?_) (λsq h=>?_))
 refine .t ?_
 obtain ⟨⟨yq,qV⟩,Ci,h⟩:=bd h
 refine bK (aQ Ci) [0] ?_
 refine .t (sV h (λyF h=>?_) (λyF h=>?_))
 refine .float [(0,true),(1,true),(2,true),(3,false),(4,false),(5,false),(6,false),(7,true),(8,false)] aNh ?_
 refine ⟨rfl,rfl,_,rfl,?_⟩
 obtain ⟨⟨nL,v20⟩,amh,h⟩:=bd h
 refine bK (dL amh) [0] ?_
 refine ⟨rfl,rfl,(p9 (bA _ _ _ _ rfl) ⟨rfl,rfl,_,bT,rfl,rfl,?_⟩)⟩
 obtain ⟨_,aHe,h⟩:=bd h
 refine .dO ⟨rfl,(λ_ _=>rfl),wA aHe,1,da (λ_=>[]) 0 [pI 52,pI 0,.str nL,.dI 4 0 29 (λ_=>[]) (λ_=>False)],rfl,HZ rfl ⟨.same _,.same _,.same _,.Bu _ _ _,trivial⟩,rfl,rfl,_,_,rfl,aj,?_⟩
 have d23:DR ae.D 1 (da (λ_=>[]) 0 [pI 52,pI 0,.str nL,.dI 4 0 29 (λ_=>[]) (λ_=>False)]) [(ae.mk 52 0 nL [])]:=DR.app DR.nil (ae.bh (x:=(ae.mk 52 0 nL [])) DR.nil:ae.D [pI 52,pI 0,.str nL,.dI 4 0 29 (λ_=>[]) (λ_=>False)] (ae.mk 52 0 nL []))
 exact ct ⟨_,_,_,_,_,_,d23.self,si h,rfl,rfl⟩ (tk [0,1,7,2,4] gP ED)
 exact ct ⟨_,_,_,_,_,_,(DR.nil (D:=ae.D)).self,si h,rfl,rfl⟩ (tk [0,1,5,2,7] gP T5)
 exact .f (.f (.f (ct ⟨_,_,_,_,_,_,(DR.nil (D:=ae.D)).self,si h,rfl,rfl⟩ (tk [0,1,5,2,7] gP T5))))
 rintro _ _ ⟨l4,y5,y6,y7,l8,f9,d10,rfl,rfl,rfl⟩
 replace h:=amg
 refine .d (bk h λv24 Nt h=>(bK (aX Nt) [0] ?_))
 obtain ⟨o33,h,aHf⟩:=bd h
 refine .cut (λσ η=>∃xO,∃QO,∃Ol,∃y29,∃H7,∃f31:Nat->List PV,DR ae.D H7.length f31 H7/\(xO,QO,Ol,y29,H7)=o33/\σ=[(0,.aA 0 g1000 0 0),(4,.aA 1 0 0 0),(5,.aA 3 0 0 0)]/\η=[.row g1000 4 1 62 (λ_=>[sl 4 ah.cells xO,pI QO,pI Ol,pI y29]),.row 0 4 1 29 (λ_=>[pI 0,pI 0,.str [],.own 2 0 0 0]),.row 0 4 0 29 (λ_=>[]),.row 0 4 1 29 (λ_=>[pI a1,pI 0,.str v1,.own 4 0 0 H7.length]),.row 0 4 H7.length 29 f31]) ?_ ?_
 refine le (dY.partial_correctness  (motive:=λOh ME EE H8 GF o57=>∀f41:Nat->List PV,DR ae.D GF.length f41 GF->o33=o57->aK _ _ [(0,.aA 0 g1000 0 0),(4,.aA 1 0 0 0),(5,.aA 3 0 0 0)] [.row g1000 4 1 62 (λ_=>[sl 4 ah.cells Oh,pI ME,pI EE,pI H8]),.row 0 4 1 29 (λ_=>[pI 0,pI 0,.str [],.own 2 0 0 0]),.row 0 4 0 29 (λ_=>[]),.row 0 4 1 29 (λ_=>[pI a1,pI 0,.str v1,.own 4 0 0 GF.length]),.row 0 4 GF.length 29 f41]) ?_ v24.fT v24.fI v24.aw v24.av l8 o33 h f9 d10 rfl) (tk [0,1,2,3,4] gP tz5)
 intro F44 aHg Oh ME EE H8 GF o57 h f41 d42 aHh
 subst aHh
 refine aK.round (.d (.d ?_))
 obtain ⟨⟨qO,v46⟩,Zv,h⟩:=bd h
 refine bK (aQ Zv) [0] ?_
 refine sV h (λZy h=>?_) (λZy h=>?_)
 refine .d (.float [(0,true),(1,true),(2,true),(3,false),(4,false),(5,false),(6,false),(7,true),(8,false)] aNh ?_)
 refine ⟨rfl,rfl,_,rfl,?_⟩
 obtain ⟨⟨v49,JB⟩,Nh,h⟩:=bd h
 refine bK (dL Nh) [0] ?_
 refine ⟨rfl,rfl,(p9 (bA _ _ _ _ rfl) ⟨rfl,rfl,_,bT,rfl,rfl,(bk h λl52 aeC h=>(.dO ⟨rfl,rfl,(λ_ _=>rfl),DR.rO d42 aeC,l52.length,da f41 GF.length [pI 53,pI 0,.str v49,.dI 4 0 29 (λ_=>[]) (λ_=>False)],DR.ln d42 aeC,cc (DR.ln d42 aeC) ⟨.same _,.same _,.same _,.Bu _ _ _,trivial⟩,rfl,rfl,_,_,rfl,aj,(bk h λQN Oi h=>(bK (aX Oi) [0] ?_))⟩))⟩)⟩
 have d56:=DR.gu d42 aeC (ae.bh (x:=(ae.mk 53 0 v49 [])) (F0:=(λ_=>False)) DR.nil)
 exact lg (aHg _ _ _ _ _ _ h _ d56 rfl) (tk [0,1,2,3,4] gP tz5)
 exact ct ⟨_,_,_,_,_,f41,d42,si h,rfl,rfl⟩ (tk [0,1,2,3,4] gP tz5)
 rintro _ _ ⟨xO,QO,Ol,y29,H7,f31,d32,rfl,rfl,rfl⟩
 replace h:=aHf
 obtain ⟨o66,h,ami⟩:=bd h
 refine .cut (λσ η=>∃l59,∃y60,∃y61,∃y62,∃Jc,∃f64:Nat->List PV,DR ae.D Jc.length f64 Jc/\(l59,y60,y61,y62,Jc)=o66/\σ=[(4,.aA 1 0 0 0),(5,.aA 3 0 0 0)]/\η=[.row g1000 4 1 62 (λ_=>[sl 4 ah.cells l59,pI y60,pI y61,pI y62]),.row 0 4 1 29 (λ_=>[pI 0,pI 0,.str [],.own 2 0 0 0]),.row 0 4 0 29 (λ_=>[]),.row 0 4 1 29 (λ_=>[pI a1,pI 0,.str v1,.own 4 0 0 Jc.length]),.row 0 4 Jc.length 29 f64]) ?_ ?_
 refine le (dZ.partial_correctness  (motive:=λl69 Tf y71 y72 Fj o92=>∀f74:Nat->List PV,DR ae.D Fj.length f74 Fj->o66=o92->aK _ _ [(0,.aA 0 g1000 0 0),(4,.aA 1 0 0 0),(5,.aA 3 0 0 0)] [.row g1000 4 1 62 (λ_=>[sl 4 ah.cells l69,pI Tf,pI y71,pI y72]),.row 0 4 1 29 (λ_=>[pI 0,pI 0,.str [],.own 2 0 0 0]),.row 0 4 0 29 (λ_=>[]),.row 0 4 1 29 (λ_=>[pI a1,pI 0,.str v1,.own 4 0 0 Fj.length]),.row 0 4 Fj.length 29 f74]) ?_ xO QO Ol y29 H7 o66 h f31 d32 rfl) (tk [0,1,2,3,4] gP tz5)
 intro F77 aHi l69 Tf y71 y72 Fj o92 h f74 d75 aHj
 subst aHj
 refine aK.round (.d (.d ⟨rfl,rfl,rfl,_,rfl,(sD h (λaiC h=>?_) (λaiC h=>?_))⟩))
 refine .t ?_
 obtain ⟨⟨v79,v80⟩,aHk,h⟩:=bd h
 refine bK (aQ aHk) [0] ?_
 refine .t (.t (fP h (λamj h=>?_) (λamj h=>?_)))
 refine .float [(0,true),(1,true),(2,true),(3,false),(4,false),(5,false),(6,true),(7,false)] aNh ?_
 refine ⟨rfl,rfl,_,rfl,?_⟩
 obtain ⟨⟨Lo,GA⟩,ali,h⟩:=bd h
 refine bp (Dk (g1000:=g1000) ali) [0] λf86 d87=>?_
 refine ⟨rfl,rfl,_,bT,rfl,rfl,(bk h λl88 Ij h=>(.dO ⟨rfl,rfl,(λ_ _=>rfl),DR.rO d75 Ij,l88.length,da f74 Fj.length [pI Lo.ai,pI Lo.aE,.str Lo.aq,.own 5 0 0 Lo.af.length],DR.ln d75 Ij,cc (DR.ln d75 Ij) ⟨.same _,.same _,.same _,.same _,trivial⟩,rfl,rfl,_,_,rfl,aj,(.ab 4 Fj.length 3 5 _ (λ_=>pf (DR.lq d75 Ij) (d87).po) λF90=>?_)⟩))⟩
 have d91:=DR.gu d75 Ij (ae.bh (x:=Lo) (F0:=F90) d87)
 exact lg (aHi _ _ _ _ _ _ h _ d91 rfl) (tk [0,1,2,3,4] gP tz5)
 exact ct ⟨_,_,_,_,_,f74,d75,si h,rfl,rfl⟩ (tk [0,1,2,3,4] uO tz5)
 exact .f (.f (.f (.f (ct ⟨_,_,_,_,_,f74,d75,si h,rfl,rfl⟩ (tk [0,1,2,3,4] uO tz5)))))
 rintro _ _ ⟨l59,y60,y61,y62,Jc,f64,d65,rfl,rfl,rfl⟩
 replace h:=ami
 refine .d ⟨rfl,_,rfl,rfl,_,_,rfl,aj,?_⟩
 obtain rfl:=si h
 exact ⟨rfl,_,rfl,(en [0,4] ⟨f64,d65.self,rfl,rfl⟩ eo lO)⟩
def bZ (Bv:List ah) (Gu:Int) (xd:Int) (qa:Int) (tM:List ae) (yr:List ae):Option ty9:=
 (if qa<0 then
 (if Gu<(Bv.length:Int) then
 aB (aC.mk Bv Gu xd qa) [59]>>=λ(v28,SF)=>
 (if v28=true then
 bZ SF.fT SF.fI SF.aw SF.av tM yr
 else
 (
 bq SF 0 3 [102,117,110,99,116,105,111,110]>>=λ(v40,zC)=>
 (if v40=true then
 bq zC 1 3 []>>=λ(xc,qO)=>
 some (qO.fT,qO.fI,qO.aw,qO.av,xc)
 else
 some (zC.fT,zC.fI,zC.aw,zC.av,false))
 :Option S4)>>=λ(l32,O1,y34,y35,b36)=>
 (if b36=true then
 cf (aC.mk l32 (bm (O1+1)) y34 y35) 3>>=λ(E3,v49)=>
 eH v49 24 ([]:List ae)>>=λ(v51,tt)=>
 bV tt>>=λ(yD,zX)=>
 cC 56 v51 [yD]>>=λYg=>
 cC 56 yr [(ae.mk 49 0 E3 Yg)]>>=λJc=>
 bZ zX.fT zX.fI zX.aw zX.av tM Jc
 else
 aB (aC.mk l32 O1 y34 y35) [99,108,97,115,115]>>=λ(v69,v70)=>
 (if v69=true then
 lA v70 50>>=λ(v73,v74)=>
 cC 56 yr [v73]>>=λl78=>
 bZ v74.fT v74.fI v74.aw v74.av tM l78
 else
 aB v70 [116,114,97,105,116]>>=λ(Un,Lo)=>
 (if Un=true then
 lA Lo 51>>=λ(MH,v87)=>
 cC 56 yr [MH]>>=λl91=>
 bZ v87.fT v87.fI v87.aw v87.av tM l91
 else
 bb Lo>>=λ(Oq,P6)=>
 cC 56 yr [Oq]>>=λamk=>
 bZ P6.fT P6.fI P6.aw P6.av tM amk))))
 else
 some (Bv,Gu,xd,qa,tM,yr))
 else
 some (Bv,Gu,xd,qa,tM,yr))
partial_fixpoint
def lZ (a0:aC):Option mo:=
 (
 bZ a0.fT a0.fI a0.aw a0.av ([]:List ae) ([]:List ae)
 :Option ty9)>>=λ(l1,y2,y3,y4,l5,l8)=>
 some ((ae.mk 56 0 [] l8),(aC.mk l1 y2 y3 y4))
theorem Dl {a0:aC} {r:ae×aC} {g1000:Nat} (h:lZ a0=some r):GB 57 a0 r g1000:=by
 refine ep Tryz.func57 ?_
 unfold lZ at h
 refine .d (.d (p9 (bA _ _ _ _ rfl) ⟨rfl,_,_,rfl,aj,?_⟩))
 obtain ⟨Q1,h,amg⟩:=bd h
 refine .cut (λσ η=>∃l1,∃y2,∃y3,∃y4,∃l5,∃l8,∃f6:Nat->List PV,∃f9:Nat->List PV,DR ae.D l5.length f6 l5/\DR ae.D l8.length f9 l8/\(l1,y2,y3,y4,l5,l8)=Q1/\σ=[(2,.aA 1 0 0 0),(3,.aA 3 0 0 0)]/\η=[.row g1000 4 1 62 (λ_=>[sl 4 ah.cells l1,pI y2,pI y3,pI y4]),.row 0 4 1 29 (λ_=>[pI 0,pI 0,.str [],.own 2 0 0 l5.length]),.row 0 4 l5.length 29 f6,.row 0 4 1 29 (λ_=>[pI 56,pI 0,.str [],.own 4 0 0 l8.length]),.row 0 4 l8.length 29 f9]) ?_ ?_
 refine le (bZ.partial_correctness ([]:List ae) (motive:=λBv Gu xd qa yr aBE=>∀f19:Nat->List PV,∀f22:Nat->List PV,DR ae.D ([]:List ae).length f19 ([]:List ae)->DR ae.D yr.length f22 yr->Q1=aBE->aK _ _ [(0,.aA 0 g1000 0 0),(2,.aA 1 0 0 0),(3,.aA 3 0 0 0)] [.row g1000 4 1 62 (λ_=>[sl 4 ah.cells Bv,pI Gu,pI xd,pI qa]),.row 0 4 1 29 (λ_=>[pI 0,pI 0,.str [],.own 2 0 0 ([]:List ae).length]),.row 0 4 ([]:List ae).length 29 f19,.row 0 4 1 29 (λ_=>[pI 56,pI 0,.str [],.own 4 0 0 yr.length]),.row 0 4 yr.length 29 f22]) ?_ a0.fT a0.fI a0.aw a0.av ([]:List ae) Q1 h (λ_=>[]) (λ_=>[]) ((DR.nil (D:=ae.D)).self) ((DR.nil (D:=ae.D)).self) rfl) (tk [0,1,5,2,7] gP T5)
 intro F25 aaQ Bv Gu xd qa yr aBE h f19 f22 d20 d23 aBF
 subst aBF
 refine aK.round (.d (.d ⟨rfl,rfl,rfl,_,rfl,(sD h (λwP h=>?_) (λwP h=>?_))⟩))
 refine .t ⟨rfl,(.t ⟨rfl,(.t ⟨rfl,_,rfl,(.t (.t ⟨rfl,(.t ⟨rfl,(.t ⟨rfl,_,rfl,(.t (.t ?_))⟩)⟩)⟩))⟩)⟩)⟩
 refine .t (sD h (λHz h=>?_) (λHz h=>?_))
 refine .d ?_
 obtain ⟨⟨v28,SF⟩,Zo,h⟩:=bd h
 refine bK (aQ Zo) [0] ?_
 refine sV h (λzL h=>?_) (λzL h=>?_)
 exact lg (aaQ _ _ _ _ _ _ h f19 f22 d20 d23 rfl) (tk [0,1,2,3,4] gP nQ)
 obtain ⟨o37,h,aHl⟩:=bd h
 refine .cut (λσ η=>∃l32,∃O1,∃y34,∃y35,∃b36,(l32,O1,y34,y35,b36)=o37/\σ=[(0,.aA 0 g1000 0 0),(2,.aA 1 0 0 0),(3,.aA 3 0 0 0),(12,.aA 0 g1000 0 0),(13,.aA 0 g1000 0 0),(14,.aA 0 g1000 0 1),(15,pI Gu),(16,.aA 0 g1000 0 0),(17,.aA 0 g1000 0 0),(18,.aA 0 g1000 0 0),(19,sl 4 ah.cells Bv),(20,pI (Bv.length:Int)),(21,.bool (decide (Gu<(Bv.length:Int)))),(33,.bool b36)]/\η=[.row g1000 4 1 62 (λ_=>[sl 4 ah.cells l32,pI O1,pI y34,pI y35]),.row 0 4 1 29 (λ_=>[pI 0,pI 0,.str [],.own 2 0 0 ([]:List ae).length]),.row 0 4 ([]:List ae).length 29 f19,.row 0 4 1 29 (λ_=>[pI 56,pI 0,.str [],.own 4 0 0 yr.length]),.row 0 4 yr.length 29 f22]) ?_ ?_
 obtain ⟨⟨v40,zC⟩,aaO,h⟩:=bd h
 refine bK (cO aaO) [0] ?_
 refine sV h (λO0 h=>?_) (λO0 h=>?_)
 refine .t ?_
 obtain ⟨⟨xc,qO⟩,Ng,h⟩:=bd h
 refine bK (cO Ng) [0] ?_
 exact .t (ct ⟨_,_,_,_,_,si h,rfl,rfl⟩ (tk [0,1,2,3,4] ⟨.p,.p,.p,.p,.p,.p,.i,.p,.p,.p,.l,.i,.b,.b,⟨⟩⟩ nQ))
 exact .f (.f (ct ⟨_,_,_,_,_,si h,rfl,rfl⟩ (tk [0,1,2,3,4] ⟨.p,.p,.p,.p,.p,.p,.i,.p,.p,.p,.l,.i,.b,.b,⟨⟩⟩ nQ)))
 rintro _ _ ⟨l32,O1,y34,y35,b36,rfl,rfl,rfl⟩
 replace h:=aHl
 refine sV h (λCg h=>?_) (λCg h=>?_)
 refine .d ⟨rfl,rfl,rfl,_,rfl,rfl,rfl,rfl,_,_,rfl,aj,(.d ?_)⟩
 obtain ⟨⟨E3,v49⟩,NZ,h⟩:=bd h
 refine bK (dL NZ) [0] ?_
 refine p9 (bA _ _ _ _ rfl) ⟨rfl,_,_,rfl,aj,(.d (pcN 2 (a1:=[.aA 0 g1000 0 0,pI 24,.own 6 0 0 0]) (h2:=[.row g1000 4 1 62 (λ_=>v49.lit),.row 0 4 1 29 (λ_=>[pI 0,pI 0,.str [],.own 2 0 0 ([]:List ae).length]),.row 0 4 ([]:List ae).length 29 f19,.row 0 4 1 29 (λ_=>[pI 56,pI 0,.str [],.own 4 0 0 yr.length]),.row 0 4 yr.length 29 f22,.row 0 4 1 29 (λ_=>[pI 49,pI 0,.str E3,.ck]),.row 0 4 0 29 (λ_=>[])]) ?_))⟩
 obtain ⟨⟨v51,tt⟩,H9,h⟩:=bd h
 refine QY (nf (g1000:=g1000) (g1001:=0) H9 (DR.nil (D:=ae.D))) [0,6] ⟨rfl,(OQ (DR.nil (D:=ae.D))),⟨⟩⟩ λf54 d55=>?_
 refine ⟨rfl,rfl,_,_,rfl,aj,(.d (.float [(0,true),(1,true),(2,true),(3,false),(4,false),(5,false),(6,true),(7,false)] aNh ?_))⟩
 refine ⟨rfl,rfl,_,rfl,?_⟩
 obtain ⟨⟨yD,zX⟩,ajk,h⟩:=bd h
 refine bp (xf (g1000:=g1000) ajk) [0] λf59 d60=>?_
 refine ⟨rfl,rfl,_,bT,rfl,rfl,(bk h λYg CM h=>(.dO ⟨rfl,rfl,(λ_ _=>rfl),DR.rO d55 CM,Yg.length,da f54 v51.length [pI yD.ai,pI yD.aE,.str yD.aq,.own 8 0 0 yD.af.length],DR.ln d55 CM,cc (DR.ln d55 CM) ⟨.same _,.same _,.same _,.same _,trivial⟩,rfl,rfl,_,_,rfl,aj,rfl,rfl,_,rfl,rfl,_,rfl,_,bT,(bk h λJc CV h=>(.dO ⟨rfl,rfl,(λ_ _=>rfl),DR.rO d23 CV,Jc.length,da f22 yr.length [pI 49,pI 0,.str E3,.own 7 (0+1) 0 Yg.length],DR.ln d23 CV,cc (DR.ln d23 CV) ⟨.same _,.same _,.same _,.same _,trivial⟩,?_⟩))⟩))⟩
 refine ⟨rfl,rfl,_,_,rfl,aj,(.ab 7 v51.length 3 8 _ (λ_=>pf (DR.lq d55 CM) (d60).po) λF65=>?_)⟩
 have d66:=DR.gu d55 CM (ae.bh (x:=yD) (F0:=F65) d60)
 refine .ab 4 yr.length 3 7 _ (λ_=>pf (DR.lq d23 CV) (d66).po) λF67=>?_
 have d68:=DR.gu d23 CV (ae.bh (x:=(ae.mk 49 0 E3 Yg)) (F0:=F67) d66)
 exact lg (aaQ _ _ _ _ _ _ h f19 _ d20 d68 rfl) (tk [0,1,2,3,4] gP nQ)
 refine .d ?_
 obtain ⟨⟨v69,v70⟩,akA,h⟩:=bd h
 refine bK (aQ akA) [0] ?_
 refine sV h (λaHm h=>?_) (λaHm h=>?_)
 refine .float [(0,true),(1,true),(2,true),(3,false),(4,false),(5,false),(6,true),(7,false)] aNh ?_
 refine ⟨rfl,rfl,_,rfl,?_⟩
 obtain ⟨⟨v73,v74⟩,akB,h⟩:=bd h
 refine bp (xg (g1000:=g1000) akB) [0] λf76 d77=>?_
 refine ⟨rfl,rfl,_,bT,rfl,rfl,(bk h λl78 Ab h=>(.dO ⟨rfl,rfl,(λ_ _=>rfl),DR.rO d23 Ab,l78.length,da f22 yr.length [pI v73.ai,pI v73.aE,.str v73.aq,.own 5 0 0 v73.af.length],DR.ln d23 Ab,cc (DR.ln d23 Ab) ⟨.same _,.same _,.same _,.same _,trivial⟩,rfl,rfl,_,_,rfl,aj,(.ab 4 yr.length 3 5 _ (λ_=>pf (DR.lq d23 Ab) (d77).po) λF80=>?_)⟩))⟩
 have d81:=DR.gu d23 Ab (ae.bh (x:=v73) (F0:=F80) d77)
 exact lg (aaQ _ _ _ _ _ _ h f19 _ d20 d81 rfl) (tk [0,1,2,3,4] gP nQ)
 refine .d ?_
 obtain ⟨⟨Un,Lo⟩,aHn,h⟩:=bd h
 refine bK (aQ aHn) [0] ?_
 refine sV h (λaHo h=>?_) (λaHo h=>?_)
 refine .float [(0,true),(1,true),(2,true),(3,false),(4,false),(5,false),(6,true),(7,false)] aNh ?_
 refine ⟨rfl,rfl,_,rfl,?_⟩
 obtain ⟨⟨MH,v87⟩,aHp,h⟩:=bd h
 refine bp (xg (g1000:=g1000) aHp) [0] λf89 d90=>?_
 refine ⟨rfl,rfl,_,bT,rfl,rfl,(bk h λl91 aaR h=>(.dO ⟨rfl,rfl,(λ_ _=>rfl),DR.rO d23 aaR,l91.length,da f22 yr.length [pI MH.ai,pI MH.aE,.str MH.aq,.own 5 0 0 MH.af.length],DR.ln d23 aaR,cc (DR.ln d23 aaR) ⟨.same _,.same _,.same _,.same _,trivial⟩,rfl,rfl,_,_,rfl,aj,(.ab 4 yr.length 3 5 _ (λ_=>pf (DR.lq d23 aaR) (d90).po) λF93=>?_)⟩))⟩
 have d94:=DR.gu d23 aaR (ae.bh (x:=MH) (F0:=F93) d90)
 exact lg (aaQ _ _ _ _ _ _ h f19 _ d20 d94 rfl) (tk [0,1,2,3,4] gP nQ)
 refine .float [(0,true),(1,true),(2,true),(3,false),(4,false),(5,false),(6,true),(7,false)] aNh ?_
 refine ⟨rfl,rfl,_,rfl,?_⟩
 obtain ⟨⟨Oq,P6⟩,UU,h⟩:=bd h
 refine bp (Ii (g1000:=g1000) UU) [0] λf98 d99=>?_
 refine ⟨rfl,rfl,_,bT,rfl,rfl,(bk h λamk A6 h=>(.dO ⟨rfl,rfl,(λ_ _=>rfl),DR.rO d23 A6,amk.length,da f22 yr.length [pI Oq.ai,pI Oq.aE,.str Oq.aq,.own 5 0 0 Oq.af.length],DR.ln d23 A6,cc (DR.ln d23 A6) ⟨.same _,.same _,.same _,.same _,trivial⟩,rfl,rfl,_,_,rfl,aj,(.ab 4 yr.length 3 5 _ (λ_=>pf (DR.lq d23 A6) (d99).po) λaBG=>?_)⟩))⟩
 have d103:=DR.gu d23 A6 (ae.bh (x:=Oq) (F0:=aBG) d99)
 exact lg (aaQ _ _ _ _ _ _ h f19 _ d20 d103 rfl) (tk [0,1,2,3,4] gP nQ)
 exact ct ⟨_,_,_,_,_,_,f19,f22,d20,d23,si h,rfl,rfl⟩ (tk [0,1,2,3,4] uO nQ)
 exact .f (.f (.f (.f (.f (.f (.f (.f (.f (.f (.f (ct ⟨_,_,_,_,_,_,f19,f22,d20,d23,si h,rfl,rfl⟩ (tk [0,1,2,3,4] uO nQ))))))))))))
 rintro _ _ ⟨l1,y2,y3,y4,l5,l8,f6,f9,d7,d10,rfl,rfl,rfl⟩
 replace h:=amg
 refine .d ⟨rfl,_,rfl,rfl,_,_,rfl,aj,?_⟩
 obtain rfl:=si h
 exact ⟨rfl,_,rfl,(en [0,4] ⟨f9,d10.self,rfl,rfl⟩ eo lO)⟩
mutual
def kU (a0:ae):Option (ae×ae):=
 (
 ir a0 a0.af ([]:List ae) ([]:List ae) 0
 :Option aeD)>>=λ(l1,l4,l7)=>
 some ((ae.mk a0.ai a0.aE a0.aq l7),(ae.mk a0.ai a0.aE a0.aq l1))
partial_fixpoint
def ir (a0:ae) (yp:List ae) (tq:List ae) (oq:List ae) (uQ:Int):Option aeD:=
 (if uQ<(a0.af.length:Int) then
 idx yp uQ>>=λrj=>
 kU rj>>=λ(zB,Fc)=>
 cC 56 oq [zB]>>=λGF=>
 ir a0 (yp.set uQ.toNat (ae.mk rj.ai rj.aE rj.aq Fc.af)) tq GF (bm (uQ+1))
 else
 some (yp,tq,oq))
partial_fixpoint
end
def aaS (a0:ae) (r:ae×ae):Prop:=∀g1000:Nat,∀eR:Nat,∀gX:Nat->List PV,DR ae.D eR gX a0.af->ACall Tryz.prog 52 [.agg [pI a0.ai,pI a0.aE,.str a0.aq,.own 0 g1000 0 eR]] [.row g1000 4 eR 29 gX] (λres h=>∃F0:Nat->List PV,∃F1:Nat->List PV,DR ae.D eR F0 r.2.af/\DR ae.D r.1.af.length F1 r.1.af/\res=.agg [pI r.1.ai,pI r.1.aE,.str r.1.aq,.own 1 0 0 r.1.af.length]/\h=[.row g1000 4 eR 29 F0,.row 0 4 r.1.af.length 29 F1])
inductive jF:ae->(List ae)->(List ae)->(List ae)->Int->aeD->Prop
 | mk (G52:ae->Option (ae×ae)) (aJT:∀a0 r,G52 a0=some r->aaS a0 r) (sP:ae->(List ae)->(List ae)->(List ae)->Int->Option aeD) (Q2:∀a0 yp tq oq uQ o,sP a0 yp tq oq uQ=some o->jF a0 yp tq oq uQ o) (a0:ae) (yp:List ae) (tq:List ae) (oq:List ae) (uQ:Int) (o:(List ae)×(List ae)×(List ae)) (h:(
 (if uQ<(a0.af.length:Int) then
 idx yp uQ>>=λrj=>
 G52 rj>>=λ(zB,Fc)=>
 cC 56 oq [zB]>>=λGF=>
 sP a0 (yp.set uQ.toNat (ae.mk rj.ai rj.aE rj.aq Fc.af)) tq GF (bm (uQ+1))
 else
 some (yp,tq,oq))
 )=some o):jF a0 yp tq oq uQ o
theorem Dm:(∀a0 r,kU a0=some r->aaS a0 r)/\(∀a0 yp tq oq uQ o,ir a0 yp tq oq uQ=some o->jF a0 yp tq oq uQ o):=by
 refine kU.mutual_partial_correctness aaS jF ?_ ?_
 intro _ ahY a0 r h g1000 eR gX lX
 obtain rfl:=lX.len
 refine ep Tryz.func52 ?_
 refine .d (.d ⟨rfl,rfl,_,rfl,rfl,rfl,_,rfl,rfl,rfl,_,rfl,rfl,_,_,rfl,aj,?_⟩)
 obtain ⟨T4,h,Hu⟩:=bd h
 refine .cut (λσ η=>∃l1,∃l4,∃l7,∃f2:Nat->List PV,∃f5:Nat->List PV,∃f8:Nat->List PV,DR ae.D a0.af.length f2 l1/\DR ae.D l4.length f5 l4/\DR ae.D l7.length f8 l7/\(l1,l4,l7)=T4/\σ=[(2,.aA 1 0 0 0),(3,.aA 3 0 0 0)]/\η=[.row g1000 4 a0.af.length 29 f2,.row 0 4 1 29 (λ_=>[pI 0,pI 0,.str [],.own 2 0 0 l4.length]),.row 0 4 l4.length 29 f5,.row 0 4 1 29 (λ_=>[pI a0.ai,pI a0.aE,.str a0.aq,.own 4 0 0 l7.length]),.row 0 4 l7.length 29 f8]) ?_ ?_
 refine .d ?_
 have ahZ:=ahY _ _ _ _ _ _ h
 refine le (jF.rec (motive:=λp48 yp tq oq uQ UH _=>∀f14:Nat->List PV,∀f17:Nat->List PV,∀f20:Nat->List PV,DR ae.D a0.af.length f14 yp->DR ae.D tq.length f17 tq->DR ae.D oq.length f20 oq->a0=p48->T4=UH->aK _ _ [(1,.aA 1 0 0 0),(2,.aA 2 0 0 0),(3,.aA 4 0 0 0),(4,pI uQ)] [.row g1000 4 a0.af.length 29 f14,.row 0 4 1 29 (λ_=>[pI a0.ai,pI a0.aE,.str a0.aq,.own 0 g1000 0 a0.af.length]),.row 0 4 1 29 (λ_=>[pI 0,pI 0,.str [],.own 3 0 0 tq.length]),.row 0 4 tq.length 29 f17,.row 0 4 1 29 (λ_=>[pI a0.ai,pI a0.aE,.str a0.aq,.own 5 0 0 oq.length]),.row 0 4 oq.length 29 f20]) ?_ ahZ gX (λ_=>[]) (λ_=>[]) lX ((DR.nil (D:=ae.D)).self) ((DR.nil (D:=ae.D)).self) rfl rfl) (tk [0,1,2,7,3,9] ⟨.p,.p,.p,.i,⟨⟩⟩ ⟨oda,(nb rfl ⟨.i,.i,.s,.oe,⟨⟩⟩),(nb rfl ⟨.i,.i,.s,.g,⟨⟩⟩),gh,(nb rfl ⟨.i,.i,.s,.g,⟨⟩⟩),gh,⟨⟩⟩)
 intro _ aiy _ _ p48 yp tq oq uQ UH h aHq f14 f17 f20 d15 d18 d21 M4 M5
 subst M4
 subst M5
 refine aK.round (.d (.d ⟨rfl,rfl,_,rfl,rfl,(sD h (λwP h=>?_) (λwP h=>?_))⟩))
 refine bk h λrj Dn h=>?_
 obtain ⟨F29,f30,e32,d31⟩:=ae.ahe (DR.idx d15 Dn)
 refine .ex [.row g1000 4 a0.af.length 29 (da f14 uQ.toNat [pI rj.ai,pI rj.aE,.str rj.aq,.own 6 0 0 rj.af.length]),.row 0 4 1 29 (λ_=>[pI a0.ai,pI a0.aE,.str a0.aq,.own 0 g1000 0 a0.af.length]),.row 0 4 1 29 (λ_=>[pI 0,pI 0,.str [],.own 3 0 0 tq.length]),.row 0 4 tq.length 29 f17,.row 0 4 1 29 (λ_=>[pI a0.ai,pI a0.aE,.str a0.aq,.own 5 0 0 oq.length]),.row 0 4 oq.length 29 f20,.row 0 4 rj.af.length 29 f30] (exs 0 3 [pI rj.ai,pI rj.aE,.str rj.aq,.dI 4 rj.af.length 29 f30 F29] [pI rj.ai,pI rj.aE,.str rj.aq,.own 6 0 0 rj.af.length] (da f14 uQ.toNat [pI rj.ai,pI rj.aE,.str rj.aq,.own 6 0 0 rj.af.length]) (DR.lt d15 Dn) e32 jh aml rfl rfl rfl rfl) (.d (.float [(0,true),(1,true),(2,true),(3,true),(4,true),(5,true),(6,true),(7,false),(8,false),(9,false),(10,true),(11,false)] aNh ?_))
 refine ⟨rfl,rfl,_,rfl,rfl,rfl,_,rfl,rfl,DR.bd d15 Dn,_,aKc _,rfl,_,jh,?_⟩
 obtain ⟨⟨zB,Fc⟩,Zx,h⟩:=bd h
 refine aBH (aiy _ _ Zx _ _ _ d31) [6] ⟨(OQ d31),⟨⟩⟩ ?_
 rintro _ _ ⟨f38,f36,d39,d37,rfl,rfl⟩
 refine nx ?_
 refine ⟨rfl,rfl,_,bT,rfl,rfl,(bk h λGF Ik h=>(.dO ⟨rfl,rfl,(λ_ _=>rfl),DR.rO d21 Ik,GF.length,da f20 oq.length [pI zB.ai,pI zB.aE,.str zB.aq,.own 7 0 0 zB.af.length],DR.ln d21 Ik,cc (DR.ln d21 Ik) ⟨.same _,.same _,.same _,.same _,trivial⟩,rfl,rfl,_,_,rfl,aj,(.ab 0 uQ.toNat 3 6 _ (λ_=>pf (DR.lt d15 Dn) (d39).po) λF42=>(.ab 5 oq.length 3 7 _ (λ_=>pf (DR.lq d21 Ik) (d37).po) λF43=>?_))⟩))⟩
 have d44:DR ae.D a0.af.length (da f14 uQ.toNat [pI rj.ai,pI rj.aE,.str rj.aq,.dI 4 rj.af.length 29 f38 F42]) (yp.set uQ.toNat (ae.mk rj.ai rj.aE rj.aq Fc.af)):=DR.set d15 (O2 Dn) (ae.bh (x:=(ae.mk rj.ai rj.aE rj.aq Fc.af)) d39:ae.D [pI rj.ai,pI rj.aE,.str rj.aq,.dI 4 rj.af.length 29 f38 F42] (ae.mk rj.ai rj.aE rj.aq Fc.af))
 have d45:=DR.gu d21 Ik (ae.bh (x:=zB) (F0:=F43) d37)
 exact lg (aHq _ _ _ _ _ _ h _ f17 _ d44 d18 d45 rfl rfl) (tk [0,1,2,3,4,5] ⟨.p,.p,.p,.i,⟨⟩⟩ ⟨oda,(nb rfl ⟨.i,.i,.s,.oe,⟨⟩⟩),(nb rfl ⟨.i,.i,.s,.oe,⟨⟩⟩),yY,(nb rfl ⟨.i,.i,.s,.oe,⟨⟩⟩),yY,⟨⟩⟩)
 exact ct ⟨_,_,_,f14,f17,f20,d15,d18,d21,si h,rfl,rfl⟩ (tk [0,2,3,4,5] uO ⟨oda,(nb rfl ⟨.i,.i,.s,.oe,⟨⟩⟩),yY,(nb rfl ⟨.i,.i,.s,.oe,⟨⟩⟩),yY,⟨⟩⟩)
 rintro _ _ ⟨l1,l4,l7,f2,f5,f8,d3,d6,d9,rfl,rfl,rfl⟩
 replace h:=Hu
 refine .d ⟨rfl,_,rfl,rfl,_,_,rfl,aj,?_⟩
 obtain rfl:=si h
 exact ⟨rfl,_,rfl,(en [0,4] ⟨f2,f8,d3,d9.self,rfl,rfl⟩ eo ⟨oda,yY,⟨⟩⟩)⟩
 intro F0 F1 n8 n9 a0 yp tq oq uQ o h
 exact .mk F0 n8 F1 n9 a0 yp tq oq uQ o h
theorem Il {a0:ae} {r:ae×ae} {g1000:Nat} {eR:Nat} {gX:Nat->List PV} (h:kU a0=some r) (lX:DR ae.D eR gX a0.af):ACall Tryz.prog 52 [.agg [pI a0.ai,pI a0.aE,.str a0.aq,.own 0 g1000 0 eR]] [.row g1000 4 eR 29 gX] (λres h=>∃F0:Nat->List PV,∃F1:Nat->List PV,DR ae.D eR F0 r.2.af/\DR ae.D r.1.af.length F1 r.1.af/\res=.agg [pI r.1.ai,pI r.1.aE,.str r.1.aq,.own 1 0 0 r.1.af.length]/\h=[.row g1000 4 eR 29 F0,.row 0 4 r.1.af.length 29 F1]):=Dm.1 a0 r h g1000 eR gX lX
def kl (a0:aD):Option (ae×Int×Int):=
 y0 a0>>=λ(v1,v2,v3)=>
 (if v2=0 then
 lZ (aC.mk v1 0 (a0.length:Int) (-1))>>=λ(v6,v7)=>
 (if v7.av>=0 then
 some ((ae.mk 0 0 [] []),10,v7.av)
 else
 mR v6>>=λv12=>
 (if v12=true then
 kU v6>>=λ(yq,qV)=>
 some (yq,0,0)
 else
 some ((ae.mk 0 0 [] []),11,0)))
 else
 some ((ae.mk 0 0 [] []),v2,v3))
theorem Ac {a0:aD} {r:ae×Int×Int} (h:kl a0=some r):awD 23 a0 r:=by
 refine ep Tryz.func23 ?_
 unfold kl at h
 refine .d (.d ?_)
 obtain ⟨⟨v1,v2,v3⟩,RP,h⟩:=bd h
 refine b8 (aaT RP) (.d (.d (sN h (λAK h=>?_) (λAK h=>?_))))
 refine .d ⟨rfl,_,_,rfl,aj,?_⟩
 obtain rfl:=si h
 exact ⟨rfl,_,rfl,(en [1] ⟨_,(DR.nil (D:=ae.D)),rfl,rfl⟩ SI SJ)⟩
 refine .d ⟨rfl,_,_,rfl,aj,(.d ?_)⟩
 obtain ⟨⟨v6,v7⟩,Uk,h⟩:=bd h
 refine bp (Dl (g1000:=0) Uk) [1] λf9 d10=>?_
 refine ⟨rfl,_,_,rfl,aj,(.d (.d ⟨rfl,rfl,_,rfl,(sD h (λqR h=>?_) (λqR h=>?_))⟩))⟩
 refine .d (.float [(0,true),(1,true),(2,true),(3,false),(4,true),(5,true)] aNh ?_)
 refine ⟨rfl,rfl,_,rfl,rfl,_,_,rfl,aj,rfl,rfl,?_⟩
 obtain rfl:=si h
 exact ⟨rfl,_,rfl,(en [4] ⟨_,(DR.nil (D:=ae.D)),rfl,rfl⟩ SI SJ)⟩
 refine .d ⟨rfl,_,rfl,(bk h λv12 EI h=>(T6 (EP EI) ⟨.kR ⟨.i,.i,.s,(.rd d10),⟨⟩⟩,⟨⟩⟩ (fP h (λsq h=>?_) (λsq h=>?_))))⟩
 refine .d ⟨rfl,_,_,rfl,aj,?_⟩
 obtain rfl:=si h
 exact ⟨rfl,_,rfl,(en [4] ⟨_,(DR.nil (D:=ae.D)),rfl,rfl⟩ SI SJ)⟩
 refine .d ⟨rfl,_,rfl,?_⟩
 obtain ⟨⟨yq,qV⟩,Ci,h⟩:=bd h
 refine aBH (Il (g1000:=0) Ci d10) [2] ⟨(OQ d10),⟨⟩⟩ ?_
 rintro _ _ ⟨f20,f18,d21,d19,rfl,rfl⟩
 refine nx ?_
 refine ⟨rfl,_,_,rfl,aj,?_⟩
 obtain rfl:=si h
 exact ⟨rfl,_,rfl,(en [4] ⟨f18,d19.self,rfl,rfl⟩ (.nR ⟨.kR ⟨.i,.i,.s,.oe,⟨⟩⟩,.i,.i,⟨⟩⟩) ⟨yY,⟨⟩⟩)⟩
set_option synthInstance.maxHeartbeats 400000
set_option synthInstance.maxSize 4000
set_option maxRecDepth 100000
def m69 (a0:aD):Option (Int×Bool):=
 m98 a0 (-1000000000) 1000000000>>=λ(v1,v2)=>
 some (v1,v2)
theorem aHr {a0:aD} {r:Int×Bool} (h:m69 a0=some r):ACall Tryz.prog 173 [.str a0] [] (λres h=>res=.fM [pI r.1,.bool r.2]/\h=[]):=by
 refine ep Tryz.func173 ?_
 unfold m69 at h
 refine .d (.d ?_)
 obtain ⟨⟨v1,v2⟩,tD,h⟩:=bd h
 refine b8 (aCV tD) ?_
 exact aMy
def dz (a0:bL) (a1:Int) (a2:Int) (a3:aD) (a4:Int):Option (bL):=
 cC 40 a0.bO ([(ah.mk a1 a2 a3 a0.bx)]:List ah)>>=λl1=>
 some (bL.mk a0.fS (bm (a0.bx+a4)) l1 a0.dM)
theorem gY {a0:bL} {a1:Int} {a2:Int} {a3:aD} {a4:Int} {r:bL} {g1000:Nat} {g1001:Nat} (h:dz a0 a1 a2 a3 a4=some r):ACall Tryz.prog 169 [.aA 0 g1000 0 0,pI a1,pI a2,.str a3,pI a4] [.row g1000 4 1 107 (λ_=>[.str a0.fS,pI a0.bx,.own 1 g1001 0 a0.bO.length,pI a0.dM]),.row g1001 4 a0.bO.length 101 (row ah.cells a0.bO)] (λres h=>∃G1:Nat,res=.fM []/\h=[.row g1000 4 1 107 (λ_=>[.str r.fS,pI r.bx,.own 1 G1 0 r.bO.length,pI r.dM]),.row G1 4 r.bO.length 101 (row ah.cells r.bO)]):=by
 refine ep Tryz.func169 ?_
 unfold dz at h
 refine .d (.float [(0,true),(1,true),(2,true),(3,true),(4,true),(5,true),(6,true),(7,true),(8,true),(9,true),(10,true),(11,true),(12,true),(13,false),(14,false),(15,true),(16,true),(17,false)] aNh ?_)
 refine ⟨rfl,rfl,rfl,_,rfl,rfl,rfl,rfl,_,rfl,row ah.cells ([(ah.mk a1 a2 a3 a0.bx)]:List ah),eg ah.cells ([(ah.mk a1 a2 a3 a0.bx)]:List ah) rfl (dC rfl),rfl,rfl,rfl,(bk h λl1 hx2 h=>(.dO ⟨rfl,rfl,mw (l:=([(ah.mk a1 a2 a3 a0.bx)]:List ah)) bg,ji hx2,l1.length,row ah.cells l1,gM hx2,iu hx2 bg (j5 bg),rfl,rfl,rfl,_,_,rfl,aj,?_⟩))⟩
 refine ⟨rfl,rfl,rfl,_,rfl,rfl,rfl,rfl,_,_,rfl,aj,?_⟩
 obtain rfl:=si h
 exact en [0,1] ⟨(g1001+1),rfl,rfl⟩ pq qQ
def cR (a0:bL):Option (bL):=
 mU a0.fS a0.bx>>=λs1=>
 m64 s1 [60,63]>>=λv3=>
 (
 (if v3<0 then
 some (s1.length:Int)
 else
 some v3)
 :Option (Int))>>=λy5=>
 (
 (if y5>0 then
 sto s1 y5>>=λs19=>
 dz a0 1 0 s19 y5>>=λv21=>
 some (v21.fS,v21.bx,v21.dM,v21.bO)
 else
 some (a0.fS,a0.bx,a0.dM,a0.bO))
 :Option aeE)>>=λ(Fw,iH,uR,Bv)=>
 (if iH=(Fw.length:Int) then
 some (bL.mk Fw iH Bv uR)
 else
 mU Fw iH>>=λs25=>
 m66 s25 [60,63,61]>>=λzy=>
 (if zy=true then
 dz (bL.mk Fw iH Bv uR) 3 0 [101,99,104,111] 3>>=λv30=>
 some v30
 else
 some (bL.mk Fw (bm (iH+2)) Bv uR)))
theorem ow {a0:bL} {r:bL} {g1000:Nat} {g1001:Nat} (h:cR a0=some r):aBI 108 a0 r g1000 g1001:=by
 refine ep Tryz.func108 ?_
 unfold cR at h
 refine .d ⟨rfl,rfl,rfl,_,rfl,rfl,rfl,rfl,_,rfl,(bk h λs1 hx2 h=>⟨sQ hx2,s1,sR hx2,(.d (bk h λv3 RP h=>(b8 (aCW RP) ?_)))⟩)⟩
 obtain ⟨o6,h,wy⟩:=bd h
 refine .cut (λσ η=>∃y5,y5=o6/\σ=[(0,.aA 0 g1000 0 0),(2,.str s1),(3,pI y5)]/\η=[.row g1000 4 1 107 (λ_=>[.str a0.fS,pI a0.bx,.own 1 g1001 0 a0.bO.length,pI a0.dM]),.row g1001 4 a0.bO.length 101 (row ah.cells a0.bO)]) ?_ ?_
 refine .d (sD h (λP8 h=>?_) (λP8 h=>?_))
 exact aMX
 exact aMX
 rintro _ _ ⟨y5,rfl,rfl,rfl⟩
 replace h:=wy
 obtain ⟨Fe,h,OK⟩:=bd h
 refine .cut (λσ η=>∃Fw,∃iH,∃uR,∃Bv,∃g13:Nat,(Fw,iH,uR,Bv)=Fe/\σ=[(0,.aA 0 g1000 0 0)]/\η=[.row g1000 4 1 107 (λ_=>[.str Fw,pI iH,.own 1 g13 0 Bv.length,pI uR]),.row g13 4 Bv.length 101 (row ah.cells Bv)]) ?_ ?_
 refine .d (sD h (λyF h=>?_) (λyF h=>?_))
 exact bk h λs19 Co h=>⟨Im Co,s19,Ip Co,(bk h λv21 zQ h=>(za (gY (g1000:=g1000) (g1001:=g1001) zQ) [0,1] ⟨rfl,ov,⟨⟩⟩ (λg23=>.fM []) (λg23=>[.row g1000 4 1 107 (λ_=>[.str v21.fS,pI v21.bx,.own 1 g23 0 v21.bO.length,pI v21.dM]),.row g23 4 v21.bO.length 101 (row ah.cells v21.bO)]) λg23=>(ct ⟨_,_,_,_,g23,si h,rfl,rfl⟩ (tk [0,1] vF qQ))))⟩
 exact ct ⟨_,_,_,_,g1001,si h,rfl,rfl⟩ (tk [0,1] vF qQ)
 rintro _ _ ⟨Fw,iH,uR,Bv,g13,rfl,rfl,rfl⟩
 replace h:=OK
 refine .d (.d ⟨rfl,rfl,rfl,_,rfl,rfl,rfl,rfl,_,rfl,(sE h (λJD h=>?_) (λJD h=>?_))⟩)
 obtain rfl:=si h
 exact en [0,1] ⟨g13,rfl,rfl⟩ pq qQ
 refine .d (.float [(0,true),(1,true),(2,true),(3,true),(4,true),(5,true),(6,true),(7,true),(8,true),(9,false)] aNh ?_)
 refine ⟨rfl,rfl,rfl,_,rfl,rfl,rfl,rfl,_,rfl,(bk h λs25 Bi h=>⟨sQ Bi,s25,sR Bi,(bk h λzy Nd h=>(b8 (Uj Nd) (sV h (λzK h=>?_) (λzK h=>?_))))⟩)⟩
 refine bk h λv30 WH h=>(za (gY (g1000:=g1000) (g1001:=g13) WH) [0,1] ⟨rfl,ov,⟨⟩⟩ (λg32=>.fM []) (λg32=>[.row g1000 4 1 107 (λ_=>[.str v30.fS,pI v30.bx,.own 1 g32 0 v30.bO.length,pI v30.dM]),.row g32 4 v30.bO.length 101 (row ah.cells v30.bO)]) λg32=>?_)
 obtain rfl:=si h
 exact en [0,1] ⟨g32,rfl,rfl⟩ pq qQ
 refine ⟨rfl,rfl,rfl,_,rfl,rfl,rfl,rfl,_,_,rfl,aj,?_⟩
 obtain rfl:=si h
 exact en [0,1] ⟨g13,rfl,rfl⟩ pq qQ
def cU (a0:bL) (a1:aD) (l4:List UInt8) (y5:Int):Option ((Unit) ⊕ bL):=
 (if y5<(a1.length:Int) then
 gz a1 y5>>=λc9=>
 (if (c9.toNat:Int)=39 then
 (if (l4.length:Int)>400 then
 some (.inl ())
 else
 dz a0 5 0 l4 (bm (y5+1))>>=λml=>
 some (.inr ml))
 else
 gz a1 y5>>=λc16=>
 (if (c16.toNat:Int)=92 then
 (if (bm (y5+1))<(a1.length:Int) then
 gz a1 (bm (y5+1))>>=λc20=>
 (if (c20.toNat:Int)=39 then
 gz a1 (bm (y5+1))>>=λc23=>
 cC 1 l4 ([c23]:List UInt8)>>=λu0=>
 cU a0 a1 u0 (bm ((bm (y5+1))+1))
 else
 gz a1 (bm (y5+1))>>=λc27=>
 (if (c27.toNat:Int)=92 then
 gz a1 (bm (y5+1))>>=λc30=>
 cC 1 l4 ([c30]:List UInt8)>>=λl32=>
 cU a0 a1 l32 (bm ((bm (y5+1))+1))
 else
 gz a1 y5>>=λc34=>
 cC 1 l4 ([c34]:List UInt8)>>=λOh=>
 cU a0 a1 Oh (bm (y5+1))))
 else
 gz a1 y5>>=λc38=>
 cC 1 l4 ([c38]:List UInt8)>>=λGF=>
 cU a0 a1 GF (bm (y5+1)))
 else
 gz a1 y5>>=λc42=>
 cC 1 l4 ([c42]:List UInt8)>>=λO3=>
 cU a0 a1 O3 (bm (y5+1))))
 else
 some (.inl ()))
partial_fixpoint
def oE (a0:bL) (a1:aD):Option (bL):=
 ((
 cU a0 a1 ([]:List UInt8) 1
 :Option ((Unit) ⊕ bL))>>=λo1=>match o1 with
 | .inr r=>some r
 | .inl _=>
 some (bL.mk a0.fS a0.bx a0.bO 3)
 )
theorem Dp {a0:bL} {a1:aD} {r:bL} {g1000:Nat} {g1001:Nat} (h:oE a0 a1=some r):aBJ 174 a0 a1 r g1000 g1001:=by
 refine ep Tryz.func174 ?_
 unfold oE at h
 refine .d ⟨row cB ([]:List UInt8),eg cB ([]:List UInt8) rfl (dC rfl),?_⟩
 obtain ⟨o1,h,fD⟩:=bd h
 refine .cut (λσ η=>.inl ()=o1/\σ=[(0,.aA 0 g1000 0 0)]/\η=[.row g1000 4 1 107 (λ_=>[.str a0.fS,pI a0.bx,.own 1 g1001 0 a0.bO.length,pI a0.dM]),.row g1001 4 a0.bO.length 101 (row ah.cells a0.bO)]) ?_ ?_
 refine .d ?_
 refine le (cU.partial_correctness a0 a1 (motive:=λl4 y5 UH=>o1=UH->aK _ _ [(0,.aA 0 g1000 0 0),(1,.str a1),(4,.own 2 0 0 l4.length),(5,pI y5)] [.row g1000 4 1 107 (λ_=>[.str a0.fS,pI a0.bx,.own 1 g1001 0 a0.bO.length,pI a0.dM]),.row g1001 4 a0.bO.length 101 (row ah.cells a0.bO),.row 0 1 l4.length 5 (row cB l4)]) ?_ ([]:List UInt8) 1 o1 h rfl) (tk [0,1,2] Th Lq)
 intro F7 FX l4 y5 UH h M5
 subst M5
 refine aK.round (.d (.d (sD h (λFT h=>?_) (λFT h=>?_))))
 refine .d (.d (.d (bk h λc9 u7 h=>⟨cn u7,c9,cp u7,(sE h (λqR h=>?_) (λqR h=>?_))⟩)))
 refine .d (.d ⟨rfl,(sD h (λoI h=>?_) (λoI h=>?_))⟩)
 exact aMZ
 refine .d ⟨rfl,l4,rfl,oW bg rfl,(bk h λml xu h=>(za (gY (g1000:=g1000) (g1001:=g1001) xu) [0,1] ⟨rfl,ov,⟨⟩⟩ (λg15=>.fM []) (λg15=>[.row g1000 4 1 107 (λ_=>[.str ml.fS,pI ml.bx,.own 1 g15 0 ml.bO.length,pI ml.dM]),.row g15 4 ml.bO.length 101 (row ah.cells ml.bO),.row 0 1 l4.length 5 (row cB l4)]) λg15=>?_))⟩
 obtain rfl:=si h
 replace h:=fD
 obtain rfl:=si h
 exact en [0,1] ⟨g15,rfl,rfl⟩ pq qQ
 refine .d (.d (bk h λc16 Lr h=>⟨cn Lr,c16,cp Lr,(sE h (λyF h=>?_) (λyF h=>?_))⟩))
 refine .t (.t (.t (.t (.t (sD h (λzO h=>?_) (λzO h=>?_))))))
 refine .t (.t (.t (bk h λc20 Ls h=>⟨cn Ls,c20,cp Ls,(.t (.t (sE h (λyH h=>?_) (λyH h=>?_))))⟩)))
 exact .t (.t (.t (.t (.t (.t (.t (.t (bk h λc23 aBK h=>⟨cn aBK,c23,cp aBK,row cB ([c23]:List UInt8),eg cB ([c23]:List UInt8) rfl (dC rfl),(bk h λu0 Bi h=>(.dO ⟨rfl,rfl,mw (l:=([c23]:List UInt8)) bg,ji Bi,u0.length,row cB u0,gM Bi,iu Bi bg (j5 bg),(lg (FX _ _ _ h rfl) (tk [0,1,2] Th Lq))⟩))⟩))))))))
 refine .f (.f (.f (bk h λc27 Dn h=>⟨cn Dn,c27,cp Dn,(.f (.t (.f (.t (sE h (λzK h=>?_) (λzK h=>?_))))))⟩)))
 exact bk h λc30 tH h=>⟨cn tH,c30,cp tH,row cB ([c30]:List UInt8),eg cB ([c30]:List UInt8) rfl (dC rfl),(bk h λl32 amm h=>(.dO ⟨rfl,rfl,mw (l:=([c30]:List UInt8)) bg,ji amm,l32.length,row cB l32,gM amm,iu amm bg (j5 bg),(lg (FX _ _ _ h rfl) (tk [0,1,2] Th Lq))⟩))⟩
 exact bk h λc34 aaU h=>⟨cn aaU,c34,cp aaU,row cB ([c34]:List UInt8),eg cB ([c34]:List UInt8) rfl (dC rfl),(bk h λOh amn h=>(.dO ⟨rfl,rfl,mw (l:=([c34]:List UInt8)) bg,ji amn,Oh.length,row cB Oh,gM amn,iu amn bg (j5 bg),(lg (FX _ _ _ h rfl) (tk [0,1,2] Th Lq))⟩))⟩
 exact .f (.f (.f (.f (.f (.f (.f (.f (bk h λc38 aBL h=>⟨cn aBL,c38,cp aBL,row cB ([c38]:List UInt8),eg cB ([c38]:List UInt8) rfl (dC rfl),(bk h λGF Ik h=>(.dO ⟨rfl,rfl,mw (l:=([c38]:List UInt8)) bg,ji Ik,GF.length,row cB GF,gM Ik,iu Ik bg (j5 bg),(lg (FX _ _ _ h rfl) (tk [0,1,2] Th Lq))⟩))⟩))))))))
 refine .f (.f (.f (.f (.f (.f (.f (.f (.f (.f (.f (.f (.f (.f (bk h λc42 KY h=>?_))))))))))))))
 exact ⟨cn KY,c42,cp KY,row cB ([c42]:List UInt8),eg cB ([c42]:List UInt8) rfl (dC rfl),(bk h λO3 xR h=>(.dO ⟨rfl,rfl,mw (l:=([c42]:List UInt8)) bg,ji xR,O3.length,row cB O3,gM xR,iu xR bg (j5 bg),(lg (FX _ _ _ h rfl) (tk [0,1,2] Th Lq))⟩))⟩
 exact aMZ
 rintro _ _ ⟨rfl,rfl,rfl⟩
 replace h:=fD
 refine ⟨rfl,rfl,rfl,_,_,rfl,aj,?_⟩
 exact aMw
def jG (a0:bL) (a1:aD) (y4:Int):Option ((Unit) ⊕ bL):=
 (if y4<(([[61,61,61],[33,61,61],[60,61,62],[61,61],[33,61],[60,61],[62,61],[61,62],[45,62],[58,58],[38,38],[124,124],[63,63],[43],[45],[42],[47],[37],[46],[61],[33],[60],[62],[40],[41],[91],[93],[123],[125],[44],[59],[63],[58],[38]]:List aD).length:Int) then
 idx ([[61,61,61],[33,61,61],[60,61,62],[61,61],[33,61],[60,61],[62,61],[61,62],[45,62],[58,58],[38,38],[124,124],[63,63],[43],[45],[42],[47],[37],[46],[61],[33],[60],[62],[40],[41],[91],[93],[123],[125],[44],[59],[63],[58],[38]]:List aD) y4>>=λx8=>
 m66 a1 x8>>=λv10=>
 (if v10=true then
 dz a0 6 0 x8 (x8.length:Int)>>=λml=>
 some (.inr ml)
 else
 jG a0 a1 (bm (y4+1)))
 else
 some (.inl ()))
partial_fixpoint
def ma (a0:bL) (a1:aD):Option (bL):=
 ((
 jG a0 a1 0
 :Option ((Unit) ⊕ bL))>>=λo1=>match o1 with
 | .inr r=>some r
 | .inl _=>
 some (bL.mk a0.fS a0.bx a0.bO 2)
 )
theorem Dq {a0:bL} {a1:aD} {r:bL} {g1000:Nat} {g1001:Nat} (h:ma a0 a1=some r):aBJ 175 a0 a1 r g1000 g1001:=by
 refine ep Tryz.func175 ?_
 unfold ma at h
 refine .d ⟨row cS ([[61,61,61],[33,61,61],[60,61,62],[61,61],[33,61],[60,61],[62,61],[61,62],[45,62],[58,58],[38,38],[124,124],[63,63],[43],[45],[42],[47],[37],[46],[61],[33],[60],[62],[40],[41],[91],[93],[123],[125],[44],[59],[63],[58],[38]]:List aD),eg cS ([[61,61,61],[33,61,61],[60,61,62],[61,61],[33,61],[60,61],[62,61],[61,62],[45,62],[58,58],[38,38],[124,124],[63,63],[43],[45],[42],[47],[37],[46],[61],[33],[60],[62],[40],[41],[91],[93],[123],[125],[44],[59],[63],[58],[38]]:List aD) rfl (dC rfl),?_⟩
 obtain ⟨o1,h,fD⟩:=bd h
 refine .cut (λσ η=>.inl ()=o1/\σ=[(0,.aA 0 g1000 0 0)]/\η=[.row g1000 4 1 107 (λ_=>[.str a0.fS,pI a0.bx,.own 1 g1001 0 a0.bO.length,pI a0.dM]),.row g1001 4 a0.bO.length 101 (row ah.cells a0.bO)]) ?_ ?_
 refine .d ⟨rfl,?_⟩
 refine le (jG.partial_correctness a0 a1 (motive:=λy4 Qf=>o1=Qf->aK _ _ [(0,.aA 0 g1000 0 0),(1,.str a1),(8,.own 2 0 0 ([[61,61,61],[33,61,61],[60,61,62],[61,61],[33,61],[60,61],[62,61],[61,62],[45,62],[58,58],[38,38],[124,124],[63,63],[43],[45],[42],[47],[37],[46],[61],[33],[60],[62],[40],[41],[91],[93],[123],[125],[44],[59],[63],[58],[38]]:List aD).length),(9,pI (([[61,61,61],[33,61,61],[60,61,62],[61,61],[33,61],[60,61],[62,61],[61,62],[45,62],[58,58],[38,38],[124,124],[63,63],[43],[45],[42],[47],[37],[46],[61],[33],[60],[62],[40],[41],[91],[93],[123],[125],[44],[59],[63],[58],[38]]:List aD).length:Int)),(10,pI y4)] [.row g1000 4 1 107 (λ_=>[.str a0.fS,pI a0.bx,.own 1 g1001 0 a0.bO.length,pI a0.dM]),.row g1001 4 a0.bO.length 101 (row ah.cells a0.bO),.row 0 1 ([[61,61,61],[33,61,61],[60,61,62],[61,61],[33,61],[60,61],[62,61],[61,62],[45,62],[58,58],[38,38],[124,124],[63,63],[43],[45],[42],[47],[37],[46],[61],[33],[60],[62],[40],[41],[91],[93],[123],[125],[44],[59],[63],[58],[38]]:List aD).length 9 (row cS ([[61,61,61],[33,61,61],[60,61,62],[61,61],[33,61],[60,61],[62,61],[61,62],[45,62],[58,58],[38,38],[124,124],[63,63],[43],[45],[42],[47],[37],[46],[61],[33],[60],[62],[40],[41],[91],[93],[123],[125],[44],[59],[63],[58],[38]]:List aD))]) ?_ 0 o1 h rfl) (tk [0,1,2] ⟨.p,.s,.o,.i,.i,⟨⟩⟩ Lq)
 intro F6 ih5 y4 Qf h aaV
 subst aaV
 refine aK.round (.d (.d (sD h (λEC h=>?_) (λEC h=>?_))))
 refine .d (.d (bk h λx8 hx9 h=>⟨rfl,bf hx9,_,aKc _,rfl,_,((aU hx9).trans rfl),(.d (bk h λv10 CU h=>(b8 (Uj CU) (sV h (λoI h=>?_) (λoI h=>?_)))))⟩))
 refine .d (bk h λml xu h=>(za (gY (g1000:=g1000) (g1001:=g1001) xu) [0,1] ⟨rfl,ov,⟨⟩⟩ (λg15=>.fM []) (λg15=>[.row g1000 4 1 107 (λ_=>[.str ml.fS,pI ml.bx,.own 1 g15 0 ml.bO.length,pI ml.dM]),.row g15 4 ml.bO.length 101 (row ah.cells ml.bO),.row 0 1 ([[61,61,61],[33,61,61],[60,61,62],[61,61],[33,61],[60,61],[62,61],[61,62],[45,62],[58,58],[38,38],[124,124],[63,63],[43],[45],[42],[47],[37],[46],[61],[33],[60],[62],[40],[41],[91],[93],[123],[125],[44],[59],[63],[58],[38]]:List aD).length 9 (row cS ([[61,61,61],[33,61,61],[60,61,62],[61,61],[33,61],[60,61],[62,61],[61,62],[45,62],[58,58],[38,38],[124,124],[63,63],[43],[45],[42],[47],[37],[46],[61],[33],[60],[62],[40],[41],[91],[93],[123],[125],[44],[59],[63],[58],[38]]:List aD))]) λg15=>?_))
 obtain rfl:=si h
 replace h:=fD
 obtain rfl:=si h
 exact en [0,1] ⟨g15,rfl,rfl⟩ pq qQ
 exact lg (ih5 _ _ h rfl) (tk [0,1,2] ⟨.p,.s,.o,.i,.i,⟨⟩⟩ Lq)
 exact aMZ
 rintro _ _ ⟨rfl,rfl,rfl⟩
 replace h:=fD
 refine ⟨rfl,rfl,rfl,_,_,rfl,aj,?_⟩
 exact aMw
set_option synthInstance.maxHeartbeats 400000
set_option synthInstance.maxSize 4000
set_option maxRecDepth 100000
def ez (a0:bL) (Ia:Int):Option (bL):=
 ((
 (if Ia<(a0.fS.length:Int) then
 gz a0.fS Ia>>=λc48=>
 (if (c48.toNat:Int)=10 then
 some (.inr (bL.mk a0.fS Ia a0.bO a0.dM))
 else
 mU a0.fS Ia>>=λs51=>
 m66 s51 [63,62]>>=λv53=>
 (if v53=true then
 some (.inr (bL.mk a0.fS Ia a0.bO a0.dM))
 else
 some (.inl (c48,((c48.toNat:Int) != 10),s51,v53,(!v53)))))
 else
 some (.inr (bL.mk a0.fS Ia a0.bO a0.dM)))
 :Option ((UInt8×Bool×aD×Bool×Bool) ⊕ bL))>>=λo44=>match o44 with
 | .inr r=>some r
 | .inl (c39,b40,s41,b42,b43)=>
 ez a0 (bm (Ia+1))
 )
partial_fixpoint
def gG (s1:aD) (Lu:Int):Option (Int):=
 (if Lu<(s1.length:Int) then
 gz s1 Lu>>=λamo=>
 kG (amo.toNat:Int)>>=λJ4=>
 (if J4=true then
 gG s1 (bm (Lu+1))
 else
 some Lu)
 else
 some Lu)
partial_fixpoint
def dn (a0:bL):Option (bL):=
 mU a0.fS a0.bx>>=λs1=>
 gz s1 0>>=λc3=>
 (
 (if (c3.toNat:Int)=32 then
 some true
 else
 (if (c3.toNat:Int)=9 then
 some true
 else
 (if (c3.toNat:Int)=10 then
 some true
 else
 some ((c3.toNat:Int)==13))))
 :Option (Bool))>>=λb5=>
 (if b5=true then
 some (bL.mk a0.fS (bm (a0.bx+1)) a0.bO a0.dM)
 else
 m66 s1 [63,62]>>=λml=>
 (if ml=true then
 dz a0 6 0 [59] 2>>=λqV=>
 (
 (if qV.bx<(qV.fS.length:Int) then
 gz qV.fS qV.bx>>=λc24=>
 some ((c24.toNat:Int)==10)
 else
 some false)
 :Option (Bool))>>=λBs=>
 (if Bs=true then
 cR (bL.mk qV.fS (bm (qV.bx+1)) qV.bO qV.dM)>>=λzy=>
 some zy
 else
 cR qV>>=λv30=>
 some v30)
 else
 m66 s1 [47,47]>>=λzB=>
 (if zB=true then
 ez a0 a0.bx
 else
 (if (c3.toNat:Int)=36 then
 mU s1 1>>=λs59=>
 dT s59>>=λCd=>
 ((
 (
 some ()
 :Option (Unit))>>=λ_=>
 (if Cd=0 then
 some (.inr (bL.mk a0.fS a0.bx a0.bO 2))
 else
 some (.inl ()))
 :Option ((Unit) ⊕ bL))>>=λo63=>match o63 with
 | .inr r=>some r
 | .inl _=>
 tI s1 1 (bm (1+Cd))>>=λs70=>
 dz a0 2 0 s70 (bm (1+Cd))>>=λv72=>
 some v72
 )
 else
 dT s1>>=λv75=>
 (if v75>0 then
 (
 dT s1>>=λUn=>
 some Un
 :Option (Int))>>=λy78=>
 sto s1 y78>>=λs84=>
 dz a0 3 0 s84 y78>>=λMH=>
 some MH
 else
 (
 kG (c3.toNat:Int)>>=λv93=>
 some v93
 :Option (Bool))>>=λb89=>
 (if b89=true then
 (
 gG s1 0
 :Option (Int))>>=λy96=>
 sto s1 y96>>=λamp=>
 m69 amp>>=λ(amq,J5)=>
 ((
 (if J5=true then
 some (.inl ())
 else
 some (.inr (bL.mk a0.fS a0.bx a0.bO 4)))
 :Option ((Unit) ⊕ bL))>>=λamr=>match amr with
 | .inr r=>some r
 | .inl _=>
 dz a0 4 amq [] y96>>=λvk=>
 some vk
 )
 else
 (if (c3.toNat:Int)=39 then
 oE a0 s1>>=λv124=>
 some v124
 else
 ma a0 s1>>=λv127=>
 some v127)))))))
theorem BF {a0:bL} {r:bL} {g1000:Nat} {g1001:Nat} (h:dn a0=some r):aBI 109 a0 r g1000 g1001:=by
 refine ep Tryz.func109 ?_
 unfold dn at h
 refine .d ⟨rfl,rfl,rfl,_,rfl,rfl,rfl,rfl,_,rfl,(bk h λs1 hx2 h=>⟨sQ hx2,s1,sR hx2,(.d (bk h λc3 hx4 h=>⟨cn hx4,c3,cp hx4,?_⟩))⟩)⟩
 obtain ⟨o6,h,wy⟩:=bd h
 refine .cut (λσ η=>∃b5,b5=o6/\σ=[(0,.aA 0 g1000 0 0),(2,.str s1),(3,.int .u8 (c3.toNat:Int)),(23,.bool b5)]/\η=[.row g1000 4 1 107 (λ_=>[.str a0.fS,pI a0.bx,.own 1 g1001 0 a0.bO.length,pI a0.dM]),.row g1001 4 a0.bO.length 101 (row ah.cells a0.bO)]) ?_ ?_
 refine sE h (λP8 h=>?_) (λP8 h=>?_)
 exact .t (.t (.t (.t (.t (.t (.t (.t (ct ⟨_,si h,rfl,rfl⟩ (tk [0,1] Ti qQ)))))))))
 refine .f (.f (sE h (λlS h=>?_) (λlS h=>?_)))
 exact .t (.t (.t (.t (.t (ct ⟨_,si h,rfl,rfl⟩ (tk [0,1] Ti qQ))))))
 refine .f (.f (sE h (λqR h=>?_) (λqR h=>?_)))
 exact .t (.t (ct ⟨_,si h,rfl,rfl⟩ (tk [0,1] Ti qQ)))
 exact .f (.f (ct ⟨_,si h,rfl,rfl⟩ (tk [0,1] Ti qQ)))
 rintro _ _ ⟨b5,rfl,rfl,rfl⟩
 replace h:=wy
 refine sV h (λoI h=>?_) (λoI h=>?_)
 refine ⟨rfl,rfl,rfl,_,rfl,rfl,rfl,rfl,_,_,rfl,aj,?_⟩
 exact aMw
 refine .d (bk h λml xu h=>(b8 (Uj xu) (sV h (λsg h=>?_) (λsg h=>?_))))
 refine .d (bk h λqV Ci h=>(za (gY (g1000:=g1000) (g1001:=g1001) Ci) [0,1] ⟨rfl,ov,⟨⟩⟩ (λg18=>.fM []) (λg18=>[.row g1000 4 1 107 (λ_=>[.str qV.fS,pI qV.bx,.own 1 g18 0 qV.bO.length,pI qV.dM]),.row g18 4 qV.bO.length 101 (row ah.cells qV.bO)]) λg18=>(.d ?_)))
 obtain ⟨o20,h,aHs⟩:=bd h
 refine .cut (λσ η=>∃Bs,Bs=o20/\σ=[(0,.aA 0 g1000 0 0),(71,.bool Bs)]/\η=[.row g1000 4 1 107 (λ_=>[.str qV.fS,pI qV.bx,.own 1 g18 0 qV.bO.length,pI qV.dM]),.row g18 4 qV.bO.length 101 (row ah.cells qV.bO)]) ?_ ?_
 refine ⟨rfl,rfl,rfl,_,rfl,rfl,rfl,rfl,_,rfl,(sD h (λsr h=>?_) (λsr h=>?_))⟩
 refine .t ⟨rfl,(.t ⟨rfl,(.t ⟨rfl,_,rfl,(.t (.t ⟨rfl,(.t ⟨rfl,(.t ⟨rfl,_,rfl,(.t (bk h λc24 Lv h=>?_))⟩)⟩)⟩))⟩)⟩)⟩
 exact ⟨cn Lv,c24,cp Lv,(.t (.t (ct ⟨_,si h,rfl,rfl⟩ (tk [0,1] ⟨.p,.b,⟨⟩⟩ qQ))))⟩
 exact .f (.f (.f (.f (.f (.f (.f (.f (.f (.f (ct ⟨_,si h,rfl,rfl⟩ (tk [0,1] ⟨.p,.b,⟨⟩⟩ qQ)))))))))))
 rintro _ _ ⟨Bs,rfl,rfl,rfl⟩
 replace h:=aHs
 refine sV h (λwP h=>?_) (λwP h=>?_)
 refine ⟨rfl,rfl,rfl,_,rfl,rfl,rfl,rfl,_,_,rfl,aj,(bk h λzy Nd h=>(za (ow (g1000:=g1000) (g1001:=g18) Nd) [0,1] ⟨rfl,ov,⟨⟩⟩ (λg29=>.fM []) (λg29=>[.row g1000 4 1 107 (λ_=>[.str zy.fS,pI zy.bx,.own 1 g29 0 zy.bO.length,pI zy.dM]),.row g29 4 zy.bO.length 101 (row ah.cells zy.bO)]) λg29=>?_))⟩
 obtain rfl:=si h
 exact en [0,1] ⟨g29,rfl,rfl⟩ pq qQ
 refine bk h λv30 WH h=>(za (ow (g1000:=g1000) (g1001:=g18) WH) [0,1] ⟨rfl,ov,⟨⟩⟩ (λg32=>.fM []) (λg32=>[.row g1000 4 1 107 (λ_=>[.str v30.fS,pI v30.bx,.own 1 g32 0 v30.bO.length,pI v30.dM]),.row g32 4 v30.bO.length 101 (row ah.cells v30.bO)]) λg32=>?_)
 obtain rfl:=si h
 exact en [0,1] ⟨g32,rfl,rfl⟩ pq qQ
 refine .d (bk h λzB Zp h=>(b8 (Uj Zp) (sV h (λCf h=>?_) (λCf h=>?_))))
 refine le (ez.partial_correctness a0 (motive:=λIa o56=>r=o56->aK _ _ [(0,.aA 0 g1000 0 0)] [.row g1000 4 1 107 (λ_=>[.str a0.fS,pI Ia,.own 1 g1001 0 a0.bO.length,pI a0.dM]),.row g1001 4 a0.bO.length 101 (row ah.cells a0.bO)]) ?_ a0.bx r h rfl) (tk [0,1] vF qQ)
 intro F38 aHt Ia o56 h ams
 subst ams
 refine aK.round ?_
 obtain ⟨o44,h,SH⟩:=bd h
 refine .cut (λσ η=>∃c39,∃b40,∃s41,∃b42,∃b43,.inl (c39,b40,s41,b42,b43)=o44/\σ=[(0,.aA 0 g1000 0 0),(95,.aA 0 g1000 0 0),(96,.aA 0 g1000 0 0),(97,.aA 0 g1000 0 0),(98,.str a0.fS),(99,.aA 0 g1000 0 0),(100,.aA 0 g1000 0 0),(101,.aA 0 g1000 0 1),(102,pI Ia),(103,.int .u8 (c39.toNat:Int)),(104,.bool b40),(107,.aA 0 g1000 0 0),(108,.aA 0 g1000 0 0),(109,.aA 0 g1000 0 0),(110,.str a0.fS),(111,.aA 0 g1000 0 0),(112,.aA 0 g1000 0 0),(113,.aA 0 g1000 0 1),(114,pI Ia),(115,.str s41),(116,.bool b42),(117,.bool b43)]/\η=[.row g1000 4 1 107 (λ_=>[.str a0.fS,pI Ia,.own 1 g1001 0 a0.bO.length,pI a0.dM]),.row g1001 4 a0.bO.length 101 (row ah.cells a0.bO)]) ?_ ?_
 refine .d (.float [(0,true),(1,true),(2,true),(3,true),(4,true),(5,true),(6,true),(7,true),(8,true),(9,true),(10,true),(11,true),(12,true),(13,true),(14,true),(15,true),(16,true),(17,true),(18,true),(19,true),(20,true),(21,true),(22,true),(23,true),(24,true),(25,true),(26,true),(27,true),(28,true),(29,true),(30,true),(31,true),(32,false),(33,true),(34,true)] aNh ?_)
 refine ⟨rfl,rfl,rfl,_,rfl,rfl,rfl,rfl,_,rfl,(sD h (λCg h=>?_) (λCg h=>?_))⟩
 refine .t ⟨rfl,(.t ⟨rfl,(.t ⟨rfl,_,rfl,(.t (.t ⟨rfl,(.t ⟨rfl,(.t ⟨rfl,_,rfl,(.t (bk h λc48 JE h=>?_))⟩)⟩)⟩))⟩)⟩)⟩
 refine ⟨cn JE,c48,cp JE,(.t (.t (sN h (λWg h=>?_) (λWg h=>?_))))⟩
 refine .t ⟨rfl,(.t ⟨rfl,(.t ⟨rfl,_,rfl,(.t (.t ⟨rfl,(.t ⟨rfl,(.t ⟨rfl,_,rfl,(.t (bk h λs51 aBM h=>?_))⟩)⟩)⟩))⟩)⟩)⟩
 refine ⟨sQ aBM,s51,sR aBM,(.t (bk h λv53 YE h=>(b8 (Uj YE) (.t (.t (fP h (λYF h=>?_) (λYF h=>?_)))))))⟩
 exact ct ⟨_,_,_,_,_,si h,rfl,rfl⟩ (tk [0,1] ⟨.p,.p,.p,.p,.s,.p,.p,.p,.i,.i,.b,.p,.p,.p,.s,.p,.p,.p,.i,.s,.b,.b,⟨⟩⟩ qQ)
 obtain rfl:=si h
 exact aMj
 refine .f (.f (.f (.f (.f (.f (.f (.f (.f (.f (.f (.f ?_)))))))))))
 obtain rfl:=si h
 exact aMj
 refine .f (.f (.f (.f (.f (.f (.f (.f (.f (.f (.f (.f (.f (.f (.f ?_))))))))))))))
 refine .f (.f (.f (.f (.f (.f (.f (.f ?_)))))))
 obtain rfl:=si h
 exact aMj
 rintro _ _ ⟨c39,b40,s41,b42,b43,rfl,rfl,rfl⟩
 replace h:=SH
 exact ⟨rfl,rfl,rfl,_,rfl,rfl,rfl,rfl,_,_,rfl,aj,(lg (aHt _ _ h rfl) (tk [0,1] vF qQ))⟩
 refine .d (sE h (λHm h=>?_) (λHm h=>?_))
 refine .d (bk h λs59 JF h=>⟨sQ JF,s59,sR JF,(bk h λCd VU h=>(b8 (mf VU) ?_))⟩)
 obtain ⟨o63,h,aBN⟩:=bd h
 refine .cut (λσ η=>.inl ()=o63/\σ=[(0,.aA 0 g1000 0 0),(2,.str s1),(4,pI Cd)]/\η=[.row g1000 4 1 107 (λ_=>[.str a0.fS,pI a0.bx,.own 1 g1001 0 a0.bO.length,pI a0.dM]),.row g1001 4 a0.bO.length 101 (row ah.cells a0.bO)]) ?_ ?_
 obtain ⟨o66,h,ami⟩:=bd h
 refine .cut (λσ η=>()=o66/\σ=[(0,.aA 0 g1000 0 0),(2,.str s1),(4,pI Cd),(133,.bool (Cd==0))]/\η=[.row g1000 4 1 107 (λ_=>[.str a0.fS,pI a0.bx,.own 1 g1001 0 a0.bO.length,pI a0.dM]),.row g1001 4 a0.bO.length 101 (row ah.cells a0.bO)]) ?_ ?_
 exact ct ⟨si h,rfl,rfl⟩ (tk [0,1] Ti qQ)
 rintro _ _ ⟨rfl,rfl,rfl⟩
 replace h:=ami
 refine sE h (λUN h=>?_) (λUN h=>?_)
 refine .d ⟨rfl,rfl,rfl,_,_,rfl,aj,?_⟩
 obtain rfl:=si h
 replace h:=aBN
 exact aMw
 exact ct ⟨si h,rfl,rfl⟩ (tk [0,1] Lp qQ)
 rintro _ _ ⟨rfl,rfl,rfl⟩
 replace h:=aBN
 refine bk h λs70 aBO h=>⟨rk aBO,s70,rl aBO,(bk h λv72 aHu h=>(za (gY (g1000:=g1000) (g1001:=g1001) aHu) [0,1] ⟨rfl,ov,⟨⟩⟩ (λg74=>.fM []) (λg74=>[.row g1000 4 1 107 (λ_=>[.str v72.fS,pI v72.bx,.own 1 g74 0 v72.bO.length,pI v72.dM]),.row g74 4 v72.bO.length 101 (row ah.cells v72.bO)]) λg74=>?_))⟩
 obtain rfl:=si h
 exact en [0,1] ⟨g74,rfl,rfl⟩ pq qQ
 refine .d (bk h λv75 aaP h=>(b8 (mf aaP) (sD h (λaiB h=>?_) (λaiB h=>?_))))
 obtain ⟨o79,h,aHv⟩:=bd h
 refine .cut (λσ η=>∃y78,y78=o79/\σ=[(0,.aA 0 g1000 0 0),(2,.str s1),(5,pI y78)]/\η=[.row g1000 4 1 107 (λ_=>[.str a0.fS,pI a0.bx,.own 1 g1001 0 a0.bO.length,pI a0.dM]),.row g1001 4 a0.bO.length 101 (row ah.cells a0.bO)]) ?_ ?_
 exact bk h λUn UR h=>(b8 (mf UR) (ct ⟨_,si h,rfl,rfl⟩ (tk [0,1] Lp qQ)))
 rintro _ _ ⟨y78,rfl,rfl,rfl⟩
 replace h:=aHv
 refine bk h λs84 aBP h=>⟨Im aBP,s84,Ip aBP,(bk h λMH aHw h=>(za (gY (g1000:=g1000) (g1001:=g1001) aHw) [0,1] ⟨rfl,ov,⟨⟩⟩ (λg88=>.fM []) (λg88=>[.row g1000 4 1 107 (λ_=>[.str MH.fS,pI MH.bx,.own 1 g88 0 MH.bO.length,pI MH.dM]),.row g88 4 MH.bO.length 101 (row ah.cells MH.bO)]) λg88=>?_))⟩
 obtain rfl:=si h
 exact en [0,1] ⟨g88,rfl,rfl⟩ pq qQ
 obtain ⟨o90,h,aHx⟩:=bd h
 refine .cut (λσ η=>∃b89,b89=o90/\σ=[(0,.aA 0 g1000 0 0),(2,.str s1),(3,.int .u8 (c3.toNat:Int)),(157,.bool b89)]/\η=[.row g1000 4 1 107 (λ_=>[.str a0.fS,pI a0.bx,.own 1 g1001 0 a0.bO.length,pI a0.dM]),.row g1001 4 a0.bO.length 101 (row ah.cells a0.bO)]) ?_ ?_
 exact bk h λv93 ajo h=>(b8 (tP ajo) (ct ⟨_,si h,rfl,rfl⟩ (tk [0,1] Ti qQ)))
 rintro _ _ ⟨b89,rfl,rfl,rfl⟩
 replace h:=aHx
 refine sV h (λUT h=>?_) (λUT h=>?_)
 refine .d ?_
 obtain ⟨o97,h,aiE⟩:=bd h
 refine .cut (λσ η=>∃y96,y96=o97/\σ=[(0,.aA 0 g1000 0 0),(2,.str s1),(6,pI y96)]/\η=[.row g1000 4 1 107 (λ_=>[.str a0.fS,pI a0.bx,.own 1 g1001 0 a0.bO.length,pI a0.dM]),.row g1001 4 a0.bO.length 101 (row ah.cells a0.bO)]) ?_ ?_
 refine le (gG.partial_correctness s1 (motive:=λLu aBQ=>o97=aBQ->aK _ _ [(0,.aA 0 g1000 0 0),(2,.str s1),(6,pI Lu)] [.row g1000 4 1 107 (λ_=>[.str a0.fS,pI a0.bx,.own 1 g1001 0 a0.bO.length,pI a0.dM]),.row g1001 4 a0.bO.length 101 (row ah.cells a0.bO)]) ?_ 0 o97 h rfl) (tk [0,1] Lp qQ)
 intro aBG aBR Lu aBQ h aBS
 subst aBS
 refine aK.round (.d (.d (sD h (λJq h=>?_) (λJq h=>?_))))
 refine .t (.t (bk h λamo ahf h=>⟨cn ahf,amo,cp ahf,(.t (bk h λJ4 KM h=>(b8 (tP KM) (.t (sV h (λaBT h=>?_) (λaBT h=>?_))))))⟩))
 exact lg (aBR _ _ h rfl) (tk [0,1] Lp qQ)
 exact aMX
 exact .f (.f (.f (.f (.f (ct ⟨_,si h,rfl,rfl⟩ (tk [0,1] Lp qQ))))))
 rintro _ _ ⟨y96,rfl,rfl,rfl⟩
 replace h:=aiE
 refine .d (bk h λamp ahg h=>⟨Im ahg,amp,Ip ahg,?_⟩)
 obtain ⟨⟨amq,J5⟩,aBU,h⟩:=bd h
 refine b8 (aHr aBU) ?_
 obtain ⟨amr,h,ahh⟩:=bd h
 refine .cut (λσ η=>.inl ()=amr/\σ=[(0,.aA 0 g1000 0 0),(6,pI y96),(7,pI amq)]/\η=[.row g1000 4 1 107 (λ_=>[.str a0.fS,pI a0.bx,.own 1 g1001 0 a0.bO.length,pI a0.dM]),.row g1001 4 a0.bO.length 101 (row ah.cells a0.bO)]) ?_ ?_
 refine .d (fP h (λUX h=>?_) (λUX h=>?_))
 refine .d ⟨rfl,rfl,rfl,_,_,rfl,aj,?_⟩
 obtain rfl:=si h
 replace h:=ahh
 exact aMw
 exact ct ⟨si h,rfl,rfl⟩ (tk [0,1] EO qQ)
 rintro _ _ ⟨rfl,rfl,rfl⟩
 replace h:=ahh
 refine bk h λvk YI h=>(za (gY (g1000:=g1000) (g1001:=g1001) YI) [0,1] ⟨rfl,ov,⟨⟩⟩ (λaaW=>.fM []) (λaaW=>[.row g1000 4 1 107 (λ_=>[.str vk.fS,pI vk.bx,.own 1 aaW 0 vk.bO.length,pI vk.dM]),.row aaW 4 vk.bO.length 101 (row ah.cells vk.bO)]) λaaW=>?_)
 obtain rfl:=si h
 exact en [0,1] ⟨aaW,rfl,rfl⟩ pq qQ
 refine .d (sE h (λaBV h=>?_) (λaBV h=>?_))
 refine bk h λv124 YJ h=>(za (Dp (g1000:=g1000) (g1001:=g1001) YJ) [0,1] ⟨rfl,ov,⟨⟩⟩ (λaaX=>.fM []) (λaaX=>[.row g1000 4 1 107 (λ_=>[.str v124.fS,pI v124.bx,.own 1 aaX 0 v124.bO.length,pI v124.dM]),.row aaX 4 v124.bO.length 101 (row ah.cells v124.bO)]) λaaX=>?_)
 obtain rfl:=si h
 exact en [0,1] ⟨aaX,rfl,rfl⟩ pq qQ
 refine bk h λv127 aaB h=>(za (Dq (g1000:=g1000) (g1001:=g1001) aaB) [0,1] ⟨rfl,ov,⟨⟩⟩ (λaaY=>.fM []) (λaaY=>[.row g1000 4 1 107 (λ_=>[.str v127.fS,pI v127.bx,.own 1 aaY 0 v127.bO.length,pI v127.dM]),.row aaY 4 v127.bO.length 101 (row ah.cells v127.bO)]) λaaY=>?_)
 obtain rfl:=si h
 exact en [0,1] ⟨aaY,rfl,rfl⟩ pq qQ
def fX (a0:aD) (s21:aD) (uQ:Int) (MF:Int) (l24:List ah):Option aeE:=
 ((
 (if MF=0 then
 (if uQ<(a0.length:Int) then
 some (.inl ())
 else
 some (.inr (s21,uQ,MF,l24)))
 else
 some (.inr (s21,uQ,MF,l24)))
 :Option ((Unit) ⊕ aeE))>>=λT9=>match T9 with
 | .inr r=>some r
 | .inl _=>
 dn (bL.mk s21 uQ l24 MF)>>=λzN=>
 fX a0 zN.fS zN.bx zN.dM zN.bO
 )
partial_fixpoint
def yX (a0:aD):Option aeF:=
 (
 some ()
 :Option (Unit))>>=λ_=>
 ((
 (if (a0.length:Int)>4000 then
 some (.inr ([],1,0))
 else
 some (.inl ()))
 :Option ((Unit) ⊕ aeF))>>=λo4=>match o4 with
 | .inr r=>some r
 | .inl _=>
 (
 some ()
 :Option (Unit))>>=λ_=>
 cR (bL.mk a0 0 ([]:List ah) 0)>>=λv11=>
 (
 fX a0 v11.fS v11.bx v11.dM v11.bO
 :Option aeE)>>=λ(s14,Gu,xd,l17)=>
 (if xd=0 then
 some (l17,0,0)
 else
 some ([],xd,Gu))
 )
theorem Zw {a0:aD} {r:(List ah)×Int×Int} (h:yX a0=some r):ACall Tryz.prog 53 [.str a0] [] (λres h=>res=.fM [sl 4 ah.cells r.1,pI r.2.1,pI r.2.2]/\h=[]):=by
 refine ep Tryz.func53 ?_
 unfold yX at h
 obtain ⟨o1,h,fD⟩:=bd h
 refine .cut (λσ η=>()=o1/\σ=[(0,.str a0)]/\η=[]) ?_ ?_
 exact ct ⟨si h,rfl,rfl⟩ (tk [] ⟨.s,⟨⟩⟩ ⟨⟩)
 rintro _ _ ⟨rfl,rfl,rfl⟩
 replace h:=fD
 obtain ⟨o4,h,hk6⟩:=bd h
 refine .cut (λσ η=>.inl ()=o4/\σ=[(0,.str a0)]/\η=[]) ?_ ?_
 refine .d (sD h (λEC h=>?_) (λEC h=>?_))
 refine .d ?_
 obtain rfl:=si h
 replace h:=hk6
 obtain rfl:=si h
 exact en [] ⟨rfl,rfl⟩ (.nR ⟨.z,.i,.i,⟨⟩⟩) ⟨⟩
 exact ct ⟨si h,rfl,rfl⟩ (tk [] ⟨.s,⟨⟩⟩ ⟨⟩)
 rintro _ _ ⟨rfl,rfl,rfl⟩
 replace h:=hk6
 obtain ⟨o8,h,adg⟩:=bd h
 refine .cut (λσ η=>()=o8/\σ=[(0,.str a0),(5,.aA 0 0 0 0)]/\η=[.row 0 4 1 107 (λ_=>[.str a0,pI 0,.own 1 0 0 ([]:List ah).length,pI 0]),.row 0 4 ([]:List ah).length 101 (row ah.cells ([]:List ah))]) ?_ ?_
 exact ⟨rfl,_,_,rfl,aj,(ct ⟨si h,rfl,rfl⟩ (tk [0,2] ⟨.s,.p,⟨⟩⟩ ⟨(nb rfl ⟨.s,.i,.g,.i,⟨⟩⟩),gh,⟨⟩⟩))⟩
 rintro _ _ ⟨rfl,rfl,rfl⟩
 replace h:=adg
 refine .d (bk h λv11 Iq h=>(za (ow (g1000:=0) (g1001:=0) Iq) [0,1] ⟨rfl,ov,⟨⟩⟩ (λg13=>.fM []) (λg13=>[.row 0 4 1 107 (λ_=>[.str v11.fS,pI v11.bx,.own 1 g13 0 v11.bO.length,pI v11.dM]),.row g13 4 v11.bO.length 101 (row ah.cells v11.bO)]) λg13=>?_))
 obtain ⟨P9,h,JO⟩:=bd h
 refine .cut (λσ η=>∃s14,∃Gu,∃xd,∃l17,(s14,Gu,xd,l17)=P9/\σ=[(5,.aA 0 0 0 0)]/\η=[.row 0 4 1 107 (λ_=>[.str s14,pI Gu,.own 1 0 0 l17.length,pI xd]),.row 0 4 l17.length 101 (row ah.cells l17)]) ?_ ?_
 refine le (fX.partial_correctness a0 (motive:=λs21 uQ MF l24 o35=>P9=o35->aK _ _ [(0,.str a0),(5,.aA 0 0 0 0)] [.row 0 4 1 107 (λ_=>[.str s21,pI uQ,.own 1 0 0 l24.length,pI MF]),.row 0 4 l24.length 101 (row ah.cells l24)]) ?_ v11.fS v11.bx v11.dM v11.bO P9 h rfl) (tk [0,1] ⟨.s,.p,⟨⟩⟩ aaZ)
 intro F26 ah0 s21 uQ MF l24 o35 h akG
 subst akG
 refine aK.round ?_
 obtain ⟨T9,h,O4⟩:=bd h
 refine .cut (λσ η=>.inl ()=T9/\σ=[(0,.str a0),(5,.aA 0 0 0 0),(16,.aA 0 0 0 1),(17,pI uQ),(18,.str a0),(19,pI (a0.length:Int)),(20,.bool (decide (uQ<(a0.length:Int))))]/\η=[.row 0 4 1 107 (λ_=>[.str s21,pI uQ,.own 1 0 0 l24.length,pI MF]),.row 0 4 l24.length 101 (row ah.cells l24)]) ?_ ?_
 refine .d ⟨rfl,rfl,_,rfl,(sE h (λHr h=>?_) (λHr h=>?_))⟩
 refine ⟨rfl,(.t ⟨rfl,_,rfl,(.t (.t (.t (.t (sD h (λzL h=>?_) (λzL h=>?_))))))⟩)⟩
 exact ct ⟨si h,rfl,rfl⟩ (tk [0,1] ⟨.s,.p,.p,.i,.s,.i,.b,⟨⟩⟩ aaZ)
 obtain rfl:=si h
 replace h:=O4
 exact ct ⟨_,_,_,_,si h,rfl,rfl⟩ (tk [0,1] vF aaZ)
 refine .f (.f (.f (.f (.f (.f ?_)))))
 obtain rfl:=si h
 replace h:=O4
 exact ct ⟨_,_,_,_,si h,rfl,rfl⟩ (tk [0,1] vF aaZ)
 rintro _ _ ⟨rfl,rfl,rfl⟩
 replace h:=O4
 exact bk h λzN WE h=>(za (BF (g1000:=0) (g1001:=0) WE) [0,1] ⟨rfl,ov,⟨⟩⟩ (λg34=>.fM []) (λg34=>[.row 0 4 1 107 (λ_=>[.str zN.fS,pI zN.bx,.own 1 g34 0 zN.bO.length,pI zN.dM]),.row g34 4 zN.bO.length 101 (row ah.cells zN.bO)]) λg34=>(lg (ah0 _ _ _ _ _ h rfl) (tk [0,1] ⟨.s,.p,⟨⟩⟩ aaZ)))
 rintro _ _ ⟨s14,Gu,xd,l17,rfl,rfl,rfl⟩
 replace h:=JO
 refine .d (.d ⟨rfl,rfl,_,rfl,(sN h (λzI h=>?_) (λzI h=>?_))⟩)
 refine .d ⟨rfl,rfl,_,rfl,rfl,rfl,_,rfl,?_⟩
 obtain rfl:=si h
 exact en [] ⟨rfl,rfl⟩ (.nR ⟨.z,.i,.i,⟨⟩⟩) ⟨⟩
 refine .d ⟨rfl,rfl,_,rfl,?_⟩
 obtain rfl:=si h
 exact en [] ⟨rfl,rfl⟩ (.nR ⟨.r,.i,.i,⟨⟩⟩) ⟨⟩
set_option synthInstance.maxHeartbeats 400000
set_option synthInstance.maxSize 4000
set_option maxRecDepth 100000
def mD (a0:aD) (y4:Int):Option ((Unit) ⊕ Int):=
 (if y4<=15 then
 pN y4>>=λv8=>
 (if v8=a0 then
 some (.inr y4)
 else
 mD a0 (bm (y4+1)))
 else
 some (.inl ()))
partial_fixpoint
def lV (a0:aD):Option (Int):=
 ((
 mD a0 1
 :Option ((Unit) ⊕ Int))>>=λo1=>match o1 with
 | .inr r=>some r
 | .inl _=>
 some 0
 )
theorem SE {a0:aD} {r:Int} (h:lV a0=some r):amt 245 a0 r:=by
 refine ep Tryz.func245 ?_
 unfold lV at h
 refine .d ?_
 obtain ⟨o1,h,fD⟩:=bd h
 refine .cut (λσ η=>.inl ()=o1/\σ=[]/\η=[]) ?_ ?_
 refine .d ?_
 refine le (mD.partial_correctness a0 (motive:=λy4 Q1=>o1=Q1->aK _ _ [(0,.str a0),(3,pI y4)] []) ?_ 1 o1 h rfl) (tk [] BG ⟨⟩)
 intro F6 ih5 y4 Q1 h aa0
 subst aa0
 refine aK.round (.d (.d (sD h (λEC h=>?_) (λEC h=>?_))))
 refine .d (.d (bk h λv8 hv9 h=>(b8 (Fx hv9) (sE h (λlS h=>?_) (λlS h=>?_)))))
 refine .d ?_
 obtain rfl:=si h
 replace h:=fD
 exact eI h
 exact lg (ih5 _ _ h rfl) (tk [] BG ⟨⟩)
 exact aMF
 rintro _ _ ⟨rfl,rfl,rfl⟩
 replace h:=fD
 exact aML
def ki (a0:ak):Option (Int×ak):=
 (if a0.bx<(a0.ao.length:Int) then
 idx a0.ao a0.bx>>=λx2=>
 some (x2.bx,a0)
 else
 some (a0.aw,a0))
theorem z7 {a0:ak} {r:Int×ak} {g1000:Nat} (h:ki a0=some r):ACall Tryz.prog 60 [.aA 0 g1000 0 0] [.row g1000 4 1 67 (λ_=>a0.lit)] (λres h=>res=pI r.1/\h=[.row g1000 4 1 67 (λ_=>r.2.lit)]):=by
 refine ep Tryz.func60 ?_
 unfold ki at h
 refine .d (.d (.d ⟨rfl,rfl,rfl,_,rfl,rfl,rfl,rfl,_,rfl,(sD h (λmJ h=>?_) (λmJ h=>?_))⟩))
 refine .d ⟨rfl,rfl,rfl,_,rfl,rfl,rfl,rfl,_,rfl,(bk h λx2 hx3 h=>⟨bf hx3,_,(aU hx3).trans (ah.aO x2),?_⟩)⟩
 obtain rfl:=si h
 exact en [0] ⟨rfl,rfl⟩ .i rR
 refine .d ⟨rfl,rfl,rfl,_,rfl,?_⟩
 obtain rfl:=si h
 exact en [0] ⟨rfl,rfl⟩ .i rR
def cD (a0:ak) (a1:Int):Option (ah×ak):=
 (if (bm (a0.bx+a1))<(a0.ao.length:Int) then
 idx a0.ao (bm (a0.bx+a1))>>=λx2=>
 some (x2,a0)
 else
 some ((ah.mk 0 0 [] 0),a0))
theorem fJ {a0:ak} {a1:Int} {r:ah×ak} {g1000:Nat} (h:cD a0 a1=some r):ACall Tryz.prog 121 [.aA 0 g1000 0 0,pI a1] [.row g1000 4 1 67 (λ_=>a0.lit)] (λres h=>res=.agg r.1.lit/\h=[.row g1000 4 1 67 (λ_=>r.2.lit)]):=by
 refine ep Tryz.func121 ?_
 unfold cD at h
 refine .d (.d (.d ⟨rfl,rfl,rfl,_,rfl,rfl,rfl,rfl,_,rfl,(sD h (λmJ h=>?_) (λmJ h=>?_))⟩))
 refine .d (.float [(0,true),(1,true),(2,true),(3,true),(4,true),(5,true),(6,true),(7,true),(8,true),(9,true),(10,true),(11,true),(12,false)] aNh ?_)
 refine ⟨rfl,rfl,rfl,_,rfl,rfl,rfl,rfl,_,rfl,(bk h λx2 hx3 h=>⟨bf hx3,_,(aU hx3).trans (ah.aO x2),rfl,_,_,rfl,aj,?_⟩)⟩
 obtain rfl:=si h
 exact ⟨rfl,_,rfl,(en [0] ⟨rfl,rfl⟩ (.kR ⟨.i,.i,.s,.i,⟨⟩⟩) rR)⟩
 refine .d ⟨rfl,_,_,rfl,aj,?_⟩
 obtain rfl:=si h
 exact ⟨rfl,_,rfl,(en [0] ⟨rfl,rfl⟩ (.kR ⟨.i,.i,.s,.i,⟨⟩⟩) rR)⟩
def aV (a0:ak) (a1:Int) (a2:aD):Option (Bool×ak):=
 cD a0 a1>>=λ(v1,v2)=>
 (if v1.ai=6 then
 some ((v1.aq==a2),v2)
 else
 (if v1.ai=3 then
 some ((v1.aq==a2),v2)
 else
 some (false,v2)))
theorem cr {a0:ak} {a1:Int} {a2:aD} {r:Bool×ak} {g1000:Nat} (h:aV a0 a1 a2=some r):ACall Tryz.prog 111 [.aA 0 g1000 0 0,pI a1,.str a2] [.row g1000 4 1 67 (λ_=>a0.lit)] (λres h=>res=.bool r.1/\h=[.row g1000 4 1 67 (λ_=>r.2.lit)]):=by
 refine ep Tryz.func111 ?_
 unfold aV at h
 refine .d (.d ?_)
 obtain ⟨⟨v1,v2⟩,tD,h⟩:=bd h
 refine bK (fJ tD) [0] ?_
 refine ⟨rfl,_,_,rfl,aj,(.d ⟨rfl,rfl,_,rfl,(sE h (λuX h=>?_) (λuX h=>?_))⟩)⟩
 refine .t (.t (.t (.t ⟨rfl,(.t ⟨rfl,_,rfl,(.t (.t (.t ?_)))⟩)⟩)))
 exact aMx
 refine ⟨rfl,(.f ⟨rfl,_,rfl,(.f (.f (sE h (λAK h=>?_) (λAK h=>?_))))⟩)⟩
 refine ⟨rfl,(.t ⟨rfl,_,rfl,(.t (.t (.t ?_)))⟩)⟩
 exact aMx
 refine .f (.f (.f (.f ?_)))
 exact aMx
def au (a0:ak) (a1:aD):Option (Bool×ak):=
 (if a0.av=true then
 some (false,a0)
 else
 aV a0 0 a1>>=λ(v2,v3)=>
 (if v2=true then
 some (true,(ak.mk v3.ao (bm (v3.bx+1)) v3.aw v3.av))
 else
 some (false,v3)))
theorem az {a0:ak} {a1:aD} {r:Bool×ak} {g1000:Nat} (h:au a0 a1=some r):ACall Tryz.prog 58 [.aA 0 g1000 0 0,.str a1] [.row g1000 4 1 67 (λ_=>a0.lit)] (λres h=>res=.bool r.1/\h=[.row g1000 4 1 67 (λ_=>r.2.lit)]):=by
 refine ep Tryz.func58 ?_
 unfold au at h
 refine .d (.d (.d ⟨rfl,rfl,rfl,_,rfl,(sV h (λmJ h=>?_) (λmJ h=>?_))⟩))
 refine .t (.t (.t (.t (.t (.d ?_)))))
 exact aMx
 refine .f (.f ?_)
 obtain ⟨⟨v2,v3⟩,RP,h⟩:=bd h
 refine bK (cr RP) [0] ?_
 refine .f (.f (fP h (λAK h=>?_) (λAK h=>?_)))
 refine .d ?_
 exact aMx
 refine .d ⟨rfl,rfl,rfl,_,rfl,rfl,rfl,rfl,_,_,rfl,aj,(.d ?_)⟩
 exact aMx
def aI (a0:ak) (a1:aD):Option (ak):=
 au a0 a1>>=λ(v1,v2)=>
 (if v1=true then
 some v2
 else
 some (ak.mk v2.ao v2.bx v2.aw true))
theorem aY {a0:ak} {a1:aD} {r:ak} {g1000:Nat} (h:aI a0 a1=some r):ACall Tryz.prog 177 [.aA 0 g1000 0 0,.str a1] [.row g1000 4 1 67 (λ_=>a0.lit)] (λres h=>res=.fM []/\h=[.row g1000 4 1 67 (λ_=>r.lit)]):=by
 refine ep Tryz.func177 ?_
 unfold aI at h
 refine .d ?_
 obtain ⟨⟨v1,v2⟩,tD,h⟩:=bd h
 refine bK (az tD) [0] ?_
 refine fP h (λuX h=>?_) (λuX h=>?_)
 refine ⟨rfl,rfl,rfl,_,_,rfl,aj,?_⟩
 obtain rfl:=si h
 exact en [0] ⟨rfl,rfl⟩ pq rR
 obtain rfl:=si h
 exact en [0] ⟨rfl,rfl⟩ pq rR
def bu (a0:ak) (a1:Int):Option (aD×ak):=
 cD a0 0>>=λ(v1,v2)=>
 (if v2.av=true then
 some ([],(ak.mk v2.ao v2.bx v2.aw true))
 else
 (if v1.ai=a1 then
 (if a1=3 then
 bC v1.aq>>=λv7=>
 (if v7=true then
 some (v1.aq,(ak.mk v2.ao (bm (v2.bx+1)) v2.aw v2.av))
 else
 some ([],(ak.mk v2.ao v2.bx v2.aw true)))
 else
 (if a1=2 then
 bC v1.aq>>=λv11=>
 (if v11=true then
 some (v1.aq,(ak.mk v2.ao (bm (v2.bx+1)) v2.aw v2.av))
 else
 some ([],(ak.mk v2.ao v2.bx v2.aw true)))
 else
 some (v1.aq,(ak.mk v2.ao (bm (v2.bx+1)) v2.aw v2.av))))
 else
 some ([],(ak.mk v2.ao v2.bx v2.aw true))))
theorem cz {a0:ak} {a1:Int} {r:aD×ak} {g1000:Nat} (h:bu a0 a1=some r):ACall Tryz.prog 122 [.aA 0 g1000 0 0,pI a1] [.row g1000 4 1 67 (λ_=>a0.lit)] (λres h=>res=.str r.1/\h=[.row g1000 4 1 67 (λ_=>r.2.lit)]):=by
 refine ep Tryz.func122 ?_
 unfold bu at h
 refine .d (.d ?_)
 obtain ⟨⟨v1,v2⟩,tD,h⟩:=bd h
 refine bK (fJ tD) [0] ?_
 refine ⟨rfl,_,_,rfl,aj,(.d (.d ⟨rfl,rfl,rfl,_,rfl,(sV h (λuX h=>?_) (λuX h=>?_))⟩))⟩
 refine .t (.t (.t (.t (.t (.t (.t (.t (.t (.t (.t (.t (.d ⟨rfl,rfl,?_⟩))))))))))))
 refine ⟨rfl,_,_,rfl,aj,(.d ?_)⟩
 exact aMs
 refine ⟨rfl,(.f ⟨rfl,_,rfl,(.f (.f (.f (sN h (λAK h=>?_) (λAK h=>?_)))))⟩)⟩
 refine .t (.t (.t (.t (.t (.t (.t (.d ⟨rfl,rfl,rfl,_,_,rfl,aj,(.d ?_)⟩)))))))
 exact aMs
 refine .f (.f (sE h (λBR h=>?_) (λBR h=>?_)))
 refine .t (.f (.t (.f (.t ⟨rfl,(.t ⟨rfl,_,rfl,(.t (bk h λv7 Uk h=>(b8 (cH Uk) (.t (.f (.t (.f ?_)))))))⟩)⟩))))
 refine fP h (λP8 h=>?_) (λP8 h=>?_)
 refine .d ⟨rfl,rfl,rfl,_,_,rfl,aj,(.d ?_)⟩
 exact aMs
 refine .d ⟨rfl,rfl,rfl,_,rfl,rfl,rfl,rfl,_,_,rfl,aj,(.d ⟨rfl,rfl,_,rfl,?_⟩)⟩
 exact aMs
 refine .f (.f (.f (.f (sE h (λlS h=>?_) (λlS h=>?_)))))
 refine ⟨rfl,(.t ⟨rfl,_,rfl,(.t (bk h λv11 Iq h=>(b8 (cH Iq) (.t (.f (.t (.f (fP h (λsj h=>?_) (λsj h=>?_)))))))))⟩)⟩
 refine .d ⟨rfl,rfl,rfl,_,_,rfl,aj,(.d ?_)⟩
 exact aMs
 refine .d ⟨rfl,rfl,rfl,_,rfl,rfl,rfl,rfl,_,_,rfl,aj,(.d ⟨rfl,rfl,_,rfl,?_⟩)⟩
 exact aMs
 refine .f (.f (.f (.f (.f (.f (.f (.d ⟨rfl,rfl,rfl,_,rfl,rfl,rfl,rfl,_,_,rfl,aj,(.d ?_)⟩)))))))
 refine ⟨rfl,rfl,_,rfl,?_⟩
 exact aMs
def cE (a0:ak):Option (aD×ak):=
 au a0 [115,116,97,116,105,99]>>=λ(v1,v2)=>
 (if v1=true then
 some ([115,116,97,116,105,99],v2)
 else
 bu v2 3>>=λ(v5,v6)=>
 some (v5,v6))
theorem oR {a0:ak} {r:aD×ak} {g1000:Nat} (h:cE a0=some r):ACall Tryz.prog 234 [.aA 0 g1000 0 0] [.row g1000 4 1 67 (λ_=>a0.lit)] (λres h=>res=.str r.1/\h=[.row g1000 4 1 67 (λ_=>r.2.lit)]):=by
 refine ep Tryz.func234 ?_
 unfold cE at h
 refine .d (.d (.d ?_))
 obtain ⟨⟨v1,v2⟩,tD,h⟩:=bd h
 refine bK (az tD) [0] ?_
 refine sV h (λuX h=>?_) (λuX h=>?_)
 refine .d ?_
 exact aMs
 refine .d ?_
 obtain ⟨⟨v5,v6⟩,hv7,h⟩:=bd h
 refine bK (cz hv7) [0] ?_
 exact aMs
def cx (a0:ak):Option kN:=
 bu a0 2>>=λ(v1,v2)=>
 some ((ae.mk 4 0 v1 []),v2)
theorem fC {a0:ak} {r:ae×ak} {g1000:Nat} (h:cx a0=some r):E7 113 a0 r g1000:=by
 refine ep Tryz.func113 ?_
 unfold cx at h
 refine .d (.d ?_)
 obtain ⟨⟨v1,v2⟩,tD,h⟩:=bd h
 refine bK (cz tD) [0] ?_
 refine ⟨rfl,_,_,rfl,aj,?_⟩
 obtain rfl:=si h
 exact ⟨rfl,_,rfl,(en [0,3] ⟨_,(DR.nil (D:=ae.D)),rfl,rfl⟩ xb wU)⟩
def bJ (a0:ak):Option kN:=
 cD a0 0>>=λ(v1,v2)=>
 (if v1.ai=4 then
 some ((ae.mk 1 v1.aE [] []),(ak.mk v2.ao (bm (v2.bx+1)) v2.aw v2.av))
 else
 (if v1.ai=5 then
 some ((ae.mk 2 0 v1.aq []),(ak.mk v2.ao (bm (v2.bx+1)) v2.aw v2.av))
 else
 au v2 [110,117,108,108]>>=λ(v6,v7)=>
 (if v6=true then
 some ((ae.mk 3 0 [] []),v7)
 else
 au v7 [102,97,108,115,101]>>=λ(v10,v11)=>
 (if v10=true then
 some ((ae.mk 3 1 [] []),v11)
 else
 au v11 [116,114,117,101]>>=λ(wV,yq)=>
 (if wV=true then
 some ((ae.mk 3 2 [] []),yq)
 else
 some ((ae.mk 0 0 [] []),(ak.mk yq.ao yq.bx yq.aw true)))))))
theorem qn {a0:ak} {r:ae×ak} {g1000:Nat} (h:bJ a0=some r):E7 211 a0 r g1000:=by
 refine ep Tryz.func211 ?_
 unfold bJ at h
 refine .d (.d ?_)
 obtain ⟨⟨v1,v2⟩,tD,h⟩:=bd h
 refine bK (fJ tD) [0] ?_
 refine ⟨rfl,_,_,rfl,aj,(.d (.d ⟨rfl,rfl,_,rfl,(sE h (λuX h=>?_) (λuX h=>?_))⟩))⟩
 refine .d ⟨rfl,rfl,rfl,_,rfl,rfl,rfl,rfl,_,_,rfl,aj,(.d ⟨rfl,rfl,_,rfl,rfl,_,_,rfl,aj,?_⟩)⟩
 exact aMp
 refine .d ⟨rfl,rfl,_,rfl,(sE h (λAK h=>?_) (λAK h=>?_))⟩
 refine .d ⟨rfl,rfl,rfl,_,rfl,rfl,rfl,rfl,_,_,rfl,aj,(.d ⟨rfl,rfl,_,rfl,rfl,_,_,rfl,aj,?_⟩)⟩
 exact aMp
 refine .d ?_
 obtain ⟨⟨v6,v7⟩,Uk,h⟩:=bd h
 refine bK (az Uk) [0] ?_
 refine sV h (λP8 h=>?_) (λP8 h=>?_)
 refine .d ⟨rfl,_,_,rfl,aj,?_⟩
 exact aMp
 refine .d ?_
 obtain ⟨⟨v10,v11⟩,Iq,h⟩:=bd h
 refine bK (az Iq) [0] ?_
 refine sV h (λsj h=>?_) (λsj h=>?_)
 refine .d ⟨rfl,_,_,rfl,aj,?_⟩
 exact aMp
 refine .d ?_
 obtain ⟨⟨wV,yq⟩,Ir,h⟩:=bd h
 refine bK (az Ir) [0] ?_
 refine sV h (λyz h=>?_) (λyz h=>?_)
 refine .d ⟨rfl,_,_,rfl,aj,?_⟩
 exact aMp
 refine .d ⟨rfl,rfl,rfl,_,_,rfl,aj,(.d ⟨rfl,_,_,rfl,aj,?_⟩)⟩
 exact aMp
def cd (a1:Int) (oq:List ah) (ur:Int) (nO:Int) (b22:Bool) (tr:List ae):Option ty6:=
 (if b22=true then
 some (.inl (oq,ur,nO,b22,tr))
 else
 (
 au (ak.mk oq ur nO b22) [38]>>=λ(v37,uu)=>
 (if v37=true then
 some (uu.ao,uu.bx,uu.aw,uu.av,1)
 else
 some (uu.ao,uu.bx,uu.aw,uu.av,0))
 :Option ((List ah)×Int×Int×Bool×Int))>>=λ(BZ,Q3,y31,b32,O1)=>
 bu (ak.mk BZ Q3 y31 b32) 2>>=λ(zC,v42)=>
 cC 56 tr [(ae.mk a1 O1 zC ([]:List ae))]>>=λO3=>
 au v42 [41]>>=λ(v46,vy)=>
 (if v46=true then
 some (.inr (O3,vy))
 else
 aI vy [44]>>=λtt=>
 cd a1 tt.ao tt.bx tt.aw tt.av O3))
partial_fixpoint
def fA (a0:ak) (a1:Int):Option NQ:=
 aI a0 [40]>>=λv1=>
 au v1 [41]>>=λ(v3,v4)=>
 (if v3=true then
 some (([]:List ae),v4)
 else
 ((
 cd a1 v4.ao v4.bx v4.aw v4.av ([]:List ae)
 :Option ty6)>>=λFe=>match Fe with
 | .inr r=>some r
 | .inl (l8,y9,qP,VS,Ff)=>
 some (Ff,(ak.mk l8 y9 qP VS))
 ))
theorem oS {a0:ak} {a1:Int} {r:(List ae)×ak} {g1000:Nat} (h:fA a0 a1=some r):ACall Tryz.prog 185 [.aA 0 g1000 0 0,pI a1] [.row g1000 4 1 67 (λ_=>a0.lit)] (λres h=>∃F1:Nat->List PV,DR ae.D r.1.length F1 r.1/\res=.own 1 0 0 r.1.length/\h=[.row g1000 4 1 67 (λ_=>r.2.lit),.row 0 4 r.1.length 29 F1]):=by
 refine ep Tryz.func185 ?_
 unfold fA at h
 refine .d (.d ⟨(jr []),(λi h=>absurd h (aKR i)),(.d (bk h λv1 tu h=>(bK (aY tu) [0] ?_)))⟩)
 refine .d (.d ?_)
 obtain ⟨⟨v3,v4⟩,Ni,h⟩:=bd h
 refine bK (az Ni) [0] ?_
 refine sV h (λBR h=>?_) (λBR h=>?_)
 refine .d ?_
 obtain rfl:=si h
 have d7:DR ae.D 0 (jr []) ([]:List ae):=DR.cZ
 exact en [0,1] (rs d7) (.oe) kh
 obtain ⟨Fe,h,OK⟩:=bd h
 refine .cut (λσ η=>∃l8,∃y9,∃qP,∃VS,∃Ff,∃f13:Nat->List PV,DR ae.D Ff.length f13 Ff/\.inl (l8,y9,qP,VS,Ff)=Fe/\σ=[(5,.own 1 0 0 Ff.length)]/\η=[.row g1000 4 1 67 (λ_=>[sl 4 ah.cells l8,pI y9,pI qP,.bool VS]),.row 0 4 Ff.length 29 f13]) ?_ ?_
 have d18:DR ae.D 0 (jr []) ([]:List ae):=DR.cZ
 refine le (cd.partial_correctness a1 (motive:=λoq ur nO b22 tr o56=>∀f24:Nat->List PV,DR ae.D tr.length f24 tr->Fe=o56->aK _ _ [(0,.aA 0 g1000 0 0),(1,pI a1),(5,.own 1 0 0 tr.length)] [.row g1000 4 1 67 (λ_=>[sl 4 ah.cells oq,pI ur,pI nO,.bool b22]),.row 0 4 tr.length 29 f24]) ?_ v4.ao v4.bx v4.aw v4.av ([]:List ae) Fe h (jr []) d18.self rfl) (tk [0,1] SN zZ)
 intro F27 adG oq ur nO b22 tr o56 h f24 d25 ams
 subst ams
 refine aK.round (.d (.d ⟨rfl,rfl,rfl,_,rfl,(fP h (λHA h=>?_) (λHA h=>?_))⟩))
 refine .d ⟨rfl,_,_,rfl,aj,?_⟩
 obtain ⟨o34,h,aHy⟩:=bd h
 refine .cut (λσ η=>∃BZ,∃Q3,∃y31,∃b32,∃O1,(BZ,Q3,y31,b32,O1)=o34/\σ=[(0,.aA 0 g1000 0 0),(1,pI a1),(5,.own 1 0 0 tr.length),(6,.aA 2 0 0 0)]/\η=[.row g1000 4 1 67 (λ_=>[sl 4 ah.cells BZ,pI Q3,pI y31,.bool b32]),.row 0 4 tr.length 29 f24,.row 0 4 1 29 (λ_=>[pI a1,pI O1,.str [],.own 3 0 0 0]),.row 0 4 0 29 (λ_=>[])]) ?_ ?_
 refine .d ?_
 obtain ⟨⟨v37,uu⟩,Ns,h⟩:=bd h
 refine bK (az Ns) [0] ?_
 refine sV h (λNf h=>?_) (λNf h=>?_)
 exact ⟨rfl,rfl,_,_,rfl,aj,(ct ⟨_,_,_,_,_,si h,rfl,rfl⟩ (tk [0,1,2,6] adY ⟨(On rfl),yY,(nb rfl ⟨.i,.i,.s,.g,⟨⟩⟩),gh,⟨⟩⟩))⟩
 exact ct ⟨_,_,_,_,_,si h,rfl,rfl⟩ (tk [0,1,2,6] adY ⟨(On rfl),yY,(nb rfl ⟨.i,.i,.s,.g,⟨⟩⟩),gh,⟨⟩⟩)
 rintro _ _ ⟨BZ,Q3,y31,b32,O1,rfl,rfl,rfl⟩
 replace h:=aHy
 refine .d ?_
 obtain ⟨⟨zC,v42⟩,akK,h⟩:=bd h
 refine bK (cz akK) [0] ?_
 refine ⟨rfl,rfl,_,_,rfl,aj,(.d ⟨rfl,_,rfl,_,bT,(bk h λO3 xR h=>(.dO ⟨rfl,rfl,(λ_ _=>rfl),DR.rO d25 xR,O3.length,da f24 tr.length [pI a1,pI O1,.str zC,.own 3 0 0 0],DR.ln d25 xR,cc (DR.ln d25 xR) ⟨.same _,.same _,.same _,.same _,trivial⟩,(.d (.d ?_))⟩))⟩)⟩
 obtain ⟨⟨v46,vy⟩,aa1,h⟩:=bd h
 refine bK (az aa1) [0] ?_
 refine sV h (λaHz h=>?_) (λaHz h=>?_)
 refine .d ?_
 obtain rfl:=si h
 replace h:=OK
 obtain rfl:=si h
 refine .ab 1 tr.length 3 3 _ (λ_=>pf (DR.lq d25 xR) (DR.nil (D:=ae.D)).po) λF50=>?_
 have d51:=DR.gu d25 xR (ae.bh (x:=(ae.mk a1 O1 zC ([]:List ae))) (F0:=F50) (DR.nil (D:=ae.D)))
 exact en [0,1] (rs d51) (.oe) kh
 refine bk h λtt H9 h=>(bK (aY H9) [0] ?_)
 refine .ab 1 tr.length 3 3 _ (λ_=>pf (DR.lq d25 xR) (DR.nil (D:=ae.D)).po) λF54=>?_
 have d55:=DR.gu d25 xR (ae.bh (x:=(ae.mk a1 O1 zC ([]:List ae))) (F0:=F54) (DR.nil (D:=ae.D)))
 exact lg (adG _ _ _ _ _ _ h _ d55 rfl) (tk [0,1] SN zZ)
 exact ct ⟨_,_,_,_,_,f24,d25,si h,rfl,rfl⟩ (tk [0,1] ⟨.oe,⟨⟩⟩ zZ)
 rintro _ _ ⟨l8,y9,qP,VS,Ff,f13,d14,rfl,rfl,rfl⟩
 replace h:=OK
 refine .d ?_
 obtain rfl:=si h
 exact en [0,1] ⟨f13,d14.self,rfl,rfl⟩ (.oe) kh
def ee (a0:ak):Option NQ:=
 fA a0 24>>=λ(v1,v2)=>
 some (v1,v2)
theorem mZ {a0:ak} {r:(List ae)×ak} {g1000:Nat} (h:ee a0=some r):ajh 123 a0 r g1000:=by
 refine ep Tryz.func123 ?_
 unfold ee at h
 refine .d (.d ?_)
 obtain ⟨⟨v1,v2⟩,tD,h⟩:=bd h
 refine bp (oS (g1000:=g1000) tD) [0] λf4 d5=>?_
 obtain rfl:=si h
 exact en [0,1] ⟨f4,d5.self,rfl,rfl⟩ (.oe) kh
end Go.Am
