/- Texts of the proof, joined and shortened. -/
import Derived.Test.YtgciegobebabfaaGreatDoorPk10
import Derived.Lib.AtoiTie
set_option linter.unusedVariables false
set_option linter.unusedSimpArgs false
set_option maxRecDepth 100000
namespace Go.Am
open Go Go.RowKit Go.Proofs
def ku (g:bb) (q:bZ) (h:List aq) (s:Int):Option (Bool):=if(q.length:Int)>1048576 then some true else lQ g 1048576>>=λv2=>(((if v2<0 then some (.inr true)else some (.inl ())):Option ((Unit) ⊕ Bool))>>=λo4=>match o4 with | .inr r=>some r | .inl _=>kg h v2>>=λv8=>if v8<0 then some true else(fm g>>=λwV=>eH h>>=λt=>o8 wV q t s>>=λ(b,D0)=>some (b.cF,b.cg,b.dZ,b.aF,b.bO,b.a8,b.cA.bw,b.bL,b.bx,b.de,b.bW,b.bF.dW,b.bF.aY,b.bF.aZ,D0):Option (Int×bZ×Int×Int×(List ae)×(List aK)×(List aE)×(List aH)×(List aC)×(List cc)×(List aM)×bZ×(List aI)×(List aJ)×Bool))>>=λ(u,v,w,x,y,z,A,B,C,D,E,F,G,H,Kx)=>fm g>>=λI=>eH h>>=λJ=>(iN I q J s>>=λ(c,K)=>some (c.cF,c.cg,c.dZ,c.aF,c.bF.dW,c.bO,c.a8,c.cA.bw,c.bL,c.bx,c.de,c.bW,c.bF.aY,c.bF.aZ,K):Option (Int×bZ×Int×Int×bZ×(List ae)×(List aK)×(List aE)×(List aH)×(List aC)×(List cc)×(List aM)×(List aI)×(List aJ)×Bool))>>=λ(i,j,k,l,m,L,M,N,O,P,Q,R,S,T,Ud)=>lS (aS.mk i j k l L M (dL.mk N) O P Q R (cp.mk m S T)) (aS.mk u v w x y z (dL.mk A) B C D E (cp.mk F G H))>>=λU=>if U then if Ud=Kx then((fm g>>=λV=>qK I V>>=λW=>(if W then some (.inl ())else some (.inr false)):Option ((Unit) ⊕ Bool))>>=λX=>match X with | .inr r=>some r | .inl _=>eH h>>=λY=>my J Y>>=λRD=>if RD then ld I 1>>=λ(Z,a5)=>(jY J Z>>=λ(aa,a6)=>some aa:Option (Int))>>=λYy=>(((if Yy<0 then some (.inr false)else lS (aS.mk i j k l L M (dL.mk N) O P Q R (cp.mk m S T)) (aS.mk u v w x y z (dL.mk A) B C D E (cp.mk F G H))>>=λn=>if n then some (.inl ())else some (.inr false)):Option ((Unit) ⊕ Bool))>>=λad=>match ad with | .inr r=>some r | .inl _=>lp (aS.mk i j k l L M (dL.mk N) O P Q R (cp.mk m S T)) 1>>=λ(e,a)=>jo (aS.mk i j k l a.bO a.a8 a.cA a.bL a.bx a.de a.bW (cp.mk m a.bF.aY a.bF.aZ)) 1>>=λf=>(((if f<0 then some (.inr false)else some (.inl ())):Option ((Unit) ⊕ Bool))>>=λag=>match ag with | .inr r=>some r | .inl _=>if f=e then(fm g>>=λo=>eH h>>=λar=>iN o q ar s>>=λ(d,aV)=>some (d.cF,d.cg,d.dZ,d.aF,d.bF.dW,d.bO,d.a8,d.cA.bw,d.bL,d.bx,d.de,d.bW,d.bF.aY,d.bF.aZ,aV):Option (Int×bZ×Int×Int×bZ×(List ae)×(List aK)×(List aE)×(List aH)×(List aC)×(List cc)×(List aM)×(List aI)×(List aJ)×Bool))>>=λ(Yz,YA,YB,YC,YD,SH,SI,Qa,Qb,Qc,Qd,Qe,SJ,SK,YE)=>lS (aS.mk Yz YA YB YC SH SI (dL.mk Qa) Qb Qc Qd Qe (cp.mk YD SJ SK)) (aS.mk u v w x y z (dL.mk A) B C D E (cp.mk F G H))>>=λa4=>if a4 then if YE=Kx then(jo (aS.mk i j k l a.bO a.a8 a.cA a.bL a.bx a.de a.bW (cp.mk m a.bF.aY a.bF.aZ)) 1>>=λp=>some p:Option (Int))>>=λU7=>if U7<0 then some false else if U7=e then some true else some false else some false else some false else some false))else some false)else some false else some false)
theorem yR {E:bb} {a1:bZ} {a2:List aq} {a3:Int} {r:Bool} (h:ku E a1 a2 a3=some r) (D1:∀v u p a r,¬(a1.length:Int)>1048576->lQ E 1048576=some v->(if v<0 then some (.inr true)else some (.inl ()):Option (Unit ⊕ Bool))=some (.inl ())->kg a2 v=some u->¬u<0->fm E=some p->eH a2=some a->iN p a1 a a3=some r->T1 r.1):ACall Tryz.prog 3 [.agg E.lit,.str a1,sl 6 aq.cells a2,.int .i64 a3] [] (λres h=>res=.bool r/\h=[]):=by
 refine cQ Tryz.func3 ?_;unfold ku at h;refine .d (.d (.d (sD h (λdi h=>?_) (λdi h=>?_))));exact anu;refine .d (.d ⟨rfl,_,rfl,(bk h λv2 tQ h=>(b8 (GZ tQ) ?_))⟩);obtain⟨o4,cn,LH⟩:=bd h;replace h:=cn;refine .cut (λσ η=>.inl ()=o4/\σ=[(1,.str a1),(2,sl 6 aq.cells a2),(3,.int .i64 a3),(4,.bc 0 0 0 0),(9,.int .i64 v2)]/\η=[.row 0 2 1 25 (λ_=>E.lit)]) ?_ ?_;refine .d (sD h (λoJ h=>?_) (λoJ h=>?_));refine .d ?_;exact anf;exact ct ⟨si h,rfl,rfl⟩ (tk [0] ⟨.s,.l,.i,.p,.i,⟨⟩⟩ ⟨(uy rfl),⟨⟩⟩);rintro _ _ ⟨rfl,rfl,rfl⟩;refine .d (bk LH λv8 Vb h=>(b8 (FE Vb) (.d (.d (sD h (λeZ h=>?_) (λeZ h=>?_))))));exact anu;obtain⟨dH,dQ,d0⟩:=bd h;replace h:=dQ;refine .cut (λσ η=>∃P,∃Q,∃R,∃S,∃T,∃U,∃V,∃W,∃X,∃Y,∃Z,∃Ln,∃DZ,∃rp,∃Kx,(P,Q,R,S,T,U,V,W,X,Y,Z,Ln,DZ,rp,Kx)=dH/\σ=[(1,.str a1),(2,sl 6 aq.cells a2),(3,.int .i64 a3),(4,.bc 0 0 0 0),(10,.bc 1 0 0 0),(11,.bool Kx)]/\η=[.row 0 2 1 25 (λ_=>E.lit),.row 0 14 1 43 (λ_=>[.int .i64 P,.str Q,.int .i64 R,.int .i64 S,sl 5 ae.cells T,sl 2 aK.cells U,sl 6 aE.cells V,sl 3 aH.cells W,sl 5 aC.cells X,sl 19 cc.cells Y,sl 13 aM.cells Z,.str Ln,sl 2 aI.cells DZ,sl 2 aJ.cells rp])]) ?_ ?_;refine⟨rfl,_,rfl,(bk h λwV B7 h=>(b8 (vL B7) (bk h λf0 Ec h=>(b8 (uG Ec) ?_))))⟩;obtain⟨⟨eU,D0⟩,Hv,h⟩:=bd h;exact b8 (FL Hv) ⟨rfl,_,λ_=>[.int .i64 eU.cF,.str eU.cg,.int .i64 eU.dZ,.int .i64 eU.aF,sl 5 ae.cells eU.bO,sl 2 aK.cells eU.a8,sl 6 aE.cells eU.cA.bw,sl 3 aH.cells eU.bL,sl 5 aC.cells eU.bx,sl 19 cc.cells eU.de,sl 13 aM.cells eU.bW,.str eU.bF.dW,sl 2 aI.cells eU.bF.aY,sl 2 aJ.cells eU.bF.aZ],rfl,CF rfl,(ct ⟨_,_,_,_,_,_,_,_,_,_,_,_,_,_,_,si h,rfl,rfl⟩ (tk [0,1] ⟨.s,.l,.i,.p,.p,.b,⟨⟩⟩ ⟨(uy rfl),(uy rfl),⟨⟩⟩))⟩;rintro _ _ ⟨P,Q,R,S,T,U,V,W,X,Y,Z,Ln,DZ,rp,Kx,rfl,rfl,rfl⟩;refine .d ⟨rfl,_,rfl,(bk d0 λg Ov h=>(zH (FF Ov) ?_))⟩;rintro _ _ ⟨bj,bl,q,w,rfl,rfl⟩;refine⟨.agg [.own 2 0 0 g.bT.length,.own 3 0 0 g.bs.length],[.row 0 2 1 25 (λ_=>E.lit),.row 0 14 1 43 (λ_=>[.int .i64 P,.str Q,.int .i64 R,.int .i64 S,sl 5 ae.cells T,sl 2 aK.cells U,sl 6 aE.cells V,sl 3 aH.cells W,sl 5 aC.cells X,sl 19 cc.cells Y,sl 13 aM.cells Z,.str Ln,sl 2 aI.cells DZ,sl 2 aJ.cells rp]),.row 0 6 g.bT.length 129 bj,.row 0 4 g.bs.length 133 bl],rfl,(by simp only[akB,akE,shr,Ef q,Ef w];rfl),⟨rfl,_,λ_=>[.own 2 0 0 g.bT.length,.own 3 0 0 g.bs.length],rfl,CF rfl,(.d (bk h λU6 cq h=>(zH (Eh cq) ?_)))⟩⟩;rintro _ _ ⟨bo,x,rfl,rfl⟩;refine⟨.own 5 0 0 U6.length,[.row 0 2 1 25 (λ_=>E.lit),.row 0 14 1 43 (λ_=>[.int .i64 P,.str Q,.int .i64 R,.int .i64 S,sl 5 ae.cells T,sl 2 aK.cells U,sl 6 aE.cells V,sl 3 aH.cells W,sl 5 aC.cells X,sl 19 cc.cells Y,sl 13 aM.cells Z,.str Ln,sl 2 aI.cells DZ,sl 2 aJ.cells rp]),.row 0 6 g.bT.length 129 bj,.row 0 4 g.bs.length 133 bl,.row 0 2 1 49 (λ_=>[.own 2 0 0 g.bT.length,.own 3 0 0 g.bs.length]),.row 0 6 U6.length 79 bo],rfl,(by simp only[akB,akE,shr,Ef x];rfl),?_⟩;obtain⟨d1,d2,d3⟩:=bd h;replace h:=d2;refine .cut (λσ η=>∃FY,∃NJ,∃NK,∃NL,∃NM,∃j,∃k,∃y,∃z,∃A,∃B,∃C,∃m,∃n,∃Ud,∃F:Nat->List PV,∃G:Nat->List PV,∃H:Nat->List PV,∃I:Nat->List PV,∃J:Nat->List PV,DR aE.D y.length F y/\DR aH.D z.length G z/\DR aC.D A.length H A/\DR cc.D B.length I B/\DR aM.D C.length J C/\(FY,NJ,NK,NL,NM,j,k,y,z,A,B,C,m,n,Ud)=d1/\σ=[(1,.str a1),(2,sl 6 aq.cells a2),(3,.int .i64 a3),(4,.bc 0 0 0 0),(10,.bc 1 0 0 0),(11,.bool Kx),(12,.bc 2 0 0 0),(13,.own 5 0 0 U6.length),(14,.bc 6 0 0 0),(15,.bool Ud)]/\η=[.row 0 2 1 25 (λ_=>E.lit),.row 0 14 1 43 (λ_=>[.int .i64 P,.str Q,.int .i64 R,.int .i64 S,sl 5 ae.cells T,sl 2 aK.cells U,sl 6 aE.cells V,sl 3 aH.cells W,sl 5 aC.cells X,sl 19 cc.cells Y,sl 13 aM.cells Z,.str Ln,sl 2 aI.cells DZ,sl 2 aJ.cells rp]),.row 0 2 1 49 (λ_=>[.own 3 0 0 g.bT.length,.own 4 0 0 g.bs.length]),.row 0 6 g.bT.length 129 bj,.row 0 4 g.bs.length 133 bl,.row 0 6 U6.length 79 bo,.row 0 14 1 43 (λ_=>[.int .i64 FY,.str NJ,.int .i64 NK,.int .i64 NL,.own 7 0 0 j.length,.own 8 0 0 k.length,.own 9 0 0 y.length,.own 10 0 0 z.length,.own 11 0 0 A.length,.own 12 0 0 B.length,.own 13 0 0 C.length,.str NM,.own 14 0 0 m.length,.own 15 0 0 n.length]),.row 0 5 j.length 74 (row ae.cells j),.row 0 2 k.length 81 (row aK.cells k),.row 0 6 y.length 207 F,.row 0 3 z.length 166 G,.row 0 5 A.length 169 H,.row 0 19 B.length 172 I,.row 0 13 C.length 87 J,.row 0 2 m.length 232 (row aI.cells m),.row 0 2 n.length 235 (row aJ.cells n)]) ?_ ?_;refine⟨rfl,_,rfl,?_⟩;obtain⟨⟨c,d5⟩,Ua,h⟩:=bd h;refine agp (zg Ua) ⟨.fC ⟨(.rd q),(.rd w),⟨⟩⟩,.s,(.rd x),.i,⟨⟩⟩ (Wf (D1 _ _ _ _ _ (amy di) tQ cn Vb (amy eZ) Ov cq Ua)) ?_;rintro _ _ ⟨cv,cC,cW,cZ,c0,br,bt,bE,bK,bP,rfl,rfl⟩;exact⟨.kc [.agg [.int .i64 c.cF,.str c.cg,.int .i64 c.dZ,.int .i64 c.aF,.own 6 0 0 c.bO.length,.own 7 0 0 c.a8.length,.own 8 0 0 c.cA.bw.length,.own 9 0 0 c.bL.length,.own 10 0 0 c.bx.length,.own 11 0 0 c.de.length,.own 12 0 0 c.bW.length,.str c.bF.dW,.own 13 0 0 c.bF.aY.length,.own 14 0 0 c.bF.aZ.length],.bool d5],[.row 0 2 1 25 (λ_=>E.lit),.row 0 14 1 43 (λ_=>[.int .i64 P,.str Q,.int .i64 R,.int .i64 S,sl 5 ae.cells T,sl 2 aK.cells U,sl 6 aE.cells V,sl 3 aH.cells W,sl 5 aC.cells X,sl 19 cc.cells Y,sl 13 aM.cells Z,.str Ln,sl 2 aI.cells DZ,sl 2 aJ.cells rp]),.row 0 6 g.bT.length 129 bj,.row 0 4 g.bs.length 133 bl,.row 0 2 1 49 (λ_=>[.own 2 0 0 g.bT.length,.own 3 0 0 g.bs.length]),.row 0 6 U6.length 79 bo,.row 0 5 c.bO.length 74 (row ae.cells c.bO),.row 0 2 c.a8.length 81 (row aK.cells c.a8),.row 0 6 c.cA.bw.length 207 cv,.row 0 3 c.bL.length 166 cC,.row 0 5 c.bx.length 169 cW,.row 0 19 c.de.length 172 cZ,.row 0 13 c.bW.length 87 c0,.row 0 2 c.bF.aY.length 232 (row aI.cells c.bF.aY),.row 0 2 c.bF.aZ.length 235 (row aJ.cells c.bF.aZ)],rfl,(by simp only[akB,akE,shr,Ef br,Ef bt,Ef bE,Ef bK,Ef bP];rfl),⟨rfl,_,λ_=>[.int .i64 c.cF,.str c.cg,.int .i64 c.dZ,.int .i64 c.aF,.own 6 0 0 c.bO.length,.own 7 0 0 c.a8.length,.own 8 0 0 c.cA.bw.length,.own 9 0 0 c.bL.length,.own 10 0 0 c.bx.length,.own 11 0 0 c.de.length,.own 12 0 0 c.bW.length,.str c.bF.dW,.own 13 0 0 c.bF.aY.length,.own 14 0 0 c.bF.aZ.length],rfl,CF rfl,(ct ⟨_,_,_,_,_,_,_,_,_,_,_,_,_,_,_,cv,cC,cW,cZ,c0,br,bt,bE,bK,bP,si h,rfl,rfl⟩ (tk [0,1,4,2,3,5,15,6,7,8,9,10,11,12,13,14] ⟨.s,.l,.i,.p,.p,.b,.p,(.od (by first | rfl | exact x.len | exact x.len.symm)),.p,.b,⟨⟩⟩ ⟨(uy rfl),(uy rfl),(nb rfl ⟨(.od (by first | rfl | exact q.len | exact q.len.symm)),(.od (by first | rfl | exact w.len | exact w.len.symm)),⟨⟩⟩),(uE q),(uE w),(uE x),(nb rfl ⟨.i,.s,.i,.i,.o,.o,(.od (by first | rfl | exact br.len | exact br.len.symm)),(.od (by first | rfl | exact bt.len | exact bt.len.symm)),(.od (by first | rfl | exact bE.len | exact bE.len.symm)),(.od (by first | rfl | exact bK.len | exact bK.len.symm)),(.od (by first | rfl | exact bP.len | exact bP.len.symm)),.s,.o,.o,⟨⟩⟩),nw,nw,(uE br),(uE bt),(uE bE),(uE bK),(uE bP),nw,nw,⟨⟩⟩))⟩⟩;rintro _ _ ⟨FY,NJ,NK,NL,NM,j,k,y,z,A,B,C,m,n,Ud,F,G,H,I,J,d55,d58,d61,d64,d67,rfl,rfl,rfl⟩;refine .d (.d ⟨rfl,_,rfl,⟨rfl,_,rfl,(bk d3 λf1 d7 h=>(Vc (vT d7) ⟨.fC ⟨.i,.s,.i,.i,.r,.r,(.rd d55),(.rd d58),(.rd d61),(.rd d64),(.rd d67),.s,.r,.r,⟨⟩⟩,.fC ⟨.i,.s,.i,.i,.l,.l,.l,.l,.l,.l,.l,.s,.l,.l,⟨⟩⟩,⟨⟩⟩ (fD h (λd8 h=>?_) (λd8 h=>?_))))⟩⟩);exact .t (.t (.t (.t (.d (eB h)))));refine .f (.f (.f (lN h (λc1 h=>?_) (λc1 h=>?_))));exact anu;obtain⟨d9,ea,c2⟩:=bd h;replace h:=ea;refine .cut (λσ η=>.inl ()=d9/\σ=[(1,.str a1),(2,sl 6 aq.cells a2),(3,.int .i64 a3),(4,.bc 0 0 0 0),(10,.bc 1 0 0 0),(11,.bool Kx),(12,.bc 2 0 0 0),(13,.own 5 0 0 U6.length),(14,.bc 6 0 0 0),(15,.bool Ud)]/\η=[.row 0 2 1 25 (λ_=>E.lit),.row 0 14 1 43 (λ_=>[.int .i64 P,.str Q,.int .i64 R,.int .i64 S,sl 5 ae.cells T,sl 2 aK.cells U,sl 6 aE.cells V,sl 3 aH.cells W,sl 5 aC.cells X,sl 19 cc.cells Y,sl 13 aM.cells Z,.str Ln,sl 2 aI.cells DZ,sl 2 aJ.cells rp]),.row 0 2 1 49 (λ_=>[.own 3 0 0 g.bT.length,.own 4 0 0 g.bs.length]),.row 0 6 g.bT.length 129 bj,.row 0 4 g.bs.length 133 bl,.row 0 6 U6.length 79 bo,.row 0 14 1 43 (λ_=>[.int .i64 FY,.str NJ,.int .i64 NK,.int .i64 NL,.own 7 0 0 j.length,.own 8 0 0 k.length,.own 9 0 0 y.length,.own 10 0 0 z.length,.own 11 0 0 A.length,.own 12 0 0 B.length,.own 13 0 0 C.length,.str NM,.own 14 0 0 m.length,.own 15 0 0 n.length]),.row 0 5 j.length 74 (row ae.cells j),.row 0 2 k.length 81 (row aK.cells k),.row 0 6 y.length 207 F,.row 0 3 z.length 166 G,.row 0 5 A.length 169 H,.row 0 19 B.length 172 I,.row 0 13 C.length 87 J,.row 0 2 m.length 232 (row aI.cells m),.row 0 2 n.length 235 (row aJ.cells n)]) ?_ ?_;refine .d (.float [(0,true),(1,true),(2,false),(3,false),(4,true)] aom ?_);refine⟨rfl,_,rfl,⟨rfl,_,rfl,(bk h λf4 eb h=>(b8 (vL eb) ⟨rfl,(bk h λf6 ec h=>(Vc (Hl ec) ⟨.fC ⟨(.rd q),(.rd w),⟨⟩⟩,.fC ⟨.l,.l,⟨⟩⟩,⟨⟩⟩ (fD h (λed h=>?_) (λed h=>?_))))⟩))⟩⟩;refine .d ?_;obtain rfl:=si h;exact eB c2;exact ct ⟨si h,rfl,rfl⟩ (tk [0,1,2,3,4,5,6,7,8,9,10,11,12,13,14,15] ⟨.s,.l,.i,.p,.p,.b,.p,(.od (by first | rfl | exact x.len | exact x.len.symm)),.p,.b,⟨⟩⟩ ⟨(uy rfl),(uy rfl),(nb rfl ⟨(.od (by first | rfl | exact q.len | exact q.len.symm)),(.od (by first | rfl | exact w.len | exact w.len.symm)),⟨⟩⟩),(uE q),(uE w),(uE x),(nb rfl ⟨.i,.s,.i,.i,.o,.o,(.od aoT),(.od aoS),(.od aoR),(.od aoQ),(.od aoP),.s,.o,.o,⟨⟩⟩),nw,nw,(uE d55),(uE d58),(uE d61),(uE d64),(uE d67),nw,nw,⟨⟩⟩);rintro _ _ ⟨rfl,rfl,rfl⟩;refine .d (.d (bk c2 λf7 ee h=>(b8 (uG ee) (bk h λRD WJ h=>(Vc (zc WJ) ⟨(.rd x),.l,⟨⟩⟩ (fD h (λWK h=>?_) (λWK h=>?_)))))));exact anu;refine .d (.d ⟨rfl,_,rfl,?_⟩);obtain⟨⟨ei,fP⟩,ej,h⟩:=bd h;refine Hr (Ez (ay:=0) (ca:=0) ej q w) [3,4] ⟨(lB q),(lB w),⟨⟩⟩ ?_;rintro _ _ ⟨b5,b6,c3,c4,rfl,rfl⟩;refine⟨.int .i64 ei,[.row 0 2 1 25 (λ_=>E.lit),.row 0 14 1 43 (λ_=>[.int .i64 P,.str Q,.int .i64 R,.int .i64 S,sl 5 ae.cells T,sl 2 aK.cells U,sl 6 aE.cells V,sl 3 aH.cells W,sl 5 aC.cells X,sl 19 cc.cells Y,sl 13 aM.cells Z,.str Ln,sl 2 aI.cells DZ,sl 2 aJ.cells rp]),.row 0 2 1 49 (λ_=>[.own 3 0 0 g.bT.length,.own 4 0 0 g.bs.length]),.row 0 6 g.bT.length 129 b5,.row 0 4 g.bs.length 133 b6,.row 0 6 U6.length 79 bo,.row 0 14 1 43 (λ_=>[.int .i64 FY,.str NJ,.int .i64 NK,.int .i64 NL,.own 7 0 0 j.length,.own 8 0 0 k.length,.own 9 0 0 y.length,.own 10 0 0 z.length,.own 11 0 0 A.length,.own 12 0 0 B.length,.own 13 0 0 C.length,.str NM,.own 14 0 0 m.length,.own 15 0 0 n.length]),.row 0 5 j.length 74 (row ae.cells j),.row 0 2 k.length 81 (row aK.cells k),.row 0 6 y.length 207 F,.row 0 3 z.length 166 G,.row 0 5 A.length 169 H,.row 0 19 B.length 172 I,.row 0 13 C.length 87 J,.row 0 2 m.length 232 (row aI.cells m),.row 0 2 n.length 235 (row aJ.cells n)],rfl,(by simp only[vF,mX,akB,akE,List.drop,akz,akD,rer,red c3,red c4,red q,red w];rfl),?_⟩;obtain⟨ZI,ek,eo⟩:=bd h;replace h:=ek;refine .cut (λσ η=>∃Yy,Yy=ZI/\σ=[(1,.str a1),(2,sl 6 aq.cells a2),(3,.int .i64 a3),(4,.bc 0 0 0 0),(10,.bc 1 0 0 0),(11,.bool Kx),(14,.bc 2 0 0 0),(15,.bool Ud),(16,.int .i64 Yy)]/\η=[.row 0 2 1 25 (λ_=>E.lit),.row 0 14 1 43 (λ_=>[.int .i64 P,.str Q,.int .i64 R,.int .i64 S,sl 5 ae.cells T,sl 2 aK.cells U,sl 6 aE.cells V,sl 3 aH.cells W,sl 5 aC.cells X,sl 19 cc.cells Y,sl 13 aM.cells Z,.str Ln,sl 2 aI.cells DZ,sl 2 aJ.cells rp]),.row 0 14 1 43 (λ_=>[.int .i64 FY,.str NJ,.int .i64 NK,.int .i64 NL,.own 3 0 0 j.length,.own 4 0 0 k.length,.own 5 0 0 y.length,.own 6 0 0 z.length,.own 7 0 0 A.length,.own 8 0 0 B.length,.own 9 0 0 C.length,.str NM,.own 10 0 0 m.length,.own 11 0 0 n.length]),.row 0 5 j.length 74 (row ae.cells j),.row 0 2 k.length 81 (row aK.cells k),.row 0 6 y.length 207 F,.row 0 3 z.length 166 G,.row 0 5 A.length 169 H,.row 0 19 B.length 172 I,.row 0 13 C.length 87 J,.row 0 2 m.length 232 (row aI.cells m),.row 0 2 n.length 235 (row aJ.cells n)]) ?_ ?_;obtain⟨⟨er,f8⟩,et,h⟩:=bd h;refine Hr (xb (ay:=0) et x) [5] ⟨(lB x),⟨⟩⟩ ?_;rintro _ _ ⟨c5,c6,rfl,rfl⟩;exact⟨.int .i64 er,[.row 0 2 1 25 (λ_=>E.lit),.row 0 14 1 43 (λ_=>[.int .i64 P,.str Q,.int .i64 R,.int .i64 S,sl 5 ae.cells T,sl 2 aK.cells U,sl 6 aE.cells V,sl 3 aH.cells W,sl 5 aC.cells X,sl 19 cc.cells Y,sl 13 aM.cells Z,.str Ln,sl 2 aI.cells DZ,sl 2 aJ.cells rp]),.row 0 2 1 49 (λ_=>[.own 3 0 0 g.bT.length,.own 4 0 0 g.bs.length]),.row 0 6 g.bT.length 129 b5,.row 0 4 g.bs.length 133 b6,.row 0 6 U6.length 79 c5,.row 0 14 1 43 (λ_=>[.int .i64 FY,.str NJ,.int .i64 NK,.int .i64 NL,.own 7 0 0 j.length,.own 8 0 0 k.length,.own 9 0 0 y.length,.own 10 0 0 z.length,.own 11 0 0 A.length,.own 12 0 0 B.length,.own 13 0 0 C.length,.str NM,.own 14 0 0 m.length,.own 15 0 0 n.length]),.row 0 5 j.length 74 (row ae.cells j),.row 0 2 k.length 81 (row aK.cells k),.row 0 6 y.length 207 F,.row 0 3 z.length 166 G,.row 0 5 A.length 169 H,.row 0 19 B.length 172 I,.row 0 13 C.length 87 J,.row 0 2 m.length 232 (row aI.cells m),.row 0 2 n.length 235 (row aJ.cells n)],rfl,(by simp only[vF,mX,akB,akE,List.drop,akz,akD,rer,red c6,red x];rfl),(ct ⟨_,si h,rfl,rfl⟩ (tk [0,1,6,7,8,9,10,11,12,13,14,15] ⟨.s,.l,.i,.p,.p,.b,.p,.b,.i,⟨⟩⟩ ⟨(uy rfl),(uy rfl),(nb rfl ⟨.i,.s,.i,.i,.o,.o,(.od aoT),(.od aoS),(.od aoR),(.od aoQ),(.od aoP),.s,.o,.o,⟨⟩⟩),nw,nw,(uE d55),(uE d58),(uE d61),(uE d64),(uE d67),nw,nw,⟨⟩⟩))⟩;rintro _ _ ⟨Yy,rfl,rfl,rfl⟩;obtain⟨ew,ey,YF⟩:=bd eo;replace h:=ey;refine .cut (λσ η=>.inl ()=ew/\σ=[(1,.str a1),(2,sl 6 aq.cells a2),(3,.int .i64 a3),(4,.bc 0 0 0 0),(10,.bc 1 0 0 0),(11,.bool Kx),(14,.bc 2 0 0 0)]/\η=[.row 0 2 1 25 (λ_=>E.lit),.row 0 14 1 43 (λ_=>[.int .i64 P,.str Q,.int .i64 R,.int .i64 S,sl 5 ae.cells T,sl 2 aK.cells U,sl 6 aE.cells V,sl 3 aH.cells W,sl 5 aC.cells X,sl 19 cc.cells Y,sl 13 aM.cells Z,.str Ln,sl 2 aI.cells DZ,sl 2 aJ.cells rp]),.row 0 14 1 43 (λ_=>[.int .i64 FY,.str NJ,.int .i64 NK,.int .i64 NL,.own 3 0 0 j.length,.own 4 0 0 k.length,.own 5 0 0 y.length,.own 6 0 0 z.length,.own 7 0 0 A.length,.own 8 0 0 B.length,.own 9 0 0 C.length,.str NM,.own 10 0 0 m.length,.own 11 0 0 n.length]),.row 0 5 j.length 74 (row ae.cells j),.row 0 2 k.length 81 (row aK.cells k),.row 0 6 y.length 207 F,.row 0 3 z.length 166 G,.row 0 5 A.length 169 H,.row 0 19 B.length 172 I,.row 0 13 C.length 87 J,.row 0 2 m.length 232 (row aI.cells m),.row 0 2 n.length 235 (row aJ.cells n)]) ?_ ?_;refine .d (sD h (λeA h=>?_) (λeA h=>?_));refine .t (.t (.t (.t (.t (.t (.t (.t (.t (.d ?_)))))))));obtain rfl:=si h;exact eB YF;refine⟨rfl,_,rfl,(.f ⟨rfl,_,rfl,(.f (bk h λfQ eC h=>(Vc (vT eC) ⟨.fC ⟨.i,.s,.i,.i,.r,.r,(.rd d55),(.rd d58),(.rd d61),(.rd d64),(.rd d67),.s,.r,.r,⟨⟩⟩,.fC ⟨.i,.s,.i,.i,.l,.l,.l,.l,.l,.l,.l,.s,.l,.l,⟨⟩⟩,⟨⟩⟩ (.f (.f (fD h (λeG h=>?_) (λeG h=>?_)))))))⟩)⟩;refine .t (.t (.t (.t (.d ?_))));obtain rfl:=si h;exact eB YF;exact .f (.f (.f (.kf c1 (ct ⟨si h,rfl,rfl⟩ (tk [0,1,2,3,4,5,6,7,8,9,10,11] ⟨.s,.l,.i,.p,.p,.b,.p,⟨⟩⟩ ⟨(uy rfl),(uy rfl),(nb rfl ⟨.i,.s,.i,.i,.o,.o,(.od aoT),(.od aoS),(.od aoR),(.od aoQ),(.od aoP),.s,.o,.o,⟨⟩⟩),nw,nw,(uE d55),(uE d58),(uE d61),(uE d64),(uE d67),nw,nw,⟨⟩⟩)))));rintro _ _ ⟨rfl,rfl,rfl⟩;replace h:=YF;refine .d (.d ⟨rfl,_,rfl,?_⟩);obtain⟨⟨aa,zb⟩,eN,h⟩:=bd h;refine Hr (ED (ay:=0) (ca:=0) (cN:=0) (dj:=0) (dq:=0) (dr:=0) (dt:=0) (du:=0) (dw:=0) eN DR.lZ DR.lZ d55 d58 d61 d64 d67 DR.lZ DR.lZ) [3,4,5,6,7,8,9,10,11] ⟨(lB DR.lZ),(lB DR.lZ),(lB d55),(lB d58),(lB d61),(lB d64),(lB d67),(lB DR.lZ),(lB DR.lZ),⟨⟩⟩ ?_;rintro _ _ ⟨ad,ag,ar,aV,a4,a5,a6,a7,a9,d131,d133,d135,d137,d139,d141,d143,d145,d147,rfl,rfl⟩;refine⟨.int .i64 aa,[.row 0 2 1 25 (λ_=>E.lit),.row 0 14 1 43 (λ_=>[.int .i64 P,.str Q,.int .i64 R,.int .i64 S,sl 5 ae.cells T,sl 2 aK.cells U,sl 6 aE.cells V,sl 3 aH.cells W,sl 5 aC.cells X,sl 19 cc.cells Y,sl 13 aM.cells Z,.str Ln,sl 2 aI.cells DZ,sl 2 aJ.cells rp]),.row 0 14 1 43 (λ_=>[.int .i64 FY,.str NJ,.int .i64 NK,.int .i64 NL,.own 3 0 0 j.length,.own 4 0 0 k.length,.own 5 0 0 y.length,.own 6 0 0 z.length,.own 7 0 0 A.length,.own 8 0 0 B.length,.own 9 0 0 C.length,.str NM,.own 10 0 0 m.length,.own 11 0 0 n.length]),.row 0 5 j.length 74 ad,.row 0 2 k.length 81 ag,.row 0 6 y.length 207 ar,.row 0 3 z.length 166 aV,.row 0 5 A.length 169 a4,.row 0 19 B.length 172 a5,.row 0 13 C.length 87 a6,.row 0 2 m.length 232 a7,.row 0 2 n.length 235 a9],rfl,(by simp only[vF,mX,akB,akE,List.drop,akz,akD,rer,red d131,red d133,red d135,red d137,red d139,red d141,red d143,red d145,red d147,red DR.lZ,red DR.lZ,red d55,red d58,red d61,red d64,red d67,red DR.lZ,red DR.lZ];rfl),(.d (.d ⟨rfl,_,rfl,(bk h λc7 eP h=>(Vc (x7 eP) ⟨.fC ⟨.i,.s,.i,.i,(.rd d131 aoF),(.rd d133 aoE),(.rd d135 aoD),(.rd d137 aoC),(.rd d139 aoB),(.rd d141 aoA),(.rd d143 aoz),.s,(.rd d145 aoy),(.rd d147 aox),⟨⟩⟩,.i,⟨⟩⟩ ?_))⟩))⟩;obtain⟨e0,e1,c8⟩:=bd h;replace h:=e1;refine .cut (λσ η=>.inl ()=e0/\σ=[(1,.str a1),(2,sl 6 aq.cells a2),(3,.int .i64 a3),(4,.bc 0 0 0 0),(10,.bc 1 0 0 0),(11,.bool Kx),(14,.bc 2 0 0 0),(17,.int .i64 aa),(18,.int .i64 c7)]/\η=[.row 0 2 1 25 (λ_=>E.lit),.row 0 14 1 43 (λ_=>[.int .i64 P,.str Q,.int .i64 R,.int .i64 S,sl 5 ae.cells T,sl 2 aK.cells U,sl 6 aE.cells V,sl 3 aH.cells W,sl 5 aC.cells X,sl 19 cc.cells Y,sl 13 aM.cells Z,.str Ln,sl 2 aI.cells DZ,sl 2 aJ.cells rp]),.row 0 14 1 43 (λ_=>[.int .i64 FY,.str NJ,.int .i64 NK,.int .i64 NL,.own 3 0 0 j.length,.own 4 0 0 k.length,.own 5 0 0 y.length,.own 6 0 0 z.length,.own 7 0 0 A.length,.own 8 0 0 B.length,.own 9 0 0 C.length,.str NM,.own 10 0 0 m.length,.own 11 0 0 n.length]),.row 0 5 j.length 74 ad,.row 0 2 k.length 81 ag,.row 0 6 y.length 207 ar,.row 0 3 z.length 166 aV,.row 0 5 A.length 169 a4,.row 0 19 B.length 172 a5,.row 0 13 C.length 87 a6,.row 0 2 m.length 232 a7,.row 0 2 n.length 235 a9]) ?_ ?_;refine .d (sD h (λe3 h=>?_) (λe3 h=>?_));refine .d ?_;obtain rfl:=si h;exact eB c8;exact ct ⟨si h,rfl,rfl⟩ (tk [0,1,2,3,4,5,6,7,8,9,10,11] ⟨.s,.l,.i,.p,.p,.b,.p,.i,.i,⟨⟩⟩ ⟨(uy rfl),(uy rfl),(nb rfl ⟨.i,.s,.i,.i,(.od aoF),(.od aoE),(.od aoD),(.od aoC),(.od aoB),(.od aoA),(.od aoz),.s,(.od aoy),(.od aox),⟨⟩⟩),(uE d131),(uE d133),(uE d135),(uE d137),(uE d139),(uE d141),(uE d143),(uE d145),(uE d147),⟨⟩⟩);rintro _ _ ⟨rfl,rfl,rfl⟩;replace h:=c8;refine .d (.d (sN h (λe4 h=>?_) (λe4 h=>?_)));exact anu;obtain⟨e5,e6,e7⟩:=bd h;replace h:=e6;refine .cut (λσ η=>∃Yz,∃YA,∃YB,∃YC,∃YD,∃SH,∃SI,∃Qa,∃Qb,∃Qc,∃Qd,∃Qe,∃SJ,∃SK,∃YE,∃b0:Nat->List PV,∃b1:Nat->List PV,∃b2:Nat->List PV,∃b3:Nat->List PV,∃b4:Nat->List PV,DR aE.D Qa.length b0 Qa/\DR aH.D Qb.length b1 Qb/\DR aC.D Qc.length b2 Qc/\DR cc.D Qd.length b3 Qd/\DR aM.D Qe.length b4 Qe/\(Yz,YA,YB,YC,YD,SH,SI,Qa,Qb,Qc,Qd,Qe,SJ,SK,YE)=e5/\σ=[(10,.bc 0 0 0 0),(11,.bool Kx),(14,.bc 1 0 0 0),(17,.int .i64 aa),(19,.bc 11 0 0 0),(20,.bool YE)]/\η=[.row 0 14 1 43 (λ_=>[.int .i64 P,.str Q,.int .i64 R,.int .i64 S,sl 5 ae.cells T,sl 2 aK.cells U,sl 6 aE.cells V,sl 3 aH.cells W,sl 5 aC.cells X,sl 19 cc.cells Y,sl 13 aM.cells Z,.str Ln,sl 2 aI.cells DZ,sl 2 aJ.cells rp]),.row 0 14 1 43 (λ_=>[.int .i64 FY,.str NJ,.int .i64 NK,.int .i64 NL,.own 2 0 0 j.length,.own 3 0 0 k.length,.own 4 0 0 y.length,.own 5 0 0 z.length,.own 6 0 0 A.length,.own 7 0 0 B.length,.own 8 0 0 C.length,.str NM,.own 9 0 0 m.length,.own 10 0 0 n.length]),.row 0 5 j.length 74 ad,.row 0 2 k.length 81 ag,.row 0 6 y.length 207 ar,.row 0 3 z.length 166 aV,.row 0 5 A.length 169 a4,.row 0 19 B.length 172 a5,.row 0 13 C.length 87 a6,.row 0 2 m.length 232 a7,.row 0 2 n.length 235 a9,.row 0 14 1 43 (λ_=>[.int .i64 Yz,.str YA,.int .i64 YB,.int .i64 YC,.own 12 0 0 SH.length,.own 13 0 0 SI.length,.own 14 0 0 Qa.length,.own 15 0 0 Qb.length,.own 16 0 0 Qc.length,.own 17 0 0 Qd.length,.own 18 0 0 Qe.length,.str YD,.own 19 0 0 SJ.length,.own 20 0 0 SK.length]),.row 0 5 SH.length 74 (row ae.cells SH),.row 0 2 SI.length 81 (row aK.cells SI),.row 0 6 Qa.length 207 b0,.row 0 3 Qb.length 166 b1,.row 0 5 Qc.length 169 b2,.row 0 19 Qd.length 172 b3,.row 0 13 Qe.length 87 b4,.row 0 2 SJ.length 232 (row aI.cells SJ),.row 0 2 SK.length 235 (row aJ.cells SK)]) ?_ ?_;refine⟨rfl,_,rfl,(bk h λfR e8 h=>(b8 (vL e8) (bk h λga e9 h=>(b8 (uG e9) ?_))))⟩;obtain⟨⟨e,fa⟩,fc,h⟩:=bd h;refine zH (zg fc) ?_;rintro _ _ ⟨b7,b9,cf,ch,cm,K,L,M,N,O,rfl,rfl⟩;exact⟨.kc [.agg [.int .i64 e.cF,.str e.cg,.int .i64 e.dZ,.int .i64 e.aF,.own 12 0 0 e.bO.length,.own 13 0 0 e.a8.length,.own 14 0 0 e.cA.bw.length,.own 15 0 0 e.bL.length,.own 16 0 0 e.bx.length,.own 17 0 0 e.de.length,.own 18 0 0 e.bW.length,.str e.bF.dW,.own 19 0 0 e.bF.aY.length,.own 20 0 0 e.bF.aZ.length],.bool fa],[.row 0 2 1 25 (λ_=>E.lit),.row 0 14 1 43 (λ_=>[.int .i64 P,.str Q,.int .i64 R,.int .i64 S,sl 5 ae.cells T,sl 2 aK.cells U,sl 6 aE.cells V,sl 3 aH.cells W,sl 5 aC.cells X,sl 19 cc.cells Y,sl 13 aM.cells Z,.str Ln,sl 2 aI.cells DZ,sl 2 aJ.cells rp]),.row 0 14 1 43 (λ_=>[.int .i64 FY,.str NJ,.int .i64 NK,.int .i64 NL,.own 3 0 0 j.length,.own 4 0 0 k.length,.own 5 0 0 y.length,.own 6 0 0 z.length,.own 7 0 0 A.length,.own 8 0 0 B.length,.own 9 0 0 C.length,.str NM,.own 10 0 0 m.length,.own 11 0 0 n.length]),.row 0 5 j.length 74 ad,.row 0 2 k.length 81 ag,.row 0 6 y.length 207 ar,.row 0 3 z.length 166 aV,.row 0 5 A.length 169 a4,.row 0 19 B.length 172 a5,.row 0 13 C.length 87 a6,.row 0 2 m.length 232 a7,.row 0 2 n.length 235 a9,.row 0 5 e.bO.length 74 (row ae.cells e.bO),.row 0 2 e.a8.length 81 (row aK.cells e.a8),.row 0 6 e.cA.bw.length 207 b7,.row 0 3 e.bL.length 166 b9,.row 0 5 e.bx.length 169 cf,.row 0 19 e.de.length 172 ch,.row 0 13 e.bW.length 87 cm,.row 0 2 e.bF.aY.length 232 (row aI.cells e.bF.aY),.row 0 2 e.bF.aZ.length 235 (row aJ.cells e.bF.aZ)],rfl,(by simp only[akB,akE,shr,Ef K,Ef L,Ef M,Ef N,Ef O];rfl),⟨rfl,_,λ_=>[.int .i64 e.cF,.str e.cg,.int .i64 e.dZ,.int .i64 e.aF,.own 12 0 0 e.bO.length,.own 13 0 0 e.a8.length,.own 14 0 0 e.cA.bw.length,.own 15 0 0 e.bL.length,.own 16 0 0 e.bx.length,.own 17 0 0 e.de.length,.own 18 0 0 e.bW.length,.str e.bF.dW,.own 19 0 0 e.bF.aY.length,.own 20 0 0 e.bF.aZ.length],rfl,CF rfl,(ct ⟨_,_,_,_,_,_,_,_,_,_,_,_,_,_,_,b7,b9,cf,ch,cm,K,L,M,N,O,si h,rfl,rfl⟩ (tk [1,2,3,4,5,6,7,8,9,10,11,21,12,13,14,15,16,17,18,19,20] ⟨.p,.b,.p,.i,.p,.b,⟨⟩⟩ ⟨(uy rfl),(nb rfl ⟨.i,.s,.i,.i,(.od aoF),(.od aoE),(.od aoD),(.od aoC),(.od aoB),(.od aoA),(.od aoz),.s,(.od aoy),(.od aox),⟨⟩⟩),(uE d131),(uE d133),(uE d135),(uE d137),(uE d139),(uE d141),(uE d143),(uE d145),(uE d147),(nb rfl ⟨.i,.s,.i,.i,.o,.o,(.od (by first | rfl | exact K.len | exact K.len.symm)),(.od (by first | rfl | exact L.len | exact L.len.symm)),(.od (by first | rfl | exact M.len | exact M.len.symm)),(.od (by first | rfl | exact N.len | exact N.len.symm)),(.od (by first | rfl | exact O.len | exact O.len.symm)),.s,.o,.o,⟨⟩⟩),nw,nw,(uE K),(uE L),(uE M),(uE N),(uE O),nw,nw,⟨⟩⟩))⟩⟩;rintro _ _ ⟨Yz,YA,YB,YC,YD,SH,SI,Qa,Qb,Qc,Qd,Qe,SJ,SK,YE,b0,b1,b2,b3,b4,dh,dk,dm,ds,dv,rfl,rfl,rfl⟩;refine .d (.d ⟨rfl,_,rfl,⟨rfl,_,rfl,(bk e7 λgb fi h=>(Vc (vT fi) ⟨.fC ⟨.i,.s,.i,.i,.r,.r,(.rd dh),(.rd dk),(.rd dm),(.rd ds),(.rd dv),.s,.r,.r,⟨⟩⟩,.fC ⟨.i,.s,.i,.i,.l,.l,.l,.l,.l,.l,.l,.s,.l,.l,⟨⟩⟩,⟨⟩⟩ (fD h (λfj h=>?_) (λfj h=>?_))))⟩⟩);exact .t (.t (.t (.t (.d (eB h)))));refine .f (.f (.f (lN h (λfk h=>?_) (λfk h=>?_))));exact anu;refine .d ?_;obtain⟨fo,fz,fE⟩:=bd h;replace h:=fz;refine .cut (λσ η=>∃U7,U7=fo/\σ=[(17,.int .i64 aa),(18,.int .i64 U7)]/\η=[]) ?_ ?_;exact⟨rfl,_,rfl,(bk h λfZ fM h=>(Vc (x7 fM) ⟨.fC ⟨.i,.s,.i,.i,(.rd d131 aoF),(.rd d133 aoE),(.rd d135 aoD),(.rd d137 aoC),(.rd d139 aoB),(.rd d141 aoA),(.rd d143 aoz),.s,(.rd d145 aoy),(.rd d147 aox),⟨⟩⟩,.i,⟨⟩⟩ (ct ⟨_,si h,rfl,rfl⟩ (tk [] ⟨.i,.i,⟨⟩⟩ ⟨⟩))))⟩;rintro _ _ ⟨U7,rfl,rfl,rfl⟩;refine .d (.d (sD fE (λfN h=>?_) (λfN h=>?_)));exact anu;refine .d (.d (sN h (λfO h=>?_) (λfO h=>?_)));exact anu;exact anu
theorem sb {α β:Type} (a:α) (f:α->Option β):(some a>>=f)=f a:=rfl
theorem yg {s:bZ} {i:Nat} (h:i<s.length):zZ s (i:Int)=some (s.getD i 0):=by
 unfold zZ;rw[an ⟨by omega,by omega⟩];rfl
theorem bG {α:Type} [Inhabited α] {l:List α} {i:Nat} (h:i<l.length):idx l (i:Int)=some l[i]:=by
 unfold idx;rw[an ⟨by omega,by omega⟩];simp [akv,h]
theorem Fk {x:Int} {n:Nat} (h:x=(n:Int)) (hn:n<=9223372036854775807):af x=(n:Int):=by
 subst h;exact Ij aol aol
theorem aT {i:Nat} (h:i<9223372036854775807):af ((i:Int)+1)=((i+1:Nat):Int):=Fk aol aol
theorem oG {α:Type} {b:Nat} {l m:List α} (h:(l.length+m.length)*b<=140737488355328):qh b l m=some (l++m):=an h
theorem AA (a b c:Int):BV a b c=some (decide (b<=a/\a<=c)):=by
 unfold BV;by_cases h:a>=b
 ·rw[an h];congr 1;simp;omega
 ·rw[mg h];congr 1;symm;rw[aly];omega
theorem DU:∀(k u:Nat),u<10 ^ (k+1)->Lib.nDigits u<=k+1
 | 0,u,h=>by rw[Lib.nDigits_small aow];exact No _
 | k+1,u,h=>by
  by_cases h1:u<10
  ·rw[Lib.nDigits_small h1];omega
  ·rw[Lib.nDigits_big h1];have:=DU k (u / 10) (by rw[amJ]at h;omega);omega
theorem Jl (u:Nat):Lib.decDigits u=(if u / 10=0 then[]else Lib.decDigits (u / 10))++[UInt8.ofNat (48+u % 10)]:=by
 by_cases h:u<10
 ·rw[an aol,Lib.decDigits,dif_pos h,show u % 10=u by omega];rfl
 ·rw[mg aol];conv=>lhs;rw[Lib.decDigits,dif_neg h]
theorem YG:∀(k:Nat) (out:bZ) (m:Int),m.natAbs<10 ^ k-> -9223372036854775808<=m->m<=9223372036854775807->k+out.length<=1000->
  Ae out m=some ((if m=0 then[]else Lib.decDigits m.natAbs)++out)
 | 0,out,m,h,_,_,_=>by
  have:m=0:=by simp at h;exact h
  subst this;rw[Ae,an rfl,an rfl];rfl
 | k+1,out,m,h,h0,h1,e=>by
  rw[Ae];by_cases hm:m=0
  ·rw[an hm,an hm];rfl
  rw[mg hm,mg hm];have ab:(m.tmod 10).natAbs=m.natAbs % 10:=Int.natAbs_tmod m 10;have a:(m.tdiv 10).natAbs=m.natAbs / 10:=Int.natAbs_tdiv m 10;have c:af (m.tdiv 10)=m.tdiv 10:=by rw[af,Ij]<;>omega
  have fin:∀d:Int,d=((m.natAbs % 10:Nat):Int)->UInt8.ofNat (IntKind.u8.wrap (af (48+d))).toNat=UInt8.ofNat (48+m.natAbs % 10):=λd hd=>by
   subst hd;rw[af,Ij aol aol,IntKind.wrap_u8];congr 1;omega
  have next:Ae ([UInt8.ofNat (48+m.natAbs % 10)]++out) (af (m.tdiv 10))=some (Lib.decDigits m.natAbs++out):=by
   rw[c,YG k _ _ (by rw[amJ]at h;omega) aol aol aoq,Jl m.natAbs,a,alA];by_cases h:m.tdiv 10=0
   ·rw[an h,an aol]
   ·rw[mg h,mg aol]
  have hs:∀b:UInt8,yz [b] out=some ([b]++out):=λb=>an aoq;by_cases hn:m.tmod 10<0
  ·rw[an hn,hs,sb,fin _ (by rw[af,Ij]<;>omega),next]
  ·rw[mg hn,hs,sb,fin _ aol,next]
theorem aep (n:Int) (h0: -9223372036854775808<=n) (h1:n<=9223372036854775807):m94 n=some (Lib.itoa n):=by
 unfold m94;by_cases h:n=0
 ·subst h;rw[an rfl,show Lib.itoa 0=[48] by decide +kernel]
 rw[mg h,YG 20 [] n (by simp only[Nat.reducePow];omega) h0 h1 aon,sb,mg h,alv];unfold Lib.itoa;have a:(Lib.decDigits n.natAbs).length<=20:=by rw[Lib.decDigits_length];exact DU 19 _ aoH
 by_cases hn:n<0
 ·rw[an hn,an hn,yz,an aoq];rfl
 ·rw[mg hn,mg hn,show n.natAbs=n.toNat by omega]
def ahn (s:List UInt8):Option Nat->Option Nat
 | some v=>if v<=1000000000000/\Lib.decDigits v=s then some v else none
 | none=>none
def mb (s:List UInt8):Option Nat:=if 1<=s.length/\s.length<=13 then ahn s (Lib.decFrom 0 s)else none
theorem Nw {v:Nat} {c:UInt8} {r:List UInt8} (h:48<=c.toNat/\c.toNat<=57):Lib.decFrom v (c::r)=Lib.decFrom (v*10+(c.toNat - 48)) r:=by
 show(match Lib.digitVal c with | some d=>Lib.decFrom (v*10+d) r | none=>none)=_;rw[Lib.digitVal,an h]
theorem Fy {v:Nat} {c:UInt8} {r:List UInt8} (h:¬(48<=c.toNat/\c.toNat<=57)):Lib.decFrom v (c::r)=none:=by
 show(match Lib.digitVal c with | some d=>Lib.decFrom (v*10+d) r | none=>none)=_;rw[Lib.digitVal,mg h]
theorem drop_cons {s:bZ} {i:Nat} (h:i<s.length):s.drop i=s.getD i 0::s.drop (i+1):=by
 rw[ale h,akv];simp [h]
theorem YH (s:bZ) (hs:s.length<=13):∀(n i v:Nat),i<=s.length->s.length - i=n->v<10 ^ i->
  B9 s (v:Int) (i:Int)=some (match Lib.decFrom v (s.drop i)with | some u=>.inl (u:Int) | none=>.inr (0,false))
 | 0,i,v,hi,hn,hv=>by
  have e:i=s.length:=by omega
  rw[B9,mg aol,e,amo];rfl
 | n+1,i,v,hi,hn,hv=>by
  have hl:i<s.length:=by omega
  have b:v<10000000000000:=akK hv (Nat.pow_le_pow_right aop (show i<=13 by omega));have hc:=(s.getD i 0).toNat_lt;rw[B9,an aol,yg hl,sb,AA,sb,af,Ij aol aol,drop_cons hl];by_cases hd:48<=(s.getD i 0).toNat/\(s.getD i 0).toNat<=57
  ·rw[an (by rw[akO];omega),sb,Nw hd];have a:IntKind.u8.wrap (((s.getD i 0).toNat:Int) - 48)=(((s.getD i 0).toNat - 48:Nat):Int):=by rw[IntKind.wrap_u8];omega
   have e2:IntKind.i64.wrap (IntKind.i64.wrap (10*(v:Int))+IntKind.i64.wrap (IntKind.u8.wrap (((s.getD i 0).toNat:Int) - 48)))=((v*10+((s.getD i 0).toNat - 48):Nat):Int):=by
    rw[a,Ij (x:=10*(v:Int)) aol aol,Ij (x:=(((s.getD i 0).toNat - 48:Nat):Int)) aol aol,Ij aol aol];omega
   rw[af,af,af,e2,aT aol,YH s hs n (i+1) _ aol aol (by rw[amJ];omega)]
  ·rw[mg (by rw[akO];omega),Fy hd]
def nbW:Option Nat->Int×Bool
 | some v=>((v:Int),true)
 | none=>(0,false)
theorem SL (s:bZ):m61 s=some (nbW (mb s)):=by
 unfold m61 mb;rw[AA,sb];by_cases h:1<=s.length/\s.length<=13
 ·rw[an (by rw[akO];omega),an h];have e:=YH s h.2 s.length 0 0 aol aol aon;rw[ald]at e;replace e:B9 s 0 0=_:=e;rw[e,sb];cases hd:Lib.decFrom 0 s with
  | none=>rfl
  | some u=>
   show(if(u:Int)>1000000000000 then some (0,false)else _)=some (nbW (if u<=1000000000000/\Lib.decDigits u=s then some u else none));by_cases h1:(u:Int)>1000000000000
   ·rw[an h1,mg aol];rfl
   ·rw[mg h1,aep _ aol aol,sb,Lib.itoa_nonneg];by_cases h2:Lib.decDigits u=s
    ·rw[an h2,an ⟨by omega,h2⟩];rfl
    ·rw[mg h2,mg (λh=>h2 h.2)];rfl
 ·rw[mg (by rw[akO];omega),mg h];rfl
def SM:Option Nat->Option Int
 | some v=>if v<=1000000000 then some (v:Int)else none
 | none=>none
def SN:Option Nat->Option Int
 | some v=>if v<=1000000000/\v≠0 then some (-(v:Int))else none
 | none=>none
def sp (s:bZ):Option Int:=if s.head? =some 45 then SN (mb s.tail)else SM (mb s)
def nbi:Option Int->Int×Bool
 | some v=>(v,true)
 | none=>(0,false)
theorem aeq (s:bZ):m54 s=some (nbi (sp s)):=by
 unfold m54 sp;cases s with
 | nil=>rw[mg aon,sb,mg aop,sb,SL,sb];rfl
 | cons c r=>
  have b:zZ (c::r) 0=some c:=yg (s:=c::r) (i:=0) aon;rw[an aon,b,sb,sb];by_cases h:c=45
  ·subst h;rw[an aop,an (show(45::r).head? =some 45 from rfl)];have d:OT (45::r) 1=some r:=by unfold OT;rw[an ⟨by omega,by simp only[akz];omega⟩];rfl
   rw[d,sb,sb,SL,sb];show(match nbW (mb r)with | (e,f)=>_)=some (nbi (SN (mb r)));cases hp:mb r with
   | none=>rfl
   | some v=>
    show(if(v:Int)>1000000000 then some (0,false)else if(UInt8.toNat 45:Int)==45 then _ else _)=some (nbi (if v<=1000000000/\v≠0 then some (-(v:Int))else none));by_cases h1:(v:Int)>1000000000
    ·rw[an h1,mg aol];rfl
    ·rw[mg h1,an aop];by_cases h2:(v:Int)=0
     ·rw[an h2,mg aol];rfl
     ·rw[mg h2,an aol];show some (IntKind.i64.wrap (0 - (v:Int)),true)=some ((-(v:Int)),true);rw[Ij aol aol,Int.zero_sub]
  ·have a:(((c.toNat:Int)==45):Bool)=false:=by
    rw[amt];intro hc;exact h (UInt8.toNat_inj.1 (show c.toNat=(45:UInt8).toNat by simp;omega))
   rw[mg (by rw[a];decide),sb,mg aow,SL,sb,a];cases hp:mb (c::r)with
   | none=>rfl
   | some v=>
    show(if(v:Int)>1000000000 then some (0,false)else if(false=true)then _ else _)=some (nbi (if v<=1000000000 then some (v:Int)else none));by_cases h1:(v:Int)>1000000000
    ·rw[an h1,mg aol];rfl
    ·rw[mg h1,mg aop,an aol];rfl
theorem SO {n:Int} (h0: -1000000000<=n) (h1:n<=1000000000):(Lib.itoa n).length<=11:=by
 unfold Lib.itoa;split
 ·simp only[akz];rw[Lib.decDigits_length];have:=DU 9 n.natAbs aoH;omega
 ·rw[Lib.decDigits_length];have:=DU 9 n.toNat aoH;omega
theorem FA {n:Int} (h0:0<=n) (h1:n<=1000000000):(Lib.decDigits n.toNat).length<=10:=by
 rw[Lib.decDigits_length];exact DU 9 n.toNat aoH
def pO (s:bZ) (o:Option Int):Option Int:=match o with | some n=>if Lib.itoa n=s/\(-1000000000:Int)<=n/\n<=1000000000 then some n else none | none=>none
theorem YI (s:bZ) (hl:s.length<=18):pw s (-1000000000) 1000000000=pO s (Lib.atoi s):=by
 unfold pw pO;rw[mg aol,Lib.atoiAll_short s hl];cases Lib.atoi s<;>rfl
theorem aaO (s:bZ) (hl:11<s.length):pw s (-1000000000) 1000000000=none:=by
 unfold pw;split
 ·rfl
 ·split
  ·rw[mg];intro h;have:=SO h.2.1 h.2.2;rw[h.1]at this;omega
  ·rfl
theorem SP (s:bZ) (hl:11<s.length):SM (mb s)=none:=by
 unfold mb;split
 ·cases Lib.decFrom 0 s with
  | none=>rfl
  | some v=>
   show SM (if v<=1000000000000/\Lib.decDigits v=s then some v else none)=none;by_cases h:v<=1000000000000/\Lib.decDigits v=s
   ·rw[an h];show(if v<=1000000000 then some (v:Int)else none)=none;rw[mg];intro hv;have:=FA (n:=(v:Int)) aol aol;rw[aky,h.2]at this;omega
   ·rw[mg h];rfl
 ·rfl
theorem Qf (s:bZ) (hl:10<s.length):SN (mb s)=none:=by
 unfold mb;split
 ·cases Lib.decFrom 0 s with
  | none=>rfl
  | some v=>
   show SN (if v<=1000000000000/\Lib.decDigits v=s then some v else none)=none;by_cases h:v<=1000000000000/\Lib.decDigits v=s
   ·rw[an h];show(if v<=1000000000/\v≠0 then some (-(v:Int))else none)=none;rw[mg];intro hv;have:=FA (n:=(v:Int)) aol aol;rw[aky,h.2]at this;omega
   ·rw[mg h];rfl
 ·rfl
theorem aaP (c:UInt8) (r:bZ) (hl:(c::r).length<=11) (a:c≠45) (b:c≠43):pO (c::r) (Lib.atoi (c::r))=SM (mb (c::r)):=by
 have d:Lib.atoi (c::r)=(Lib.decFrom 0 (c::r)).map λ(m:Nat)=>(m:Int):=by
  show(if c==45 then _ else if c==43 then _ else(Lib.decNat (c::r)).map λ(m:Nat)=>(m:Int))=_;rw[mg (by simpa using a),mg (by simpa using b)];rfl
 have e:mb (c::r)=ahn (c::r) (Lib.decFrom 0 (c::r)):=by unfold mb;rw[an ⟨by simp,by omega⟩]
 rw[d,e];cases hd:Lib.decFrom 0 (c::r)with
 | none=>rfl
 | some v=>
  show(if Lib.itoa (v:Int)=c::r/\(-1000000000:Int)<=v/\(v:Int)<=1000000000 then some (v:Int)else none)=SM (if v<=1000000000000/\Lib.decDigits v=c::r then some v else none);rw[Lib.itoa_nonneg];by_cases h2:Lib.decDigits v=c::r
  ·by_cases h3:v<=1000000000
   ·rw[an ⟨h2,by omega,by omega⟩,an ⟨by omega,h2⟩];show _=if v<=1000000000 then some (v:Int)else none
    rw[an h3]
   ·rw[mg (λh=>h3 (by have:=h.2.2;omega))];by_cases h4:v<=1000000000000
    ·rw[an ⟨h4,h2⟩];show _=if v<=1000000000 then some (v:Int)else none
     rw[mg h3]
    ·rw[mg (λh=>h4 h.1)];rfl
  ·rw[mg (λh=>h2 h.1),mg (λh=>h2 h.2)];rfl
theorem Qg (u:Nat):∀c r,Lib.decDigits u=c::r->48<=c.toNat:=by
 intro c r h;have hm:c∈Lib.decDigits u:=by rw[h];simp
 rw[Lib.decDigits_eq,akZ]at hm;obtain⟨t,_,rfl⟩:=hm;unfold Lib.dg;simp;omega
theorem aho (s:bZ):pw s (-1000000000) 1000000000=sp s:=by
 by_cases hl:11<s.length
 ·rw[aaO s hl];unfold sp;split
  ·exact(Qf _ aoq).symm
  ·exact(SP _ hl).symm
 rw[YI s aol];cases s with
 | nil=>rfl
 | cons c r=>
  unfold sp;by_cases a:c=45
  ·subst a;show pO (45::r) (Lib.atoi (45::r))=if some (45:UInt8)=some 45 then SN (mb r)else SM (mb (45::r))
   rw[an rfl];show pO (45::r) ((Lib.decNat r).map λ(m:Nat)=> -(m:Int))=SN (mb r);simp only[akz]at hl;unfold Lib.decNat mb;cases r with
   | nil=>rfl
   | cons d r=>
    rw[mg aon,an ⟨by simp,by omega⟩];cases hd:Lib.decFrom 0 (d::r)with
    | none=>rfl
    | some v=>
     show(if Lib.itoa (-(v:Int))=45::d::r/\(-1000000000:Int)<= -(v:Int)/\ -(v:Int)<=1000000000 then some (-(v:Int))else none)=SN (if v<=1000000000000/\Lib.decDigits v=d::r then some v else none);by_cases h0:v=0
     ·subst h0;rw[mg]
      ·by_cases h4:(0<=1000000000000/\Lib.decDigits 0=d::r)
       ·rw[an h4];rfl
       ·rw[mg h4];rfl
      ·intro h;have:=h.1;rw[show Lib.itoa (-((0:Nat):Int))=[48] by decide +kernel]at this;simp at this
     ·rw[Lib.itoa_neg v aol];by_cases h2:Lib.decDigits v=d::r
      ·by_cases h3:v<=1000000000
       ·rw[an ⟨by rw[h2],by omega,by omega⟩,an ⟨by omega,h2⟩];show _=if v<=1000000000/\v≠0 then some (-(v:Int))else none
        rw[an ⟨h3,h0⟩]
       ·rw[mg (λh=>h3 (by have:=h.2.1;omega))];by_cases h4:v<=1000000000000
        ·rw[an ⟨h4,h2⟩];show _=if v<=1000000000/\v≠0 then some (-(v:Int))else none
         rw[mg (λh=>h3 h.1)]
        ·rw[mg (λh=>h4 h.1)];rfl
      ·rw[mg (λh=>h2 (by simpa using h.1)),mg (λh=>h2 h.2)];rfl
  ·rw[mg (by simpa using a)];by_cases b:c=43
   ·subst b
    have e:SM (mb (43::r))=none:=by
     unfold mb;split
     ·rw[Fy aop];rfl
     ·rfl
    rw[e];show pO (43::r) ((Lib.decNat r).map λ(m:Nat)=>(m:Int))=none;cases Lib.decNat r with
    | none=>rfl
    | some v=>
     show(if Lib.itoa (v:Int)=43::r/\_ then some (v:Int)else none)=none;rw[mg];intro h;have h1:=h.1;rw[Lib.itoa_nonneg]at h1;exact absurd (Qg v _ _ h1) aop
   ·exact aaP c r aol a b
theorem aj.eta (e:aj):aj.mk e.bA e.aA=e:=by cases e;rfl
theorem ae.eta (v:ae):ae.mk v.bJ v.bS v.ck v.aF v.al=v:=by cases v;rfl
theorem cw.eta (k:cw):cw.mk k.dy k.bS k.ck=k:=rfl
inductive Sm:ae->Prop
 | mk {k n:Int} {s:bZ} {x:Int} {l:List aj} (h:l.length<=2000000) (hl:∀e∈l,Sm e.aA):Sm (.mk k n s x l)
theorem Sm.len {v:ae} (h:Sm v):v.al.length<=2000000:=by cases h;assumption
theorem Sm.of {v:ae} (h:v.al.length<=2000000) (hl:∀e∈v.al,Sm e.aA):Sm v:=by
 cases v;exact .mk h hl
def vk (k:cw):Bool:=
 if k.dy=true then(if k.bS=0 then(if(k.ck.length:Int)<=400 then !(nbi (sp k.ck)).2 else false)else false)
 else(if decide ((-1000000000:Int)<=k.bS/\k.bS<=1000000000)=true then(k.ck==([]:bZ))else false)
theorem aer (k:cw):m23 k=some (vk k):=by
 unfold m23 vk;split
 ·rw[aeq,sb];show(if k.bS=0 then _ else _)=_;split
  ·split<;>rfl
  ·rfl
 ·rw[AA,sb];split<;>rfl
theorem aes (s:bZ):m98 s (-1000000000) 1000000000=some (nbi (sp s)):=by
 unfold m98;rw[aho];cases sp s<;>rfl
theorem aet (k:cw):m55 k=some (vk k):=by
 unfold m55 vk;split
 ·unfold m69;rw[aes,sb];show(if k.bS=0 then _ else _)=_;split
  ·split<;>rfl
  ·rfl
 ·split
  ·rename_i h;unfold FR;rw[h];by_cases h1:(-1000000000:Int)<=k.bS
   ·rw[an h1,sb];by_cases h2:k.bS<=1000000000
    ·rw[an aoq,ala h2];rfl
    ·rw[mg aoq,akI h2]
   ·rw[mg h1,sb,mg aoq]
  ·rename_i h;split
   ·rw[amt.2 h]
   ·rfl
theorem X3 {k:cw} (h:vk k=true) (a:¬k.dy=true): -1000000000<=k.bS/\k.bS<=1000000000:=by
 unfold vk at h;rw[mg a]at h;split at h
 ·rename_i h1;simpa using h1
 ·cases h
def At (l:List aj) (k:cw) (r:Int):Prop:=
 (r= -1/\∀e∈l,e.bA≠k)\/∃j,∃h:j<l.length,r=(j:Int)/\l[j].bA=k/\∀i,∀hi:i<j,(l[i]'aol).bA≠k
theorem At.uniq {l:List aj} {k:cw} {r:Int} {j:Nat} (h:At l k r) (hj:j<l.length) (he:l[j].bA=k) (hf:∀i,∀hi:i<j,(l[i]'aol).bA≠k):r=(j:Int):=by
 rcases h with⟨_,h⟩ | ⟨i,hi,e,h1,h2⟩
 ·exact absurd he (h _ (akx hj))
 ·rcases Nat.lt_trichotomy i j with h3 | h3 | h3
  ·exact absurd h1 (hf i h3)
  ·rw[e,h3]
  ·exact absurd he (h2 j h3)
theorem aeu (v:ae) (k:cw) (b:v.bJ=4) (hl:v.al.length<=4000000):∀m i:Nat,i<=v.al.length->v.al.length - i=m->
  (∀j,∀hj:j<i,∀c:j<v.al.length,v.al[j].bA≠k)->∃r,B8 v k (i:Int)=some r/\((r=.inl ()/\∀e∈v.al,e.bA≠k)\/∃q,r=.inr q/\At v.al k q):=by
 intro m;induction m with
 | zero=>
  intro i h1 h2 h3;rw[B8,an b,mg aol];refine⟨_,rfl,.inl ⟨rfl,λe he=>?_⟩⟩;obtain⟨j,hj,rfl⟩:=alq.1 he;exact h3 j aol hj
 | succ m a=>
  intro i h1 h2 h3;have d:i<v.al.length:=by omega
  rw[B8,an b,an aol,bG d,sb];by_cases he:v.al[i].bA=k
  ·rw[an he];exact⟨_,rfl,.inr ⟨_,rfl,.inr ⟨i,d,rfl,he,λj hj=>h3 j hj aol⟩⟩⟩
  ·rw[mg he,aT aol];refine a (i+1) aol aol (λj hj c=>?_);rcases alm j i with h4 | h4
   ·exact h3 j h4 c
   ·obtain rfl:j=i:=by omega
    exact he
theorem aev (v:ae) (k:cw) (a:v.bJ=4) (hl:v.al.length<=4000000):∃r,m90 v k=some r/\At v.al k r:=by
 obtain⟨r,e,h⟩:=aeu v k a hl v.al.length 0 aol aol (λj hj=>absurd hj (akG _));replace e:B8 v k 0=some r:=e;unfold m90;rw[e,sb];rcases h with⟨rfl,h⟩ | ⟨q,rfl,h⟩
 ·exact aof
 ·exact⟨_,rfl,h⟩
theorem PQ {α:Type} (a b:α):∀l:List α,(l++[a]).set l.length b=l++[b]
 | []=>rfl
 | c::l=>by simp [PQ a b l]
theorem YJ {l:List aj} {k:cw} {i:Nat} (h:At l k (i:Int)) (hi:i<l.length):∀j,∀hj:j<i,(l[j]'aol).bA≠k:=by
 rcases h with⟨h,_⟩ | ⟨j,hj,e,h1,h2⟩
 ·omega
 ·obtain rfl:i=j:=by omega
  exact h2
mutual
def ae.wt:ae->Nat | .mk _ _ _ _ l=>1+aj.Dx l
def aj.wt:aj->Nat | .mk _ v=>v.wt
def aj.Dx:List aj->Nat | []=>0 | x::r=>x.wt+aj.Dx r
end
theorem ae.qY (v:ae):v.wt=1+aj.Dx v.al:=by cases v;simp [ae.wt]
theorem aj.qY (e:aj):e.wt=e.aA.wt:=by cases e;simp [aj.wt]
theorem rC (v:ae):1<=v.wt:=by rw[v.qY];omega
theorem Ty:aj.Dx []=0:=by simp [aj.Dx]
theorem wq (x:aj) (r:List aj):aj.Dx (x::r)=x.aA.wt+aj.Dx r:=by rw[<-x.qY];simp [aj.Dx]
theorem xf:∀(l:List aj) (e:aj),e∈l->e.aA.wt<=aj.Dx l
 | x::r,e,h=>by
  rw[wq];rcases akM.1 h with rfl | h
  ·omega
  ·have:=xf r e h;omega
theorem yN:∀l:List aj,l.length<=aj.Dx l
 | []=>by simp
 | x::r=>by rw[wq];have:=yN r;have:=rC x.aA;simp only[akz];omega
theorem Jm {v:ae}:v.al.length<v.wt:=by rw[v.qY];have:=yN v.al;omega
theorem AX {v:ae} {e:aj} (he:e∈v.al):e.aA.wt<v.wt:=by rw[v.qY];have:=xf _ e he;omega
mutual
def ae.kw:ae->Nat | .mk k _ _ _ l=>if k=4 then 1+aj.Jv l else 1
def aj.kw:aj->Nat | .mk _ v=>v.kw
def aj.Jv:List aj->Nat | []=>0 | x::r=>x.kw+aj.Jv r
end
theorem ae.DF (v:ae):v.kw=if v.bJ=4 then 1+aj.Jv v.al else 1:=by cases v;unfold ae.kw;rfl
theorem aj.DF (e:aj):e.kw=e.aA.kw:=by cases e;simp [aj.kw]
theorem Nx:aj.Jv []=0:=by simp [aj.Jv]
theorem DG (x:aj) (r:List aj):aj.Jv (x::r)=x.aA.kw+aj.Jv r:=by rw[<-x.DF];simp [aj.Jv]
theorem YK (n:Nat) (a:∀v:ae,v.wt<=n->v.kw<=v.wt):∀l:List aj,aj.Dx l<=n->aj.Jv l<=aj.Dx l
 | [],_=>by rw[Nx];omega
 | x::r,h=>by
  rw[wq]at h;rw[DG,wq];have:=a x.aA aol;have:=YK n a r aol;omega
theorem TK:∀(n:Nat) (v:ae),v.wt<=n->v.kw<=v.wt
 | 0,v,h=>by have:=rC v;omega
 | n+1,v,h=>by
  have h':=h;rw[v.qY]at h';rw[v.DF,v.qY];split
  ·have:=YK n (TK n) v.al aol;omega
  ·omega
theorem abI (v:ae):v.kw<=v.wt:=TK _ v (No _)
theorem ad8 (v:ae):1<=v.kw:=by rw[v.DF];split<;>omega
theorem IU {l:List aj} {i:Nat} (h:i<l.length):aj.Jv (l.drop i)=l[i].aA.kw+aj.Jv (l.drop (i+1)):=by rw[ale h,DG]
theorem PR:∀(l:List aj) (i:Nat),aj.Jv (l.drop i)<=aj.Jv l
 | l,0=>by simp
 | [],i+1=>by simp
 | x::r,i+1=>by rw[amb,DG];have:=PR r i;omega
theorem ahp {x:Int} {n:Nat} (h:x=(n:Int)) (hn:n<9000000000000000000):af x=(n:Int):=by subst h;rw[af,Ij aol aol]
theorem KX:∀(n:Nat),n<=2000000->∀v:ae,v.wt<=n->ru v=some (v.kw:Int)
 | 0,_,v,h=>by have:=rC v;omega
 | n+1,hn,v,h=>by
  have hlen:=Jm (v:=v);have b:=abI v;rw[ru,v.DF];by_cases a:v.bJ=4
  ·rw[v.DF,an a]at b
   have go:∀m i:Nat,i<=v.al.length->v.al.length - i=m->∀y:Nat,y+aj.Jv (v.al.drop i)=1+aj.Jv v.al->lY v (y:Int) (i:Int)=some ((1+aj.Jv v.al:Nat):Int):=by
    intro m;induction m with
    | zero=>
     intro i h1 h2 y hy;rw[lY,mg aol];rw[ame aol,Nx]at hy;rw[<-hy];rfl
    | succ m c=>
     intro i h1 h2 y hy;have d:i<v.al.length:=by omega
     rw[IU d]at hy;have f:=AX (akx d);rw[lY,an aol,bG d,sb,KX n aol _ aol,sb,aT aol,ahp (n:=y+v.al[i].aA.kw) aol aol];exact c (i+1) aol aol _ aol
   have e:=go v.al.length 0 aol aol 1 aon;replace e:lY v 1 0=some ((1+aj.Jv v.al:Nat):Int):=e;rw[an a,an a,e,sb]
  ·rw[mg a,mg a,sb];rfl
theorem Qh:∀(n:Nat),n<=2000000->∀v:ae,v.wt<=n->∀q:Int,-2000000<=q->q<=2000000->∃r:Nat,m51 v q=some (r:Int)/\r<=v.kw/\((v.kw:Int)<=q->r=v.kw)/\(q<(v.kw:Int)->q<(r:Int))
 | 0,_,v,h=>by have:=rC v;omega
 | n+1,hn,v,h=>by
  intro q k l;have hlen:=Jm (v:=v);have o:=abI v;by_cases b:v.bJ=4
  ·have d:v.kw=1+aj.Jv v.al:=by rw[v.DF,an b]
   have go:∀m i:Nat,i<=v.al.length->v.al.length - i=m->∀y:Nat,y+aj.Jv (v.al.drop i)<=v.kw->((y:Int)<=q->y+aj.Jv (v.al.drop i)=v.kw)->
     ∃r:Nat,Ac v q (y:Int) (i:Int)=some (r:Int)/\r<=v.kw/\((v.kw:Int)<=q->r=v.kw)/\(q<(v.kw:Int)->q<(r:Int)):=by
    intro m;induction m with
    | zero=>
     intro i h1 h2 y hy a;rw[ame aol,Nx]at hy a;rw[Ac,an b,mg aol];exact⟨y,rfl,by omega,λh=>by omega,λh=>by omega⟩
    | succ m f=>
     intro i h1 h2 y hy a;have j:i<v.al.length:=by omega
     have p:=AX (akx j);rw[IU j]at hy a;rw[Ac,an b,an aol];by_cases c:(y:Int)<=q
     ·have s:af (q - (y:Int))=q - y:=by rw[af,Ij aol aol]
      obtain⟨r,e,t,g2,u⟩:=Qh n aol v.al[i].aA aol (q - y) aol aol;rw[an c,bG j,sb,s,e,sb,aT aol,ahp (n:=y+r) aol aol];exact f (i+1) aol aol _ aol (λh=>by omega)
     ·rw[mg c];exact⟨y,rfl,by omega,λh=>by omega,λh=>by omega⟩
   obtain⟨r,e,g⟩:=go v.al.length 0 aol aol 1 aoq (λ_=>by simp;omega);replace e:Ac v q 1 0=some (r:Int):=e;rw[m51,e,sb];exact⟨r,rfl,g⟩
  ·have d:v.kw=1:=by rw[v.DF,mg b]
   rw[m51,Ac,mg b,sb];exact⟨1,rfl,by omega,λ_=>by omega,λh=>by omega⟩
mutual
def ae.Fo:ae->Bool
 | .mk k n s x l=>(decide (k=3)||s==[])&&(decide (k=4)||(decide (x=0)&&l.isEmpty))&&
   (if k=0 then n==0 else if k=1 then(decide (n=0)||n==1)else if k=2 then decide (-1000000000<=n/\n<=1000000000)else if k=3 then(decide (n=0)&&decide ((s.length:Int)<=400))
    else if k=6\/k=7\/k=8 then decide (0<=n/\n<=255)else if k=4 then decide (n=0)&&decide (0<=x/\x<=1000000001)&&aj.AL l x []else false)
def aj.aew:aj->Bool | .mk _ v=>v.Fo
def aj.AL:List aj->Int->List cw->Bool
 | [],_,_=>true
 | e::r,x,seen=>vk e.bA&&(e.bA.dy||decide (e.bA.bS<x))&&!(decide (e.bA∈seen))&&e.aew&&aj.AL r x (seen++[e.bA])
end
theorem aaQ (e:aj):e.aew=e.aA.Fo:=by cases e;simp [aj.aew]
theorem Jn (x:Int) (s:List cw):aj.AL [] x s=true:=by simp [aj.AL]
theorem Lo (e:aj) (r:List aj) (x:Int) (s:List cw):aj.AL (e::r) x s=(vk e.bA&&(e.bA.dy||decide (e.bA.bS<x))&&!(decide (e.bA∈s))&&e.aA.Fo&&aj.AL r x (s++[e.bA])):=by
 rw[<-aaQ];simp [aj.AL]
theorem II (k n:Int) (s:bZ) (x:Int) (l:List aj):(ae.mk k n s x l).Fo=((decide (k=3)||s==[])&&(decide (k=4)||(decide (x=0)&&l.isEmpty))&&
   (if k=0 then n==0 else if k=1 then(decide (n=0)||n==1)else if k=2 then decide (-1000000000<=n/\n<=1000000000)else if k=3 then(decide (n=0)&&decide ((s.length:Int)<=400))
    else if k=6\/k=7\/k=8 then decide (0<=n/\n<=255)else if k=4 then decide (n=0)&&decide (0<=x/\x<=1000000001)&&aj.AL l x []else false)):=by simp [ae.Fo]
def VL (x:Int) (l:List aj):Prop:=(∀e∈l,vk e.bA=true/\(e.bA.dy=true\/e.bA.bS<x)/\e.aA.Fo=true)/\(l.map (·.bA)).Nodup
theorem Qi:∀(l:List aj) (x:Int) (s:List cw),aj.AL l x s=true↔VL x l/\∀e∈l,e.bA∉s
 | [],x,s=>by rw[Jn];simp [VL]
 | e::r,x,s=>by
  rw[Lo];simp only[An,alw,akY,akO,aly,Qi r x (s++[e.bA]),VL,akM,forall_eq_or_imp,akB,List.nodup_cons,akC,ali,akZ,not_or,not_exists,not_and];constructor
  ·rintro⟨⟨⟨⟨c,d⟩,f⟩,g⟩,⟨i,j⟩,k⟩;exact⟨⟨⟨⟨c,d,g⟩,i⟩,λx m he=>(k x m).2.1 he,j⟩,f,λb a=>(k b a).1⟩
  ·rintro⟨⟨⟨⟨c,d,g⟩,i⟩,n,j⟩,f,o⟩;exact⟨⟨⟨⟨c,d⟩,f⟩,g⟩,⟨i,j⟩,λb a=>⟨o b a,λh=>n b a h,amI⟩⟩
theorem aaA {v:ae} (a:v.bJ=4):v.Fo=true↔v.ck=[]/\v.bS=0/\(0<=v.aF/\v.aF<=1000000001)/\VL v.aF v.al:=by
 cases v with
 | mk k n s x l=>
  simp only[ae.cu]at a;subst a;rw[II];simp [Qi];intro _;rw[and_assoc]
theorem AW {κ β:Type} [DecidableEq κ]:∀(l:List (κ×β)) (k:κ) (v:β) (c:κ),jI (hZ l k v) c=if c=k then some v else jI l c
 | [],k,v,c=>by
  unfold hZ jI;by_cases h:c=k
  ·rw[an h,an h]
  ·rw[mg h,mg h];rfl
 | (a,b)::r,k,v,c=>by
  unfold hZ;by_cases d:k=a
  ·rw[an d];subst d;simp only[jI];by_cases h:c=k
   ·rw[an h,an h]
   ·rw[mg h,mg h];rw[mg h]
  ·rw[mg d];simp only[jI,AW r k v c];by_cases h:c=a
   ·rw[an h,an h,mg (by rw[h];exactλhe=>d he.symm)]
   ·rw[mg h,mg h]
theorem aaR {κ β:Type} [DecidableEq κ] (l:List (κ×β)) (k:κ) (v:β) (a:κ) (z:β):wX (hZ l k v) a z=if a=k then v else wX l a z:=by
 unfold wX;rw[AW];split<;>rfl
def Lp (b:Bool):(Unit) ⊕ ((Unit) ⊕ Bool):=if b=true then .inl ()else .inr (.inr false)
theorem Lq {l:List aj} {x:Int} {i:Nat} (h:i<l.length):aj.AL (l.drop i) x ((l.take i).map (·.bA))=
  (vk l[i].bA&&(l[i].bA.dy||decide (l[i].bA.bS<x))&&!(decide (l[i].bA∈(l.take i).map (·.bA)))&&l[i].aA.Fo&&aj.AL (l.drop (i+1)) x ((l.take (i+1)).map (·.bA))):=by
 rw[ale h,Lo,<-alu h,alO];rfl
theorem PS {l:List aj} {i:Nat} {k:cw} (hi:i<=l.length):k∈(l.take i).map (·.bA)↔∃j,∃h:j<i,(l[j]'aol).bA=k:=by
 rw[akZ];constructor
 ·rintro⟨e,he,rfl⟩;obtain⟨j,hj,rfl⟩:=alq.1 he;rw[alR]at hj;exact⟨j,by omega,by rw[List.getElem_take]⟩
 ·rintro⟨j,h,rfl⟩;exact⟨l[j]'aol,alq.2 ⟨j,by rw[alR];omega,by rw[List.getElem_take]⟩,rfl⟩
theorem Qj:∀(n:Nat),n<=2000000->∀v:ae,v.wt<=n->m52 v=some v.Fo
 | 0,_,v,h=>by have:=rC v;omega
 | n+1,hn,v,h=>by
  have hlen:=Jm (v:=v);cases v with
  | mk k q s x l=>
   have loop:k=4->Af (.mk k q s x l) 0=some (Lp (aj.AL l x [])):=λp=>by
    have go:∀m i:Nat,i<=l.length->l.length - i=m->Af (.mk k q s x l) (i:Int)=some (Lp (aj.AL (l.drop i) x ((l.take i).map (·.bA)))):=by
     intro m;induction m with
     | zero=>
      intro i h1 h2;rw[Af,ae.bQ,mg aol,ame aol,Jn];rfl
     | succ m d=>
      intro i h1 h2;have b:i<l.length:=by omega
      have t:=AX (v:=.mk k q s x l) (e:=l[i]) (akx b);obtain⟨u,w,o⟩:=aev (.mk k q s x l) l[i].bA p (show l.length<=4000000 by simp only[ae.bQ]at hlen;omega)
      have f:u=(i:Int)↔l[i].bA∉(l.take i).map (·.bA):=by
       rw[PS aol];constructor
       ·rintro rfl ⟨j,hj,he⟩;exact YJ o (show i<l.length from b) j hj he
       ·intro y;exact o.uniq (show i<l.length from b) rfl (λj hj he=>y ⟨j,hj,he⟩)
      rw[Af,ae.bQ,an aol,bG b,sb,aer,sb,w,sb,sb,Qj n aol _ aol,sb,Lq b];have z:=d (i+1) aol aol;rw[aT (by simp only[ae.bQ]at hlen;omega),z];cases A:vk l[i].bA with
      | false=>rfl
      | true=>
       simp only[akU,alM,ae.cy,f];cases B:l[i].aA.Fo with
       | false=>
        simp only[amv,alS,alN,alf];repeat (first | rfl | split)
       | true=>
        simp only[akU,alL];cases E:l[i].bA.dy with
        | true=>
         simp only[akU,amK,alM];by_cases hm:l[i].bA∈(l.take i).map (·.bA)
         ·rw[mg (λh=>h hm),ala hm];rfl
         ·rw[an hm,akI hm];rfl
        | false=>
         simp only[alN,alf,amn];by_cases a:l[i].bA.bS<x
         ·rw[mg aol,ala a];by_cases hm:l[i].bA∈(l.take i).map (·.bA)
          ·rw[mg (λh=>h hm),ala hm];rfl
          ·rw[an hm,akI hm];rfl
         ·rw[an aol,akI a];rfl
    exact go l.length 0 aol aol
   rw[m52,II];simp only[ae.cu,ae.cR,ae.cU,ae.cy,ae.bQ,AA,sb];by_cases h4:k=4
   ·rw[loop h4];subst h4;by_cases hs:s=[]<;>by_cases hq:q=0<;>by_cases a:0<=x/\x<=1000000001<;>cases aj.AL l x []<;>simp [hs,hq,a,sb,Lp]
   ·by_cases h3:k=3
    ·subst h3;by_cases a:x=0<;>by_cases hq:q=0<;>cases l<;>simp [a,hq,sb]<;>try rfl
    ·by_cases hs:s=[]
     ·by_cases a:x=0
      ·cases l with
       | cons e r=>simp [h3,h4,hs,a,sb]
       | nil=>
        by_cases h0:k=0
        ·subst h0;simp [hs,a,sb]
        ·by_cases h1:k=1
         ·subst h1;by_cases g:q=0
          ·subst g;simp [hs,a,sb]
          ·by_cases q1:q=1
           ·subst q1;simp [hs,a,sb]
           ·have c:¬(0<=q/\q<=1):=by omega
            have C:decide (0<=q/\q<=1)=false:=akI c;have D:decide (q=0)=false:=akI g;simp [hs,a,sb,g,q1,c];try omega
         ·by_cases h2:k=2
          ·subst h2;simp [hs,a,sb]
          ·by_cases h6:k=6
           ·subst h6;simp [hs,a,sb]
           ·by_cases h7:k=7
            ·subst h7;simp [hs,a,sb]
            ·by_cases h8:k=8
             ·subst h8;simp [hs,a,sb]
             ·simp [h0,h1,h2,h3,h4,h6,h7,h8,hs,a,sb]
      ·simp [h3,h4,hs,a,sb]
     ·simp [h3,h4,hs,sb]
theorem BB:∀(n:Nat),n<=2000000->∀v:ae,v.wt<=n->iR v=some v.Fo
 | 0,_,v,h=>by have:=rC v;omega
 | n+1,hn,v,h=>by
  have hlen:=Jm (v:=v);cases v with
  | mk k q s x l=>
   have loop:fL (.mk k q s x l) [] 0=some (Lp (aj.AL l x [])):=by
    have go:∀m i:Nat,i<=l.length->l.length - i=m->∀f:List (cw×Bool),(∀k,wX f k false=true↔k∈(l.take i).map (·.bA))->fL (.mk k q s x l) f (i:Int)=some (Lp (aj.AL (l.drop i) x ((l.take i).map (·.bA)))):=by
     intro m;induction m with
     | zero=>
      intro i h1 h2 f o;rw[fL,ae.bQ,mg aol,ame aol,Jn];rfl
     | succ m p=>
      intro i h1 h2 f o;have g:i<l.length:=by omega
      have w:=AX (v:=.mk k q s x l) (e:=l[i]) (akx g);rw[fL,ae.bQ,an aol,bG g,sb,aet,sb,BB n aol _ aol,sb,Lq g]
      have y:=p (i+1) aol aol (hZ f l[i].bA true) (λk=>by
       rw[aaR,<-alu g,alO,akC,List.map_singleton,ali,<-o k];by_cases j:k=l[i].bA
       ·rw[an j];simp [j]
       ·rw[mg j];simp [j])
      rw[aT (by simp only[ae.bQ]at hlen;omega),y];cases z:vk l[i].bA with
      | false=>rfl
      | true=>
       simp only[akU,alM,ae.cy,o];by_cases hm:l[i].bA∈(l.take i).map (·.bA)
       ·rw[an hm,ala hm];simp only[Bool.not_true,amv,alS];rfl
       ·rw[mg hm,akI hm];cases A:l[i].aA.Fo with
        | false=>
         simp only[amv,alS,alN,alf];repeat (first | rfl | split)
        | true=>
         simp only[akU,alL,Bool.not_false];cases B:l[i].bA.dy with
         | true=>simp only[akU,amK,alM]
         | false=>
          simp only[alN,alf,amn];by_cases d:l[i].bA.bS<x
          ·rw[mg aol,ala d];rfl
          ·rw[an aol,akI d];rfl
    exact go l.length 0 aol aol [] (λk=>by simp [wX,jI])
   have t:∀a b c:Int,FR a b c=some (decide (b<=a/\a<=c)):=λa b c=>by
    unfold FR;by_cases h1:b<=a
    ·rw[an aol];by_cases h2:a<=c
     ·simp [h1,h2]
     ·simp [h2]
    ·rw[mg aol];simp [h1]
   rw[iR,II];simp only[ae.cu,ae.cR,ae.cU,ae.cy,ae.bQ,t,sb];rw[loop];by_cases h4:k=4
   ·subst h4;by_cases hs:s=[]<;>by_cases hq:q=0<;>by_cases d:0<=x/\x<=1000000001<;>cases aj.AL l x []<;>simp [hs,hq,d,sb,Lp]
   ·by_cases h3:k=3
    ·subst h3;by_cases d:x=0<;>by_cases hq:q=0<;>cases l<;>simp [d,hq,sb]<;>try rfl
    ·by_cases hs:s=[]
     ·by_cases d:x=0
      ·cases l with
       | cons e r=>simp [h3,h4,hs,d,sb]
       | nil=>
        by_cases h0:k=0
        ·subst h0;simp [hs,d,sb]
        ·by_cases h1:k=1
         ·subst h1;by_cases u:q=0
          ·subst u;simp [hs,d,sb]
          ·simp [hs,d,sb,u]
         ·by_cases h2:k=2
          ·subst h2;simp [hs,d,sb]
          ·by_cases h6:k=6
           ·subst h6;simp [hs,d,sb]
           ·by_cases h7:k=7
            ·subst h7;simp [hs,d,sb]
            ·by_cases h8:k=8
             ·subst h8;simp [hs,d,sb]
             ·simp [h0,h1,h2,h3,h4,h6,h7,h8,hs,d,sb]
      ·simp [h3,h4,hs,d,sb]
     ·simp [h3,h4,hs,sb]
theorem abJ:∀(f:Nat) (y:Int) (s:bZ),0<=y->y<=9223372036854775807->y<10 ^ f->s.length+f<=1000->∃r,kU y s=some r/\r.length<=s.length+f
 | 0,y,s,h0,hm,h1,h2=>by
  rw[kU,mg aol];exact⟨s,rfl,by omega⟩
 | f+1,y,s,h0,hm,h1,h2=>by
  rw[kU];by_cases h:y>0
  ·have h3:y.tdiv 10=y / 10:=Int.tdiv_eq_ediv_of_nonneg h0;rw[Int.pow_succ]at h1;have a:af (y.tdiv 10)=y / 10:=by rw[h3];exact Ij aol aol
   have e:yz ([UInt8.ofNat (IntKind.u8.wrap (af (48+(y.tmod 10)))).toNat]:List UInt8) s=some ([UInt8.ofNat (IntKind.u8.wrap (af (48+(y.tmod 10)))).toNat]++s):=an aoq;rw[an h,e,sb,a];obtain⟨r,e2,h4⟩:=abJ f (y / 10) ([UInt8.ofNat (IntKind.u8.wrap (af (48+(y.tmod 10)))).toNat]++s) aol aol aol aoq;exact⟨r,e2,by simp at h4;omega⟩
  ·rw[mg h];exact⟨s,rfl,by omega⟩
def yq (k:Int):bZ:=(aL k).getD []
theorem dK (k:Int) (h:k<=9223372036854775807):aL k=some (yq k):=by
 suffices ∃s,aL k=some s by obtain⟨s,e⟩:=this;rw[yq,e];rfl
 unfold aL;by_cases a:k<=0
 ·rw[an a];exact⟨_,rfl⟩
 ·rw[mg a];obtain⟨r,e,b⟩:=abJ 19 k [] aol h aol aon;rw[e,sb];have:yz [109] r=some ([109]++r):=an (by simp at b ⊢;omega);rw[this];exact⟨_,rfl⟩
theorem Ft {l:List aj} {i:Nat} (h:i<l.length):aj.Dx (l.drop i)=l[i].aA.wt+aj.Dx (l.drop (i+1)):=by rw[ale h,wq]
theorem vz:∀(n:Nat) (l:List aj),aj.Dx l<=n->∀k:Nat,k+7*aj.Dx l<=1000000000000->∃(a:Nat) (l':List aj),fe l (k:Int)=some ((a:Int),l')/\l'.length=l.length/\k<=a/\a<=k+7*aj.Dx l/\dn l' (k:Int)=some (a:Int)
 | n,l,h=>by
  intro k d;have hlen:=yN l
  have go:∀m i:Nat,i<=l.length->l.length - i=m->∀(P:List aj) (k:Nat),P.length=i->k+7*aj.Dx (l.drop i)<=1000000000000->
    ∃(a:Nat) (R:List aj),gA l (P++l.drop i) (k:Int) (i:Int)=some ((a:Int),P++R)/\R.length=l.length - i/\k<=a/\a<=k+7*aj.Dx (l.drop i)/\∀Q:List aj,Q.length=i->fK (Q++R) (k:Int) (i:Int)=some (.inl (a:Int)):=by
   intro m;induction m with
   | zero=>
    intro i h1 h2 P k f d;have hi:i=l.length:=by omega
    rw[gA,mg aol,hi,amo];refine⟨k,[],rfl,by simp,No _,by omega,λQ g=>?_⟩;rw[fK,mg aoq]
   | succ m j=>
    intro i h1 h2 P k f d;have o:i<l.length:=by omega
    have hd:=Ft o;have A:=rC l[i].aA;have p:=l[i].aA.qY
    have B:aj.Dx (l.drop i)<=aj.Dx l:=by
     have hq:∀(l:List aj) (i:Nat),aj.Dx (l.drop i)<=aj.Dx l:=by
      intro l;induction l with
      | nil=>intro i;simp
      | cons e r C=>
       intro i;cases i with
       | zero=>exact No _
       | succ i=>rw[amb,wq];have:=C i;omega
     exact hq l i
    have w1:af ((k:Int)+1)=((k+1:Nat):Int):=aT aol;have s:af (((k+1:Nat):Int)+1)=((k+2:Nat):Int):=aT aol;have t:af (((k+2:Nat):Int)+1)=((k+3:Nat):Int):=aT aol;have u:af (((k+3:Nat):Int)+1)=((k+4:Nat):Int):=aT aol;have v:af (((k+4:Nat):Int)+1)=((k+5:Nat):Int):=aT aol;have w:af (((k+5:Nat):Int)+1)=((k+6:Nat):Int):=aT aol;have x:af (((k+6:Nat):Int)+1)=((k+7:Nat):Int):=aT aol;obtain⟨D,E,b,K,L,g2,F⟩:=vz (n - 1) l[i].aA.al aol (k+7) aol
    have G:idx (P++l.drop i) (i:Int)=some l[i]:=by
     rw[bG (by rw[alj,amF];omega),alY aol];simp [f]
    obtain⟨en,c⟩:∃en,en=aj.mk (cw.mk (((k:Int).tmod 3)==0) ((k+1:Nat):Int) (yq ((k+2:Nat):Int))) (ae.mk ((k+3:Nat):Int) ((k+4:Nat):Int) (yq ((k+5:Nat):Int)) ((k+6:Nat):Int) E):=⟨_,rfl⟩
    have H:(P++l.drop i).set i en=(P++[en])++l.drop (i+1):=by
     rw[List.set_append,mg aol,show i - P.length=0 by omega,alA];congr 1;rw[ale o];rfl
    obtain⟨a,R,I,f2,f3,M,f5⟩:=j (i+1) aol aol (P++[en]) D (by simp [f]) aol;refine⟨a,en::R,?_,by simp;omega,by omega,by omega,λQ g=>?_⟩
    ·rw[gA,an aol,G,sb];simp only[w1,s,t,u,v,w,x,dK _ (show((k+2:Nat):Int)<=9223372036854775807 by omega),dK _ (show((k+5:Nat):Int)<=9223372036854775807 by omega),sb,b,aky,<-c,H];rw[aT aol,I];simp
    ·have hy:idx (Q++en::R) (i:Int)=some en:=by
      rw[bG (by rw[alj,akz];omega),alY aol];simp [g]
     have y:=f5 (Q++[en]) (by simp [g]);rw[fK,an aoq];simp only[hy,sb,w1,s,t,u,v,w,x,dK _ (show((k+2:Nat):Int)<=9223372036854775807 by omega),dK _ (show((k+5:Nat):Int)<=9223372036854775807 by omega)];rw[c]at y ⊢;simp only[aj.Y5,aj.Y6,ae.cu,ae.cR,ae.cU,ae.cy,ae.bQ,akU,F,sb];rw[mg aol,aT aol];simpa using y
  obtain⟨a,R,b,e2,J,z,q⟩:=go l.length 0 aol aol [] k rfl (by rw[ald];exact d);rw[ald]at b z;replace b:gA l l (k:Int) 0=some ((a:Int),R):=b;replace q:fK R (k:Int) 0=some (.inl (a:Int)):=q [] rfl;refine⟨a,R,?_,by omega,J,z,?_⟩
  ·rw[fe,b,sb]
  ·rw[dn,q,sb]
termination_by n l=>aj.Dx l
decreasing_by
 have p:=l[i].aA.qY;have hm:=xf l _ (akx o);omega
theorem Pr (k:cw):vw k k=some true:=by unfold vw;rw[an rfl,an rfl,an rfl]
theorem uw:∀(n:Nat),n<=2000000000->∀v:ae,v.wt<=n->gl v v=some true
 | 0,_,v,h=>by have:=rC v;omega
 | n+1,hn,v,h=>by
  have hlen:=Jm (v:=v)
  have go:∀m i:Nat,i<=v.al.length->v.al.length - i=m->jl v.al v.al (i:Int)=some (.inl ()):=by
   intro m;induction m with
   | zero=>intro i h1 h2;rw[jl,mg aol]
   | succ m a=>
    intro i h1 h2;have b:i<v.al.length:=by omega
    have c:=AX (akx b)
    have d:wO v.al[i] v.al[i]=some true:=by
     rw[wO,Pr,sb,an rfl,uw n aol _ aol,sb,an rfl]
    rw[jl,an aol,bG b,sb,sb,d,sb,an rfl,aT aol];exact a (i+1) aol aol
  have e:=go v.al.length 0 aol aol;replace e:jl v.al v.al 0=some (.inl ()):=e;rw[gl,an rfl,an rfl,an rfl,an rfl,yy,an rfl,e];rfl
theorem XP {v:ae} (hv:v.wt<=2000000):m22 v=some (decide (v.kw<=200)&&v.Fo):=by
 obtain⟨r,a,c,g2,b⟩:=Qh 2000000 (No _) v hv 200 aol aol;unfold m22;rw[a,sb,Qj 2000000 (No _) v hv];by_cases h:v.kw<=200
 ·rw[an (by have:=g2 aol;omega),sb,ala h];rfl
 ·rw[mg (by have:=b aol;omega),akI h];rfl
end Go.Am
