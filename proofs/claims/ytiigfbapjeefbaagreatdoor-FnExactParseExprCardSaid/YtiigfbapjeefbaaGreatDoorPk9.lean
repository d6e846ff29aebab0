/- Texts of the proof, joined and shortened. -/
import Derived.Test.YtiigfbapjeefbaaGreatDoorPk8
set_option linter.unusedVariables false
set_option linter.unusedSimpArgs false
set_option synthInstance.maxHeartbeats 400000
set_option synthInstance.maxSize 4000
set_option maxRecDepth 100000
namespace Go.Am
open Go Go.RowKit Go.Proofs
def m69 (a0:aB):Option (Int×Bool):=
 m98 a0 (-1000000000) 1000000000>>=λ(v1,v2)=>
 some (v1,v2)
theorem aEO {a0:aB} {r:Int×Bool} (h:m69 a0=some r):ACall Tryz.prog 173 [.str a0] [] (λres h=>res=.fv [.int .i64 r.1,.bool r.2]/\h=[]):=by
 refine eT Tryz.func173 ?_
 unfold m69 at h
 refine .d (.d ?_)
 obtain ⟨⟨v1,v2⟩,uC,h⟩:=bd h
 refine cx (aBC uC) ?_
 exact aKe
def dy (a0:bG) (a1:Int) (a2:Int) (a3:aB) (a4:Int):Option (bG):=
 db 40 a0.bO ([(af.mk a1 a2 a3 a0.bM)]:List af)>>=λl1=>
 some (bG.mk a0.fS (bq (a0.bM+a4)) l1 a0.dM)
theorem gY {a0:bG} {a1:Int} {a2:Int} {a3:aB} {a4:Int} {r:bG} {g1000:Nat} {g1001:Nat} (h:dy a0 a1 a2 a3 a4=some r):ACall Tryz.prog 169 [.aC 0 g1000 0 0,.int .i64 a1,.int .i64 a2,.str a3,.int .i64 a4] [.row g1000 4 1 107 (λ_=>[.str a0.fS,.int .i64 a0.bM,.own 1 g1001 0 a0.bO.length,.int .i64 a0.dM]),.row g1001 4 a0.bO.length 101 (row af.cells a0.bO)] (λres h=>∃G1:Nat,res=.fv []/\h=[.row g1000 4 1 107 (λ_=>[.str r.fS,.int .i64 r.bM,.own 1 G1 0 r.bO.length,.int .i64 r.dM]),.row G1 4 r.bO.length 101 (row af.cells r.bO)]):=by
 refine eT Tryz.func169 ?_
 unfold dy at h
 refine .d (.float [(0,true),(1,true),(2,true),(3,true),(4,true),(5,true),(6,true),(7,true),(8,true),(9,true),(10,true),(11,true),(12,true),(13,false),(14,false),(15,true),(16,true),(17,false)] aKR ?_)
 refine ⟨rfl,rfl,rfl,_,rfl,rfl,rfl,rfl,_,rfl,row af.cells ([(af.mk a1 a2 a3 a0.bM)]:List af),dX af.cells ([(af.mk a1 a2 a3 a0.bM)]:List af) rfl (dA rfl),rfl,rfl,rfl,(bk h λl1 Mr h=>(.fx ⟨rfl,rfl,mf (l:=([(af.mk a1 a2 a3 a0.bM)]:List af)) bb,iY Mr,l1.length,row af.cells l1,gN Mr,iu Mr bb (jP bb),rfl,rfl,rfl,_,_,rfl,ao,?_⟩))⟩
 refine ⟨rfl,rfl,rfl,_,rfl,rfl,rfl,rfl,_,_,rfl,ao,?_⟩
 obtain rfl:=si h
 exact en [0,1] ⟨(g1001+1),rfl,rfl⟩ (.cP ⟨⟩) ⟨(ob rfl ⟨.s,.i,.o,.i,⟨⟩⟩),od,⟨⟩⟩
def cR (a0:bG):Option (bG):=
 mK a0.fS a0.bM>>=λs1=>
 m64 s1 [60,63]>>=λv3=>
 (
 (if v3<0 then
 some (s1.length:Int)
 else
 some v3)
 :Option (Int))>>=λy5=>
 (
 (if y5>0 then
 sto s1 y5>>=λSu=>
 dy a0 1 0 Su y5>>=λv21=>
 some (v21.fS,v21.bM,v21.dM,v21.bO)
 else
 some (a0.fS,a0.bM,a0.dM,a0.bO))
 :Option (aB×Int×Int×(List af)))>>=λ(DI,jg,ui,l14)=>
 (if jg=(DI.length:Int) then
 some (bG.mk DI jg l14 ui)
 else
 mK DI jg>>=λs25=>
 m66 s25 [60,63,61]>>=λRd=>
 (if Rd=true then
 dy (bG.mk DI jg l14 ui) 3 0 [101,99,104,111] 3>>=λv30=>
 some v30
 else
 some (bG.mk DI (bq (jg+2)) l14 ui)))
theorem nW {a0:bG} {r:bG} {g1000:Nat} {g1001:Nat} (h:cR a0=some r):az3 108 a0 r g1000 g1001:=by
 refine eT Tryz.func108 ?_
 unfold cR at h
 refine .d ⟨rfl,rfl,rfl,_,rfl,rfl,rfl,rfl,_,rfl,(bk h λs1 Mr h=>⟨rv Mr,s1,rz Mr,(.d (bk h λv3 Sy h=>(cx (aBD Sy) ?_)))⟩)⟩
 obtain ⟨o6,h,yG⟩:=bd h
 refine .cut (λσ η=>∃y5,y5=o6/\σ=[(0,.aC 0 g1000 0 0),(2,.str s1),(3,.int .i64 y5)]/\η=[.row g1000 4 1 107 (λ_=>[.str a0.fS,.int .i64 a0.bM,.own 1 g1001 0 a0.bO.length,.int .i64 a0.dM]),.row g1001 4 a0.bO.length 101 (row af.cells a0.bO)]) ?_ ?_
 refine .d (sD h (λOa h=>?_) (λOa h=>?_))
 exact aKw
 exact aKw
 rintro _ _ ⟨y5,rfl,rfl,rfl⟩
 replace h:=yG
 obtain ⟨DE,h,MK⟩:=bd h
 refine .cut (λσ η=>∃DI,∃jg,∃ui,∃l14,∃g13:Nat,(DI,jg,ui,l14)=DE/\σ=[(0,.aC 0 g1000 0 0)]/\η=[.row g1000 4 1 107 (λ_=>[.str DI,.int .i64 jg,.own 1 g13 0 l14.length,.int .i64 ui]),.row g13 4 l14.length 101 (row af.cells l14)]) ?_ ?_
 refine .d (sD h (λAi h=>?_) (λAi h=>?_))
 exact bk h λSu Bh h=>⟨FH Bh,Su,FI Bh,(bk h λv21 Vb h=>(x9 (gY (g1000:=g1000) (g1001:=g1001) Vb) [0,1] ⟨rfl,ov,⟨⟩⟩ (λg23=>.fv []) (λg23=>[.row g1000 4 1 107 (λ_=>[.str v21.fS,.int .i64 v21.bM,.own 1 g23 0 v21.bO.length,.int .i64 v21.dM]),.row g23 4 v21.bO.length 101 (row af.cells v21.bO)]) λg23=>(ct ⟨_,_,_,_,g23,si h,rfl,rfl⟩ (tk [0,1] ⟨.p,⟨⟩⟩ ⟨(ob rfl ⟨.s,.i,.o,.i,⟨⟩⟩),od,⟨⟩⟩))))⟩
 exact ct ⟨_,_,_,_,g1001,si h,rfl,rfl⟩ (tk [0,1] ⟨.p,⟨⟩⟩ ⟨(ob rfl ⟨.s,.i,.o,.i,⟨⟩⟩),od,⟨⟩⟩)
 rintro _ _ ⟨DI,jg,ui,l14,g13,rfl,rfl,rfl⟩
 replace h:=MK
 refine .d (.d ⟨rfl,rfl,rfl,_,rfl,rfl,rfl,rfl,_,rfl,(sE h (λRe h=>?_) (λRe h=>?_))⟩)
 obtain rfl:=si h
 exact en [0,1] ⟨g13,rfl,rfl⟩ (.cP ⟨⟩) ⟨(ob rfl ⟨.s,.i,.o,.i,⟨⟩⟩),od,⟨⟩⟩
 refine .d (.float [(0,true),(1,true),(2,true),(3,true),(4,true),(5,true),(6,true),(7,true),(8,true),(9,false)] aKR ?_)
 refine ⟨rfl,rfl,rfl,_,rfl,rfl,rfl,rfl,_,rfl,(bk h λs25 Rf h=>⟨rv Rf,s25,rz Rf,(bk h λRd akV h=>(cx (SN akV) (sV h (λLc h=>?_) (λLc h=>?_))))⟩)⟩
 refine bk h λv30 akW h=>(x9 (gY (g1000:=g1000) (g1001:=g13) akW) [0,1] ⟨rfl,ov,⟨⟩⟩ (λYW=>.fv []) (λYW=>[.row g1000 4 1 107 (λ_=>[.str v30.fS,.int .i64 v30.bM,.own 1 YW 0 v30.bO.length,.int .i64 v30.dM]),.row YW 4 v30.bO.length 101 (row af.cells v30.bO)]) λYW=>?_)
 obtain rfl:=si h
 exact en [0,1] ⟨YW,rfl,rfl⟩ (.cP ⟨⟩) ⟨(ob rfl ⟨.s,.i,.o,.i,⟨⟩⟩),od,⟨⟩⟩
 refine ⟨rfl,rfl,rfl,_,rfl,rfl,rfl,rfl,_,_,rfl,ao,?_⟩
 obtain rfl:=si h
 exact en [0,1] ⟨g13,rfl,rfl⟩ (.cP ⟨⟩) ⟨(ob rfl ⟨.s,.i,.o,.i,⟨⟩⟩),od,⟨⟩⟩
def cU (a0:bG) (a1:aB) (l4:List UInt8) (y5:Int):Option ((Unit) ⊕ bG):=
 (if y5<(a1.length:Int) then
 gx a1 y5>>=λc9=>
 (if (c9.toNat:Int)=39 then
 (if (l4.length:Int)>400 then
 some (.inl ())
 else
 dy a0 5 0 l4 (bq (y5+1))>>=λrE=>
 some (.inr rE))
 else
 gx a1 y5>>=λc16=>
 (if (c16.toNat:Int)=92 then
 (if (bq (y5+1))<(a1.length:Int) then
 gx a1 (bq (y5+1))>>=λc20=>
 (if (c20.toNat:Int)=39 then
 gx a1 (bq (y5+1))>>=λc23=>
 db 1 l4 ([c23]:List UInt8)>>=λuv=>
 cU a0 a1 uv (bq ((bq (y5+1))+1))
 else
 gx a1 (bq (y5+1))>>=λc27=>
 (if (c27.toNat:Int)=92 then
 gx a1 (bq (y5+1))>>=λc30=>
 db 1 l4 ([c30]:List UInt8)>>=λl32=>
 cU a0 a1 l32 (bq ((bq (y5+1))+1))
 else
 gx a1 y5>>=λc34=>
 db 1 l4 ([c34]:List UInt8)>>=λl36=>
 cU a0 a1 l36 (bq (y5+1))))
 else
 gx a1 y5>>=λc38=>
 db 1 l4 ([c38]:List UInt8)>>=λl40=>
 cU a0 a1 l40 (bq (y5+1)))
 else
 gx a1 y5>>=λc42=>
 db 1 l4 ([c42]:List UInt8)>>=λM1=>
 cU a0 a1 M1 (bq (y5+1))))
 else
 some (.inl ()))
partial_fixpoint
def oh (a0:bG) (a1:aB):Option (bG):=
 ((
 cU a0 a1 ([]:List UInt8) 1
 :Option ((Unit) ⊕ bG))>>=λo1=>match o1 with
 | .inr r=>some r
 | .inl _=>
 some (bG.mk a0.fS a0.bM a0.bO 3)
 )
theorem Cm {a0:bG} {a1:aB} {r:bG} {g1000:Nat} {g1001:Nat} (h:oh a0 a1=some r):az4 174 a0 a1 r g1000 g1001:=by
 refine eT Tryz.func174 ?_
 unfold oh at h
 refine .d ⟨row cB ([]:List UInt8),dX cB ([]:List UInt8) rfl (dA rfl),?_⟩
 obtain ⟨o1,h,gd⟩:=bd h
 refine .cut (λσ η=>.inl ()=o1/\σ=[(0,.aC 0 g1000 0 0)]/\η=[.row g1000 4 1 107 (λ_=>[.str a0.fS,.int .i64 a0.bM,.own 1 g1001 0 a0.bO.length,.int .i64 a0.dM]),.row g1001 4 a0.bO.length 101 (row af.cells a0.bO)]) ?_ ?_
 refine .d ?_
 refine le (cU.partial_correctness a0 a1 (motive:=λl4 y5 o46=>o1=o46->aQ _ _ [(0,.aC 0 g1000 0 0),(1,.str a1),(4,.own 2 0 0 l4.length),(5,.int .i64 y5)] [.row g1000 4 1 107 (λ_=>[.str a0.fS,.int .i64 a0.bM,.own 1 g1001 0 a0.bO.length,.int .i64 a0.dM]),.row g1001 4 a0.bO.length 101 (row af.cells a0.bO),.row 0 1 l4.length 5 (row cB l4)]) ?_ ([]:List UInt8) 1 o1 h rfl) (tk [0,1,2] ⟨.p,.s,.o,.i,⟨⟩⟩ ⟨(ob rfl ⟨.s,.i,.o,.i,⟨⟩⟩),od,nw,⟨⟩⟩)
 intro F7 Hm l4 y5 o46 h Ti
 subst Ti
 refine aQ.round (.d (.d (sD h (λKR h=>?_) (λKR h=>?_))))
 refine .d (.d (.d (bk h λc9 ya h=>⟨cf ya,c9,cg ya,(sE h (λrC h=>?_) (λrC h=>?_))⟩)))
 refine .d (.d ⟨rfl,(sD h (λrF h=>?_) (λrF h=>?_))⟩)
 exact aKy
 refine .d ⟨rfl,l4,rfl,ow bb rfl,(bk h λrE wF h=>(x9 (gY (g1000:=g1000) (g1001:=g1001) wF) [0,1] ⟨rfl,ov,⟨⟩⟩ (λg15=>.fv []) (λg15=>[.row g1000 4 1 107 (λ_=>[.str rE.fS,.int .i64 rE.bM,.own 1 g15 0 rE.bO.length,.int .i64 rE.dM]),.row g15 4 rE.bO.length 101 (row af.cells rE.bO),.row 0 1 l4.length 5 (row cB l4)]) λg15=>?_))⟩
 obtain rfl:=si h
 replace h:=gd
 obtain rfl:=si h
 exact en [0,1] ⟨g15,rfl,rfl⟩ (.cP ⟨⟩) ⟨(ob rfl ⟨.s,.i,.o,.i,⟨⟩⟩),od,⟨⟩⟩
 refine .d (.d (bk h λc16 Hu h=>⟨cf Hu,c16,cg Hu,(sE h (λAi h=>?_) (λAi h=>?_))⟩))
 refine .t (.t (.t (.t (.t (sD h (λBi h=>?_) (λBi h=>?_))))))
 refine .t (.t (.t (bk h λc20 JD h=>⟨cf JD,c20,cg JD,(.t (.t (sE h (λDJ h=>?_) (λDJ h=>?_))))⟩)))
 exact .t (.t (.t (.t (.t (.t (.t (.t (bk h λc23 az5 h=>⟨cf az5,c23,cg az5,row cB ([c23]:List UInt8),dX cB ([c23]:List UInt8) rfl (dA rfl),(bk h λuv Rf h=>(.fx ⟨rfl,rfl,mf (l:=([c23]:List UInt8)) bb,iY Rf,uv.length,row cB uv,gN Rf,iu Rf bb (jP bb),(lg (Hm _ _ _ h rfl) (tk [0,1,2] ⟨.p,.s,.o,.i,⟨⟩⟩ ⟨(ob rfl ⟨.s,.i,.o,.i,⟨⟩⟩),od,nw,⟨⟩⟩))⟩))⟩))))))))
 refine .f (.f (.f (bk h λc27 Ck h=>⟨cf Ck,c27,cg Ck,(.f (.t (.f (.t (sE h (λLc h=>?_) (λLc h=>?_))))))⟩)))
 exact bk h λc30 UG h=>⟨cf UG,c30,cg UG,row cB ([c30]:List UInt8),dX cB ([c30]:List UInt8) rfl (dA rfl),(bk h λl32 akX h=>(.fx ⟨rfl,rfl,mf (l:=([c30]:List UInt8)) bb,iY akX,l32.length,row cB l32,gN akX,iu akX bb (jP bb),(lg (Hm _ _ _ h rfl) (tk [0,1,2] ⟨.p,.s,.o,.i,⟨⟩⟩ ⟨(ob rfl ⟨.s,.i,.o,.i,⟨⟩⟩),od,nw,⟨⟩⟩))⟩))⟩
 exact bk h λc34 YX h=>⟨cf YX,c34,cg YX,row cB ([c34]:List UInt8),dX cB ([c34]:List UInt8) rfl (dA rfl),(bk h λl36 akY h=>(.fx ⟨rfl,rfl,mf (l:=([c34]:List UInt8)) bb,iY akY,l36.length,row cB l36,gN akY,iu akY bb (jP bb),(lg (Hm _ _ _ h rfl) (tk [0,1,2] ⟨.p,.s,.o,.i,⟨⟩⟩ ⟨(ob rfl ⟨.s,.i,.o,.i,⟨⟩⟩),od,nw,⟨⟩⟩))⟩))⟩
 exact .f (.f (.f (.f (.f (.f (.f (.f (bk h λc38 az6 h=>⟨cf az6,c38,cg az6,row cB ([c38]:List UInt8),dX cB ([c38]:List UInt8) rfl (dA rfl),(bk h λl40 GL h=>(.fx ⟨rfl,rfl,mf (l:=([c38]:List UInt8)) bb,iY GL,l40.length,row cB l40,gN GL,iu GL bb (jP bb),(lg (Hm _ _ _ h rfl) (tk [0,1,2] ⟨.p,.s,.o,.i,⟨⟩⟩ ⟨(ob rfl ⟨.s,.i,.o,.i,⟨⟩⟩),od,nw,⟨⟩⟩))⟩))⟩))))))))
 refine .f (.f (.f (.f (.f (.f (.f (.f (.f (.f (.f (.f (.f (.f (bk h λc42 az7 h=>?_))))))))))))))
 exact ⟨cf az7,c42,cg az7,row cB ([c42]:List UInt8),dX cB ([c42]:List UInt8) rfl (dA rfl),(bk h λM1 xb h=>(.fx ⟨rfl,rfl,mf (l:=([c42]:List UInt8)) bb,iY xb,M1.length,row cB M1,gN xb,iu xb bb (jP bb),(lg (Hm _ _ _ h rfl) (tk [0,1,2] ⟨.p,.s,.o,.i,⟨⟩⟩ ⟨(ob rfl ⟨.s,.i,.o,.i,⟨⟩⟩),od,nw,⟨⟩⟩))⟩))⟩
 exact aKy
 rintro _ _ ⟨rfl,rfl,rfl⟩
 replace h:=gd
 refine ⟨rfl,rfl,rfl,_,_,rfl,ao,?_⟩
 exact aKa
def jz (a0:bG) (a1:aB) (y4:Int):Option ((Unit) ⊕ bG):=
 (if y4<(([[61,61,61],[33,61,61],[60,61,62],[61,61],[33,61],[60,61],[62,61],[61,62],[45,62],[58,58],[38,38],[124,124],[63,63],[43],[45],[42],[47],[37],[46],[61],[33],[60],[62],[40],[41],[91],[93],[123],[125],[44],[59],[63],[58],[38]]:List aB).length:Int) then
 idx ([[61,61,61],[33,61,61],[60,61,62],[61,61],[33,61],[60,61],[62,61],[61,62],[45,62],[58,58],[38,38],[124,124],[63,63],[43],[45],[42],[47],[37],[46],[61],[33],[60],[62],[40],[41],[91],[93],[123],[125],[44],[59],[63],[58],[38]]:List aB) y4>>=λx8=>
 m66 a1 x8>>=λv10=>
 (if v10=true then
 dy a0 6 0 x8 (x8.length:Int)>>=λrE=>
 some (.inr rE)
 else
 jz a0 a1 (bq (y4+1)))
 else
 some (.inl ()))
partial_fixpoint
def lQ (a0:bG) (a1:aB):Option (bG):=
 ((
 jz a0 a1 0
 :Option ((Unit) ⊕ bG))>>=λo1=>match o1 with
 | .inr r=>some r
 | .inl _=>
 some (bG.mk a0.fS a0.bM a0.bO 2)
 )
theorem Cn {a0:bG} {a1:aB} {r:bG} {g1000:Nat} {g1001:Nat} (h:lQ a0 a1=some r):az4 175 a0 a1 r g1000 g1001:=by
 refine eT Tryz.func175 ?_
 unfold lQ at h
 refine .d ⟨row cS ([[61,61,61],[33,61,61],[60,61,62],[61,61],[33,61],[60,61],[62,61],[61,62],[45,62],[58,58],[38,38],[124,124],[63,63],[43],[45],[42],[47],[37],[46],[61],[33],[60],[62],[40],[41],[91],[93],[123],[125],[44],[59],[63],[58],[38]]:List aB),dX cS ([[61,61,61],[33,61,61],[60,61,62],[61,61],[33,61],[60,61],[62,61],[61,62],[45,62],[58,58],[38,38],[124,124],[63,63],[43],[45],[42],[47],[37],[46],[61],[33],[60],[62],[40],[41],[91],[93],[123],[125],[44],[59],[63],[58],[38]]:List aB) rfl (dA rfl),?_⟩
 obtain ⟨o1,h,gd⟩:=bd h
 refine .cut (λσ η=>.inl ()=o1/\σ=[(0,.aC 0 g1000 0 0)]/\η=[.row g1000 4 1 107 (λ_=>[.str a0.fS,.int .i64 a0.bM,.own 1 g1001 0 a0.bO.length,.int .i64 a0.dM]),.row g1001 4 a0.bO.length 101 (row af.cells a0.bO)]) ?_ ?_
 refine .d ⟨rfl,?_⟩
 refine le (jz.partial_correctness a0 a1 (motive:=λy4 o16=>o1=o16->aQ _ _ [(0,.aC 0 g1000 0 0),(1,.str a1),(8,.own 2 0 0 ([[61,61,61],[33,61,61],[60,61,62],[61,61],[33,61],[60,61],[62,61],[61,62],[45,62],[58,58],[38,38],[124,124],[63,63],[43],[45],[42],[47],[37],[46],[61],[33],[60],[62],[40],[41],[91],[93],[123],[125],[44],[59],[63],[58],[38]]:List aB).length),(9,.int .i64 (([[61,61,61],[33,61,61],[60,61,62],[61,61],[33,61],[60,61],[62,61],[61,62],[45,62],[58,58],[38,38],[124,124],[63,63],[43],[45],[42],[47],[37],[46],[61],[33],[60],[62],[40],[41],[91],[93],[123],[125],[44],[59],[63],[58],[38]]:List aB).length:Int)),(10,.int .i64 y4)] [.row g1000 4 1 107 (λ_=>[.str a0.fS,.int .i64 a0.bM,.own 1 g1001 0 a0.bO.length,.int .i64 a0.dM]),.row g1001 4 a0.bO.length 101 (row af.cells a0.bO),.row 0 1 ([[61,61,61],[33,61,61],[60,61,62],[61,61],[33,61],[60,61],[62,61],[61,62],[45,62],[58,58],[38,38],[124,124],[63,63],[43],[45],[42],[47],[37],[46],[61],[33],[60],[62],[40],[41],[91],[93],[123],[125],[44],[59],[63],[58],[38]]:List aB).length 9 (row cS ([[61,61,61],[33,61,61],[60,61,62],[61,61],[33,61],[60,61],[62,61],[61,62],[45,62],[58,58],[38,38],[124,124],[63,63],[43],[45],[42],[47],[37],[46],[61],[33],[60],[62],[40],[41],[91],[93],[123],[125],[44],[59],[63],[58],[38]]:List aB))]) ?_ 0 o1 h rfl) (tk [0,1,2] ⟨.p,.s,.o,.i,.i,⟨⟩⟩ ⟨(ob rfl ⟨.s,.i,.o,.i,⟨⟩⟩),od,nw,⟨⟩⟩)
 intro F6 Sr y4 o16 h Sv
 subst Sv
 refine aQ.round (.d (.d (sD h (λzL h=>?_) (λzL h=>?_))))
 refine .d (.d (bk h λx8 St h=>⟨rfl,bn St,_,aHJ _,rfl,_,((ba St).trans rfl),(.d (bk h λv10 Sz h=>(cx (SN Sz) (sV h (λrF h=>?_) (λrF h=>?_)))))⟩))
 refine .d (bk h λrE wF h=>(x9 (gY (g1000:=g1000) (g1001:=g1001) wF) [0,1] ⟨rfl,ov,⟨⟩⟩ (λg15=>.fv []) (λg15=>[.row g1000 4 1 107 (λ_=>[.str rE.fS,.int .i64 rE.bM,.own 1 g15 0 rE.bO.length,.int .i64 rE.dM]),.row g15 4 rE.bO.length 101 (row af.cells rE.bO),.row 0 1 ([[61,61,61],[33,61,61],[60,61,62],[61,61],[33,61],[60,61],[62,61],[61,62],[45,62],[58,58],[38,38],[124,124],[63,63],[43],[45],[42],[47],[37],[46],[61],[33],[60],[62],[40],[41],[91],[93],[123],[125],[44],[59],[63],[58],[38]]:List aB).length 9 (row cS ([[61,61,61],[33,61,61],[60,61,62],[61,61],[33,61],[60,61],[62,61],[61,62],[45,62],[58,58],[38,38],[124,124],[63,63],[43],[45],[42],[47],[37],[46],[61],[33],[60],[62],[40],[41],[91],[93],[123],[125],[44],[59],[63],[58],[38]]:List aB))]) λg15=>?_))
 obtain rfl:=si h
 replace h:=gd
 obtain rfl:=si h
 exact en [0,1] ⟨g15,rfl,rfl⟩ (.cP ⟨⟩) ⟨(ob rfl ⟨.s,.i,.o,.i,⟨⟩⟩),od,⟨⟩⟩
 exact lg (Sr _ _ h rfl) (tk [0,1,2] ⟨.p,.s,.o,.i,.i,⟨⟩⟩ ⟨(ob rfl ⟨.s,.i,.o,.i,⟨⟩⟩),od,nw,⟨⟩⟩)
 exact aKy
 rintro _ _ ⟨rfl,rfl,rfl⟩
 replace h:=gd
 refine ⟨rfl,rfl,rfl,_,_,rfl,ao,?_⟩
 exact aKa
set_option synthInstance.maxHeartbeats 400000
set_option synthInstance.maxSize 4000
set_option maxRecDepth 100000
def ep (a0:bG) (GD:Int):Option (bG):=
 ((
 (if GD<(a0.fS.length:Int) then
 gx a0.fS GD>>=λc48=>
 (if (c48.toNat:Int)=10 then
 some (.inr (bG.mk a0.fS GD a0.bO a0.dM))
 else
 mK a0.fS GD>>=λs51=>
 m66 s51 [63,62]>>=λv53=>
 (if v53=true then
 some (.inr (bG.mk a0.fS GD a0.bO a0.dM))
 else
 some (.inl (c48,((c48.toNat:Int) != 10),s51,v53,(!v53)))))
 else
 some (.inr (bG.mk a0.fS GD a0.bO a0.dM)))
 :Option ((UInt8×Bool×aB×Bool×Bool) ⊕ bG))>>=λo44=>match o44 with
 | .inr r=>some r
 | .inl (YY,b40,s41,b42,b43)=>
 ep a0 (bq (GD+1))
 )
partial_fixpoint
def gD (s1:aB) (JE:Int):Option (Int):=
 (if JE<(s1.length:Int) then
 gx s1 JE>>=λakZ=>
 kG (akZ.toNat:Int)>>=λIc=>
 (if Ic=true then
 gD s1 (bq (JE+1))
 else
 some JE)
 else
 some JE)
partial_fixpoint
def dr (a0:bG):Option (bG):=
 mK a0.fS a0.bM>>=λs1=>
 gx s1 0>>=λc3=>
 (
 (if (c3.toNat:Int)=32 then
 some true
 else
 (if (c3.toNat:Int)=9 then
 some true
 else
 (if (c3.toNat:Int)=10 then
 some true
 else
 some ((c3.toNat:Int)==13))))
 :Option (Bool))>>=λb5=>
 (if b5=true then
 some (bG.mk a0.fS (bq (a0.bM+1)) a0.bO a0.dM)
 else
 m66 s1 [63,62]>>=λrE=>
 (if rE=true then
 dy a0 6 0 [59] 2>>=λyF=>
 (
 (if yF.bM<(yF.fS.length:Int) then
 gx yF.fS yF.bM>>=λc24=>
 some ((c24.toNat:Int)==10)
 else
 some false)
 :Option (Bool))>>=λAy=>
 (if Ay=true then
 cR (bG.mk yF.fS (bq (yF.bM+1)) yF.bO yF.dM)>>=λRd=>
 some Rd
 else
 cR yF>>=λv30=>
 some v30)
 else
 m66 s1 [47,47]>>=λMY=>
 (if MY=true then
 ep a0 a0.bM
 else
 (if (c3.toNat:Int)=36 then
 mK s1 1>>=λs59=>
 dR s59>>=λv61=>
 ((
 (
 some ()
 :Option (Unit))>>=λ_=>
 (if v61=0 then
 some (.inr (bG.mk a0.fS a0.bM a0.bO 2))
 else
 some (.inl ()))
 :Option ((Unit) ⊕ bG))>>=λo63=>match o63 with
 | .inr r=>some r
 | .inl _=>
 sB s1 1 (bq (1+v61))>>=λs70=>
 dy a0 2 0 s70 (bq (1+v61))>>=λv72=>
 some v72
 )
 else
 dR s1>>=λv75=>
 (if v75>0 then
 (
 dR s1>>=λv82=>
 some v82
 :Option (Int))>>=λy78=>
 sto s1 y78>>=λs84=>
 dy a0 3 0 s84 y78>>=λv86=>
 some v86
 else
 (
 kG (c3.toNat:Int)>>=λv93=>
 some v93
 :Option (Bool))>>=λb89=>
 (if b89=true then
 (
 gD s1 0
 :Option (Int))>>=λy96=>
 sto s1 y96>>=λak0=>
 m69 ak0>>=λ(ak1,Ie)=>
 ((
 (if Ie=true then
 some (.inl ())
 else
 some (.inr (bG.mk a0.fS a0.bM a0.bO 4)))
 :Option ((Unit) ⊕ bG))>>=λak2=>match ak2 with
 | .inr r=>some r
 | .inl _=>
 dy a0 4 ak1 [] y96>>=λAq=>
 some Aq
 )
 else
 (if (c3.toNat:Int)=39 then
 oh a0 s1>>=λv124=>
 some v124
 else
 lQ a0 s1>>=λv127=>
 some v127)))))))
theorem AJ {a0:bG} {r:bG} {g1000:Nat} {g1001:Nat} (h:dr a0=some r):az3 109 a0 r g1000 g1001:=by
 refine eT Tryz.func109 ?_
 unfold dr at h
 refine .d ⟨rfl,rfl,rfl,_,rfl,rfl,rfl,rfl,_,rfl,(bk h λs1 Mr h=>⟨rv Mr,s1,rz Mr,(.d (bk h λc3 hx4 h=>⟨cf hx4,c3,cg hx4,?_⟩))⟩)⟩
 obtain ⟨o6,h,yG⟩:=bd h
 refine .cut (λσ η=>∃b5,b5=o6/\σ=[(0,.aC 0 g1000 0 0),(2,.str s1),(3,.int .u8 (c3.toNat:Int)),(23,.bool b5)]/\η=[.row g1000 4 1 107 (λ_=>[.str a0.fS,.int .i64 a0.bM,.own 1 g1001 0 a0.bO.length,.int .i64 a0.dM]),.row g1001 4 a0.bO.length 101 (row af.cells a0.bO)]) ?_ ?_
 refine sE h (λOa h=>?_) (λOa h=>?_)
 exact .t (.t (.t (.t (.t (.t (.t (.t (ct ⟨_,si h,rfl,rfl⟩ (tk [0,1] ⟨.p,.s,.i,.b,⟨⟩⟩ ⟨(ob rfl ⟨.s,.i,.o,.i,⟨⟩⟩),od,⟨⟩⟩)))))))))
 refine .f (.f (sE h (λlH h=>?_) (λlH h=>?_)))
 exact .t (.t (.t (.t (.t (ct ⟨_,si h,rfl,rfl⟩ (tk [0,1] ⟨.p,.s,.i,.b,⟨⟩⟩ ⟨(ob rfl ⟨.s,.i,.o,.i,⟨⟩⟩),od,⟨⟩⟩))))))
 refine .f (.f (sE h (λrC h=>?_) (λrC h=>?_)))
 exact .t (.t (ct ⟨_,si h,rfl,rfl⟩ (tk [0,1] ⟨.p,.s,.i,.b,⟨⟩⟩ ⟨(ob rfl ⟨.s,.i,.o,.i,⟨⟩⟩),od,⟨⟩⟩)))
 exact .f (.f (ct ⟨_,si h,rfl,rfl⟩ (tk [0,1] ⟨.p,.s,.i,.b,⟨⟩⟩ ⟨(ob rfl ⟨.s,.i,.o,.i,⟨⟩⟩),od,⟨⟩⟩)))
 rintro _ _ ⟨b5,rfl,rfl,rfl⟩
 replace h:=yG
 refine sV h (λrF h=>?_) (λrF h=>?_)
 refine ⟨rfl,rfl,rfl,_,rfl,rfl,rfl,rfl,_,_,rfl,ao,?_⟩
 exact aKa
 refine .d (bk h λrE wF h=>(cx (SN wF) (sV h (λtW h=>?_) (λtW h=>?_))))
 refine .d (bk h λyF SA h=>(x9 (gY (g1000:=g1000) (g1001:=g1001) SA) [0,1] ⟨rfl,ov,⟨⟩⟩ (λg18=>.fv []) (λg18=>[.row g1000 4 1 107 (λ_=>[.str yF.fS,.int .i64 yF.bM,.own 1 g18 0 yF.bO.length,.int .i64 yF.dM]),.row g18 4 yF.bO.length 101 (row af.cells yF.bO)]) λg18=>(.d ?_)))
 obtain ⟨o20,h,aEP⟩:=bd h
 refine .cut (λσ η=>∃Ay,Ay=o20/\σ=[(0,.aC 0 g1000 0 0),(71,.bool Ay)]/\η=[.row g1000 4 1 107 (λ_=>[.str yF.fS,.int .i64 yF.bM,.own 1 g18 0 yF.bO.length,.int .i64 yF.dM]),.row g18 4 yF.bO.length 101 (row af.cells yF.bO)]) ?_ ?_
 refine ⟨rfl,rfl,rfl,_,rfl,rfl,rfl,rfl,_,rfl,(sD h (λAk h=>?_) (λAk h=>?_))⟩
 refine .t ⟨rfl,(.t ⟨rfl,(.t ⟨rfl,_,rfl,(.t (.t ⟨rfl,(.t ⟨rfl,(.t ⟨rfl,_,rfl,(.t (bk h λc24 JF h=>?_))⟩)⟩)⟩))⟩)⟩)⟩
 exact ⟨cf JF,c24,cg JF,(.t (.t (ct ⟨_,si h,rfl,rfl⟩ (tk [0,1] ⟨.p,.b,⟨⟩⟩ ⟨(ob rfl ⟨.s,.i,.o,.i,⟨⟩⟩),od,⟨⟩⟩))))⟩
 exact .f (.f (.f (.f (.f (.f (.f (.f (.f (.f (ct ⟨_,si h,rfl,rfl⟩ (tk [0,1] ⟨.p,.b,⟨⟩⟩ ⟨(ob rfl ⟨.s,.i,.o,.i,⟨⟩⟩),od,⟨⟩⟩)))))))))))
 rintro _ _ ⟨Ay,rfl,rfl,rfl⟩
 replace h:=aEP
 refine sV h (λEe h=>?_) (λEe h=>?_)
 refine ⟨rfl,rfl,rfl,_,rfl,rfl,rfl,rfl,_,_,rfl,ao,(bk h λRd akV h=>(x9 (nW (g1000:=g1000) (g1001:=g18) akV) [0,1] ⟨rfl,ov,⟨⟩⟩ (λg29=>.fv []) (λg29=>[.row g1000 4 1 107 (λ_=>[.str Rd.fS,.int .i64 Rd.bM,.own 1 g29 0 Rd.bO.length,.int .i64 Rd.dM]),.row g29 4 Rd.bO.length 101 (row af.cells Rd.bO)]) λg29=>?_))⟩
 obtain rfl:=si h
 exact en [0,1] ⟨g29,rfl,rfl⟩ (.cP ⟨⟩) ⟨(ob rfl ⟨.s,.i,.o,.i,⟨⟩⟩),od,⟨⟩⟩
 refine bk h λv30 akW h=>(x9 (nW (g1000:=g1000) (g1001:=g18) akW) [0,1] ⟨rfl,ov,⟨⟩⟩ (λYW=>.fv []) (λYW=>[.row g1000 4 1 107 (λ_=>[.str v30.fS,.int .i64 v30.bM,.own 1 YW 0 v30.bO.length,.int .i64 v30.dM]),.row YW 4 v30.bO.length 101 (row af.cells v30.bO)]) λYW=>?_)
 obtain rfl:=si h
 exact en [0,1] ⟨YW,rfl,rfl⟩ (.cP ⟨⟩) ⟨(ob rfl ⟨.s,.i,.o,.i,⟨⟩⟩),od,⟨⟩⟩
 refine .d (bk h λMY aEQ h=>(cx (SN aEQ) (sV h (λSD h=>?_) (λSD h=>?_))))
 refine le (ep.partial_correctness a0 (motive:=λGD o56=>r=o56->aQ _ _ [(0,.aC 0 g1000 0 0)] [.row g1000 4 1 107 (λ_=>[.str a0.fS,.int .i64 GD,.own 1 g1001 0 a0.bO.length,.int .i64 a0.dM]),.row g1001 4 a0.bO.length 101 (row af.cells a0.bO)]) ?_ a0.bM r h rfl) (tk [0,1] ⟨.p,⟨⟩⟩ ⟨(ob rfl ⟨.s,.i,.o,.i,⟨⟩⟩),od,⟨⟩⟩)
 intro F38 aER GD o56 h ak3
 subst ak3
 refine aQ.round ?_
 obtain ⟨o44,h,adm⟩:=bd h
 refine .cut (λσ η=>∃YY,∃b40,∃s41,∃b42,∃b43,.inl (YY,b40,s41,b42,b43)=o44/\σ=[(0,.aC 0 g1000 0 0),(95,.aC 0 g1000 0 0),(96,.aC 0 g1000 0 0),(97,.aC 0 g1000 0 0),(98,.str a0.fS),(99,.aC 0 g1000 0 0),(100,.aC 0 g1000 0 0),(101,.aC 0 g1000 0 1),(102,.int .i64 GD),(103,.int .u8 (YY.toNat:Int)),(104,.bool b40),(107,.aC 0 g1000 0 0),(108,.aC 0 g1000 0 0),(109,.aC 0 g1000 0 0),(110,.str a0.fS),(111,.aC 0 g1000 0 0),(112,.aC 0 g1000 0 0),(113,.aC 0 g1000 0 1),(114,.int .i64 GD),(115,.str s41),(116,.bool b42),(117,.bool b43)]/\η=[.row g1000 4 1 107 (λ_=>[.str a0.fS,.int .i64 GD,.own 1 g1001 0 a0.bO.length,.int .i64 a0.dM]),.row g1001 4 a0.bO.length 101 (row af.cells a0.bO)]) ?_ ?_
 refine .d (.float [(0,true),(1,true),(2,true),(3,true),(4,true),(5,true),(6,true),(7,true),(8,true),(9,true),(10,true),(11,true),(12,true),(13,true),(14,true),(15,true),(16,true),(17,true),(18,true),(19,true),(20,true),(21,true),(22,true),(23,true),(24,true),(25,true),(26,true),(27,true),(28,true),(29,true),(30,true),(31,true),(32,false),(33,true),(34,true)] aKR ?_)
 refine ⟨rfl,rfl,rfl,_,rfl,rfl,rfl,rfl,_,rfl,(sD h (λWW h=>?_) (λWW h=>?_))⟩
 refine .t ⟨rfl,(.t ⟨rfl,(.t ⟨rfl,_,rfl,(.t (.t ⟨rfl,(.t ⟨rfl,(.t ⟨rfl,_,rfl,(.t (bk h λc48 YZ h=>?_))⟩)⟩)⟩))⟩)⟩)⟩
 refine ⟨cf YZ,c48,cg YZ,(.t (.t (sN h (λUJ h=>?_) (λUJ h=>?_))))⟩
 refine .t ⟨rfl,(.t ⟨rfl,(.t ⟨rfl,_,rfl,(.t (.t ⟨rfl,(.t ⟨rfl,(.t ⟨rfl,_,rfl,(.t (bk h λs51 az8 h=>?_))⟩)⟩)⟩))⟩)⟩)⟩
 refine ⟨rv az8,s51,rz az8,(.t (bk h λv53 L8 h=>(cx (SN L8) (.t (.t (jj h (λWX h=>?_) (λWX h=>?_)))))))⟩
 exact ct ⟨_,_,_,_,_,si h,rfl,rfl⟩ (tk [0,1] ⟨.p,.p,.p,.p,.s,.p,.p,.p,.i,.i,.b,.p,.p,.p,.s,.p,.p,.p,.i,.s,.b,.b,⟨⟩⟩ ⟨(ob rfl ⟨.s,.i,.o,.i,⟨⟩⟩),od,⟨⟩⟩)
 obtain rfl:=si h
 exact aJO
 refine .f (.f (.f (.f (.f (.f (.f (.f (.f (.f (.f (.f ?_)))))))))))
 obtain rfl:=si h
 exact aJO
 refine .f (.f (.f (.f (.f (.f (.f (.f (.f (.f (.f (.f (.f (.f (.f ?_))))))))))))))
 refine .f (.f (.f (.f (.f (.f (.f (.f ?_)))))))
 obtain rfl:=si h
 exact aJO
 rintro _ _ ⟨YY,b40,s41,b42,b43,rfl,rfl,rfl⟩
 replace h:=adm
 exact ⟨rfl,rfl,rfl,_,rfl,rfl,rfl,rfl,_,_,rfl,ao,(lg (aER _ _ h rfl) (tk [0,1] ⟨.p,⟨⟩⟩ ⟨(ob rfl ⟨.s,.i,.o,.i,⟨⟩⟩),od,⟨⟩⟩))⟩
 refine .d (sE h (λTl h=>?_) (λTl h=>?_))
 refine .d (bk h λs59 Y0 h=>⟨rv Y0,s59,rz Y0,(bk h λv61 aES h=>(cx (lV aES) ?_))⟩)
 obtain ⟨o63,h,az9⟩:=bd h
 refine .cut (λσ η=>.inl ()=o63/\σ=[(0,.aC 0 g1000 0 0),(2,.str s1),(4,.int .i64 v61)]/\η=[.row g1000 4 1 107 (λ_=>[.str a0.fS,.int .i64 a0.bM,.own 1 g1001 0 a0.bO.length,.int .i64 a0.dM]),.row g1001 4 a0.bO.length 101 (row af.cells a0.bO)]) ?_ ?_
 obtain ⟨o66,h,aET⟩:=bd h
 refine .cut (λσ η=>()=o66/\σ=[(0,.aC 0 g1000 0 0),(2,.str s1),(4,.int .i64 v61),(133,.bool (v61==0))]/\η=[.row g1000 4 1 107 (λ_=>[.str a0.fS,.int .i64 a0.bM,.own 1 g1001 0 a0.bO.length,.int .i64 a0.dM]),.row g1001 4 a0.bO.length 101 (row af.cells a0.bO)]) ?_ ?_
 exact ct ⟨si h,rfl,rfl⟩ (tk [0,1] ⟨.p,.s,.i,.b,⟨⟩⟩ ⟨(ob rfl ⟨.s,.i,.o,.i,⟨⟩⟩),od,⟨⟩⟩)
 rintro _ _ ⟨rfl,rfl,rfl⟩
 replace h:=aET
 refine sE h (λTo h=>?_) (λTo h=>?_)
 refine .d ⟨rfl,rfl,rfl,_,_,rfl,ao,?_⟩
 obtain rfl:=si h
 replace h:=az9
 exact aKa
 exact ct ⟨si h,rfl,rfl⟩ (tk [0,1] ⟨.p,.s,.i,⟨⟩⟩ ⟨(ob rfl ⟨.s,.i,.o,.i,⟨⟩⟩),od,⟨⟩⟩)
 rintro _ _ ⟨rfl,rfl,rfl⟩
 replace h:=az9
 refine bk h λs70 aAa h=>⟨qt aAa,s70,qu aAa,(bk h λv72 aEU h=>(x9 (gY (g1000:=g1000) (g1001:=g1001) aEU) [0,1] ⟨rfl,ov,⟨⟩⟩ (λg74=>.fv []) (λg74=>[.row g1000 4 1 107 (λ_=>[.str v72.fS,.int .i64 v72.bM,.own 1 g74 0 v72.bO.length,.int .i64 v72.dM]),.row g74 4 v72.bO.length 101 (row af.cells v72.bO)]) λg74=>?_))⟩
 obtain rfl:=si h
 exact en [0,1] ⟨g74,rfl,rfl⟩ (.cP ⟨⟩) ⟨(ob rfl ⟨.s,.i,.o,.i,⟨⟩⟩),od,⟨⟩⟩
 refine .d (bk h λv75 agE h=>(cx (lV agE) (sD h (λahI h=>?_) (λahI h=>?_))))
 obtain ⟨o79,h,aEV⟩:=bd h
 refine .cut (λσ η=>∃y78,y78=o79/\σ=[(0,.aC 0 g1000 0 0),(2,.str s1),(5,.int .i64 y78)]/\η=[.row g1000 4 1 107 (λ_=>[.str a0.fS,.int .i64 a0.bM,.own 1 g1001 0 a0.bO.length,.int .i64 a0.dM]),.row g1001 4 a0.bO.length 101 (row af.cells a0.bO)]) ?_ ?_
 exact bk h λv82 Tq h=>(cx (lV Tq) (ct ⟨_,si h,rfl,rfl⟩ (tk [0,1] ⟨.p,.s,.i,⟨⟩⟩ ⟨(ob rfl ⟨.s,.i,.o,.i,⟨⟩⟩),od,⟨⟩⟩)))
 rintro _ _ ⟨y78,rfl,rfl,rfl⟩
 replace h:=aEV
 refine bk h λs84 aAb h=>⟨FH aAb,s84,FI aAb,(bk h λv86 aEW h=>(x9 (gY (g1000:=g1000) (g1001:=g1001) aEW) [0,1] ⟨rfl,ov,⟨⟩⟩ (λg88=>.fv []) (λg88=>[.row g1000 4 1 107 (λ_=>[.str v86.fS,.int .i64 v86.bM,.own 1 g88 0 v86.bO.length,.int .i64 v86.dM]),.row g88 4 v86.bO.length 101 (row af.cells v86.bO)]) λg88=>?_))⟩
 obtain rfl:=si h
 exact en [0,1] ⟨g88,rfl,rfl⟩ (.cP ⟨⟩) ⟨(ob rfl ⟨.s,.i,.o,.i,⟨⟩⟩),od,⟨⟩⟩
 obtain ⟨o90,h,aEX⟩:=bd h
 refine .cut (λσ η=>∃b89,b89=o90/\σ=[(0,.aC 0 g1000 0 0),(2,.str s1),(3,.int .u8 (c3.toNat:Int)),(157,.bool b89)]/\η=[.row g1000 4 1 107 (λ_=>[.str a0.fS,.int .i64 a0.bM,.own 1 g1001 0 a0.bO.length,.int .i64 a0.dM]),.row g1001 4 a0.bO.length 101 (row af.cells a0.bO)]) ?_ ?_
 exact bk h λv93 aio h=>(cx (sW aio) (ct ⟨_,si h,rfl,rfl⟩ (tk [0,1] ⟨.p,.s,.i,.b,⟨⟩⟩ ⟨(ob rfl ⟨.s,.i,.o,.i,⟨⟩⟩),od,⟨⟩⟩)))
 rintro _ _ ⟨b89,rfl,rfl,rfl⟩
 replace h:=aEX
 refine sV h (λTs h=>?_) (λTs h=>?_)
 refine .d ?_
 obtain ⟨o97,h,ahK⟩:=bd h
 refine .cut (λσ η=>∃y96,y96=o97/\σ=[(0,.aC 0 g1000 0 0),(2,.str s1),(6,.int .i64 y96)]/\η=[.row g1000 4 1 107 (λ_=>[.str a0.fS,.int .i64 a0.bM,.own 1 g1001 0 a0.bO.length,.int .i64 a0.dM]),.row g1001 4 a0.bO.length 101 (row af.cells a0.bO)]) ?_ ?_
 refine le (gD.partial_correctness s1 (motive:=λJE aAc=>o97=aAc->aQ _ _ [(0,.aC 0 g1000 0 0),(2,.str s1),(6,.int .i64 JE)] [.row g1000 4 1 107 (λ_=>[.str a0.fS,.int .i64 a0.bM,.own 1 g1001 0 a0.bO.length,.int .i64 a0.dM]),.row g1001 4 a0.bO.length 101 (row af.cells a0.bO)]) ?_ 0 o97 h rfl) (tk [0,1] ⟨.p,.s,.i,⟨⟩⟩ ⟨(ob rfl ⟨.s,.i,.o,.i,⟨⟩⟩),od,⟨⟩⟩)
 intro aHy aAd JE aAc h aAe
 subst aAe
 refine aQ.round (.d (.d (sD h (λHF h=>?_) (λHF h=>?_))))
 refine .t (.t (bk h λakZ af1 h=>⟨cf af1,akZ,cg af1,(.t (bk h λIc I3 h=>(cx (sW I3) (.t (sV h (λaAf h=>?_) (λaAf h=>?_))))))⟩))
 exact lg (aAd _ _ h rfl) (tk [0,1] ⟨.p,.s,.i,⟨⟩⟩ ⟨(ob rfl ⟨.s,.i,.o,.i,⟨⟩⟩),od,⟨⟩⟩)
 exact aKw
 exact .f (.f (.f (.f (.f (ct ⟨_,si h,rfl,rfl⟩ (tk [0,1] ⟨.p,.s,.i,⟨⟩⟩ ⟨(ob rfl ⟨.s,.i,.o,.i,⟨⟩⟩),od,⟨⟩⟩))))))
 rintro _ _ ⟨y96,rfl,rfl,rfl⟩
 replace h:=ahK
 refine .d (bk h λak0 af2 h=>⟨FH af2,ak0,FI af2,?_⟩)
 obtain ⟨⟨ak1,Ie⟩,aAg,h⟩:=bd h
 refine cx (aEO aAg) ?_
 obtain ⟨ak2,h,af3⟩:=bd h
 refine .cut (λσ η=>.inl ()=ak2/\σ=[(0,.aC 0 g1000 0 0),(6,.int .i64 y96),(7,.int .i64 ak1)]/\η=[.row g1000 4 1 107 (λ_=>[.str a0.fS,.int .i64 a0.bM,.own 1 g1001 0 a0.bO.length,.int .i64 a0.dM]),.row g1001 4 a0.bO.length 101 (row af.cells a0.bO)]) ?_ ?_
 refine .d (jj h (λTw h=>?_) (λTw h=>?_))
 refine .d ⟨rfl,rfl,rfl,_,_,rfl,ao,?_⟩
 obtain rfl:=si h
 replace h:=af3
 exact aKa
 exact ct ⟨si h,rfl,rfl⟩ (tk [0,1] ⟨.p,.i,.i,⟨⟩⟩ ⟨(ob rfl ⟨.s,.i,.o,.i,⟨⟩⟩),od,⟨⟩⟩)
 rintro _ _ ⟨rfl,rfl,rfl⟩
 replace h:=af3
 refine bk h λAq W1 h=>(x9 (gY (g1000:=g1000) (g1001:=g1001) W1) [0,1] ⟨rfl,ov,⟨⟩⟩ (λY1=>.fv []) (λY1=>[.row g1000 4 1 107 (λ_=>[.str Aq.fS,.int .i64 Aq.bM,.own 1 Y1 0 Aq.bO.length,.int .i64 Aq.dM]),.row Y1 4 Aq.bO.length 101 (row af.cells Aq.bO)]) λY1=>?_)
 obtain rfl:=si h
 exact en [0,1] ⟨Y1,rfl,rfl⟩ (.cP ⟨⟩) ⟨(ob rfl ⟨.s,.i,.o,.i,⟨⟩⟩),od,⟨⟩⟩
 refine .d (sE h (λaAh h=>?_) (λaAh h=>?_))
 refine bk h λv124 W2 h=>(x9 (Cm (g1000:=g1000) (g1001:=g1001) W2) [0,1] ⟨rfl,ov,⟨⟩⟩ (λY2=>.fv []) (λY2=>[.row g1000 4 1 107 (λ_=>[.str v124.fS,.int .i64 v124.bM,.own 1 Y2 0 v124.bO.length,.int .i64 v124.dM]),.row Y2 4 v124.bO.length 101 (row af.cells v124.bO)]) λY2=>?_)
 obtain rfl:=si h
 exact en [0,1] ⟨Y2,rfl,rfl⟩ (.cP ⟨⟩) ⟨(ob rfl ⟨.s,.i,.o,.i,⟨⟩⟩),od,⟨⟩⟩
 refine bk h λv127 YK h=>(x9 (Cn (g1000:=g1000) (g1001:=g1001) YK) [0,1] ⟨rfl,ov,⟨⟩⟩ (λY3=>.fv []) (λY3=>[.row g1000 4 1 107 (λ_=>[.str v127.fS,.int .i64 v127.bM,.own 1 Y3 0 v127.bO.length,.int .i64 v127.dM]),.row Y3 4 v127.bO.length 101 (row af.cells v127.bO)]) λY3=>?_)
 obtain rfl:=si h
 exact en [0,1] ⟨Y3,rfl,rfl⟩ (.cP ⟨⟩) ⟨(ob rfl ⟨.s,.i,.o,.i,⟨⟩⟩),od,⟨⟩⟩
def fV (a0:aB) (s21:aB) (uh:Int) (y23:Int) (Y4:List af):Option (aB×Int×Int×(List af)):=
 ((
 (if y23=0 then
 (if uh<(a0.length:Int) then
 some (.inl ())
 else
 some (.inr (s21,uh,y23,Y4)))
 else
 some (.inr (s21,uh,y23,Y4)))
 :Option ((Unit) ⊕ (aB×Int×Int×(List af))))>>=λSe=>match Se with
 | .inr r=>some r
 | .inl _=>
 dr (bG.mk s21 uh Y4 y23)>>=λY5=>
 fV a0 Y5.fS Y5.bM Y5.dM Y5.bO
 )
partial_fixpoint
def xX (a0:aB):Option ((List af)×Int×Int):=
 (
 some ()
 :Option (Unit))>>=λ_=>
 ((
 (if (a0.length:Int)>4000 then
 some (.inr ([],1,0))
 else
 some (.inl ()))
 :Option ((Unit) ⊕ ((List af)×Int×Int)))>>=λo4=>match o4 with
 | .inr r=>some r
 | .inl _=>
 (
 some ()
 :Option (Unit))>>=λ_=>
 cR (bG.mk a0 0 ([]:List af) 0)>>=λv11=>
 (
 fV a0 v11.fS v11.bM v11.dM v11.bO
 :Option (aB×Int×Int×(List af)))>>=λ(s14,y15,EZ,l17)=>
 (if EZ=0 then
 some (l17,0,0)
 else
 some ([],EZ,y15))
 )
theorem XF {a0:aB} {r:(List af)×Int×Int} (h:xX a0=some r):ACall Tryz.prog 53 [.str a0] [] (λres h=>res=.fv [sl 4 af.cells r.1,.int .i64 r.2.1,.int .i64 r.2.2]/\h=[]):=by
 refine eT Tryz.func53 ?_
 unfold xX at h
 obtain ⟨o1,h,gd⟩:=bd h
 refine .cut (λσ η=>()=o1/\σ=[(0,.str a0)]/\η=[]) ?_ ?_
 exact ct ⟨si h,rfl,rfl⟩ (tk [] ⟨.s,⟨⟩⟩ ⟨⟩)
 rintro _ _ ⟨rfl,rfl,rfl⟩
 replace h:=gd
 obtain ⟨o4,h,hk6⟩:=bd h
 refine .cut (λσ η=>.inl ()=o4/\σ=[(0,.str a0)]/\η=[]) ?_ ?_
 refine .d (sD h (λzL h=>?_) (λzL h=>?_))
 refine .d ?_
 obtain rfl:=si h
 replace h:=hk6
 obtain rfl:=si h
 exact en [] ⟨rfl,rfl⟩ (.cP ⟨.z,.i,.i,⟨⟩⟩) ⟨⟩
 exact ct ⟨si h,rfl,rfl⟩ (tk [] ⟨.s,⟨⟩⟩ ⟨⟩)
 rintro _ _ ⟨rfl,rfl,rfl⟩
 replace h:=hk6
 obtain ⟨o8,h,abh⟩:=bd h
 refine .cut (λσ η=>()=o8/\σ=[(0,.str a0),(5,.aC 0 0 0 0)]/\η=[.row 0 4 1 107 (λ_=>[.str a0,.int .i64 0,.own 1 0 0 ([]:List af).length,.int .i64 0]),.row 0 4 ([]:List af).length 101 (row af.cells ([]:List af))]) ?_ ?_
 exact ⟨rfl,_,_,rfl,ao,(ct ⟨si h,rfl,rfl⟩ (tk [0,2] ⟨.s,.p,⟨⟩⟩ ⟨(nb rfl ⟨.s,.i,.g,.i,⟨⟩⟩),gh,⟨⟩⟩))⟩
 rintro _ _ ⟨rfl,rfl,rfl⟩
 replace h:=abh
 refine .d (bk h λv11 GN h=>(x9 (nW (g1000:=0) (g1001:=0) GN) [0,1] ⟨rfl,ov,⟨⟩⟩ (λg13=>.fv []) (λg13=>[.row 0 4 1 107 (λ_=>[.str v11.fS,.int .i64 v11.bM,.own 1 g13 0 v11.bO.length,.int .i64 v11.dM]),.row g13 4 v11.bO.length 101 (row af.cells v11.bO)]) λg13=>?_))
 obtain ⟨N8,h,HX⟩:=bd h
 refine .cut (λσ η=>∃s14,∃y15,∃EZ,∃l17,(s14,y15,EZ,l17)=N8/\σ=[(5,.aC 0 0 0 0)]/\η=[.row 0 4 1 107 (λ_=>[.str s14,.int .i64 y15,.own 1 0 0 l17.length,.int .i64 EZ]),.row 0 4 l17.length 101 (row af.cells l17)]) ?_ ?_
 refine le (fV.partial_correctness a0 (motive:=λs21 uh y23 Y4 o35=>N8=o35->aQ _ _ [(0,.str a0),(5,.aC 0 0 0 0)] [.row 0 4 1 107 (λ_=>[.str s21,.int .i64 uh,.own 1 0 0 Y4.length,.int .i64 y23]),.row 0 4 Y4.length 101 (row af.cells Y4)]) ?_ v11.fS v11.bM v11.dM v11.bO N8 h rfl) (tk [0,1] ⟨.s,.p,⟨⟩⟩ ⟨(nb rfl ⟨.s,.i,.o,.i,⟨⟩⟩),nw,⟨⟩⟩)
 intro F26 ag9 s21 uh y23 Y4 o35 h aEY
 subst aEY
 refine aQ.round ?_
 obtain ⟨Se,h,M3⟩:=bd h
 refine .cut (λσ η=>.inl ()=Se/\σ=[(0,.str a0),(5,.aC 0 0 0 0),(16,.aC 0 0 0 1),(17,.int .i64 uh),(18,.str a0),(19,.int .i64 (a0.length:Int)),(20,.bool (decide (uh<(a0.length:Int))))]/\η=[.row 0 4 1 107 (λ_=>[.str s21,.int .i64 uh,.own 1 0 0 Y4.length,.int .i64 y23]),.row 0 4 Y4.length 101 (row af.cells Y4)]) ?_ ?_
 refine .d ⟨rfl,rfl,_,rfl,(sE h (λSB h=>?_) (λSB h=>?_))⟩
 refine ⟨rfl,(.t ⟨rfl,_,rfl,(.t (.t (.t (.t (sD h (λags h=>?_) (λags h=>?_))))))⟩)⟩
 exact ct ⟨si h,rfl,rfl⟩ (tk [0,1] ⟨.s,.p,.p,.i,.s,.i,.b,⟨⟩⟩ ⟨(nb rfl ⟨.s,.i,.o,.i,⟨⟩⟩),nw,⟨⟩⟩)
 obtain rfl:=si h
 replace h:=M3
 exact ct ⟨_,_,_,_,si h,rfl,rfl⟩ (tk [0,1] ⟨.p,⟨⟩⟩ ⟨(nb rfl ⟨.s,.i,.o,.i,⟨⟩⟩),nw,⟨⟩⟩)
 refine .f (.f (.f (.f (.f (.f ?_)))))
 obtain rfl:=si h
 replace h:=M3
 exact ct ⟨_,_,_,_,si h,rfl,rfl⟩ (tk [0,1] ⟨.p,⟨⟩⟩ ⟨(nb rfl ⟨.s,.i,.o,.i,⟨⟩⟩),nw,⟨⟩⟩)
 rintro _ _ ⟨rfl,rfl,rfl⟩
 replace h:=M3
 exact bk h λY5 aEZ h=>(x9 (AJ (g1000:=0) (g1001:=0) aEZ) [0,1] ⟨rfl,ov,⟨⟩⟩ (λg34=>.fv []) (λg34=>[.row 0 4 1 107 (λ_=>[.str Y5.fS,.int .i64 Y5.bM,.own 1 g34 0 Y5.bO.length,.int .i64 Y5.dM]),.row g34 4 Y5.bO.length 101 (row af.cells Y5.bO)]) λg34=>(lg (ag9 _ _ _ _ _ h rfl) (tk [0,1] ⟨.s,.p,⟨⟩⟩ ⟨(nb rfl ⟨.s,.i,.o,.i,⟨⟩⟩),nw,⟨⟩⟩)))
 rintro _ _ ⟨s14,y15,EZ,l17,rfl,rfl,rfl⟩
 replace h:=HX
 refine .d (.d ⟨rfl,rfl,_,rfl,(sN h (λLe h=>?_) (λLe h=>?_))⟩)
 refine .d ⟨rfl,rfl,_,rfl,rfl,rfl,_,rfl,?_⟩
 obtain rfl:=si h
 exact en [] ⟨rfl,rfl⟩ (.cP ⟨.z,.i,.i,⟨⟩⟩) ⟨⟩
 refine .d ⟨rfl,rfl,_,rfl,?_⟩
 obtain rfl:=si h
 exact en [] ⟨rfl,rfl⟩ (.cP ⟨.r,.i,.i,⟨⟩⟩) ⟨⟩
set_option synthInstance.maxHeartbeats 400000
set_option synthInstance.maxSize 4000
set_option maxRecDepth 100000
def mq (a0:aB) (y4:Int):Option ((Unit) ⊕ Int):=
 (if y4<=15 then
 pC y4>>=λv8=>
 (if v8=a0 then
 some (.inr y4)
 else
 mq a0 (bq (y4+1)))
 else
 some (.inl ()))
partial_fixpoint
def lN (a0:aB):Option (Int):=
 ((
 mq a0 1
 :Option ((Unit) ⊕ Int))>>=λo1=>match o1 with
 | .inr r=>some r
 | .inl _=>
 some 0
 )
theorem QT {a0:aB} {r:Int} (h:lN a0=some r):ak4 245 a0 r:=by
 refine eT Tryz.func245 ?_
 unfold lN at h
 refine .d ?_
 obtain ⟨o1,h,gd⟩:=bd h
 refine .cut (λσ η=>.inl ()=o1/\σ=[]/\η=[]) ?_ ?_
 refine .d ?_
 refine le (mq.partial_correctness a0 (motive:=λy4 o11=>o1=o11->aQ _ _ [(0,.str a0),(3,.int .i64 y4)] []) ?_ 1 o1 h rfl) (tk [] ⟨.s,.i,⟨⟩⟩ ⟨⟩)
 intro F6 Sr y4 o11 h Y6
 subst Y6
 refine aQ.round (.d (.d (sD h (λzL h=>?_) (λzL h=>?_))))
 refine .d (.d (bk h λv8 hv9 h=>(cx (DH hv9) (sE h (λlH h=>?_) (λlH h=>?_)))))
 refine .d ?_
 obtain rfl:=si h
 replace h:=gd
 exact eI h
 exact aKI
 exact aKn
 rintro _ _ ⟨rfl,rfl,rfl⟩
 replace h:=gd
 exact aKv
def dB (a0:ai) (a1:Int):Option (af×ai):=
 (if (bq (a0.bM+a1))<(a0.ar.length:Int) then
 idx a0.ar (bq (a0.bM+a1))>>=λx2=>
 some (x2,a0)
 else
 some ((af.mk 0 0 [] 0),a0))
theorem iG {a0:ai} {a1:Int} {r:af×ai} {g1000:Nat} (h:dB a0 a1=some r):ACall Tryz.prog 121 [.aC 0 g1000 0 0,.int .i64 a1] [.row g1000 4 1 67 (λ_=>a0.lit)] (λres h=>res=.agg r.1.lit/\h=[.row g1000 4 1 67 (λ_=>r.2.lit)]):=by
 refine eT Tryz.func121 ?_
 unfold dB at h
 refine .d (.d (.d ⟨rfl,rfl,rfl,_,rfl,rfl,rfl,rfl,_,rfl,(sD h (λlA h=>?_) (λlA h=>?_))⟩))
 refine .d (.float [(0,true),(1,true),(2,true),(3,true),(4,true),(5,true),(6,true),(7,true),(8,true),(9,true),(10,true),(11,true),(12,false)] aKR ?_)
 refine ⟨rfl,rfl,rfl,_,rfl,rfl,rfl,rfl,_,rfl,(bk h λx2 hx3 h=>⟨bn hx3,_,(ba hx3).trans (af.aO x2),rfl,_,_,rfl,ao,?_⟩)⟩
 obtain rfl:=si h
 exact ⟨rfl,_,rfl,(en [0] ⟨rfl,rfl⟩ (.aI ⟨.i,.i,.s,.i,⟨⟩⟩) ⟨(ob rfl ⟨.l,.i,.i,.b,⟨⟩⟩),⟨⟩⟩)⟩
 refine .d ⟨rfl,_,_,rfl,ao,?_⟩
 obtain rfl:=si h
 exact ⟨rfl,_,rfl,(en [0] ⟨rfl,rfl⟩ (.aI ⟨.i,.i,.s,.i,⟨⟩⟩) ⟨(ob rfl ⟨.l,.i,.i,.b,⟨⟩⟩),⟨⟩⟩)⟩
def aW (a0:ai) (a1:Int) (a2:aB):Option (Bool×ai):=
 dB a0 a1>>=λ(v1,v2)=>
 (if v1.aj=6 then
 some ((v1.aq==a2),v2)
 else
 (if v1.aj=3 then
 some ((v1.aq==a2),v2)
 else
 some (false,v2)))
theorem cC {a0:ai} {a1:Int} {a2:aB} {r:Bool×ai} {g1000:Nat} (h:aW a0 a1 a2=some r):ACall Tryz.prog 111 [.aC 0 g1000 0 0,.int .i64 a1,.str a2] [.row g1000 4 1 67 (λ_=>a0.lit)] (λres h=>res=.bool r.1/\h=[.row g1000 4 1 67 (λ_=>r.2.lit)]):=by
 refine eT Tryz.func111 ?_
 unfold aW at h
 refine .d (.d ?_)
 obtain ⟨⟨v1,v2⟩,uC,h⟩:=bd h
 refine cb (iG (g1000:=g1000) uC) [0] ?_
 refine ⟨rfl,_,_,rfl,ao,(.d ⟨rfl,rfl,_,rfl,(sE h (λwh h=>?_) (λwh h=>?_))⟩)⟩
 refine .t (.t (.t (.t ⟨rfl,(.t ⟨rfl,_,rfl,(.t (.t (.t ?_)))⟩)⟩)))
 exact aKb
 refine ⟨rfl,(.f ⟨rfl,_,rfl,(.f (.f (sE h (λEu h=>?_) (λEu h=>?_))))⟩)⟩
 refine ⟨rfl,(.t ⟨rfl,_,rfl,(.t (.t (.t ?_)))⟩)⟩
 exact aKb
 refine .f (.f (.f (.f ?_)))
 exact aKb
def av (a0:ai) (a1:aB):Option (Bool×ai):=
 (if a0.ay=true then
 some (false,a0)
 else
 aW a0 0 a1>>=λ(v2,v3)=>
 (if v2=true then
 some (true,(ai.mk v3.ar (bq (v3.bM+1)) v3.az v3.ay))
 else
 some (false,v3)))
theorem aD {a0:ai} {a1:aB} {r:Bool×ai} {g1000:Nat} (h:av a0 a1=some r):ACall Tryz.prog 58 [.aC 0 g1000 0 0,.str a1] [.row g1000 4 1 67 (λ_=>a0.lit)] (λres h=>res=.bool r.1/\h=[.row g1000 4 1 67 (λ_=>r.2.lit)]):=by
 refine eT Tryz.func58 ?_
 unfold av at h
 refine .d (.d (.d ⟨rfl,rfl,rfl,_,rfl,(sV h (λlA h=>?_) (λlA h=>?_))⟩))
 refine .t (.t (.t (.t (.t (.d ?_)))))
 exact aKb
 refine .f (.f ?_)
 obtain ⟨⟨v2,v3⟩,Sy,h⟩:=bd h
 refine cb (cC (g1000:=g1000) Sy) [0] ?_
 refine .f (.f (jj h (λEu h=>?_) (λEu h=>?_)))
 refine .d ?_
 exact aKb
 refine .d ⟨rfl,rfl,rfl,_,rfl,rfl,rfl,rfl,_,_,rfl,ao,(.d ?_)⟩
 exact aKb
def aK (a0:ai) (a1:aB):Option (ai):=
 av a0 a1>>=λ(v1,v2)=>
 (if v1=true then
 some v2
 else
 some (ai.mk v2.ar v2.bM v2.az true))
theorem bf {a0:ai} {a1:aB} {r:ai} {g1000:Nat} (h:aK a0 a1=some r):ACall Tryz.prog 177 [.aC 0 g1000 0 0,.str a1] [.row g1000 4 1 67 (λ_=>a0.lit)] (λres h=>res=.fv []/\h=[.row g1000 4 1 67 (λ_=>r.lit)]):=by
 refine eT Tryz.func177 ?_
 unfold aK at h
 refine .d ?_
 obtain ⟨⟨v1,v2⟩,uC,h⟩:=bd h
 refine cb (aD (g1000:=g1000) uC) [0] ?_
 refine jj h (λwh h=>?_) (λwh h=>?_)
 refine ⟨rfl,rfl,rfl,_,_,rfl,ao,?_⟩
 obtain rfl:=si h
 exact en [0] ⟨rfl,rfl⟩ (.cP ⟨⟩) ⟨(ob rfl ⟨.l,.i,.i,.b,⟨⟩⟩),⟨⟩⟩
 obtain rfl:=si h
 exact en [0] ⟨rfl,rfl⟩ (.cP ⟨⟩) ⟨(ob rfl ⟨.l,.i,.i,.b,⟨⟩⟩),⟨⟩⟩
def bT (a0:ai) (a1:Int):Option (aB×ai):=
 dB a0 0>>=λ(v1,v2)=>
 (if v2.ay=true then
 some ([],(ai.mk v2.ar v2.bM v2.az true))
 else
 (if v1.aj=a1 then
 (if a1=3 then
 bK v1.aq>>=λv7=>
 (if v7=true then
 some (v1.aq,(ai.mk v2.ar (bq (v2.bM+1)) v2.az v2.ay))
 else
 some ([],(ai.mk v2.ar v2.bM v2.az true)))
 else
 (if a1=2 then
 bK v1.aq>>=λv11=>
 (if v11=true then
 some (v1.aq,(ai.mk v2.ar (bq (v2.bM+1)) v2.az v2.ay))
 else
 some ([],(ai.mk v2.ar v2.bM v2.az true)))
 else
 some (v1.aq,(ai.mk v2.ar (bq (v2.bM+1)) v2.az v2.ay))))
 else
 some ([],(ai.mk v2.ar v2.bM v2.az true))))
theorem fC {a0:ai} {a1:Int} {r:aB×ai} {g1000:Nat} (h:bT a0 a1=some r):ACall Tryz.prog 122 [.aC 0 g1000 0 0,.int .i64 a1] [.row g1000 4 1 67 (λ_=>a0.lit)] (λres h=>res=.str r.1/\h=[.row g1000 4 1 67 (λ_=>r.2.lit)]):=by
 refine eT Tryz.func122 ?_
 unfold bT at h
 refine .d (.d ?_)
 obtain ⟨⟨v1,v2⟩,uC,h⟩:=bd h
 refine cb (iG (g1000:=g1000) uC) [0] ?_
 refine ⟨rfl,_,_,rfl,ao,(.d (.d ⟨rfl,rfl,rfl,_,rfl,(sV h (λwh h=>?_) (λwh h=>?_))⟩))⟩
 refine .t (.t (.t (.t (.t (.t (.t (.t (.t (.t (.t (.t (.d ⟨rfl,rfl,?_⟩))))))))))))
 refine ⟨rfl,_,_,rfl,ao,(.d ?_)⟩
 exact aJW
 refine ⟨rfl,(.f ⟨rfl,_,rfl,(.f (.f (.f (sN h (λEu h=>?_) (λEu h=>?_)))))⟩)⟩
 refine .t (.t (.t (.t (.t (.t (.t (.d ⟨rfl,rfl,rfl,_,_,rfl,ao,(.d ?_)⟩)))))))
 exact aJW
 refine .f (.f (sE h (λEv h=>?_) (λEv h=>?_)))
 refine .t (.f (.t (.f (.t ⟨rfl,(.t ⟨rfl,_,rfl,(.t (bk h λv7 hv8 h=>(cx (da hv8) (.t (.f (.t (.f ?_)))))))⟩)⟩))))
 refine jj h (λOa h=>?_) (λOa h=>?_)
 refine .d ⟨rfl,rfl,rfl,_,_,rfl,ao,(.d ?_)⟩
 exact aJW
 refine .d ⟨rfl,rfl,rfl,_,rfl,rfl,rfl,rfl,_,_,rfl,ao,(.d ⟨rfl,rfl,_,rfl,?_⟩)⟩
 exact aJW
 refine .f (.f (.f (.f (sE h (λlH h=>?_) (λlH h=>?_)))))
 refine ⟨rfl,(.t ⟨rfl,_,rfl,(.t (bk h λv11 GN h=>(cx (da GN) (.t (.f (.t (.f (jj h (λtU h=>?_) (λtU h=>?_)))))))))⟩)⟩
 refine .d ⟨rfl,rfl,rfl,_,_,rfl,ao,(.d ?_)⟩
 exact aJW
 refine .d ⟨rfl,rfl,rfl,_,rfl,rfl,rfl,rfl,_,_,rfl,ao,(.d ⟨rfl,rfl,_,rfl,?_⟩)⟩
 exact aJW
 refine .f (.f (.f (.f (.f (.f (.f (.d ⟨rfl,rfl,rfl,_,rfl,rfl,rfl,rfl,_,_,rfl,ao,(.d ?_)⟩)))))))
 refine ⟨rfl,rfl,_,rfl,?_⟩
 exact aJW
def cy (a0:ai):Option (aB×ai):=
 av a0 [115,116,97,116,105,99]>>=λ(v1,v2)=>
 (if v1=true then
 some ([115,116,97,116,105,99],v2)
 else
 bT v2 3>>=λ(v5,v6)=>
 some (v5,v6))
theorem oF {a0:ai} {r:aB×ai} {g1000:Nat} (h:cy a0=some r):ACall Tryz.prog 234 [.aC 0 g1000 0 0] [.row g1000 4 1 67 (λ_=>a0.lit)] (λres h=>res=.str r.1/\h=[.row g1000 4 1 67 (λ_=>r.2.lit)]):=by
 refine eT Tryz.func234 ?_
 unfold cy at h
 refine .d (.d (.d ?_))
 obtain ⟨⟨v1,v2⟩,uC,h⟩:=bd h
 refine cb (aD (g1000:=g1000) uC) [0] ?_
 refine sV h (λwh h=>?_) (λwh h=>?_)
 refine .d ?_
 exact aJW
 refine .d ?_
 obtain ⟨⟨v5,v6⟩,hv7,h⟩:=bd h
 refine cb (fC (g1000:=g1000) hv7) [0] ?_
 exact aJW
def cm (a0:ai):Option (ae×ai):=
 bT a0 2>>=λ(v1,v2)=>
 some ((ae.mk 4 0 v1 []),v2)
theorem ft {a0:ai} {r:ae×ai} {g1000:Nat} (h:cm a0=some r):Hj 113 a0 r g1000:=by
 refine eT Tryz.func113 ?_
 unfold cm at h
 refine .d (.d ?_)
 obtain ⟨⟨v1,v2⟩,uC,h⟩:=bd h
 refine cb (fC (g1000:=g1000) uC) [0] ?_
 refine ⟨rfl,_,_,rfl,ao,?_⟩
 obtain rfl:=si h
 exact ⟨rfl,_,rfl,(en [0,3] ⟨_,(DR.nil (D:=ae.D)),rfl,rfl⟩ (.aI ⟨.i,.i,.s,.g,⟨⟩⟩) ⟨(ob rfl ⟨.l,.i,.i,.b,⟨⟩⟩),gh,⟨⟩⟩)⟩
def eo (a0:ai):Option (ae×ai):=
 dB a0 0>>=λ(v1,v2)=>
 (if v1.aj=4 then
 some ((ae.mk 1 v1.aP [] []),(ai.mk v2.ar (bq (v2.bM+1)) v2.az v2.ay))
 else
 (if v1.aj=5 then
 some ((ae.mk 2 0 v1.aq []),(ai.mk v2.ar (bq (v2.bM+1)) v2.az v2.ay))
 else
 av v2 [110,117,108,108]>>=λ(v6,v7)=>
 (if v6=true then
 some ((ae.mk 3 0 [] []),v7)
 else
 av v7 [102,97,108,115,101]>>=λ(v10,v11)=>
 (if v10=true then
 some ((ae.mk 3 1 [] []),v11)
 else
 av v11 [116,114,117,101]>>=λ(v14,Bk)=>
 (if v14=true then
 some ((ae.mk 3 2 [] []),Bk)
 else
 some ((ae.mk 0 0 [] []),(ai.mk Bk.ar Bk.bM Bk.az true)))))))
theorem w7 {a0:ai} {r:ae×ai} {g1000:Nat} (h:eo a0=some r):Hj 211 a0 r g1000:=by
 refine eT Tryz.func211 ?_
 unfold eo at h
 refine .d (.d ?_)
 obtain ⟨⟨v1,v2⟩,uC,h⟩:=bd h
 refine cb (iG (g1000:=g1000) uC) [0] ?_
 refine ⟨rfl,_,_,rfl,ao,(.d (.d ⟨rfl,rfl,_,rfl,(sE h (λwh h=>?_) (λwh h=>?_))⟩))⟩
 refine .d ⟨rfl,rfl,rfl,_,rfl,rfl,rfl,rfl,_,_,rfl,ao,(.d ⟨rfl,rfl,_,rfl,rfl,_,_,rfl,ao,?_⟩)⟩
 exact aJU
 refine .d ⟨rfl,rfl,_,rfl,(sE h (λEu h=>?_) (λEu h=>?_))⟩
 refine .d ⟨rfl,rfl,rfl,_,rfl,rfl,rfl,rfl,_,_,rfl,ao,(.d ⟨rfl,rfl,_,rfl,rfl,_,_,rfl,ao,?_⟩)⟩
 exact aJU
 refine .d ?_
 obtain ⟨⟨v6,v7⟩,hv8,h⟩:=bd h
 refine cb (aD (g1000:=g1000) hv8) [0] ?_
 refine sV h (λOa h=>?_) (λOa h=>?_)
 refine .d ⟨rfl,_,_,rfl,ao,?_⟩
 exact aJU
 refine .d ?_
 obtain ⟨⟨v10,v11⟩,GN,h⟩:=bd h
 refine cb (aD (g1000:=g1000) GN) [0] ?_
 refine sV h (λtU h=>?_) (λtU h=>?_)
 refine .d ⟨rfl,_,_,rfl,ao,?_⟩
 exact aJU
 refine .d ?_
 obtain ⟨⟨v14,Bk⟩,FN,h⟩:=bd h
 refine cb (aD (g1000:=g1000) FN) [0] ?_
 refine sV h (λtX h=>?_) (λtX h=>?_)
 refine .d ⟨rfl,_,_,rfl,ao,?_⟩
 exact aJU
 refine .d ⟨rfl,rfl,rfl,_,_,rfl,ao,(.d ⟨rfl,_,_,rfl,ao,?_⟩)⟩
 exact aJU
def bY (a1:Int) (pt:List af) (wu:Int) (qp:Int) (b22:Bool) (sx:List ae):Option (((List af)×Int×Int×Bool×(List ae)) ⊕ ((List ae)×ai)):=
 (if b22=true then
 some (.inl (pt,wu,qp,b22,sx))
 else
 (
 av (ai.mk pt wu qp b22) [38]>>=λ(v37,yY)=>
 (if v37=true then
 some (yY.ar,yY.bM,yY.az,yY.ay,1)
 else
 some (yY.ar,yY.bM,yY.az,yY.ay,0))
 :Option ((List af)×Int×Int×Bool×Int))>>=λ(A3,Pp,y31,b32,y33)=>
 bT (ai.mk A3 Pp y31 b32) 2>>=λ(v41,v42)=>
 db 56 sx [(ae.mk a1 y33 v41 ([]:List ae))]>>=λM1=>
 av v42 [41]>>=λ(v46,wE)=>
 (if v46=true then
 some (.inr (M1,wE))
 else
 aK wE [44]>>=λqn=>
 bY a1 qn.ar qn.bM qn.az qn.ay M1))
partial_fixpoint
def fq (a0:ai) (a1:Int):Option ((List ae)×ai):=
 aK a0 [40]>>=λv1=>
 av v1 [41]>>=λ(v3,v4)=>
 (if v3=true then
 some (([]:List ae),v4)
 else
 ((
 bY a1 v4.ar v4.bM v4.az v4.ay ([]:List ae)
 :Option (((List af)×Int×Int×Bool×(List ae)) ⊕ ((List ae)×ai)))>>=λDE=>match DE with
 | .inr r=>some r
 | .inl (l8,y9,Dy,b11,D1)=>
 some (D1,(ai.mk l8 y9 Dy b11))
 ))
theorem oH {a0:ai} {a1:Int} {r:(List ae)×ai} {g1000:Nat} (h:fq a0 a1=some r):ACall Tryz.prog 185 [.aC 0 g1000 0 0,.int .i64 a1] [.row g1000 4 1 67 (λ_=>a0.lit)] (λres h=>∃F1:Nat->List PV,DR ae.D r.1.length F1 r.1/\res=.own 1 0 0 r.1.length/\h=[.row g1000 4 1 67 (λ_=>r.2.lit),.row 0 4 r.1.length 29 F1]):=by
 refine eT Tryz.func185 ?_
 unfold fq at h
 refine .d (.d ⟨(kg []),(λi h=>absurd h (aIs i)),(.d (bk h λv1 rA h=>(cb (bf (g1000:=g1000) rA) [0] ?_)))⟩)
 refine .d (.d ?_)
 obtain ⟨⟨v3,v4⟩,Hw,h⟩:=bd h
 refine cb (aD (g1000:=g1000) Hw) [0] ?_
 refine sV h (λEv h=>?_) (λEv h=>?_)
 refine .d ?_
 obtain rfl:=si h
 have d7:DR ae.D 0 (kg []) ([]:List ae):=DR.dL
 exact en [0,1] ⟨_,d7.self,rfl,rfl⟩ (.oe) ⟨(ob rfl ⟨.l,.i,.i,.b,⟨⟩⟩),(bu d7 d7.len d7.len),⟨⟩⟩
 obtain ⟨DE,h,MK⟩:=bd h
 refine .cut (λσ η=>∃l8,∃y9,∃Dy,∃b11,∃D1,∃f13:Nat->List PV,DR ae.D D1.length f13 D1/\.inl (l8,y9,Dy,b11,D1)=DE/\σ=[(5,.own 1 0 0 D1.length)]/\η=[.row g1000 4 1 67 (λ_=>[sl 4 af.cells l8,.int .i64 y9,.int .i64 Dy,.bool b11]),.row 0 4 D1.length 29 f13]) ?_ ?_
 have d18:DR ae.D 0 (kg []) ([]:List ae):=DR.dL
 refine le (bY.partial_correctness a1 (motive:=λpt wu qp b22 sx o56=>∀f24:Nat->List PV,DR ae.D sx.length f24 sx->DE=o56->aQ _ _ [(0,.aC 0 g1000 0 0),(1,.int .i64 a1),(5,.own 1 0 0 sx.length)] [.row g1000 4 1 67 (λ_=>[sl 4 af.cells pt,.int .i64 wu,.int .i64 qp,.bool b22]),.row 0 4 sx.length 29 f24]) ?_ v4.ar v4.bM v4.az v4.ay ([]:List ae) DE h (kg []) d18.self rfl) (tk [0,1] ⟨.p,.i,.oe,⟨⟩⟩ ⟨(fM rfl),(bu d18 d18.len d18.len),⟨⟩⟩)
 intro F27 abK pt wu qp b22 sx o56 h f24 d25 ak3
 subst ak3
 refine aQ.round (.d (.d ⟨rfl,rfl,rfl,_,rfl,(jj h (λLb h=>?_) (λLb h=>?_))⟩))
 refine .d ⟨rfl,_,_,rfl,ao,?_⟩
 obtain ⟨o34,h,aE0⟩:=bd h
 refine .cut (λσ η=>∃A3,∃Pp,∃y31,∃b32,∃y33,(A3,Pp,y31,b32,y33)=o34/\σ=[(0,.aC 0 g1000 0 0),(1,.int .i64 a1),(5,.own 1 0 0 sx.length),(6,.aC 2 0 0 0)]/\η=[.row g1000 4 1 67 (λ_=>[sl 4 af.cells A3,.int .i64 Pp,.int .i64 y31,.bool b32]),.row 0 4 sx.length 29 f24,.row 0 4 1 29 (λ_=>[.int .i64 a1,.int .i64 y33,.str [],.own 3 0 0 0]),.row 0 4 0 29 (λ_=>[])]) ?_ ?_
 refine .d ?_
 obtain ⟨⟨v37,yY⟩,UH,h⟩:=bd h
 refine cb (aD (g1000:=g1000) UH) [0] ?_
 refine sV h (λUI h=>?_) (λUI h=>?_)
 exact ⟨rfl,rfl,_,_,rfl,ao,(ct ⟨_,_,_,_,_,si h,rfl,rfl⟩ (tk [0,1,2,6] ⟨.p,.i,.oe,.p,⟨⟩⟩ ⟨(fM rfl),(bu d25),(nb rfl ⟨.i,.i,.s,.g,⟨⟩⟩),gh,⟨⟩⟩))⟩
 exact ct ⟨_,_,_,_,_,si h,rfl,rfl⟩ (tk [0,1,2,6] ⟨.p,.i,.oe,.p,⟨⟩⟩ ⟨(fM rfl),(bu d25),(nb rfl ⟨.i,.i,.s,.g,⟨⟩⟩),gh,⟨⟩⟩)
 rintro _ _ ⟨A3,Pp,y31,b32,y33,rfl,rfl,rfl⟩
 replace h:=aE0
 refine .d ?_
 obtain ⟨⟨v41,v42⟩,aE1,h⟩:=bd h
 refine cb (fC (g1000:=g1000) aE1) [0] ?_
 refine ⟨rfl,rfl,_,_,rfl,ao,(.d ⟨rfl,_,rfl,_,dx,(bk h λM1 xb h=>(.fx ⟨rfl,rfl,(λ_ _=>rfl),DR.xA d25 xb,M1.length,dV f24 sx.length [.int .i64 a1,.int .i64 y33,.str v41,.own 3 0 0 0],DR.ln d25 xb,dE (DR.ln d25 xb) ⟨.same _,.same _,.same _,.same _,trivial⟩,(.d (.d ?_))⟩))⟩)⟩
 obtain ⟨⟨v46,wE⟩,agz,h⟩:=bd h
 refine cb (aD (g1000:=g1000) agz) [0] ?_
 refine sV h (λaE2 h=>?_) (λaE2 h=>?_)
 refine .d ?_
 obtain rfl:=si h
 replace h:=MK
 obtain rfl:=si h
 refine .ab 1 sx.length 3 3 _ (λ_=>rT (DR.lq d25 xb) (DR.nil (D:=ae.D)).po) λF50=>?_
 have d51:=DR.jE d25 xb (ae.bx (x:=(ae.mk a1 y33 v41 ([]:List ae))) (F0:=F50) (DR.nil (D:=ae.D)))
 exact en [0,1] ⟨_,d51.self,rfl,rfl⟩ (.oe) ⟨(ob rfl ⟨.l,.i,.i,.b,⟨⟩⟩),(bu d51),⟨⟩⟩
 refine bk h λqn SF h=>(cb (bf (g1000:=g1000) SF) [0] ?_)
 refine .ab 1 sx.length 3 3 _ (λ_=>rT (DR.lq d25 xb) (DR.nil (D:=ae.D)).po) λF54=>?_
 have d55:=DR.jE d25 xb (ae.bx (x:=(ae.mk a1 y33 v41 ([]:List ae))) (F0:=F54) (DR.nil (D:=ae.D)))
 exact lg (abK _ _ _ _ _ _ h _ d55 rfl) (tk [0,1] ⟨.p,.i,.oe,⟨⟩⟩ ⟨(fM rfl),(bu d55),⟨⟩⟩)
 exact ct ⟨_,_,_,_,_,f24,d25,si h,rfl,rfl⟩ (tk [0,1] ⟨.oe,⟨⟩⟩ ⟨(fM rfl),(bu d25),⟨⟩⟩)
 rintro _ _ ⟨l8,y9,Dy,b11,D1,f13,d14,rfl,rfl,rfl⟩
 replace h:=MK
 refine .d ?_
 obtain rfl:=si h
 exact en [0,1] ⟨f13,d14.self,rfl,rfl⟩ (.oe) ⟨(ob rfl ⟨.l,.i,.i,.b,⟨⟩⟩),(bu d14),⟨⟩⟩
def ju (a0:ai):Option ((List ae)×ai):=
 fq a0 24>>=λ(v1,v2)=>
 some (v1,v2)
theorem xW {a0:ai} {r:(List ae)×ai} {g1000:Nat} (h:ju a0=some r):arh 123 a0 r g1000:=by
 refine eT Tryz.func123 ?_
 unfold ju at h
 refine .d (.d ?_)
 obtain ⟨⟨v1,v2⟩,uC,h⟩:=bd h
 refine bz (oH (g1000:=g1000) uC) [0] λf4 d5=>?_
 obtain rfl:=si h
 exact en [0,1] ⟨f4,d5.self,rfl,rfl⟩ (.oe) ⟨(ob rfl ⟨.l,.i,.i,.b,⟨⟩⟩),(bu d5),⟨⟩⟩
end Go.Am
