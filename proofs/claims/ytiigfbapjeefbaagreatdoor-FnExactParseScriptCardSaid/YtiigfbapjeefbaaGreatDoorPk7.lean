/- Texts of the proof, joined and shortened. -/
import Derived.Test.YtiigfbapjeefbaaGreatDoorPk6
set_option linter.unusedVariables false
set_option linter.unusedSimpArgs false
set_option synthInstance.maxHeartbeats 400000
set_option synthInstance.maxSize 4000
set_option maxRecDepth 100000
namespace Go.Am
open Go Go.RowKit Go.Proofs
def kZ (a0:aD) (a1:Int) (y4:Int):Option ((Unit) ⊕ aD):=
 (if y4<(([[61,61,61],[33,61,61],[60,61,62],[61,61],[33,61],[60,61],[62,61],[61,62],[45,62],[58,58],[38,38],[124,124],[63,63]]:List aD).length:Int) then
 idx ([[61,61,61],[33,61,61],[60,61,62],[61,61],[33,61],[60,61],[62,61],[61,62],[45,62],[58,58],[38,38],[124,124],[63,63]]:List aD) y4>>=λx8=>
 hZ a0 a1 x8>>=λv10=>
 (if v10=true then
 idx ([[61,61,61],[33,61,61],[60,61,62],[61,61],[33,61],[60,61],[62,61],[61,62],[45,62],[58,58],[38,38],[124,124],[63,63]]:List aD) y4>>=λx13=>
 some (.inr x13)
 else
 kZ a0 a1 (bm (y4+1)))
 else
 some (.inl ()))
partial_fixpoint
def jK (a0:aD) (a1:Int) (ur:Int):Option ((Unit) ⊕ aD):=
 (if ur<(([43,45,42,47,37,46,61,33,60,62,40,41,91,93,123,125,44,59,63,58,38]:aD).length:Int) then
 gz a0 a1>>=λc24=>
 gz [43,45,42,47,37,46,61,33,60,62,40,41,91,93,123,125,44,59,63,58,38] ur>>=λc26=>
 (if (c24.toNat:Int)=(c26.toNat:Int) then
 tI [43,45,42,47,37,46,61,33,60,62,40,41,91,93,123,125,44,59,63,58,38] ur (bm (ur+1))>>=λs29=>
 some (.inr s29)
 else
 jK a0 a1 (bm (ur+1)))
 else
 some (.inl ()))
partial_fixpoint
def o9 (a0:aD) (a1:Int):Option (aD):=
 ((
 kZ a0 a1 0
 :Option ((Unit) ⊕ aD))>>=λo1=>match o1 with
 | .inr r=>some r
 | .inl _=>
 ((
 jK a0 a1 0
 :Option ((Unit) ⊕ aD))>>=λJC=>match JC with
 | .inr r=>some r
 | .inl _=>
 some []
 )
 )
theorem It {a0:aD} {a1:Int} {r:aD} (h:o9 a0 a1=some r):ACall Tryz.prog 165 [.str a0,pI a1] [] (λres h=>res=.str r/\h=[]):=by
 refine ep Tryz.func165 ?_
 unfold o9 at h
 refine .d (.d ⟨row cS ([[61,61,61],[33,61,61],[60,61,62],[61,61],[33,61],[60,61],[62,61],[61,62],[45,62],[58,58],[38,38],[124,124],[63,63]]:List aD),eg cS ([[61,61,61],[33,61,61],[60,61,62],[61,61],[33,61],[60,61],[62,61],[61,62],[45,62],[58,58],[38,38],[124,124],[63,63]]:List aD) rfl (dC rfl),?_⟩)
 obtain ⟨o1,h,fD⟩:=bd h
 refine .cut (λσ η=>.inl ()=o1/\σ=[(0,.str a0),(1,pI a1)]/\η=[]) ?_ ?_
 refine .d ?_
 refine le (kZ.partial_correctness a0 a1 (motive:=λy4 Fe=>o1=Fe->aK _ _ [(0,.str a0),(1,pI a1),(5,.own 0 0 0 ([[61,61,61],[33,61,61],[60,61,62],[61,61],[33,61],[60,61],[62,61],[61,62],[45,62],[58,58],[38,38],[124,124],[63,63]]:List aD).length),(6,pI y4)] [.row 0 1 ([[61,61,61],[33,61,61],[60,61,62],[61,61],[33,61],[60,61],[62,61],[61,62],[45,62],[58,58],[38,38],[124,124],[63,63]]:List aD).length 9 (row cS ([[61,61,61],[33,61,61],[60,61,62],[61,61],[33,61],[60,61],[62,61],[61,62],[45,62],[58,58],[38,38],[124,124],[63,63]]:List aD))]) ?_ 0 o1 h rfl) (tk [0] ⟨.s,.i,.o,.i,⟨⟩⟩ lC)
 intro F6 ih5 y4 Fe h aa9
 subst aa9
 refine aK.round (.d (.d ⟨rfl,(sD h (λEC h=>?_) (λEC h=>?_))⟩))
 refine .d (.d (bk h λx8 hx9 h=>⟨rfl,bf hx9,_,aKc _,rfl,_,((aU hx9).trans rfl),(bk h λv10 CU h=>(b8 (k7 CU) (sV h (λoI h=>?_) (λoI h=>?_))))⟩))
 refine .d (bk h λx13 DG h=>⟨rfl,bf DG,_,aKc _,rfl,_,((aU DG).trans rfl),?_⟩)
 obtain rfl:=si h
 replace h:=fD
 exact eS h
 exact lg (ih5 _ _ h rfl) (tk [0] ⟨.s,.i,.o,.i,⟨⟩⟩ lC)
 exact ct ⟨si h,rfl,rfl⟩ (tk [] BG ⟨⟩)
 rintro _ _ ⟨rfl,rfl,rfl⟩
 replace h:=fD
 refine .d ?_
 obtain ⟨JC,h,qU⟩:=bd h
 refine .cut (λσ η=>.inl ()=JC/\σ=[]/\η=[]) ?_ ?_
 refine .d ?_
 refine le (jK.partial_correctness a0 a1 (motive:=λur o31=>JC=o31->aK _ _ [(0,.str a0),(1,pI a1),(7,.str [43,45,42,47,37,46,61,33,60,62,40,41,91,93,123,125,44,59,63,58,38]),(8,pI ur)] []) ?_ 0 JC h rfl) (tk [] ⟨.s,.i,.s,.i,⟨⟩⟩ ⟨⟩)
 intro F22 akF ur o31 h aHD
 subst aHD
 refine aK.round (.d (.d (sD h (λsr h=>?_) (λsr h=>?_))))
 refine .d (.d (bk h λc24 Lv h=>⟨cn Lv,c24,cp Lv,(bk h λc26 aB0 h=>⟨cn aB0,c26,cp aB0,(sE h (λHA h=>?_) (λHA h=>?_))⟩)⟩))
 refine .d (bk h λs29 Ty h=>⟨rk Ty,s29,rl Ty,?_⟩)
 obtain rfl:=si h
 replace h:=qU
 exact eS h
 exact lg (akF _ _ h rfl) (tk [] ⟨.s,.i,.s,.i,⟨⟩⟩ ⟨⟩)
 exact aMF
 rintro _ _ ⟨rfl,rfl,rfl⟩
 replace h:=qU
 exact .d (eS h)
def dt (a0:aD) (l4:List UInt8) (y5:Int):Option ((Unit) ⊕ (aD×Int)):=
 (if y5<(a0.length:Int) then
 gz a0 y5>>=λc9=>
 (if (c9.toNat:Int)=39 then
 (if (l4.length:Int)>400 then
 some (.inr ([],(-1)))
 else
 some (.inr (l4,bm (y5+1))))
 else
 gz a0 y5>>=λc13=>
 (if (c13.toNat:Int)=92 then
 (if (bm (y5+1))<(a0.length:Int) then
 gz a0 (bm (y5+1))>>=λc17=>
 (if (c17.toNat:Int)=39 then
 gz a0 (bm (y5+1))>>=λc20=>
 cC 1 l4 ([c20]:List UInt8)>>=λwB=>
 dt a0 wB (bm ((bm (y5+1))+1))
 else
 gz a0 (bm (y5+1))>>=λc24=>
 (if (c24.toNat:Int)=92 then
 gz a0 (bm (y5+1))>>=λc27=>
 cC 1 l4 ([c27]:List UInt8)>>=λBZ=>
 dt a0 BZ (bm ((bm (y5+1))+1))
 else
 gz a0 y5>>=λc31=>
 cC 1 l4 ([c31]:List UInt8)>>=λl33=>
 dt a0 l33 (bm (y5+1))))
 else
 gz a0 y5>>=λc35=>
 cC 1 l4 ([c35]:List UInt8)>>=λl37=>
 dt a0 l37 (bm (y5+1)))
 else
 gz a0 y5>>=λc39=>
 cC 1 l4 ([c39]:List UInt8)>>=λSG=>
 dt a0 SG (bm (y5+1))))
 else
 some (.inl ()))
partial_fixpoint
def oG (a0:aD) (a1:Int):Option (aD×Int):=
 ((
 dt a0 ([]:List UInt8) (bm (a1+1))
 :Option ((Unit) ⊕ (aD×Int)))>>=λo1=>match o1 with
 | .inr r=>some r
 | .inl _=>
 some ([],(-1))
 )
theorem DH {a0:aD} {a1:Int} {r:aD×Int} (h:oG a0 a1=some r):ACall Tryz.prog 164 [.str a0,pI a1] [] (λres h=>res=.fM [.str r.1,pI r.2]/\h=[]):=by
 refine ep Tryz.func164 ?_
 unfold oG at h
 refine .d (.d ⟨row cB ([]:List UInt8),eg cB ([]:List UInt8) rfl (dC rfl),?_⟩)
 obtain ⟨o1,h,fD⟩:=bd h
 refine .cut (λσ η=>.inl ()=o1/\σ=[]/\η=[]) ?_ ?_
 refine .d ?_
 refine le (dt.partial_correctness a0 (motive:=λl4 y5 o43=>o1=o43->aK _ _ [(0,.str a0),(6,.own 0 0 0 l4.length),(7,pI y5)] [.row 0 1 l4.length 5 (row cB l4)]) ?_ ([]:List UInt8) (bm (a1+1)) o1 h rfl) (tk [0] FE lC)
 intro F7 FX l4 y5 o43 h aHE
 subst aHE
 refine aK.round (.d (.d (sD h (λFT h=>?_) (λFT h=>?_))))
 refine .d (.d (.d (bk h λc9 u7 h=>⟨cn u7,c9,cp u7,(sE h (λqR h=>?_) (λqR h=>?_))⟩)))
 refine .d (.d ⟨rfl,(sD h (λoI h=>?_) (λoI h=>?_))⟩)
 refine .d ?_
 obtain rfl:=si h
 replace h:=fD
 exact aMC
 refine .d ⟨rfl,l4,rfl,oW bg rfl,?_⟩
 obtain rfl:=si h
 replace h:=fD
 exact aMC
 refine .d (.d (bk h λc13 DG h=>⟨cn DG,c13,cp DG,(sE h (λsg h=>?_) (λsg h=>?_))⟩))
 refine .t (.t (.t (.t (.t (sD h (λnK h=>?_) (λnK h=>?_))))))
 refine .t (.t (.t (bk h λc17 vh h=>⟨cn vh,c17,cp vh,(.t (.t (sE h (λzO h=>?_) (λzO h=>?_))))⟩)))
 exact .t (.t (.t (.t (.t (.t (.t (.t (bk h λc20 Ls h=>⟨cn Ls,c20,cp Ls,row cB ([c20]:List UInt8),eg cB ([c20]:List UInt8) rfl (dC rfl),(bk h λwB Tz h=>(.dO ⟨rfl,rfl,mw (l:=([c20]:List UInt8)) bg,ji Tz,wB.length,row cB wB,gM Tz,iu Tz bg (j5 bg),(lg (FX _ _ _ h rfl) (tk [0] FE lC))⟩))⟩))))))))
 refine .f (.f (.f (bk h λc24 Lv h=>⟨cn Lv,c24,cp Lv,(.f (.t (.f (.t (sE h (λwP h=>?_) (λwP h=>?_))))))⟩)))
 exact bk h λc27 Dn h=>⟨cn Dn,c27,cp Dn,row cB ([c27]:List UInt8),eg cB ([c27]:List UInt8) rfl (dC rfl),(bk h λBZ Ty h=>(.dO ⟨rfl,rfl,mw (l:=([c27]:List UInt8)) bg,ji Ty,BZ.length,row cB BZ,gM Ty,iu Ty bg (j5 bg),(lg (FX _ _ _ h rfl) (tk [0] FE lC))⟩))⟩
 exact bk h λc31 aba h=>⟨cn aba,c31,cp aba,row cB ([c31]:List UInt8),eg cB ([c31]:List UInt8) rfl (dC rfl),(bk h λl33 Pe h=>(.dO ⟨rfl,rfl,mw (l:=([c31]:List UInt8)) bg,ji Pe,l33.length,row cB l33,gM Pe,iu Pe bg (j5 bg),(lg (FX _ _ _ h rfl) (tk [0] FE lC))⟩))⟩
 exact .f (.f (.f (.f (.f (.f (.f (.f (bk h λc35 UI h=>⟨cn UI,c35,cp UI,row cB ([c35]:List UInt8),eg cB ([c35]:List UInt8) rfl (dC rfl),(bk h λl37 amz h=>(.dO ⟨rfl,rfl,mw (l:=([c35]:List UInt8)) bg,ji amz,l37.length,row cB l37,gM amz,iu amz bg (j5 bg),(lg (FX _ _ _ h rfl) (tk [0] FE lC))⟩))⟩))))))))
 refine .f (.f (.f (.f (.f (.f (.f (.f (.f (.f (.f (.f (.f (.f (bk h λc39 TA h=>?_))))))))))))))
 exact ⟨cn TA,c39,cp TA,row cB ([c39]:List UInt8),eg cB ([c39]:List UInt8) rfl (dC rfl),(bk h λSG TB h=>(.dO ⟨rfl,rfl,mw (l:=([c39]:List UInt8)) bg,ji TB,SG.length,row cB SG,gM TB,iu TB bg (j5 bg),(lg (FX _ _ _ h rfl) (tk [0] FE lC))⟩))⟩
 exact aMF
 rintro _ _ ⟨rfl,rfl,rfl⟩
 replace h:=fD
 refine .d ?_
 exact aMC
def xY (a0:aD) (y8:Int) (y9:Int):Option ((Int) ⊕ (Int×Bool)):=
 (if y9<(a0.length:Int) then
 gz a0 y9>>=λc13=>
 yn (bm ((c13.toNat:Int))) 48 57>>=λyq=>
 (if yq=true then
 gz a0 y9>>=λc18=>
 xY a0 (bm ((bm (10*y8))+(bm (IntKind.u8.wrap ((c18.toNat:Int) - 48))))) (bm (y9+1))
 else
 some (.inr (0,false)))
 else
 some (.inl y8))
partial_fixpoint
def m61 (a0:aD):Option (Int×Bool):=
 yn (a0.length:Int) 1 13>>=λv1=>
 (if v1=true then
 ((
 xY a0 0 0
 :Option ((Int) ⊕ (Int×Bool)))>>=λo5=>match o5 with
 | .inr r=>some r
 | .inl y4=>
 (if y4>1000000000000 then
 some (0,false)
 else
 m94 y4>>=λCW=>
 (if CW=a0 then
 some (y4,true)
 else
 some (0,false)))
 )
 else
 some (0,false))
theorem aHF {a0:aD} {r:Int×Bool} (h:m61 a0=some r):ACall Tryz.prog 163 [.str a0] [] (λres h=>res=.fM [pI r.1,.bool r.2]/\h=[]):=by
 refine ep Tryz.func163 ?_
 unfold m61 at h
 refine .d (.d (.d (bk h λv1 tu h=>(b8 (rJ tu) (fP h (λzA h=>?_) (λzA h=>?_))))))
 refine .d ?_
 exact aMy
 refine .d ?_
 obtain ⟨o5,h,ym⟩:=bd h
 refine .cut (λσ η=>∃y4,.inl y4=o5/\σ=[(0,.str a0),(4,pI y4)]/\η=[]) ?_ ?_
 refine .d ?_
 refine le (xY.partial_correctness a0 (motive:=λy8 y9 o20=>o5=o20->aK _ _ [(0,.str a0),(4,pI y8),(5,pI y9)] []) ?_ 0 0 o5 h rfl) (tk [] abb ⟨⟩)
 intro F11 aHG y8 y9 o20 h amA
 subst amA
 refine aK.round (.d (.d (sD h (λoI h=>?_) (λoI h=>?_))))
 refine .d (.d (.d (bk h λc13 DG h=>⟨cn DG,c13,cp DG,(bk h λyq Ir h=>(b8 (rJ Ir) (fP h (λyz h=>?_) (λyz h=>?_))))⟩)))
 refine .d ?_
 obtain rfl:=si h
 replace h:=ym
 exact aMy
 exact bk h λc18 abc h=>⟨cn abc,c18,cp abc,(lg (aHG _ _ _ h rfl) (tk [] abb ⟨⟩))⟩
 exact ct ⟨_,si h,rfl,rfl⟩ (tk [] BG ⟨⟩)
 rintro _ _ ⟨y4,rfl,rfl,rfl⟩
 replace h:=ym
 refine .d (.d (sD h (λyH h=>?_) (λyH h=>?_)))
 refine .t (.t (.t (.t (.t (.d ?_)))))
 exact aMy
 refine .f (bk h λCW abd h=>(b8 (aHH abd) (.f (.f (.f (UJ h (λTC h=>?_) (λTC h=>?_)))))))
 refine .d ?_
 exact aMy
 refine .d ?_
 exact aMy
def km (a0:aD) (Q3:Int):Option (Int):=
 (if Q3<(a0.length:Int) then
 gz a0 Q3>>=λc34=>
 jY (c34.toNat:Int)>>=λR9=>
 (if R9=true then
 km a0 (bm (Q3+1))
 else
 some Q3)
 else
 some Q3)
partial_fixpoint
def j6 (a0:aD) (a1:Int):Option (ah×Int×Int):=
 ((
 gz a0 a1>>=λc4=>
 (if (c4.toNat:Int)=36 then
 iX a0 (bm (a1+1))>>=λv7=>
 tI a0 (bm (a1+1)) v7>>=λs9=>
 (if s9=([]:aD) then
 some (.inr ((ah.mk 2 0 s9 a1),a1,2))
 else
 some (.inr ((ah.mk 2 0 s9 a1),v7,0)))
 else
 gz a0 a1>>=λc12=>
 kn (c12.toNat:Int)>>=λwV=>
 (if wV=true then
 iX a0 a1>>=λAV=>
 tI a0 a1 AV>>=λs19=>
 some (.inr ((ah.mk 3 0 s19 a1),AV,0))
 else
 gz a0 a1>>=λc21=>
 jY (c21.toNat:Int)>>=λCW=>
 (if CW=true then
 (
 km a0 a1
 :Option (Int))>>=λT7=>
 tI a0 a1 T7>>=λs41=>
 m61 s41>>=λ(MA,xc)=>
 (if xc=true then
 (if MA>1000000000 then
 some (.inr ((ah.mk 0 0 [] a1),a1,4))
 else
 some (.inr ((ah.mk 4 MA [] a1),T7,0)))
 else
 some (.inr ((ah.mk 0 0 [] a1),a1,4)))
 else
 gz a0 a1>>=λc48=>
 (if (c48.toNat:Int)=39 then
 oG a0 a1>>=λ(v51,tt)=>
 (if tt<0 then
 some (.inr ((ah.mk 5 0 v51 a1),a1,3))
 else
 some (.inr ((ah.mk 5 0 v51 a1),tt,0)))
 else
 some (.inl ())))))
 :Option ((Unit) ⊕ (ah×Int×Int)))>>=λo1=>match o1 with
 | .inr r=>some r
 | .inl _=>
 o9 a0 a1>>=λVZ=>
 (if VZ=([]:aD) then
 some ((ah.mk 6 0 VZ a1),a1,2)
 else
 some ((ah.mk 6 0 VZ a1),bm (a1+(VZ.length:Int)),0))
 )
theorem FF {a0:aD} {a1:Int} {r:ah×Int×Int} (h:j6 a0 a1=some r):ACall Tryz.prog 101 [.str a0,pI a1] [] (λres h=>res=.fM [.agg r.1.lit,pI r.2.1,pI r.2.2]/\h=[]):=by
 refine ep Tryz.func101 ?_
 unfold j6 at h
 refine .d (.d ⟨rfl,_,_,rfl,aj,(.d ?_)⟩)
 obtain ⟨o1,h,fD⟩:=bd h
 refine .cut (λσ η=>.inl ()=o1/\σ=[(0,.str a0),(1,pI a1),(4,.aA 0 0 0 0),(7,.aA 1 0 0 0)]/\η=[.row 0 4 1 101 (λ_=>[pI 0,pI 0,.str [],pI 0]),.row 0 4 1 101 (λ_=>[pI 0,pI 0,.str [],pI a1])]) ?_ ?_
 refine .d (bk h λc4 hx5 h=>⟨cn hx5,c4,cp hx5,(sE h (λBR h=>?_) (λBR h=>?_))⟩)
 refine .d (bk h λv7 Uk h=>(b8 (tT Uk) (.d ⟨rfl,rfl,_,_,rfl,aj,(.d (bk h λs9 u7 h=>⟨rk u7,s9,rl u7,rfl,rfl,_,_,rfl,aj,(.d (.d ⟨rfl,rfl,_,rfl,?_⟩))⟩))⟩)))
 refine sE h (λqR h=>?_) (λqR h=>?_)
 refine .d ⟨rfl,_,rfl,rfl,_,_,rfl,aj,?_⟩
 exact aMB
 refine .d ⟨rfl,_,rfl,rfl,_,_,rfl,aj,?_⟩
 exact aMB
 refine .d (bk h λc12 LL h=>⟨cn LL,c12,cp LL,(bk h λwV H6 h=>(b8 (vL H6) (sV h (λnK h=>?_) (λnK h=>?_))))⟩)
 refine .d (bk h λAV WG h=>(b8 (tT WG) (.d ⟨rfl,rfl,_,_,rfl,aj,(.d (bk h λs19 Co h=>⟨rk Co,s19,rl Co,rfl,rfl,_,_,rfl,aj,(.d ⟨rfl,_,rfl,rfl,_,_,rfl,aj,?_⟩)⟩))⟩)))
 exact aMB
 refine .d (bk h λc21 aB1 h=>⟨cn aB1,c21,cp aB1,(bk h λCW abd h=>(b8 (rU abd) (sV h (λTC h=>?_) (λTC h=>?_))))⟩)
 obtain ⟨T9,h,O4⟩:=bd h
 refine .cut (λσ η=>∃T7,T7=T9/\σ=[(0,.str a0),(1,pI a1),(4,.aA 0 0 0 0),(7,.aA 1 0 0 0),(8,pI T7)]/\η=[.row 0 4 1 101 (λ_=>[pI 0,pI 0,.str [],pI 0]),.row 0 4 1 101 (λ_=>[pI 0,pI 0,.str [],pI a1])]) ?_ ?_
 refine le (km.partial_correctness a0 (motive:=λQ3 o39=>T9=o39->aK _ _ [(0,.str a0),(1,pI a1),(4,.aA 0 0 0 0),(7,.aA 1 0 0 0),(8,pI Q3)] [.row 0 4 1 101 (λ_=>[pI 0,pI 0,.str [],pI 0]),.row 0 4 1 101 (λ_=>[pI 0,pI 0,.str [],pI a1])]) ?_ a1 T9 h rfl) (tk [0,1] aeQ Cl)
 intro F32 aHI Q3 o39 h aHJ
 subst aHJ
 refine aK.round (.d (.d (sD h (λHs h=>?_) (λHs h=>?_))))
 refine .t (.t (bk h λc34 aaU h=>⟨cn aaU,c34,cp aaU,(.t (bk h λR9 WI h=>(b8 (rU WI) (.t (sV h (λzJ h=>?_) (λzJ h=>?_))))))⟩))
 exact lg (aHI _ _ h rfl) (tk [0,1] aeQ Cl)
 exact ct ⟨_,si h,rfl,rfl⟩ (tk [0,1] aeQ Cl)
 exact .f (.f (.f (.f (.f (ct ⟨_,si h,rfl,rfl⟩ (tk [0,1] aeQ Cl))))))
 rintro _ _ ⟨T7,rfl,rfl,rfl⟩
 replace h:=O4
 refine .d (bk h λs41 TB h=>⟨rk TB,s41,rl TB,?_⟩)
 obtain ⟨⟨MA,xc⟩,akO,h⟩:=bd h
 refine b8 (aHF akO) (.d (.d (fP h (λOm h=>?_) (λOm h=>?_))))
 refine .t (.t (.t (.d ⟨rfl,_,rfl,rfl,_,_,rfl,aj,?_⟩)))
 exact aMB
 refine .f (.f (sD h (λCg h=>?_) (λCg h=>?_)))
 refine .d ⟨rfl,_,rfl,rfl,_,_,rfl,aj,?_⟩
 exact aMB
 refine .d ⟨rfl,rfl,_,_,rfl,aj,(.d ⟨rfl,rfl,_,_,rfl,aj,(.d ⟨rfl,_,rfl,rfl,_,_,rfl,aj,?_⟩)⟩)⟩
 exact aMB
 refine .d (bk h λc48 JE h=>⟨cn JE,c48,cp JE,(sE h (λWg h=>?_) (λWg h=>?_))⟩)
 refine .d ⟨rfl,rfl,_,_,rfl,aj,(.d ?_)⟩
 obtain ⟨⟨v51,tt⟩,H9,h⟩:=bd h
 refine b8 (DH H9) ⟨rfl,rfl,_,_,rfl,aj,(.d (.d (sD h (λakN h=>?_) (λakN h=>?_))))⟩
 refine .d ⟨rfl,_,rfl,rfl,_,_,rfl,aj,?_⟩
 exact aMB
 refine .d ⟨rfl,_,rfl,rfl,_,_,rfl,aj,?_⟩
 exact aMB
 exact ct ⟨si h,rfl,rfl⟩ (tk [0,1] ⟨.s,.i,.p,.p,⟨⟩⟩ Cl)
 rintro _ _ ⟨rfl,rfl,rfl⟩
 replace h:=fD
 refine .d ⟨rfl,rfl,_,_,rfl,aj,(.d (bk h λVZ Wh h=>(b8 (It Wh) ⟨rfl,rfl,_,_,rfl,aj,(.d (.d ⟨rfl,rfl,_,rfl,(sE h (λUL h=>?_) (λUL h=>?_))⟩))⟩)))⟩
 refine .d ⟨rfl,_,rfl,rfl,_,_,rfl,aj,?_⟩
 obtain rfl:=si h
 exact ⟨rfl,_,rfl,(en [] ⟨rfl,rfl⟩ FG ⟨⟩)⟩
 refine .d (.float [(0,true),(1,true),(2,true),(3,true),(4,true),(5,true),(6,false),(7,true),(8,true)] aNh ?_)
 refine ⟨rfl,_,rfl,rfl,rfl,_,rfl,rfl,_,_,rfl,aj,rfl,rfl,?_⟩
 obtain rfl:=si h
 exact ⟨rfl,_,rfl,(en [] ⟨rfl,rfl⟩ FG ⟨⟩)⟩
def k8 (a0:aD) (qa:Int):Option (Int):=
 (if qa<(a0.length:Int) then
 hZ a0 qa [60,63]>>=λv21=>
 (if v21=true then
 some qa
 else
 k8 a0 (bm (qa+1)))
 else
 some qa)
partial_fixpoint
def k9 (a0:aD) (b7:Bool) (l6:List ah) (Jd:Int):Option (((List ah)×Bool×Int) ⊕ aeR):=
 (if Jd<(a0.length:Int) then
 gz a0 Jd>>=λc59=>
 (if (c59.toNat:Int)=10 then
 some (.inl (l6,b7,Jd))
 else
 hZ a0 Jd [63,62]>>=λv62=>
 (if v62=true then
 some (.inl (l6,b7,Jd))
 else
 k9 a0 b7 l6 (bm (Jd+1))))
 else
 some (.inl (l6,b7,Jd)))
partial_fixpoint
def bM (a0:aD) (l6:List ah) (b7:Bool) (y8:Int):Option aeR:=
 (if y8<(a0.length:Int) then
 (if b7=true then
 hZ a0 y8 [63,62]>>=λzC=>
 (if zC=true then
 cC 40 l6 ([(ah.mk 6 0 [59] y8)]:List ah)>>=λO3=>
 hZ a0 (bm (y8+2)) [10]>>=λv46=>
 (if v46=true then
 bM a0 O3 false (bm ((bm (y8+2))+1))
 else
 bM a0 O3 false (bm (y8+2)))
 else
 hZ a0 y8 [47,47]>>=λv49=>
 (if v49=true then
 ((
 k9 a0 b7 l6 y8
 :Option (((List ah)×Bool×Int) ⊕ aeR))>>=λo52=>match o52 with
 | .inr r=>some r
 | .inl (l6,b7,y8)=>bM a0 l6 b7 y8)
 else
 (
 gz a0 y8>>=λc71=>
 (if (c71.toNat:Int)=32 then
 some true
 else
 gz a0 y8>>=λc74=>
 (if (c74.toNat:Int)=9 then
 some true
 else
 gz a0 y8>>=λc77=>
 (if (c77.toNat:Int)=10 then
 some true
 else
 gz a0 y8>>=λc80=>
 some ((c80.toNat:Int)==13))))
 :Option (Bool))>>=λb67=>
 (if b67=true then
 bM a0 l6 b7 (bm (y8+1))
 else
 j6 a0 y8>>=λ(Lo,GA,v85)=>
 (if v85=0 then
 cC 40 l6 ([Lo]:List ah)>>=λl88=>
 bM a0 l88 b7 GA
 else
 some (.inr (([]:List ah),v85,y8))))))
 else
 (
 k8 a0 y8
 :Option (Int))>>=λIu=>
 (
 (if Iu>y8 then
 tI a0 y8 Iu>>=λs31=>
 cC 40 l6 ([(ah.mk 1 0 s31 y8)]:List ah)>>=λl33=>
 some l33
 else
 some l6)
 :Option ((List ah)))>>=λxO=>
 (if Iu<(a0.length:Int) then
 hZ a0 Iu [60,63,61]>>=λR9=>
 (if R9=true then
 cC 40 xO ([(ah.mk 3 0 [101,99,104,111] Iu)]:List ah)>>=λl39=>
 bM a0 l39 (decide (Iu<(a0.length:Int))) (bm (Iu+3))
 else
 bM a0 xO (decide (Iu<(a0.length:Int))) (bm (Iu+2)))
 else
 bM a0 xO (decide (Iu<(a0.length:Int))) (bm (Iu+2))))
 else
 some (.inl l6))
partial_fixpoint
def y0 (a0:aD):Option aeF:=
 (if (a0.length:Int)>4000 then
 some (([]:List ah),1,0)
 else
 ((
 bM a0 ([]:List ah) false 0
 :Option aeR)>>=λo3=>match o3 with
 | .inr r=>some r
 | .inl l2=>
 some (l2,0,0)
 ))
theorem aaT {a0:aD} {r:(List ah)×Int×Int} (h:y0 a0=some r):ACall Tryz.prog 50 [.str a0] [] (λres h=>res=.fM [sl 4 ah.cells r.1,pI r.2.1,pI r.2.2]/\h=[]):=by
 refine ep Tryz.func50 ?_
 unfold y0 at h
 refine .d (.d ⟨row ah.cells ([]:List ah),eg ah.cells ([]:List ah) rfl (dC rfl),(.d (.d (sD h (λmJ h=>?_) (λmJ h=>?_))))⟩)
 refine .d ?_
 obtain rfl:=si h
 exact en [] ⟨rfl,rfl⟩ (.nR ⟨(.rx rfl),.i,.i,⟨⟩⟩) ⟨⟩
 refine .d (.d ?_)
 obtain ⟨o3,h,hk5⟩:=bd h
 refine .cut (λσ η=>∃l2,.inl l2=o3/\σ=[(5,.own 0 0 0 l2.length)]/\η=[.row 0 4 l2.length 101 (row ah.cells l2)]) ?_ ?_
 refine le (bM.partial_correctness a0 (motive:=λl6 b7 y8 o90=>o3=o90->aK _ _ [(0,.str a0),(5,.own 0 0 0 l6.length),(6,.bool b7),(7,pI y8)] [.row 0 4 l6.length 101 (row ah.cells l6)]) ?_ ([]:List ah) false 0 o3 h rfl) (tk [0] Ak lC)
 intro F10 ih9 l6 b7 y8 o90 h alh
 subst alh
 refine aK.round (.d (.d (sD h (λqR h=>?_) (λqR h=>?_))))
 refine .d (fP h (λoI h=>?_) (λoI h=>?_))
 refine .d ?_
 obtain ⟨o14,h,aHK⟩:=bd h
 refine .cut (λσ η=>∃Iu,Iu=o14/\σ=[(0,.str a0),(5,.own 0 0 0 l6.length),(7,pI y8),(8,pI Iu)]/\η=[.row 0 4 l6.length 101 (row ah.cells l6)]) ?_ ?_
 refine le (k8.partial_correctness a0 (motive:=λqa o24=>o14=o24->aK _ _ [(0,.str a0),(5,.own 0 0 0 l6.length),(7,pI y8),(8,pI qa)] [.row 0 4 l6.length 101 (row ah.cells l6)]) ?_ y8 o14 h rfl) (tk [0] ⟨.s,.o,.i,.i,⟨⟩⟩ lC)
 intro F19 aHL qa o24 h aiL
 subst aiL
 refine aK.round (.d (.d (sD h (λyB h=>?_) (λyB h=>?_))))
 refine .t (.t (bk h λv21 zQ h=>(b8 (k7 zQ) (.t (.t (fP h (λsr h=>?_) (λsr h=>?_)))))))
 exact lg (aHL _ _ h rfl) (tk [0] ⟨.s,.o,.i,.i,⟨⟩⟩ lC)
 exact ct ⟨_,si h,rfl,rfl⟩ (tk [0] ⟨.s,.o,.i,.i,⟨⟩⟩ lC)
 exact .f (.f (.f (.f (.f (ct ⟨_,si h,rfl,rfl⟩ (tk [0] ⟨.s,.o,.i,.i,⟨⟩⟩ lC))))))
 rintro _ _ ⟨Iu,rfl,rfl,rfl⟩
 replace h:=aHK
 obtain ⟨T9,h,O4⟩:=bd h
 refine .cut (λσ η=>∃xO,xO=T9/\σ=[(0,.str a0),(5,.own 0 0 0 xO.length),(8,pI Iu)]/\η=[.row 0 4 xO.length 101 (row ah.cells xO)]) ?_ ?_
 refine .d (sD h (λHr h=>?_) (λHr h=>?_))
 exact bk h λs31 aba h=>⟨rk aba,s31,rl aba,row ah.cells ([(ah.mk 1 0 s31 y8)]:List ah),eg ah.cells ([(ah.mk 1 0 s31 y8)]:List ah) rfl (dC rfl),(bk h λl33 Pe h=>(.dO ⟨rfl,rfl,mw (l:=([(ah.mk 1 0 s31 y8)]:List ah)) bg,ji Pe,l33.length,row ah.cells l33,gM Pe,iu Pe bg (j5 bg),(ct ⟨_,si h,rfl,rfl⟩ (tk [0] FE lC))⟩))⟩
 exact ct ⟨_,si h,rfl,rfl⟩ (tk [0] FE lC)
 rintro _ _ ⟨xO,rfl,rfl,rfl⟩
 replace h:=O4
 refine .d (.d (.d (sD h (λCf h=>?_) (λCf h=>?_))))
 refine .t (.t (bk h λR9 WI h=>(b8 (k7 WI) (.t (sV h (λzJ h=>?_) (λzJ h=>?_))))))
 exact .d ⟨row ah.cells ([(ah.mk 3 0 [101,99,104,111] Iu)]:List ah),eg ah.cells ([(ah.mk 3 0 [101,99,104,111] Iu)]:List ah) rfl (dC rfl),(bk h λl39 TA h=>(.dO ⟨rfl,rfl,mw (l:=([(ah.mk 3 0 [101,99,104,111] Iu)]:List ah)) bg,ji TA,l39.length,row ah.cells l39,gM TA,iu TA bg (j5 bg),(lg (ih9 _ _ _ _ h rfl) (tk [0] Ak lC))⟩))⟩
 exact aMT
 exact .f (.f (.f (.f (lg (ih9 _ _ _ _ h rfl) (tk [0] Ak lC)))))
 refine .d (bk h λzC aaO h=>(b8 (k7 aaO) (sV h (λO0 h=>?_) (λO0 h=>?_))))
 refine .d ⟨row ah.cells ([(ah.mk 6 0 [59] y8)]:List ah),eg ah.cells ([(ah.mk 6 0 [59] y8)]:List ah) rfl (dC rfl),(bk h λO3 xR h=>(.dO ⟨rfl,rfl,mw (l:=([(ah.mk 6 0 [59] y8)]:List ah)) bg,ji xR,O3.length,row ah.cells O3,gM xR,iu xR bg (j5 bg),(.d (.d (.d (bk h λv46 Zv h=>(b8 (k7 Zv) (sV h (λZy h=>?_) (λZy h=>?_)))))))⟩))⟩
 exact aMT
 exact aMT
 refine .d (bk h λv49 NZ h=>(b8 (k7 NZ) (sV h (λHl h=>?_) (λHl h=>?_))))
 obtain ⟨o52,h,amB⟩:=bd h
 refine le (k9.partial_correctness a0 b7 l6 (motive:=λJd o65=>o52=o65->aK _ _ [(0,.str a0),(5,.own 0 0 0 l6.length),(6,.bool b7),(7,pI Jd)] [.row 0 4 l6.length 101 (row ah.cells l6)]) ?_ y8 o52 h rfl) (tk [0] Ak lC)
 intro F57 aHM Jd o65 h ajj
 subst ajj
 refine aK.round (.d (.d (sD h (λHm h=>?_) (λHm h=>?_))))
 refine .t (.t (bk h λc59 JF h=>⟨cn JF,c59,cp JF,(.t (.t (sN h (λM7 h=>?_) (λM7 h=>?_))))⟩))
 refine .t (.t (bk h λv62 akI h=>(b8 (k7 akI) (.t (.t (fP h (λVV h=>?_) (λVV h=>?_)))))))
 exact lg (aHM _ _ h rfl) (tk [0] Ak lC)
 exact aMh
 refine .f (.f (.f (.f (.f ?_))))
 exact aMh
 refine .f (.f (.f (.f (.f (.f (.f (.f (.f (.f ?_)))))))))
 exact aMh
 obtain ⟨o68,h,aHN⟩:=bd h
 refine .cut (λσ η=>∃b67,b67=o68/\σ=[(0,.str a0),(5,.own 0 0 0 l6.length),(6,.bool b7),(7,pI y8),(123,.bool b67)]/\η=[.row 0 4 l6.length 101 (row ah.cells l6)]) ?_ ?_
 refine bk h λc71 aB2 h=>⟨cn aB2,c71,cp aB2,(sE h (λUP h=>?_) (λUP h=>?_))⟩
 exact .t (.t (.t (.t (.t (.t (.t (.t (.t (.t (.t (.t (.t (.t (ct ⟨_,si h,rfl,rfl⟩ (tk [0] aeS lC)))))))))))))))
 refine .f (.f (bk h λc74 aB3 h=>⟨cn aB3,c74,cp aB3,(.f (.f (sE h (λah8 h=>?_) (λah8 h=>?_))))⟩))
 exact .t (.t (.t (.t (.t (.t (.t (.t (.t (ct ⟨_,si h,rfl,rfl⟩ (tk [0] aeS lC))))))))))
 refine .f (.f (bk h λc77 aB4 h=>⟨cn aB4,c77,cp aB4,(.f (.f (sE h (λUQ h=>?_) (λUQ h=>?_))))⟩))
 exact .t (.t (.t (.t (ct ⟨_,si h,rfl,rfl⟩ (tk [0] aeS lC)))))
 exact .f (.f (bk h λc80 Wi h=>⟨cn Wi,c80,cp Wi,(.f (.f (ct ⟨_,si h,rfl,rfl⟩ (tk [0] aeS lC))))⟩))
 rintro _ _ ⟨b67,rfl,rfl,rfl⟩
 replace h:=aHN
 refine sV h (λamj h=>?_) (λamj h=>?_)
 exact aMT
 refine .d ?_
 obtain ⟨⟨Lo,GA,v85⟩,Hn,h⟩:=bd h
 refine b8 (FF Hn) ⟨rfl,_,_,rfl,aj,(.d (.d (sN h (λUS h=>?_) (λUS h=>?_))))⟩
 refine .d ⟨row ah.cells ([]:List ah),eg ah.cells ([]:List ah) rfl (dC rfl),?_⟩
 obtain rfl:=si h
 replace h:=hk5
 obtain rfl:=si h
 exact en [] ⟨rfl,rfl⟩ (.nR ⟨(.rx rfl),.i,.i,⟨⟩⟩) ⟨⟩
 exact .d ⟨rfl,_,rfl,row ah.cells ([Lo]:List ah),eg ah.cells ([Lo]:List ah) rfl (dC rfl),(bk h λl88 Ij h=>(.dO ⟨rfl,rfl,mw (l:=([Lo]:List ah)) bg,ji Ij,l88.length,row ah.cells l88,gM Ij,iu Ij bg (j5 bg),(lg (ih9 _ _ _ _ h rfl) (tk [0] Ak lC))⟩))⟩
 exact ct ⟨_,si h,rfl,rfl⟩ (tk [0] ⟨.o,⟨⟩⟩ lC)
 rintro _ _ ⟨l2,rfl,rfl,rfl⟩
 replace h:=hk5
 refine .d ?_
 obtain rfl:=si h
 exact en [] ⟨rfl,rfl⟩ (.nR ⟨.r,.i,.i,⟨⟩⟩) ⟨⟩
set_option synthInstance.maxHeartbeats 400000
set_option synthInstance.maxSize 4000
set_option maxRecDepth 100000
def mG (a0:aD) (y4:Int):Option ((Unit) ⊕ Int):=
 (if y4<=15 then
 iZ y4>>=λv8=>
 (if v8=a0 then
 some (.inr y4)
 else
 mG a0 (bm (y4+1)))
 else
 some (.inl ()))
partial_fixpoint
def kj (a0:aD):Option (Int):=
 ((
 mG a0 1
 :Option ((Unit) ⊕ Int))>>=λo1=>match o1 with
 | .inr r=>some r
 | .inl _=>
 some 0
 )
theorem Ta {a0:aD} {r:Int} (h:kj a0=some r):amt 216 a0 r:=by
 refine ep Tryz.func216 ?_
 unfold kj at h
 refine .d ?_
 obtain ⟨o1,h,fD⟩:=bd h
 refine .cut (λσ η=>.inl ()=o1/\σ=[]/\η=[]) ?_ ?_
 refine .d ?_
 refine le (mG.partial_correctness a0 (motive:=λy4 Q1=>o1=Q1->aK _ _ [(0,.str a0),(3,pI y4)] []) ?_ 1 o1 h rfl) (tk [] BG ⟨⟩)
 intro F6 ih5 y4 Q1 h aa0
 subst aa0
 refine aK.round (.d (.d (sD h (λEC h=>?_) (λEC h=>?_))))
 refine .d (.d (bk h λv8 hv9 h=>(b8 (FH hv9) (sE h (λlS h=>?_) (λlS h=>?_)))))
 refine .d ?_
 obtain rfl:=si h
 replace h:=fD
 exact eI h
 exact lg (ih5 _ _ h rfl) (tk [] BG ⟨⟩)
 exact aMF
 rintro _ _ ⟨rfl,rfl,rfl⟩
 replace h:=fD
 exact aML
def c6 (a0:aC):Option mo:=
 (if a0.av<0 then
 (if a0.fI<(a0.fT.length:Int) then
 idx a0.fT a0.fI>>=λx3=>
 some ((ae.mk 0 0 [] []),(aC.mk a0.fT (a0.fT.length:Int) a0.aw x3.bx))
 else
 some ((ae.mk 0 0 [] []),(aC.mk a0.fT (a0.fT.length:Int) a0.aw a0.aw)))
 else
 some ((ae.mk 0 0 [] []),(aC.mk a0.fT (a0.fT.length:Int) a0.aw a0.av)))
theorem eQ {a0:aC} {r:ae×aC} {g1000:Nat} (h:c6 a0=some r):GB 105 a0 r g1000:=by
 refine ep Tryz.func105 ?_
 unfold c6 at h
 refine .d (.d (.d ⟨rfl,rfl,rfl,_,rfl,(sD h (λmJ h=>?_) (λmJ h=>?_))⟩))
 refine .d ⟨rfl,rfl,rfl,_,rfl,rfl,rfl,rfl,_,_,rfl,aj,(.d ⟨rfl,rfl,rfl,_,rfl,rfl,rfl,rfl,_,rfl,(sD h (λAS h=>?_) (λAS h=>?_))⟩)⟩
 refine .float [(0,true),(1,true),(2,true),(3,true),(4,true),(5,true),(6,true),(7,true),(8,true),(9,true),(10,true),(11,true),(12,true),(13,true),(14,false)] aNh ?_
 refine ⟨rfl,rfl,rfl,_,rfl,rfl,rfl,rfl,_,rfl,(bk h λx3 hx4 h=>⟨bf hx4,_,(aU hx4).trans (ah.aO x3),rfl,rfl,rfl,_,_,rfl,aj,(.d ⟨rfl,rfl,rfl,_,rfl,?_⟩)⟩)⟩
 refine ⟨rfl,rfl,rfl,_,_,rfl,aj,(.d ⟨rfl,_,_,rfl,aj,?_⟩)⟩
 exact aMt
 refine .d ⟨rfl,rfl,rfl,_,rfl,rfl,rfl,rfl,_,_,rfl,aj,(.d ⟨rfl,_,_,rfl,aj,?_⟩)⟩
 exact aMt
 refine .d ⟨rfl,rfl,rfl,_,rfl,rfl,rfl,rfl,_,_,rfl,aj,(.d ⟨rfl,_,_,rfl,aj,?_⟩)⟩
 exact aMt
def bq (a0:aC) (a1:Int) (a2:Int) (a3:aD):Option (Bool×aC):=
 (if (bm (a0.fI+a1))<(a0.fT.length:Int) then
 idx a0.fT (bm (a0.fI+a1))>>=λx2=>
 (if x2.ai=a2 then
 (if a3=([]:aD) then
 some (true,a0)
 else
 idx a0.fT (bm (a0.fI+a1))>>=λx6=>
 some ((x6.aq==a3),a0))
 else
 some (false,a0))
 else
 some (false,a0))
theorem cO {a0:aC} {a1:Int} {a2:Int} {a3:aD} {r:Bool×aC} {g1000:Nat} (h:bq a0 a1 a2 a3=some r):ACall Tryz.prog 103 [.aA 0 g1000 0 0,pI a1,pI a2,.str a3] [.row g1000 4 1 62 (λ_=>a0.lit)] (λres h=>res=.bool r.1/\h=[.row g1000 4 1 62 (λ_=>r.2.lit)]):=by
 refine ep Tryz.func103 ?_
 unfold bq at h
 refine .d (.d ⟨rfl,rfl,rfl,_,rfl,rfl,rfl,rfl,_,rfl,(sD h (λmJ h=>?_) (λmJ h=>?_))⟩)
 refine .t ⟨rfl,(.t ⟨rfl,(.t ⟨rfl,_,rfl,(.t (.t ⟨rfl,(.t ⟨rfl,(.t ⟨rfl,_,rfl,(.t (.t ?_))⟩)⟩)⟩))⟩)⟩)⟩
 refine .t (bk h λx2 hx3 h=>⟨bf hx3,_,(aU hx3).trans (ah.aO x2),(.t (.t (.t (.t (.t (sE h (λuX h=>?_) (λuX h=>?_)))))))⟩)
 refine .t (.t (sE h (λAK h=>?_) (λAK h=>?_)))
 refine .t (.t (.t (.t (.t (.t (.t (.t (.t (.t (.t (.t (.t (.t (.t ?_))))))))))))))
 refine .t (.t ?_)
 exact aMu
 refine .f ⟨rfl,(.f ⟨rfl,(.f ⟨rfl,_,rfl,(.f (.f ⟨rfl,(.f ⟨rfl,(.f ⟨rfl,_,rfl,(.f (.f ?_))⟩)⟩)⟩))⟩)⟩)⟩
 refine .f (bk h λx6 hx7 h=>⟨bf hx7,_,(aU hx7).trans (ah.aO x6),(.f (.f (.f (.f (.t (.f (.t ?_)))))))⟩)
 exact aMu
 refine .f (.f (.f (.f ?_)))
 exact aMu
 refine .f (.f (.f (.f (.f (.f (.f (.f (.f (.f (.f (.f (.f (.f (.f ?_))))))))))))))
 refine .f (.f (.f (.f (.f ?_))))
 exact aMu
def aB (a0:aC) (a1:aD):Option (Bool×aC):=
 bq a0 0 6 a1>>=λ(v1,v2)=>
 (if v1=true then
 some (true,(aC.mk v2.fT (bm (v2.fI+1)) v2.aw v2.av))
 else
 bq v2 0 3 a1>>=λ(v5,v6)=>
 (if v5=true then
 some (true,(aC.mk v6.fT (bm (v6.fI+1)) v6.aw v6.av))
 else
 some (false,v6)))
theorem aQ {a0:aC} {a1:aD} {r:Bool×aC} {g1000:Nat} (h:aB a0 a1=some r):ACall Tryz.prog 115 [.aA 0 g1000 0 0,.str a1] [.row g1000 4 1 62 (λ_=>a0.lit)] (λres h=>res=.bool r.1/\h=[.row g1000 4 1 62 (λ_=>r.2.lit)]):=by
 refine ep Tryz.func115 ?_
 unfold aB at h
 refine .d (.d (.d ?_))
 obtain ⟨⟨v1,v2⟩,tD,h⟩:=bd h
 refine bK (cO tD) [0] ?_
 refine sV h (λuX h=>?_) (λuX h=>?_)
 refine .t (.t (.t (.t (.d ⟨rfl,rfl,rfl,_,rfl,rfl,rfl,rfl,_,_,rfl,aj,(.d ?_)⟩))))
 exact aMu
 refine .f (.f ?_)
 obtain ⟨⟨v5,v6⟩,hv7,h⟩:=bd h
 refine bK (cO hv7) [0] ?_
 refine .f (sV h (λFT h=>?_) (λFT h=>?_))
 refine .d ⟨rfl,rfl,rfl,_,rfl,rfl,rfl,rfl,_,_,rfl,aj,(.d ?_)⟩
 exact aMu
 refine .d ?_
 exact aMu
def aL (a0:aC) (a1:aD):Option (aC):=
 aB a0 a1>>=λ(v1,v2)=>
 (if v1=true then
 some v2
 else
 c6 v2>>=λ(v5,v6)=>
 some v6)
theorem aX {a0:aC} {a1:aD} {r:aC} {g1000:Nat} (h:aL a0 a1=some r):ACall Tryz.prog 167 [.aA 0 g1000 0 0,.str a1] [.row g1000 4 1 62 (λ_=>a0.lit)] (λres h=>res=.fM []/\h=[.row g1000 4 1 62 (λ_=>r.lit)]):=by
 refine ep Tryz.func167 ?_
 unfold aL at h
 refine .d ?_
 obtain ⟨⟨v1,v2⟩,tD,h⟩:=bd h
 refine bK (aQ tD) [0] ?_
 refine fP h (λuX h=>?_) (λuX h=>?_)
 obtain ⟨⟨v5,v6⟩,hv7,h⟩:=bd h
 refine bp (eQ (g1000:=g1000) hv7) [0] λf8 d9=>?_
 obtain rfl:=si h
 exact en [0] ⟨rfl,rfl⟩ pq BJ
 obtain rfl:=si h
 exact en [0] ⟨rfl,rfl⟩ pq BJ
def cf (a0:aC) (a1:Int):Option (aD×aC):=
 bq a0 0 a1 []>>=λ(v1,v2)=>
 (if v1=true then
 idx v2.fT v2.fI>>=λx10=>
 dH x10.aq>>=λv12=>
 (if v12=true then
 idx v2.fT (bm ((bm (v2.fI+1)) - 1))>>=λx20=>
 some (x20.aq,(aC.mk v2.fT (bm (v2.fI+1)) v2.aw v2.av))
 else
 c6 v2>>=λ(yq,qV)=>
 some ([],qV))
 else
 c6 v2>>=λ(v5,v6)=>
 some ([],v6))
theorem dL {a0:aC} {a1:Int} {r:aD×aC} {g1000:Nat} (h:cf a0 a1=some r):ACall Tryz.prog 116 [.aA 0 g1000 0 0,pI a1] [.row g1000 4 1 62 (λ_=>a0.lit)] (λres h=>res=.str r.1/\h=[.row g1000 4 1 62 (λ_=>r.2.lit)]):=by
 refine ep Tryz.func116 ?_
 unfold cf at h
 refine .d (.d (.d (.float [(0,true),(1,true),(2,false),(3,true),(4,true),(5,true),(6,true),(7,true),(8,true),(9,true),(10,true),(11,true),(12,true),(13,true),(14,true),(15,true),(16,false),(17,true),(18,true)] aNh ?_)))
 obtain ⟨⟨v1,v2⟩,tD,h⟩:=bd h
 refine bK (cO tD) [0] ?_
 refine fP h (λuX h=>?_) (λuX h=>?_)
 refine .t (.t (.t (.t (.t (.t (.t (.t (.t (.t (.t (.t (.t (.t (.d ?_))))))))))))))
 obtain ⟨⟨v5,v6⟩,hv7,h⟩:=bd h
 refine bp (eQ (g1000:=g1000) hv7) [0] λf8 d9=>?_
 refine .d ?_
 exact aMD
 refine .f ⟨rfl,(.f ⟨rfl,(.f ⟨rfl,_,rfl,(.f (.f ⟨rfl,(.f ⟨rfl,(.f ⟨rfl,_,rfl,(.f (bk h λx10 aB5 h=>?_))⟩)⟩)⟩))⟩)⟩)⟩
 refine ⟨bf aB5,_,(aU aB5).trans (ah.aO x10),(.f (.f (.f (bk h λv12 EI h=>(b8 (fp EI) (.f (.f (fP h (λsq h=>?_) (λsq h=>?_)))))))))⟩
 refine .d ?_
 obtain ⟨⟨yq,qV⟩,Ci,h⟩:=bd h
 refine bp (eQ (g1000:=g1000) Ci) [0] λf18 d19=>?_
 refine .d ?_
 exact aMD
 refine .d ⟨rfl,rfl,rfl,_,rfl,rfl,rfl,rfl,_,_,rfl,aj,(.d ⟨rfl,rfl,rfl,_,rfl,rfl,rfl,rfl,_,rfl,(bk h λx20 Ls h=>?_)⟩)⟩
 refine ⟨bf Ls,_,(aU Ls).trans (ah.aO x20),?_⟩
 exact aMD
def gI (a0:aC):Option mo:=
 cf a0 2>>=λ(v1,v2)=>
 some ((ae.mk 4 0 v1 []),v2)
theorem mC {a0:aC} {r:ae×aC} {g1000:Nat} (h:gI a0=some r):GB 107 a0 r g1000:=by
 refine ep Tryz.func107 ?_
 unfold gI at h
 refine .d (.d ?_)
 obtain ⟨⟨v1,v2⟩,tD,h⟩:=bd h
 refine bK (dL tD) [0] ?_
 refine p9 (bA _ _ _ _ rfl) ⟨rfl,_,_,rfl,aj,?_⟩
 exact aMt
end Go.Am
