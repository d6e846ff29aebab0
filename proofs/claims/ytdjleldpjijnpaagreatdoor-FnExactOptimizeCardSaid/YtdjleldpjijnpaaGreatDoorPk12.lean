/- Texts of the proof, joined and shortened. -/
import Derived.Test.YtdjleldpjijnpaaGreatDoorPk11
set_option linter.unusedVariables false
set_option linter.unusedSimpArgs false
namespace Go.Am
open Go Go.RowKit Go.Proofs
theorem IQ (a:ar) (hn:a.ah.length<=2000000) {l:List Int} (h:dA a=some (l,true)):∀x∈a.ah,wy x (a.au.length:Int) (a.ah.length:Int)=true:=by
 unfold dA at h;by_cases h0:a.ah.length=0
 ·have hd:a.ah=[]:=aie h0;intro x b;rw[hd]at b;cases b
 ·rw[An alV]at h
  have em:(mf 8 (a.ah.length:Int) (a.ah.length:Int):Option (List Int))=some (List.replicate a.ah.length default):=by
   unfold mf;rw[As ⟨by omega,by omega,by omega,by omega⟩];rfl
  have c:=R6 a hn a.ah.length 0 (List.replicate a.ah.length default) alV alV alW (λj h=>absurd h alV);rw[show((0:Nat):Int)=0 from rfl]at c;rw[em,sb,c,aib]at h;cases d:a.ah.all (λx=>wy x (a.au.length:Int) (a.ah.length:Int))
  ·rw[d]at h;cases h
  ·exactλx b=>ahC.1 d x b
def Qh (code:List ak) (j:Int):Bool:=code.any λx=>vU x.aN&&decide (x.fA=j)
section
variable (a:ar)(hn:a.ah.length<=2000000)
include hn
theorem tgo:∀(f k:Nat) (l:List Int),a.ah.length<=k+f->k<=a.ah.length->l.length<=k->
  ∃L,df a l (k:Int)=some L/\L.length<=a.ah.length/\∀j:Int,0<=j->j<a.ah.length->(j∈L↔j∈l\/Qh (a.ah.drop k) j=true)
 | f,k,l,hf,d,hl=>by
  rw[df];by_cases hc:k<a.ah.length
  ·obtain⟨g,rfl⟩:∃g,f=g+1:=⟨f - 1,by omega⟩;rw[As alV,aV hc,sb,Pu,sb,aO alV,ahY hc];generalize i:a.ah[k]=x
   have keep:(∀j:Int,0<=j->j<a.ah.length->¬(vU x.aN=true/\x.fA=j))->∃L,df a l ((k+1:Nat):Int)=some L/\L.length<=a.ah.length/\∀j:Int,0<=j->j<a.ah.length->(j∈L↔j∈l\/Qh (x::a.ah.drop (k+1)) j=true):=λc=>by
    obtain⟨L,e,h1,h2⟩:=tgo g (k+1) l alV alV alV;refine⟨L,e,h1,λj h0 hj=>(h2 j h0 hj).trans ?_⟩;unfold Qh;rw[ajx,aiD,No,aiF];have:=c j h0 hj;constructor
    ·rintro(h | h)
     ·exact .inl h
     ·exact .inr (.inr h)
    ·rintro(h | h | h)
     ·exact .inl h
     ·exact absurd h this
     ·exact .inr h
   by_cases b:vU x.aN=true
   ·rw[As b];by_cases h0:x.fA>=0
    ·rw[As h0];by_cases h1:x.fA<a.ah.length
     ·rw[As h1,eJ alX,sb];obtain⟨L,e,q1,q2⟩:=tgo g (k+1) (l++[x.fA]) alV alV alX;refine⟨L,e,q1,λj h0 hj=>(q2 j h0 hj).trans ?_⟩;unfold Qh;rw[ajx,aiD,No,aiF,ahL,aiQ];constructor
      ·rintro((h | h) | h)
       ·exact .inl h
       ·exact .inr (.inl ⟨b,h.symm⟩)
       ·exact .inr (.inr h)
      ·rintro(h | h | h)
       ·exact .inl (.inl h)
       ·exact .inl (.inr h.2.symm)
       ·exact .inr h
     ·rw[An h1];exact keep λj h0 hj hh=>by omega
    ·rw[An h0];exact keep λj h0 hj hh=>by omega
   ·rw[An b];exact keep λj h0 hj hh=>b hh.1
  ·rw[An alV,aik alV];exact⟨l,rfl,by omega,λj _ _=>by simp [Qh]⟩
omit hn in
theorem Lb (l:List Int) (y:Int):y∈Lib.compact l↔y∈l:=by
 have up:∀m,y∈Lib.compactUpTo l.toArray m↔∃j,j<m/\l.toArray[j]! =y:=λm=>by
  induction m with
  | zero=>simp [Lib.compactUpTo]
  | succ m b=>
   rw[Lib.compactUpTo_succ,ahL,b];by_cases a:Lib.keeps l.toArray m=true
   ·rw[As a,aiQ];constructor
    ·rintro(⟨j,h1,h2⟩ | h)
     ·exact⟨j,by omega,h2⟩
     ·exact⟨m,by omega,h.symm⟩
    ·rintro⟨j,h1,h2⟩;by_cases e:j=m
     ·subst e;exact .inr h2.symm
     ·exact .inl ⟨j,by omega,h2⟩
   ·rw[An a]
    have hm:m≠0/\l.toArray[m]! =l.toArray[m - 1]!:=by
     unfold Lib.keeps at a;rw[aiF]at a;exact⟨λh=>a (.inl h),Decidable.byContradiction λh=>a (.inr h)⟩
    constructor
    ·rintro(⟨j,h1,h2⟩ | h)
     ·exact⟨j,by omega,h2⟩
     ·cases h
    ·rintro⟨j,h1,h2⟩;by_cases e:j=m
     ·subst e;exact .inl ⟨j - 1,by omega,by rw[<-hm.2];exact h2⟩
     ·exact .inl ⟨j,by omega,h2⟩
 unfold Lib.compact;rw[up,aiw];constructor
 ·rintro⟨j,h1,h2⟩;exact⟨j,h1,by rw[<-h2];simp [h1]⟩
 ·rintro⟨j,h1,h2⟩;exact⟨j,h1,by rw[<-h2];simp [h1]⟩
omit hn in
theorem TP (L:List Int) (b:L.length<=2000000):∀(f k:Nat) (M:List (Int×Bool)),L.length<=k+f->k<=L.length->
  ∃a,jY L M (k:Int)=some a/\∀j,qQ a j false=(qQ M j false||decide (j∈L.drop k))
 | f,k,M,hf,c=>by
  rw[jY];by_cases hc:k<L.length
  ·obtain⟨g,rfl⟩:∃g,f=g+1:=⟨f - 1,by omega⟩;rw[As alV,aV hc,sb,aO alV,ahY hc];obtain⟨a,e,h⟩:=TP L b g (k+1) (eU M L[k] true) alV alV;refine⟨a,e,λj=>?_⟩;rw[h,wA];by_cases q:j=L[k]
   ·rw[As q,ajt,ahI (by rw[q];exact List.mem_cons_self),ajU]
   ·rw[An q];congr 1;rw[ajB,ahM];exact⟨.inr,λh=>h.resolve_left q⟩
  ·rw[An alV,aik alV];exact⟨M,rfl,λj=>by simp⟩
theorem agL:∃M,mQ a=some M/\∀j:Nat,j<a.ah.length->qQ M (j:Int) false=Qh a.ah j:=by
 obtain⟨L,e,h1,h2⟩:=tgo a hn a.ah.length 0 [] alV alV alW;rw[show((0:Nat):Int)=0 from rfl,aib]at*;have b:CQ L=some (Fh L):=As alV;have c:yL (Fh L)=some (Lib.compact (Fh L)):=As (by rw[CP];omega);have hl:(Lib.compact (Fh L)).length<=2000000:=by have:=yK (Fh L);rw[CP]at this;omega
 obtain⟨M,d,h5⟩:=TP (Lib.compact (Fh L)) hl (Lib.compact (Fh L)).length 0 [] alV alV;rw[show((0:Nat):Int)=0 from rfl,aib]at*;unfold mQ pS;rw[e,sb,b,sb,sb,c,sb,sb,d,sb];refine⟨M,rfl,λj hj=>?_⟩;rw[h5,show qQ ([]:List (Int×Bool)) (j:Int) false=false from rfl,aiN,aic,aiF,Lb];have:(j:Int)∈Fh L↔(j:Int)∈L:=(List.mergeSort_perm L _).mem_iff;rw[this,h2 j alV alV];simp
theorem NT:∀(f k:Nat) (H:List Bool),a.ah.length<=k+f->k<=a.ah.length->H.length=a.ah.length+1->
  ∃b,gO a.ah H (k:Int)=some b/\b.length=a.ah.length+1/\∀j:Nat,j<a.ah.length->b.getD j false=(H.getD j false||Qh (a.ah.drop k) j)
 | f,k,H,hf,l,hH=>by
  rw[gO];by_cases hc:k<a.ah.length
  ·obtain⟨g,rfl⟩:∃g,f=g+1:=⟨f - 1,by omega⟩;rw[As alV,aV hc,sb,RW,sb,aO alV,sb,fN,sb,sb,ahY hc];generalize m:a.ah[k]=x
   have keep:(∀j:Nat,j<a.ah.length->¬(vU x.aN=true/\x.fA=(j:Int)))->∃b,gO a.ah H ((k+1:Nat):Int)=some b/\b.length=a.ah.length+1/\∀j:Nat,j<a.ah.length->b.getD j false=(H.getD j false||Qh (x::a.ah.drop (k+1)) j):=λi=>by
    obtain⟨b,e,h1,h2⟩:=NT g (k+1) H alV alV hH;refine⟨b,e,h1,λj hj=>(h2 j hj).trans ?_⟩;unfold Qh;rw[ajx];have:=i j hj;rw[show(vU x.aN&&decide (x.fA=(j:Int)))=false by rw[aiU];intro h;rw[No,aiF]at h;exact this h,aiN]
   by_cases c:vU x.aN=true
   ·rw[As c];by_cases h1:0<=x.fA/\x.fA<=(a.ah.length:Int)
    ·obtain⟨t,d⟩:∃t:Nat,x.fA=(t:Int):=⟨x.fA.toNat,by omega⟩;rw[As (ahI h1),d,aV alV,sb,ahF];obtain⟨b,e,q1,q2⟩:=NT g (k+1) (H.set t true) alV alV (by simpa using hH);refine⟨b,e,q1,λj hj=>(q2 j hj).trans ?_⟩;unfold Qh;rw[ajx,c,d,aiB];by_cases q:t=j
     ·subst q;rw[ahI rfl,ajt,ajU,ahA,ain alV];rfl
     ·rw[ahG alV,aiN,ahA,ahQ q,ahA]
    ·rw[An (λhc=>h1 (aja hc))];exact keep λj hj hh=>by omega
   ·rw[An c];exact keep λj hj hh=>c hh.1
  ·rw[An alV,aik alV];exact⟨H,rfl,hH,λj _=>by simp [Qh]⟩
theorem agM:∃H,rM a.ah=some H/\∀j:Nat,j<a.ah.length->idx H (j:Int)=some (Qh a.ah j):=by
 have em:(mf 1 (av ((a.ah.length:Int)+1)) (av ((a.ah.length:Int)+1)):Option (List Bool))=some (List.replicate (a.ah.length+1) false):=by
  rw[aO alV];unfold mf;rw[As ⟨by omega,by omega,by omega,by omega⟩];rfl
 obtain⟨H,e,h1,h2⟩:=NT a hn a.ah.length 0 (List.replicate (a.ah.length+1) false) alV alV alW;rw[show((0:Nat):Int)=0 from rfl,aib]at*;unfold rM;rw[em,sb,e,sb];refine⟨H,rfl,λj hj=>?_⟩;have:=h2 j hj;rw[aV alV];congr 1;rw[ahA,abF alV]at this;have z:(List.replicate (a.ah.length+1) false).getD j false=false:=by rw[ahA,List.getElem?_replicate];split<;>rfl
 rw[z,aiN]at this;exact this
end
theorem Er (v:ae):ae.mk v.aJ v.bc v.bq v.bC v.aw=v:=by cases v;rfl
theorem adE {i:Nat} (h:i<9000000000000):av ((i:Int)+2)=((i+2:Nat):Int):=BD alV alV
theorem Qi (code:List ak) (s:Int) (hn:code.length<=2000000) (hI:∀x∈code,wy x s (code.length:Int)=true) (M:List (Int×Bool)) (H:List Bool) (T:Int->Bool)
  (hM:∀j:Nat,j<code.length->qQ M (j:Int) false=T j) (hH:∀j:Nat,j<code.length->idx H (j:Int)=some (T j)) (i:Nat) (hi:i<code.length):
  ∃w,oF code M (i:Int)=some w/\mR code H (i:Int)=some w/\i+w.length<=code.length/\w.length<=3:=by
 obtain⟨v,p,ip,sp,hv⟩:=OV (hI _ (ahD hi));unfold oF mR;simp only[aV hi,sb,ip,sp,Er,aO (show i<9223372036854775807 by omega),adE (show i<9000000000000 by omega)];have none:∀{A B:Option (List ak)},A=some []->B=some []->∃w,A=some w/\B=some w/\i+w.length<=code.length/\w.length<=3:=λh1 h2=>⟨[],h1,h2,by simp;omega,by simp⟩;cases p
 ·exact none rfl rfl
 have hv:=hv rfl;by_cases h1:((i+1:Nat):Int)>=(code.length:Int)
 ·simp only[As h1,aiz,sb];exact none rfl rfl
 have a:i+1<code.length:=by omega
 simp only[An h1,aiz,hM (i+1) a,hH (i+1) a,aV a,sb];cases T ((i+1:Nat):Int)
 case true=>exact none rfl rfl
 simp only[An aiR,sb];have hy:=hI _ (ahD a);generalize code[i+1]=y at hy ⊢;have two:∀{A B:Option (List ak)} {x z:ak},A=some [x,z]->B=some [x,z]->∃w,A=some w/\B=some w/\i+w.length<=code.length/\w.length<=3:=λh1 h2=>⟨_,h1,h2,by simp;omega,by simp⟩;obtain⟨G,E,f,m,n⟩:=OV hy;simp only[Vc,sTB,iBV,sBV,f,m,sb,Er];by_cases g:y.aN=10
 ·simp only[g];exact two rfl rfl
 by_cases h:y.aN=28
 ·simp only[h];cases tb v<;>exact two rfl rfl
 by_cases l:y.aN=29
 ·simp only[l];by_cases k:v.aJ=0
  ·simp only[k];exact two rfl rfl
  ·simp only[An k,sb];exact two rfl rfl
 by_cases o:y.aN=13
 ·obtain⟨z,c,d,sz⟩:=of_eq (bv (tb v))
  have hc:c=true:=by
   have:gd (bv (tb v))=some ((ak.mk 4 (av (1+bn (tb (bv (tb v))))) 0 [] []),true):=by
    unfold gd;rw[Vc,sb,iBN,sb];rfl
   rw[d]at this;injection this with this;exact congrArg Prod.snd this
  have q:¬y.aN=11:=by omega
  simp only[An g,An h,An l,As o,An q,d,sz,hc,sb,Er,aiz];exact two rfl rfl
 by_cases t:y.aN=11
 ·obtain⟨r,e,C,D⟩:=adF y.fA hv;obtain⟨z,c,d,sz⟩:=of_eq r
  have hp:E=false:=by
   have:fm y=some ((ae.mk 0 0 [] 0 []),false):=by unfold fm;rw[t];rfl
   rw[f]at this;injection this with this;exact congrArg Prod.snd this
  simp only[An g,An h,An l,An o,As t,C,D,d,sz,hp,sb,Er,An aiR];cases c
  ·by_cases he:e=0
   ·simp only[he];exact none rfl rfl
   ·simp only[An he,sb];exact none rfl rfl
  ·by_cases he:e=0
   ·simp only[he];exact two rfl rfl
   ·simp only[An he,sb];exact none rfl rfl
 simp only[An g,An h,An l,An o,An t,sb];cases E
 ·exact none rfl rfl
 have n:=n rfl;by_cases h2:((i+2:Nat):Int)>=(code.length:Int)
 ·simp only[As h2,aiz,sb];exact none rfl rfl
 have b:i+2<code.length:=by omega
 simp only[An h2,aiz,hM (i+2) b,hH (i+2) b,aV b,sb];cases T ((i+2:Nat):Int)
 case true=>exact none rfl rfl
 simp only[An aiR,sb];generalize code[i+2]=u;by_cases F:u.aN=12
 ·obtain⟨r,e,C,D⟩:=TQ u.fA hv n;obtain⟨z,c,d,sz⟩:=of_eq r;simp only[As F,C,D,d,sz,sb,Er];cases c
  ·by_cases he:e=0
   ·simp only[he];exact none rfl rfl
   ·simp only[An he,sb];exact none rfl rfl
  ·by_cases he:e=0
   ·simp only[he];exact⟨_,rfl,rfl,by simp;omega,by simp⟩
   ·simp only[An he,sb];exact none rfl rfl
 ·simp only[An F,sb];exact none rfl rfl
theorem adG (n:Nat):m93 1 (n:Int)=some ((max 1 n:Nat):Int):=by
 unfold m93;by_cases h:(n:Int)>1
 ·rw[As h];congr 1;omega
 ·rw[An h];congr 1;omega
theorem agN (n:Nat):ZS 1 (n:Int)=some ((max 1 n:Nat):Int):=adG n
theorem Es {α:Type} (l s:List α) (off j:Nat):(yi l off s)[j]? =if off<=j/\j<off+s.length/\j<l.length then s[j - off]? else l[j]?:=by
 unfold yi;rw[List.getElem?_mapIdx];by_cases hj:j<l.length
 ·rw[abF hj,ajo];by_cases h1:j<off
  ·rw[As h1,An alV]
  ·by_cases h2:j<off+s.length
   ·rw[An h1,As h2,As ⟨by omega,h2,hj⟩,ahA,abF alV];rfl
   ·rw[An h1,An h2,An alV]
 ·rw[An alV,ahO alV];rfl
theorem TR (w:List ak) (i:Nat) (hi:i<=2000000) (hw:w.length<=100):∀(f k:Nat) (l:List ak),w.length<=k+f->k<=w.length->i+w.length<=l.length->
  jZ w (i:Int) l (k:Int)=some (yi l (i+k) (w.drop k))
 | f,k,l,hf,a,hl=>by
  rw[jZ];by_cases hc:k<w.length
  ·obtain⟨g,rfl⟩:∃g,f=g+1:=⟨f - 1,by omega⟩;have e:av ((i:Int)+(k:Int))=((i+k:Nat):Int):=BD alV alV;rw[As alV,aV hc,sb,e,aV alV,sb,aO alV,ahF,TR w i hi hw g (k+1) _ alV alV ams];congr 1;refine aiT λj=>?_;rw[Es,Es,aiH,ajc,ajc];by_cases q:j=i+k
   ·subst q;rw[An alV,As ⟨by omega,by omega,by omega⟩,ain alV,aiE,show k+(i+k - (i+k))=k by omega,abF hc]
   ·by_cases q2:i+(k+1)<=j/\j<i+(k+1)+(w.length - (k+1))/\j<l.length
    ·rw[As q2,As ⟨by omega,by omega,by omega⟩,aiE,aiE,show k+1+(j - (i+(k+1)))=k+(j - (i+k)) by omega]
    ·rw[An q2,An alV,ahQ (λh=>q h.symm)]
  ·rw[An alV,aik alV];congr 1;refine aiT λj=>?_;rw[Es,An alX]
section
variable (a:ar)(hn:a.ah.length<=2000000)(hI:∀x∈a.ah,wy x (a.au.length:Int) (a.ah.length:Int)=true)(M:List (Int×Bool))(H:List Bool)(T:Int->Bool)
  (hM:∀j:Nat,j<a.ah.length->qQ M (j:Int) false=T j) (hH:∀j:Nat,j<a.ah.length->idx H (j:Int)=some (T j))
include hn hI hM hH
theorem OW:∀(f k:Nat) (l:List ak),a.ah.length<=k+f->k<=a.ah.length->l.length=a.ah.length->
  ∃R,kz a M l (k:Int)=some R/\j3 a H l (k:Int)=some R/\R.length=a.ah.length
 | f,k,l,hf,h,hl=>by
  rw[kz,j3];by_cases hc:k<a.ah.length
  ·obtain⟨g,rfl⟩:∃g,f=g+1:=⟨f - 1,by omega⟩;obtain⟨w,c,es,h1,h2⟩:=Qi a.ah _ hn hI M H T hM hH k hc;have d:KG l (k:Int)=some (l.drop k):=by unfold KG;rw[As ⟨by omega,by omega⟩];rfl
   have e2:must (w.length<=(l.drop k).length)=some ():=As (by rw[ajc];omega);have e:av ((k:Int)+((max 1 w.length:Nat):Int))=((k+max 1 w.length:Nat):Int):=BD alV alV;have b:=TR w k alV alV w.length 0 l alV alV alV;rw[show((0:Nat):Int)=0 from rfl,aib,aiv]at b;rw[As alV,As alV,c,es,sb,sb,d,sb,e2,sb,adG,sb,b,sb,agN,sb,e,ahF,ahx];exact OW g (k+max 1 w.length) _ alV alV (by rw[G0];exact hl)
  ·rw[An alV,An alV];exact⟨l,rfl,rfl,hl⟩
end
theorem Qj (a:ar) (ha:Fits a):∃w,oG a=some w/\oH a=some w/\tJ w a:=by
 unfold oG oH;obtain⟨d,e,f,g⟩:=tl a ha;rw[xe a ha,xf a ha,sb,sb,e,f,sb,sb];cases d
 ·rw[An alW,An alW];exact⟨_,rfl,rfl,tJ.Qk a⟩
 ·obtain⟨_,b,_,_,_⟩:=g rfl;have hI:=IQ a ha.code b;obtain⟨M,h,hM⟩:=agL a ha.code;obtain⟨H,b,hH⟩:=agM a ha.code;obtain⟨R,c,e2,i⟩:=OW a ha.code hI M H (Qh a.ah) hM hH a.ah.length 0 a.ah alV alV rfl;rw[show((0:Nat):Int)=0 from rfl]at c e2;rw[As rfl,As rfl,h,b,sb,sb,c,e2,sb];exact⟨_,rfl,rfl,⟨rfl,rfl,rfl,rfl,rfl,ajR i⟩⟩
theorem aa1 (a:ar):ar.mk a.ay a.ao a.aI a.au a.bG a.ah=a:=rfl
theorem TS (b:ar) (h0:eX b=some true):∀(f y:Nat) (a:ar),4<=y+f->y<=4->Fits a->∃r:ar,tJ r a/\
  gq a.ay a.bG a.ao a.aI a.au a.ah (y:Int)=some (r.ay,r.bG,r.ao,r.aI,r.au,r.ah)/\
  dp b a.ay a.ao a.aI a.au a.bG a.ah (y:Int)=some (r.ay,r.ao,r.aI,r.au,r.bG,r.ah)
 | f,y,a,hf,hy,ha=>by
  rw[gq,dp];by_cases hc:y<4
  ·obtain⟨g,rfl⟩:∃g,f=g+1:=⟨f - 1,by omega⟩;obtain⟨w1,e,h,c⟩:=Qj a ha;obtain⟨i,j,k,g2⟩:=Lc w1 (c.fits ha);obtain⟨l,K,m,n,o,_⟩:=Ql i (g2.fits (c.fits ha));rw[As alV,As alV,h0,sb,As rfl,aa1,e,h,sb,sb,j,k,sb,sb,m,n,sb,sb,aO alV];have d:=(o.trans g2).trans c;obtain⟨r,p,q⟩:=TS b h0 g (y+1) l alV alV (d.fits ha);exact⟨r,p.trans d,q⟩
  ·rw[An alV,An alV];exact⟨a,tJ.Qk a,rfl,rfl⟩
theorem Gb (a:ar) (ha:Fits a):∃w,eT a=some w/\hC a=some w/\tJ w a:=by
 unfold eT hC;obtain⟨d,f,b,_⟩:=tl a ha;rw[xe a ha,xf a ha,sb,sb,f,sb];cases d
 ·have e:dp a a.ay a.ao a.aI a.au a.bG a.ah 0=some (a.ay,a.ao,a.aI,a.au,a.bG,a.ah):=by
   rw[dp,As alV,b,sb,An alW]
  rw[An alW,e,sb];exact⟨_,rfl,rfl,tJ.Qk a⟩
 ·obtain⟨r,g,c,e2⟩:=TS a b 4 0 a alV alV ha;rw[show((0:Nat):Int)=0 from rfl]at c e2;rw[As rfl,c,e2,sb,sb];exact⟨_,rfl,rfl,g⟩
theorem X7 {α X:Type} (a:List α) {L:List α->Int->X} {fin:X} (hs:∀(k:Nat) (h:k<a.length),L (a.take k) (k:Int)=L (a.take (k+1)) ((k+1:Nat):Int)) (he:L a (a.length:Int)=fin):
  ∀f k:Nat,k<=a.length->a.length<=k+f->L (a.take k) (k:Int)=fin
 | f,k,b,hf=>by
  by_cases hc:k<a.length
  ·obtain⟨g,rfl⟩:∃g,f=g+1:=⟨f - 1,by omega⟩;rw[hs k hc];exact X7 a hs he g (k+1) alV alV
  ·have:k=a.length:=by omega
   subst this;rw[ajV];exact he
theorem cp0 {α X:Type} (a:List α) {L:List α->Int->X} {fin:X} (hs:∀(k:Nat) (h:k<a.length),L (a.take k) (k:Int)=L (a.take (k+1)) ((k+1:Nat):Int)) (he:L a (a.length:Int)=fin):L [] 0=fin:=by
 have:=X7 a hs he a.length 0 (aih _) alV
 rwa [List.take_zero]at this
theorem pC {α:Type} {b:Nat} {a:List α} {k:Nat} (h:k<a.length) (c:a.length*b<=140737488355328):iD b (a.take k) [a[k]]=some (a.take (k+1)):=by
 have h2:(k+1)*b<=a.length*b:=ahH b h;have h3:(a.take k).length=k:=by rw[ajz];omega
 rw[eJ (by rw[h3];exact air h2 c),aje h]
theorem OX {α X:Type} (a:List α) {L:List α->Int->X} {fin:List α->X} (hs:∀(l:List α) (k:Nat) (h:k<a.length),l.length=a.length->L l (k:Int)=L (l.set k a[k]) ((k+1:Nat):Int))
  (he:∀l,l.length=a.length->L l (a.length:Int)=fin l):∀(f k:Nat) (l:List α),a.length<=k+f->k<=a.length->l.length=a.length->(∀j,j<k->l[j]? =a[j]?)->L l (k:Int)=fin a
 | f,k,l,hf,b,hl,hj=>by
  by_cases hc:k<a.length
  ·obtain⟨g,rfl⟩:∃g,f=g+1:=⟨f - 1,by omega⟩;rw[hs l k hc hl];refine OX a hs he g (k+1) _ alV alV (by rw[aiH];exact hl) (λj c=>?_);rw[aiG];by_cases h:k=j
   ·subst h;rw[As rfl,As alV,abF hc]
   ·rw[An h];exact hj j alV
  ·have:k=a.length:=by omega
   subst this;rw[he l hl];congr 1;refine aiT λj=>?_;by_cases h:j<a.length
   ·exact hj j h
   ·rw[ahO alV,ahO alV]
theorem adH {α X:Type} (a l:List α) {L:List α->Int->X} {fin:List α->X} (hs:∀(l:List α) (k:Nat) (h:k<a.length),l.length=a.length->L l (k:Int)=L (l.set k a[k]) ((k+1:Nat):Int))
  (he:∀l,l.length=a.length->L l (a.length:Int)=fin l) (hl:l.length=a.length):L l 0=fin a:=OX a hs he a.length 0 l alV alV hl (λj h=>absurd h (ahP j))
theorem Ld:∀(n:Nat),n<=2000000->∀v:ae,v.wt<=n->lx v=some v/\XF v=some v:=by
 intro n;induction n with
 | zero=>intro _ v hv;have:=pf v;omega
 | succ n b=>
  intro hn v hv;have c:=v.ub;have f:=zB v.aw
  have d:jt v [] 0=some v.aw:=by
   refine cp0 v.aw (L:=jt v) (λk a=>?_) (by rw[jt,An alV]);have e:=uN _ _ (ahD a);rw[jt,As alV,aV a,sb,sb,(b alV _ alV).1,sb,af.eta,pC a alV,sb,aO alV]
  have e2:yH v [] [] 0=some ([],v.aw):=by
   refine cp0 v.aw (L:=yH v []) (λk a=>?_) (by rw[yH,An alV]);have e:=uN _ _ (ahD a);rw[yH,As alV,aV a,sb,(b alV _ alV).2,sb,af.eta,pC a alV,sb,aO alV]
  rw[lx,XF,d,e2,sb,sb];exact⟨congrArg some v.eta,congrArg some v.eta⟩
theorem sv {v:ae} (h:v.wt<=2000000):lx v=some v:=(Ld 2000000 (ahy _) v h).1
theorem iv {v:ae} (h:v.wt<=2000000):XF v=some v:=(Ld 2000000 (ahy _) v h).2
theorem G2 (x:aC):aC.mk x.ay x.bL x.bI x.aQ=x:=rfl
theorem G4 (x:aq):aq.mk x.ay x.cE x.aM x.aP=x:=rfl
theorem Le (x:aE):aE.mk x.aK x.aH=x:=rfl
theorem BY (l:List aC) (hn:l.length<=2000000) (h:∀x∈l,x.aQ.wt<=2000000):∀(f k:Nat),l.length<=k+f->k<=l.length->ji l (k:Int)=some l
 | f,k,hf,a=>by
  rw[ji];by_cases hc:k<l.length
  ·obtain⟨g,rfl⟩:∃g,f=g+1:=⟨f - 1,by omega⟩;rw[As alV,aV hc,sb,sv (h _ (ahD hc)),sb,sb,G2,ahF,List.set_getElem_self,aO alV];exact BY l hn h g (k+1) alV alV
  ·rw[An alV]
theorem Lf (c:aq) (h:CB c):dk c [] 0=some c.aM:=by
 have hf:=h.fs;refine cp0 c.aM (L:=dk c) (λk a=>?_) (by rw[dk,An alV]);rw[dk,As alV,aV a,sb,iv (h.iw _ (ahD a)),sb,G2,pC a alV,sb,aO alV]
theorem Et {α:Type} {b:Nat} {a:List α} (h:a.length*b<=140737488355328):iD b [] a=some a:=by
 rw[eJ (by rw[aii,ahx];exact h),aiC]
theorem IS (a:List aq) (hn:a.length<=2000000) (h:∀x∈a,CB x):mN a=some a:=by
 have e:dY a [] 0=some a:=by
  refine cp0 a (L:=dY a) (λk b=>?_) (by rw[dY,An alV]);have hc:=h _ (ahD b);have h1:=hc.fs;have h2:=hc.ms;have c:=BY a[k].aM h1 hc.iw a[k].aM.length 0 alV alV;rw[show((0:Nat):Int)=0 from rfl]at c;rw[dY,As alV,aV b,sb,sb,Et alV,sb,c,sb,sb,Et alV,sb,G4,pC b alV,sb,sb,aO alV]
 unfold mN;rw[e,sb]
theorem FB.fits {a:ar} (h:FB a):Fits a:=⟨h.cd,h.sl,h.ps,h.us,h.nm⟩
theorem Fits.fb {a:ar} (h:Fits a):FB a:=⟨h.name,h.params,h.Gc,h.slots,h.code⟩
theorem IU (p:aE) (h:PB p):qe p=some p:=by
 have h1:=h.fl
 have e:il p [] [] [] 0=some ([],[],p.aK):=by
  refine cp0 p.aK (L:=il p [] []) (λk a=>?_) (by rw[il,An alV]);rw[il,As alV,aV a,sb,xf _ (h.fb _ (ahD a)).fits,sb,pC a alV,sb,aO alV]
 unfold qe;rw[IS _ h.cl h.cb,sb,e,sb]
theorem Qm (l:List aD) (hn:l.length<=2000000):wH l=some l:=by
 unfold wH;rw[Et alV,sb]
theorem IV (p:aE) (h:PB p):kx p=some p:=by
 have h1:=h.fl;have h2:=h.cl
 have e:cg p [] [] [] [] 0=some ([],[],p.aK,[]):=by
  refine cp0 p.aK (L:=λl y=>cg p [] [] l [] y) (λk a=>?_) (by show cg p [] [] p.aK [] _=_;rw[cg,An alV]);show cg p [] [] (p.aK.take k) [] _=cg p [] [] (p.aK.take (k+1)) [] _;rw[cg,As alV,aV a,sb,xe _ (h.fb _ (ahD a)).fits,sb,pC a alV,sb,aO alV]
 have e2:dm p [] 0=some p.aH:=by
  refine cp0 p.aH (L:=dm p) (λk a=>?_) (by rw[dm,An alV]);have hc:=h.cb _ (ahD a);rw[dm,As alV,aV a,sb,Lf _ hc,sb,Qm _ hc.ms,sb,G4,pC a alV,sb,sb,aO alV]
 unfold kx;rw[e,sb];dsimp only;rw[e2,sb]
def opt (f:ar):ar:=(eT f).getD default
theorem IW {f:ar} (h:FB f):eT f=some (opt f)/\hC f=some (opt f)/\tJ (opt f) f:=by
 obtain⟨w,a,e2,b⟩:=Gb f h.fits;have:opt f=w:=by unfold opt;rw[a];rfl
 rw[this];exact⟨a,e2,b⟩
def Lg (p:aE):aE:=if isP p=true then⟨p.aK.map opt,p.aH⟩else p
theorem agO (p:aE) (h:PB p):ow p=some (Lg p):=by
 have h1:=h.fl;unfold ow Lg;rw[IU p h,(TT h).2,sb,sb];cases isP p
 ·rw[An alW,An alW]
 ·have e:fR p p.aK 0=some (p.aK.map opt):=by
   refine adH (p.aK.map opt) p.aK (L:=fR p) (fin:=some) (λl k b hl=>?_) (λl hl=>?_) alW
   ·have a:k<p.aK.length:=by simpa using b
    have c:l.length=p.aK.length:=by simpa using hl
    rw[fR,As alV,aV a,sb,(IW (h.fb _ (ahD a))).2.1,sb,aV alV,sb,aO alV,ahF,ajP]
   ·rw[fR,An (by rw[hl];omega)]
  rw[As rfl,As rfl,e,sb]
theorem agP (p:aE) (h:PB p):lR p=some (Lg p):=by
 have h1:=h.fl;unfold lR Lg;rw[IV p h,(TT h).1,sb,sb];cases isP p
 ·rw[An alW,An alW,sb]
 ·have e:fU p [] [] p.aK 0=some ([],[],p.aK.map opt):=by
   refine adH (p.aK.map opt) p.aK (L:=fU p [] []) (fin:=λl=>some ([],[],l)) (λl k b hl=>?_) (λl hl=>?_) alW
   ·have a:k<p.aK.length:=by simpa using b
    have c:l.length=p.aK.length:=by simpa using hl
    rw[fU,As alV,aV a,sb,(IW (h.fb _ (ahD a))).1,sb,aV alV,sb,aO alV,ahF,ajP]
   ·rw[fU,An alW]
  rw[As rfl,As rfl,e,sb]
theorem WB {w a:ar} (h:tJ w a):zF w<=zF a:=by
 have:=h.code;unfold zF;rw[h.params,h.Gc,h.slots];omega
theorem aa2 {l:List ar} (h:∀x∈l,FB x):zS zF (l.map opt)<=zS zF l:=by
 induction l with
 | nil=>exact ahy _
 | cons x l a=>
  rw[ahE,oM,oM];have h1:=WB (IW (h x (List.mem_cons_self ..))).2.2;have h2:=a (λy hy=>h y (ahZ _ hy));omega
theorem WC {p:aE} (h:PB p):PB (Lg p)/\zP (Lg p)<=zP p:=by
 unfold Lg;cases isP p
 ·rw[An alW];exact⟨h,ahy _⟩
 ·rw[As rfl];refine⟨⟨by simpa using h.fl,h.cl,λf hf=>?_,h.cb⟩,?_⟩
  ·obtain⟨x,a,rfl⟩:=aif.1 hf;exact((IW (h.fb x a)).2.2.fits (h.fb x a).fits).fb
  ·unfold zP;have:=aa2 h.fb;show zS zF (p.aK.map opt)+zS zK p.aH<=zS zF p.aK+zS zK p.aH;omega
theorem IY (p:aE) (h:p.Ok):jB p=some true:=by
 unfold jB;obtain⟨v,e,hv⟩:=IZ h;rw[e,sb];rcases hv with hv | ⟨h1,h2,h3⟩
 ·rw[As hv]
 by_cases hv:v<0
 ·rw[As hv]
 rw[An hv];have hs:Small p:=⟨h1,h2,h3⟩;have l:=hs.zp;obtain⟨hq,d⟩:=WC hs.pb;have f:=agO p hs.pb;have e2:=agP p hs.pb;generalize Lg p=q at*;obtain⟨k,g,a,g2,m,b⟩:=G5 q 1 alV;obtain⟨i,n,c,f2,f3,o⟩:=G5 p 1 alV;replace a:ep q 1=_:=a;replace b:fQ g 1=_:=b;replace c:ep p 1=_:=c;have j:¬(k:Int)<0:=by omega
 have n2:¬(i:Int)<0:=by omega
 simp only[I0 p hs.pb,f,e2,Le,xg p hs.pb,xg q hq,a,b,c,j,n2,sb,aiz,aiO]
theorem CF (p:aE) (h:p.Ok):ACall Tryz.prog 3 [.agg p.lit] [] (λres h=>res=.bool true):=(wh (IY p h)).mono (λ_ _ h=>h.1)
end Go.Am
