/- Texts of the proof, joined and shortened. -/
import Derived.Test.YtgciegobebabfaaGreatDoorPk12
set_option linter.unusedVariables false
set_option linter.unusedSimpArgs false
set_option maxHeartbeats 1000000
namespace Go.Am
open Go Go.RowKit Go.Proofs
def Kp (x:bV) (a b:Int):Bool:=(oa x a b).getD false
theorem agB (x:bV) (a b:Int):oa x a b=some (Kp x a b):=by obtain⟨v,h,_⟩:=PH x a b;rw[Kp,h];rfl
theorem ajG (x:bV) (a b:Int):tK x a b=some (Kp x a b):=by obtain⟨v,h,h2⟩:=PH x a b;rw[Kp,h,h2];rfl
theorem UP {n:Int} (h:KR n=true):n=27\/n=28\/n=29\/n=44\/n=45\/n=49\/n=52:=by
 unfold KR ep at h;by_cases h1:n=27
 ·exact .inl h1
 by_cases h2:n=28
 ·exact .inr (.inl h2)
 by_cases h3:n=29
 ·exact .inr (.inr (.inl h3))
 by_cases h4:n=44
 ·exact .inr (.inr (.inr (.inl h4)))
 by_cases h5:n=45
 ·exact .inr (.inr (.inr (.inr (.inl h5))))
 by_cases h6:n=49
 ·exact .inr (.inr (.inr (.inr (.inr (.inl h6)))))
 by_cases h7:n=52
 ·exact .inr (.inr (.inr (.inr (.inr (.inr h7)))))
 rw[mg h1,mg h2,mg h3,mg h4,mg h5,mg h6,mg h7]at h;cases h
theorem aal {x:bV} {a b:Int} (h:Kp x a b=true) (c:KR x.bY=true):0<=x.fA/\x.fA<b:=by
 have h1:oa x a b=some true:=by rw[agB,h]
 unfold oa at h1;obtain⟨f,_,h1⟩:=bind_some h1;by_cases hv:f=true
 ·rw[an hv]at h1;obtain⟨g,h4,h1⟩:=bind_some h1;by_cases e:g=true
  ·subst e;obtain⟨n,A,B,S,T⟩:=x;have c:KR n=true:=c;show 0<=A/\A<b
   rcases UP c with rfl | rfl | rfl | rfl | rfl | rfl | rfl<;>
    ·simp [sP,wc,ep,sb]at h4;by_cases d:0<=A
     ·rw[an d]at h4;exact⟨d,by simpa using h4⟩
     ·rw[mg d]at h4;cases h4
  ·rw[mg e]at h1;cases h1
 ·rw[mg hv]at h1;cases h1
theorem XE {n i:Nat} (h:i<n):gI (List.replicate n (-1)) i= -1:=by
 rw[KS aow];simp
theorem abt (a:aW) (hn:a.aR.length<=2000000):∀(f k:Nat) (l:List Int),a.aR.length<=k+f->k<=a.aR.length->l.length=a.aR.length->(∀j,j<k->gI l j= -1)->
  mG a l (k:Int)=some (if(a.aR.drop k).all (λx=>Kp x (a.ah.length:Int) (a.aR.length:Int))then .inl (List.replicate a.aR.length (-1))else .inr ([],false))
 | f,k,l,hf,b,hl,hj=>by
  rw[mG];by_cases hc:k<a.aR.length
  ·rw[an aol,bG hc,sb,agB,sb,ale hc,alP];obtain⟨g,rfl⟩:∃g,f=g+1:=⟨f - 1,by omega⟩;cases c:Kp a.aR[k] (a.ah.length:Int) (a.aR.length:Int)
   ·rw[mg aon,alS,mg aon]
   ·rw[an rfl,yO aol,sb,aT aol,alM]
    exact abt a hn g (k+1) _ aol aol (by rw[alI];exact hl) (λj h=>by
     rw[Ax];by_cases he:(k:Int).toNat=j/\(k:Int).toNat<l.length
     ·rw[an he]
     ·rw[mg he];exact hj j (by simp at he;omega))
  ·rw[mg aol,amm aol]
   have:l=List.replicate a.aR.length (-1):=amD (by simp [hl]) λi h1 h2=>by
    rw[<-KS h1,hj i aol];simp
   rw[this];rfl
theorem abu (a:aW) (hn:a.aR.length<=2000000):∀(f k:Nat),a.aR.length<=k+f->k<=a.aR.length->
  mH a (List.replicate k (-1)) (k:Int)=some (if(a.aR.drop k).all (λx=>Kp x (a.ah.length:Int) (a.aR.length:Int))then .inl (List.replicate a.aR.length (-1))else .inr ([],false))
 | f,k,hf,b=>by
  rw[mH];by_cases hc:k<a.aR.length
  ·rw[an aol,bG hc,sb,ajG,sb,ale hc,alP];obtain⟨g,rfl⟩:∃g,f=g+1:=⟨f - 1,by omega⟩;cases c:Kp a.aR[k] (a.ah.length:Int) (a.aR.length:Int)
   ·rw[mg aon,alS,mg aon]
   ·rw[an rfl,oG aoq,sb,aT aol,alM];have e:List.replicate k (-1:Int)++[-1]=List.replicate (k+1) (-1):=by rw[List.replicate_succ']
    rw[e];exact abu a hn g (k+1) aol aol
  ·have:k=a.aR.length:=by omega
   rw[mg aol,amm aol,this];rfl
theorem Sf (code:List bV) (h0:0<code.length):Part code ((List.replicate code.length (-1)).set 0 0):=by
 have g:∀i,i<code.length->gI ((List.replicate code.length (-1)).set 0 0) i=if i=0 then 0 else -1:=λi hi=>by
  rw[Ax];by_cases h:i=0
  ·subst h;rw[an ⟨rfl,by simpa using h0⟩,an rfl]
  ·rw[mg (λq=>h q.1.symm),mg h,XE hi]
 refine⟨by simp,λi hi=>?_,λ_=>by rw[g 0 h0];rfl,λi hi=>?_⟩
 ·rw[g i hi];by_cases h:i=0
  ·subst h;rw[an rfl];exact .inr ⟨Int.le_refl _,.zero⟩
  ·rw[mg h];exact .inl rfl
 ·rw[g i hi];by_cases h:i=0
  ·rw[an h];omega
  ·rw[mg h];omega
theorem heights (a:aW) (hn:a.aR.length<=2000000):∃l b,lX a=some (l,b)/\oc a=some (l,b)/\(b=false->l=[])/\
  (b=true->l.length=a.aR.length/\∀i (hi:i<a.aR.length),KR (a.aR[i]).bY=true->0<=(a.aR[i]).fA/\(a.aR[i]).fA<a.aR.length):=by
 unfold lX oc;have es:=abu a hn a.aR.length 0 aol aol;rw[show((0:Nat):Int)=0 from rfl,List.replicate_zero]at es;rw[es];by_cases h0:a.aR.length=0
 ·have hd:a.aR=[]:=alF h0;rw[an aol];refine⟨_,_,rfl,?_,λ_=>rfl,λh=>by cases h⟩;rw[hd];rfl
 ·rw[mg aol]
  have em:(qw 8 (a.aR.length:Int) (a.aR.length:Int):Option (List Int))=some (List.replicate a.aR.length default):=by
   unfold qw;rw[an ⟨by omega,by omega,by omega,by omega⟩];rfl
  have g:=abt a hn a.aR.length 0 (List.replicate a.aR.length default) aol aol aon (λj h=>absurd h aol);rw[show((0:Nat):Int)=0 from rfl]at g;rw[em,sb,g,ald];cases m:a.aR.all (λx=>Kp x (a.ah.length:Int) (a.aR.length:Int))
  ·refine⟨_,_,rfl,rfl,λ_=>rfl,λh=>by cases h⟩
  ·have d:∀i (hi:i<a.aR.length),KR (a.aR[i]).bY=true->0<=(a.aR[i]).fA/\(a.aR[i]).fA<a.aR.length:=λi hi c=>
    aal (akA.1 m _ (akx hi)) c
   have hp:=Sf a.aR aol;rw[an rfl,sb,sb];dsimp only
   have n:idx (List.replicate a.aR.length (-1)) 0=some (-1):=by
    have:=bG (l:=List.replicate a.aR.length (-1:Int)) (i:=0) aoq;rw[show((0:Nat):Int)=0 from rfl]at this;rw[this];simp
   rw[n,sb,sb,mg (by rw[List.length_replicate];omega)];show ∃l b,(ef a ((List.replicate a.aR.length (-1)).set 0 0) [0]>>=_)=_/\_
   obtain⟨o,p,h1⟩:=agx a hn (λi hi c=>(d i hi c).1) 10000000 ((List.replicate a.aR.length (-1)).set 0 0) [0] (by have:=Xz ((List.replicate a.aR.length (-1)).set 0 0);simp at this ⊢;omega) aol
    ⟨hp,λx r=>⟨0,by simpa using r,by omega,by rw[hp.zero aol];exact Int.le_refl _⟩,λi hi h=>.inl (by
     rcases alp i with rfl | t
     ·simp
     ·exfalso;rw[Ax,mg (λq=>by omega),XE hi]at h;omega)⟩
   obtain⟨s,e2,h2⟩:=agA a hn (λi hi c=>(d i hi c).1) _ ((List.replicate a.aR.length (-1)).set 0 0) (No _) hp;have e:fx a ((List.replicate a.aR.length (-1)).set (0:Int).toNat 0) true=some s:=e2;rw[p,sb,e,sb];rcases h1 with⟨rfl,h1⟩ | ⟨out,rfl,p1,k⟩
   ·rcases h2 with⟨rfl,h2⟩ | ⟨lL,rfl,p2,f⟩
    ·exact⟨_,_,rfl,rfl,λ_=>rfl,λh=>by cases h⟩
    ·exact absurd (M6 a.aR p2 f aol).1 h1
   ·rcases h2 with⟨rfl,h2⟩ | ⟨lL,rfl,p2,f⟩
    ·exact absurd (M6 a.aR p1 k aol).1 h2
    ·have:=Sol.uniq a.aR (M6 a.aR p1 k aol).2 (M6 a.aR p2 f aol).2;subst this;exact⟨_,_,rfl,rfl,(λh=>by cases h),λ_=>⟨p1.len,d⟩⟩
def iC (c:Nat->Bool) (k n:Nat):Bool:=(List.range' k (n - k)).all c
theorem yh {c:Nat->Bool} {k n:Nat}:iC c k n=true↔∀i,k<=i->i<n->c i=true:=by
 unfold iC;rw[akA];constructor
 ·intro h i h1 h2;exact h i (List.mem_range'_1.2 ⟨h1,by omega⟩)
 ·intro h i hi;have:=List.mem_range'_1.1 hi;exact h i this.1 aol
theorem IF {c:Nat->Bool} {n:Nat}:iC c n n=true:=by unfold iC;simp
theorem EG {c:Nat->Bool} {k n:Nat} (h:k<n):iC c k n=(c k&&iC c (k+1) n):=by
 unfold iC;rw[show n - k=(n - (k+1))+1 by omega,List.range'_succ,alP]
theorem IG {σ:Type} {L:σ->Int->Option (Unit ⊕ Bool)} (c:Nat->Bool) (n:Nat) (I:σ->Nat->Prop)
  (hs:∀s k,k<n->I s k->(c k=true->∃a,I a (k+1)/\L s (k:Int)=L a ((k+1:Nat):Int))/\(c k=false->L s (k:Int)=some (.inr false)))
  (he:∀s,I s n->L s (n:Int)=some (.inl ())):∀(f k:Nat) (s:σ),n<=k+f->k<=n->I s k->L s (k:Int)=some (if iC c k n=true then .inl ()else .inr false)
 | f,k,s,hf,d,hi=>by
  by_cases hc:k<n
  ·obtain⟨g,rfl⟩:∃g,f=g+1:=⟨f - 1,by omega⟩;obtain⟨h1,h2⟩:=hs s k hc hi;rw[EG hc];cases b:c k
   ·rw[h2 b,alS,mg aon]
   ·obtain⟨a,q1,q2⟩:=h1 b;rw[q2,alM];exact IG c n I hs he g (k+1) a aol aol q1
  ·have:k=n:=by omega
   subst this;rw[he s hi,an IF]
theorem AV {L:Int->Option (Unit ⊕ Bool)} (c:Nat->Bool) (n:Nat)
  (hs:∀k,k<n->(c k=true->L (k:Int)=L ((k+1:Nat):Int))/\(c k=false->L (k:Int)=some (.inr false)))
  (he:L (n:Int)=some (.inl ())):L 0=some (if iC c 0 n=true then .inl ()else .inr false):=
 IG (σ:=Unit) (L:=λ_=>L) c n (λ_ _=>True) (λs k a _=>⟨λh=>⟨(),trivial,(hs k a).1 h⟩,(hs k a).2⟩) (λ_ _=>he) n 0 () aol (alc _) trivial
theorem Az {κ β:Type} [DecidableEq κ] (z v:β) (k c:κ):∀l:List (κ×β),wX (hZ l k v) c z=if c=k then v else wX l c z
 | []=>by
  unfold wX hZ jI jI;by_cases h:c=k
  ·subst h;simp
  ·simp [h,jI]
 | (a,b)::r=>by
  have d:=Az z v k c r;unfold wX at d ⊢;unfold hZ;by_cases h:k=a
  ·subst h;rw[an rfl];by_cases h2:c=k
   ·subst h2;simp [jI]
   ·simp [jI,h2]
  ·rw[mg h];by_cases h2:c=a
   ·subst h2;rw[mg (λe=>h e.symm)];simp [jI]
   ·simp only[jI,mg h2];exact d
def gS (l:List bZ) (i:Nat):bZ:=l.getD i []
theorem M8 {l:List bZ} {i:Nat} (h:i<l.length):idx l (i:Int)=some (gS l i):=by
 rw[bG h,gS,akv,Is h];rfl
def gP (l:List TParam) (i:Nat):TParam:=l.getD i default
theorem Sg {l:List TParam} {i:Nat} (h:i<l.length):idx l (i:Int)=some (gP l i):=by
 rw[bG h,gP,akv,Is h];rfl
def gC (l:List bV) (i:Nat):bV:=l.getD i default
theorem XF {l:List bV} {i:Nat} (h:i<l.length):idx l (i:Int)=some (gC l i):=by
 rw[bG h,gC,akv,Is h];rfl
def uD (s:bZ):Bool:=(fX s).getD false
theorem XG (s:bZ):fX s=some (uD s):=by obtain⟨v,h,_⟩:=GD s;rw[uD,h];rfl
theorem XH (s:bZ):iP s=some (uD s):=by obtain⟨v,h,h2⟩:=GD s;rw[uD,h,h2];rfl
def Tp:bZ:=[116,104,105,115]
def DA (l:List bZ) (k:Nat):Bool:=(List.range k).any λj=>decide (gS l j=gS l k)
theorem EH {l:List bZ} {k:Nat}:DA l k=true↔∃j,j<k/\gS l j=gS l k:=by
 unfold DA;rw[List.any_eq_true];constructor
 ·rintro⟨j,h1,h2⟩;exact⟨j,by simpa using h1,by simpa using h2⟩
 ·rintro⟨j,h1,h2⟩;exact⟨j,by simpa using h1,by simpa using h2⟩
def IH (l:List bZ) (k:Nat):Bool:=!DA l k&&uD (gS l k)&&!decide (gS l k=Tp)
theorem adV (a:aW) (hn:a.ah.length<=2000000):gy a [] 0=some (if iC (IH a.ah) 0 a.ah.length=true then .inl ()else .inr false):=by
 refine IG (L:=λl y=>gy a l y) (IH a.ah) a.ah.length (λl k=>∀x,wX l x false=true↔∃j,j<k/\gS a.ah j=x) (λl k c hi=>?_) (λl hi=>?_) a.ah.length 0 [] aol (alc _) (λx=>⟨λh=>by simp [wX,jI]at h,λ⟨j,h,_⟩=>absurd h (akG _)⟩)
 ·have e:wX l (gS a.ah k) false=DA a.ah k:=by
   rw[akX,hi,EH]
  have:gy a l (k:Int)=if DA a.ah k=true then some (.inr false)else if uD (gS a.ah k)=true then(if gS a.ah k=Tp then some (.inr false)else gy a (hZ l (gS a.ah k) true) ((k+1:Nat):Int))else some (.inr false):=by
   rw[gy,an aol,M8 c,sb,e,XG,sb,aT aol];rfl
  simp only[this];unfold IH;refine⟨λh=>?_,λh=>?_⟩
  ·simp only[An,akY,aly]at h;obtain⟨⟨h1,h2⟩,h3⟩:=h;refine⟨hZ l (gS a.ah k) true,λx=>?_,by rw[mg (by rw[h1];simp),an h2,mg h3]⟩;rw[Az];by_cases b:x=gS a.ah k
   ·rw[an b];exact⟨λ_=>⟨k,by omega,b.symm⟩,λ_=>rfl⟩
   ·rw[mg b,hi];constructor
    ·rintro⟨j,q1,q2⟩;exact⟨j,by omega,q2⟩
    ·rintro⟨j,q1,q2⟩;rcases ama.1 q1 with q | rfl
     ·exact⟨j,q,q2⟩
     ·exact absurd q2.symm b
  ·by_cases h1:DA a.ah k=true
   ·rw[an h1]
   ·rw[mg h1];by_cases h2:uD (gS a.ah k)=true
    ·rw[an h2];by_cases h3:gS a.ah k=Tp
     ·rw[an h3]
     ·simp [h1,h2,h3]at h
    ·rw[mg h2]
 ·show gy a l _=_;rw[gy,mg aol]
theorem aam (a:aW) (l:List TParam) (hn:l.length<=a.ah.length) (hs:a.ah.length<=2000000):
  jF a l 0=some (if iC (λk=>decide (gS a.ah k=(gP l k).az)) 0 l.length=true then .inl ()else .inr false):=by
 refine AV (L:=jF a l) _ _ (λk b=>?_) (by rw[jF,mg aol]);rw[jF,an aol,Sg b,sb,M8 aol,sb,aT aol];refine⟨λh=>by rw[an aow],λh=>by rw[mg aow]⟩
def XI (a:aW) (k:Nat):Bool:=!decide ((gC a.aR k).bY=54)||a.df
theorem adW (a:aW) (hn:a.aR.length<=2000000):jG a 0=some (if iC (XI a) 0 a.aR.length=true then .inl ()else .inr false):=by
 refine AV (L:=jG a) _ _ (λk b=>?_) (by rw[jG,mg aol]);rw[jG,an aol,XF b,sb,aT aol];unfold XI;by_cases h1:(gC a.aR k).bY=54
 ·rw[an h1];cases hg:a.df<;>simp [h1,hg]
 ·rw[mg h1];simp [h1]
theorem adX (a:aW) (hn:a.aR.length<=2000000):jE a 0=some (if iC (XI a) 0 a.aR.length=true then .inl ()else .inr false):=by
 refine AV (L:=jE a) _ _ (λk b=>?_) (by rw[jE,mg aol]);rw[jE,an aol,XF b,sb,aT aol];unfold XI;by_cases h1:(gC a.aR k).bY=54
 ·rw[an h1];cases hg:a.df<;>simp [h1,hg]
 ·rw[mg h1];simp [h1]
theorem KT (a:aW) (x:bZ) (hn:a.ah.length<=2000000):∀(f k:Nat),a.ah.length<=k+f->k<=a.ah.length->∃o,qT a x (k:Int)=some o/\
  ((∃j:Nat,k<=j/\j<a.ah.length/\gS a.ah j=x/\(∀m,k<=m->m<j->gS a.ah m≠x)/\o=.inr (j:Int))\/((∀j,k<=j->j<a.ah.length->gS a.ah j≠x)/\o=.inl ()))
 | f,k,hf,c=>by
  rw[qT];by_cases hc:k<a.ah.length
  ·rw[an aol,M8 hc,sb];by_cases b:gS a.ah k=x
   ·rw[an b];exact⟨_,rfl,.inl ⟨k,No _,hc,b,λm h1 h2=>absurd h2 aol,rfl⟩⟩
   ·obtain⟨g,rfl⟩:∃g,f=g+1:=⟨f - 1,by omega⟩;rw[mg b,aT aol];obtain⟨o,e,h⟩:=KT a x hn g (k+1) aol aol;refine⟨o,e,?_⟩;rcases h with⟨j,h1,h2,h3,h4,h5⟩ | ⟨h1,h2⟩
    ·refine .inl ⟨j,by omega,h2,h3,λm q1 q2=>?_,h5⟩;rcases amd q1 with rfl | q
     ·exact b
     ·exact h4 m q q2
    ·refine .inr ⟨λj q1 q2=>?_,h2⟩;rcases amd q1 with rfl | q
     ·exact b
     ·exact h1 j q q2
  ·rw[mg aol];exact⟨_,rfl,.inr ⟨λj q1 q2=>absurd q2 aol,rfl⟩⟩
theorem UQ (a:aW) (hn:a.ah.length<=2000000) {k:Nat} (b:k<a.ah.length):∃v,we a (gS a.ah k)=some v/\(v=(k:Int)↔DA a.ah k=false):=by
 unfold we;obtain⟨o,e,h⟩:=KT a (gS a.ah k) hn a.ah.length 0 aol aol;rw[show((0:Nat):Int)=0 from rfl]at e;rw[e,sb];rcases h with⟨j,h1,h2,h3,h4,rfl⟩ | ⟨h1,rfl⟩
 ·refine⟨_,rfl,?_⟩
  have c:j<=k:=by
   rcases alm k j with q | q
   ·exact absurd rfl (h4 k (alc _) q)
   ·exact q
  constructor
  ·intro h;have:j=k:=by omega
   subst this;cases hs:DA a.ah j
   ·rfl
   ·obtain⟨m,q1,q2⟩:=EH.1 hs;exact absurd q2 (h4 m (alc _) q1)
  ·intro h;rcases amd c with q | q
   ·rw[q]
   ·rw[EH.2 ⟨j,q,h3⟩]at h;cases h
 ·exact absurd rfl (h1 k (alc _) b)
def Sh (a:aW) (k:Nat):Bool:=IH a.ah k&&(!decide (k<a.bf.length)||decide ((gP a.bf k).az=gS a.ah k))&&
 (!decide (a.bf.length<=k/\k - a.bf.length<a.cx.length)||decide ((gP a.cx (k - a.bf.length)).az=gS a.ah k))
theorem adY (a:aW) (hn:a.ah.length<=2000000) (hp:a.bf.length<=2000000) (hu:a.cx.length<=2000000):dC a 0=some (if iC (Sh a) 0 a.ah.length=true then .inl ()else .inr false):=by
 refine AV (L:=dC a) _ _ (λk d=>?_) (by rw[dC,mg aol]);obtain⟨v,ev,hv⟩:=UQ a hn d
 have key:dC a (k:Int)=if Sh a k=true then dC a ((k+1:Nat):Int)else some (.inr false):=by
  rw[dC,an aol,M8 d,sb,XH,sb,aT aol];unfold Sh IH;cases hg:uD (gS a.ah k)
  ·rw[mg aon];simp
  rw[an rfl];by_cases b:gS a.ah k=Tp
  ·have:gS a.ah k=([116,104,105,115]:bZ):=b;rw[an this];simp [b]
  have c:¬gS a.ah k=([116,104,105,115]:bZ):=b;rw[mg c,ev,sb,akI b];cases hs:DA a.ah k
  ·rw[an (hv.2 hs)];by_cases h1:k<a.bf.length
   ·rw[an (show(k:Int)<(a.bf.length:Int) by omega),Sg h1,sb,ala h1];rw[akI (show ¬(a.bf.length<=k/\k - a.bf.length<a.cx.length) by omega)];by_cases h2:(gP a.bf k).az=gS a.ah k
    ·rw[an h2,mg aol,ala h2];rfl
    ·rw[mg h2,akI h2];rfl
   ·rw[mg (show ¬(k:Int)<(a.bf.length:Int) by omega),an (show(k:Int)>=(a.bf.length:Int) by omega),akI h1];rw[Fk (x:=(k:Int) - (a.bf.length:Int)) (n:=k - a.bf.length) aol aol];by_cases h3:k - a.bf.length<a.cx.length
    ·rw[an aol,Sg h3,sb,ala (show a.bf.length<=k/\k - a.bf.length<a.cx.length from⟨by omega,h3⟩)];by_cases h2:(gP a.cx (k - a.bf.length)).az=gS a.ah k
     ·rw[an h2,ala h2];rfl
     ·rw[mg h2,akI h2];rfl
    ·rw[mg aol,akI (show ¬(a.bf.length<=k/\k - a.bf.length<a.cx.length) by omega)];rfl
  ·rw[mg (λh=>by rw[hv.1 h]at hs;cases hs)];rfl
 exact⟨λh=>by rw[key,an h],λh=>by rw[key,mg (by rw[h];simp)]⟩
theorem Si (a b:List TParam) (k:Nat):gP (a++b) k=if k<a.length then gP a k else gP b (k - a.length):=by
 unfold gP;rw[akv,akv,akv];by_cases h:k<a.length
 ·rw[an h,akW h]
 ·rw[mg h,akN aol]
theorem XK (a:aW) (hp:a.bf.length+a.cx.length<=a.ah.length):
  iC (Sh a) 0 a.ah.length=(iC (IH a.ah) 0 a.ah.length&&iC (λk=>decide (gS a.ah k=(gP (a.bf++a.cx) k).az)) 0 (a.bf++a.cx).length):=by
 rw[akX,An,yh,yh,yh];constructor
 ·intro h;refine⟨λi h1 h2=>?_,λi h1 h2=>?_⟩
  ·have:=h i h1 h2;unfold Sh at this;simp only[An]at this;exact this.1.1
  ·rw[alj]at h2;have:=h i h1 aol;unfold Sh at this;simp only[An,alw,akY,aly,akO]at this;rw[Si,akO];by_cases hc:i<a.bf.length
   ·rw[an hc];exact(this.1.2.resolve_left (λq=>q hc)).symm
   ·rw[mg hc];exact(this.2.resolve_left (λq=>q ⟨by omega,by omega⟩)).symm
 ·rintro⟨h1,h2⟩ i h3 h4;unfold Sh;simp only[An,alw,akY,aly,akO];refine⟨⟨h1 i h3 h4,?_⟩,?_⟩
  ·by_cases hc:i<a.bf.length
   ·right;have:=h2 i h3 (by rw[alj];omega);rw[Si,akO,an hc]at this;exact this.symm
   ·exact .inl hc
  ·by_cases hc:a.bf.length<=i/\i - a.bf.length<a.cx.length
   ·right;have:=h2 i h3 (by rw[alj];omega);rw[Si,akO,mg aol]at this;exact this.symm
   ·exact .inl hc
theorem XL (a:aW):∃b,nh a=some b/\pn a=some b:=by
 unfold nh m66 pn;cases hs:a.az with
 | nil=>exact⟨false,rfl,rfl⟩
 | cons c r=>
  have e2:zZ (c::r) 0=some c:=by
   have:=yg (s:=c::r) (i:=0) aon;exact this
  rw[sb,an aon,e2,sb];refine⟨_,rfl,?_⟩;congr 1;unfold Lib.hasPrefix;rw[akX,alk];constructor
  ·intro h;have h1:c=47:=UInt8.toNat_inj.1 (by show c.toNat=47;omega);subst h1;simp
  ·intro h;have h1:c=47:=by simpa[List.isPrefixOf]using Eq.symm (by simpa[List.isPrefixOf]using h)
   rw[h1];rfl
theorem UR (a:aW) (hc:a.aR.length<=2000000) (hs:a.ah.length<=2000000) (hp:a.bf.length<=2000000) (hu:a.cx.length<=2000000) (q:a.az.length<=2000000):
  ∃b,pq a=some b/\rr a=some b/\(b=true->∃l,lX a=some (l,true)/\oc a=some (l,true)/\l.length=a.aR.length/\
   (∀i (hi:i<a.aR.length),KR (a.aR[i]).bY=true->0<=(a.aR[i]).fA/\(a.aR[i]).fA<a.aR.length)):=by
 unfold pq rr ve;obtain⟨l,b,g,e2,r,e⟩:=heights a hc;obtain⟨f,t1,t2⟩:=XL a;rw[Av,sb,xg,sb];by_cases h1:(1:Int)<=(a.az.length:Int)/\(a.az.length:Int)<=100
 case neg=>
  have hd:¬decide ((1:Int)<=(a.az.length:Int)/\(a.az.length:Int)<=100)=true:=by simpa using h1
  rw[mg hd,mg hd];exact⟨_,rfl,rfl,λh=>by cases h⟩
 have hd:decide ((1:Int)<=(a.az.length:Int)/\(a.az.length:Int)<=100)=true:=by simpa using h1
 rw[an hd,an hd];by_cases h2:(a.ah.length:Int)>600
 ·rw[an h2];refine⟨false,rfl,?_,λh=>by cases h⟩;by_cases h3:(a.aR.length:Int)>8000
  ·rw[an h3];rfl
  ·rw[mg h3,an h2];rfl
 rw[mg h2,mg h2];by_cases h3:(a.aR.length:Int)>8000
 ·rw[an h3,an h3];exact aoa
 rw[mg h3,mg h3];have j:af ((a.bf.length:Int)+(a.cx.length:Int))=((a.bf.length+a.cx.length:Nat):Int):=Fk aol aol;rw[j];by_cases h4:((a.bf.length+a.cx.length:Nat):Int)>(a.ah.length:Int)
 ·rw[an h4,an h4];exact aoa
 rw[mg h4,mg h4,adV a hs,adY a hs hp hu,XK a aol]
 have m:Aa a.bf=some a.bf:=by
  unfold Aa;rw[oG aoq,sb,alD]
 have n:qh 24 a.bf a.cx=some (a.bf++a.cx):=oG aol
 have o:(some a.bf>>=λd=>qh 24 d a.cx>>=λp=>jF a p 0)=some (if iC (λk=>decide (gS a.ah k=(gP (a.bf++a.cx) k).az)) 0 (a.bf++a.cx).length=true then .inl ()else .inr false):=by
  rw[sb,n,sb,aam a _ (by rw[alj];omega) hs]
 rw[m,o,adW a hc,adX a hc,t1,t2,g,e2];generalize iC (IH a.ah) 0 a.ah.length=A;generalize iC (λk=>decide (gS a.ah k=(gP (a.bf++a.cx) k).az)) 0 (a.bf++a.cx).length=B;generalize iC (XI a) 0 a.aR.length=Y;cases A
 ·exact aoa
 cases B
 ·exact aoa
 cases Y
 ·refine⟨false,rfl,?_,λh=>by cases h⟩;cases f
  ·rfl
  ·by_cases h5:0<a.ah.length
   ·simp [sb,h5]
   ·cases hg:a.df<;>simp [sb,h5,hg]
 have c:b=true->∃l_1,some (l,b)=some (l_1,true)/\some (l,b)=some (l_1,true)/\l_1.length=a.aR.length/\
   (∀i (hi:i<a.aR.length),KR (a.aR[i]).bY=true->0<=(a.aR[i]).fA/\(a.aR[i]).fA<a.aR.length):=λh=>by
  subst h;exact⟨l,rfl,rfl,(e rfl).1,(e rfl).2⟩
 cases f
 ·exact⟨b,rfl,rfl,c⟩
 ·by_cases h5:0<a.ah.length
  ·refine⟨false,?_,?_,λh=>by cases h⟩<;>simp [sb,h5]
  ·cases hg:a.df
   ·refine⟨b,?_,?_,c⟩<;>simp [sb,h5,hg]
   ·refine⟨false,?_,?_,λh=>by cases h⟩<;>simp [sb,h5,hg]
theorem GF {a b:bZ} (h:a.length+b.length<=4611686018427387904):yz a b=some (a++b):=an h
structure FB (f:aW):Prop where
 nm:f.az.length<=2000000
 ps:f.bf.length<=2000000
 us:f.cx.length<=2000000
 sl:f.ah.length<=2000000
 cd:f.aR.length<=2000000
structure CB (c:aN):Prop where
 fs:c.bp.length<=2000000
 ms:c.bM.length<=2000000
 iw:∀x∈c.bp,x.bR.wt<=2000000
 mn:∀m∈c.bM,m.tq.length<=2000000/\m.az.length<=2000000
structure PB (p:bb):Prop where
 fl:p.bT.length<=2000000
 cl:p.bs.length<=2000000
 fb:∀f∈p.bT,FB f
 cb:∀c∈p.bs,CB c
theorem yi {σ R:Type} {L:σ->Int->Option R} (c:Nat->Bool) (n:Nat) (T F:R) (I:σ->Nat->Prop)
  (hs:∀s k,k<n->I s k->(c k=true->∃a,I a (k+1)/\L s (k:Int)=L a ((k+1:Nat):Int))/\(c k=false->L s (k:Int)=some F))
  (he:∀s,I s n->L s (n:Int)=some T):∀(f k:Nat) (s:σ),n<=k+f->k<=n->I s k->L s (k:Int)=some (if iC c k n=true then T else F)
 | f,k,s,hf,d,hi=>by
  by_cases hc:k<n
  ·obtain⟨g,rfl⟩:∃g,f=g+1:=⟨f - 1,by omega⟩;obtain⟨h1,h2⟩:=hs s k hc hi;rw[EG hc];cases b:c k
   ·rw[h2 b,alS,mg aon]
   ·obtain⟨a,q1,q2⟩:=h1 b;rw[q2,alM];exact yi c n T F I hs he g (k+1) a aol aol q1
  ·have:k=n:=by omega
   subst this;rw[he s hi,an IF]
theorem pJ {R:Type} {L:Int->Option R} (c:Nat->Bool) (n:Nat) (T F:R)
  (hs:∀k,k<n->(c k=true->L (k:Int)=L ((k+1:Nat):Int))/\(c k=false->L (k:Int)=some F))
  (he:L (n:Int)=some T):L 0=some (if iC c 0 n=true then T else F):=
 yi (σ:=Unit) (L:=λ_=>L) c n T F (λ_ _=>True) (λs k a _=>⟨λh=>⟨(),trivial,(hs k a).1 h⟩,(hs k a).2⟩) (λ_ _=>he) n 0 () aol (alc _) trivial
def gF (p:bb) (i:Nat):aW:=p.bT.getD i default
def gK (p:bb) (i:Nat):aN:=p.bs.getD i default
def gD (c:aN) (i:Nat):aU:=c.bp.getD i default
def gM (c:aN) (i:Nat):aQ:=c.bM.getD i default
theorem Tq {α:Type} [Inhabited α] {l:List α} {i:Nat} (h:i<l.length):l.getD i default=l[i]:=by rw[akv,Is h];rfl
theorem KU {α:Type} [Inhabited α] {l:List α} {i:Nat} (h:i<l.length):idx l (i:Int)=some (l.getD i default):=by rw[bG h,Tq h]
theorem Sj {p:bb} {i:Nat} (h:i<p.bT.length):idx p.bT (i:Int)=some (gF p i):=KU h
theorem adZ {p:bb} {i:Nat} (h:i<p.bs.length):idx p.bs (i:Int)=some (gK p i):=KU h
theorem aan {c:aN} {i:Nat} (h:i<c.bp.length):idx c.bp (i:Int)=some (gD c i):=KU h
theorem agD {c:aN} {i:Nat} (h:i<c.bM.length):idx c.bM (i:Int)=some (gM c i):=KU h
theorem Fl {α:Type} [Inhabited α] {l:List α} {i:Nat} (h:i<l.length):l.getD i default∈l:=by rw[Tq h];exact akx h
def KW (q:Nat->Bool) (k:Nat):Bool:=(List.range k).any q
theorem qa {q:Nat->Bool} {k:Nat}:KW q k=true↔∃j,j<k/\q j=true:=by
 unfold KW;rw[List.any_eq_true];constructor
 ·rintro⟨j,h1,h2⟩;exact⟨j,by simpa using h1,h2⟩
 ·rintro⟨j,h1,h2⟩;exact⟨j,by simpa using h1,h2⟩
theorem findF (p:bb) (s:bZ) (hl:p.bT.length<=2000000):∃r,fu p s=some r/\((r= -1/\∀j,j<p.bT.length->(gF p j).az≠s)\/∃j:Nat,j<p.bT.length/\r=(j:Int)/\(gF p j).az=s/\∀i,i<j->(gF p i).az≠s):=by
 have go:∀m i:Nat,i<=p.bT.length->p.bT.length - i=m->(∀j,j<i->(gF p j).az≠s)->∃o,fp p s (i:Int)=some o/\((o=.inl ()/\∀j,j<p.bT.length->(gF p j).az≠s)\/∃j:Nat,j<p.bT.length/\o=.inr (j:Int)/\(gF p j).az=s/\∀i,i<j->(gF p i).az≠s):=by
  intro m;induction m with
  | zero=>
   intro i h1 h2 h3;rw[fp,mg aol];exact⟨_,rfl,.inl ⟨rfl,λj hj=>h3 j aol⟩⟩
  | succ m a=>
   intro i h1 h2 h3;have b:i<p.bT.length:=by omega
   rw[fp,an aol,Sj b,sb];by_cases hc:(gF p i).az=s
   ·rw[an hc];exact⟨_,rfl,.inr ⟨i,b,rfl,hc,h3⟩⟩
   ·rw[mg hc,aT aol]
    exact a (i+1) aol aol (λj hj=>by
     by_cases c:j=i
     ·subst c;exact hc
     ·exact h3 j aol)
 obtain⟨o,e,h⟩:=go _ 0 (alc _) rfl (λj hj=>absurd hj (akG _));replace e:fp p s 0=some o:=e;unfold fu;rw[e,sb];rcases h with⟨rfl,h⟩ | ⟨j,h1,rfl,h2,h3⟩
 ·exact aof
 ·exact⟨_,rfl,.inr ⟨j,h1,rfl,h2,h3⟩⟩
theorem agE (p:bb) (s:bZ) (hl:p.bs.length<=2000000):∃r,oh p.bs s=some r/\((r= -1/\∀j,j<p.bs.length->(gK p j).az≠s)\/∃j:Nat,j<p.bs.length/\r=(j:Int)/\(gK p j).az=s/\∀i,i<j->(gK p i).az≠s):=by
 have go:∀m i:Nat,i<=p.bs.length->p.bs.length - i=m->(∀j,j<i->(gK p j).az≠s)->∃o,il p.bs s (i:Int)=some o/\((o=.inl ()/\∀j,j<p.bs.length->(gK p j).az≠s)\/∃j:Nat,j<p.bs.length/\o=.inr (j:Int)/\(gK p j).az=s/\∀i,i<j->(gK p i).az≠s):=by
  intro m;induction m with
  | zero=>
   intro i h1 h2 h3;rw[il,mg aol];exact⟨_,rfl,.inl ⟨rfl,λj hj=>h3 j aol⟩⟩
  | succ m a=>
   intro i h1 h2 h3;have b:i<p.bs.length:=by omega
   rw[il,an aol,adZ b,sb];by_cases hc:(gK p i).az=s
   ·rw[an hc];exact⟨_,rfl,.inr ⟨i,b,rfl,hc,h3⟩⟩
   ·rw[mg hc,aT aol]
    exact a (i+1) aol aol (λj hj=>by
     by_cases c:j=i
     ·subst c;exact hc
     ·exact h3 j aol)
 obtain⟨o,e,h⟩:=go _ 0 (alc _) rfl (λj hj=>absurd hj (akG _));replace e:il p.bs s 0=some o:=e;unfold oh;rw[e,sb];rcases h with⟨rfl,h⟩ | ⟨j,h1,rfl,h2,h3⟩
 ·exact aof
 ·exact⟨_,rfl,.inr ⟨j,h1,rfl,h2,h3⟩⟩
def isF (f:aW):Bool:=(pq f).getD false
theorem XM {f:aW} (h:FB f):pq f=some (isF f)/\rr f=some (isF f):=by
 obtain⟨b,a,e2,_⟩:=UR f h.cd h.sl h.ps h.us h.nm;unfold isF;rw[a,e2];exact aog
def Fm (p:bb) (k:Nat):Bool:=KW (λj=>decide ((gF p j).az=(gF p k).az)) k
def DB (p:bb) (k:Nat):Bool:=!Fm p k&&isF (gF p k)
theorem ad0 {p:bb} (h:PB p):fy p 0=some (if iC (DB p) 0 p.bT.length=true then .inl ()else .inr false):=by
 have l:=h.fl;refine pJ (L:=fy p) _ _ _ _ (λk b=>?_) (by rw[fy,mg aol]);have c:FB (gF p k):=h.fb _ (Fl b);obtain⟨r,e,f⟩:=findF p (gF p k).az h.fl
 have a:r=(k:Int)↔Fm p k=false:=by
  rw[amg,Ne,Fm,qa];rcases f with⟨rfl,hn⟩ | ⟨j,h1,rfl,h2,h3⟩
  ·exact absurd rfl (hn k b)
  ·constructor
   ·intro d;rintro⟨i,q1,q2⟩;exact h3 i aol (by simpa using q2)
   ·intro hn;by_cases d:j=k
    ·rw[d]
    ·exfalso;by_cases g:j<k
     ·exact hn ⟨j,g,by simpa using h2⟩
     ·exact h3 k aol rfl
 have this:fy p (k:Int)=if r=(k:Int)then(if isF (gF p k)=true then fy p ((k+1:Nat):Int)else some (.inr false))else some (.inr false):=by
  rw[fy,an aol,Sj b,sb];show(fu p (gF p k).az>>=_)=_;rw[e,sb,sb];show(if r=(k:Int)then(rr (gF p k)>>=_)else _)=_;rw[(XM c).2,sb,aT aol]
 rw[this];unfold DB;refine⟨λhc=>?_,λhc=>?_⟩
 ·simp only[An,akY]at hc;rw[an (a.2 hc.1),an hc.2]
 ·by_cases h1:r=(k:Int)
  ·rw[an h1];by_cases h2:isF (gF p k)=true
   ·rw[a.1 h1,h2]at hc;cases hc
   ·rw[mg h2]
  ·rw[mg h1]
def MF (p:bb) (l:List (bZ×Int)) (k:Nat):Prop:=∀x,(∀j,j<k->(gF p j).az=x->jI l x=some (j:Int))/\((∀j,j<k->(gF p j).az≠x)->jI l x=none)
theorem ad1 {p:bb} (h:PB p):∃o,im p [] 0=some o/\((iC (DB p) 0 p.bT.length=true/\∃l,o=.inl l/\MF p l p.bT.length)\/(iC (DB p) 0 p.bT.length=false/\o=.inr false)):=by
 have t:=h.fl
 have go:∀m k:Nat,k<=p.bT.length->p.bT.length - k=m->∀l,MF p l k->∃o,im p l (k:Int)=some o/\((iC (DB p) k p.bT.length=true/\∃l,o=.inl l/\MF p l p.bT.length)\/(iC (DB p) k p.bT.length=false/\o=.inr false)):=by
  intro m;induction m with
  | zero=>
   intro k h1 h2 l hl;have b:k=p.bT.length:=by omega
   rw[im,mg aol];subst b;exact⟨_,rfl,.inl ⟨IF,l,rfl,hl⟩⟩
  | succ m c=>
   intro k h1 h2 l hl;have b:k<p.bT.length:=by omega
   have d:FB (gF p k):=h.fb _ (Fl b)
   have f:yF l (gF p k).az=Fm p k:=by
    rw[akX,Fm,qa,yF];obtain⟨g,i⟩:=hl (gF p k).az;constructor
    ·intro hq;refine Classical.byContradiction λq=>?_;rw[i (λj hj he=>q ⟨j,hj,by simpa using he⟩)]at hq;cases hq
    ·rintro⟨j,hj,he⟩;rw[g j hj (by simpa using he)];rfl
   rw[im,an aol,Sj b,sb,EG b];show ∃o,(if yF l (gF p k).az=true then _ else(pq (gF p k)>>=_))=some o/\_;rw[f,(XM d).1,sb];rw[show DB p k=(!Fm p k&&isF (gF p k))from rfl];cases r:Fm p k with
   | true=>rw[an rfl];exact⟨_,rfl,.inr ⟨by simp,rfl⟩⟩
   | false=>
    rw[mg aop];cases hf:isF (gF p k)with
    | false=>rw[mg aop];exact⟨_,rfl,.inr ⟨by simp,rfl⟩⟩
    | true=>
     rw[an rfl,aT aol]
     obtain⟨o,e,s⟩:=c (k+1) aol aol (hZ l (gF p k).az (k:Int)) (λx=>by
      obtain⟨g,i⟩:=hl x;refine⟨λj hj he=>?_,λhn=>?_⟩
      ·rw[AW];by_cases a:x=(gF p k).az
       ·rw[an a];by_cases n:j=k
        ·rw[n]
        ·exfalso;have:Fm p k=true:=qa.2 ⟨j,by omega,by simp [he,a]⟩;rw[r]at this;cases this
       ·rw[mg a];by_cases n:j=k
        ·subst n;exact absurd he.symm a
        ·exact g j aol he
      ·rw[AW,mg (λa=>hn k aol a.symm)];exact i (λj hj=>hn j aol))
     refine⟨o,e,?_⟩;simpa using s
 exact go _ 0 (alc _) rfl [] (λx=>⟨λj hj=>absurd hj (akG _),λ_=>rfl⟩)
def okI (v:ae):Bool:=(decide (v.kw<=200)&&v.Fo)&&decide (v.bJ<=3)
theorem XN {v:ae} (hv:v.wt<=2000000):pr v=some (decide (v.kw<=200)&&v.Fo):=by
 unfold pr;rw[KX _ (No _) v hv,sb,BB _ (No _) v hv];by_cases h:v.kw<=200
 ·rw[an aol,sb,ala h];rfl
 ·rw[mg aol,akI h];rfl
theorem XO {v:ae} (h:v.Fo=true):0<=v.bJ:=by
 cases v with
 | mk k n s x l=>
  rw[II]at h;simp only[ae.cu];refine Classical.byContradiction λa=>?_;rw[mg aol,mg aol,mg aol,mg aol,mg aol,mg aol]at h;simp at h
def DC (c:aN) (k:Nat):Bool:=KW (λj=>decide ((gD c j).az=(gD c k).az)) k
def BC (c:aN) (k:Nat):Bool:=(!DC c k&&uD (gD c k).az)&&okI (gD c k).bR
theorem aao {c:aN} (h:CB c):ez c 0=some (if iC (BC c) 0 c.bp.length=true then .inl ()else .inr (.inr (.inr false))):=by
 have f:=h.fs;refine pJ (L:=ez c) _ _ _ _ (λk a=>?_) (by rw[ez,mg aol]);have hw:(gD c k).bR.wt<=2000000:=h.iw _ (Fl a)
 have inner:∀(v:Bool) (x y:aU),dD v c x y (k:Int) 0=some (if DC c k=true then .inr (.inr (.inr (.inr false)))else .inl (x.bR.bJ,(decide (x.bR.bJ>3)),y.az,v,(!v))):=λv x y=>by
  have e:=pJ (L:=λq=>dD v c x y (k:Int) q) (λj=>!decide ((gD c j).az=(gD c k).az)) k (.inl (x.bR.bJ,(decide (x.bR.bJ>3)),y.az,v,(!v))) (.inr (.inr (.inr (.inr false)))) (λj hj=>by
   show(_->dD v c x y (k:Int) (j:Int)=_)/\(_->dD v c x y (k:Int) (j:Int)=_)
   have b:dD v c x y (k:Int) (j:Int)=if(gD c j).az=(gD c k).az then some (.inr (.inr (.inr (.inr false))))else dD v c x y (k:Int) ((j+1:Nat):Int):=by
    rw[dD,an aol,aan (show j<c.bp.length by omega),sb,aan a,sb,aT aol]
   rw[b];exact⟨λhq=>mg aoM,λhq=>an aoM⟩) (by
   show dD v c x y (k:Int) (k:Int)=_;rw[dD,mg aol])
  refine e.trans ?_
  have d:iC (λj=>!decide ((gD c j).az=(gD c k).az)) 0 k=!DC c k:=by
   rw[akX,yh,akY,amg,Ne,DC,qa];constructor
   ·rintro hq ⟨j,h1,h2⟩;have:=hq j (alc _) h1;rw[h2]at this;cases this
   ·intro hq j _ hj;cases hd:decide ((gD c j).az=(gD c k).az)with
    | false=>rfl
    | true=>exact absurd ⟨j,hj,hd⟩ hq
  rw[d];cases DC c k<;>rfl
 have this:ez c (k:Int)=if BC c k=true then ez c ((k+1:Nat):Int)else some (.inr (.inr (.inr false))):=by
  rw[ez,an aol,aan a,sb];show((m22 (gD c k).bR>>=_)>>=_)=_;rw[XP hw,sb,aT aol];unfold BC okI;cases hv:(decide ((gD c k).bR.kw<=200)&&(gD c k).bR.Fo)with
  | false=>rw[mg aop,sb];simp
  | true=>
   rw[an rfl,sb];show((if(gD c k).bR.bJ>3 then _ else _)>>=_)=_;by_cases h3:(gD c k).bR.bJ>3
   ·rw[an h3,sb,akI (by omega:¬(gD c k).bR.bJ<=3)];simp
   ·rw[mg h3,ala (by omega:(gD c k).bR.bJ<=3),sb];show((iP (gD c k).az>>=_)>>=_)=_;rw[XH,sb];cases hg:uD (gD c k).az with
    | false=>rw[mg aop,sb];simp
    | true=>
     rw[an rfl,inner,sb];cases g:DC c k with
     | true=>simp
     | false=>simp
 rw[this];exact anP
theorem aap {c:aN} (h:CB c):dR c [] 0=some (if iC (BC c) 0 c.bp.length=true then .inl ()else .inr (.inr (.inr false))):=by
 have f:=h.fs;refine yi (L:=λl y=>dR c l y) (BC c) c.bp.length _ _ (λl k=>∀x,wX l x false=true↔∃j,j<k/\(gD c j).az=x) (λl k d hi=>?_) (λl hi=>?_) c.bp.length 0 [] aol (alc _) (λx=>⟨λh=>by simp [wX,jI]at h,λ⟨j,h,_⟩=>absurd h (akG _)⟩)
 ·have hw:(gD c k).bR.wt<=2000000:=h.iw _ (Fl d)
  have e:wX l (gD c k).az false=DC c k:=by
   rw[akX,hi,DC,qa];exact anO
  have this:dR c l (k:Int)=if BC c k=true then dR c (hZ l (gD c k).az true) ((k+1:Nat):Int)else some (.inr (.inr (.inr false))):=by
   rw[dR,an aol,aan d,sb];show(if wX l (gD c k).az false=true then _ else(fX (gD c k).az>>=_))=_;rw[e,XG,sb];unfold BC okI;cases g:DC c k with
   | true=>rw[an rfl];simp
   | false=>
    rw[mg aop];cases hg:uD (gD c k).az with
    | false=>rw[mg aop];simp
    | true=>
     rw[an rfl];show(pr (gD c k).bR>>=_)=_;rw[XN hw,sb];cases hv:(decide ((gD c k).bR.kw<=200)&&(gD c k).bR.Fo)with
     | false=>rw[mg aop];simp
     | true=>
      have b:=XO (show(gD c k).bR.Fo=true by simp only[An]at hv;exact hv.2);rw[an rfl];show(FR (gD c k).bR.bJ 0 3>>=_)=_;rw[Av,sb,aT aol];by_cases h3:(gD c k).bR.bJ<=3
      ·rw[an (by simp [b,h3]),an (by simp [h3])]
      ·rw[mg (by simp [h3]),mg (by simp [h3])]
  simp only[this];refine⟨λhc=>⟨hZ l (gD c k).az true,λx=>?_,by rw[an hc]⟩,λhc=>mg (by rw[hc];decide)⟩;rw[Az];by_cases a:x=(gD c k).az
  ·rw[an a];exact⟨λ_=>⟨k,by omega,a.symm⟩,λ_=>rfl⟩
  ·rw[mg a,hi];constructor
   ·rintro⟨j,q1,q2⟩;exact⟨j,by omega,q2⟩
   ·rintro⟨j,q1,q2⟩;rcases ama.1 q1 with q | rfl
    ·exact⟨j,q,q2⟩
    ·exact absurd q2.symm a
 ·show dR c l _=_;rw[dR,mg aol]
def Kq (f:aW):Bool:=(nh f).getD false
theorem Tr (f:aW):nh f=some (Kq f)/\pn f=some (Kq f):=by
 obtain⟨b,a,e2⟩:=XL f;unfold Kq;rw[a,e2];exact aog
def Ts (p:bb) (s:bZ):Int:=(fu p s).getD (-1)
def US (c:aN) (k:Nat):bZ:=((gM c k).tq++[58,58])++(gM c k).az
def wv (p:bb) (c:aN) (k:Nat):Bool:=decide (0<=Ts p (US c k))&&(!Kq (gF p (Ts p (US c k)).toNat)&&decide ((gF p (Ts p (US c k)).toNat).cx.length=0))
theorem Sk {p:bb} (hl:p.bT.length<=2000000) (s:bZ):fu p s=some (Ts p s)/\((Ts p s= -1/\∀j,j<p.bT.length->(gF p j).az≠s)\/∃j:Nat,j<p.bT.length/\Ts p s=(j:Int)/\(gF p j).az=s/\∀i,i<j->(gF p i).az≠s):=by
 obtain⟨r,e,h⟩:=findF p s hl;have:Ts p s=r:=by unfold Ts;rw[e];rfl
 rw[this];exact⟨e,h⟩
theorem XR {p:bb} {c:aN} (hp:PB p) (h:CB c):eD p c 0=some (if iC (wv p c) 0 c.bM.length=true then .inl ()else .inr (.inr false)):=by
 have g:=h.ms;refine pJ (L:=eD p c) _ _ _ _ (λk d=>?_) (by rw[eD,mg aol]);obtain⟨i,l⟩:(gM c k).tq.length<=2000000/\(gM c k).az.length<=2000000:=h.mn _ (Fl d);obtain⟨e,f⟩:=Sk hp.fl (US c k)
 have this:eD p c (k:Int)=if wv p c k=true then eD p c ((k+1:Nat):Int)else some (.inr (.inr false)):=by
  rw[eD,an aol,agD d,sb,GF aot,sb,sb,GF (by simp only[alj,akz,akD];omega),sb];show(fu p (US c k)>>=_)=_;rw[e,sb,aT aol];rcases f with⟨hn,_⟩ | ⟨j,h1,hj,_⟩
  ·rw[show wv p c k=false by unfold wv;rw[hn];rfl,hn,an aop,mg aop]
  ·rw[show wv p c k=(!Kq (gF p j)&&decide ((gF p j).cx.length=0)) by unfold wv;rw[hj,aky];simp,hj,mg aol,Sj h1,sb,sb];show(pn (gF p j)>>=_)=_;rw[(Tr _).2,sb];by_cases a:Kq (gF p j)=true
   ·rw[an a,a];simp
   ·have b:Kq (gF p j)=false:=by simpa using a
    rw[mg a,b];show(if((gF p j).cx.length:Int)>0 then _ else _)=_;by_cases hu:(gF p j).cx.length=0
    ·rw[mg aol,an (by simp [hu])]
    ·rw[an aol,mg (by simp [hu])]
 rw[this];exact anP
theorem XS {p:bb} {c:aN} (hp:PB p) (h:CB c) {l:List (bZ×Int)} (hl:MF p l p.bT.length) (a:List (bZ×Bool)):eE p l a c 0=some (if iC (wv p c) 0 c.bM.length=true then .inl (hZ a c.az true)else .inr (.inr false)):=by
 have q:=h.ms;refine pJ (L:=eE p l a c) _ _ _ _ (λk f=>?_) (by rw[eE,mg aol]);obtain⟨r,s⟩:(gM c k).tq.length<=2000000/\(gM c k).az.length<=2000000:=h.mn _ (Fl f);obtain⟨e,i⟩:=Sk hp.fl (US c k);obtain⟨g,m⟩:=hl (US c k)
 have this:eE p l a c (k:Int)=if wv p c k=true then eE p l a c ((k+1:Nat):Int)else some (.inr (.inr false)):=by
  rw[eE,an aol,agD f,sb,GF aot,sb,GF (by simp only[alj,akz,akD];omega),sb];show(if yF l (US c k)=true then(idx p.bT (wX l (US c k) 0)>>=_)else _)=_;rw[aT aol];rcases i with⟨hn,n⟩ | ⟨j,h1,hj,h2,_⟩
  ·have hm:yF l (US c k)=false:=by unfold yF;rw[m n];rfl
   rw[show wv p c k=false by unfold wv;rw[hn];rfl,hm,mg aop,mg aop]
  ·have hm:yF l (US c k)=true:=by unfold yF;rw[g j h1 h2];rfl
   have hg:wX l (US c k) 0=(j:Int):=by unfold wX;rw[g j h1 h2];rfl
   rw[show wv p c k=(!Kq (gF p j)&&decide ((gF p j).cx.length=0)) by unfold wv;rw[hj,aky];simp,hm,an rfl,hg,Sj h1,sb];show(nh (gF p j)>>=_)=_;rw[(Tr _).1,sb];by_cases b:Kq (gF p j)=true
   ·rw[an b,b];simp
   ·have d:Kq (gF p j)=false:=by simpa using b
    rw[mg b,d];show((idx p.bT (wX l (US c k) 0)>>=λo=>if(o.cx.length:Int)>0 then _ else _):Option _)=_;rw[hg,Sj h1,sb];by_cases hu:(gF p j).cx.length=0
    ·rw[mg aol,an (by simp [hu])]
    ·rw[an aol,mg (by simp [hu])]
 rw[this];exact anP
def Fp (p:bb) (k:Nat):Bool:=KW (λj=>decide ((gK p j).az=(gK p k).az)) k
def BD (p:bb) (k:Nat):Bool:=!Fp p k&&(iC (BC (gK p k)) 0 (gK p k).bp.length&&iC (wv p (gK p k)) 0 (gK p k).bM.length)
theorem XT {p:bb} (h:PB p):eR p 0=some (if iC (BD p) 0 p.bs.length=true then .inl ()else .inr false):=by
 have l:=h.cl;refine pJ (L:=eR p) _ _ _ _ (λk c=>?_) (by rw[eR,mg aol]);have a:CB (gK p k):=h.cb _ (Fl c);obtain⟨r,e,f⟩:=agE p (gK p k).az h.cl
 have b:r=(k:Int)↔Fp p k=false:=by
  rw[amg,Ne,Fp,qa];rcases f with⟨rfl,hn⟩ | ⟨j,h1,rfl,h2,h3⟩
  ·exact absurd rfl (hn k c)
  ·constructor
   ·intro d;rintro⟨i,q1,q2⟩;exact h3 i aol (by simpa using q2)
   ·intro hn;by_cases d:j=k
    ·rw[d]
    ·exfalso;by_cases g:j<k
     ·exact hn ⟨j,g,by simpa using h2⟩
     ·exact h3 k aol rfl
 have this:eR p (k:Int)=if BD p k=true then eR p ((k+1:Nat):Int)else some (.inr false):=by
  rw[eR,an aol,adZ c,sb];show((oh p.bs (gK p k).az>>=_)>>=_)=_;rw[e,sb,aT aol];unfold BD;by_cases h1:r=(k:Int)
  ·rw[an h1,b.1 h1];show(((ez (gK p k) 0)>>=_)>>=_)=_;rw[aao a,sb];cases m:iC (BC (gK p k)) 0 (gK p k).bp.length with
   | false=>simp [sb]
   | true=>
    simp only[akU];show((eD p (gK p k) 0)>>=_)=_;rw[XR h a,sb];cases n:iC (wv p (gK p k)) 0 (gK p k).bM.length<;>simp
  ·rw[mg h1,sb]
   have:Fp p k=true:=by
    cases hq:Fp p k with
    | true=>rfl
    | false=>exact absurd (b.2 hq) h1
   rw[this];simp
 rw[this];exact anP
theorem XU {p:bb} (h:PB p) {a:List (bZ×Int)} (hl:MF p a p.bT.length):eF p a [] 0=some (if iC (BD p) 0 p.bs.length=true then .inl ()else .inr false):=by
 have f:=h.cl;refine yi (L:=λl y=>eF p a l y) (BD p) p.bs.length _ _ (λl k=>∀x,wX l x false=true↔∃j,j<k/\(gK p j).az=x) (λl k d hi=>?_) (λl hi=>?_) p.bs.length 0 [] aol (alc _) (λx=>⟨λh=>by simp [wX,jI]at h,λ⟨j,h,_⟩=>absurd h (akG _)⟩)
 ·have b:CB (gK p k):=h.cb _ (Fl d)
  have e:wX l (gK p k).az false=Fp p k:=by
   rw[akX,hi,Fp,qa];exact anO
  have this:eF p a l (k:Int)=if BD p k=true then eF p a (hZ l (gK p k).az true) ((k+1:Nat):Int)else some (.inr false):=by
   rw[eF,an aol,adZ d,sb];show((if wX l (gK p k).az false=true then _ else((dR (gK p k) [] 0)>>=_))>>=_)=_;rw[e,aap b,sb,aT aol];unfold BD;cases g:Fp p k with
   | true=>rw[an rfl,sb];simp
   | false=>
    rw[mg aop];cases i:iC (BC (gK p k)) 0 (gK p k).bp.length with
    | false=>simp [sb]
    | true=>
     simp only[akU];show((eE p a l (gK p k) 0)>>=_)=_;rw[XS h b hl,sb];cases m:iC (wv p (gK p k)) 0 (gK p k).bM.length<;>simp
  simp only[this];refine⟨λhc=>⟨hZ l (gK p k).az true,λx=>?_,by rw[an hc]⟩,λhc=>mg (by rw[hc];decide)⟩;rw[Az];by_cases c:x=(gK p k).az
  ·rw[an c];exact⟨λ_=>⟨k,by omega,c.symm⟩,λ_=>rfl⟩
  ·rw[mg c,hi];constructor
   ·rintro⟨j,q1,q2⟩;exact⟨j,by omega,q2⟩
   ·rintro⟨j,q1,q2⟩;rcases ama.1 q1 with q | rfl
    ·exact⟨j,q,q2⟩
    ·exact absurd q2.symm c
 ·show eF p a l _=_;rw[eF,mg aol]
def isP (p:bb):Bool:=(decide (p.bT.length<=5000)&&decide (p.bs.length≠0))&&((decide ((gK p 0).az=([69,114,114,111,114]:bZ))&&(decide ((gK p 0).bp.length≠0)&&decide ((gD (gK p 0) 0).az=([109,101,115,115,97,103,101]:bZ))))&&(iC (DB p) 0 p.bT.length&&iC (BD p) 0 p.bs.length))
theorem ad2 {p:bb} (h:PB p):qO p=some (isP p)/\qN p=some (isP p):=by
 have e:=h.fl;unfold qO qN isP;by_cases h1:(p.bT.length:Int)>5000
 ·rw[an h1,an h1,akI (by omega:¬p.bT.length<=5000)];simp
 rw[mg h1,mg h1,ala (by omega:p.bT.length<=5000)];by_cases h2:(p.bs.length:Int)=0
 ·rw[an h2,an h2,akI (by omega:¬p.bs.length≠0)];simp
 rw[mg h2,mg h2,ala (by omega:p.bs.length≠0)];have b:idx p.bs 0=some (gK p 0):=KU (i:=0) aol;obtain⟨o,c,d⟩:=ad1 h;rw[c,sb,b,ad0 h,XT h];simp only[sb,Bool.and_self,alM];have hf:∀q:(gK p 0).bp.length≠0,idx (gK p 0).bp 0=some (gD (gK p 0) 0):=λq=>KU (i:=0) aol;constructor
 ·rcases d with⟨a,l,rfl,hl⟩ | ⟨a,rfl⟩
  ·simp only[XU h hl,sb,a];by_cases h3:(gK p 0).az=([69,114,114,111,114]:bZ)
   ·rw[an h3,ala h3];by_cases h4:(gK p 0).bp.length=0
    ·rw[an aol];simp [h4]
    ·rw[mg aol,hf h4,sb];by_cases h5:(gD (gK p 0) 0).az=([109,101,115,115,97,103,101]:bZ)
     ·rw[an h5,ala h5];cases iC (BD p) 0 p.bs.length<;>simp [h4]
     ·rw[mg h5,akI h5];simp
   ·rw[mg h3,akI h3];simp
  ·simp only[a];simp
 ·by_cases h3:(gK p 0).az=([69,114,114,111,114]:bZ)
  ·rw[an h3,ala h3];by_cases h4:(gK p 0).bp.length=0
   ·rw[an aol];simp [h4]
   ·rw[mg aol,hf h4,sb];by_cases h5:(gD (gK p 0) 0).az=([109,101,115,115,97,103,101]:bZ)
    ·rw[an h5,ala h5];cases iC (DB p) 0 p.bT.length<;>cases iC (BD p) 0 p.bs.length<;>simp [h4]
    ·rw[mg h5,akI h5];simp
  ·rw[mg h3,akI h3];simp
theorem ad3 (a b c:Int):FR a b c=some (decide (b<=a/\a<=c)):=AA a b c
theorem XV:∀(n:Nat),n<=2000000->∀v:ae,v.wt<=n->∃b,lI v=some b/\mU v=some b:=by
 intro n;induction n with
 | zero=>intro _ v hv;have:=rC v;omega
 | succ n e=>
  intro hn v hv;have g:=v.qY;have j:=yN v.al;rw[lI,mU];by_cases h4:v.bJ=4
  ·have go:∀(f k:Nat),v.al.length<=k+f->k<=v.al.length->(gN v (k:Int)=some (.inl ())/\gO v (k:Int)=some (.inl ()))\/(gN v (k:Int)=some (.inr (.inr false))/\gO v (k:Int)=some (.inr false)):=by
    intro f;induction f with
    | zero=>intro k h1 h2;rw[gN,gO,mg aol,mg aol];exact .inl ⟨rfl,rfl⟩
    | succ f c=>
     intro k h1 h2;rw[gN,gO];by_cases d:k<v.al.length
     ·have l:=xf _ _ (akx d);obtain⟨b,h,i⟩:=e aol v.al[k].aA aol;rw[an aol,an aol,bG d,sb,sb,h,i,sb,sb,aT aol];cases b
      ·exact .inr ⟨rfl,rfl⟩
      ·simp only[akU];exact c (k+1) aol aol
     ·rw[mg aol,mg aol];exact .inl ⟨rfl,rfl⟩
   rw[an h4,an h4];rcases go v.al.length 0 aol aol with⟨a,e2⟩ | ⟨a,e2⟩
   ·replace a:gN v 0=_:=a;replace e2:gO v 0=_:=e2;rw[a,e2];exact⟨_,rfl,rfl⟩
   ·replace a:gN v 0=_:=a;replace e2:gO v 0=_:=e2;rw[a,e2];exact⟨_,rfl,rfl⟩
  ·rw[mg h4,mg h4,ad3,AA];exact⟨_,rfl,rfl⟩
def plB (v:ae):Bool:=(lI v).getD false
theorem XW {v:ae} (h:v.wt<=2000000):lI v=some (plB v)/\mU v=some (plB v):=by
 obtain⟨b,a,e2⟩:=XV 2000000 (No _) v h;have:plB v=b:=by unfold plB;rw[a];rfl
 rw[this];exact⟨a,e2⟩
def gB (a:List aq) (k:Nat):aq:=a.getD k default
theorem aaq {a:List aq} {k:Nat} (h:k<a.length):idx a (k:Int)=some (gB a k):=by
 rw[bG h,gB,akv,Is h];rfl
theorem XX {a:List aq} {k:Nat} (h:k<a.length):gB a k∈a:=by
 rw[gB,akv,Is h];exact akx h
def DD (a:List aq) (k:Nat):Bool:=KW (λj=>decide ((gB a j).az=(gB a k).az)) k
def okB (v:ae):Bool:=(decide (v.kw<=200)&&v.Fo)&&plB v
def xh (a:List aq) (k:Nat):Bool:=(!DD a k&&(uD (gB a k).az&&!decide ((gB a k).az=([116,104,105,115]:bZ))))&&okB (gB a k).aA
section
variable {a:List aq}(hl:a.length<=2000000)(h:∀x∈a,x.aA.wt<=2000000)
include hl h
theorem agF:uh a=some (iC (xh a) 0 a.length):=by
 have e:fY a 0=some (if iC (xh a) 0 a.length=true then .inl ()else .inr false):=by
  refine pJ (L:=fY a) _ _ _ _ (λk c=>?_) (by rw[fY,mg aol]);have hw:(gB a k).aA.wt<=2000000:=h _ (XX c)
  have inner:dY a (k:Int) 0=some (if DD a k=true then .inr (.inr (.inr false))else .inl ()):=by
   have e:=pJ (L:=λq=>dY a (k:Int) q) (λj=>!decide ((gB a j).az=(gB a k).az)) k (.inl ()) (.inr (.inr (.inr false))) (λj hj=>by
    show(_->dY a (k:Int) (j:Int)=_)/\(_->dY a (k:Int) (j:Int)=_)
    have d:dY a (k:Int) (j:Int)=if(gB a j).az=(gB a k).az then some (.inr (.inr (.inr false)))else dY a (k:Int) ((j+1:Nat):Int):=by
     rw[dY,an aol,aaq (show j<a.length by omega),sb,aaq c,sb,aT aol]
    rw[d];exact⟨λhq=>mg aoM,λhq=>an aoM⟩) (by
    show dY a (k:Int) (k:Int)=_;rw[dY,mg aol])
   refine e.trans ?_
   have f:iC (λj=>!decide ((gB a j).az=(gB a k).az)) 0 k=!DD a k:=by
    rw[akX,yh,akY,amg,Ne,DD,qa];constructor
    ·rintro hq ⟨j,h1,h2⟩;have:=hq j (alc _) h1;rw[h2]at this;cases this
    ·intro hq j _ hj;cases hd:decide ((gB a j).az=(gB a k).az)with
     | false=>rfl
     | true=>exact absurd ⟨j,hj,hd⟩ hq
   rw[f];cases DD a k<;>rfl
  have this:fY a (k:Int)=if xh a k=true then fY a ((k+1:Nat):Int)else some (.inr false):=by
   rw[fY,an aol,inner,sb];unfold xh okB;cases g:DD a k with
   | true=>rw[an rfl,sb];simp
   | false=>
    rw[mg aop];dsimp only;rw[aaq c,sb,XH,sb];cases hg:uD (gB a k).az with
    | false=>rw[mg aop,sb];simp
    | true=>
     rw[an rfl,sb];by_cases b:(gB a k).az=([116,104,105,115]:bZ)
     ·rw[an b,sb];simp [b]
     ·rw[mg b,sb,XP hw,sb];cases hv:(decide ((gB a k).aA.kw<=200)&&(gB a k).aA.Fo)with
      | false=>rw[mg aop,sb];simp
      | true=>
       rw[an rfl,sb,(XW hw).2,sb,aT aol];cases hp:plB (gB a k).aA with
       | false=>rw[mg aop,sb];simp
       | true=>rw[an rfl,sb];simp [b]
  rw[this];exact anP
 unfold uh;rw[e,sb];cases iC (xh a) 0 a.length<;>rfl
theorem agG:ui a=some (iC (xh a) 0 a.length):=by
 have e:fU a [] 0=some (if iC (xh a) 0 a.length=true then .inl ()else .inr false):=by
  refine yi (L:=λl y=>fU a l y) (xh a) a.length _ _ (λl k=>∀x,wX l x false=true↔∃j,j<k/\(gB a j).az=x) (λl k d hi=>?_) (λl hi=>?_) a.length 0 [] aol (alc _) (λx=>⟨λh=>by simp [wX,jI]at h,λ⟨j,h,_⟩=>absurd h (akG _)⟩)
  ·have hw:(gB a k).aA.wt<=2000000:=h _ (XX d)
   have e:wX l (gB a k).az false=DD a k:=by
    rw[akX,hi,DD,qa];exact anO
   have this:fU a l (k:Int)=if xh a k=true then fU a (hZ l (gB a k).az true) ((k+1:Nat):Int)else some (.inr false):=by
    rw[fU,an aol,aaq d,sb,XG,sb];unfold xh okB;cases hg:uD (gB a k).az with
    | false=>rw[mg aop];simp
    | true=>
     rw[an rfl];by_cases b:(gB a k).az=([116,104,105,115]:bZ)
     ·rw[an b];simp [b]
     ·rw[mg b,e];cases f:DD a k with
      | true=>rw[an rfl];simp
      | false=>
       rw[mg aop,XN hw,sb];cases hv:(decide ((gB a k).aA.kw<=200)&&(gB a k).aA.Fo)with
       | false=>rw[mg aop];simp
       | true=>
        rw[an rfl,(XW hw).1,sb,aT aol];cases hp:plB (gB a k).aA with
        | false=>rw[mg aop];simp
        | true=>rw[an rfl];simp [b]
   simp only[this];refine⟨λhc=>⟨hZ l (gB a k).az true,λx=>?_,by rw[an hc]⟩,λhc=>mg (by rw[hc];decide)⟩;rw[Az];by_cases c:x=(gB a k).az
   ·rw[an c];exact⟨λ_=>⟨k,by omega,c.symm⟩,λ_=>rfl⟩
   ·rw[mg c,hi];constructor
    ·rintro⟨j,q1,q2⟩;exact⟨j,by omega,q2⟩
    ·rintro⟨j,q1,q2⟩;rcases ama.1 q1 with q | rfl
     ·exact⟨j,q,q2⟩
     ·exact absurd q2.symm c
  ·show fU a l _=_;rw[fU,mg aol]
 unfold ui;rw[e,sb];cases iC (xh a) 0 a.length<;>rfl
end
theorem XY {a:List aq} (h:iC (xh a) 0 a.length=true):∀x∈a,x.aA.Fo=true/\x.aA.kw<=200:=λx b=>by
 obtain⟨i,hi,rfl⟩:=alq.1 b;have:=yh.1 h i (alc _) hi;unfold xh okB at this;simp only[An,akO]at this;have e:gB a i=a[i]:=by rw[gB,akv,Is hi];rfl
 rw[e]at this;exact⟨this.2.1.2,this.2.1.1⟩
theorem Tt (n:Nat) (hn:n<=100000) (a:List Int) (h1:a.length=n):∀(f k:Nat) (l:List Int),n<=k+f->k<=n->l.length=n->(∀j,j<k->l[j]? =some (-1))->
  oQ a l (k:Int)=some (List.replicate n (-1))
 | f,k,l,hf,b,hl,hj=>by
  rw[oQ];by_cases hc:k<n
  ·obtain⟨g,rfl⟩:∃g,f=g+1:=⟨f - 1,by omega⟩;rw[an aol,bG aol,sb,aT aol,aky];refine Tt n hn a h1 g (k+1) _ aol aol (by simpa using hl) (λj h=>?_);rw[alB];by_cases q:k=j
   ·rw[an q,an aol]
   ·rw[mg q];exact hj j aol
  ·rw[mg aol];congr 1;refine List.ext_getElem? λj=>?_;by_cases q:j<n
   ·rw[hj j aol,amc,an q]
   ·rw[akT aol,akT aoq]
theorem IJ (n:Nat) (hn:n<=100000):ug (n:Int)=some (List.replicate n (-1)):=by
 unfold ug
 have em:(qw 8 (n:Int) (n:Int):Option (List Int))=some (List.replicate n default):=by
  unfold qw;rw[an ⟨by omega,by omega,by omega,by omega⟩];rfl
 have:=Tt n hn (List.replicate n default) aon n 0 (List.replicate n default) aol aol aon (λj h=>absurd h aol);rw[show((0:Nat):Int)=0 from rfl]at this;rw[em,sb,this,sb]
def Pw (n:Nat):Prop:=n=8\/n=16\/n=32\/n=64\/n=128\/n=256\/n=512\/n=1024
theorem Pw.bd {n:Nat} (h:Pw n):8<=n/\n<=1024:=by rcases h with h | h | h | h | h | h | h | h<;>omega
theorem size_eq (a:ba) (c:Nat) (hc:a.bq=(c:Int)) (h:c<=1000):∃n:Nat,eJ a 8=some (n:Int)/\Pw n/\c<n:=by
 have st:∀y:Nat,y<=1024->eJ a (y:Int)=if y<=c then eJ a ((2*y:Nat):Int)else some (y:Int):=λy hy=>by
  rw[eJ,hc];by_cases q:y<=c
  ·rw[an aol,an q];have e:af ((y:Int)*2)=((2*y:Nat):Int):=Fk aol aol;rw[e]
  ·rw[mg aol,mg q]
 have g:=st 8 aol;have b:=st 16 aol;have d:=st 32 aol;have f:=st 64 aol;have j:=st 128 aol;have k:=st 256 aol;have i:=st 512 aol;have l:=st 1024 aol;rw[show((8:Nat):Int)=8 from rfl]at g;by_cases q1:8<=c
 case neg=>rw[mg q1]at g;exact⟨8,g,.inl rfl,by omega⟩
 rw[an q1]at g;by_cases q2:16<=c
 case neg=>rw[mg q2]at b;exact⟨16,g.trans b,.inr (.inl rfl),by omega⟩
 rw[an q2]at b;by_cases q3:32<=c
 case neg=>rw[mg q3]at d;exact⟨32,g.trans (b.trans d),.inr (.inr (.inl rfl)),by omega⟩
 rw[an q3]at d;by_cases q4:64<=c
 case neg=>rw[mg q4]at f;exact⟨64,g.trans (b.trans (d.trans f)),.inr (.inr (.inr (.inl rfl))),by omega⟩
 rw[an q4]at f;by_cases m:128<=c
 case neg=>rw[mg m]at j;exact⟨128,g.trans (b.trans (d.trans (f.trans j))),.inr (.inr (.inr (.inr (.inl rfl)))),by omega⟩
 rw[an m]at j;by_cases o:256<=c
 case neg=>rw[mg o]at k;exact⟨256,g.trans (b.trans (d.trans (f.trans (j.trans k)))),.inr (.inr (.inr (.inr (.inr (.inl rfl))))),by omega⟩
 rw[an o]at k;by_cases p:512<=c
 case neg=>rw[mg p]at i;exact⟨512,g.trans (b.trans (d.trans (f.trans (j.trans (k.trans i))))),.inr (.inr (.inr (.inr (.inr (.inr (.inl rfl)))))),by omega⟩
 rw[an p]at i;rw[mg aol]at l;exact⟨1024,g.trans (b.trans (d.trans (f.trans (j.trans (k.trans (i.trans l)))))),.inr (.inr (.inr (.inr (.inr (.inr (.inr rfl)))))),by omega⟩
theorem Tu (s:bZ) (hs:s.length<=1000):∀(f k:Nat) (y:Int),s.length<=k+f->k<=s.length->0<=y->y<2147483647->
  ∃z,nI s y (k:Int)=some z/\nJ s y (k:Int)=some z/\0<=z/\z<2147483647
 | f,k,y,hf,e,h0,h1=>by
  rw[nI,nJ];by_cases hc:k<s.length
  ·obtain⟨g,rfl⟩:∃g,f=g+1:=⟨f - 1,by omega⟩;have h:((s.getD k 0).toNat:Int)<256:=by have:=(s.getD k 0).toNat_lt;omega
   rw[an aol,an aol,yg hc,sb,sb,aT aol];have a:af (y*1000003)=y*1000003:=by rw[af,Ij aol aol]
   have e2:af ((s.getD k 0).toNat:Int)=((s.getD k 0).toNat:Int):=by rw[af,Ij aol aol]
   have c:af (y*1000003+((s.getD k 0).toNat:Int))=y*1000003+((s.getD k 0).toNat:Int):=by rw[af,Ij aol aol]
   have d:af (y*1000003+((s.getD k 0).toNat:Int)+13)=y*1000003+((s.getD k 0).toNat:Int)+13:=by rw[af,Ij aol aol]
   rw[a,e2,c,d];have hm:=alW (b:=2147483647) (show 0<=y*1000003+((s.getD k 0).toNat:Int)+13 by omega);rw[hm];exact Tu s hs g (k+1) _ aol aol aol aol
  ·rw[mg aol,mg aol];exact⟨y,rfl,rfl,h0,h1⟩
def kh (k:cw):Int:=(mR k).getD 0
def KB (k:cw):Prop:=k.ck.length<=1000
theorem PK {k:cw} (h:KB k):mR k=some (kh k)/\oR k=some (kh k)/\0<=kh k/\kh k<2147483647:=by
 suffices q:∃z,mR k=some z/\oR k=some z/\0<=z/\z<2147483647 by
  obtain⟨z,a,b,c,d⟩:=q;have:kh k=z:=by unfold kh;rw[a];rfl
  rw[this];exact⟨a,b,c,d⟩
 have hl:k.ck.length<=1000:=h;unfold mR oR;by_cases e:k.dy=true
 ·obtain⟨z,a,b,c,d⟩:=Tu k.ck aol k.ck.length 0 11 aol aol aol aol;rw[show((0:Nat):Int)=0 from rfl]at a b;rw[an e,an e];unfold vh vi;rw[a,b];exact⟨z,rfl,rfl,c,d⟩
 ·rw[mg e,mg e];unfold Gw wR;have em:must ((2147483647:Int)≠0)=some ():=an aop;rw[AA,sb,an aop,em,sb,sb,mg aol,mg aol,sb];generalize g:k.bS.tmod 2147483647=r
  have r1: -2147483647<r/\r<2147483647:=by
   have h1:=Int.tmod_lt_of_pos k.bS (show(0:Int)<2147483647 by decide);have h2:=Int.lt_tmod_of_pos k.bS (show(0:Int)<2147483647 by decide);omega
  by_cases h0:0<=r
  ·have e2:af (r+2147483647)=r+2147483647:=by rw[af,Ij aol aol]
   have f:=alW (b:=2147483647) (show 0<=r+2147483647 by omega);rw[e2,f,mg aol,sb,sb];exact⟨r,by congr 1;omega,rfl,by omega,by omega⟩
  ·have e2:af (r+2147483647)=r+2147483647:=by rw[af,Ij aol aol]
   have f:=alW (b:=2147483647) (show 0<=r+2147483647 by omega);rw[e2,f,an aol,sb,sb];exact⟨r+2147483647,by congr 1;omega,rfl,by omega,by omega⟩
theorem Fq {k:cw} (h:vk k=true):KB k:=by
 unfold vk at h;unfold KB;by_cases a:k.dy=true
 ·rw[an a]at h;refine Decidable.byContradiction λhc=>?_;split at h
  ·first | cases h | (rw[mg aol]at h;cases h)
  ·cases h
 ·rw[mg a]at h;split at h
  ·have:k.ck=[]:=by simpa using h
   rw[this];exact alc _
  ·cases h
def Ch (n:Nat) (k:cw):Nat:=(kh k % (n:Int)).toNat
theorem IK {n:Nat} (hn:0<n) (k:cw):Ch n k<n:=by
 unfold Ch;have:=Int.emod_lt_of_pos (kh k) (show(0:Int)<n by omega);have:=Int.emod_nonneg (kh k) (show(n:Int)≠0 by omega);omega
theorem M9 {n:Nat} (hn:0<n) (h1:n<=1024) {k:cw} (h:KB k):wR (kh k) (n:Int)=some (Ch n k:Int)/\(kh k).tmod (n:Int)=(Ch n k:Int):=by
 obtain⟨_,_,h0,_⟩:=PK h
 have a:(kh k).tmod (n:Int)=(Ch n k:Int):=by
  rw[alW h0];unfold Ch;have:=Int.emod_nonneg (kh k) (show(n:Int)≠0 by omega);omega
 refine⟨?_,a⟩;unfold wR;have em:must ((n:Int)≠0)=some ():=an aol;rw[mg aol,mg aol,em,sb,a,mg aol]
def vA (n:Nat) (L:List aB):List Int:=(L.foldl (λ(t:List Int×Nat) s=>(t.1.set (Ch n s.bA) (t.2:Int),t.2+1)) (List.replicate n (-1),0)).1
theorem aas (n:Nat) (L:List aB):∀t:List Int×Nat,(L.foldl (λ(t:List Int×Nat) s=>(t.1.set (Ch n s.bA) (t.2:Int),t.2+1)) t).2=t.2+L.length:=by
 induction L with
 | nil=>intro t;rfl
 | cons s r a=>intro t;rw[List.foldl_cons,a];simp;omega
theorem Na (n:Nat):vA n []=List.replicate n (-1):=rfl
theorem PL (n:Nat) (L:List aB) (s:aB):vA n (L++[s])=(vA n L).set (Ch n s.bA) (L.length:Int):=by
 unfold vA;rw[List.foldl_append];simp only[List.foldl_cons,List.foldl_nil];rw[aas];simp
theorem AB {n:Nat} {L:List aB} {i:Nat} (h:i<L.length):vA n (L.take (i+1))=(vA n (L.take i)).set (Ch n L[i].bA) (i:Int):=by
 have e:L.take (i+1)=L.take i++[L[i]]:=(alu h).symm;rw[e,PL];congr 2;simp;omega
theorem mo (n:Nat) (L:List aB):(vA n L).length=n:=by
 have:∀m,m<=L.length->(vA n (L.take m)).length=n:=by
  intro m;induction m with
  | zero=>intro _;simp [Na]
  | succ m a=>intro h;rw[AB aol,alI];exact a aol
 have:=this L.length (No _)
 rwa [alT]at this
def lnk (n:Nat) (L:List aB) (i:Nat):Int:=if h:i<L.length then(vA n (L.take i)).getD (Ch n L[i].bA) 0 else 0
theorem Nb {n:Nat} {L:List aB} {i:Nat} (h:i<L.length):lnk n L i=(vA n (L.take i)).getD (Ch n L[i].bA) 0:=dif_pos h
theorem Sl {n:Nat} {L:List aB} {b:Nat} (h:b<n):idx (vA n L) (b:Int)=some ((vA n L).getD b 0):=by
 rw[bG (by rw[mo];exact h),akv,Is (by rw[mo];exact h)];rfl
def mN (L:List aB) (k:cw):Nat->Int
 | 0=> -1
 | m+1=>if ∃h:m<L.length,L[m].eY=true/\L[m].bA=k then(m:Int)else mN L k m
def Y2 (s:aB):aj:=aj.mk s.bA s.aA
def lv (L:List aB):List aj:=(L.filter (·.eY)).map Y2
theorem Nc (a b:List aB):lv (a++b)=lv a++lv b:=by unfold lv;rw[List.filter_append,alO]
theorem Nd (s:aB):lv [s]=if s.eY=true then[Y2 s]else[]:=by
 unfold lv;by_cases h:s.eY=true
 ·simp [h]
 ·simp [h]
theorem Tv {L:List aB} {i:Nat} (h:i<L.length):lv (L.take (i+1))=lv (L.take i)++(if L[i].eY=true then[Y2 L[i]]else[]):=by
 have e:L.take (i+1)=L.take i++[L[i]]:=(alu h).symm;rw[e,Nc,Nd]
theorem AD (L:List aB):(lv L).length<=L.length:=by unfold lv;rw[alC];exact List.length_filter_le _ _
theorem Nf {L:List aB} {e:aj}:e∈lv L↔∃s∈L,s.eY=true/\Y2 s=e:=by
 unfold lv;simp [akZ,List.mem_filter,and_assoc]
def zv (v:ae):Bool:=v.bJ==0&&v.bS==0&&v.ck==([]:bZ)&&v.aF==0&&v.al.length==0
def Lk (n:Nat) (L:List aB):Prop:=∀i (h:i<L.length),L[i].me=lnk n L i
def KV (nx:Int) (s:aB):Prop:=vk s.bA=true/\(s.bA.dy=true\/s.bA.bS<nx)/\(s.eY=true\/zv s.aA=true)
def Qp (L:List aB):Prop:=L.Pairwise λa b=>a.eY=true->b.eY=true->a.bA≠b.bA
theorem Qp.nodup {L:List aB} (h:Qp L):((lv L).map (·.bA)).Nodup:=by
 unfold lv;rw[List.map_map];unfold List.Nodup;rw[List.pairwise_map,List.pairwise_filter];exact h.imp λq h1 h2=>q h1 h2
theorem Qp.of {L:List aB} (h:((lv L).map (·.bA)).Nodup):Qp L:=by
 unfold lv at h;rw[List.map_map]at h;unfold List.Nodup at h;rw[List.pairwise_map,List.pairwise_filter]at h;exact h.imp λq h1 h2=>q h1 h2
theorem ad4 {L:List aB} (h:∀i (h:i<L.length),L[i].bA=cw.mk false (i:Int) []):Qp L:=by
 unfold Qp;rw[List.pairwise_iff_getElem];intro i j hi hj a _ _ e;rw[h i hi,h j hj]at e;injection e with _ e _;omega
inductive VC:ba->Prop
 | hashed (n:Nat) (L:List aB) (nx:Int) (h0:0<=nx/\nx<=1000000001) (hp:Pw n) (hl:L.length<=n) (hk:Lk n L) (hv:∀s∈L,KV nx s) (hd:Qp L):VC (ba.mk true (vA n L) L nx ((lv L).length:Int))
 | flat (L:List aB) (nx:Int) (h0:0<=nx/\nx<=1000000001) (h1:L.length<=1024) (hl:(L.length:Int)<=nx) (hk:∀i (h:i<L.length),L[i].bA=cw.mk false (i:Int) []/\L[i].me= -1) (hv:∀s∈L,KV nx s):VC (ba.mk false [] L nx ((lv L).length:Int))
theorem VC.aat {n:Nat} {L:List aB} {nx:Int} {c:Int} (h0:0<=nx/\nx<=1000000001) (hp:Pw n) (hl:L.length<=n) (a:Lk n L) (hv:∀s∈L,KV nx s) (hd:Qp L) (hc:c=((lv L).length:Int)):VC (ba.mk true (vA n L) L nx c):=by
 subst hc;exact VC.hashed n L nx h0 hp hl a hv hd
theorem VC.abw {L:List aB} {nx:Int} {c:Int} (h0:0<=nx/\nx<=1000000001) (h1:L.length<=1024) (hl:(L.length:Int)<=nx) (a:∀i (h:i<L.length),L[i].bA=cw.mk false (i:Int) []/\L[i].me= -1) (hv:∀s∈L,KV nx s) (hc:c=((lv L).length:Int)):VC (ba.mk false [] L nx c):=by
 subst hc;exact VC.flat L nx h0 h1 hl a hv
theorem KY (L:List aB) (k:cw):∀m,-1<=mN L k m/\mN L k m<(m:Int)
 | 0=>by unfold mN;omega
 | m+1=>by
  have:=KY L k m;unfold mN;split<;>omega
theorem IL {L:List aB} {k:cw} {m:Nat} (h:m<L.length) (h1:L[m].eY=true) (h2:L[m].bA=k):mN L k (m+1)=(m:Int):=an ⟨h,h1,h2⟩
theorem vB {L:List aB} {k:cw} {m:Nat} (h:m<L.length) (hn:¬(L[m].eY=true/\L[m].bA=k)):mN L k (m+1)=mN L k m:=mg λ⟨_,q⟩=>hn q
theorem AE (L:List aB) (k:cw):∀m,m<=L.length->(mN L k m= -1/\∀i (h:i<L.length),i<m->L[i].eY=true->L[i].bA≠k)\/∃j,∃h:j<L.length,mN L k m=(j:Int)/\L[j].eY=true/\L[j].bA=k
 | 0,_=>.inl ⟨rfl,λi h hi=>by omega⟩
 | m+1,hm=>by
  unfold mN;by_cases q:∃h:m<L.length,L[m].eY=true/\L[m].bA=k
  ·rw[an q];obtain⟨h,q1,q2⟩:=q;exact .inr ⟨m,h,rfl,q1,q2⟩
  ·rw[mg q];rcases AE L k m aol with⟨e,h⟩ | h
   ·refine .inl ⟨e,λi hi a q1 q2=>?_⟩;by_cases e:i=m
    ·subst e;exact q ⟨hi,q1,q2⟩
    ·exact h i hi aol q1 q2
   ·exact .inr h
theorem PM {n:Nat} (hn:0<n) {L:List aB} (hl:L.length<=2000) (f:Lk n L) (k:cw) (a:ba) (g:a.ah=L):∀m,m<=L.length->
  lT a k ((vA n (L.take m)).getD (Ch n k) 0)=some (if mN L k m<0 then .inl ()else .inr (mN L k m))
 | 0,_=>by
  have e:(vA n (L.take 0)).getD (Ch n k) 0= -1:=by
   rw[amu,Na,akv,amc,an (IK hn k)];rfl
  rw[e,lT,mg aol];rfl
 | m+1,hm=>by
  have b:m<L.length:=by omega
  have c:=PM hn hl f k a g m aol;by_cases e:Ch n L[m].bA=Ch n k
  ·have d:(vA n (L.take (m+1))).getD (Ch n k) 0=(m:Int):=by
    rw[AB b,akv,alB,an e,an (by rw[mo];exact IK hn _)];rfl
   have e2:L[m].me=(vA n (L.take m)).getD (Ch n k) 0:=by rw[f m b,Nb b,e]
   rw[d,lT,an aol,g,bG b,sb];by_cases q1:L[m].eY=true
   ·rw[an q1,sb];by_cases q2:L[m].bA=k
    ·rw[an q2,IL b q1 q2,mg aol]
    ·rw[mg q2,sb,e2,c,vB b (λq=>q2 q.2)]
   ·rw[mg q1,sb,e2,c,vB b (λq=>q1 q.1)]
  ·have d:(vA n (L.take (m+1))).getD (Ch n k) 0=(vA n (L.take m)).getD (Ch n k) 0:=by
    rw[AB b,akv,alB,mg e,<-akv]
   rw[d,c,vB b (λq=>e (by rw[q.2]))]
theorem X0 {n:Nat} (hn:0<n) {L:List aB} (hl:L.length<=2000) (f:Lk n L) (k:cw) (a:ba) (g:a.ah=L):∀m,m<=L.length->
  lV a k ((vA n (L.take m)).getD (Ch n k) 0)=some (if mN L k m<0 then .inl ()else .inr (mN L k m))
 | 0,_=>by
  have e:(vA n (L.take 0)).getD (Ch n k) 0= -1:=by
   rw[amu,Na,akv,amc,an (IK hn k)];rfl
  rw[e,lV,mg aol];rfl
 | m+1,hm=>by
  have b:m<L.length:=by omega
  have c:=X0 hn hl f k a g m aol;by_cases e:Ch n L[m].bA=Ch n k
  ·have d:(vA n (L.take (m+1))).getD (Ch n k) 0=(m:Int):=by
    rw[AB b,akv,alB,an e,an (by rw[mo];exact IK hn _)];rfl
   have e2:L[m].me=(vA n (L.take m)).getD (Ch n k) 0:=by rw[f m b,Nb b,e]
   rw[d,lV,an aol,g,bG b,sb];by_cases q1:L[m].eY=true
   ·rw[an q1,sb];by_cases q2:L[m].bA=k
    ·rw[an q2,IL b q1 q2,mg aol]
    ·rw[mg q2,sb,e2,c,vB b (λq=>q2 q.2)]
   ·rw[mg q1,sb,e2,c,vB b (λq=>q1 q.1)]
  ·have d:(vA n (L.take (m+1))).getD (Ch n k) 0=(vA n (L.take m)).getD (Ch n k) 0:=by
    rw[AB b,akv,alB,mg e,<-akv]
   rw[d,c,vB b (λq=>e (by rw[q.2]))]
theorem IM {t:ba} (h:VC t) (hl:t.ah.length<=1024) {k:cw} (r:KB k):tG t k=some (mN t.ah k t.ah.length):=by
 cases h with
 | hashed n L nx h0 hp hle m hv hd=>
  obtain⟨w,u⟩:=hp.bd;obtain⟨_,v,_,_⟩:=PK r;obtain⟨e2,_⟩:=M9 (show 0<n by omega) u r;have s:=PM (show 0<n by omega) (by dsimp only at hl;omega) m k (ba.mk true (vA n L) L nx ((lv L).length:Int)) rfl L.length (No _);rw[alT]at s;unfold tG;simp only[akU,v,mo,e2,sb,Sl (IK (show 0<n by omega) k),s];have:=KY L k L.length;by_cases q:mN L k L.length<0
  ·rw[an q];dsimp only;congr 1;omega
  ·rw[mg q]
 | flat L nx h0 h1 hle d hv=>
  have g:=AE L k L.length (No _);unfold tG;simp only[mg alx]
  have none:(∀i (h:i<L.length),L[i].eY=true->L[i].bA≠k)->mN L k L.length= -1:=λq=>by
   rcases g with⟨e,_⟩ | ⟨j,hj,_,q1,q2⟩
   ·exact e
   ·exact absurd q2 (q j hj q1)
  by_cases q1:k.dy=true
  ·rw[an q1,none (λi hi _ e=>by rw[<-e,(d i hi).1]at q1;cases q1)]
  rw[mg q1];by_cases q2:k.ck=([]:bZ)
  case neg=>rw[mg q2,none (λi hi _ e=>by rw[<-e,(d i hi).1]at q2;exact q2 rfl)]
  rw[an q2];by_cases q3:k.bS<0
  ·rw[an q3,none (λi hi _ e=>by rw[<-e,(d i hi).1]at q3;dsimp only at q3;omega)]
  rw[mg q3];by_cases q4:k.bS>=(L.length:Int)
  ·rw[an q4,none (λi hi _ e=>by rw[<-e,(d i hi).1]at q4;dsimp only at q4;omega)]
  rw[mg q4];obtain⟨j,hj⟩:∃j:Nat,k.bS=(j:Int):=⟨k.bS.toNat,by omega⟩;have f:j<L.length:=by omega
  have o:L[j].bA=k:=by
   rw[(d j f).1];obtain⟨a,b,c⟩:=k;simp at q1 q2 hj;subst q1 q2 hj;rfl
  rw[hj,bG f,sb];by_cases l:L[j].eY=true
  ·rw[an l];rcases g with⟨_,q⟩ | ⟨i,hi,e,_,q⟩
   ·exact absurd o (q j f f l)
   ·rw[e];rw[<-o,(d i hi).1,(d j f).1]at q;injection q with _ q _;rw[q]
  ·rw[mg l,none (λi hi p e=>by
    rw[<-o,(d i hi).1,(d j f).1]at e;injection e with _ e _;have:i=j:=by omega
    subst this;exact l p)]
theorem Lk.snoc {n:Nat} {L:List aB} {s:aB} (h:Lk n L) (hs:s.me=(vA n L).getD (Ch n s.bA) 0):Lk n (L++[s]):=by
 intro i hi;rw[Nb hi];by_cases q:i<L.length
 ·have e:(L++[s]).take i=L.take i:=List.take_append_of_le_length aol;have e2:(L++[s])[i]=L[i]:=alZ q;rw[e,e2,h i q,Nb q]
 ·have:i=L.length:=by simp at hi;omega
  subst this;have e2:(L++[s])[L.length]=s:=by simp
  have e:(L++[s]).take L.length=L:=List.take_left' rfl;rw[e2,e,hs]
def Y3 (n:Nat) (L:List aB) (k:cw) (v:ae):aB:=aB.mk k v true ((vA n L).getD (Ch n k) 0)
theorem ad5 {n:Nat} (hn:0<n) (h1:n<=1024) {L:List aB} (hl:L.length<=2000) {k:cw} (a:KB k) (v:ae) (nx:Int) (c:Nat) (hc:c<=2000):
  gY (ba.mk true (vA n L) L nx (c:Int)) k v=some (ba.mk true (vA n (L++[Y3 n L k v])) (L++[Y3 n L k v]) nx ((c+1:Nat):Int)):=by
 obtain⟨_,b,_,_⟩:=PK a;obtain⟨e2,_⟩:=M9 hn h1 a;have d:=IK hn k;unfold gY;simp only[akU,mo,b,e2,Sl d,sb,aky,aT (show c<9223372036854775807 by omega)];rw[oG aoq,sb,PL];rfl
def yP (n:Nat) (l:List aj):List aB:=l.foldl (λL e=>L++[Y3 n L e.bA e.aA]) []
theorem IP (n:Nat) (l:List aj) (e:aj):yP n (l++[e])=yP n l++[Y3 n (yP n l) e.bA e.aA]:=by unfold yP;rw[List.foldl_append];rfl
theorem K0 {n:Nat} (l:List aj):∀m,m<=l.length->Lk n (yP n (l.take m))/\lv (yP n (l.take m))=l.take m/\(yP n (l.take m)).length=m/\∀s∈yP n (l.take m),s.eY=true/\Y2 s∈l
 | 0,_=>⟨λi hi=>by simp [yP]at hi,rfl,rfl,λs hs=>by simp [yP]at hs⟩
 | m+1,hm=>by
  obtain⟨h1,h2,h3,h4⟩:=K0 (n:=n) l m aol;have e:l.take (m+1)=l.take m++[l[m]]:=(alu aol).symm;have a:aj.mk l[m].bA l[m].aA=l[m]:=by cases l[m];rfl
  rw[e,IP];refine⟨h1.snoc rfl,?_,by simp [h3],λs hs=>?_⟩
  ·rw[Nc,h2,Nd,an (show(Y3 n (yP n (l.take m)) l[m].bA l[m].aA).eY=true from rfl)];show _++[aj.mk l[m].bA l[m].aA]=_;rw[a]
  ·rcases akC.1 hs with hs | hs
   ·exact h4 s hs
   ·obtain rfl:=ali.1 hs;refine⟨rfl,?_⟩;show aj.mk l[m].bA l[m].aA∈l;rw[a];exact akx _
theorem yQ {n:Nat} (l:List aj):Lk n (yP n l)/\lv (yP n l)=l/\(yP n l).length=l.length/\∀s∈yP n l,s.eY=true/\Y2 s∈l:=by
 have:=K0 (n:=n) l l.length (No _)
 rwa [alT]at this
theorem Sn {n:Nat} (hn:0<n) (h1:n<=1024) (a:ba) (hl:a.ah.length<=1024) (hv:∀s∈a.ah,KB s.bA) (nx:Int):∀(f i:Nat),a.ah.length<=i+f->i<=a.ah.length->
  iM a true nx ((lv (a.ah.take i)).length:Int) (vA n (yP n (lv (a.ah.take i)))) (yP n (lv (a.ah.take i))) (i:Int)=some (true,nx,((lv a.ah).length:Int),vA n (yP n (lv a.ah)),yP n (lv a.ah))
 | f,i,hf,hi=>by
  rw[iM];by_cases hc:i<a.ah.length
  ·obtain⟨g,rfl⟩:∃g,f=g+1:=⟨f - 1,by omega⟩;have b:=Sn hn h1 a hl hv nx g (i+1) aol aol;have c:(lv (a.ah.take i)).length<=i:=by have:=AD (a.ah.take i);simp at this;omega
   rw[an aol,bG hc,sb,aT aol];rw[Tv hc]at b;by_cases q:a.ah[i].eY=true
   ·rw[an q]at b ⊢;have e2:=ad5 hn h1 (L:=yP n (lv (a.ah.take i))) (by rw[(yQ _).2.2.1];omega) (hv _ (akx hc)) a.ah[i].aA nx (lv (a.ah.take i)).length aol;rw[e2,sb];rw[IP]at b;rw[alj,akz,akD]at b;exact b
   ·rw[mg q]at b ⊢;rw[alv]at b;exact b
  ·have:i=a.ah.length:=by omega
   subst this;rw[mg aol,alT]
theorem PN (a:ba) (hl:a.ah.length<=900) (hv:∀s∈a.ah,KB s.bA) (hc:a.bq=((lv a.ah).length:Int)):
  ∃n,Pw n/\(lv a.ah).length<n/\lC a=some (ba.mk true (vA n (yP n (lv a.ah))) (yP n (lv a.ah)) a.aF ((lv a.ah).length:Int)):=by
 have:=AD a.ah;obtain⟨n,e,hp,b⟩:=size_eq a (lv a.ah).length hc aol;obtain⟨f,c⟩:=hp.bd;refine⟨n,hp,b,?_⟩;have e2:=Sn (n:=n) aol c a aol hv a.aF a.ah.length 0 aol aol;unfold lC;rw[e,sb,IJ n aol,sb,sb];have d:iM a true a.aF 0 (List.replicate n (-1)) [] 0=some (true,a.aF,((lv a.ah).length:Int),vA n (yP n (lv a.ah)),yP n (lv a.ah)):=e2;rw[d,sb]
theorem So (a b:Int):VR a b=some (if b>a then b else a):=by unfold VR;split<;>rfl
theorem VC.dis {t:ba} (h:VC t):Qp t.ah:=by
 cases h with
 | hashed n L nx h0 hp hle hl hv a=>exact a
 | flat L nx h0 h1 hle b hv=>exact ad4 λi hi=>(b i hi).1
theorem VC.kv {t:ba} (h:VC t):∀s∈t.ah,KV t.aF s:=by
 cases h with
 | hashed n L nx h0 hp hle hl hv a=>exact hv
 | flat L nx h0 h1 hle b hv=>exact hv
theorem VC.ct {t:ba} (h:VC t):t.bq=((lv t.ah).length:Int):=by cases h<;>rfl
theorem VC.nx {t:ba} (h:VC t):0<=t.aF/\t.aF<=1000000001:=by
 cases h with
 | hashed n L nx h0 hp hle hl hv a=>exact h0
 | flat L nx h0 h1 hle b hv=>exact h0
theorem X1 {L:List aB} (h:Qp L) {k:cw} (c:∀e∈lv L,e.bA≠k) {s:aB} (hs:s.bA=k):Qp (L++[s]):=by
 unfold Qp at*;rw[List.pairwise_append];refine⟨h,List.pairwise_singleton _ _,λa d b f h1 h2=>?_⟩;obtain rfl:=ali.1 f;rw[hs];exact c (Y2 a) (Nf.2 ⟨a,d,h1,rfl⟩)
def NF (nx:Int) (k:cw):Int:=if k.dy=true then nx else if af (k.bS+1)>nx then af (k.bS+1)else nx
theorem X2 {nx:Int} (h0:0<=nx/\nx<=1000000001) {k:cw} (b:vk k=true):nx<=NF nx k/\NF nx k<=1000000001/\(k.dy=true\/k.bS<NF nx k):=by
 unfold NF;by_cases a:k.dy=true
 ·rw[an a];exact⟨Int.le_refl _,h0.2,.inl a⟩
 ·rw[mg a];obtain⟨q1,q2⟩:=X3 b a;have e:af (k.bS+1)=k.bS+1:=by rw[af,Ij aol aol]
  rw[e];split<;>exact⟨by omega,by omega,.inr aol⟩
theorem abx {nx b:Int} (h:nx<=b) {s:aB} (q:KV nx s):KV b s:=⟨q.1,q.2.1.imp_right λa=>by omega,q.2.2⟩
structure Put (t:ba) (k:cw) (v:ae) (x:ba):Prop where
 vt:VC x
 nx:x.aF=NF t.aF k
 lv:Go.Am.lv x.ah=Go.Am.lv t.ah++[aj.mk k v]
 ln:x.ah.length<=t.ah.length+1
theorem M7 {n:Nat} (hp:Pw n) {L:List aB} {nx:Int} (h0:0<=nx/\nx<=1000000001) (hle:L.length<n) (hl:Lk n L) (hv:∀s∈L,KV nx s) (hd:Qp L) {k:cw} (c:vk k=true) (v:ae) (f:∀e∈lv L,e.bA≠k):
  ∃x,(gY (ba.mk true (vA n L) L nx ((lv L).length:Int)) k v>>=λa=>
   (if k.dy=true then some a else VR a.aF (af (k.bS+1))>>=λg=>some (ba.mk a.bC a.aG a.ah g a.bq)))=some x/\
   VC x/\x.aF=NF nx k/\lv x.ah=lv L++[aj.mk k v]/\x.ah.length=L.length+1:=by
 obtain⟨l,h⟩:=hp.bd;have hc:=AD L;rw[ad5 aol h aol (Fq c) v nx (lv L).length aol,sb];have d:lv (L++[Y3 n L k v])=lv L++[aj.mk k v]:=by rw[Nc,Nd,an (by rfl)];rfl
 have vt:VC (ba.mk true (vA n (L++[Y3 n L k v])) (L++[Y3 n L k v]) (NF nx k) (((lv L).length+1:Nat):Int)):=by
  obtain⟨i,n2,j⟩:=X2 h0 c;refine VC.aat ⟨by omega,n2⟩ hp aoq (hl.snoc rfl) (λs hs=>?_) (X1 hd f rfl) (by rw[d];simp);rcases akC.1 hs with q | q
  ·exact abx i (hv s q)
  ·obtain rfl:=ali.1 q;exact⟨c,j,.inl rfl⟩
 by_cases b:k.dy=true
 ·rw[an b];have:NF nx k=nx:=by unfold NF;rw[an b]
  rw[this]at vt;exact⟨_,rfl,vt,this.symm,d,by simp⟩
 ·rw[mg b,So,sb];have:NF nx k=if af (k.bS+1)>nx then af (k.bS+1)else nx:=by unfold NF;rw[mg b]
  rw[this]at vt;exact⟨_,rfl,vt,this.symm,d,by simp⟩
theorem ad6 {n:Nat} {L:List aB} {nx:Int} (hv:∀s∈L,KV nx s):∀s∈yP n (lv L),KV nx s:=λs hs=>by
 obtain⟨h1,h2⟩:=(yQ (n:=n) (lv L)).2.2.2 s hs;obtain⟨u,hu,_,e⟩:=Nf.1 h2
 have a:u.bA=s.bA:=by
  have:=congrArg aj.bA e;exact this
 obtain⟨q1,q2,_⟩:=hv u hu;rw[a]at q1 q2;exact⟨q1,q2,.inl h1⟩
theorem aau {n:Nat} {L:List aB} (h:Qp L):Qp (yP n (lv L)):=Qp.of (by rw[(yQ (n:=n) (lv L)).2.1];exact h.nodup)
theorem ajI {t:ba} (a:VC t) (hl:t.ah.length<=900) {k:cw} (c:vk k=true) (v:ae) (r:∀e∈lv t.ah,e.bA≠k) (h:mN t.ah k t.ah.length= -1):
  ∃x,lD t k v=some x/\Put t k v x:=by
 have j:=Fq c;have hc:=AD t.ah;have hd:=a.dis;have d:=a.kv;have h0:=a.nx;have z:=a.ct;unfold lD;rw[IM a aol j,h,sb,mg aol]
 have after:∀n (hp:Pw n) (u:(lv t.ah).length<n),∃x,(gY (ba.mk true (vA n (yP n (lv t.ah))) (yP n (lv t.ah)) t.aF ((lv t.ah).length:Int)) k v>>=λb=>
   (if k.dy=true then some b else VR b.aF (af (k.bS+1))>>=λA=>some (ba.mk b.bC b.aG b.ah A b.bq)))=some x/\Put t k v x:=λn hp u=>by
  obtain⟨B,f2,f3,F⟩:=yQ (n:=n) (lv t.ah);have:=M7 hp h0 (by rw[f3];exact u) B (ad6 d) (aau hd) c v (by rw[f2];exact r);rw[f2]at this;obtain⟨x,e,q1,q2,q3,q4⟩:=this;exact⟨x,e,q1,q2,q3,by rw[q4,f3];omega⟩
 cases a with
 | hashed n L nx _ hp hle l hv _=>
  dsimp only at*;simp only[akU,sb,mo];by_cases m:L.length=n
  ·obtain⟨f,o,g,p⟩:=PN (ba.mk true (vA n L) L nx ((lv L).length:Int)) hl (λs hs=>Fq (d s hs).1) rfl;rw[an aol,p,sb,sb];exact after f o g
  ·rw[mg aol,sb];obtain⟨x,e,q1,q2,q3,q4⟩:=M7 hp h0 (show L.length<n by omega) l d hd c v r;exact⟨x,e,q1,q2,q3,by rw[q4];exact No _⟩
 | flat L nx _ h1 hle C hv=>
  dsimp only at*;simp only[mg alx];by_cases he:k=cw.mk false (L.length:Int) []
  ·have D:gY (ba.mk false [] L nx ((lv L).length:Int)) k v=some (ba.mk false [] (L++[aB.mk k v true (-1)]) nx (((lv L).length+1:Nat):Int)):=by
    unfold gY;simp only[mg alx,sb];rw[oG aoq,sb,aT aol]
   have a:¬k.dy=true:=by rw[he];simp
   rw[an he,mg aol,sb];simp only[mg alx,sb];rw[D,sb,mg a,So,sb];obtain⟨E,n2,w⟩:=X2 h0 c;have en:NF nx k=if af (k.bS+1)>nx then af (k.bS+1)else nx:=by unfold NF;rw[mg a]
   have y:lv (L++[aB.mk k v true (-1)])=lv L++[aj.mk k v]:=by rw[Nc,Nd,an (by rfl)];rfl
   refine⟨_,rfl,?_,en.symm,y,by simp⟩;dsimp only;rw[<-en]
   have G:(L.length:Int)<NF nx k:=by
    have:=w.resolve_left a;rw[he]at this;rw[he];exact this
   refine VC.abw ⟨by omega,n2⟩ aoq aoq (λi hi=>?_) (λs hs=>?_) (by rw[y];simp)
   ·by_cases q:i<L.length
    ·rw[alZ q];exact C i q
    ·have:i=L.length:=by simp at hi;omega
     subst this;simp [he]
   ·rcases akC.1 hs with q | q
    ·exact abx E (d s q)
    ·obtain rfl:=ali.1 q;exact⟨c,w,.inl rfl⟩
  ·obtain⟨f,o,g,p⟩:=PN (ba.mk false [] L nx ((lv L).length:Int)) hl (λs hs=>Fq (d s hs).1) rfl;have f3:=(yQ (n:=f) (lv L)).2.2.1;rw[mg he,p,sb,sb];simp only[akU,mo];rw[mg (by dsimp only at g;omega),sb];exact after f o g
theorem aby (n:Nat) (hn:n<=1024) (a b:List Int) (c d:List aB):∀(f k:Nat),n<=k+f->k<=n->oZ (n:Int) a c (List.replicate k (-1)) d (k:Int)=some (a,c,List.replicate n (-1),d)
 | f,k,hf,e=>by
  rw[oZ];by_cases hc:k<n
  ·obtain⟨g,rfl⟩:∃g,f=g+1:=⟨f - 1,by omega⟩;rw[an aol,oG aoq,sb,aT aol,<-List.replicate_succ'];exact aby n hn a b c d g (k+1) aol aol
  ·have:k=n:=by omega
   subst this;rw[mg aol]
theorem DE (t:ba) (k:cw) (v:ae) (a:KB k) (hh:t.bC=true->0<t.aG.length/\t.aG.length<=1024):
  ng t k v=(gY t k v>>=λx=>(if k.dy=true then some x else VR x.aF (af (k.bS+1))>>=λy=>some (ba.mk x.bC x.aG x.ah y x.bq))):=by
 obtain⟨b,H,L,nx,c⟩:=t;obtain⟨d,e2,_,_⟩:=PK a;unfold ng gY;dsimp only at*;cases b
 ·rw[mg alx,mg alx,sb,sb];dsimp only;generalize qh 112 L _=q;cases q<;>rfl
 ·obtain⟨h1,h2⟩:=hh rfl;obtain⟨e,f⟩:=M9 h1 h2 a;have em:must ((H.length:Int)≠0)=some ():=an aol;rw[an rfl,an rfl,d,e2,sb,sb,em,sb,e,sb,f];generalize idx H (Ch H.length k:Int)=q;cases q
  ·rfl
  ·simp only[sb];generalize qh 112 L _=q;cases q<;>rfl
theorem Tw (a:ba) (c:Nat) (hc:a.bq=(c:Int)) (h:c<=1000):∀d y:Nat,c<y*2 ^ d->n7 a (y:Int)=eJ a (y:Int)
 | 0,y,hy=>by rw[n7,eJ,mg aol,mg aol]
 | d+1,y,hy=>by
  rw[n7,eJ];by_cases q:(y:Int)<=a.bq
  ·have b:af (2*(y:Int))=((2*y:Nat):Int):=Fk aol aol;have e2:af ((y:Int)*2)=((2*y:Nat):Int):=Fk aol aol;rw[an q,an q,b,e2];exact Tw a c hc h d (2*y) (by rw[amJ]at hy;rw[amG 2 y,Nat.mul_assoc,amG 2];exact hy)
  ·rw[mg q,mg q]
theorem aav (a:ba) (c:Nat) (hc:a.bq=(c:Int)) (h:c<=1000):oY a=eJ a 8:=by
 have:=Tw a c hc h 7 8 aol;unfold oY;rw[show((8:Nat):Int)=8 from rfl]at this;rw[this];cases eJ a 8<;>rfl
theorem ajJ {n:Nat} (hn:0<n) (h1:n<=1024) {L:List aB} (hl:L.length<=2000) {s:aB} {nx:Int} (hs:KV nx s) (c:Nat) (hc:c<=2000):
  ng (ba.mk true (vA n L) L nx (c:Int)) s.bA s.aA=some (ba.mk true (vA n (L++[Y3 n L s.bA s.aA])) (L++[Y3 n L s.bA s.aA]) nx ((c+1:Nat):Int)):=by
 rw[DE _ _ _ (Fq hs.1) (λ_=>by dsimp only;rw[mo];exact⟨hn,h1⟩),ad5 hn h1 hl (Fq hs.1) s.aA nx c hc,sb];by_cases a:s.bA.dy=true
 ·rw[an a]
 ·obtain⟨q1,q2⟩:=X3 hs.1 a;have q3:=hs.2.1.resolve_left a;have e:af (s.bA.bS+1)=s.bA.bS+1:=by rw[af,Ij aol aol]
  rw[mg a,So,sb,e,mg (by dsimp only;omega)]
theorem X4 {n:Nat} (hn:0<n) (h1:n<=1024) (a:ba) (hl:a.ah.length<=1024) (nx:Int) (hv:∀s∈a.ah,KV nx s):∀(f i:Nat),a.ah.length<=i+f->i<=a.ah.length->
  kj a true nx ((lv (a.ah.take i)).length:Int) (vA n (yP n (lv (a.ah.take i)))) (yP n (lv (a.ah.take i))) (i:Int)=some (true,nx,((lv a.ah).length:Int),vA n (yP n (lv a.ah)),yP n (lv a.ah))
 | f,i,hf,hi=>by
  rw[kj];by_cases hc:i<a.ah.length
  ·obtain⟨g,rfl⟩:∃g,f=g+1:=⟨f - 1,by omega⟩;have b:=X4 hn h1 a hl nx hv g (i+1) aol aol;have c:(lv (a.ah.take i)).length<=i:=by have:=AD (a.ah.take i);simp at this;omega
   rw[an aol,bG hc,sb,aT aol];rw[Tv hc]at b;by_cases q:a.ah[i].eY=true
   ·rw[an q]at b ⊢;have e2:=ajJ hn h1 (L:=yP n (lv (a.ah.take i))) (by rw[(yQ _).2.2.1];omega) (hv _ (akx hc)) (lv (a.ah.take i)).length aol;rw[sb,sb,e2,sb];rw[IP]at b;rw[alj,akz,akD]at b;exact b
   ·rw[mg q]at b ⊢;rw[alv]at b;exact b
  ·have:i=a.ah.length:=by omega
   subst this;rw[mg aol,alT]
theorem IQ (a:ba) (hl:a.ah.length<=900) (hv:∀s∈a.ah,KV a.aF s) (hc:a.bq=((lv a.ah).length:Int)):
  ∃(n:Nat) (x:ba),Pw n/\(lv a.ah).length<n/\lC a=some x/\oY a=some (n:Int)/\o6 a (n:Int)=some x/\x=ba.mk true (vA n (yP n (lv a.ah))) (yP n (lv a.ah)) a.aF ((lv a.ah).length:Int):=by
 have:=AD a.ah;obtain⟨n,e,hp,f⟩:=size_eq a (lv a.ah).length hc aol;obtain⟨g,c⟩:=hp.bd;refine⟨n,_,hp,f,?_,?_,?_,rfl⟩
 ·have e2:=Sn (n:=n) aol c a aol (λs hs=>Fq (hv s hs).1) a.aF a.ah.length 0 aol aol;unfold lC;rw[e,sb,IJ n aol,sb,sb];have b:iM a true a.aF 0 (List.replicate n (-1)) [] 0=some (true,a.aF,((lv a.ah).length:Int),vA n (yP n (lv a.ah)),yP n (lv a.ah)):=e2;rw[b,sb]
 ·rw[aav a _ hc aol,e]
 ·have e2:=X4 (n:=n) aol c a aol a.aF hv a.ah.length 0 aol aol;have d:=aby n aol [] [] [] [] n 0 aol aol;rw[show((0:Nat):Int)=0 from rfl,List.replicate_zero]at d;unfold o6;rw[d,sb];dsimp only;have b:kj a true a.aF 0 (List.replicate n (-1)) [] 0=some (true,a.aF,((lv a.ah).length:Int),vA n (yP n (lv a.ah)),yP n (lv a.ah)):=e2;rw[b,sb]
theorem EI {L:List aB} {k:cw} (h:∀e∈lv L,e.bA≠k):mN L k L.length= -1:=by
 rcases AE L k L.length (No _)with⟨e,_⟩ | ⟨j,hj,_,q1,q2⟩
 ·exact e
 ·exact absurd q2 (h (Y2 L[j]) (Nf.2 ⟨_,akx hj,q1,rfl⟩))
theorem aaw {t:ba} (h:VC t) (hl:t.ah.length<=900) {k:cw} (c:KB k) (a:∀e∈lv t.ah,e.bA≠k):tH t k=some (-1):=by
 have hn:=EI a;cases h with
 | hashed n L nx h0 hp hle b hv hd=>
  obtain⟨m,g⟩:=hp.bd;obtain⟨i,_,_,_⟩:=PK c;obtain⟨_,e2⟩:=M9 (show 0<n by omega) g c;have em:must ((n:Int)≠0)=some ():=an aol;have d:=X0 (show 0<n by omega) (by dsimp only at hl;omega) b k (ba.mk true (vA n L) L nx ((lv L).length:Int)) rfl L.length (No _);dsimp only at hn;rw[alT,hn,an aol]at d;unfold tH;simp only[akU,i,mo,em,e2,sb,Sl (IK (show 0<n by omega) k),d]
 | flat L nx h0 h1 hle o hv=>
  unfold tH;dsimp only at hl a ⊢;rw[mg alx];by_cases q1:k.dy=true
  ·rw[an q1]
  rw[mg q1];have l:af ((L.length:Int) - 1)=(L.length:Int) - 1:=by rw[af,Ij aol aol]
  rw[AA,sb,l];by_cases q2:0<=k.bS/\k.bS<=(L.length:Int) - 1
  ·obtain⟨j,hj⟩:∃j:Nat,k.bS=(j:Int):=⟨k.bS.toNat,by omega⟩;have f:j<L.length:=by omega
   rw[ala q2,an rfl,hj,bG f,sb];by_cases q3:L[j].eY=true
   ·rw[an q3,sb,mg (λe=>a (Y2 L[j]) (Nf.2 ⟨_,akx f,q3,rfl⟩) e)]
   ·rw[mg q3]
  ·rw[akI q2,mg aon]
theorem ad7 {t:ba} (b:VC t) (hl:t.ah.length<=900) {k:cw} (j:vk k=true) (v:ae) (c:∀e∈lv t.ah,e.bA≠k):
  ∃x,lD t k v=some x/\tI t k v=some (x,true)/\Put t k v x:=by
 have a:=Fq j;obtain⟨x,e,p⟩:=ajI b hl j v c (EI c);refine⟨x,e,?_,p⟩;have hc:=AD t.ah;have l:=b.kv;have o:=b.ct;unfold lD at e;rw[IM b aol a,EI c,sb,mg aol]at e;unfold tI;rw[aaw b hl a c,sb,mg aol,mg aol];cases b with
 | hashed n L nx _ hp hle r hv _=>
  dsimp only at*;obtain⟨u,w⟩:=hp.bd;simp only[akU,sb,mo]at e ⊢;by_cases f:L.length=n
  ·obtain⟨m,y,g,_,r1,h,i,d⟩:=IQ (ba.mk true (vA n L) L nx ((lv L).length:Int)) hl l rfl;rw[an aol,r1,sb,sb]at e;rw[an aol,h,sb,i,sb,DE _ _ _ a (λ_=>by have:=g.bd;rw[d];dsimp only;rw[mo];omega)];rw[e,sb]
  ·rw[mg aol,sb]at e;rw[mg aol,DE _ _ _ a (λ_=>by dsimp only;rw[mo];omega),e,sb]
 | flat L nx _ h1 hle z hv=>
  dsimp only at*;simp only[mg alx]at e ⊢;by_cases he:k=cw.mk false (L.length:Int) []
  ·rw[an he,mg aol,sb]at e;rw[an he,mg aol,sb];simp only[mg alx,sb]at e ⊢;rw[DE _ _ _ a (λq=>by cases q),e,sb]
  ·obtain⟨m,y,g,s,r1,h,i,d⟩:=IQ (ba.mk false [] L nx ((lv L).length:Int)) hl l rfl;have f3:=(yQ (n:=m) (lv L)).2.2.1;dsimp only at s;rw[mg he,r1,sb,sb,d]at e;rw[mg he,h,sb,i,sb,sb,d];simp only[akU,mo]at e ⊢;rw[mg aol,sb]at e;rw[mg aol,DE _ _ _ a (λ_=>by have:=g.bd;dsimp only;rw[mo];omega),e,sb]
theorem abz {α X:Type} (a:List α) {L:List α->Int->X} {fin:X} (hs:∀(k:Nat) (h:k<a.length),L (a.take k) (k:Int)=L (a.take (k+1)) ((k+1:Nat):Int)) (he:L a (a.length:Int)=fin):
  ∀f k:Nat,k<=a.length->a.length<=k+f->L (a.take k) (k:Int)=fin
 | f,k,b,hf=>by
  by_cases hc:k<a.length
  ·obtain⟨g,rfl⟩:∃g,f=g+1:=⟨f - 1,by omega⟩;rw[hs k hc];exact abz a hs he g (k+1) aol aol
  ·have:k=a.length:=by omega
   subst this;rw[alT];exact he
theorem cp0 {α X:Type} (a:List α) {L:List α->Int->X} {fin:X} (hs:∀(k:Nat) (h:k<a.length),L (a.take k) (k:Int)=L (a.take (k+1)) ((k+1:Nat):Int)) (he:L a (a.length:Int)=fin):L [] 0=fin:=by
 have:=abz a hs he a.length 0 (alc _) aol
 rwa [amu]at this
theorem K2 {α:Type} {b:Nat} {a:List α} {k:Nat} (h:k<a.length) (c:a.length*b<=140737488355328):qh b (a.take k) [a[k]]=some (a.take (k+1)):=by
 have h2:(k+1)*b<=a.length*b:=akJ b h;have h3:(a.take k).length=k:=by rw[alR];omega
 rw[oG (by rw[h3];exact alg h2 c),alu h]
theorem PO:∀(n:Nat),n<=2000000->∀v:ae,v.wt<=n->oX v=some v/\m46 v=some v:=by
 intro n;induction n with
 | zero=>intro _ v hv;have:=rC v;omega
 | succ n b=>
  intro hn v hv;have c:=v.qY;have f:=yN v.al
  have d:lU v [] 0=some v.al:=by
   refine cp0 v.al (L:=lU v) (λk a=>?_) (by rw[lU,mg aol]);have e:=xf _ _ (akx a);rw[lU,an aol,bG a,sb,sb,(b aol _ aol).1,sb,aj.eta,K2 a aol,sb,aT aol]
  have e2:BR v [] 0=some v.al:=by
   refine cp0 v.al (L:=BR v) (λk a=>?_) (by rw[BR,mg aol]);have e:=xf _ _ (akx a);rw[BR,an aol,bG a,sb,(b aol _ aol).2,sb,aj.eta,K2 a aol,sb,aT aol]
  rw[oX,m46,d,e2,sb];exact⟨congrArg some v.eta,congrArg some v.eta⟩
theorem sv {v:ae} (h:v.wt<=2000000):oX v=some v:=(PO 2000000 (No _) v h).1
theorem iv {v:ae} (h:v.wt<=2000000):m46 v=some v:=(PO 2000000 (No _) v h).2
theorem VL.get {x:Int} {l:List aj} (h:VL x l) {k:Nat} (d:k<l.length):vk l[k].bA=true/\(l[k].bA.dy=true\/l[k].bA.bS<x)/\l[k].aA.Fo=true/\∀j (hj:j<k),(l[j]'aol).bA≠l[k].bA:=by
 obtain⟨h1,h2⟩:=h;obtain⟨a,b,c⟩:=h1 _ (akx d);refine⟨a,b,c,λj hj e=>?_⟩;have:=List.pairwise_iff_getElem.1 h2 j k aoq (by simpa using d) hj;simp at this;exact this e
def wB (a:aS) (l:List aE):aS:=aS.mk a.cF a.cg a.dZ a.aF a.bO a.a8 (dL.mk l) a.bL a.bx a.de a.bW a.bF
section
variable (a:aS){l:List aE}(hl:l.length<=9000000)(h1:∀b∈l,b.bq=1)(t:ba)
include hl h1
theorem aax:mB (wB a l) t=some (ae.mk 5 (l.length:Int) [] 0 [],wB a (l++[aE.mk 1 t])):=by
 have go:∀m i:Nat,i<=l.length->l.length - i=m->gH (wB a l) t l [] (i:Int)=some (.inl (l,[])):=by
  intro m;induction m with
  | zero=>intro i q1 q2;rw[gH,mg (show ¬(i:Int)<((wB a l).cA.bw.length:Int)from(by omega:¬(i:Int)<(l.length:Int)))]
  | succ m c=>
   intro i q1 q2;have b:i<l.length:=by omega
   rw[gH,an (show(i:Int)<((wB a l).cA.bw.length:Int)from(by omega:(i:Int)<(l.length:Int))),bG b,sb,mg (by rw[h1 _ (akx b)];decide),aT aol,aky,List.set_getElem_self];exact c (i+1) aol aol
 have e:=go l.length 0 aol aol;unfold mB;show(gH (wB a l) t l [] 0>>=_)=_;rw[show(0:Int)=((0:Nat):Int)from rfl,e,sb];dsimp only;rw[oG aot,sb,Fk (n:=l.length) aon aol];rfl
theorem aay:tJ (wB a l) t=some (ae.mk 5 (l.length:Int) [] 0 [],wB a (l++[aE.mk 1 t])):=by
 have go:∀m i:Nat,i<=l.length->l.length - i=m->n8 (wB a l) (i:Int)=some (l.length:Int):=by
  intro m;induction m with
  | zero=>
   intro i q1 q2;have:i=l.length:=by omega
   subst this;rw[n8,mg (show ¬(l.length:Int)<((wB a l).cA.bw.length:Int)from(by omega:¬(l.length:Int)<(l.length:Int)))]
  | succ m c=>
   intro i q1 q2;have b:i<l.length:=by omega
   rw[n8,an (show(i:Int)<((wB a l).cA.bw.length:Int)from(by omega:(i:Int)<(l.length:Int)))];show(idx l (i:Int)>>=_)=_;rw[bG b,sb,an (by rw[h1 _ (akx b)];decide),aT aol];exact c (i+1) aol aol
 have e:=go l.length 0 aol aol;unfold tJ;rw[show(0:Int)=((0:Nat):Int)from rfl,e,sb];show((if(l.length:Int)=(l.length:Int)then(qh 80 l [aE.mk 0 (ba.mk false [] [] 0 0)]>>=λd=>some d)else some l)>>=_)=_;rw[an rfl,oG aot,sb,sb,bG aon,sb,aky,PQ];rfl
end
theorem X5 {L:List aB} (h:L.length=(lv L).length):∀s∈L,Y2 s∈lv L:=λs hs=>by
 unfold lv at h ⊢;rw[alC]at h;have:=List.length_filter_eq_length_iff.1 h.symm s hs;exact akZ.2 ⟨s,List.mem_filter.2 ⟨hs,this⟩,rfl⟩
theorem VC.heads {t:ba} (h:VC t):t.aG.length<=1024:=by
 cases h with
 | hashed n L nx h0 hp hle hl hv a=>have:=hp.bd;dsimp only;rw[mo];omega
 | flat L nx h0 h1 hle b hv=>exact alc _
theorem aaz {l:List aB} (h:∀s∈l,s.aA.wt=1):zS xd l=l.length:=by
 induction l with
 | nil=>rfl
 | cons x l a=>rw[ra,a (λs hs=>h s (akP _ hs)),akz];have:=h x (List.mem_cons_self ..);unfold xd zV;omega
theorem abA {v:ae} (h:v.wt=1):v.al=[]:=by
 have h1:=v.qY;have h2:=yN v.al;exact aml.1 aol
def Onc (l:List aE):Prop:=∀b∈l,b.bq=1/\∀s∈b.aP.ah,s.aA.al=[]
structure Sto (l:List aE) (w:Nat) (l':List aE):Prop where
 on:Onc l'
 le:l'.length<=l.length+w
 z:zS qp l'<=zS qp l+1300*w
theorem X6:∀n:Nat,n<=2000000->∀v:ae,v.wt<=n->v.Fo=true->v.kw<=200->∀l:List aE,l.length+v.wt<=9000000->Onc l->
  ∃(r:ae) (l':List aE),(∀a:aS,jD (wB a l) v=some (r,wB a l')/\iG (wB a l) v=some (r,wB a l'))/\r.wt=1/\Sto l v.wt l':=by
 intro n;induction n with
 | zero=>intro _ v hv;have:=rC v;omega
 | succ n N=>
  intro hn v hv zF C l d o;have D:=v.qY;by_cases m:v.bJ=4
  case neg=>
   have h1:v.al=[]:=by
    cases v with
    | mk k n s x it=>
     rw[II]at zF;simp only[An,alw,akO,List.isEmpty_iff]at zF;simp only[ae.cu]at m;simp only[ae.bQ];exact(zF.1.2.resolve_left m).2
   refine⟨v,l,λa=>?_,?_,o,by omega,by omega⟩
   ·rw[jD,iG,mg m,mg m,iv aol,sb];exact aog
   ·rw[D,h1,Ty]
  obtain⟨_,_,R,E⟩:=(aaA m).1 zF;have S:aj.Jv v.al<=199:=by rw[v.DF,an m]at C;omega
  have T:∀l:List aj,l.length<=aj.Jv l:=λl=>by
   induction l with
   | nil=>exact alc _
   | cons x l N=>rw[DG,akz];have:=ad8 x.aA;omega
  have hlen:=T v.al
  have go:∀(f k:Nat) (l:List aE) (t:ba),v.al.length<=k+f->k<=v.al.length->VC t->t.ah.length=(lv t.ah).length->(lv t.ah).map (·.bA)=(v.al.take k).map (·.bA)->
    (∀e∈lv t.ah,e.aA.wt=1)->Onc l->l.length+aj.Dx (v.al.drop k)<=9000000->
    ∃(l':List aE) (c:ba),(∀(a:aS) (p:List aE),gJ (wB a p) v a.cF a.cg a.dZ a.aF a.bF.dW l [] t.bC t.aF t.bq t.aG t.ah (k:Int)=some (a.cF,a.cg,a.dZ,a.aF,a.bF.dW,l',[],c.bC,c.aF,c.bq,c.aG,c.ah)/\
     fW (wB a p) v a.cF a.cg a.dZ a.aF a.bF.dW l [] t.bC t.aF t.bq t.aG t.ah (k:Int)=some (a.cF,a.cg,a.dZ,a.aF,a.bF.dW,l',[],c.bC,c.aF,c.bq,c.aG,c.ah))/\
     Sto l (aj.Dx (v.al.drop k)) l'/\c.aG.length<=1024/\c.ah.length<=v.al.length/\(∀s∈c.ah,s.aA.wt=1):=by
   intro f;induction f with
   | zero=>
    intro k l t h1 h2 y F q A o G;refine⟨l,t,λa p=>?_,⟨o,by omega,by omega⟩,y.heads,?_,λs hs=>A _ (X5 F s hs)⟩
    ·rw[gJ,fW,mg aol,mg aol];exact aog
    have:=congrArg List.length q;simp only[alC,alR]at this;omega
   | succ f H=>
    intro k l t h1 h2 y F q A o G;by_cases hc:k<v.al.length
    case neg=>
     refine⟨l,t,λa p=>?_,⟨o,by omega,by omega⟩,y.heads,?_,λs hs=>A _ (X5 F s hs)⟩
     ·rw[gJ,fW,mg aol,mg aol];exact aog
     have:=congrArg List.length q;simp only[alC,alR]at this;omega
    have U:aj.Dx (v.al.drop k)=v.al[k].aA.wt+aj.Dx (v.al.drop (k+1)):=Ft hc;have V:=akx hc;have W:=AX V;obtain⟨q1,q2,q3,q4⟩:=VL.get E hc;have I:v.al[k].aA.kw<=200:=by have:=IU hc;have:=PR v.al k;omega
    obtain⟨r,X,O,Y,Z,c3,c4⟩:=N aol v.al[k].aA aol q3 I l aol o
    have xH:∀e∈lv t.ah,e.bA≠v.al[k].bA:=λe he heq=>by
     have:e.bA∈(v.al.take k).map (·.bA):=by rw[<-q];exact akZ.2 ⟨e,he,rfl⟩
     obtain⟨j,hj,J⟩:=(PS aol).1 this;exact q4 j hj (J.trans heq)
    have Tb:t.ah.length<=200:=by
     have:=congrArg List.length q;simp only[alC,alR]at this;omega
    obtain⟨x,K,L,u⟩:=ad7 y aol q1 r xH;have aa:(lv x.ah).length=(lv t.ah).length+1:=by rw[u.lv];simp
    have M:x.ah.length=(lv x.ah).length:=by have:=AD x.ah;have:=u.ln;omega
    obtain⟨l',c,w,g,P,Q,B⟩:=H (k+1) X x aol aol u.vt M (by
      rw[u.lv,alO,q,<-alu hc,alO];rfl) (λe he=>by
      rw[u.lv]at he;rcases akC.1 he with he | he
      ·exact A e he
      ·obtain rfl:=ali.1 he;exact Y) Z aol
    refine⟨l',c,λa p=>⟨?_,?_⟩,⟨g.on,by have:=g.le;omega,by have:=g.z;omega⟩,P,Q,B⟩
    ·rw[gJ,an aol,bG hc,sb];show(jD (wB a l) v.al[k].aA>>=_)=_;rw[(O a).1,sb];show(lD t v.al[k].bA r>>=_)=_;rw[K,sb,aT aol];exact(w a p).1
    ·rw[fW,an aol,bG hc,sb,sb];show(iG (wB a l) v.al[k].aA>>=_)=_;rw[(O a).2,sb];show(tI t v.al[k].bA r>>=_)=_;rw[L,sb,aT aol];exact(w a p).2
  obtain⟨l',c,w,g,P,Q,B⟩:=go v.al.length 0 l (ba.mk false [] [] 0 0) aol aol (VC.abw ⟨by omega,by omega⟩ aon aon (λi h=>by simp at h) (λs h=>by simp at h) rfl) rfl rfl (λe h=>by simp [lv]at h) o (by rw[ald];omega);rw[ald]at g;have hle:=g.le;have hz:=g.z;refine⟨ae.mk 5 (l'.length:Int) [] 0 [],l'++[aE.mk 1 (ba.mk c.bC c.aG c.ah v.aF c.bq)],λa=>⟨?_,?_⟩,?_,?_,?_,?_⟩
  ·rw[jD,an m];show(gJ (wB a l) v a.cF a.cg a.dZ a.aF a.bF.dW l [] false 0 0 [] [] 0>>=_)=_;rw[show gJ (wB a l) v a.cF a.cg a.dZ a.aF a.bF.dW l [] false 0 0 [] [] 0=_ from(w a l).1,sb];show(mB (wB a l') (ba.mk c.bC c.aG c.ah v.aF c.bq)>>=_)=_;rw[aax a aol (λb d=>(g.on b d).1),sb];rfl
  ·rw[iG,an m];show(fW (wB a l) v a.cF a.cg a.dZ a.aF a.bF.dW l [] false 0 0 [] [] 0>>=_)=_;rw[show fW (wB a l) v a.cF a.cg a.dZ a.aF a.bF.dW l [] false 0 0 [] [] 0=_ from(w a l).2,sb];show(tJ (wB a l') (ba.mk c.bC c.aG c.ah v.aF c.bq)>>=_)=_;rw[aay a aol (λb d=>(g.on b d).1),sb];rfl
  ·rw[ae.qY,ae.bQ,Ty]
  ·intro b d;rcases akC.1 d with d | d
   ·exact g.on b d
   ·obtain rfl:=ali.1 d;exact⟨rfl,λs hs=>abA (B s hs)⟩
  ·simp only[alj,akz,akD];omega
  ·have ad:qp (aE.mk 1 (ba.mk c.bC c.aG c.ah v.aF c.bq))<=1224:=by unfold qp Ik;dsimp only;rw[aaz B];omega
   rw[adH,ra,RV];omega
theorem agH {p:bb} (hl:p.bT.length<=2000000) (s:bZ):sF p s=fu p s:=by
 have go:∀m i:Nat,i<=p.bT.length->p.bT.length - i=m->la p s (i:Int)=fp p s (i:Int):=by
  intro m;induction m with
  | zero=>intro i h1 h2;rw[la,fp,mg aol,mg aol]
  | succ m a=>
   intro i h1 h2;rw[la,fp,an aol,an aol,Sj aol,sb,sb,aT aol,a (i+1) aol aol]
 have e:=go p.bT.length 0 aol aol;rw[show((0:Nat):Int)=0 from rfl]at e;unfold sF fu;rw[e]
def mS (c:List ae) (g:List aK) (l:List aE) (F:List aM) (y:Int):aS:=aS.mk 0 [] y 0 c g (dL.mk l) [] [] [] F (cp.mk [] [] [])
section
variable (a:List aq)(F0:List aM)(y:Int)(hn:a.length<=2000000)(zF:∀x∈a,x.aA.Fo=true/\x.aA.kw<=200)(hw:∀x∈a,x.aA.wt<=2000000)
include hn zF hw
theorem ad9 (F:List aM):∀(f k:Nat) (c:List ae) (g:List aK) (l:List aE),a.length<=k+f->k<=a.length->c.length=k->g.length=k->(∀v∈c,v.wt=1)->Onc l->l.length+zS dz (a.drop k)<=8000000->
  ∃(b:List ae) (d:List aK) (l':List aE),
   eQ a [] [] [] [] [] [] [] [] [] 0 [] y 0 [] c g l [] [] [] F0 [] [] (k:Int)=some ([],[],[],[],[],[],[],[],[],0,[],y,0,[],b,d,l',[],[],[],F0,[],[])/\
   eO a [] [] [] [] [] [] [] [] [] 0 [] y 0 [] c g l [] [] [] F [] [] (k:Int)=some ([],[],[],[],[],[],[],[],[],0,[],y,0,[],b,d,l',[],[],[],F,[],[])/\
   b.length=a.length/\d.length=a.length/\(∀v∈b,v.wt=1)/\Sto l (zS dz (a.drop k)) l':=by
 intro f;induction f with
 | zero=>
  intro k c g l h1 h2 hc hg hv i p;rw[eQ,eO,mg aol,mg aol];exact⟨c,g,l,rfl,rfl,by omega,by omega,hv,⟨i,by omega,by omega⟩⟩
 | succ f q=>
  intro k c g l h1 h2 hc hg hv i p;by_cases j:k<a.length
  case neg=>
   rw[eQ,eO,mg aol,mg aol];exact⟨c,g,l,rfl,rfl,by omega,by omega,hv,⟨i,by omega,by omega⟩⟩
  have hd:zS dz (a.drop k)=(1+dz a[k])+zS dz (a.drop (k+1)):=by rw[ale j,ra]
  have A:a[k].aA.wt=dz a[k]+1:=by have:=rC a[k].aA;unfold dz zV;omega
  have hm:=akx j;obtain⟨s,t⟩:=zF _ hm;have e:=hw _ hm;obtain⟨r,u,o,w,m⟩:=X6 2000000 (No _) a[k].aA e s t l aol i;have hs:=m.le
  obtain⟨b,d,l',q1,q2,q3,q4,x,n⟩:=q (k+1) (c++[r]) (g++[aK.mk a[k].az (k:Int)]) u aol aol aoq aoq (λv h=>by
   rcases akC.1 h with h | h
   ·exact hv v h
   ·obtain rfl:=ali.1 h;exact w) m.on aol
  refine⟨b,d,l',?_,?_,q3,q4,x,⟨n.on,by have:=n.le;omega,by have:=n.z;have:=m.z;omega⟩⟩
  ·rw[eQ,an aol,bG j,sb];show(jD (wB (mS c g [] F0 y) l) a[k].aA>>=_)=_;rw[(o _).1,sb];dsimp only;rw[oG aot,sb,oG aot,sb,aT aol];exact q1
  ·rw[eO,an aol,bG j,sb,sv e,sb];show(iG (wB (mS c g [] F y) l) a[k].aA>>=_)=_;rw[(o _).2,sb];dsimp only;rw[oG aot,sb,sb,oG aot,sb,aT aol];exact q2
end
def frm (v:Int):aM:=aM.mk v 0 [] [] [] [] [] 0 [] [] 0 1 0
def noM:aS:=aS.mk 0 [] 0 0 [] [] (dL.mk []) [] [] [] [] (cp.mk [] [] [])
theorem X7 {p:bb} (hp:PB p) {s:bZ} (hs:s.length<=1048576) {a:List aq} (F:zS dz a<=1048576) (y:Int):
  ∃(m:aS) (b:Bool),iN p s a y=some (m,b)/\o8 p s a y=some (m,b)/\uv m<=1999999999/\T1 m:=by
 have hl:=dI (z:=dz) a
 have hw:∀x∈a,x.aA.wt<=2000000:=λx j=>by
  have:=dJ (z:=dz) j;have:=Xm x.aA;have:dz x=zV x.aA:=rfl;omega
 have k:=agH hp.fl (47::s);obtain⟨l,_⟩:=Sk hp.fl (47::s);obtain⟨e2,n⟩:=ad2 hp;have o:=agG aol hw;have q:=agF aol hw;have r:yz [47] s=some (47::s):=an aot;have e:uv noM<=1999999999/\T1 noM:=⟨by decide,λv h=>(by cases h),λv h=>(by cases h),rfl,λv h=>(by cases h)⟩;unfold iN o8;rw[r,sb,sb,k,l,sb,sb,e2,n,sb,sb];cases isP p
 case false=>exact⟨noM,false,rfl,rfl,e⟩
 rw[an rfl,an rfl];by_cases h1:Ts p (47::s)<0
 ·rw[an h1,an h1];exact⟨noM,false,rfl,rfl,e⟩
 rw[mg h1,mg h1,o,q,sb,sb];by_cases h2:iC (xh a) 0 a.length=true
 case neg=>rw[mg h2,mg h2];exact⟨noM,false,rfl,rfl,e⟩
 rw[an h2,an h2]
 obtain⟨u,t,A⟩:∃u,C7 y 250000=some u/\C6 y 250000=some u:=by
  unfold C7 C6;by_cases h:(250000:Int)<y
  ·exact⟨_,an h,an h⟩
  ·exact⟨_,mg h,mg h⟩
 obtain⟨w,w1,B⟩:∃w,VR 0 u=some w/\m91 0 u=some w:=by
  unfold VR m91;by_cases h:u>0
  ·exact⟨_,an h,an h⟩
  ·exact⟨_,mg h,mg h⟩
 obtain⟨d,C,l',q1,q2,q3,q4,g,i⟩:=ad9 a [frm (Ts p (47::s))] w aol (XY h2) hw [] a.length 0 [] [] [] aol aol rfl rfl (λv h=>by cases h) (λb h=>by cases h) (by rw[ald];simp;omega);rw[ald]at i;rw[t,sb,w1,sb,A,sb,B,sb];refine⟨aS.mk 0 [] w 0 d C (dL.mk l') [] [] [] [frm (Ts p (47::s))] (cp.mk [] [] []),true,?_,?_,?_,⟨λv h=>abA (g v h),λb h=>(i.on b h).2,rfl,λf h=>?_⟩⟩
 ·show(eQ a [] [] [] [] [] [] [] [] [] 0 [] w 0 [] [] [] [] [] [] [] [frm (Ts p (47::s))] [] [] 0>>=_)=_;rw[show eQ a [] [] [] [] [] [] [] [] [] 0 [] w 0 [] [] [] [] [] [] [] [frm (Ts p (47::s))] [] [] 0=_ from q1,sb]
 ·show(eO a [] [] [] [] [] [] [] [] [] 0 [] w 0 [] [] [] [] [] [] [] [] [] [] 0>>=_)=_;rw[show eO a [] [] [] [] [] [] [] [] [] 0 [] w 0 [] [] [] [] [] [] [] [] [] [] 0=_ from q2,sb];rfl
 ·have D:=i.z;rw[RV]at D
  have hc:zS zV d=d.length:=by
   clear q1 q2 q3;induction d with
   | nil=>rfl
   | cons x c E=>rw[ra,E (λv hv=>g v (akP _ hv)),akz];have:=g x (List.mem_cons_self ..);unfold zV;omega
  unfold uv Il yM;dsimp only;rw[hc,ra];have:rB (frm (Ts p (47::s)))=0:=rfl;simp only[RV,akD,this];omega
 ·obtain rfl:=ali.1 h;exact⟨rfl,rfl,rfl,rfl,rfl⟩
theorem abB {p:bb} (b:pH p<=1048576) (a:bb.Tx p):PB p:=by
 unfold pH at b;have g:=dI (z:=oF) p.bT;have h:=dI (z:=jC) p.bs;refine⟨by omega,by omega,λf hf=>?_,λc hc=>?_⟩
 ·have h1:=dJ (z:=oF) hf;have h2:=(a.t0 f hf).t0;have d:oF f=f.bf.length+f.cx.length+f.ah.length+f.aR.length:=rfl;exact⟨by omega,by omega,by omega,by omega,by omega⟩
 ·have h1:=dJ (z:=jC) hc;have d:jC c=zS js c.bp+c.bM.length:=rfl;have h2:=dI (z:=js) c.bp;refine⟨by omega,by omega,λx e=>?_,λm hm=>?_⟩
  ·have h3:=dJ (z:=js) e;have h4:=Xm x.bR;have h5:js x=zV x.bR:=rfl;omega
  ·have h3:=(a.t1 c hc).t2 m hm;have:=h3.t0;have:=h3.t1;have:=h3.t2;exact⟨by omega,by omega⟩
theorem aea {m:aS} (h:T1 m):KQ m:=by
 refine⟨h.c,⟨λb a=>⟨⟨h.b b a⟩⟩⟩,λg hg=>?_,λf hf=>⟨λv hv=>?_⟩⟩
 ·rw[h.g]at hg;cases hg
 ·rw[(h.f f hf).2.1]at hv;cases hv
theorem aaB (p:bb) (s:bZ) (a:List aq) (y:Int) (ok:p.Ok) (h:a.length<=9223372036854775807) (c:∀x∈a,x.Ok):ku p s a y=some true:=by
 unfold ku;by_cases h0:(s.length:Int)>1048576
 ·rw[an h0]
 rw[mg h0];obtain⟨v,e,hv⟩:=Dy ok (y:=1048576) aol aol;rw[e,sb];by_cases hn:v<0
 ·rw[an hn,sb]
 rw[mg hn,sb];obtain⟨h1,h2,h3⟩:=hv.resolve_left hn;dsimp only;obtain⟨u,i,hu⟩:=Bz h c (k:=v) h1 aol;rw[i,sb];by_cases hm:u<0
 ·rw[an hm]
 rw[mg hm];obtain⟨B,g2⟩:=hu.resolve_left hm;have j:=abB (p:=p) aol h3;obtain⟨m,b,l,n2,n,o⟩:=X7 j (s:=s) aol (a:=a) aol y;have t1:=Dz p aol;have t2:=BA a aol;have q1:=IA m n;have q2:=Iu p aol;have q3:=zn a aol;obtain⟨q,r0,r1,d,C,D⟩:=UF p 1 aol;obtain⟨r,E,t,F,G,H,I⟩:=Iq a q aol;obtain⟨w,J,K,L,M,N,O,P,Q,R,f,S,T,g⟩:=UJ m 1 aol (aea o);replace d:ld p 1=_:=d;replace f:lp m 1=_:=f;replace g:jo _ 1=_:=g;have z:¬(r:Int)<0:=by omega
 have A:¬(w:Int)<0:=by omega
 have eta:∀m:aS,aS.mk m.cF m.cg m.dZ m.aF m.bO m.a8 (dL.mk m.cA.bw) m.bL m.bx m.de m.bW (cp.mk m.bF.dW m.bF.aY m.bF.aZ)=m:=λ_=>rfl;simp only[t1,t2,l,n2,sb,eta,q1,q2,q3,d,t,f,g,z,A,akU,alf]
theorem X8 (p:bb) (s:bZ) (a:List aq) (y:Int) (ok:p.Ok) (h:a.length<=9223372036854775807) (d:∀x∈a,x.Ok):∀v u g c r,¬(s.length:Int)>1048576->lQ p 1048576=some v->(if v<0 then some (.inr true)else some (.inl ()):Option (Unit ⊕ Bool))=some (.inl ())->kg a v=some u->¬u<0->fm p=some g->eH a=some c->iN g s c y=some r->T1 r.1:=by
 intro v u g c r h0 e hn i hm t1 t2 j;obtain⟨n,f,hv⟩:=Dy ok (y:=1048576) aol aol;obtain rfl:=alb (e.symm.trans f);have hn:¬v<0:=λq=>by rw[an q]at hn;cases hn
 obtain⟨h1,h2,h3⟩:=hv.resolve_left hn;obtain⟨o,l,hu⟩:=Bz h d (k:=v) h1 aol;obtain rfl:=alb (i.symm.trans l);obtain⟨t,g2⟩:=hu.resolve_left hm;obtain rfl:=alb (t1.symm.trans (Dz p aol));obtain rfl:=alb (t2.symm.trans (BA a aol));obtain⟨m,b,q1,_,_,q4⟩:=X7 (abB aol h3) (s:=s) aol (a:=c) aol y;obtain rfl:=alb (j.symm.trans q1);exact q4
theorem Rf (p:bb) (s:bZ) (a:List aq) (y:Int) (ok:p.Ok) (c:a.length<=9223372036854775807) (b:∀x∈a,x.Ok):ACall Tryz.prog 3 [.agg p.lit,.str s,sl 6 aq.cells a,.int .i64 y] [] (λres h=>res=.bool true):=(yR (aaB p s a y ok c b) (X8 p s a y ok c b)).mono (λ_ _ h=>h.1)
end Go.Am
