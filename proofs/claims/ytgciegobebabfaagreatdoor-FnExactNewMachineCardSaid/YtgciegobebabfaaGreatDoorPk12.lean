/- Texts of the proof, joined and shortened. -/
import Derived.Test.YtgciegobebabfaaGreatDoorPk11
set_option linter.unusedVariables false
set_option linter.unusedSimpArgs false
set_option maxRecDepth 100000
set_option maxHeartbeats 2000000
namespace Go.Am
open Go Go.RowKit Go.Proofs
def zS {α:Type} (z:α->Nat) (l:List α):Nat:=l.length+(l.map z).sum
theorem RV {α:Type} {z:α->Nat}:zS z []=0:=rfl
theorem ra {α:Type} {z:α->Nat} {x:α} {l:List α}:zS z (x::l)=(1+z x)+zS z l:=by unfold zS;simp;omega
theorem adH {α:Type} {z:α->Nat} {a b:List α}:zS z (a++b)=zS z a+zS z b:=by unfold zS;simp;omega
theorem dI {α:Type} {z:α->Nat} (l:List α):l.length<=zS z l:=by unfold zS;omega
theorem dJ {α:Type} {z:α->Nat}:∀{l:List α} {x:α},x∈l->1+z x<=zS z l
 | y::l,x,h=>by
  rw[ra];rcases akM.1 h with rfl | h
  ·omega
  ·have:=dJ (z:=z) h;omega
theorem rA {α:Type} (l:List α):zS (λ_=>0) l=l.length:=by
 induction l with
 | nil=>rfl
 | cons x l a=>rw[ra,a];simp;omega
theorem mm {α:Type} [Inhabited α] (B:Nat) {L:List α->List α->Int->Int->Option (Int×List α)} {H:List α->Int->Int->Option (Int ⊕ Int)} (l:List α) (z:α->Nat)
  (step:∀x∈l,∀k:Nat,k+20*(1+z x)<=B->∃(a:Nat) (y:α),k<=a/\a<=k+20*(1+z x)/\
   (∀(m:List α) (i:Nat),i<l.length->idx m (i:Int)=some x->L l m (k:Int) (i:Int)=L l (m.set i y) (a:Int) ((i+1:Nat):Int))/\
   ∀(m:List α) (i:Nat),i<m.length->m.length<=B->idx m (i:Int)=some y->H m (k:Int) (i:Int)=H m (a:Int) ((i+1:Nat):Int))
  (he:∀m k,L l m k (l.length:Int)=some (k,m)) (hh:∀m k,H m k (m.length:Int)=some (.inl k)):
  ∀k:Nat,k+20*zS z l<=B->∃(a:Nat) (l':List α),L l l (k:Int) 0=some ((a:Int),l')/\k<=a/\a<=k+20*zS z l/\l'.length=l.length/\H l' (k:Int) 0=some (.inl (a:Int)):=by
 have go:∀(R P:List α) (k:Nat),(∀x∈R,x∈l)->P.length+R.length=l.length->l.length<=B->k+20*zS z R<=B->
   ∃(a:Nat) (b:List α),L l (P++R) (k:Int) (P.length:Int)=some ((a:Int),P++b)/\k<=a/\a<=k+20*zS z R/\b.length=R.length/\∀Q:List α,Q.length=P.length->H (Q++b) (k:Int) (Q.length:Int)=some (.inl (a:Int)):=by
  intro R;induction R with
  | nil=>
   intro P k h1 h2 h3 h4;simp only[akD,alz]at h2;refine⟨k,[],?_,No _,by omega,rfl,λQ d=>?_⟩
   ·rw[alv,h2];exact he P k
   ·rw[alv];exact hh Q k
  | cons x R h=>
   intro P k h1 h2 h3 h4;rw[ra]at h4;simp only[akz]at h2;obtain⟨j,y,A,g2,n,o⟩:=step x (h1 x aon) k aol
   have c:∀(S:List α) (w:α) (T:List α),idx (S++w::T) (S.length:Int)=some w:=λS w T=>by
    rw[bG aon];simp
   have p:(P++x::R).set P.length y=(P++[y])++R:=by simp
   obtain⟨a,b,q,f2,f3,f,f5⟩:=h (P++[y]) j (λw hw=>h1 w (by simp [hw])) aoq h3 aol;refine⟨a,y::b,?_,by omega,by rw[ra];omega,by simp [f],λQ d=>?_⟩
   ·rw[n _ _ aol (c P x R),p];have e:((P++[y]).length:Int)=((P.length+1:Nat):Int):=by simp
    rw[<-e,q];simp
   ·rw[o _ _ aon (by simp [f];omega) (c Q y b)];have g:=f5 (Q++[y]) (by simp [d]);have e:((Q++[y]).length:Int)=((Q.length+1:Nat):Int):=by simp
    rw[e]at g;simpa using g
 intro k r;have hl:=dI (z:=z) l;obtain⟨a,l',s,e2,t,u,v⟩:=go l [] k (λx c=>c) aon aol r;exact⟨a,l',by simpa using s,e2,t,u,by simpa using v [] rfl⟩
theorem wo {α:Type} [Inhabited α] (B:Nat) {L:List α->List α->Int->Int->Option (Int×List α)} (l:List α) (z:α->Nat)
  (step:∀x∈l,∀k:Nat,k+20*(1+z x)<=B->∃(a:Nat) (y:α),k<=a/\a<=k+20*(1+z x)/\
   (∀(m:List α) (i:Nat),i<l.length->idx m (i:Int)=some x->L l m (k:Int) (i:Int)=L l (m.set i y) (a:Int) ((i+1:Nat):Int)))
  (he:∀m k,L l m k (l.length:Int)=some (k,m)):
  ∀k:Nat,k+20*zS z l<=B->∃(a:Nat) (l':List α),L l l (k:Int) 0=some ((a:Int),l')/\k<=a/\a<=k+20*zS z l:=by
 have go:∀(R P:List α) (k:Nat),(∀x∈R,x∈l)->P.length+R.length=l.length->k+20*zS z R<=B->
   ∃(a:Nat) (b:List α),L l (P++R) (k:Int) (P.length:Int)=some ((a:Int),P++b)/\k<=a/\a<=k+20*zS z R:=by
  intro R;induction R with
  | nil=>
   intro P k h1 h2 h4;simp only[akD,alz]at h2;refine⟨k,[],?_,No _,by omega⟩;rw[alv,h2];exact he P k
  | cons x R d=>
   intro P k h1 h2 h4;rw[ra]at h4;simp only[akz]at h2;obtain⟨f,y,q,g2,g⟩:=step x (h1 x aon) k aol;have c:idx (P++x::R) (P.length:Int)=some x:=by rw[bG aon];simp
   have h:(P++x::R).set P.length y=(P++[y])++R:=by simp
   obtain⟨a,b,j,f2,f3⟩:=d (P++[y]) f (λw hw=>h1 w (by simp [hw])) aoq aol;refine⟨a,y::b,?_,by omega,by rw[ra];omega⟩;rw[g _ _ aol c,h];have e:((P++[y]).length:Int)=((P.length+1:Nat):Int):=by simp
   rw[<-e,j];simp
 intro k n;obtain⟨a,l',o,e2,p⟩:=go l [] k (λx c=>c) aon n;exact⟨a,l',by simpa using o,e2,p⟩
def zV (x:ae):Nat:=x.wt - 1
theorem Xm (x:ae):x.wt<=zV x+1:=by unfold zV;omega
def oF (x:aW):Nat:=x.bf.length+x.cx.length+x.ah.length+x.aR.length
def js (x:aU):Nat:=zV x.bR
def jC (x:aN):Nat:=zS js x.bp+x.bM.length
def pH (x:bb):Nat:=zS oF x.bT+zS jC x.bs
def dz (x:aq):Nat:=zV x.aA
def xd (x:aB):Nat:=zV x.aA
def Ik (x:ba):Nat:=x.aG.length+zS xd x.ah
def qp (x:aE):Nat:=Ik x.aP
def Il (x:dL):Nat:=zS qp x.bw
def rb (x:aH):Nat:=zS dz x.bp
def nP (x:aC):Nat:=x.bX.length
def Gj (x:dM):Nat:=zV x.aA
def zm (x:cz):Nat:=x.bX.length+zS Gj x.fArgs
def Gk (x:dx):Nat:=zV x.aA
def rB (x:aM):Nat:=x.ah.length+zS zV x.bu+zS zm x.bH+x.bg.length+zS Gk x.cj
def Gl (x:cc):Nat:=zV x.bh+rB x.ai
def yM (x:cp):Nat:=x.aY.length+x.aZ.length
def uv (x:aS):Nat:=zS zV x.bO+x.a8.length+Il x.cA+zS rb x.bL+zS nP x.bx+zS Gl x.de+zS rB x.bW+yM x.bF
def MN (x:ae):Prop:=x.al=[]
def Xn (x:aB):Prop:=x.aA.al=[]
structure Z9 (x:ba):Prop where
 p0:(∀y∈x.ah,Xn y)
structure Tk (x:aE):Prop where
 p0:Z9 x.aP
structure Xo (x:dL):Prop where
 p0:(∀y∈x.bw,Tk y)
structure MO (x:aM):Prop where
 p0:(∀y∈x.bu,MN y)
structure abm (x:cc):Prop where
 p0:MO x.ai
structure KQ (x:aS):Prop where
 p0:(∀y∈x.bO,MN y)
 p1:Xo x.cA
 p2:(∀y∈x.de,abm y)
 p3:(∀y∈x.bW,MO y)
theorem abn {l:List aj} (h:l=[]) (k:Int):dn l k=some k:=by
 subst h;unfold dn;rw[fK,mg aon];rfl
theorem Pn (l:List TParam) (k:Nat) (h:k+20*l.length<=1000000000000):∃(a:Nat) (l':List TParam),mL l (k:Int)=some ((a:Int),l')/\k<=a/\a<=k+20*l.length:=by
 obtain⟨a,l',b,e2,c⟩:=wo 1000000000000 (L:=jd) l (λ_=>0) (λx d k e=>by
  have f:=dI (z:=(λ_=>0)) l;have g:=dJ (z:=(λ_=>0)) d;have j:l.length<=2000000000000:=by have tz:=rA l;omega
  have n:k<=2000000000000:=by omega
  refine⟨k+1+1,(TParam.mk (yq (k:Int)) ((((k+1:Nat):Int).tmod 3)==0)),by omega,by omega,λm i hi hm=>?_⟩;clear e f g;rw[jd,an aol];simp (maxSteps:=4000000) (disch:=omega) only[hm,dK,aT,sb,aky]) (λm k=>by rw[jd,mg aol]) k aoI
 refine⟨a,l',?_,e2,by rw[rA]at c;omega⟩;unfold mL;rw[b,sb]
theorem UD (l:List bZ) (k:Nat) (h:k+20*l.length<=1000000000000):∃(a:Nat) (l':List bZ),nK l (k:Int)=some ((a:Int),l')/\k<=a/\a<=k+20*l.length:=by
 obtain⟨a,l',b,e2,c⟩:=wo 1000000000000 (L:=iq) l (λ_=>0) (λx d k e=>by
  have f:=dI (z:=(λ_=>0)) l;have g:=dJ (z:=(λ_=>0)) d;have j:l.length<=2000000000000:=by have tz:=rA l;omega
  have n:k<=2000000000000:=by omega
  refine⟨k+1,(yq (k:Int)),by omega,by omega,λm i hi hm=>?_⟩;clear e f g;rw[iq,an aol];simp (maxSteps:=4000000) (disch:=omega) only[hm,dK,aT,sb,aky]) (λm k=>by rw[iq,mg aol]) k aoI
 refine⟨a,l',?_,e2,by rw[rA]at c;omega⟩;unfold nK;rw[b,sb]
theorem adI (l:List bV) (k:Nat) (h:k+20*l.length<=1000000000000):∃(a:Nat) (l':List bV),s9 l (k:Int)=some ((a:Int),l')/\k<=a/\a<=k+20*l.length:=by
 obtain⟨a,l',b,e2,c⟩:=wo 1000000000000 (L:=lb) l (λ_=>0) (λx d k e=>by
  have f:=dI (z:=(λ_=>0)) l;have g:=dJ (z:=(λ_=>0)) d;have j:l.length<=2000000000000:=by have tz:=rA l;omega
  have n:k<=2000000000000:=by omega
  refine⟨k+1+1+1+1+1,(bV.mk (k:Int) ((k+1:Nat):Int) ((k+1+1:Nat):Int) (yq ((k+1+1+1:Nat):Int)) (yq ((k+1+1+1+1:Nat):Int))),by omega,by omega,λm i hi hm=>?_⟩;clear e f g;rw[lb,an aol];simp (maxSteps:=4000000) (disch:=omega) only[hm,dK,aT,sb,aky]) (λm k=>by rw[lb,mg aol]) k aoI
 refine⟨a,l',?_,e2,by rw[rA]at c;omega⟩;unfold s9;rw[b,sb]
theorem aaa (l:List aW) (k:Nat) (h:k+20*zS oF l<=1000000000000):∃(a:Nat) (l':List aW),qV l (k:Int)=some ((a:Int),l')/\k<=a/\a<=k+20*zS oF l:=by
 obtain⟨a,l',c,e2,g⟩:=wo 1000000000000 (L:=jX) l oF (λx n k j=>by
  have o:=dI (z:=oF) l;have p:=dJ (z:=oF) n;simp only[oF]at j ⊢;obtain⟨d,q,c,r,s⟩:=Pn x.bf (k+1) aol;have t:¬(d:Int)<0:=by omega
  obtain⟨e,u,e2,v,w⟩:=Pn x.cx (d) aol;have g2:¬(e:Int)<0:=by omega
  obtain⟨b,y,g,A,B⟩:=UD x.ah (e) aol;have C:¬(b:Int)<0:=by omega
  obtain⟨f,D,E,F,d4⟩:=adI x.aR (b+1) aol;have G:¬(f:Int)<0:=by omega
  have H:l.length<=2000000000000:=by omega
  have I:k<=2000000000000:=by omega
  have J:d<=2000000000000:=by omega
  have K:e<=2000000000000:=by omega
  have M:b<=2000000000000:=by omega
  have N:f<=2000000000000:=by omega
  refine⟨f,(aW.mk (yq (k:Int)) q u y (((b:Int).tmod 3)==0) D),by omega,by omega,λm i hi hm=>?_⟩;clear j o p r s v w A B F d4;rw[jX,an aol];simp (maxSteps:=4000000) (disch:=omega) only[hm,dK,aT,sb,aky,c,t,e2,g2,g,C,E,G,alf]) (λm k=>by rw[jX,mg aol]) k aol
 refine⟨a,l',?_,e2,by omega⟩;unfold qV;rw[c,sb]
theorem Xp (l:List aU) (k:Nat) (h:k+20*zS js l<=1000000000000):∃(a:Nat) (l':List aU),pA l (k:Int)=some ((a:Int),l')/\k<=a/\a<=k+20*zS js l:=by
 obtain⟨a,l',b,e2,t⟩:=wo 1000000000000 (L:=je) l js (λx e k d=>by
  have f:=dI (z:=js) l;have g:=dJ (z:=js) e;simp only[js,zV]at d ⊢;have j:=(x.bR).qY;obtain⟨c,n,b,o,p,q,r⟩:=vz _ (x.bR).al (No _) (k+1+1+1+1+1+1+1) aol;have s:¬(c:Int)<0:=by omega
  have u:l.length<=2000000000000:=by omega
  have v:k<=2000000000000:=by omega
  have w:c<=2000000000000:=by omega
  refine⟨c,(aU.mk (yq (k:Int)) (yq ((k+1:Nat):Int)) ((((k+1+1:Nat):Int).tmod 3)==0) (ae.mk ((k+1+1+1:Nat):Int) ((k+1+1+1+1:Nat):Int) (yq ((k+1+1+1+1+1:Nat):Int)) ((k+1+1+1+1+1+1:Nat):Int) n)),by omega,by omega,λm i hi hm=>?_⟩;clear d f g j o p q;rw[je,an aol];simp (maxSteps:=4000000) (disch:=omega) only[hm,dK,aT,sb,aky,b,r,s,alf,ae.cu,ae.cR,ae.cU,ae.cy,ae.bQ]) (λm k=>by rw[je,mg aol]) k aol
 refine⟨a,l',?_,e2,by omega⟩;unfold pA;rw[b,sb]
theorem UE (l:List aQ) (k:Nat) (h:k+20*l.length<=1000000000000):∃(a:Nat) (l':List aQ),nL l (k:Int)=some ((a:Int),l')/\k<=a/\a<=k+20*l.length:=by
 obtain⟨a,l',b,e2,c⟩:=wo 1000000000000 (L:=ir) l (λ_=>0) (λx d k e=>by
  have f:=dI (z:=(λ_=>0)) l;have g:=dJ (z:=(λ_=>0)) d;have j:l.length<=2000000000000:=by have tz:=rA l;omega
  have n:k<=2000000000000:=by omega
  refine⟨k+1+1+1+1+1,(aQ.mk (yq (k:Int)) (yq ((k+1:Nat):Int)) (yq ((k+1+1:Nat):Int)) ((((k+1+1+1:Nat):Int).tmod 3)==0) ((((k+1+1+1+1:Nat):Int).tmod 3)==0)),by omega,by omega,λm i hi hm=>?_⟩;clear e f g;rw[ir,an aol];simp (maxSteps:=4000000) (disch:=omega) only[hm,dK,aT,sb,aky]) (λm k=>by rw[ir,mg aol]) k aoI
 refine⟨a,l',?_,e2,by rw[rA]at c;omega⟩;unfold nL;rw[b,sb]
theorem Xq (l:List aN) (k:Nat) (h:k+20*zS jC l<=1000000000000):∃(a:Nat) (l':List aN),pB l (k:Int)=some ((a:Int),l')/\k<=a/\a<=k+20*zS jC l:=by
 obtain⟨a,l',b,e2,u⟩:=wo 1000000000000 (L:=jf) l jC (λx f k e=>by
  have g:=dI (z:=jC) l;have j:=dJ (z:=jC) f;simp only[jC]at e ⊢;obtain⟨c,n,b,o,p⟩:=Xp x.bp (k+1+1) aol;have q:¬(c:Int)<0:=by omega
  obtain⟨d,r,e2,s,t⟩:=UE x.bM (c) aol;have g2:¬(d:Int)<0:=by omega
  have v:l.length<=2000000000000:=by omega
  have w:k<=2000000000000:=by omega
  have y:c<=2000000000000:=by omega
  have A:d<=2000000000000:=by omega
  refine⟨d,(aN.mk (yq (k:Int)) (yq ((k+1:Nat):Int)) n r),by omega,by omega,λm i hi hm=>?_⟩;clear e g j o p s t;rw[jf,an aol];simp (maxSteps:=4000000) (disch:=omega) only[hm,dK,aT,sb,aky,b,q,e2,g2,alf]) (λm k=>by rw[jf,mg aol]) k aol
 refine⟨a,l',?_,e2,by omega⟩;unfold pB;rw[b,sb]
theorem UF (x:bb) (k:Nat) (h:k+20*pH x<=1000000000000):∃(a:Nat) (r0:List aW) (r1:List aN),ld x (k:Int)=some ((a:Int),(bb.mk r0 r1))/\k<=a/\a<=k+20*pH x:=by
 unfold pH at h ⊢;obtain⟨b,d,e,g,i⟩:=aaa x.bT k aol;have j:¬(b:Int)<0:=by omega
 obtain⟨c,f,e2,l,m⟩:=Xq x.bs b aol;have g2:¬(c:Int)<0:=by omega
 refine⟨c,d,f,?_,by omega,by omega⟩
 ·unfold ld;simp only[e,e2,sb]
theorem Im (l:List ae) (k:Nat) (h:k+20*zS zV l<=1000000000000) (e:∀x∈l,MN x):∃(a:Nat) (l':List ae),km l (k:Int)=some ((a:Int),l')/\k<=a/\a<=k+20*zS zV l/\l'.length=l.length/\kl l' (k:Int)=some (a:Int):=by
 obtain⟨a,l',b,e2,q,o,p⟩:=mm 1000000000000 (L:=jg) (H:=iZ) l zV (λx c k d=>by
  have f:=dI (z:=zV) l;have g:=dJ (z:=zV) c;simp only[zV]at d ⊢;have b:nB (x).al ((k+1+1+1+1:Nat):Int)=some ((k+1+1+1+1:Nat):Int):=an (e x c);have j:dn (x).al ((k+1+1+1+1:Nat):Int)=some ((k+1+1+1+1:Nat):Int):=abn (e x c) _;have n:¬((k+1+1+1+1:Nat):Int)<0:=by omega
  have r:l.length<=2000000000000:=by omega
  have s:k<=2000000000000:=by omega
  refine⟨k+1+1+1+1,(ae.mk (k:Int) ((k+1:Nat):Int) (yq ((k+1+1:Nat):Int)) ((k+1+1+1:Nat):Int) (x).al),by omega,by omega,λm i hi hm=>?_,λm i hi hl hm=>?_⟩
  ·clear d f g;rw[jg,an aol];simp (maxSteps:=4000000) (disch:=omega) only[hm,dK,aT,sb,aky,b,j,n,alf,ae.cu,ae.cR,ae.cU,ae.cy,ae.bQ]
  ·clear d f g;rw[iZ,an aol];simp (maxSteps:=4000000) (disch:=omega) only[hm,akU,dK,aT,sb,aky,b,j,n,alf,ae.cu,ae.cR,ae.cU,ae.cy,ae.bQ,mg]) (λm k=>by rw[jg,mg aol]) (λm k=>by rw[iZ,mg aol]) k aol
 refine⟨a,l',?_,e2,by omega,o,?_⟩
 ·unfold km;rw[b,sb]
 ·unfold kl;rw[p,sb]
theorem Xr (l:List aK) (k:Nat) (h:k+20*l.length<=1000000000000):∃(a:Nat) (l':List aK),pC l (k:Int)=some ((a:Int),l')/\k<=a/\a<=k+20*l.length/\l'.length=l.length/\pa l' (k:Int)=some (a:Int):=by
 obtain⟨a,l',e,e2,f,g,j⟩:=mm 1000000000000 (L:=jh) (H:=ja) l (λ_=>0) (λx n k b=>by
  have c:=dI (z:=(λ_=>0)) l;have d:=dJ (z:=(λ_=>0)) n;have o:l.length<=2000000000000:=by have tz:=rA l;omega
  have p:k<=2000000000000:=by omega
  refine⟨k+1+1,(aK.mk (yq (k:Int)) ((k+1:Nat):Int)),by omega,by omega,λm i hi hm=>?_,λm i hi hl hm=>?_⟩
  ·clear b c d;rw[jh,an aol];simp (maxSteps:=4000000) (disch:=omega) only[hm,dK,aT,sb,aky]
  ·clear b c d;rw[ja,an aol];simp (maxSteps:=4000000) (disch:=omega) only[hm,akU,dK,aT,sb,aky,mg]) (λm k=>by rw[jh,mg aol]) (λm k=>by rw[ja,mg aol]) k aoI
 refine⟨a,l',?_,e2,by rw[rA]at f;omega,g,?_⟩
 ·unfold pC;rw[e,sb]
 ·unfold pa;rw[j,sb]
theorem Ip (l:List Int) (k:Nat) (h:k+20*l.length<=1000000000000):∃(a:Nat) (l':List Int),jB l (k:Int)=some ((a:Int),l')/\k<=a/\a<=k+20*l.length/\l'.length=l.length/\jA l' (k:Int)=some (a:Int):=by
 obtain⟨a,l',e,e2,f,g,j⟩:=mm 1000000000000 (L:=lf) (H:=kW) l (λ_=>0) (λx n k b=>by
  have c:=dI (z:=(λ_=>0)) l;have d:=dJ (z:=(λ_=>0)) n;have o:l.length<=2000000000000:=by have tz:=rA l;omega
  have p:k<=2000000000000:=by omega
  refine⟨k+1,(k:Int),by omega,by omega,λm i hi hm=>?_,λm i hi hl hm=>?_⟩
  ·clear b c d;rw[lf,an aol];simp (maxSteps:=4000000) (disch:=omega) only[hm,dK,aT,sb,aky]
  ·clear b c d;rw[kW,an aol];simp (maxSteps:=4000000) (disch:=omega) only[hm,akU,dK,aT,sb,aky,mg]) (λm k=>by rw[lf,mg aol]) (λm k=>by rw[kW,mg aol]) k aoI
 refine⟨a,l',?_,e2,by rw[rA]at f;omega,g,?_⟩
 ·unfold jB;rw[e,sb]
 ·unfold jA;rw[j,sb]
theorem aab (l:List aB) (k:Nat) (h:k+20*zS xd l<=1000000000000) (e:∀x∈l,Xn x):∃(a:Nat) (l':List aB),qX l (k:Int)=some ((a:Int),l')/\k<=a/\a<=k+20*zS xd l/\l'.length=l.length/\qQ l' (k:Int)=some (a:Int):=by
 obtain⟨a,l',b,e2,q,o,p⟩:=mm 1000000000000 (L:=jZ) (H:=jV) l xd (λx c k d=>by
  have f:=dI (z:=xd) l;have g:=dJ (z:=xd) c;simp only[xd,zV]at d ⊢;have b:nB (x.aA).al ((k+1+1+1+1+1+1+1:Nat):Int)=some ((k+1+1+1+1+1+1+1:Nat):Int):=an (e x c);have j:dn (x.aA).al ((k+1+1+1+1+1+1+1:Nat):Int)=some ((k+1+1+1+1+1+1+1:Nat):Int):=abn (e x c) _;have n:¬((k+1+1+1+1+1+1+1:Nat):Int)<0:=by omega
  have r:l.length<=2000000000000:=by omega
  have s:k<=2000000000000:=by omega
  refine⟨k+1+1+1+1+1+1+1+1+1,(aB.mk (cw.mk (((k:Int).tmod 3)==0) ((k+1:Nat):Int) (yq ((k+1+1:Nat):Int))) (ae.mk ((k+1+1+1:Nat):Int) ((k+1+1+1+1:Nat):Int) (yq ((k+1+1+1+1+1:Nat):Int)) ((k+1+1+1+1+1+1:Nat):Int) (x.aA).al) ((((k+1+1+1+1+1+1+1:Nat):Int).tmod 3)==0) ((k+1+1+1+1+1+1+1+1:Nat):Int)),by omega,by omega,λm i hi hm=>?_,λm i hi hl hm=>?_⟩
  ·clear d f g;rw[jZ,an aol];simp (maxSteps:=4000000) (disch:=omega) only[hm,dK,aT,sb,aky,b,j,n,alf,ae.cu,ae.cR,ae.cU,ae.cy,ae.bQ]
  ·clear d f g;rw[jV,an aol];simp (maxSteps:=4000000) (disch:=omega) only[hm,akU,dK,aT,sb,aky,b,j,n,alf,ae.cu,ae.cR,ae.cU,ae.cy,ae.bQ,mg]) (λm k=>by rw[jZ,mg aol]) (λm k=>by rw[jV,mg aol]) k aol
 refine⟨a,l',?_,e2,by omega,o,?_⟩
 ·unfold qX;rw[b,sb]
 ·unfold qQ;rw[p,sb]
theorem Xs (l:List aE) (k:Nat) (h:k+20*zS qp l<=1000000000000) (v:∀x∈l,Tk x):∃(a:Nat) (l':List aE),pD l (k:Int)=some ((a:Int),l')/\k<=a/\a<=k+20*zS qp l/\l'.length=l.length/\pc l' (k:Int)=some (a:Int):=by
 obtain⟨a,l',c,e2,C,w,y⟩:=mm 1000000000000 (L:=ji) (H:=jb) l qp (λx f k d=>by
  have g:=dI (z:=qp) l;have j:=dJ (z:=qp) f;simp only[qp,Ik]at d ⊢;obtain⟨e,A,c,n,o,p,q⟩:=Ip x.aP.aG (k+1+1) aol;have r:¬(e:Int)<0:=by omega
  obtain⟨b,B,e2,s,t,u,f2⟩:=aab x.aP.ah (e) aol (v x f).p0.p0;have g2:¬(b:Int)<0:=by omega
  have D:l.length<=2000000000000:=by omega
  have E:k<=2000000000000:=by omega
  have F:e<=2000000000000:=by omega
  have G:b<=2000000000000:=by omega
  refine⟨b+1+1,(aE.mk (k:Int) (ba.mk ((((k+1:Nat):Int).tmod 3)==0) A B (b:Int) ((b+1:Nat):Int))),by omega,by omega,λm i hi hm=>?_,λm i hi hl hm=>?_⟩
  ·clear d g j n o p s t u;rw[ji,an aol];simp (maxSteps:=4000000) (disch:=omega) only[hm,dK,aT,sb,aky,c,q,r,e2,f2,g2,alf]
  ·clear d g j n o p s t u;rw[jb,an aol];simp (maxSteps:=4000000) (disch:=omega) only[hm,akU,dK,aT,sb,aky,c,q,r,e2,f2,g2,alf,mg]) (λm k=>by rw[ji,mg aol]) (λm k=>by rw[jb,mg aol]) k aol
 refine⟨a,l',?_,e2,by omega,w,?_⟩
 ·unfold pD;rw[c,sb]
 ·unfold pc;rw[y,sb]
theorem adJ (x:dL) (k:Nat) (h:k+20*Il x<=1000000000000) (c:Xo x):∃(a:Nat) (r0:List aE),ta x (k:Int)=some ((a:Int),(dL.mk r0))/\k<=a/\a<=k+20*Il x/\sG (dL.mk r0) (k:Int)=some (a:Int):=by
 unfold Il at h ⊢;obtain⟨b,d,e,i,j,l,f⟩:=Xs x.bw k aol c.p0;have g:¬(b:Int)<0:=by omega
 refine⟨b,d,?_,by omega,by omega,?_⟩
 ·unfold ta;simp only[e,sb]
 ·unfold sG;simp only[f,g,sb,alf]
theorem Iq (l:List aq) (k:Nat) (h:k+20*zS dz l<=1000000000000):∃(a:Nat) (l':List aq),jY l (k:Int)=some ((a:Int),l')/\k<=a/\a<=k+20*zS dz l/\l'.length=l.length/\mD l' (k:Int)=some (a:Int):=by
 obtain⟨a,l',b,e2,v,r,s⟩:=mm 1000000000000 (L:=gV) (H:=gT) l dz (λx t k c=>by
  have e:=dI (z:=dz) l;have f:=dJ (z:=dz) t;simp only[dz,zV]at c ⊢;have g:=(x.aA).qY;obtain⟨d,u,b,j,n,o,p⟩:=vz _ (x.aA).al (No _) (k+1+1+1+1+1) aol;have q:¬(d:Int)<0:=by omega
  have w:l.length<=2000000000000:=by omega
  have y:k<=2000000000000:=by omega
  have A:d<=2000000000000:=by omega
  refine⟨d,(aq.mk (yq (k:Int)) (ae.mk ((k+1:Nat):Int) ((k+1+1:Nat):Int) (yq ((k+1+1+1:Nat):Int)) ((k+1+1+1+1:Nat):Int) u)),by omega,by omega,λm i hi hm=>?_,λm i hi hl hm=>?_⟩
  ·clear c e f g j n o;rw[gV,an aol];simp (maxSteps:=4000000) (disch:=omega) only[hm,dK,aT,sb,aky,b,p,q,alf,ae.cu,ae.cR,ae.cU,ae.cy,ae.bQ]
  ·clear c e f g j n o;rw[gT,an aol];simp (maxSteps:=4000000) (disch:=omega) only[hm,akU,dK,aT,sb,aky,b,p,q,alf,ae.cu,ae.cR,ae.cU,ae.cy,ae.bQ,mg]) (λm k=>by rw[gV,mg aol]) (λm k=>by rw[gT,mg aol]) k aol
 refine⟨a,l',?_,e2,by omega,r,?_⟩
 ·unfold jY;rw[b,sb]
 ·unfold mD;rw[s,sb]
theorem UG (l:List aH) (k:Nat) (h:k+20*zS rb l<=1000000000000):∃(a:Nat) (l':List aH),nM l (k:Int)=some ((a:Int),l')/\k<=a/\a<=k+20*zS rb l/\l'.length=l.length/\nE l' (k:Int)=some (a:Int):=by
 obtain⟨a,l',b,e2,u,q,r⟩:=mm 1000000000000 (L:=iu) (H:=ie) l rb (λx s k c=>by
  have e:=dI (z:=rb) l;have f:=dJ (z:=rb) s;simp only[rb]at c ⊢;obtain⟨d,t,b,g,j,n,o⟩:=Iq x.bp (k+1+1) aol;have p:¬(d:Int)<0:=by omega
  have v:l.length<=2000000000000:=by omega
  have w:k<=2000000000000:=by omega
  have y:d<=2000000000000:=by omega
  refine⟨d,(aH.mk (yq (k:Int)) ((((k+1:Nat):Int).tmod 3)==0) t),by omega,by omega,λm i hi hm=>?_,λm i hi hl hm=>?_⟩
  ·clear c e f g j n;rw[iu,an aol];simp (maxSteps:=4000000) (disch:=omega) only[hm,dK,aT,sb,aky,b,o,p,alf]
  ·clear c e f g j n;rw[ie,an aol];simp (maxSteps:=4000000) (disch:=omega) only[hm,akU,dK,aT,sb,aky,b,o,p,alf,mg]) (λm k=>by rw[iu,mg aol]) (λm k=>by rw[ie,mg aol]) k aol
 refine⟨a,l',?_,e2,by omega,q,?_⟩
 ·unfold nM;rw[b,sb]
 ·unfold nE;rw[r,sb]
theorem RW (l:List aC) (k:Nat) (h:k+20*zS nP l<=1000000000000):∃(a:Nat) (l':List aC),mM l (k:Int)=some ((a:Int),l')/\k<=a/\a<=k+20*zS nP l/\l'.length=l.length/\mE l' (k:Int)=some (a:Int):=by
 obtain⟨a,l',c,e2,u,q,r⟩:=mm 1000000000000 (L:=gW) (H:=gU) l nP (λx s k d=>by
  have e:=dI (z:=nP) l;have f:=dJ (z:=nP) s;simp only[nP]at d ⊢;obtain⟨b,t,c,g,j,n,o⟩:=Ip x.bX (k+1) aol;have p:¬(b:Int)<0:=by omega
  have v:l.length<=2000000000000:=by omega
  have w:k<=2000000000000:=by omega
  have y:b<=2000000000000:=by omega
  refine⟨b+1+1+1,(aC.mk (k:Int) t (b:Int) (yq ((b+1:Nat):Int)) (yq ((b+1+1:Nat):Int))),by omega,by omega,λm i hi hm=>?_,λm i hi hl hm=>?_⟩
  ·clear d e f g j n;rw[gW,an aol];simp (maxSteps:=4000000) (disch:=omega) only[hm,dK,aT,sb,aky,c,o,p,alf]
  ·clear d e f g j n;rw[gU,an aol];simp (maxSteps:=4000000) (disch:=omega) only[hm,akU,dK,aT,sb,aky,c,o,p,alf,mg]) (λm k=>by rw[gW,mg aol]) (λm k=>by rw[gU,mg aol]) k aol
 refine⟨a,l',?_,e2,by omega,q,?_⟩
 ·unfold mM;rw[c,sb]
 ·unfold mE;rw[r,sb]
theorem adK (l:List dM) (k:Nat) (h:k+20*zS Gj l<=1000000000000):∃(a:Nat) (l':List dM),tc l (k:Int)=some ((a:Int),l')/\k<=a/\a<=k+20*zS Gj l/\l'.length=l.length/\sH l' (k:Int)=some (a:Int):=by
 obtain⟨a,l',b,e2,v,r,s⟩:=mm 1000000000000 (L:=lh) (H:=kX) l Gj (λx t k c=>by
  have e:=dI (z:=Gj) l;have f:=dJ (z:=Gj) t;simp only[Gj,zV]at c ⊢;have g:=(x.aA).qY;obtain⟨d,u,b,j,n,o,p⟩:=vz _ (x.aA).al (No _) (k+1+1+1+1+1) aol;have q:¬(d:Int)<0:=by omega
  have w:l.length<=2000000000000:=by omega
  have y:k<=2000000000000:=by omega
  have A:d<=2000000000000:=by omega
  refine⟨d,(dM.mk (k:Int) (ae.mk ((k+1:Nat):Int) ((k+1+1:Nat):Int) (yq ((k+1+1+1:Nat):Int)) ((k+1+1+1+1:Nat):Int) u)),by omega,by omega,λm i hi hm=>?_,λm i hi hl hm=>?_⟩
  ·clear c e f g j n o;rw[lh,an aol];simp (maxSteps:=4000000) (disch:=omega) only[hm,dK,aT,sb,aky,b,p,q,alf,ae.cu,ae.cR,ae.cU,ae.cy,ae.bQ]
  ·clear c e f g j n o;rw[kX,an aol];simp (maxSteps:=4000000) (disch:=omega) only[hm,akU,dK,aT,sb,aky,b,p,q,alf,ae.cu,ae.cR,ae.cU,ae.cy,ae.bQ,mg]) (λm k=>by rw[lh,mg aol]) (λm k=>by rw[kX,mg aol]) k aol
 refine⟨a,l',?_,e2,by omega,r,?_⟩
 ·unfold tc;rw[b,sb]
 ·unfold sH;rw[s,sb]
theorem Tl (l:List cz) (k:Nat) (h:k+20*zS zm l<=1000000000000):∃(a:Nat) (l':List cz),om l (k:Int)=some ((a:Int),l')/\k<=a/\a<=k+20*zS zm l/\l'.length=l.length/\n9 l' (k:Int)=some (a:Int):=by
 obtain⟨a,l',b,e2,B,u,v⟩:=mm 1000000000000 (L:=ka) (H:=jW) l zm (λx w k c=>by
  have f:=dI (z:=zm) l;have g:=dJ (z:=zm) w;simp only[zm]at c ⊢;obtain⟨d,y,b,j,n,o,p⟩:=Ip x.bX (k+1+1+1+1+1+1+1) aol;have q:¬(d:Int)<0:=by omega
  obtain⟨e,A,e2,r,s,t,f2⟩:=adK x.fArgs (d) aol;have g2:¬(e:Int)<0:=by omega
  have C:l.length<=2000000000000:=by omega
  have D:k<=2000000000000:=by omega
  have E:d<=2000000000000:=by omega
  have F:e<=2000000000000:=by omega
  refine⟨e,(cz.mk (k:Int) (yq ((k+1:Nat):Int)) ((((k+1+1:Nat):Int).tmod 3)==0) ((k+1+1+1:Nat):Int) ((k+1+1+1+1:Nat):Int) (yq ((k+1+1+1+1+1:Nat):Int)) (yq ((k+1+1+1+1+1+1:Nat):Int)) y A),by omega,by omega,λm i hi hm=>?_,λm i hi hl hm=>?_⟩
  ·clear c f g j n o r s t;rw[ka,an aol];simp (maxSteps:=4000000) (disch:=omega) only[hm,dK,aT,sb,aky,b,p,q,e2,f2,g2,alf]
  ·clear c f g j n o r s t;rw[jW,an aol];simp (maxSteps:=4000000) (disch:=omega) only[hm,akU,dK,aT,sb,aky,b,p,q,e2,f2,g2,alf,mg]) (λm k=>by rw[ka,mg aol]) (λm k=>by rw[jW,mg aol]) k aol
 refine⟨a,l',?_,e2,by omega,u,?_⟩
 ·unfold om;rw[b,sb]
 ·unfold n9;rw[v,sb]
theorem Xt (l:List cP) (k:Nat) (h:k+20*l.length<=1000000000000):∃(a:Nat) (l':List cP),p8 l (k:Int)=some ((a:Int),l')/\k<=a/\a<=k+20*l.length/\l'.length=l.length/\pX l' (k:Int)=some (a:Int):=by
 obtain⟨a,l',e,e2,f,g,j⟩:=mm 1000000000000 (L:=lj) (H:=kY) l (λ_=>0) (λx n k b=>by
  have c:=dI (z:=(λ_=>0)) l;have d:=dJ (z:=(λ_=>0)) n;have o:l.length<=2000000000000:=by have tz:=rA l;omega
  have p:k<=2000000000000:=by omega
  refine⟨k+1+1+1+1+1+1,(cP.mk (((k:Int).tmod 3)==0) (yq ((k+1:Nat):Int)) ((k+1+1:Nat):Int) ((k+1+1+1:Nat):Int) ((k+1+1+1+1:Nat):Int) ((k+1+1+1+1+1:Nat):Int)),by omega,by omega,λm i hi hm=>?_,λm i hi hl hm=>?_⟩
  ·clear b c d;rw[lj,an aol];simp (maxSteps:=4000000) (disch:=omega) only[hm,dK,aT,sb,aky]
  ·clear b c d;rw[kY,an aol];simp (maxSteps:=4000000) (disch:=omega) only[hm,akU,dK,aT,sb,aky,mg]) (λm k=>by rw[lj,mg aol]) (λm k=>by rw[kY,mg aol]) k aoI
 refine⟨a,l',?_,e2,by rw[rA]at f;omega,g,?_⟩
 ·unfold p8;rw[e,sb]
 ·unfold pX;rw[j,sb]
theorem Xu (l:List dx) (k:Nat) (h:k+20*zS Gk l<=1000000000000):∃(a:Nat) (l':List dx),p9 l (k:Int)=some ((a:Int),l')/\k<=a/\a<=k+20*zS Gk l/\l'.length=l.length/\pY l' (k:Int)=some (a:Int):=by
 obtain⟨a,l',c,e2,v,r,s⟩:=mm 1000000000000 (L:=lk) (H:=kZ) l Gk (λx t k d=>by
  have e:=dI (z:=Gk) l;have f:=dJ (z:=Gk) t;simp only[Gk,zV]at d ⊢;have g:=(x.aA).qY;obtain⟨b,u,c,j,n,o,p⟩:=vz _ (x.aA).al (No _) (k+1+1+1+1+1) aol;have q:¬(b:Int)<0:=by omega
  have w:l.length<=2000000000000:=by omega
  have y:k<=2000000000000:=by omega
  have A:b<=2000000000000:=by omega
  refine⟨b+1+1+1,(dx.mk (k:Int) (ae.mk ((k+1:Nat):Int) ((k+1+1:Nat):Int) (yq ((k+1+1+1:Nat):Int)) ((k+1+1+1+1:Nat):Int) u) (b:Int) ((b+1:Nat):Int) ((b+1+1:Nat):Int)),by omega,by omega,λm i hi hm=>?_,λm i hi hl hm=>?_⟩
  ·clear d e f g j n o;rw[lk,an aol];simp (maxSteps:=4000000) (disch:=omega) only[hm,dK,aT,sb,aky,c,p,q,alf,ae.cu,ae.cR,ae.cU,ae.cy,ae.bQ]
  ·clear d e f g j n o;rw[kZ,an aol];simp (maxSteps:=4000000) (disch:=omega) only[hm,akU,dK,aT,sb,aky,c,p,q,alf,ae.cu,ae.cR,ae.cU,ae.cy,ae.bQ,mg]) (λm k=>by rw[lk,mg aol]) (λm k=>by rw[kZ,mg aol]) k aol
 refine⟨a,l',?_,e2,by omega,r,?_⟩
 ·unfold p9;rw[c,sb]
 ·unfold pY;rw[s,sb]
theorem adL (l:List cc) (k:Nat) (h:k+20*zS Gl l<=1000000000000) (X:∀x∈l,abm x):∃(c:Nat) (l':List cc),tf l (k:Int)=some ((c:Int),l')/\k<=c/\c<=k+20*zS Gl l/\l'.length=l.length/\sI l' (k:Int)=some (c:Int):=by
 obtain⟨c,l',d,e2,q,e,f⟩:=mm 1000000000000 (L:=ll) (H:=k9) l Gl (λx r k g=>by
  have s:=dI (z:=Gl) l;have t:=dJ (z:=Gl) r;simp only[Gl,rB,zV]at g ⊢;have u:=(x.bh).qY;obtain⟨b,Y,d,v,w,y,A⟩:=vz _ (x.bh).al (No _) (k+1+1+1+1+1) aol;have B:¬(b:Int)<0:=by omega
  obtain⟨j,Z,e2,C,D,E,f2⟩:=Ip x.ai.ah (b+1+1) aol;have g2:¬(j:Int)<0:=by omega
  obtain⟨n,l3,q,F,G,I,f3⟩:=Im x.ai.bu (j) aol (X x r).p0.p0;have J:¬(n:Int)<0:=by omega
  obtain⟨o,l4,e,K,d4,M,N⟩:=Tl x.ai.bH (n) aol;have O:¬(o:Int)<0:=by omega
  obtain⟨p,l5,f,P,Q,R,f5⟩:=Xt x.ai.bg (o) aol;have S:¬(p:Int)<0:=by omega
  obtain⟨a,l6,e6,T,d6,U,V⟩:=Xu x.ai.cj (p) aol;have W:¬(a:Int)<0:=by omega
  have Bn:l.length<=2000000000000:=by omega
  have B0:k<=2000000000000:=by omega
  have B1:b<=2000000000000:=by omega
  have B2:j<=2000000000000:=by omega
  have B3:n<=2000000000000:=by omega
  have B4:o<=2000000000000:=by omega
  have B5:p<=2000000000000:=by omega
  have B6:a<=2000000000000:=by omega
  refine⟨a+1+1+1+1+1+1,(cc.mk (k:Int) (ae.mk ((k+1:Nat):Int) ((k+1+1:Nat):Int) (yq ((k+1+1+1:Nat):Int)) ((k+1+1+1+1:Nat):Int) Y) (aM.mk (b:Int) ((b+1:Nat):Int) Z l3 l4 l5 l6 (a:Int) (yq ((a+1:Nat):Int)) (yq ((a+1+1:Nat):Int)) ((a+1+1+1:Nat):Int) ((a+1+1+1+1:Nat):Int) ((a+1+1+1+1+1:Nat):Int))),by omega,by omega,λm i hi hm=>?_,λm i hi hl hm=>?_⟩
  ·clear g s t u v w y C D E F G I K d4 M P Q R T d6 U;rw[ll,an aol];simp (maxSteps:=4000000) (disch:=omega) only[hm,dK,aT,sb,aky,d,A,B,e2,f2,g2,q,f3,J,e,N,O,f,f5,S,e6,V,W,alf,ae.cu,ae.cR,ae.cU,ae.cy,ae.bQ]
  ·clear g s t u v w y C D E F G I K d4 M P Q R T d6 U;rw[k9,an aol,hm];rw[sb];try dsimp only[ae.cu,ae.cR,ae.cU,ae.cy,ae.bQ]
   refine alh (an ?_) ?_
   ·rfl
   rw[sb];try dsimp only[ae.cu,ae.cR,ae.cU,ae.cy,ae.bQ]
   rw[aT (i:=k) aol];refine alh (an ?_) ?_
   ·rfl
   rw[sb];try dsimp only[ae.cu,ae.cR,ae.cU,ae.cy,ae.bQ]
   rw[aT (i:=k+1) aol];refine alh (an ?_) ?_
   ·rfl
   rw[sb];try dsimp only[ae.cu,ae.cR,ae.cU,ae.cy,ae.bQ]
   rw[aT (i:=k+1+1) aol,dK _ aol,sb];refine alh (an ?_) ?_
   ·rfl
   rw[sb];try dsimp only[ae.cu,ae.cR,ae.cU,ae.cy,ae.bQ]
   rw[aT (i:=k+1+1+1) aol];refine alh (an ?_) ?_
   ·rfl
   rw[sb];try dsimp only[ae.cu,ae.cR,ae.cU,ae.cy,ae.bQ]
   rw[aT (i:=k+1+1+1+1) aol,A,sb];refine alh (mg B) ?_;rw[sb];try dsimp only[ae.cu,ae.cR,ae.cU,ae.cy,ae.bQ]
   refine alh (an ?_) ?_
   ·rfl
   rw[sb];try dsimp only[ae.cu,ae.cR,ae.cU,ae.cy,ae.bQ]
   rw[aT (i:=b) aol];refine alh (an ?_) ?_
   ·rfl
   rw[sb];try dsimp only[ae.cu,ae.cR,ae.cU,ae.cy,ae.bQ]
   rw[aT (i:=b+1) aol,f2,sb];refine alh (mg g2) ?_;rw[sb];try dsimp only[ae.cu,ae.cR,ae.cU,ae.cy,ae.bQ]
   rw[f3,sb];refine alh (mg J) ?_;rw[sb];try dsimp only[ae.cu,ae.cR,ae.cU,ae.cy,ae.bQ]
   rw[N,sb];refine alh (mg O) ?_;rw[sb];try dsimp only[ae.cu,ae.cR,ae.cU,ae.cy,ae.bQ]
   rw[f5,sb];refine alh (mg S) ?_;rw[sb];try dsimp only[ae.cu,ae.cR,ae.cU,ae.cy,ae.bQ]
   rw[V,sb];refine alh (mg W) ?_;rw[sb];try dsimp only[ae.cu,ae.cR,ae.cU,ae.cy,ae.bQ]
   refine alh (an ?_) ?_
   ·rfl
   rw[sb];try dsimp only[ae.cu,ae.cR,ae.cU,ae.cy,ae.bQ]
   rw[aT (i:=a) aol,dK _ aol,sb];refine alh (an ?_) ?_
   ·rfl
   rw[sb];try dsimp only[ae.cu,ae.cR,ae.cU,ae.cy,ae.bQ]
   rw[aT (i:=a+1) aol,dK _ aol,sb];refine alh (an ?_) ?_
   ·rfl
   rw[sb];try dsimp only[ae.cu,ae.cR,ae.cU,ae.cy,ae.bQ]
   rw[aT (i:=a+1+1) aol];refine alh (an ?_) ?_
   ·rfl
   rw[sb];try dsimp only[ae.cu,ae.cR,ae.cU,ae.cy,ae.bQ]
   rw[aT (i:=a+1+1+1) aol];refine alh (an ?_) ?_
   ·rfl
   rw[sb];try dsimp only[ae.cu,ae.cR,ae.cU,ae.cy,ae.bQ]
   rw[aT (i:=a+1+1+1+1) aol];refine alh (an ?_) ?_
   ·rfl
   rw[aT (i:=a+1+1+1+1+1) aol,aT (i:=i) aol]) (λm k=>by rw[ll,mg aol]) (λm k=>by rw[k9,mg aol]) k aol
 refine⟨c,l',?_,e2,by omega,e,?_⟩
 ·unfold tf;rw[d,sb]
 ·unfold sI;rw[f,sb]
theorem Xv (l:List aM) (k:Nat) (h:k+20*zS rB l<=1000000000000) (R:∀x∈l,MO x):∃(b:Nat) (l':List aM),pE l (k:Int)=some ((b:Int),l')/\k<=b/\b<=k+20*zS rB l/\l'.length=l.length/\pd l' (k:Int)=some (b:Int):=by
 obtain⟨b,l',c,e2,p,d,e⟩:=mm 1000000000000 (L:=jj) (H:=jc) l rB (λx q k f=>by
  have r:=dI (z:=rB) l;have s:=dJ (z:=rB) q;simp only[rB]at f ⊢;obtain⟨g,S,c,t,u,v,w⟩:=Ip x.ah (k+1+1) aol;have y:¬(g:Int)<0:=by omega
  obtain⟨j,T,e2,A,B,C,f2⟩:=Im x.bu (g) aol (R x q).p0;have g2:¬(j:Int)<0:=by omega
  obtain⟨n,U,p,D,E,F,f3⟩:=Tl x.bH (j) aol;have G:¬(n:Int)<0:=by omega
  obtain⟨o,V,d,I,d4,J,K⟩:=Xt x.bg (n) aol;have M:¬(o:Int)<0:=by omega
  obtain⟨a,W,e,N,O,P,f5⟩:=Xu x.cj (o) aol;have Q:¬(a:Int)<0:=by omega
  have X:l.length<=2000000000000:=by omega
  have Y:k<=2000000000000:=by omega
  have Z:g<=2000000000000:=by omega
  have B2:j<=2000000000000:=by omega
  have B3:n<=2000000000000:=by omega
  have B4:o<=2000000000000:=by omega
  have B5:a<=2000000000000:=by omega
  refine⟨a+1+1+1+1+1+1,(aM.mk (k:Int) ((k+1:Nat):Int) S T U V W (a:Int) (yq ((a+1:Nat):Int)) (yq ((a+1+1:Nat):Int)) ((a+1+1+1:Nat):Int) ((a+1+1+1+1:Nat):Int) ((a+1+1+1+1+1:Nat):Int)),by omega,by omega,λm i hi hm=>?_,λm i hi hl hm=>?_⟩
  ·clear f r s t u v A B C D E F I d4 J N O P;rw[jj,an aol];simp (maxSteps:=4000000) (disch:=omega) only[hm,dK,aT,sb,aky,c,w,y,e2,f2,g2,p,f3,G,d,K,M,e,f5,Q,alf]
  ·clear f r s t u v A B C D E F I d4 J N O P;rw[jc,an aol,hm];rw[sb];try dsimp only[ae.cu,ae.cR,ae.cU,ae.cy,ae.bQ]
   refine alh (an ?_) ?_
   ·rfl
   rw[sb];try dsimp only[ae.cu,ae.cR,ae.cU,ae.cy,ae.bQ]
   rw[aT (i:=k) aol];refine alh (an ?_) ?_
   ·rfl
   rw[sb];try dsimp only[ae.cu,ae.cR,ae.cU,ae.cy,ae.bQ]
   rw[aT (i:=k+1) aol,w,sb];refine alh (mg y) ?_;rw[sb];try dsimp only[ae.cu,ae.cR,ae.cU,ae.cy,ae.bQ]
   rw[f2,sb];refine alh (mg g2) ?_;rw[sb];try dsimp only[ae.cu,ae.cR,ae.cU,ae.cy,ae.bQ]
   rw[f3,sb];refine alh (mg G) ?_;rw[sb];try dsimp only[ae.cu,ae.cR,ae.cU,ae.cy,ae.bQ]
   rw[K,sb];refine alh (mg M) ?_;rw[sb];try dsimp only[ae.cu,ae.cR,ae.cU,ae.cy,ae.bQ]
   rw[f5,sb];refine alh (mg Q) ?_;rw[sb];try dsimp only[ae.cu,ae.cR,ae.cU,ae.cy,ae.bQ]
   refine alh (an ?_) ?_
   ·rfl
   rw[sb];try dsimp only[ae.cu,ae.cR,ae.cU,ae.cy,ae.bQ]
   rw[aT (i:=a) aol,dK _ aol,sb];refine alh (an ?_) ?_
   ·rfl
   rw[sb];try dsimp only[ae.cu,ae.cR,ae.cU,ae.cy,ae.bQ]
   rw[aT (i:=a+1) aol,dK _ aol,sb];refine alh (an ?_) ?_
   ·rfl
   rw[sb];try dsimp only[ae.cu,ae.cR,ae.cU,ae.cy,ae.bQ]
   rw[aT (i:=a+1+1) aol];refine alh (an ?_) ?_
   ·rfl
   rw[sb];try dsimp only[ae.cu,ae.cR,ae.cU,ae.cy,ae.bQ]
   rw[aT (i:=a+1+1+1) aol];refine alh (an ?_) ?_
   ·rfl
   rw[sb];try dsimp only[ae.cu,ae.cR,ae.cU,ae.cy,ae.bQ]
   rw[aT (i:=a+1+1+1+1) aol];refine alh (an ?_) ?_
   ·rfl
   rw[aT (i:=a+1+1+1+1+1) aol,aT (i:=i) aol]) (λm k=>by rw[jj,mg aol]) (λm k=>by rw[jc,mg aol]) k aol
 refine⟨b,l',?_,e2,by omega,d,?_⟩
 ·unfold pE;rw[c,sb]
 ·unfold pd;rw[e,sb]
theorem UH (l:List aI) (k:Nat) (h:k+20*l.length<=1000000000000):∃(a:Nat) (l':List aI),nN l (k:Int)=some ((a:Int),l')/\k<=a/\a<=k+20*l.length/\l'.length=l.length/\nF l' (k:Int)=some (a:Int):=by
 obtain⟨a,l',e,e2,f,g,j⟩:=mm 1000000000000 (L:=iy) (H:=ig) l (λ_=>0) (λx n k b=>by
  have c:=dI (z:=(λ_=>0)) l;have d:=dJ (z:=(λ_=>0)) n;have o:l.length<=2000000000000:=by have tz:=rA l;omega
  have p:k<=2000000000000:=by omega
  refine⟨k+1+1,(aI.mk (yq (k:Int)) (yq ((k+1:Nat):Int))),by omega,by omega,λm i hi hm=>?_,λm i hi hl hm=>?_⟩
  ·clear b c d;rw[iy,an aol];simp (maxSteps:=4000000) (disch:=omega) only[hm,dK,aT,sb,aky]
  ·clear b c d;rw[ig,an aol];simp (maxSteps:=4000000) (disch:=omega) only[hm,akU,dK,aT,sb,aky,mg]) (λm k=>by rw[iy,mg aol]) (λm k=>by rw[ig,mg aol]) k aoI
 refine⟨a,l',?_,e2,by rw[rA]at f;omega,g,?_⟩
 ·unfold nN;rw[e,sb]
 ·unfold nF;rw[j,sb]
theorem UI (l:List aJ) (k:Nat) (h:k+20*l.length<=1000000000000):∃(a:Nat) (l':List aJ),nO l (k:Int)=some ((a:Int),l')/\k<=a/\a<=k+20*l.length/\l'.length=l.length/\nG l' (k:Int)=some (a:Int):=by
 obtain⟨a,l',e,e2,f,g,j⟩:=mm 1000000000000 (L:=iz) (H:=ij) l (λ_=>0) (λx n k b=>by
  have c:=dI (z:=(λ_=>0)) l;have d:=dJ (z:=(λ_=>0)) n;have o:l.length<=2000000000000:=by have tz:=rA l;omega
  have p:k<=2000000000000:=by omega
  refine⟨k+1+1,(aJ.mk (k:Int) (yq ((k+1:Nat):Int))),by omega,by omega,λm i hi hm=>?_,λm i hi hl hm=>?_⟩
  ·clear b c d;rw[iz,an aol];simp (maxSteps:=4000000) (disch:=omega) only[hm,dK,aT,sb,aky]
  ·clear b c d;rw[ij,an aol];simp (maxSteps:=4000000) (disch:=omega) only[hm,akU,dK,aT,sb,aky,mg]) (λm k=>by rw[iz,mg aol]) (λm k=>by rw[ij,mg aol]) k aoI
 refine⟨a,l',?_,e2,by rw[rA]at f;omega,g,?_⟩
 ·unfold nO;rw[e,sb]
 ·unfold nG;rw[j,sb]
theorem Xw (x:cp) (k:Nat) (h:k+20*yM x<=1000000000000):∃(a:Nat) (r0:List aI) (r1:List aJ),pF x (k:Int)=some ((a:Int),(cp.mk x.dW r0 r1))/\k<=a/\a<=k+20*yM x/\pf (cp.mk x.dW r0 r1) (k:Int)=some (a:Int):=by
 unfold yM at h ⊢;obtain⟨b,d,e,j,l,m,f⟩:=UH x.aY k aol;have g:¬(b:Int)<0:=by omega
 obtain⟨c,i,e2,n,o,p,f2⟩:=UI x.aZ b aol;have g2:¬(c:Int)<0:=by omega
 refine⟨c,d,i,?_,by omega,by omega,?_⟩
 ·unfold pF;simp only[e,e2,sb]
 ·unfold pf;simp only[f,g,f2,g2,sb,alf]
theorem UJ (x:aS) (k:Nat) (h:k+20*uv x<=1000000000000) (a:KQ x):∃(b:Nat) (r0:List ae) (r1:List aK) (f:List aE) (g:List aH) (i:List aC) (j:List cc) (l:List aM) (m:List aI) (n:List aJ),lp x (k:Int)=some ((b:Int),(aS.mk x.cF x.cg x.dZ x.aF r0 r1 (dL.mk f) g i j l (cp.mk x.bF.dW m n)))/\k<=b/\b<=k+20*uv x/\jo (aS.mk x.cF x.cg x.dZ x.aF r0 r1 (dL.mk f) g i j l (cp.mk x.bF.dW m n)) (k:Int)=some (b:Int):=by
 unfold uv at h ⊢;obtain⟨o,w,y,W,X,Y,z⟩:=Im x.bO k aol a.p0;have A:¬(o:Int)<0:=by omega
 obtain⟨p,B,e2,Z,d2,b2,f2⟩:=Xr x.a8 o aol;have g2:¬(p:Int)<0:=by omega
 obtain⟨q,c,C,c3,d3,f3⟩:=adJ x.cA p aol a.p1;have D:¬(q:Int)<0:=by omega
 obtain⟨r,E,F,c4,d4,b4,G⟩:=UG x.bL q aol;have H:¬(r:Int)<0:=by omega
 obtain⟨s,I,J,c5,d5,b5,f5⟩:=RW x.bx r aol;have K:¬(s:Int)<0:=by omega
 obtain⟨t,L,M,c6,d6,b6,N⟩:=adL x.de s aol a.p2;have O:¬(t:Int)<0:=by omega
 obtain⟨u,P,Q,c7,d7,b7,R⟩:=Xv x.bW t aol a.p3;have S:¬(u:Int)<0:=by omega
 obtain⟨v,d,e,T,c8,d8,U⟩:=Xw x.bF u aol;have V:¬(v:Int)<0:=by omega
 refine⟨v,w,B,c,E,I,L,P,d,e,?_,by omega,by omega,?_⟩
 ·unfold lp;simp only[y,e2,C,F,J,M,Q,T,sb]
 ·unfold jo;simp only[z,A,f2,g2,f3,D,G,H,f5,K,N,O,R,S,U,V,sb,alf]
theorem eh {L:Int->Option (Unit ⊕ Bool)} (n:Nat) (hs:∀k:Nat,k<n->L (k:Int)=L ((k+1:Nat):Int)) (he:L (n:Int)=some (.inl ())):L 0=some (.inl ()):=by
 have go:∀m k:Nat,k+m=n->L (k:Int)=some (.inl ()):=by
  intro m;induction m with
  | zero=>
   intro k a;obtain rfl:k=n:=by omega
   exact he
  | succ m b=>
   intro k a;rw[hs k aol];exact b (k+1) aol
 exact go n 0 aol
theorem MP (x:TParam):uc x x=some true:=by unfold uc;simp [sb]
theorem Bx (l:List TParam) (h:l.length<=1999999999):pW l l=some true:=by
 have e:kQ l l 0=some (.inl ()):=eh l.length (λk a=>by rw[kQ,an aol,bG a,sb,sb,MP,sb,an rfl,aT aol]) (by rw[kQ,mg aol]);unfold pW;rw[an rfl,e];rfl
theorem Ir (l:List bZ) (h:l.length<=1999999999):qI l l=some true:=by
 have e:jT l l 0=some (.inl ()):=eh l.length (λk a=>by rw[jT,an aol,bG a,sb,sb,an rfl,aT aol]) (by rw[jT,mg aol]);unfold qI;rw[an rfl,e];rfl
theorem RZ (x:bV):xU x x=some true:=by unfold xU;simp [sb]
theorem Po (l:List bV) (h:l.length<=1999999999):vU l l=some true:=by
 have e:nZ l l 0=some (.inl ()):=eh l.length (λk a=>by rw[nZ,an aol,bG a,sb,sb,RZ,sb,an rfl,aT aol]) (by rw[nZ,mg aol]);unfold vU;rw[an rfl,e];rfl
theorem Pp (x:aW) (h:oF x<=1999999999):vV x x=some true:=by
 unfold oF at h;unfold vV;simp only[Bx x.bf aol,Bx x.cx aol,Ir x.ah aol,Po x.aR aol,sb,akU]
theorem MQ (l:List aW) (h:zS oF l<=1999999999):ud l l=some true:=by
 have hn:=dI (z:=oF) l;have e:mA l l 0=some (.inl ()):=eh l.length (λk a=>by rw[mA,an aol,bG a,sb,sb,Pp _ (by have hq:=dJ (z:=oF) (akx a);omega),sb,an rfl,aT aol]) (by rw[mA,mg aol]);unfold ud;rw[an rfl,e];rfl
theorem MR (x:aU) (h:js x<=1999999999):ue x x=some true:=by
 unfold js at h;unfold ue;simp only[uw 2000000000 (No _) x.bR (alg (Xm x.bR) aol),sb,akU]
theorem Kf (l:List aU) (h:zS js l<=1999999999):sx l l=some true:=by
 have hn:=dI (z:=js) l;have e:kR l l 0=some (.inl ()):=eh l.length (λk a=>by rw[kR,an aol,bG a,sb,sb,MR _ (by have hq:=dJ (z:=js) (akx a);omega),sb,an rfl,aT aol]) (by rw[kR,mg aol]);unfold sx;rw[an rfl,e];rfl
theorem Kg (x:aQ):sy x x=some true:=by unfold sy;simp [sb]
theorem It (l:List aQ) (h:l.length<=1999999999):qJ l l=some true:=by
 have e:jU l l 0=some (.inl ()):=eh l.length (λk a=>by rw[jU,an aol,bG a,sb,sb,Kg,sb,an rfl,aT aol]) (by rw[jU,mg aol]);unfold qJ;rw[an rfl,e];rfl
theorem MS (x:aN) (h:jC x<=1999999999):uf x x=some true:=by
 unfold jC at h;unfold uf;simp only[Kf x.bp aol,It x.bM aol,sb,akU]
theorem Kh (l:List aN) (h:zS jC l<=1999999999):sA l l=some true:=by
 have hn:=dI (z:=jC) l;have e:kS l l 0=some (.inl ()):=eh l.length (λk a=>by rw[kS,an aol,bG a,sb,sb,MS _ (by have hq:=dJ (z:=jC) (akx a);omega),sb,an rfl,aT aol]) (by rw[kS,mg aol]);unfold sA;rw[an rfl,e];rfl
theorem Iu (x:bb) (h:pH x<=1999999999):qK x x=some true:=by
 unfold pH at h;unfold qK;simp only[MQ x.bT aol,Kh x.bs aol,sb,akU]
theorem Iv (x:aq) (h:dz x<=1999999999):qD x x=some true:=by
 unfold dz at h;unfold qD;simp only[uw 2000000000 (No _) x.aA (alg (Xm x.aA) aol),sb,akU]
theorem By (l:List ae) (h:zS zV l<=1999999999):pV l l=some true:=by
 have hn:=dI (z:=zV) l;have e:kM l l 0=some (.inl ()):=eh l.length (λk a=>by rw[kM,an aol,bG a,sb,sb,uw 2000000000 (No _) _ (by have hq:=dJ (z:=zV) (akx a);have hw:=Xm (l[k]'(a));omega),sb,an rfl,aT aol]) (by rw[kM,mg aol]);unfold pV;rw[an rfl,e];rfl
theorem MT (x:aK):tX x x=some true:=by unfold tX;simp [sb]
theorem Ki (l:List aK) (h:l.length<=1999999999):sg l l=some true:=by
 have e:kN l l 0=some (.inl ()):=eh l.length (λk a=>by rw[kN,an aol,bG a,sb,sb,MT,sb,an rfl,aT aol]) (by rw[kN,mg aol]);unfold sg;rw[an rfl,e];rfl
theorem xe (l:List Int) (h:l.length<=1999999999):oM l l=some true:=by
 have e:nU l l 0=some (.inl ()):=eh l.length (λk a=>by rw[nU,an aol,bG a,sb,sb,an rfl,aT aol]) (by rw[nU,mg aol]);unfold oM;rw[an rfl,e];rfl
theorem Pq (x:aB) (h:xd x<=1999999999):vM x x=some true:=by
 unfold xd at h;unfold vM;simp only[Pr,uw 2000000000 (No _) x.aA (alg (Xm x.aA) aol),sb,akU]
theorem MU (l:List aB) (h:zS xd l<=1999999999):tY l l=some true:=by
 have hn:=dI (z:=xd) l;have e:mw l l 0=some (.inl ()):=eh l.length (λk a=>by rw[mw,an aol,bG a,sb,sb,Pq _ (by have hq:=dJ (z:=xd) (akx a);omega),sb,an rfl,aT aol]) (by rw[mw,mg aol]);unfold tY;rw[an rfl,e];rfl
theorem MV (x:ba) (h:Ik x<=1999999999):tZ x x=some true:=by
 unfold Ik at h;unfold tZ;simp only[xe x.aG aol,MU x.ah aol,sb,akU]
theorem MW (x:aE) (h:qp x<=1999999999):ua x x=some true:=by
 unfold qp at h;unfold ua;simp only[MV x.aP aol,sb,akU]
theorem Kj (l:List aE) (h:zS qp l<=1999999999):sh l l=some true:=by
 have hn:=dI (z:=qp) l;have e:kO l l 0=some (.inl ()):=eh l.length (λk a=>by rw[kO,an aol,bG a,sb,sb,MW _ (by have hq:=dJ (z:=qp) (akx a);omega),sb,an rfl,aT aol]) (by rw[kO,mg aol]);unfold sh;rw[an rfl,e];rfl
theorem Ps (x:dL) (h:Il x<=1999999999):vN x x=some true:=by
 unfold Il at h;unfold vN;simp only[Kj x.bw aol,sb,akU]
theorem zn (l:List aq) (h:zS dz l<=1999999999):my l l=some true:=by
 have hn:=dI (z:=dz) l;have e:iX l l 0=some (.inl ()):=eh l.length (λk a=>by rw[iX,an aol,bG a,sb,sb,Iv _ (by have hq:=dJ (z:=dz) (akx a);omega),sb,an rfl,aT aol]) (by rw[iX,mg aol]);unfold my;rw[an rfl,e];rfl
theorem Kk (x:aH) (h:rb x<=1999999999):sj x x=some true:=by
 unfold rb at h;unfold sj;simp only[zn x.bp aol,sb,akU]
theorem Iw (l:List aH) (h:zS rb l<=1999999999):qE l l=some true:=by
 have hn:=dI (z:=rb) l;have e:jQ l l 0=some (.inl ()):=eh l.length (λk a=>by rw[jQ,an aol,bG a,sb,sb,Kk _ (by have hq:=dJ (z:=rb) (akx a);omega),sb,an rfl,aT aol]) (by rw[jQ,mg aol]);unfold qE;rw[an rfl,e];rfl
theorem Ix (x:aC) (h:nP x<=1999999999):qF x x=some true:=by
 unfold nP at h;unfold qF;simp only[xe x.bX aol,sb,akU]
theorem Gm (l:List aC) (h:zS nP l<=1999999999):oN l l=some true:=by
 have hn:=dI (z:=nP) l;have e:iY l l 0=some (.inl ()):=eh l.length (λk a=>by rw[iY,an aol,bG a,sb,sb,Ix _ (by have hq:=dJ (z:=nP) (akx a);omega),sb,an rfl,aT aol]) (by rw[iY,mg aol]);unfold oN;rw[an rfl,e];rfl
theorem R0 (x:dM) (h:Gj x<=1999999999):xQ x x=some true:=by
 unfold Gj at h;unfold xQ;simp only[uw 2000000000 (No _) x.aA (alg (Xm x.aA) aol),sb,akU]
theorem Pt (l:List dM) (h:zS Gj l<=1999999999):vO l l=some true:=by
 have hn:=dI (z:=Gj) l;have e:nV l l 0=some (.inl ()):=eh l.length (λk a=>by rw[nV,an aol,bG a,sb,sb,R0 _ (by have hq:=dJ (z:=Gj) (akx a);omega),sb,an rfl,aT aol]) (by rw[nV,mg aol]);unfold vO;rw[an rfl,e];rfl
theorem Pu (x:cz) (h:zm x<=1999999999):vP x x=some true:=by
 unfold zm at h;unfold vP;simp only[xe x.bX aol,Pt x.fArgs aol,sb,akU]
theorem MX (l:List cz) (h:zS zm l<=1999999999):ub l l=some true:=by
 have hn:=dI (z:=zm) l;have e:mz l l 0=some (.inl ()):=eh l.length (λk a=>by rw[mz,an aol,bG a,sb,sb,Pu _ (by have hq:=dJ (z:=zm) (akx a);omega),sb,an rfl,aT aol]) (by rw[mz,mg aol]);unfold ub;rw[an rfl,e];rfl
theorem R2 (x:cP):xR x x=some true:=by unfold xR;simp [sb]
theorem Pv (l:List cP) (h:l.length<=1999999999):vQ l l=some true:=by
 have e:nW l l 0=some (.inl ()):=eh l.length (λk a=>by rw[nW,an aol,bG a,sb,sb,R2,sb,an rfl,aT aol]) (by rw[nW,mg aol]);unfold vQ;rw[an rfl,e];rfl
theorem R3 (x:dx) (h:Gk x<=1999999999):xS x x=some true:=by
 unfold Gk at h;unfold xS;simp only[uw 2000000000 (No _) x.aA (alg (Xm x.aA) aol),sb,akU]
theorem Px (l:List dx) (h:zS Gk l<=1999999999):vR l l=some true:=by
 have hn:=dI (z:=Gk) l;have e:nX l l 0=some (.inl ()):=eh l.length (λk a=>by rw[nX,an aol,bG a,sb,sb,R3 _ (by have hq:=dJ (z:=Gk) (akx a);omega),sb,an rfl,aT aol]) (by rw[nX,mg aol]);unfold vR;rw[an rfl,e];rfl
theorem Dv (x:aM) (h:rB x<=1999999999):rJ x x=some true:=by
 unfold rB at h;unfold rJ;simp only[xe x.ah aol,By x.bu aol,MX x.bH aol,Pv x.bg aol,Px x.cj aol,sb,akU]
theorem R4 (x:cc) (h:Gl x<=1999999999):xT x x=some true:=by
 unfold Gl at h;unfold xT;simp only[uw 2000000000 (No _) x.bh (alg (Xm x.bh) aol),Dv x.ai aol,sb,akU]
theorem Py (l:List cc) (h:zS Gl l<=1999999999):vS l l=some true:=by
 have hn:=dI (z:=Gl) l;have e:nY l l 0=some (.inl ()):=eh l.length (λk a=>by rw[nY,an aol,bG a,sb,sb,R4 _ (by have hq:=dJ (z:=Gl) (akx a);omega),sb,an rfl,aT aol]) (by rw[nY,mg aol]);unfold vS;rw[an rfl,e];rfl
theorem Kl (l:List aM) (h:zS rB l<=1999999999):sr l l=some true:=by
 have hn:=dI (z:=rB) l;have e:kP l l 0=some (.inl ()):=eh l.length (λk a=>by rw[kP,an aol,bG a,sb,sb,Dv _ (by have hq:=dJ (z:=rB) (akx a);omega),sb,an rfl,aT aol]) (by rw[kP,mg aol]);unfold sr;rw[an rfl,e];rfl
theorem Km (x:aI):ss x x=some true:=by unfold ss;simp [sb]
theorem Iy (l:List aI) (h:l.length<=1999999999):qG l l=some true:=by
 have e:jR l l 0=some (.inl ()):=eh l.length (λk a=>by rw[jR,an aol,bG a,sb,sb,Km,sb,an rfl,aT aol]) (by rw[jR,mg aol]);unfold qG;rw[an rfl,e];rfl
theorem Kn (x:aJ):su x x=some true:=by unfold su;simp [sb]
theorem Iz (l:List aJ) (h:l.length<=1999999999):qH l l=some true:=by
 have e:jS l l 0=some (.inl ()):=eh l.length (λk a=>by rw[jS,an aol,bG a,sb,sb,Kn,sb,an rfl,aT aol]) (by rw[jS,mg aol]);unfold qH;rw[an rfl,e];rfl
theorem Ko (x:cp) (h:yM x<=1999999999):sw x x=some true:=by
 unfold yM at h;unfold sw;simp only[Iy x.aY aol,Iz x.aZ aol,sb,akU]
theorem IA (x:aS) (h:uv x<=1999999999):lS x x=some true:=by
 unfold uv at h;unfold lS;simp only[By x.bO aol,Ki x.a8 aol,Ps x.cA aol,Iw x.bL aol,Gm x.bx aol,Py x.de aol,Kl x.bW aol,Ko x.bF aol,sb,akU]
theorem vl {y:Int} {n:Nat} (h0:0<=y) (h1:y<=1048576) (hn:n<=9223372036854775807):af (y - (n:Int))=y - (n:Int):=Ij aol aol
theorem Dw {α:Type} {L:Int->Int->Option (Int ⊕ Int)} (l:List α) (sz:α->Int->Option Int) (c:α->Nat) (Q:α->Prop) (hl:l.length<=1048576)
  (f:∀x∈l,∀y:Int,0<=y->y<=1048576->∃v,sz x y=some v/\(v<0\/(0<=v/\v+c x<=y/\Q x)))
  (hs:∀(i:Nat) (hi:i<l.length) (y:Int),0<=y->y<=1048576->L y (i:Int)=(sz l[i] y>>=λv=>if v<0 then some (.inr (-1))else L v ((i+1:Nat):Int)))
  (he:∀y,L y (l.length:Int)=some (.inl y)):∀(m i:Nat),i+m=l.length->∀y:Int,0<=y->y<=1048576->∃o,L y (i:Int)=some o/\(o=.inr (-1)\/∃z,o=.inl z/\0<=z/\z+((l.drop i).map c).sum<=y/\∀x∈l.drop i,Q x):=by
 intro m;induction m with
 | zero=>
  intro i h y d y1;obtain rfl:i=l.length:=by omega
  refine⟨_,he y,.inr ⟨y,rfl,d,by rw[amo];simp,λx a=>by rw[amo]at a;simp at a⟩⟩
 | succ m g=>
  intro i h y d y1;have hi:i<l.length:=by omega
  obtain⟨v,e,hv⟩:=f l[i] (akx hi) y d y1;rw[hs i hi y d y1,e,sb];rcases hv with hv | ⟨j,p,k⟩
  ·rw[an hv];exact⟨_,rfl,.inl rfl⟩
  ·rw[mg aol];obtain⟨o,e2,b⟩:=g (i+1) aol v j aol;refine⟨o,e2,?_⟩;rcases b with b | ⟨z,b,z0,q,n⟩
   ·exact .inl b
   ·refine .inr ⟨z,b,z0,?_,?_⟩
    ·rw[ale hi];simp only[akB,List.sum_cons];omega
    ·intro x a;rw[ale hi]at a;rcases akM.1 a with rfl | a
     ·exact k
     ·exact n x a
theorem Xx {x:cw} (h:x.Ok) {y:Int} (h0:0<=y) (h1:y<=1048576):∃v,xM x y=some v/\(v<0\/(0<=v/\v<=y)):=by
 unfold xM;rw[vl h0 h1 h.h0];by_cases a:y - (x.ck.length:Int)<0
 ·rw[an a];exact⟨_,rfl,.inl aop⟩
 ·rw[mg a];exact⟨_,rfl,.inr ⟨by omega,by omega⟩⟩
theorem Tm:∀l:List aj,aj.Dx l=zS (λe:aj=>e.aA.wt - 1) l
 | []=>rfl
 | e::l=>by
  have:=rC e.aA;rw[wq,ra,Tm l];omega
theorem IB:∀(n:Nat) (v:ae),v.wt<=n->v.Ok->∀y:Int,0<=y->y<=1048576->∃r,mP v y=some r/\(r<0\/(0<=r/\r+(v.wt - 1:Nat)<=y)):=by
 intro n;induction n with
 | zero=>intro v hv;have:=rC v;omega
 | succ n h=>
  intro v hv zF y b y1;obtain⟨j,k,l⟩:=zF.inv;have m:=v.qY;rw[mP,vl b y1 j];by_cases a:y - (v.ck.length:Int)<0
  ·rw[an a];exact⟨_,rfl,.inl aop⟩
  rw[mg a];have f:0<=y - (v.ck.length:Int):=by omega
  have q1:y - (v.ck.length:Int)<=1048576:=by omega
  generalize p:y - (v.ck.length:Int)=y2 at f q1 a ⊢
  have main:∃r,uZ v.al y2=some r/\(r<0\/(0<=r/\r+(v.wt - 1:Nat)<=y2)):=by
   rw[uZ,vl f q1 k];by_cases a:y2 - (v.al.length:Int)<0
   ·rw[an a];exact⟨_,rfl,.inl aop⟩
   ·rw[mg a]
    obtain⟨o,e,q⟩:=Dw (L:=kE v.al) v.al wK (λe:aj=>e.aA.wt - 1) (λ_=>True) aol (λx g y b y1=>by
     obtain⟨s,g2⟩:=(l x g).inv;obtain⟨u,t,hu⟩:=Xx s b y1;have w:=xf _ _ g;rw[wK,t,sb];rcases hu with hu | ⟨A,D⟩
     ·rw[an hu];exact⟨_,rfl,.inl aop⟩
     ·rw[mg aol];obtain⟨E,e2,c⟩:=h x.aA aol g2 u A aol;rw[e2,sb];rcases c with c | ⟨B,F⟩
      ·rw[an c];exact⟨_,rfl,.inl aop⟩
      ·rw[mg aol];exact⟨_,rfl,.inr ⟨B,by omega,trivial⟩⟩) (λi hi y b y1=>by rw[kE,an aol,bG hi,sb,aT aol]) (λy=>by rw[kE,mg aol]) v.al.length 0 aol (y2 - (v.al.length:Int)) aol aol
    rw[show((0:Nat):Int)=0 from rfl]at e;rw[e,sb];rcases q with rfl | ⟨z,rfl,z0,C,G⟩
    ·exact anQ
    ·rw[ald]at C;have:=Tm v.al;unfold zS at this;exact⟨_,rfl,.inr ⟨z0,by omega⟩⟩
  obtain⟨r,e,d⟩:=main
  rw[e,sb];rcases d with d | ⟨r0,r1⟩
  ·rw[an d];exact⟨_,rfl,.inl aop⟩
  ·rw[mg aol];exact⟨_,rfl,.inr ⟨r0,by omega⟩⟩
structure aW.Tx (x:aW):Prop where
 t0:x.az.length<=1048576
structure aQ.Tx (x:aQ):Prop where
 t0:x.az.length<=1048576
 t1:x.fq.length<=1048576
 t2:x.tq.length<=1048576
structure aN.Tx (x:aN):Prop where
 t0:x.az.length<=1048576
 t1:x.iE.length<=1048576
 t2:∀y∈x.bM,aQ.Tx y
structure bb.Tx (x:bb):Prop where
 t0:∀y∈x.bT,aW.Tx y
 t1:∀y∈x.bs,aN.Tx y
theorem R5 {x:TParam} (h:x.Ok) {y:Int} (h0:0<=y) (h1:y<=1048576):∃v,rG x y=some v/\(v<0\/(0<=v/\v<=y)):=by
 unfold rG;rw[vl (y:=y) aol aol h.h0];by_cases a:y - (x.az.length:Int)<0
 ·rw[an a];exact⟨_,rfl,.inl aop⟩
 rw[mg a];exact⟨_,rfl,.inr ⟨by omega,by omega⟩⟩
theorem Fg {l:List TParam} (hl:l.length<=9223372036854775807) (h:∀x∈l,TParam.Ok x) {k:Int} (h0:0<=k) (h1:k<=1048576):∃v,pR l k=some v/\(v<0\/(0<=v/\v+l.length<=k)):=by
 unfold pR;rw[vl h0 h1 hl];by_cases a:k - (l.length:Int)<0
 ·rw[an a];exact⟨_,rfl,.inl aop⟩
 ·rw[mg a];obtain⟨o,e,c⟩:=Dw (L:=kD l) l rG (λ_=>0) (λ_=>True) aol (λx d y b y1=>by obtain⟨r,e,f⟩:=R5 (h x d) b y1;exact⟨r,e,f.imp id λq=>⟨q.1,by simpa using q.2,trivial⟩⟩) (λi hi y b y1=>by rw[kD,an aol,bG hi,sb,aT aol]) (λy=>by rw[kD,mg aol]) l.length 0 aol (k - (l.length:Int)) aol aol;rw[show((0:Nat):Int)=0 from rfl]at e;rw[e,sb];rcases c with rfl | ⟨z,rfl,z0,g,j⟩
  ·exact anQ
  ·rw[ald]at g j;exact anV
theorem MY {l:List bZ} (hl:l.length<=9223372036854775807) (h:∀x∈l,x.length<=9223372036854775807) {k:Int} (h0:0<=k) (h1:k<=1048576):∃v,qu l k=some v/\(v<0\/(0<=v/\v+l.length<=k)):=by
 unfold qu;rw[vl h0 h1 hl];by_cases a:k - (l.length:Int)<0
 ·rw[an a];exact⟨_,rfl,.inl aop⟩
 ·rw[mg a];obtain⟨o,e,c⟩:=Dw (L:=jL l) l (λx y=>some (af (y - (x.length:Int)))) (λ_=>0) (λ_=>True) aol (λx d y b y1=>⟨_,rfl,by rw[vl b y1 (h x d)];simp only[and_true];omega⟩) (λi hi y b y1=>by rw[jL,an aol,bG hi,sb,aT aol];rfl) (λy=>by rw[jL,mg aol]) l.length 0 aol (k - (l.length:Int)) aol aol;rw[show((0:Nat):Int)=0 from rfl]at e;rw[e,sb];rcases c with rfl | ⟨z,rfl,z0,f,g⟩
  ·exact anQ
  ·rw[ald]at f g;exact anV
theorem Xy {x:bV} (h:x.Ok) {y:Int} (h0:0<=y) (h1:y<=1048576):∃v,vr x y=some v/\(v<0\/(0<=v/\v<=y)):=by
 unfold vr;rw[vl (y:=y) aol aol h.h0];by_cases a:y - (x.fS.length:Int)<0
 ·rw[an a];exact⟨_,rfl,.inl aop⟩
 rw[mg a];rw[vl (y:=(y - (x.fS.length:Int))) aol aol h.h1];by_cases b:(y - (x.fS.length:Int)) - (x.fT.length:Int)<0
 ·rw[an b];exact⟨_,rfl,.inl aop⟩
 rw[mg b];exact⟨_,rfl,.inr ⟨by omega,by omega⟩⟩
theorem UK {l:List bV} (hl:l.length<=9223372036854775807) (h:∀x∈l,bV.Ok x) {k:Int} (h0:0<=k) (h1:k<=1048576):∃v,vG l k=some v/\(v<0\/(0<=v/\v+l.length<=k)):=by
 unfold vG;rw[vl h0 h1 hl];by_cases a:k - (l.length:Int)<0
 ·rw[an a];exact⟨_,rfl,.inl aop⟩
 ·rw[mg a];obtain⟨o,e,c⟩:=Dw (L:=nQ l) l vr (λ_=>0) (λ_=>True) aol (λx d y b y1=>by obtain⟨r,e,f⟩:=Xy (h x d) b y1;exact⟨r,e,f.imp id λq=>⟨q.1,by simpa using q.2,trivial⟩⟩) (λi hi y b y1=>by rw[nQ,an aol,bG hi,sb,aT aol]) (λy=>by rw[nQ,mg aol]) l.length 0 aol (k - (l.length:Int)) aol aol;rw[show((0:Nat):Int)=0 from rfl]at e;rw[e,sb];rcases c with rfl | ⟨z,rfl,z0,g,j⟩
  ·exact anQ
  ·rw[ald]at g j;exact anV
theorem UL {x:aW} (h:x.Ok) {y:Int} (h0:0<=y) (h1:y<=1048576):∃v,tD x y=some v/\(v<0\/(0<=v/\v+(oF x:Nat)<=y/\aW.Tx x)):=by
 unfold tD;rw[vl (y:=y) aol aol h.h0];by_cases e:y - (x.az.length:Int)<0
 ·rw[an e];exact⟨_,rfl,.inl aop⟩
 rw[mg e];obtain⟨f,e2,a⟩:=Fg h.h1 h.h2 (k:=(y - (x.az.length:Int))) aol aol;rw[e2,sb];rcases a with a | ⟨p2,q2⟩
 ·rw[an a];exact⟨_,rfl,.inl aop⟩
 rw[mg aol];obtain⟨g,i,b⟩:=Fg h.h3 h.h4 (k:=f) aol aol;rw[i,sb];rcases b with b | ⟨p3,q3⟩
 ·rw[an b];exact⟨_,rfl,.inl aop⟩
 rw[mg aol];obtain⟨j,l,c⟩:=MY h.h5 h.h6 (k:=g) aol aol;rw[l,sb];rcases c with c | ⟨n,q4⟩
 ·rw[an c];exact⟨_,rfl,.inl aop⟩
 rw[mg aol];obtain⟨o,m,d⟩:=UK h.h7 h.h8 (k:=j) aol aol;rw[m,sb];rcases d with d | ⟨p,q⟩
 ·rw[an d];exact⟨_,rfl,.inl aop⟩
 rw[mg aol];exact⟨_,rfl,.inr ⟨by omega,by unfold oF;omega,⟨by omega⟩⟩⟩
theorem R6 {l:List aW} (hl:l.length<=9223372036854775807) (h:∀x∈l,aW.Ok x) {k:Int} (h0:0<=k) (h1:k<=1048576):∃v,tT l k=some v/\(v<0\/(0<=v/\v+(zS oF l:Nat)<=k/\∀x∈l,aW.Tx x)):=by
 unfold tT;rw[vl h0 h1 hl];by_cases a:k - (l.length:Int)<0
 ·rw[an a];exact⟨_,rfl,.inl aop⟩
 ·rw[mg a];obtain⟨o,e,d⟩:=Dw (L:=mq l) l tD oF aW.Tx aol (λx f y b y1=>UL (h x f) b y1) (λi hi y b y1=>by rw[mq,an aol,bG hi,sb,aT aol]) (λy=>by rw[mq,mg aol]) l.length 0 aol (k - (l.length:Int)) aol aol;rw[show((0:Nat):Int)=0 from rfl]at e;rw[e,sb];rcases d with rfl | ⟨z,rfl,z0,g,c⟩
  ·exact anQ
  ·rw[ald]at g c;exact⟨_,rfl,.inr ⟨z0,by unfold zS;omega,c⟩⟩
theorem R7 {x:aU} (h:x.Ok) {y:Int} (h0:0<=y) (h1:y<=1048576):∃v,rH x y=some v/\(v<0\/(0<=v/\v+(js x:Nat)<=y)):=by
 unfold rH;rw[vl (y:=y) aol aol h.h0];by_cases b:y - (x.az.length:Int)<0
 ·rw[an b];exact⟨_,rfl,.inl aop⟩
 rw[mg b];rw[vl (y:=(y - (x.az.length:Int))) aol aol h.h1];by_cases c:(y - (x.az.length:Int)) - (x.fq.length:Int)<0
 ·rw[an c];exact⟨_,rfl,.inl aop⟩
 rw[mg c];obtain⟨e,d,a⟩:=IB _ x.bR (No _) h.h2 ((y - (x.az.length:Int)) - (x.fq.length:Int)) aol aol;rw[d,sb];rcases a with a | ⟨f,q4⟩
 ·rw[an a];exact⟨_,rfl,.inl aop⟩
 rw[mg aol];exact⟨_,rfl,.inr ⟨by omega,by unfold js zV;omega⟩⟩
theorem Pz {l:List aU} (hl:l.length<=9223372036854775807) (h:∀x∈l,aU.Ok x) {k:Int} (h0:0<=k) (h1:k<=1048576):∃v,rZ l k=some v/\(v<0\/(0<=v/\v+(zS js l:Nat)<=k)):=by
 unfold rZ;rw[vl h0 h1 hl];by_cases a:k - (l.length:Int)<0
 ·rw[an a];exact⟨_,rfl,.inl aop⟩
 ·rw[mg a];obtain⟨o,e,c⟩:=Dw (L:=kG l) l rH js (λ_=>True) aol (λx d y b y1=>by obtain⟨r,e,f⟩:=R7 (h x d) b y1;exact⟨r,e,f.imp id λq=>⟨q.1,by exact q.2,trivial⟩⟩) (λi hi y b y1=>by rw[kG,an aol,bG hi,sb,aT aol]) (λy=>by rw[kG,mg aol]) l.length 0 aol (k - (l.length:Int)) aol aol;rw[show((0:Nat):Int)=0 from rfl]at e;rw[e,sb];rcases c with rfl | ⟨z,rfl,z0,g,j⟩
  ·exact anQ
  ·rw[ald]at g j;exact⟨_,rfl,.inr ⟨z0,by unfold zS;omega⟩⟩
theorem PA {x:aQ} (h:x.Ok) {y:Int} (h0:0<=y) (h1:y<=1048576):∃v,pS x y=some v/\(v<0\/(0<=v/\v<=y/\aQ.Tx x)):=by
 unfold pS;rw[vl (y:=y) aol aol h.h0];by_cases b:y - (x.az.length:Int)<0
 ·rw[an b];exact⟨_,rfl,.inl aop⟩
 rw[mg b];rw[vl (y:=(y - (x.az.length:Int))) aol aol h.h1];by_cases c:(y - (x.az.length:Int)) - (x.fq.length:Int)<0
 ·rw[an c];exact⟨_,rfl,.inl aop⟩
 rw[mg c];rw[vl (y:=((y - (x.az.length:Int)) - (x.fq.length:Int))) aol aol h.h2];by_cases a:((y - (x.az.length:Int)) - (x.fq.length:Int)) - (x.tq.length:Int)<0
 ·rw[an a];exact⟨_,rfl,.inl aop⟩
 rw[mg a];exact⟨_,rfl,.inr ⟨by omega,by omega,⟨by omega,by omega,by omega⟩⟩⟩
theorem MZ {l:List aQ} (hl:l.length<=9223372036854775807) (h:∀x∈l,aQ.Ok x) {k:Int} (h0:0<=k) (h1:k<=1048576):∃v,qv l k=some v/\(v<0\/(0<=v/\v+l.length<=k/\∀x∈l,aQ.Tx x)):=by
 unfold qv;rw[vl h0 h1 hl];by_cases a:k - (l.length:Int)<0
 ·rw[an a];exact⟨_,rfl,.inl aop⟩
 ·rw[mg a];obtain⟨o,e,d⟩:=Dw (L:=jM l) l pS (λ_=>0) aQ.Tx aol (λx f y b y1=>by obtain⟨r,e,g⟩:=PA (h x f) b y1;exact⟨r,e,g.imp id λq=>⟨q.1,by simpa using q.2.1,q.2.2⟩⟩) (λi hi y b y1=>by rw[jM,an aol,bG hi,sb,aT aol]) (λy=>by rw[jM,mg aol]) l.length 0 aol (k - (l.length:Int)) aol aol;rw[show((0:Nat):Int)=0 from rfl]at e;rw[e,sb];rcases d with rfl | ⟨z,rfl,z0,j,c⟩
  ·exact anQ
  ·rw[ald]at j c;exact⟨_,rfl,.inr ⟨z0,by have tz:=rA l;unfold zS at tz;omega,c⟩⟩
theorem R8 {x:aN} (h:x.Ok) {y:Int} (h0:0<=y) (h1:y<=1048576):∃v,rI x y=some v/\(v<0\/(0<=v/\v+(jC x:Nat)<=y/\aN.Tx x)):=by
 unfold rI;rw[vl (y:=y) aol aol h.h0];by_cases c:y - (x.az.length:Int)<0
 ·rw[an c];exact⟨_,rfl,.inl aop⟩
 rw[mg c];rw[vl (y:=(y - (x.az.length:Int))) aol aol h.h1];by_cases d:(y - (x.az.length:Int)) - (x.iE.length:Int)<0
 ·rw[an d];exact⟨_,rfl,.inl aop⟩
 rw[mg d];obtain⟨e,f,a⟩:=Pz h.h2 h.h3 (k:=((y - (x.az.length:Int)) - (x.iE.length:Int))) aol aol;rw[f,sb];rcases a with a | ⟨p3,q3⟩
 ·rw[an a];exact⟨_,rfl,.inl aop⟩
 rw[mg aol];obtain⟨j,g,b⟩:=MZ h.h4 h.h5 (k:=e) aol aol;rw[g,sb];rcases b with b | ⟨l,q4,i⟩
 ·rw[an b];exact⟨_,rfl,.inl aop⟩
 rw[mg aol];exact⟨_,rfl,.inr ⟨by omega,by unfold jC;omega,⟨by omega,by omega,i⟩⟩⟩
theorem PC {l:List aN} (hl:l.length<=9223372036854775807) (h:∀x∈l,aN.Ok x) {k:Int} (h0:0<=k) (h1:k<=1048576):∃v,sc l k=some v/\(v<0\/(0<=v/\v+(zS jC l:Nat)<=k/\∀x∈l,aN.Tx x)):=by
 unfold sc;rw[vl h0 h1 hl];by_cases a:k - (l.length:Int)<0
 ·rw[an a];exact⟨_,rfl,.inl aop⟩
 ·rw[mg a];obtain⟨o,e,d⟩:=Dw (L:=kH l) l rI jC aN.Tx aol (λx f y b y1=>R8 (h x f) b y1) (λi hi y b y1=>by rw[kH,an aol,bG hi,sb,aT aol]) (λy=>by rw[kH,mg aol]) l.length 0 aol (k - (l.length:Int)) aol aol;rw[show((0:Nat):Int)=0 from rfl]at e;rw[e,sb];rcases d with rfl | ⟨z,rfl,z0,g,c⟩
  ·exact anQ
  ·rw[ald]at g c;exact⟨_,rfl,.inr ⟨z0,by unfold zS;omega,c⟩⟩
theorem Dy {x:bb} (h:x.Ok) {y:Int} (h0:0<=y) (h1:y<=1048576):∃v,lQ x y=some v/\(v<0\/(0<=v/\v+(pH x:Nat)<=y/\bb.Tx x)):=by
 unfold lQ;obtain⟨c,d,a⟩:=R6 h.h0 h.h1 (k:=y) aol aol;rw[d,sb];rcases a with a | ⟨p1,q1,t1⟩
 ·rw[an a];exact⟨_,rfl,.inl aop⟩
 rw[mg aol];obtain⟨e,e2,b⟩:=PC h.h2 h.h3 (k:=c) aol aol;rw[e2,sb];rcases b with b | ⟨p2,q2,t2⟩
 ·rw[an b];exact⟨_,rfl,.inl aop⟩
 rw[mg aol];exact⟨_,rfl,.inr ⟨by omega,by unfold pH;omega,⟨t1,t2⟩⟩⟩
theorem M0 {x:aq} (h:x.Ok) {y:Int} (h0:0<=y) (h1:y<=1048576):∃v,nS x y=some v/\(v<0\/(0<=v/\v+(dz x:Nat)<=y)):=by
 unfold nS;rw[vl (y:=y) aol aol h.h0];by_cases b:y - (x.az.length:Int)<0
 ·rw[an b];exact⟨_,rfl,.inl aop⟩
 rw[mg b];obtain⟨c,e2,a⟩:=IB _ x.aA (No _) h.h1 (y - (x.az.length:Int)) aol aol;rw[e2,sb];rcases a with a | ⟨p2,q2⟩
 ·rw[an a];exact⟨_,rfl,.inl aop⟩
 rw[mg aol];exact⟨_,rfl,.inr ⟨by omega,by unfold dz zV;omega⟩⟩
theorem Bz {l:List aq} (hl:l.length<=9223372036854775807) (h:∀x∈l,aq.Ok x) {k:Int} (h0:0<=k) (h1:k<=1048576):∃v,kg l k=some v/\(v<0\/(0<=v/\v+(zS dz l:Nat)<=k)):=by
 unfold kg;rw[vl h0 h1 hl];by_cases a:k - (l.length:Int)<0
 ·rw[an a];exact⟨_,rfl,.inl aop⟩
 ·rw[mg a];obtain⟨o,e,c⟩:=Dw (L:=iW l) l nS dz (λ_=>True) aol (λx d y b y1=>by obtain⟨r,e,f⟩:=M0 (h x d) b y1;exact⟨r,e,f.imp id λq=>⟨q.1,by exact q.2,trivial⟩⟩) (λi hi y b y1=>by rw[iW,an aol,bG hi,sb,aT aol]) (λy=>by rw[iW,mg aol]) l.length 0 aol (k - (l.length:Int)) aol aol;rw[show((0:Nat):Int)=0 from rfl]at e;rw[e,sb];rcases c with rfl | ⟨z,rfl,z0,g,j⟩
  ·exact anQ
  ·rw[ald]at g j;exact⟨_,rfl,.inr ⟨z0,by unfold zS;omega⟩⟩
theorem tR {α:Type} (a:List α) {L:List α->Int->Option (List α)} (hs:∀(l:List α) (k:Nat) (h:k<a.length),l.length=a.length->L l (k:Int)=L (l.set k a[k]) ((k+1:Nat):Int))
  (he:∀l,L l (a.length:Int)=some l):∀(f k:Nat) (l:List α),a.length<=k+f->k<=a.length->l.length=a.length->(∀j,j<k->l[j]? =a[j]?)->L l (k:Int)=some a
 | f,k,l,hf,b,hl,hj=>by
  by_cases hc:k<a.length
  ·obtain⟨g,rfl⟩:∃g,f=g+1:=⟨f - 1,by omega⟩;rw[hs l k hc hl];refine tR a hs he g (k+1) _ aol aol (by rw[alI];exact hl) (λj c=>?_);rw[alB];by_cases h:k=j
   ·subst h;rw[an rfl,an aol,Is hc]
   ·rw[mg h];exact hj j aol
  ·have:k=a.length:=by omega
   subst this;rw[he l];congr 1;refine List.ext_getElem? λj=>?_;by_cases h:j<a.length
   ·exact hj j h
   ·rw[akT aol,akT aol]
theorem mk_eq {α:Type} [Inhabited α] {b n:Nat} (hn:n<=2000000) (a:b<=1000):(qw b (n:Int) (n:Int):Option (List α))=some (List.replicate n default):=by
 unfold qw;have:n*b<=2000000*1000:=Nat.mul_le_mul hn a;rw[an ⟨by omega,by omega,by omega,by simp only[aky];omega⟩];rfl
theorem ID:∀(n:Nat),n<=2000000->∀v:ae,v.wt<=n->mQ v=some v:=by
 intro n;induction n with
 | zero=>intro _ v hv;have:=rC v;omega
 | succ n b=>
  intro hn v hv;have c:=v.qY;have d:=yN v.al
  have e:=tR v.al (L:=kJ v.al) (λl k a hl=>by
   have f:=xf _ _ (akx a)
   have he:wM v.al[k]=some v.al[k]:=by
    rw[wM,b aol _ aol,sb];cases v.al[k];rfl
   rw[kJ,an aol,bG a,sb,he,sb,bG aol,sb,aT aol];rfl) (λl=>by rw[kJ,mg aol]) v.al.length 0 (List.replicate v.al.length default) aol aol aon (λj h=>absurd h aol)
  rw[show((0:Nat):Int)=0 from rfl]at e;rw[mQ,yw,mk_eq aol aol,sb,e,sb,sb];cases v;rfl
theorem Fh (a:List TParam) (h:a.length<=1999999):pT a=some a:=by
 unfold pT;have e:=tR a (L:=kI a) (λl k b hl=>by rw[kI,an aol,bG b,sb,bG aol,sb,aT aol];rfl) (λl=>by rw[kI,mg aol]) a.length 0 (List.replicate a.length default) aol aol aon (λj h=>absurd h aol);rw[show((0:Nat):Int)=0 from rfl]at e;rw[mk_eq aol aol,sb,e];rfl
theorem M1 (a:List bZ) (h:a.length<=1999999):qy a=some a:=by
 unfold qy;have e:=tR a (L:=jO a) (λl k b hl=>by rw[jO,an aol,bG b,sb,bG aol,sb,aT aol];rfl) (λl=>by rw[jO,mg aol]) a.length 0 (List.replicate a.length default) aol aol aon (λj h=>absurd h aol);rw[show((0:Nat):Int)=0 from rfl]at e;rw[mk_eq aol aol,sb,e];rfl
theorem UM (a:List bV) (h:a.length<=1999999):vH a=some a:=by
 unfold vH;have e:=tR a (L:=nT a) (λl k b hl=>by rw[nT,an aol,bG b,sb,bG aol,sb,aT aol];rfl) (λl=>by rw[nT,mg aol]) a.length 0 (List.replicate a.length default) aol aol aon (λj h=>absurd h aol);rw[show((0:Nat):Int)=0 from rfl]at e;rw[mk_eq aol aol,sb,e];rfl
theorem UN (x:aW) (h:oF x<=1999999):vI x=some x:=by
 unfold oF at h;unfold vI;simp only[Fh x.bf aol,Fh x.cx aol,M1 x.ah aol,UM x.aR aol,sb]
theorem R9 (a:List aW) (h:zS oF a<=1999999):tU a=some a:=by
 have hn:=dI (z:=oF) a;unfold tU;have e:=tR a (L:=mr a) (λl k b hl=>by rw[mr,an aol,bG b,sb,UN _ (by have hq:=dJ (z:=oF) (akx b);omega),sb,bG aol,sb,aT aol];rfl) (λl=>by rw[mr,mg aol]) a.length 0 (List.replicate a.length default) aol aol aon (λj h=>absurd h aol);rw[show((0:Nat):Int)=0 from rfl]at e;rw[mk_eq aol aol,sb,e];rfl
theorem Sa (x:aU) (h:js x<=1999999):tV x=some x:=by
 unfold js at h;unfold tV;simp only[ID 2000000 (No _) x.bR (alg (Xm x.bR) aol),sb]
theorem PD (a:List aU) (h:zS js a<=1999999):se a=some a:=by
 have hn:=dI (z:=js) a;unfold se;have e:=tR a (L:=kK a) (λl k b hl=>by rw[kK,an aol,bG b,sb,Sa _ (by have hq:=dJ (z:=js) (akx b);omega),sb,bG aol,sb,aT aol];rfl) (λl=>by rw[kK,mg aol]) a.length 0 (List.replicate a.length default) aol aol aon (λj h=>absurd h aol);rw[show((0:Nat):Int)=0 from rfl]at e;rw[mk_eq aol aol,sb,e];rfl
theorem M3 (a:List aQ) (h:a.length<=1999999):qA a=some a:=by
 unfold qA;have e:=tR a (L:=jP a) (λl k b hl=>by rw[jP,an aol,bG b,sb,bG aol,sb,aT aol];rfl) (λl=>by rw[jP,mg aol]) a.length 0 (List.replicate a.length default) aol aol aon (λj h=>absurd h aol);rw[show((0:Nat):Int)=0 from rfl]at e;rw[mk_eq aol aol,sb,e];rfl
theorem Sb (x:aN) (h:jC x<=1999999):tW x=some x:=by
 unfold jC at h;unfold tW;simp only[PD x.bp aol,M3 x.bM aol,sb]
theorem PE (a:List aN) (h:zS jC a<=1999999):sf a=some a:=by
 have hn:=dI (z:=jC) a;unfold sf;have e:=tR a (L:=kL a) (λl k b hl=>by rw[kL,an aol,bG b,sb,Sb _ (by have hq:=dJ (z:=jC) (akx b);omega),sb,bG aol,sb,aT aol];rfl) (λl=>by rw[kL,mg aol]) a.length 0 (List.replicate a.length default) aol aol aon (λj h=>absurd h aol);rw[show((0:Nat):Int)=0 from rfl]at e;rw[mk_eq aol aol,sb,e];rfl
theorem Dz (x:bb) (h:pH x<=1999999):fm x=some x:=by
 unfold pH at h;unfold fm;simp only[R9 x.bT aol,PE x.bs aol,sb]
theorem M4 (x:aq) (h:dz x<=1999999):qB x=some x:=by
 unfold dz at h;unfold qB;simp only[ID 2000000 (No _) x.aA (alg (Xm x.aA) aol),sb]
theorem BA (a:List aq) (h:zS dz a<=1999999):eH a=some a:=by
 have hn:=dI (z:=dz) a;unfold eH;have e:=tR a (L:=gz a) (λl k b hl=>by rw[gz,an aol,bG b,sb,M4 _ (by have hq:=dJ (z:=dz) (akx b);omega),sb,bG aol,sb,aT aol];rfl) (λl=>by rw[gz,mg aol]) a.length 0 (List.replicate a.length default) aol aol aon (λj h=>absurd h aol);rw[show((0:Nat):Int)=0 from rfl]at e;rw[mk_eq aol aol,sb,e];rfl
theorem Av (a b c:Int):FR a b c=some (decide (b<=a/\a<=c)):=by
 unfold FR;by_cases h:b<=a
 ·rw[an h];congr 1;simp;omega
 ·rw[mg h];congr 1;symm;rw[aly];omega
theorem xg (a b c:Int):BV a b c=some (decide (b<=a/\a<=c)):=by
 unfold BV;by_cases h:a>=b
 ·rw[an h];congr 1;simp;omega
 ·rw[mg h];congr 1;symm;rw[aly];omega
def isLet (b:UInt8):Bool:=decide (65<=b.toNat/\b.toNat<=90)||decide (97<=b.toNat/\b.toNat<=122)
def IE (b:UInt8):Bool:=decide (48<=b.toNat/\b.toNat<=57)
theorem adM (b:UInt8):sJ (b.toNat:Int)=some (isLet b):=by
 unfold sJ isLet;by_cases h:(b.toNat:Int)>=65
 ·rw[an h];by_cases h2:(b.toNat:Int)<=90
  ·rw[an h2];congr 1;symm;simp;omega
  ·rw[mg h2];by_cases h3:(b.toNat:Int)>=97
   ·rw[an h3];congr 1;rw[akX];simp;omega
   ·rw[mg h3];congr 1;symm;simp;omega
 ·rw[mg h,mg aol];congr 1;symm;simp;omega
theorem adN (b:UInt8):uk (b.toNat:Int)=some (IE b):=by
 unfold uk IE;by_cases h:(b.toNat:Int)>=48
 ·rw[an h];congr 1;rw[akX];simp;omega
 ·rw[mg h];congr 1;symm;simp;omega
theorem wb (b:UInt8):af (b.toNat:Int)=(b.toNat:Int):=by
 have:=b.toNat_lt;exact Ij aol aol
theorem aac (b:UInt8):qR (b.toNat:Int)=some (isLet b||decide (b.toNat=95)):=by
 unfold qR isLet;rw[wb,xg,sb];by_cases h:(97:Int)<=(b.toNat:Int)/\(b.toNat:Int)<=122
 ·rw[an aoq];congr 1;symm;simp;omega
 ·rw[mg aoq,xg,sb];by_cases h2:(65:Int)<=(b.toNat:Int)/\(b.toNat:Int)<=90
  ·rw[an aoq];congr 1;symm;simp;omega
  ·rw[mg aoq];congr 1;rw[akX];simp;omega
theorem aad (b:UInt8):sK (b.toNat:Int)=some (IE b):=by
 unfold sK IE;rw[wb,xg,sb];congr 1;rw[akX];simp;omega
def Aw (s:bZ):Nat->Nat->Nat
 | 0,i=>i
 | f+1,i=>if i<s.length then(if isLet (s.getD i 0)||decide ((s.getD i 0).toNat=95)||(decide (0<i)&&IE (s.getD i 0))then Aw s f (i+1)else i)else i
theorem PF (s:bZ) (hs:s.length<9223372036854775807):∀(f i:Nat),s.length<=i+f->i<=s.length->gL s (i:Int)=some ((Aw s (f+1) i:Nat):Int)
 | f,i,h,hi=>by
  rw[gL,Aw];by_cases hc:i<s.length
  ·rw[an aol,an hc,yg hc,sb,adM,sb,aT aol];obtain⟨g,rfl⟩:∃g,f=g+1:=⟨f - 1,by omega⟩;have a:=PF s hs g (i+1) aol aol;cases hl:isLet (s.getD i 0)
   ·rw[mg aon,sb];by_cases h5:(s.getD i 0).toNat=95
    ·rw[an aol,a,an (by simp only[h5,eq_self,decide_true,Bool.or_true,amK])]
    ·rw[mg aol];by_cases h0:0<i
     ·rw[an aol,sb,adN,sb];cases hd:IE (s.getD i 0)
      ·rw[mg aon,mg (by simp only[h5,decide_false,Bool.or_false,amv,amn];simp)]
      ·rw[an rfl,a,an (by simp only[h0,decide_true,alM,Bool.or_true])]
     ·rw[mg aol,mg (by simp only[h5,h0,decide_false,alS,Bool.or_false];simp)]
   ·rw[an rfl,a,an aon]
  ·rw[mg aol,mg hc]
theorem PG (s:bZ) (hs:s.length<9223372036854775807):∀(f i:Nat),s.length<=i+f->i<=s.length->mF s 0 (i:Int)=some ((Aw s (f+1) i:Nat):Int)
 | f,i,h,hi=>by
  rw[mF,Aw];by_cases hc:i<s.length
  ·rw[an aol,an hc,yg hc,sb,aac,sb,aT aol];obtain⟨g,rfl⟩:∃g,f=g+1:=⟨f - 1,by omega⟩;have a:=PG s hs g (i+1) aol aol;cases hl:(isLet (s.getD i 0)||decide ((s.getD i 0).toNat=95))
   ·rw[mg aon];by_cases h0:0<i
    ·rw[an aol,sb,aad,sb];cases hd:IE (s.getD i 0)
     ·rw[mg aon,mg aon]
     ·rw[an rfl,a,an (by simp [h0])]
    ·rw[mg aol,mg (by simp [h0])]
   ·rw[an rfl,a,an aon]
  ·rw[mg aol,mg hc]
theorem UO (s:bZ):∃b,vY s=some b/\vZ s=some b:=by
 unfold vY vZ;by_cases h:s.length<=20
 ·rw[an aol]
  have a:pg s=some ((Aw s (s.length+1) 0:Nat):Int):=by
   unfold pg;have:=PF s aol s.length 0 aol aol;rw[show((0:Nat):Int)=0 from rfl]at this;rw[this,sb]
  have e2:um s 0=some ((Aw s (s.length+1) 0:Nat):Int):=by
   unfold um;have:=PG s aol s.length 0 aol aol;rw[show((0:Nat):Int)=0 from rfl]at this;rw[this,sb]
  rw[a,sb,e2];cases s with
  | nil=>exact⟨_,rfl,rfl⟩
  | cons c r=>
   rw[an (show((c::r).length:Int)>=1 by simp;omega),an (show((c::r).length:Int)<=20 by omega),sb];by_cases he:Aw (c::r) ((c::r).length+1) 0=(c::r).length
   ·rw[an aol];refine⟨_,rfl,?_⟩;congr 1;simp only[alk,he];simp
   ·rw[mg aol];refine⟨_,rfl,?_⟩;congr 1;rw[amt];omega
 ·rw[mg aol];refine⟨_,rfl,?_⟩;rw[an aol,mg aol]
def Gn:List bZ:=[[101,99,104,111],[105,102],[101,108,115,101],[119,104,105,108,101],[102,111,114,101,97,99,104],[97,115],[98,114,101,97,107],[99,111,110,116,105,110,117,101],[114,101,116,117,114,110],[103,108,111,98,97,108],[117,110,115,101,116],[116,104,114,111,119],[116,114,121],[99,97,116,99,104],[102,105,110,97,108,108,121],[121,105,101,108,100],[105,110,99,108,117,100,101],[102,117,110,99,116,105,111,110],[99,108,97,115,115],[116,114,97,105,116],[101,120,116,101,110,100,115],[117,115,101],[112,114,105,118,97,116,101],[115,116,97,116,105,99],[110,101,119],[116,114,117,101],[102,97,108,115,101],[110,117,108,108]]
theorem Tn (s:bZ):∀(f k:Nat),Gn.length<=k+f->lF s (k:Int)=some (if(Gn.drop k).any (λx=>decide (s=x))then .inr true else .inl ())
 | f,k,h=>by
  rw[lF];change (if(k:Int)<(Gn.length:Int)then idx Gn (k:Int)>>=_ else _)=_
  by_cases hc:k<Gn.length
  ·have hl:Gn.length=28:=rfl;rw[an aol,bG hc,sb,aT aol,ale hc,List.any_cons];by_cases he:Gn[k]=s
   ·rw[an he,an (by rw[<-he];simp)]
   ·obtain⟨g,rfl⟩:∃g,f=g+1:=⟨f - 1,by omega⟩;rw[mg he,Tn s g (k+1) aol,akI (λh=>he h.symm),amn]
  ·rw[mg aol,amm aol];rfl
theorem eW {s x:bZ} {b:Bool} {z:Option Bool} (h:z=some b):(if s=x then some true else z)=some (decide (s=x)||b):=by
 subst h;by_cases h:s=x
 ·rw[an h,ala h,amK]
 ·rw[mg h,akI h,amn]
theorem aae (s:bZ):pj s=some (Gn.any λx=>decide (s=x)):=by
 unfold pj;have:=Tn s Gn.length 0 aol;rw[show((0:Nat):Int)=0 from rfl,ald]at this;rw[this,sb];cases hc:Gn.any (λx=>decide (s=x))
 ·rfl
 ·rfl
theorem aaf (s:bZ):ph s=some (Gn.any λx=>decide (s=x)):=by
 have e:Gn.any (λx=>decide (s=x))=(decide (s=([101,99,104,111]:bZ))||(decide (s=([105,102]:bZ))||(decide (s=([101,108,115,101]:bZ))||(decide (s=([119,104,105,108,101]:bZ))||(decide (s=([102,111,114,101,97,99,104]:bZ))||(decide (s=([97,115]:bZ))||(decide (s=([98,114,101,97,107]:bZ))||(decide (s=([99,111,110,116,105,110,117,101]:bZ))||(decide (s=([114,101,116,117,114,110]:bZ))||(decide (s=([103,108,111,98,97,108]:bZ))||(decide (s=([117,110,115,101,116]:bZ))||(decide (s=([116,104,114,111,119]:bZ))||(decide (s=([116,114,121]:bZ))||(decide (s=([99,97,116,99,104]:bZ))||(decide (s=([102,105,110,97,108,108,121]:bZ))||(decide (s=([121,105,101,108,100]:bZ))||(decide (s=([105,110,99,108,117,100,101]:bZ))||(decide (s=([102,117,110,99,116,105,111,110]:bZ))||(decide (s=([99,108,97,115,115]:bZ))||(decide (s=([116,114,97,105,116]:bZ))||(decide (s=([101,120,116,101,110,100,115]:bZ))||(decide (s=([117,115,101]:bZ))||(decide (s=([112,114,105,118,97,116,101]:bZ))||(decide (s=([115,116,97,116,105,99]:bZ))||(decide (s=([110,101,119]:bZ))||(decide (s=([116,114,117,101]:bZ))||(decide (s=([102,97,108,115,101]:bZ))||(decide (s=([110,117,108,108]:bZ))||false)))))))))))))))))))))))))))):=rfl;rw[e];unfold ph;exact(eW (eW (eW (eW (eW (eW (eW (eW (eW (eW (eW (eW (eW (eW (eW (eW (eW (eW (eW (eW (eW (eW (eW (eW (eW (eW (eW (eW rfl))))))))))))))))))))))))))))
theorem GD (s:bZ):∃b,fX s=some b/\iP s=some b:=by
 obtain⟨b,h1,h2⟩:=UO s;unfold fX iP;rw[h1,h2,sb,sb,aaf,aae];cases b
 ·exact⟨_,rfl,rfl⟩
 ·exact⟨_,rfl,rfl⟩
theorem M5 {α β:Type} {x:Option α} {f:α->Option β} (h1:∃a,x=some a) (h2:∀a,∃b,f a=some b):∃b,(x>>=f)=some b:=by
 obtain⟨a,rfl⟩:=h1;exact h2 a
theorem Fi {α:Type} {c:Prop} [Decidable c] {x y:Option α} (h1:∃a,x=some a) (h2:∃a,y=some a):∃a,(if c then x else y)=some a:=by
 by_cases h:c
 ·rw[an h];exact h1
 ·rw[mg h];exact h2
theorem adO (n:Int):∃b,ep n=some b:=by
 unfold ep;repeat first | exact⟨_,rfl⟩ | refine Fi ?_ ?_
theorem aag (n:Int):∃b,rL n=some b:=by
 unfold rL;repeat first | exact⟨_,rfl⟩ | refine Fi ?_ ?_
theorem aah (n:Int):∃b,mT n=some b:=by
 unfold mT;repeat first | exact⟨_,rfl⟩ | refine Fi ?_ ?_ | refine M5 ?_ (λ_=>?_)
theorem adP (n:Int):∃b,lG n=some b:=by
 unfold lG;repeat first | exact⟨_,rfl⟩ | refine Fi ?_ ?_
theorem adQ (n:Int):∃b,eL n=some b:=by
 unfold eL;repeat first | exact⟨_,rfl⟩ | refine Fi ?_ ?_
theorem aai (x:bV):∃b,lH x=some b:=by
 unfold lH;repeat first | exact⟨_,rfl⟩ | refine Fi ?_ ?_ | refine M5 ?_ (λ_=>?_)
theorem adR (x:bV):∃b,iH x=some b:=by
 unfold iH;repeat first | exact⟨_,rfl⟩ | refine Fi ?_ ?_ | refine M5 ?_ (λ_=>?_)
def KR (n:Int):Bool:=(ep n).getD false
def fin (n:Int):Bool:=(lG n).getD false
def tch (n:Int):Int:=(eL n).getD 0
def Sd (x:bV):Int:=(lH x).getD 0
def chg (x:bV):Int:=(iH x).getD 0
theorem adS (n:Int):ep n=some (KR n):=by obtain⟨b,h⟩:=adO n;rw[KR,h];rfl
theorem agr (n:Int):lG n=some (fin n):=by obtain⟨b,h⟩:=adP n;rw[fin,h];rfl
theorem adT (n:Int):eL n=some (tch n):=by obtain⟨b,h⟩:=adQ n;rw[tch,h];rfl
theorem abo (x:bV):lH x=some (Sd x):=by obtain⟨b,h⟩:=aai x;rw[Sd,h];rfl
theorem ags (x:bV):iH x=some (chg x):=by obtain⟨b,h⟩:=adR x;rw[chg,h];rfl
theorem agt (n:Int):gx n=some (KR n):=(show gx n=ep n by unfold gx ep;rfl).trans (adS n)
theorem ajB (n:Int):pk n=some (fin n):=(show pk n=lG n by unfold pk lG;rfl).trans (agr n)
theorem ajC (n:Int):ik n=some (tch n):=(show ik n=eL n by unfold ik eL;rfl).trans (adT n)
theorem agu (x:bV):rK x=some (Sd x):=(show rK x=lH x by unfold rK lH;rfl).trans (abo x)
theorem ajD (x:bV):lW x=some (chg x):=(show lW x=iH x by unfold lW iH;rfl).trans (ags x)
set_option maxHeartbeats 16000000 in
theorem PH (x:bV) (a b:Int):∃v,oa x a b=some v/\tK x a b=some v:=by
 obtain⟨n,A,B,S,T⟩:=x;obtain⟨gs,h,e2⟩:=GD S;obtain⟨gt,i,g⟩:=GD T;by_cases hn:1<=n/\n<=56
 ·obtain⟨k,rfl⟩:∃k:Nat,n=(k:Int):=⟨n.toNat,by omega⟩;have j:k<=56:=by omega
  have h1:1<=k:=by omega
  clear hn;have hc:k=1\/k=2\/k=3\/k=4\/k=5\/k=6\/k=7\/k=8\/k=9\/k=10\/k=11\/k=12\/k=13\/k=14\/k=15\/k=16\/k=17\/k=18\/k=19\/k=20\/k=21\/k=22\/k=23\/k=24\/k=25\/k=26\/k=27\/k=28\/k=29\/k=30\/k=31\/k=32\/k=33\/k=34\/k=35\/k=36\/k=37\/k=38\/k=39\/k=40\/k=41\/k=42\/k=43\/k=44\/k=45\/k=46\/k=47\/k=48\/k=49\/k=50\/k=51\/k=52\/k=53\/k=54\/k=55\/k=56:=by omega
  clear j h1;rcases hc with rfl | rfl | rfl | rfl | rfl | rfl | rfl | rfl | rfl | rfl | rfl | rfl | rfl | rfl | rfl | rfl | rfl | rfl | rfl | rfl | rfl | rfl | rfl | rfl | rfl | rfl | rfl | rfl | rfl | rfl | rfl | rfl | rfl | rfl | rfl | rfl | rfl | rfl | rfl | rfl | rfl | rfl | rfl | rfl | rfl | rfl | rfl | rfl | rfl | rfl | rfl | rfl | rfl | rfl | rfl | rfl
  all_goals
   simp only[oa,tK,uo,sP,vd,wc,ep,gx,rL,mT,Av,xg,h,e2,i,g,sb];simp [sb]
   repeat' split
   all_goals simp_all
   all_goals (try omega)
   all_goals (by_cases o:T=[]<;>by_cases h1:A<a<;>by_cases h2:B<a<;>by_cases h3:A<b<;>first | (simp_all;done) | omega | (simp_all;omega))
 ·refine⟨false,?_,?_⟩
  ·unfold oa uo;rw[Av,sb,sb,mg (by simpa using hn)]
  ·have key:∀{α:Type} {X:Option α} {f:α->Option Bool},(∃a,X=some a)->(∀a,f a=some false)->(X>>=f)=some false:=λ{α X f} h1 h2=>by
    obtain⟨a,rfl⟩:=h1;exact h2 a
   have d:=aah n;have l:=aag n;have e:∃b,gx n=some b:=⟨_,agt n⟩;have m:∀a b c,∃v,BV a b c=some v:=λa b c=>⟨_,xg a b c⟩;unfold tK;refine key ?_ (λ_=>key ?_ (λ_=>key ?_ (λ_=>key ?_ (λ_=>key ?_ (λ_=>key ?_ (λ_=>?_))))));iterate 6 (repeat first | exact⟨_,rfl⟩ | exact⟨_,e2⟩ | exact⟨_,g⟩ | exact d | exact l | exact e | exact m _ _ _ | refine Fi ?_ ?_ | refine M5 ?_ (λ_=>?_))
   rw[xg,sb,mg (by simpa using hn)]
def gI (l:List Int) (i:Nat):Int:=l.getD i 0
theorem yO {l:List Int} {i:Nat} (h:i<l.length):idx l (i:Int)=some (gI l i):=by
 rw[bG h,gI,akv,Is h];rfl
theorem KS {l:List Int} {i:Nat} (h:i<l.length):gI l i=l[i]:=by
 rw[gI,akv,Is h];rfl
theorem Ax {l:List Int} {a i:Nat} {b:Int}:gI (l.set a b) i=if a=i/\a<l.length then b else gI l i:=by
 rw[gI,gI,akv,akv,alB];by_cases h:a=i
 ·subst h;rw[an rfl];by_cases h2:a<l.length
  ·rw[an h2,an ⟨rfl,h2⟩];rfl
  ·rw[mg h2,mg (λh=>h2 h.2),akT aol]
 ·rw[mg h,mg (λh2=>h h2.1)]
def neg (l:List Int):Nat:=l.countP (λx=>decide (x<0))
theorem Xz (l:List Int):neg l<=l.length:=List.countP_le_length
theorem aaj {l:List Int} {a:Nat} {b:Int} (c:a<l.length) (h1:gI l a<0) (d:0<=b):neg (l.set a b)+1=neg l:=by
 rw[KS c]at h1;have hp:0<neg l:=List.countP_pos_iff.2 ⟨l[a],akx c,by simpa using h1⟩;unfold neg at hp ⊢;rw[List.countP_set c,an aoO,mg aoq];omega
section
variable (code:List bV)
inductive R:Nat->Int->Prop
 | zero:R 0 0
 | next {i:Nat} {h:Int} (hr:R i h) (hi:i<code.length) (hf:fin (code[i]).bY=false):R (i+1) (af (h+chg code[i]))
 | jump {i:Nat} {h:Int} (hr:R i h) (hi:i<code.length) (ht:KR (code[i]).bY=true):R (code[i]).fA.toNat (af (h+tch (code[i]).bY))
def AU:Prop:=(∀i h,R code i h->∃hi:i<code.length,0<=h/\h<=500/\Sd code[i]<=h)/\∀i h h',R code i h->R code i h'->h=h'
def Sol (out:List Int):Prop:=out.length=code.length/\∀i,i<code.length->(gI out i= -1\/R code i (gI out i))/\∀h,R code i h->gI out i=h
theorem Sol.uniq {a b:List Int} (e:Sol code a) (f:Sol code b):a=b:=by
 refine amD (e.1.trans f.1.symm) λi h1 h2=>?_;have hi:i<code.length:=by rw[<-e.1];exact h1
 rw[<-KS h1,<-KS h2];obtain⟨c,g⟩:=e.2 i hi;obtain⟨d,h⟩:=f.2 i hi;rcases c with c | c
 ·rcases d with d | d
  ·rw[c,d]
  ·exact g _ d
 ·exact(h _ c).symm
structure Part (out:List Int):Prop where
 len:out.length=code.length
 val:∀i,i<code.length->gI out i= -1\/(0<=gI out i/\R code i (gI out i))
 zero:0<code.length->gI out 0=0
 le:∀i,i<code.length->gI out i<=500
def PI (out:List Int) (i:Nat) (hi:i<code.length):Prop:=
 Sd code[i]<=gI out i/\gI out i<=500/\
 (fin (code[i]).bY=false->i+1<code.length/\0<=gI out (i+1)/\gI out (i+1)=af (gI out i+chg code[i]))/\
 (KR (code[i]).bY=true->(code[i]).fA.toNat<code.length/\0<=gI out (code[i]).fA.toNat/\gI out (code[i]).fA.toNat=af (gI out i+tch (code[i]).bY))
def Ext (out lL:List Int):Prop:=lL.length=out.length/\∀i,0<=gI out i->gI lL i=gI out i
theorem Ext.refl (out:List Int):Ext out out:=⟨rfl,λ_ _=>rfl⟩
theorem Ext.trans {a b c:List Int} (h1:Ext a b) (h2:Ext b c):Ext a c:=⟨h2.1.trans h1.1,λi hi=>(h2.2 i (by rw[h1.2 i hi];exact hi)).trans (h1.2 i hi)⟩
theorem PI.ext {out lL:List Int} {i:Nat} {hi:i<code.length} (h:PI code out i hi) (h0:0<=gI out i) (he:Ext out lL):PI code lL i hi:=by
 obtain⟨h1,h2,h3,h4⟩:=h;have e:=he.2 i h0;refine⟨by rw[e];exact h1,by rw[e];exact h2,λhf=>?_,λd=>?_⟩
 ·obtain⟨a,b,c⟩:=h3 hf;rw[e,he.2 _ b];exact⟨a,b,c⟩
 ·obtain⟨a,b,c⟩:=h4 d;rw[e,he.2 _ b];exact⟨a,b,c⟩
theorem M6 {out:List Int} (hp:Part code out) (hd:∀i (hi:i<code.length),0<=gI out i->PI code out i hi) (h0:0<code.length):AU code/\Sol code out:=by
 have key:∀i h,R code i h->∃hi:i<code.length,gI out i=h/\0<=h:=λi h d=>by
  induction d with
  | zero=>exact⟨h0,hp.zero h0,Int.le_refl _⟩
  | next d hi hf f=>
   obtain⟨_,e,hh⟩:=f;obtain⟨_,_,h3,_⟩:=hd _ hi (by rw[e];exact hh);obtain⟨a,b,c⟩:=h3 hf;rw[e]at c;exact⟨a,c,by rw[<-c];exact b⟩
  | jump d hi j f=>
   obtain⟨_,e,hh⟩:=f;obtain⟨_,_,_,h4⟩:=hd _ hi (by rw[e];exact hh);obtain⟨a,b,c⟩:=h4 j;rw[e]at c;exact⟨a,c,by rw[<-c];exact b⟩
 refine⟨⟨λi h d=>?_,λi h h' d g=>?_⟩,hp.len,λi hi=>⟨(hp.val i hi).imp id (·.2),λh d=>(key i h d).2.1⟩⟩
 ·obtain⟨hi,e,hh⟩:=key i h d;obtain⟨h1,h2,_⟩:=hd i hi (by rw[e];exact hh);rw[e]at h1 h2;exact⟨hi,hh,h2,h1⟩
 ·rw[<-(key i h d).2.1,(key i h' g).2.1]
def ks (out:List Int) (a:Nat) (b:Int):Prop:=out.length<=a\/¬(0<=b/\b<=500)\/(0<=gI out a/\gI out a≠b)
instance (out:List Int) (a:Nat) (b:Int):Decidable (ks out a b):=by unfold ks;exact inferInstance
theorem Fj {out:List Int} {a:Nat} {b:Int} (hp:Part code out) (c:R code a b) (h:ks out a b):¬AU code:=λhg=>by
 obtain⟨hi,h1,h2,_⟩:=hg.1 a b c;rcases h with h | h | ⟨h,h3⟩
 ·rw[hp.len]at h;omega
 ·exact h ⟨h1,h2⟩
 ·rcases hp.val a hi with q | ⟨_,q⟩
  ·omega
  ·exact h3 (hg.2 a _ _ q c)
theorem given {out:List Int} {a:Nat} {b:Int} (hp:Part code out) (f:R code a b) (h:¬ks out a b):a<code.length/\0<=b/\b<=500/\Part code (out.set a b)/\Ext out (out.set a b)/\gI (out.set a b) a=b/\
  (∀i,0<=gI (out.set a b) i->0<=gI out i\/i=a)/\(gI out a<0->neg (out.set a b)+1=neg out)/\(¬gI out a<0->out.set a b=out):=by
 have h1:¬out.length<=a:=λx=>h (.inl x);have h2:0<=b/\b<=500:=amz.1 (λx=>h (.inr (.inl x)));have h3:0<=gI out a->gI out a=b:=λx=>amz.1 (λy=>h (.inr (.inr ⟨x,y⟩)));have d:a<out.length:=by omega
 have e:a<code.length:=by rw[<-hp.len];exact d
 have he:Ext out (out.set a b):=⟨alI,λi hi=>by
  rw[Ax];by_cases c:a=i/\a<out.length
  ·obtain⟨rfl,_⟩:=c;rw[an ⟨rfl,d⟩];exact(h3 hi).symm
  ·rw[mg c]⟩
 refine⟨e,h2.1,h2.2,⟨by rw[alI];exact hp.len,λi hi=>?_,λh0=>?_,λi hi=>?_⟩,he,by rw[Ax,an ⟨rfl,d⟩],λi hi=>?_,λhn=>aaj d hn h2.1,λhn=>?_⟩
 ·rw[Ax];by_cases c:a=i/\a<out.length
  ·obtain⟨rfl,_⟩:=c;rw[an ⟨rfl,d⟩];exact .inr ⟨h2.1,f⟩
  ·rw[mg c];exact hp.val i hi
 ·have:=hp.zero h0;rw[he.2 0 aol];exact this
 ·rw[Ax];by_cases c:a=i/\a<out.length
  ·rw[an c];exact h2.2
  ·rw[mg c];exact hp.le i hi
 ·rw[Ax]at hi;by_cases c:a=i/\a<out.length
  ·exact .inr c.1.symm
  ·rw[mg c]at hi;exact .inl hi
 ·have:gI out a=b:=h3 aol;rw[<-this,KS d];exact List.set_getElem_self d
end
theorem agv {out:List Int} (a:Nat) (b:Int):iQ out (a:Int) b=some (if ks out a b then(false,false,out)else(decide (gI out a<0),true,out.set a b)):=by
 unfold iQ;by_cases h1:out.length<=a
 ·rw[an aol,sb,an (show ks out a b from(.inl h1))]
 ·have c:a<out.length:=by omega
  rw[mg aol,xg,sb];by_cases h2:0<=b/\b<=500
  ·rw[an aoG,yO c,sb];by_cases h3:gI out a>=0
   ·rw[an h3,sb];by_cases h4:gI out a=b
    ·rw[an h4,sb,sb,sb,mg (show ¬ks out a b by intro h;rcases h with h | h | h;exact h1 h;exact h h2;exact h.2 h4)];rfl
    ·rw[mg h4,sb,an (show ks out a b from(.inr (.inr ⟨h3,h4⟩)))]
   ·rw[mg h3,sb,sb,sb,mg (show ¬ks out a b by intro h;rcases h with h | h | h;exact h1 h;exact h h2;exact h3 h.1)];rfl
  ·rw[mg aoG,sb,an (show ks out a b from(.inr (.inl h2)))]
theorem agw {out work:List Int} (a:Nat) (b:Int) (hw:work.length<1000000000):fv (a:Int) b out work=some (if ks out a b then(false,out,work)else if gI out a<0 then(true,out.set a b,work++[(a:Int)])else(true,out,work)):=by
 unfold fv;by_cases h1:out.length<=a
 ·rw[an aol,sb,an (show ks out a b from(.inl h1))]
 ·have c:a<out.length:=by omega
  rw[mg aol,Av,sb]
  have M7:∀hc:¬ks out a b,(idx out (a:Int)>>=λd=>
   (if d<0 then
    idx out (a:Int)>>=λf=>
    qh 8 work ([(a:Int)]:List Int)>>=λe=>
    some (true,(out.set (a:Int).toNat b),e)
   else
    some (true,out,work)))=some (if ks out a b then(false,out,work)else if gI out a<0 then(true,out.set a b,work++[(a:Int)])else(true,out,work)):=λhc=>by
   rw[mg hc,yO c,sb];by_cases h5:gI out a<0
   ·rw[an h5,sb,oG aoq,sb,an h5];rfl
   ·rw[mg h5,mg h5]
  by_cases h2:0<=b/\b<=500
  ·rw[an aoG];rw[yO c,sb];by_cases h3:gI out a>=0
   ·rw[an h3,sb];by_cases h4:gI out a=b
    ·rw[an h4,sb,<-yO c];exact M7 (by intro h;rcases h with h | h | h;exact h1 h;exact h h2;exact h.2 h4)
    ·rw[mg h4,sb,an (show ks out a b from(.inr (.inr ⟨h3,h4⟩)))]
   ·rw[mg h3,sb,<-yO c];exact M7 (by intro h;rcases h with h | h | h;exact h1 h;exact h h2;exact h3 h.1)
  ·rw[mg aoG,sb,an (show ks out a b from(.inr (.inl h2)))]
structure ajE (code:List bV) (out work:List Int) (a:Nat) (b:Int) (lL wu:List Int):Prop where
 part:Part code lL
 ext:Ext out lL
 at_:gI lL a=b
 lt:a<code.length
 lo:0<=b
 hi:b<=500
 new:∀i,0<=gI lL i->0<=gI out i\/(i:Int)∈wu
 sub:∀x,x∈work->x∈wu
 mem:∀x,x∈wu->x∈work\/x=(a:Int)
 mu:2*neg lL+wu.length<=2*neg out+work.length
theorem XA {code:List bV} {out work:List Int} {a:Nat} {b:Int} (hp:Part code out) (d:R code a b) (hw:work.length<1000000000):
  (fv (a:Int) b out work=some (false,out,work)/\¬AU code)\/∃lL wu,fv (a:Int) b out work=some (true,lL,wu)/\ajE code out work a b lL wu:=by
 rw[agw a b hw];by_cases h:ks out a b
 ·rw[an h];exact .inl ⟨rfl,Fj code hp d h⟩
 ·obtain⟨h1,h2,h3,h4,h5,h6,h7,h8,f⟩:=given code hp d h;rw[mg h];right;by_cases hn:gI out a<0
  ·rw[an hn];refine⟨_,_,rfl,h4,h5,h6,h1,h2,h3,λi hi=>(h7 i hi).imp id (λe=>by subst e;simp),λx c=>by simp [c],λx c=>by simpa using c,?_⟩;have:=h8 hn;simp only[alj,akz,akD];omega
  ·rw[mg hn];have e:=f hn;rw[e]at h4 h5 h6 h7;exact⟨_,_,rfl,h4,h5,h6,h1,h2,h3,λi hi=>.inl hi,λx c=>c,λx c=>.inl c,No _⟩
structure Inv (code:List bV) (out work:List Int):Prop where
 part:Part code out
 ok:∀x,x∈work->∃i:Nat,x=(i:Int)/\i<code.length/\0<=gI out i
 done:∀i (hi:i<code.length),0<=gI out i->(i:Int)∈work\/PI code out i hi
def XB (code:List bV) (o:(List Int) ⊕ (List Int×Bool)):Prop:=
 (o=.inr ([],false)/\¬AU code)\/∃lL,o=.inl lL/\Part code lL/\∀i (hi:i<code.length),0<=gI lL i->PI code lL i hi
theorem Se (l:List Int) (h:0<l.length):∃w x,l=w++[x]:=by
 rcases List.eq_nil_or_concat l with rfl | ⟨w,x,rfl⟩
 ·simp at h
 ·exact⟨w,x,by simp⟩
theorem agx (b:aW) (hn:b.aR.length<=2000000) (s:∀i (hi:i<b.aR.length),KR (b.aR[i]).bY=true->0<=(b.aR[i]).fA):
  ∀(M:Nat) (out work:List Int),2*neg out+work.length<=M->M<=100000000->Inv b.aR out work->∃o,ef b out work=some o/\XB b.aR o:=by
 intro M;induction M with
 | zero=>
  intro out work hm _ hv;have:work.length=0:=by omega
  rw[ef,mg aol];have hw:work=[]:=alF this;subst hw;exact⟨_,rfl,.inr ⟨out,rfl,hv.part,λi hi h=>(hv.done i hi h).resolve_left aon⟩⟩
 | succ M u=>
  intro out work hm E hv;rw[ef];by_cases h0:0<work.length
  ·rw[an aol];obtain⟨w,x,rfl⟩:=Se work h0;have hl:(w++[x]).length=w.length+1:=by simp
   have v:af (((w++[x]).length:Int) - 1)=(w.length:Int):=Fk aol aol;rw[v,bG aol,sb];have e2:(w++[x])[w.length]'aol=x:=by simp
   rw[e2]
   have z:lto (w++[x]) (w.length:Int)=some w:=by
    unfold lto;rw[an ⟨by omega,by omega⟩];simp
   rw[z,sb,sb];obtain⟨i,rfl,hi,hg⟩:=hv.ok x aon;have hlen:=hv.part.len;rw[bG hi,sb,yO aol,sb,abo,sb]
   have p:R b.aR i (gI out i):=by
    rcases hv.part.val i hi with h | ⟨_,h⟩
    ·omega
    ·exact h
   have A:w.length<100000000:=by omega
   have last:∀lL wu,Part b.aR lL->Ext out lL->(∀j,0<=gI lL j->0<=gI out j\/(j:Int)∈wu)->(∀y,y∈w->y∈wu)->(∀y,y∈wu->y∈w\/∃j:Nat,y=(j:Int)/\j<b.aR.length/\0<=gI lL j)->
     2*neg lL+wu.length<=2*neg out+w.length->PI b.aR lL i hi->∃o,ef b lL wu=some o/\XB b.aR o:=by
    intro lL wu q1 q2 q3 q4 B F C;refine u lL wu aol aol ⟨q1,λy hy=>?_,λj hj h=>?_⟩
    ·rcases B y hy with h | h
     ·obtain⟨j,r1,D,t⟩:=hv.ok y (by simp [h]);exact⟨j,r1,D,by rw[q2.2 j t];exact t⟩
     ·exact h
    ·rcases q3 j h with h1 | h1
     ·rcases hv.done j hj h1 with h2 | h2
      ·simp only[akC,ali]at h2;rcases h2 with h2 | h2
       ·exact .inl (q4 _ h2)
       ·have:j=i:=by omega
        subst this;exact .inr C
      ·exact .inr (h2.ext _ h1 q2)
     ·exact .inl h1
   by_cases c:Sd b.aR[i]>gI out i
   ·rw[an c];exact⟨_,rfl,.inl ⟨rfl,λhg=>by obtain⟨_,_,_,h⟩:=hg.1 _ _ p;omega⟩⟩
   rw[mg c,agr,sb];have h5:gI out i<=500:=hv.part.le i hi;cases hf:fin (b.aR[i]).bY
   ·rw[mg aon,ags,sb,aT aol];rcases XA hv.part (.next p hi hf) aol (work:=w)with⟨e,l⟩ | ⟨q,m,e,a⟩
    ·rw[e,sb];exact⟨_,rfl,.inl ⟨rfl,l⟩⟩
    ·rw[e,sb];dsimp only;rw[an rfl,adS,sb];have d:=a.ext.2 i hg;cases g:KR (b.aR[i]).bY
     ·rw[mg aon];refine last q m a.part a.ext a.new a.sub (λy hy=>(a.mem y hy).imp id (λe=>⟨_,e,a.lt,by rw[a.at_];exact a.lo⟩)) a.mu ⟨by rw[d];omega,by rw[d];exact h5,λ_=>⟨a.lt,by rw[a.at_];exact a.lo,by rw[a.at_,d]⟩,λh=>by rw[g]at h;cases h⟩
     ·rw[an rfl,adT,sb];have n:(b.aR[i]).fA=(((b.aR[i]).fA.toNat:Nat):Int):=by have:=s i hi g;omega
      rcases XA a.part (.jump p hi g) (by have:=a.mu;have:=Xz out;omega) (work:=m)with⟨e,l⟩ | ⟨k,r,e,g2⟩
      ·rw[<-n]at e;rw[e,sb];exact⟨_,rfl,.inl ⟨rfl,l⟩⟩
      ·rw[<-n]at e;rw[e,sb];dsimp only;rw[an rfl];have f:=g2.ext.2 i (by rw[d];exact hg);have G:=a.mu;have H:=g2.mu;refine last k r g2.part (a.ext.trans g2.ext) (λj hj=>?_) (λy hy=>g2.sub _ (a.sub _ hy)) (λy hy=>?_) aol ⟨by rw[f,d];omega,by rw[f,d];exact h5,λ_=>⟨a.lt,?_,?_⟩,λ_=>⟨g2.lt,by rw[g2.at_];exact g2.lo,by rw[g2.at_,f,d]⟩⟩
       ·rcases g2.new j hj with h | h
        ·rcases a.new j h with h | h
         ·exact .inl h
         ·exact .inr (g2.sub _ h)
        ·exact .inr h
       ·rcases g2.mem y hy with h | h
        ·rcases a.mem y h with h | h
         ·exact .inl h
         ·refine .inr ⟨_,h,a.lt,?_⟩;rw[g2.ext.2 _ (by rw[a.at_];exact a.lo),a.at_];exact a.lo
        ·exact .inr ⟨_,h,g2.lt,by rw[g2.at_];exact g2.lo⟩
       ·rw[g2.ext.2 _ (by rw[a.at_];exact a.lo),a.at_];exact a.lo
       ·rw[g2.ext.2 _ (by rw[a.at_];exact a.lo),a.at_,f,d]
   ·rw[an rfl,adS,sb];cases g:KR (b.aR[i]).bY
    ·rw[mg aon];exact last out w hv.part (Ext.refl _) (λj h=>.inl h) (λy hy=>hy) (λy hy=>.inl hy) (No _) ⟨by omega,h5,(λh=>by rw[hf]at h;cases h),(λh=>by rw[g]at h;cases h)⟩
    ·rw[an rfl,adT,sb];have n:(b.aR[i]).fA=(((b.aR[i]).fA.toNat:Nat):Int):=by have:=s i hi g;omega
     rcases XA hv.part (.jump p hi g) aol (work:=w)with⟨e,l⟩ | ⟨k,r,e,g2⟩
     ·rw[<-n]at e;rw[e,sb];exact⟨_,rfl,.inl ⟨rfl,l⟩⟩
     ·rw[<-n]at e;rw[e,sb];dsimp only;rw[an rfl];have f:=g2.ext.2 i hg;exact last k r g2.part g2.ext g2.new g2.sub (λy hy=>(g2.mem y hy).imp id (λe=>⟨_,e,g2.lt,by rw[g2.at_];exact g2.lo⟩)) g2.mu ⟨by rw[f];omega,by rw[f];exact h5,(λh=>by rw[hf]at h;cases h),λ_=>⟨g2.lt,by rw[g2.at_];exact g2.lo,by rw[g2.at_,f]⟩⟩
  ·rw[mg aol];have hw:work=[]:=alF aol;subst hw;exact⟨_,rfl,.inr ⟨out,rfl,hv.part,λi hi h=>(hv.done i hi h).resolve_left aon⟩⟩
structure PJ (code:List bV) (out:List Int) (E:List Int->Prop) (l:List Int) (f ok:Bool):Prop where
 bad:ok=false->l=out/\¬AU code
 part:Part code l
 ext:Ext out l
 aak:ok=true->E l
 fresh:f=true->neg l+1=neg out
 Ju:f=false->l=out
theorem PJ.none {code:List bV} {out:List Int} {E:List Int->Prop} (hp:Part code out) (a:E out):PJ code out E out false true:=
 ⟨λh=>(by cases h),hp,Ext.refl _,λ_=>a,(λh=>by cases h),λ_=>rfl⟩
theorem abq {code:List bV} {out:List Int} {a:Nat} {b:Int} (hp:Part code out) (c:R code a b):
  ∃l f ok,iQ out (a:Int) b=some (f,ok,l)/\PJ code out (λl=>a<code.length/\0<=gI l a/\gI l a=b) l f ok:=by
 rw[agv a b];by_cases h:ks out a b
 ·rw[an h];exact⟨_,_,_,rfl,λ_=>⟨rfl,Fj code hp c h⟩,hp,Ext.refl _,(λh=>by cases h),(λh=>by cases h),λ_=>rfl⟩
 ·obtain⟨h1,h2,h3,h4,h5,h6,h7,h8,d⟩:=given code hp c h;rw[mg h];exact⟨_,_,_,rfl,(λh=>by cases h),h4,h5,λ_=>⟨h1,by rw[h6];exact h2,h6⟩,λhf=>h8 (by simpa using hf),λhf=>d (by simpa using hf)⟩
theorem To {α β:Type} {x:Option α} {v:α} {K:α->Option β} {P:β->Prop} (h:x=some v) (a:∃o,K v=some o/\P o):∃o,(x>>=K)=some o/\P o:=by
 subst h;exact a
def abr (code:List bV) (y:Nat) (out:List Int) (more:Bool) (o:(List Int×Bool) ⊕ ((List Int) ⊕ (List Int×Bool))):Prop:=
 (o=.inr (.inr ([],false))/\¬AU code)\/∃lL a,o=.inl (lL,a)/\Part code lL/\neg lL<=neg out/\(a=true->more=true\/neg lL<neg out)/\
  (a=false->more=false/\lL=out/\∀j (hj:j<code.length),y<=j->0<=gI out j->PI code out j hj)
theorem XD (a:aW) (hn:a.aR.length<=2000000) (O:∀i (hi:i<a.aR.length),KR (a.aR[i]).bY=true->0<=(a.aR[i]).fA):
  ∀(f y:Nat) (out:List Int) (more:Bool),a.aR.length<=y+f->Part a.aR out->∃o,eu a out more (y:Int)=some o/\abr a.aR y out more o:=by
 intro f;induction f with
 | zero=>
  intro y out more hy hp;have hlen:=hp.len;rw[eu,mg aol];exact⟨_,rfl,.inr ⟨out,more,rfl,hp,No _,.inl,λh=>⟨h,rfl,λj hj h1=>absurd hj aol⟩⟩⟩
 | succ f K=>
  intro y out more hy hp;have hlen:=hp.len;rw[eu];by_cases hc:y<a.aR.length
  ·rw[an aol,bG hc,sb,yO aol,sb];by_cases h0:gI out y<0
   ·rw[an h0,aT aol];obtain⟨o,e,h⟩:=K (y+1) out more aol hp;refine⟨o,e,?_⟩;rcases h with h | ⟨lL,x,e,h1,h2,h3,h4⟩
    ·exact .inl h
    ·refine .inr ⟨lL,x,e,h1,h2,h3,λhm=>?_⟩;obtain⟨q1,q2,q3⟩:=h4 hm;refine⟨q1,q2,λj hj h5 h6=>?_⟩;rcases amd h5 with rfl | h7
     ·omega
     ·exact q3 j hj h7 h6
   ·rw[mg h0,sb,agu,sb]
    have z:R a.aR y (gI out y):=by
     rcases hp.val y hc with h | ⟨_,h⟩
     ·omega
     ·exact h
    by_cases m:Sd a.aR[y]>gI out y
    ·rw[an m];exact⟨_,rfl,.inl ⟨rfl,λhg=>by obtain⟨_,_,_,h⟩:=hg.1 _ _ z;omega⟩⟩
    rw[mg m]
    have P:∃n q r,(pk (a.aR[y]).bY>>=λA=>
      (if A=true then some (out,false,true)else
       (some (gI out y):Option Int)>>=λB=>
       lW a.aR[y]>>=λC=>
       iQ out (af ((y:Int)+1)) (af (B+C))>>=λ(Q,S,T)=>
       some (T,Q,S)):Option ((List Int)×Bool×Bool))=some (n,q,r)/\
      PJ a.aR out (λl=>fin (a.aR[y]).bY=false->y+1<a.aR.length/\0<=gI l (y+1)/\gI l (y+1)=af (gI out y+chg a.aR[y])) n q r:=by
     rw[ajB,sb];cases hf:fin (a.aR[y]).bY
     ·rw[mg aon,sb,ajD,sb,aT aol];obtain⟨l,q,ok,e,g⟩:=abq hp (.next z hc hf);rw[e,sb];exact⟨_,_,_,rfl,g.bad,g.part,g.ext,λh _=>g.aak h,g.fresh,g.Ju⟩
     ·rw[an rfl];exact⟨_,_,_,rfl,.none hp (λh=>by cases h)⟩
    obtain⟨n,q,r,U,p⟩:=P;have V:gI n y=gI out y:=p.ext.2 y aol
    have W:∃t f2 s,(gx (a.aR[y]).bY>>=λD=>
      (if D=true then
       idx n (y:Int)>>=λE=>
       ik (a.aR[y]).bY>>=λF=>
       iQ n (a.aR[y]).fA (af (E+F))>>=λ(G,H,I)=>
       some (I,G,H)
      else some (n,false,true)):Option ((List Int)×Bool×Bool))=some (t,f2,s)/\
      PJ a.aR n (λl=>KR (a.aR[y]).bY=true->(a.aR[y]).fA.toNat<a.aR.length/\0<=gI l (a.aR[y]).fA.toNat/\gI l (a.aR[y]).fA.toNat=af (gI out y+tch (a.aR[y]).bY)) t f2 s:=by
     rw[agt,sb];cases L:KR (a.aR[y]).bY
     ·rw[mg aon];exact⟨_,_,_,rfl,.none p.part (λh=>by cases h)⟩
     ·have X:(a.aR[y]).fA=(((a.aR[y]).fA.toNat:Nat):Int):=by have:=O y hc L;omega
      have Z:=p.part.len;rw[an rfl,yO aol,sb,ajC,sb,V];obtain⟨l,f2,ok,e,g⟩:=abq p.part (.jump z hc L);rw[<-X]at e;rw[e,sb];exact⟨_,_,_,rfl,g.bad,g.part,g.ext,λh _=>g.aak h,g.fresh,g.Ju⟩
    obtain⟨t,f2,s,e2,g2⟩:=W;refine To U ?_;refine To e2 ?_;dsimp only;cases u:r
    ·rw[mg aon];exact⟨_,rfl,.inl ⟨rfl,(p.bad u).2⟩⟩
    rw[an rfl];cases v:s
    ·rw[mg aon];exact⟨_,rfl,.inl ⟨rfl,(g2.bad v).2⟩⟩
    rw[an rfl,aT aol]
    have n1:neg n<=neg out:=by
     cases c:q
     ·rw[p.Ju c];exact No _
     ·have:=p.fresh c;omega
    have n2:neg t<=neg n:=by
     cases M:f2
     ·rw[g2.Ju M];exact No _
     ·have:=g2.fresh M;omega
    have M7:∀w:Bool,w=(if more=true then true else if q=true then true else f2)->∃o,eu a t w ((y+1:Nat):Int)=some o/\abr a.aR y out more o:=by
     intro w d;obtain⟨o,e,h⟩:=K (y+1) t w aol g2.part;refine⟨o,e,?_⟩;rcases h with h | ⟨lL,x,e,h1,h2,h3,h4⟩
     ·exact .inl h
     ·refine .inr ⟨lL,x,e,h1,by omega,λhm=>?_,λhm=>?_⟩
      ·rcases h3 hm with h5 | h5
       ·rw[h5]at d;cases b:more
        ·right;rw[b,mg aon]at d;cases c:q
         ·rw[c,mg aon]at d;have:=g2.fresh d.symm;omega
         ·have:=p.fresh c;omega
        ·exact .inl rfl
       ·exact .inr aol
      ·obtain⟨q1,q2,q3⟩:=h4 hm;rw[q1]at d;cases b:more
       case true=>rw[b,an rfl]at d;cases d
       rw[b,mg aon]at d;cases c:q
       case true=>rw[c,an rfl]at d;cases d
       rw[c,mg aon]at d;have Y:=g2.Ju d.symm;have r1:=p.Ju c;have N:=p.aak u;have J:=g2.aak v;rw[Y]at J q2 q3;rw[r1]at N J q2 q3;refine⟨rfl,q2,λj hj h5 h6=>?_⟩;rcases amd h5 with rfl | h7
       ·exact⟨by omega,hp.le _ hj,N,J⟩
       ·exact q3 j hj h7 h6
    cases b:more
    ·rw[mg aon];cases c:q
     ·rw[mg aon];rw[<-b];exact M7 f2 (by rw[b,mg aon,c,mg aon])
     ·rw[an rfl];rw[<-b];exact M7 true (by rw[b,mg aon,c,an rfl])
    ·rw[an rfl];have k:=M7 true (by rw[b,an rfl]);rw[b]at k;exact k
  ·rw[mg aol];exact⟨_,rfl,.inr ⟨out,more,rfl,hp,No _,.inl,λh=>⟨h,rfl,λj hj h1=>absurd hj aol⟩⟩⟩
theorem agA (a:aW) (hn:a.aR.length<=2000000) (d:∀i (hi:i<a.aR.length),KR (a.aR[i]).bY=true->0<=(a.aR[i]).fA):
  ∀(M:Nat) (out:List Int),neg out<=M->Part a.aR out->∃o,fx a out true=some o/\XB a.aR o:=by
 intro M;induction M with
 | zero=>
  intro out hm hp;rw[fx,an rfl];obtain⟨o,e,h⟩:=XD a hn d a.aR.length 0 out false aol hp;rw[show((0:Nat):Int)=0 from rfl]at e;rw[e,sb];rcases h with⟨rfl,h⟩ | ⟨lL,c,rfl,h1,h2,h3,h4⟩
  ·exact aof
  ·dsimp only;cases b:c
   ·obtain⟨_,q2,q3⟩:=h4 b;rw[fx,mg aon];subst q2;exact⟨_,rfl,.inr ⟨_,rfl,h1,λi hi h=>q3 i hi (alc _) h⟩⟩
   ·rcases h3 b with h | h
    ·cases h
    ·omega
 | succ M f=>
  intro out hm hp;rw[fx,an rfl];obtain⟨o,e,h⟩:=XD a hn d a.aR.length 0 out false aol hp;rw[show((0:Nat):Int)=0 from rfl]at e;rw[e,sb];rcases h with⟨rfl,h⟩ | ⟨lL,c,rfl,h1,h2,h3,h4⟩
  ·exact aof
  ·dsimp only;cases b:c
   ·obtain⟨_,q2,q3⟩:=h4 b;rw[fx,mg aon];subst q2;exact⟨_,rfl,.inr ⟨_,rfl,h1,λi hi h=>q3 i hi (alc _) h⟩⟩
   ·rcases h3 b with h | h
    ·cases h
    ·exact f lL aol h1
end Go.Am
