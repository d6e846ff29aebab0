/- Texts of the proof, joined and shortened. -/
import Derived.Test.YtgakkhamfiegbaaGreatDoorPk11
set_option linter.unusedVariables false
set_option linter.unusedSimpArgs false
namespace Go.Am
open Go Go.RowKit Go.Proofs
theorem WV:∀(f:Nat) (y:Int) (s:cx),0<=y->y<=9223372036854775807->y<10 ^ f->s.length+f<=1000->∃r,iN y s=some r/\r.length<=s.length+f
 | 0,y,s,h0,hm,h1,h2=>by
  rw[iN,mg ajo];exact⟨s,rfl,by omega⟩
 | f+1,y,s,h0,hm,h1,h2=>by
  rw[iN];by_cases h:y>0
  ·have h3:y.tdiv 10=y / 10:=Int.tdiv_eq_ediv_of_nonneg h0;rw[Int.pow_succ]at h1;have hb:ah (y.tdiv 10)=y / 10:=by rw[h3];exact B4 ajo ajo
   have e:sQ ([UInt8.ofNat (IntKind.u8.wrap (ah (48+(y.tmod 10)))).toNat]:List UInt8) s=some ([UInt8.ofNat (IntKind.u8.wrap (ah (48+(y.tmod 10)))).toNat]++s):=an ajs;rw[an h,e,sb,hb];obtain⟨r,e2,h4⟩:=WV f (y / 10) ([UInt8.ofNat (IntKind.u8.wrap (ah (48+(y.tmod 10)))).toNat]++s) ajo ajo ajo ajs;exact⟨r,e2,by simp at h4;omega⟩
  ·rw[mg h];exact⟨s,rfl,by omega⟩
def AY (k:Int):cx:=(bB k).getD []
theorem jB (k:Int) (h:k<=9223372036854775807):bB k=some (AY k):=by
 suffices ∃s,bB k=some s by obtain⟨s,e⟩:=this;rw[AY,e];rfl
 unfold bB;by_cases hk:k<=0
 ·rw[an hk];exact⟨_,rfl⟩
 ·rw[mg hk];obtain⟨r,e,a⟩:=WV 19 k [] ajo h ajo ajq;rw[e,sb];have:sQ [109] r=some ([109]++r):=an (by simp at a ⊢;omega);rw[this];exact⟨_,rfl⟩
theorem Kq {l:List af} {i:Nat} (h:i<l.length):af.za (l.drop i)=l[i].av.wt+af.za (l.drop (i+1)):=by rw[agl h,nS]
theorem oM:∀(n:Nat) (l:List af),af.za l<=n->∀k:Nat,k+7*af.za l<=1000000000->∃(a:Nat) (d:List af),dj l (k:Int)=some ((a:Int),d)/\d.length=l.length/\k<=a/\a<=k+7*af.za l/\ia d (k:Int)=some (a:Int)
 | n,l,h=>by
  intro k hk;have hlen:=vG l
  have go:∀m i:Nat,i<=l.length->l.length - i=m->∀(P:List af) (k:Nat),P.length=i->k+7*af.za (l.drop i)<=1000000000->
    ∃(a:Nat) (R:List af),eM l (P++l.drop i) (k:Int) (i:Int)=some ((a:Int),P++R)/\R.length=l.length - i/\k<=a/\a<=k+7*af.za (l.drop i)/\∀Q:List af,Q.length=i->eF (Q++R) (k:Int) (i:Int)=some (.inl (a:Int)):=by
   intro m;induction m with
   | zero=>
    intro i h1 h2 P k f hk;have hi:i=l.length:=by omega
    rw[eM,mg ajo,hi,ahk];refine⟨k,[],rfl,by simp,abF _,by omega,λQ g=>?_⟩;rw[eF,mg ajs]
   | succ m j=>
    intro i h1 h2 P k f hk;have o:i<l.length:=by omega
    have hd:=Kq o;have A:=qE l[i].av;have p:=l[i].av.kP
    have B:af.za (l.drop i)<=af.za l:=by
     have C:∀(l:List af) (i:Nat),af.za (l.drop i)<=af.za l:=by
      intro l;induction l with
      | nil=>intro i;simp
      | cons e r D=>
       intro i;cases i with
       | zero=>exact abF _
       | succ i=>rw[ahm,nS];have:=D i;omega
     exact C l i
    have w1:ah ((k:Int)+1)=((k+1:Nat):Int):=bm ajo;have s:ah (((k+1:Nat):Int)+1)=((k+2:Nat):Int):=bm ajo;have t:ah (((k+2:Nat):Int)+1)=((k+3:Nat):Int):=bm ajo;have u:ah (((k+3:Nat):Int)+1)=((k+4:Nat):Int):=bm ajo;have v:ah (((k+4:Nat):Int)+1)=((k+5:Nat):Int):=bm ajo;have w:ah (((k+5:Nat):Int)+1)=((k+6:Nat):Int):=bm ajo;have x:ah (((k+6:Nat):Int)+1)=((k+7:Nat):Int):=bm ajo;obtain⟨E,l1,b,K,L,g2,F⟩:=oM (n - 1) l[i].av.aj ajo (k+7) ajo
    have G:idx (P++l.drop i) (i:Int)=some l[i]:=by
     rw[ba (by rw[agP,ahX];omega),ahi ajo];simp [f]
    obtain⟨en,c⟩:∃en,en=af.mk (bV.mk (((k:Int).tmod 3)==0) ((k+1:Nat):Int) (AY ((k+2:Nat):Int))) (ai.mk ((k+3:Nat):Int) ((k+4:Nat):Int) (AY ((k+5:Nat):Int)) ((k+6:Nat):Int) l1):=⟨_,rfl⟩
    have H:(P++l.drop i).set i en=(P++[en])++l.drop (i+1):=by
     rw[List.set_append,mg ajo,show i - P.length=0 by omega,agC];congr 1;rw[agl o];rfl
    obtain⟨a,R,I,f2,f3,M,f5⟩:=j (i+1) ajo ajo (P++[en]) E (by simp [f]) ajo;refine⟨a,en::R,?_,by simp;omega,by omega,by omega,λQ g=>?_⟩
    ·rw[eM,an ajo,G,sb];simp only[w1,s,t,u,v,w,x,jB _ (show((k+2:Nat):Int)<=9223372036854775807 by omega),jB _ (show((k+5:Nat):Int)<=9223372036854775807 by omega),sb,b,afT,<-c,H];rw[bm ajo,I];simp
    ·have hy:idx (Q++en::R) (i:Int)=some en:=by
      rw[ba (by rw[agP,age];omega),ahi ajo];simp [g]
     have y:=f5 (Q++[en]) (by simp [g]);rw[eF,an ajs];simp only[hy,sb,w1,s,t,u,v,w,x,jB _ (show((k+2:Nat):Int)<=9223372036854775807 by omega),jB _ (show((k+5:Nat):Int)<=9223372036854775807 by omega)];rw[c]at y ⊢;simp only[af.T0,af.T1,ai.lF,ai.oU,ai.oV,ai.jM,ai.dh,agu,F,sb];rw[mg ajo,bm ajo];simpa using y
  obtain⟨a,R,b,e2,J,z,q⟩:=go l.length 0 ajo ajo [] k rfl (by rw[afZ];exact hk);rw[afZ]at b z;replace b:eM l l (k:Int) 0=some ((a:Int),R):=b;replace q:eF R (k:Int) 0=some (.inl (a:Int)):=q [] rfl;refine⟨a,R,?_,by omega,J,z,?_⟩
  ·rw[dj,b,sb]
  ·rw[ia,q,sb]
termination_by n l=>af.za l
decreasing_by
 have p:=l[i].av.kP;have hm:=sf l _ (afQ o);omega
theorem Kr (k:bV):sG k k=some true:=by unfold sG;rw[an rfl,an rfl,an rfl]
theorem rr:∀(n:Nat),n<=2000000->∀v:ai,v.wt<=n->eo v v=some true
 | 0,_,v,h=>by have:=qE v;omega
 | n+1,f,v,h=>by
  have hlen:=HY (v:=v)
  have go:∀m i:Nat,i<=v.aj.length->v.aj.length - i=m->gw v.aj v.aj (i:Int)=some (.inl ()):=by
   intro m;induction m with
   | zero=>intro i h1 h2;rw[gw,mg ajo]
   | succ m a=>
    intro i h1 h2;have b:i<v.aj.length:=by omega
    have c:=Cu (afQ b)
    have d:tW v.aj[i] v.aj[i]=some true:=by
     rw[tW,Kr,sb,an rfl,rr n ajo _ ajo,sb,an rfl]
    rw[gw,an ajo,ba b,sb,sb,d,sb,an rfl,bm ajo];exact a (i+1) ajo ajo
  have e:=go v.aj.length 0 ajo ajo;replace e:gw v.aj v.aj 0=some (.inl ()):=e;rw[eo,an rfl,an rfl,an rfl,an rfl,vx,an rfl,e];rfl
set_option maxRecDepth 20000
set_option maxHeartbeats 2000000
def zS {α:Type} (z:α->Nat) (l:List α):Nat:=l.length+(l.map z).sum
theorem vH {α:Type} {z:α->Nat} {x:α} {l:List α}:zS z (x::l)=(1+z x)+zS z l:=by unfold zS;simp;omega
theorem db {α:Type} {z:α->Nat} (l:List α):l.length<=zS z l:=by unfold zS;omega
theorem cR {α:Type} {z:α->Nat}:∀{l:List α} {x:α},x∈l->1+z x<=zS z l
 | y::l,x,h=>by
  rw[vH];rcases afW.1 h with rfl | h
  ·omega
  ·have:=cR (z:=z) h;omega
theorem zU {α:Type} (l:List α):zS (λ_=>0) l=l.length:=by
 induction l with
 | nil=>rfl
 | cons x l a=>rw[vH,a];simp;omega
theorem U1 {α:Type} [Inhabited α] (B:Nat) {L:List α->List α->Int->Int->Option (Int×List α)} {H:List α->Int->Int->Option (Int ⊕ Int)} (l:List α) (z:α->Nat)
  (step:∀x∈l,∀k:Nat,k+20*(1+z x)<=B->∃(a:Nat) (y:α),k<=a/\a<=k+20*(1+z x)/\
   (∀(m:List α) (i:Nat),i<l.length->idx m (i:Int)=some x->L l m (k:Int) (i:Int)=L l (m.set i y) (a:Int) ((i+1:Nat):Int))/\
   ∀(m:List α) (i:Nat),i<m.length->m.length<=B->idx m (i:Int)=some y->H m (k:Int) (i:Int)=H m (a:Int) ((i+1:Nat):Int))
  (he:∀m k,L l m k (l.length:Int)=some (k,m)) (hh:∀m k,H m k (m.length:Int)=some (.inl k)):
  ∀k:Nat,k+20*zS z l<=B->∃(a:Nat) (c:List α),L l l (k:Int) 0=some ((a:Int),c)/\k<=a/\a<=k+20*zS z l/\c.length=l.length/\H c (k:Int) 0=some (.inl (a:Int)):=by
 have go:∀(R P:List α) (k:Nat),(∀x∈R,x∈l)->P.length+R.length=l.length->l.length<=B->k+20*zS z R<=B->
   ∃(a:Nat) (b:List α),L l (P++R) (k:Int) (P.length:Int)=some ((a:Int),P++b)/\k<=a/\a<=k+20*zS z R/\b.length=R.length/\∀Q:List α,Q.length=P.length->H (Q++b) (k:Int) (Q.length:Int)=some (.inl (a:Int)):=by
  intro R;induction R with
  | nil=>
   intro P k h1 h2 h3 h4;simp only[agv,agM]at h2;refine⟨k,[],?_,abF _,by omega,rfl,λQ f=>?_⟩
   ·rw[agB,h2];exact he P k
   ·rw[agB];exact hh Q k
  | cons x R j=>
   intro P k h1 h2 h3 h4;rw[vH]at h4;simp only[age]at h2;obtain⟨n,y,A,g2,o,p⟩:=step x (h1 x ajq) k ajo
   have d:∀(S:List α) (w:α) (T:List α),idx (S++w::T) (S.length:Int)=some w:=λS w T=>by
    rw[ba ajq];simp
   have q:(P++x::R).set P.length y=(P++[y])++R:=by simp
   obtain⟨a,b,r,f2,f3,g,f5⟩:=j (P++[y]) n (λw hw=>h1 w (by simp [hw])) ajs h3 ajo;refine⟨a,y::b,?_,by omega,by rw[vH];omega,by simp [g],λQ f=>?_⟩
   ·rw[o _ _ ajo (d P x R),q];have e:((P++[y]).length:Int)=((P.length+1:Nat):Int):=by simp
    rw[<-e,r];simp
   ·rw[p _ _ ajq (by simp [g];omega) (d Q y b)];have h:=f5 (Q++[y]) (by simp [f]);have e:((Q++[y]).length:Int)=((Q.length+1:Nat):Int):=by simp
    rw[e]at h;simpa using h
 intro k hk;have hl:=db (z:=z) l;obtain⟨a,c,s,e2,t,u,v⟩:=go l [] k (λx d=>d) ajq ajo hk;exact⟨a,c,by simpa using s,e2,t,u,by simpa using v [] rfl⟩
theorem ik {α:Type} [Inhabited α] (B:Nat) {L:List α->List α->Int->Int->Option (Int×List α)} (l:List α) (z:α->Nat)
  (step:∀x∈l,∀k:Nat,k+20*(1+z x)<=B->∃(a:Nat) (y:α),k<=a/\a<=k+20*(1+z x)/\
   (∀(m:List α) (i:Nat),i<l.length->idx m (i:Int)=some x->L l m (k:Int) (i:Int)=L l (m.set i y) (a:Int) ((i+1:Nat):Int)))
  (he:∀m k,L l m k (l.length:Int)=some (k,m)):
  ∀k:Nat,k+20*zS z l<=B->∃(a:Nat) (b:List α),L l l (k:Int) 0=some ((a:Int),b)/\k<=a/\a<=k+20*zS z l:=by
 have go:∀(R P:List α) (k:Nat),(∀x∈R,x∈l)->P.length+R.length=l.length->k+20*zS z R<=B->
   ∃(a:Nat) (c:List α),L l (P++R) (k:Int) (P.length:Int)=some ((a:Int),P++c)/\k<=a/\a<=k+20*zS z R:=by
  intro R;induction R with
  | nil=>
   intro P k h1 h2 h4;simp only[agv,agM]at h2;refine⟨k,[],?_,abF _,by omega⟩;rw[agB,h2];exact he P k
  | cons x R f=>
   intro P k h1 h2 h4;rw[vH]at h4;simp only[age]at h2;obtain⟨g,y,q,g2,h⟩:=step x (h1 x ajq) k ajo;have d:idx (P++x::R) (P.length:Int)=some x:=by rw[ba ajq];simp
   have j:(P++x::R).set P.length y=(P++[y])++R:=by simp
   obtain⟨a,c,n,f2,f3⟩:=f (P++[y]) g (λw hw=>h1 w (by simp [hw])) ajs ajo;refine⟨a,y::c,?_,by omega,by rw[vH];omega⟩;rw[h _ _ ajo d,j];have e:((P++[y]).length:Int)=((P.length+1:Nat):Int):=by simp
   rw[<-e,n];simp
 intro k hk;obtain⟨a,b,o,e2,p⟩:=go l [] k (λx d=>d) ajq hk;exact⟨a,b,by simpa using o,e2,p⟩
def zV (x:ai):Nat:=x.wt - 1
theorem LL (x:ai):x.wt<=zV x+1:=by unfold zV;omega
def kr (x:aS):Nat:=zV x.av
def uG (x:bH):Nat:=x.aG.length+zS kr x.ak
def fQ (x:aD):Nat:=uG x.ax
def wj (x:bD):Nat:=zS fQ x.aw
def dV (x:aF):Nat:=zV x.av
def fH (x:aO):Nat:=zS dV x.cJ
def dW (x:aH):Nat:=x.bh.length
def uH (x:bX):Nat:=zV x.av
def nT (x:bq):Nat:=x.bh.length+zS uH x.fArgs
def uI (x:bU):Nat:=zV x.av
def il (x:aX):Nat:=x.ak.length+zS zV x.bf+zS nT x.aY+x.aQ.length+zS uI x.bC
def uJ (x:ca):Nat:=zV x.aK+il x.ae
def oa (x:aR):Nat:=x.az.length+x.ao.length
def mi (x:bJ):Nat:=zS zV x.dB+x.cj.length+wj x.ko+zS fH x.dw+zS dW x.cU+zS uJ x.lz+zS il x.ew+oa x.fq
def vI (x:cp):Nat:=x.az.length+zV x.aW
theorem DL (l:List ai) (k:Nat) (h:k+20*zS zV l<=1000000000):∃(a:Nat) (b:List ai),ic l (k:Int)=some ((a:Int),b)/\k<=a/\a<=k+20*zS zV l:=by
 obtain⟨a,b,c,e2,n⟩:=ik 1000000000 (L:=fY) l zV (λx e k hk=>by
  have o:=db (z:=zV) l;have p:=cR (z:=zV) e;simp only[zV]at hk ⊢;have f:=(x).kP;obtain⟨d,l1,c,q,r,s,g⟩:=oM _ (x).aj (abF _) (k+1+1+1+1) ajo;have j:¬(d:Int)<0:=by omega
  refine⟨d,(ai.mk (k:Int) ((k+1:Nat):Int) (AY ((k+1+1:Nat):Int)) ((k+1+1+1:Nat):Int) l1),by omega,by omega,λm i hi hm=>?_⟩;rw[fY,an ajo];simp (disch:=omega) only[hm,jB,bm,sb,afT,c,g,j,agG,ai.lF,ai.oU,ai.oV,ai.jM,ai.dh]) (λm k=>by rw[fY,mg ajo]) k ajo
 refine⟨a,b,?_,e2,by omega⟩;unfold ic;rw[c,sb]
theorem Sk (l:List bc) (k:Nat) (h:k+20*l.length<=1000000000):∃(a:Nat) (b:List bc),lV l (k:Int)=some ((a:Int),b)/\k<=a/\a<=k+20*l.length:=by
 obtain⟨a,b,c,e2,d⟩:=ik 1000000000 (L:=fZ) l (λ_=>0) (λx e k hk=>by
  have f:=db (z:=(λ_=>0)) l;have g:=cR (z:=(λ_=>0)) e;refine⟨k+1+1,(bc.mk (AY (k:Int)) ((k+1:Nat):Int)),by omega,by omega,λm i hi hm=>?_⟩;rw[fZ,an ajo];simp (disch:=omega) only[hm,jB,bm,sb,afT]) (λm k=>by rw[fZ,mg ajo]) k ajR
 refine⟨a,b,?_,e2,by rw[zU]at d;omega⟩;unfold lV;rw[c,sb]
theorem DM (l:List Int) (k:Nat) (h:k+20*l.length<=1000000000):∃(a:Nat) (b:List Int),gK l (k:Int)=some ((a:Int),b)/\k<=a/\a<=k+20*l.length:=by
 obtain⟨a,b,c,e2,d⟩:=ik 1000000000 (L:=iP) l (λ_=>0) (λx e k hk=>by
  have f:=db (z:=(λ_=>0)) l;have g:=cR (z:=(λ_=>0)) e;refine⟨k+1,(k:Int),by omega,by omega,λm i hi hm=>?_⟩;rw[iP,an ajo];simp (disch:=omega) only[hm,jB,bm,sb,afT]) (λm k=>by rw[iP,mg ajo]) k ajR
 refine⟨a,b,?_,e2,by rw[zU]at d;omega⟩;unfold gK;rw[c,sb]
theorem U2 (l:List aS) (k:Nat) (h:k+20*zS kr l<=1000000000):∃(a:Nat) (c:List aS),nJ l (k:Int)=some ((a:Int),c)/\k<=a/\a<=k+20*zS kr l:=by
 obtain⟨a,c,d,e2,n⟩:=ik 1000000000 (L:=gW) l kr (λx e k hk=>by
  have o:=db (z:=kr) l;have p:=cR (z:=kr) e;simp only[kr,zV]at hk ⊢;have f:=(x.av).kP;obtain⟨b,l1,d,q,r,s,g⟩:=oM _ (x.av).aj (abF _) (k+1+1+1+1+1+1+1) ajo;have j:¬(b:Int)<0:=by omega
  refine⟨b+1+1,(aS.mk (bV.mk (((k:Int).tmod 3)==0) ((k+1:Nat):Int) (AY ((k+1+1:Nat):Int))) (ai.mk ((k+1+1+1:Nat):Int) ((k+1+1+1+1:Nat):Int) (AY ((k+1+1+1+1+1:Nat):Int)) ((k+1+1+1+1+1+1:Nat):Int) l1) (((b:Int).tmod 3)==0) ((b+1:Nat):Int)),by omega,by omega,λm i hi hm=>?_⟩;rw[gW,an ajo];simp (disch:=omega) only[hm,jB,bm,sb,afT,d,g,j,agG,ai.lF,ai.oU,ai.oV,ai.jM,ai.dh]) (λm k=>by rw[gW,mg ajo]) k ajo
 refine⟨a,c,?_,e2,by omega⟩;unfold nJ;rw[d,sb]
theorem Sl (l:List aD) (k:Nat) (h:k+20*zS fQ l<=1000000000):∃(a:Nat) (c:List aD),lW l (k:Int)=some ((a:Int),c)/\k<=a/\a<=k+20*zS fQ l:=by
 obtain⟨a,c,d,e2,n⟩:=ik 1000000000 (L:=gd) l fQ (λx f k hk=>by
  have o:=db (z:=fQ) l;have p:=cR (z:=fQ) f;simp only[fQ,uG]at hk ⊢;obtain⟨e,l1,d,q,r⟩:=DM x.ax.aG (k+1+1) ajo;have g:¬(e:Int)<0:=by omega
  obtain⟨b,j,e2,s,t⟩:=U2 x.ax.ak (e) ajo;have g2:¬(b:Int)<0:=by omega
  refine⟨b+1+1,(aD.mk (k:Int) (bH.mk ((((k+1:Nat):Int).tmod 3)==0) l1 j (b:Int) ((b+1:Nat):Int))),by omega,by omega,λm i hi hm=>?_⟩;rw[gd,an ajo];simp (disch:=omega) only[hm,jB,bm,sb,afT,d,g,e2,g2,agG]) (λm k=>by rw[gd,mg ajo]) k ajo
 refine⟨a,c,?_,e2,by omega⟩;unfold lW;rw[d,sb]
theorem YV (x:bD) (k:Nat) (h:k+20*wj x<=1000000000):∃(a:Nat) (r0:List aD),pC x (k:Int)=some ((a:Int),(bD.mk r0))/\k<=a/\a<=k+20*wj x:=by
 unfold wj at h ⊢;obtain⟨b,l1,c,d,e⟩:=Sl x.aw k ajo;have f:¬(b:Int)<0:=by omega
 refine⟨b,l1,?_,by omega,by omega⟩
 ·unfold pC;simp only[c,sb]
theorem MS (l:List aF) (k:Nat) (h:k+20*zS dV l<=1000000000):∃(a:Nat) (b:List aF),jX l (k:Int)=some ((a:Int),b)/\k<=a/\a<=k+20*zS dV l:=by
 obtain⟨a,b,c,e2,n⟩:=ik 1000000000 (L:=eR) l dV (λx e k hk=>by
  have o:=db (z:=dV) l;have p:=cR (z:=dV) e;simp only[dV,zV]at hk ⊢;have f:=(x.av).kP;obtain⟨d,l1,c,q,r,s,g⟩:=oM _ (x.av).aj (abF _) (k+1+1+1+1+1) ajo;have j:¬(d:Int)<0:=by omega
  refine⟨d,(aF.mk (AY (k:Int)) (ai.mk ((k+1:Nat):Int) ((k+1+1:Nat):Int) (AY ((k+1+1+1:Nat):Int)) ((k+1+1+1+1:Nat):Int) l1)),by omega,by omega,λm i hi hm=>?_⟩;rw[eR,an ajo];simp (disch:=omega) only[hm,jB,bm,sb,afT,c,g,j,agG,ai.lF,ai.oU,ai.oV,ai.jM,ai.dh]) (λm k=>by rw[eR,mg ajo]) k ajo
 refine⟨a,b,?_,e2,by omega⟩;unfold jX;rw[c,sb]
theorem Ps (l:List aO) (k:Nat) (h:k+20*zS fH l<=1000000000):∃(a:Nat) (b:List aO),kL l (k:Int)=some ((a:Int),b)/\k<=a/\a<=k+20*zS fH l:=by
 obtain⟨a,b,c,e2,g⟩:=ik 1000000000 (L:=fv) l fH (λx e k hk=>by
  have j:=db (z:=fH) l;have n:=cR (z:=fH) e;simp only[fH]at hk ⊢;obtain⟨d,l1,c,o,p⟩:=MS x.cJ (k+1+1) ajo;have f:¬(d:Int)<0:=by omega
  refine⟨d,(aO.mk (AY (k:Int)) ((((k+1:Nat):Int).tmod 3)==0) l1),by omega,by omega,λm i hi hm=>?_⟩;rw[fv,an ajo];simp (disch:=omega) only[hm,jB,bm,sb,afT,c,f,agG]) (λm k=>by rw[fv,mg ajo]) k ajo
 refine⟨a,b,?_,e2,by omega⟩;unfold kL;rw[c,sb]
theorem MT (l:List aH) (k:Nat) (h:k+20*zS dW l<=1000000000):∃(a:Nat) (c:List aH),jY l (k:Int)=some ((a:Int),c)/\k<=a/\a<=k+20*zS dW l:=by
 obtain⟨a,c,d,e2,g⟩:=ik 1000000000 (L:=eT) l dW (λx e k hk=>by
  have j:=db (z:=dW) l;have n:=cR (z:=dW) e;simp only[dW]at hk ⊢;obtain⟨b,l1,d,o,p⟩:=DM x.bh (k+1) ajo;have f:¬(b:Int)<0:=by omega
  refine⟨b+1+1+1,(aH.mk (k:Int) l1 (b:Int) (AY ((b+1:Nat):Int)) (AY ((b+1+1:Nat):Int))),by omega,by omega,λm i hi hm=>?_⟩;rw[eT,an ajo];simp (disch:=omega) only[hm,jB,bm,sb,afT,d,f,agG]) (λm k=>by rw[eT,mg ajo]) k ajo
 refine⟨a,c,?_,e2,by omega⟩;unfold jY;rw[d,sb]
theorem YW (l:List bX) (k:Nat) (h:k+20*zS uH l<=1000000000):∃(a:Nat) (b:List bX),pD l (k:Int)=some ((a:Int),b)/\k<=a/\a<=k+20*zS uH l:=by
 obtain⟨a,b,c,e2,n⟩:=ik 1000000000 (L:=iQ) l uH (λx e k hk=>by
  have o:=db (z:=uH) l;have p:=cR (z:=uH) e;simp only[uH,zV]at hk ⊢;have f:=(x.av).kP;obtain⟨d,l1,c,q,r,s,g⟩:=oM _ (x.av).aj (abF _) (k+1+1+1+1+1) ajo;have j:¬(d:Int)<0:=by omega
  refine⟨d,(bX.mk (k:Int) (ai.mk ((k+1:Nat):Int) ((k+1+1:Nat):Int) (AY ((k+1+1+1:Nat):Int)) ((k+1+1+1+1:Nat):Int) l1)),by omega,by omega,λm i hi hm=>?_⟩;rw[iQ,an ajo];simp (disch:=omega) only[hm,jB,bm,sb,afT,c,g,j,agG,ai.lF,ai.oU,ai.oV,ai.jM,ai.dh]) (λm k=>by rw[iQ,mg ajo]) k ajo
 refine⟨a,b,?_,e2,by omega⟩;unfold pD;rw[c,sb]
theorem Oj (l:List bq) (k:Nat) (h:k+20*zS nT l<=1000000000):∃(a:Nat) (b:List bq),lj l (k:Int)=some ((a:Int),b)/\k<=a/\a<=k+20*zS nT l:=by
 obtain⟨a,b,c,e2,n⟩:=ik 1000000000 (L:=gX) l nT (λx f k hk=>by
  have o:=db (z:=nT) l;have p:=cR (z:=nT) f;simp only[nT]at hk ⊢;obtain⟨d,l1,c,q,r⟩:=DM x.bh (k+1+1+1+1+1+1+1) ajo;have g:¬(d:Int)<0:=by omega
  obtain⟨e,j,e2,s,t⟩:=YW x.fArgs (d) ajo;have g2:¬(e:Int)<0:=by omega
  refine⟨e,(bq.mk (k:Int) (AY ((k+1:Nat):Int)) ((((k+1+1:Nat):Int).tmod 3)==0) ((k+1+1+1:Nat):Int) ((k+1+1+1+1:Nat):Int) (AY ((k+1+1+1+1+1:Nat):Int)) (AY ((k+1+1+1+1+1+1:Nat):Int)) l1 j),by omega,by omega,λm i hi hm=>?_⟩;rw[gX,an ajo];simp (disch:=omega) only[hm,jB,bm,sb,afT,c,g,e2,g2,agG]) (λm k=>by rw[gX,mg ajo]) k ajo
 refine⟨a,b,?_,e2,by omega⟩;unfold lj;rw[c,sb]
theorem Sn (l:List bI) (k:Nat) (h:k+20*l.length<=1000000000):∃(a:Nat) (b:List bI),mK l (k:Int)=some ((a:Int),b)/\k<=a/\a<=k+20*l.length:=by
 obtain⟨a,b,c,e2,d⟩:=ik 1000000000 (L:=iR) l (λ_=>0) (λx e k hk=>by
  have f:=db (z:=(λ_=>0)) l;have g:=cR (z:=(λ_=>0)) e;refine⟨k+1+1+1+1+1+1,(bI.mk (((k:Int).tmod 3)==0) (AY ((k+1:Nat):Int)) ((k+1+1:Nat):Int) ((k+1+1+1:Nat):Int) ((k+1+1+1+1:Nat):Int) ((k+1+1+1+1+1:Nat):Int)),by omega,by omega,λm i hi hm=>?_⟩;rw[iR,an ajo];simp (disch:=omega) only[hm,jB,bm,sb,afT]) (λm k=>by rw[iR,mg ajo]) k ajR
 refine⟨a,b,?_,e2,by rw[zU]at d;omega⟩;unfold mK;rw[c,sb]
theorem So (l:List bU) (k:Nat) (h:k+20*zS uI l<=1000000000):∃(a:Nat) (c:List bU),mL l (k:Int)=some ((a:Int),c)/\k<=a/\a<=k+20*zS uI l:=by
 obtain⟨a,c,d,e2,n⟩:=ik 1000000000 (L:=iS) l uI (λx e k hk=>by
  have o:=db (z:=uI) l;have p:=cR (z:=uI) e;simp only[uI,zV]at hk ⊢;have f:=(x.av).kP;obtain⟨b,l1,d,q,r,s,g⟩:=oM _ (x.av).aj (abF _) (k+1+1+1+1+1) ajo;have j:¬(b:Int)<0:=by omega
  refine⟨b+1+1+1,(bU.mk (k:Int) (ai.mk ((k+1:Nat):Int) ((k+1+1:Nat):Int) (AY ((k+1+1+1:Nat):Int)) ((k+1+1+1+1:Nat):Int) l1) (b:Int) ((b+1:Nat):Int) ((b+1+1:Nat):Int)),by omega,by omega,λm i hi hm=>?_⟩;rw[iS,an ajo];simp (disch:=omega) only[hm,jB,bm,sb,afT,d,g,j,agG,ai.lF,ai.oU,ai.oV,ai.jM,ai.dh]) (λm k=>by rw[iS,mg ajo]) k ajo
 refine⟨a,c,?_,e2,by omega⟩;unfold mL;rw[d,sb]
theorem YX (l:List ca) (k:Nat) (h:k+20*zS uJ l<=1000000000):∃(b:Nat) (d:List ca),pE l (k:Int)=some ((b:Int),d)/\k<=b/\b<=k+20*zS uJ l:=by
 obtain⟨b,d,e,e2,f⟩:=ik 1000000000 (L:=iT) l uJ (λx p k hk=>by
  have H:=db (z:=uJ) l;have I:=cR (z:=uJ) p;simp only[uJ,il,zV]at hk ⊢;have q:=(x.aK).kP;obtain⟨c,l1,e,J,K,M,r⟩:=oM _ (x.aK).aj (abF _) (k+1+1+1+1+1) ajo;have s:¬(c:Int)<0:=by omega
  obtain⟨g,t,e2,N,O⟩:=DM x.ae.ak (c+1+1) ajo;have g2:¬(g:Int)<0:=by omega
  obtain⟨j,u,f,P,Q⟩:=DL x.ae.bf (g) ajo;have v:¬(j:Int)<0:=by omega
  obtain⟨n,w,y,R,d4⟩:=Oj x.ae.aY (j) ajo;have A:¬(n:Int)<0:=by omega
  obtain⟨o,B,C,S,T⟩:=Sn x.ae.aQ (n) ajo;have D:¬(o:Int)<0:=by omega
  obtain⟨a,E,F,U,d6⟩:=So x.ae.bC (o) ajo;have G:¬(a:Int)<0:=by omega
  refine⟨a+1+1+1+1+1+1,(ca.mk (k:Int) (ai.mk ((k+1:Nat):Int) ((k+1+1:Nat):Int) (AY ((k+1+1+1:Nat):Int)) ((k+1+1+1+1:Nat):Int) l1) (aX.mk (c:Int) ((c+1:Nat):Int) t u w B E (a:Int) (AY ((a+1:Nat):Int)) (AY ((a+1+1:Nat):Int)) ((a+1+1+1:Nat):Int) ((a+1+1+1+1:Nat):Int) ((a+1+1+1+1+1:Nat):Int))),by omega,by omega,λm i hi hm=>?_⟩;rw[iT,an ajo];simp (disch:=omega) only[hm,jB,bm,sb,afT,e,r,s,e2,g2,f,v,y,A,C,D,F,G,agG,ai.lF,ai.oU,ai.oV,ai.jM,ai.dh]) (λm k=>by rw[iT,mg ajo]) k ajo
 refine⟨b,d,?_,e2,by omega⟩;unfold pE;rw[e,sb]
theorem Sp (l:List aX) (k:Nat) (h:k+20*zS il l<=1000000000):∃(b:Nat) (c:List aX),lX l (k:Int)=some ((b:Int),c)/\k<=b/\b<=k+20*zS il l:=by
 obtain⟨b,c,d,e2,e⟩:=ik 1000000000 (L:=gf) l il (λx o k hk=>by
  have B:=db (z:=il) l;have C:=cR (z:=il) o;simp only[il]at hk ⊢;obtain⟨f,l1,d,D,E⟩:=DM x.ak (k+1+1) ajo;have p:¬(f:Int)<0:=by omega
  obtain⟨g,q,e2,F,G⟩:=DL x.bf (f) ajo;have g2:¬(g:Int)<0:=by omega
  obtain⟨j,r,e,H,I⟩:=Oj x.aY (g) ajo;have s:¬(j:Int)<0:=by omega
  obtain⟨n,t,u,J,d4⟩:=Sn x.aQ (j) ajo;have v:¬(n:Int)<0:=by omega
  obtain⟨a,w,y,K,M⟩:=So x.bC (n) ajo;have A:¬(a:Int)<0:=by omega
  refine⟨a+1+1+1+1+1+1,(aX.mk (k:Int) ((k+1:Nat):Int) l1 q r t w (a:Int) (AY ((a+1:Nat):Int)) (AY ((a+1+1:Nat):Int)) ((a+1+1+1:Nat):Int) ((a+1+1+1+1:Nat):Int) ((a+1+1+1+1+1:Nat):Int)),by omega,by omega,λm i hi hm=>?_⟩;rw[gf,an ajo];simp (disch:=omega) only[hm,jB,bm,sb,afT,d,p,e2,g2,e,s,u,v,y,A,agG]) (λm k=>by rw[gf,mg ajo]) k ajo
 refine⟨b,c,?_,e2,by omega⟩;unfold lX;rw[d,sb]
theorem Gm (l:List ay) (k:Nat) (h:k+20*l.length<=1000000000):∃(a:Nat) (b:List ay),iU l (k:Int)=some ((a:Int),b)/\k<=a/\a<=k+20*l.length/\b.length=l.length/\kG b (k:Int)=some (a:Int):=by
 obtain⟨a,b,c,e2,d,e,f⟩:=U1 1000000000 (L:=fx) (H:=fu) l (λ_=>0) (λx g k hk=>by
  have j:=db (z:=(λ_=>0)) l;have n:=cR (z:=(λ_=>0)) g;refine⟨k+1+1,(ay.mk (AY (k:Int)) (AY ((k+1:Nat):Int))),by omega,by omega,λm i hi hm=>?_,λm i hi hl hm=>?_⟩
  ·rw[fx,an ajo];simp (disch:=omega) only[hm,jB,bm,sb,afT]
  ·rw[fu,an ajo];simp (disch:=omega) only[hm,agu,jB,bm,sb,afT,mg]) (λm k=>by rw[fx,mg ajo]) (λm k=>by rw[fu,mg ajo]) k ajR
 refine⟨a,b,?_,e2,by rw[zU]at d;omega,e,?_⟩
 ·unfold iU;rw[c,sb]
 ·unfold kG;rw[f,sb]
theorem Pt (l:List aC) (k:Nat) (h:k+20*l.length<=1000000000):∃(a:Nat) (b:List aC),kM l (k:Int)=some ((a:Int),b)/\k<=a/\a<=k+20*l.length:=by
 obtain⟨a,b,c,e2,d⟩:=ik 1000000000 (L:=fy) l (λ_=>0) (λx e k hk=>by
  have f:=db (z:=(λ_=>0)) l;have g:=cR (z:=(λ_=>0)) e;refine⟨k+1+1,(aC.mk (k:Int) (AY ((k+1:Nat):Int))),by omega,by omega,λm i hi hm=>?_⟩;rw[fy,an ajo];simp (disch:=omega) only[hm,jB,bm,sb,afT]) (λm k=>by rw[fy,mg ajo]) k ajR
 refine⟨a,b,?_,e2,by rw[zU]at d;omega⟩;unfold kM;rw[c,sb]
theorem Sq (x:aR) (k:Nat) (h:k+20*oa x<=1000000000):∃(a:Nat) (r0:List ay) (r1:List aC),lY x (k:Int)=some ((a:Int),(aR.mk x.cm r0 r1))/\k<=a/\a<=k+20*oa x:=by
 unfold oa at h ⊢;obtain⟨b,l1,d,f,g,i,j⟩:=Gm x.az k ajo;have l:¬(b:Int)<0:=by omega
 obtain⟨c,e,e2,m,n⟩:=Pt x.ao b ajo;have g2:¬(c:Int)<0:=by omega
 refine⟨c,l1,e,?_,by omega,by omega⟩
 ·unfold lY;simp only[d,e2,sb]
theorem Pu (x:bJ) (k:Nat) (h:k+20*mi x<=1000000000):∃(a:Nat) (r0:List ai) (r1:List bc) (o:List aD) (p:List aO) (q:List aH) (r:List ca) (s:List aX) (t:List ay) (u:List aC),iV x (k:Int)=some ((a:Int),(bJ.mk x.bR x.bA x.jN x.aE r0 r1 (bD.mk o) p q r s (aR.mk x.fq.cm t u)))/\k<=a/\a<=k+20*mi x:=by
 unfold mi at h ⊢;obtain⟨e,l1,v,I,J⟩:=DL x.dB k ajo;have K:¬(e:Int)<0:=by omega
 obtain⟨f,w,e2,L,M⟩:=Sk x.cj e ajo;have g2:¬(f:Int)<0:=by omega
 obtain⟨g,b,y,N,O⟩:=YV x.ko f ajo;have P:¬(g:Int)<0:=by omega
 obtain⟨i,z,A,Q,d4⟩:=Ps x.dw g ajo;have R:¬(i:Int)<0:=by omega
 obtain⟨j,B,C,S,T⟩:=MT x.cU i ajo;have U:¬(j:Int)<0:=by omega
 obtain⟨l,D,E,V,d6⟩:=YX x.lz j ajo;have W:¬(l:Int)<0:=by omega
 obtain⟨m,F,G,X,Y⟩:=Sp x.ew l ajo;have Z:¬(m:Int)<0:=by omega
 obtain⟨n,c,d,H,c8,d8⟩:=Sq x.fq m ajo;have g8:¬(n:Int)<0:=by omega
 refine⟨n,l1,w,b,z,B,D,F,c,d,?_,by omega,by omega⟩
 ·unfold iV;simp only[v,e2,y,A,C,E,G,H,sb]
theorem mkValue (x:ai) (k:Nat) (h:k+20*zV x<=1000000000):∃(a:Nat) (r0:List af),nK x (k:Int)=some ((a:Int),(ai.mk x.aU x.bb x.bp x.aE r0))/\k<=a/\a<=k+20*zV x/\nB (ai.mk x.aU x.bb x.bp x.aE r0) (k:Int)=some (a:Int):=by
 have hw:=x.kP;unfold zV at h ⊢;obtain⟨b,l1,c,f,g,i,d⟩:=oM _ x.aj (abF _) k ajo;have e:¬(b:Int)<0:=by omega
 refine⟨b,l1,?_,by omega,by omega,?_⟩
 ·unfold nK;simp only[c,sb]
 ·unfold nB;simp only[ai.dh,d,e,sb,agG]
theorem mkResult (x:cp) (k:Nat) (h:k+20*vI x<=1000000000):∃(a:Nat) (r0:List ay) (r1:List af),jZ x (k:Int)=some ((a:Int),(cp.mk x.bR x.bA x.oX r0 (ai.mk x.aW.aU x.aW.bb x.aW.bp x.aW.aE r1)))/\k<=a/\a<=k+20*vI x/\ib (cp.mk x.bR x.bA x.oX r0 (ai.mk x.aW.aU x.aW.bb x.aW.bp x.aW.aE r1)) (k:Int)=some (a:Int):=by
 unfold vI at h ⊢;obtain⟨c,l1,e,i,j,l,f⟩:=Gm x.az k ajo;have g:¬(c:Int)<0:=by omega
 obtain⟨d,b,e2,m,n,f2⟩:=mkValue x.aW c ajo;have g2:¬(d:Int)<0:=by omega
 refine⟨d,l1,b,?_,by omega,by omega,?_⟩
 ·unfold jZ;simp only[e,e2,sb,ai.lF,ai.oU,ai.oV,ai.jM,ai.dh]
 ·unfold ib;simp only[f,g,f2,g2,sb,agG,ai.lF,ai.oU,ai.oV,ai.jM,ai.dh]
theorem eV {L:Int->Option (Unit ⊕ Bool)} (n:Nat) (hs:∀k:Nat,k<n->L (k:Int)=L ((k+1:Nat):Int)) (he:L (n:Int)=some (.inl ())):L 0=some (.inl ()):=by
 have go:∀m k:Nat,k+m=n->L (k:Int)=some (.inl ()):=by
  intro m;induction m with
  | zero=>
   intro k hk;obtain rfl:k=n:=by omega
   exact he
  | succ m a=>
   intro k hk;rw[hs k ajo];exact a (k+1) ajo
 exact go n 0 ajo
theorem ym (l:List ai) (h:zS zV l<=1999999):mJ l l=some true:=by
 have a:=db (z:=zV) l;have e:iJ l l 0=some (.inl ()):=eV l.length (λk hk=>by rw[iJ,an ajo,ba hk,sb,sb,rr 2000000 (abF _) _ (by have b:=cR (z:=zV) (afQ hk);have hw:=LL (l[k]'hk);omega),sb,an rfl,bm ajo]) (by rw[iJ,mg ajo]);unfold mJ;rw[an rfl,e];rfl
theorem HZ (x:bc):qY x x=some true:=by unfold qY;simp [sb]
theorem Fo (l:List bc) (h:l.length<=1999999):pq l l=some true:=by
 have e:iK l l 0=some (.inl ()):=eV l.length (λk hk=>by rw[iK,an ajo,ba hk,sb,sb,HZ,sb,an rfl,bm ajo]) (by rw[iK,mg ajo]);unfold pq;rw[an rfl,e];rfl
theorem ui (l:List Int) (h:l.length<=1999999):lS l l=some true:=by
 have e:la l l 0=some (.inl ()):=eV l.length (λk hk=>by rw[la,an ajo,ba hk,sb,sb,an rfl,bm ajo]) (by rw[la,mg ajo]);unfold lS;rw[an rfl,e];rfl
theorem Ks (x:aS) (h:kr x<=1999999):sU x x=some true:=by
 unfold kr at h;unfold sU;simp only[Kr,rr 2000000 (abF _) x.av (agq (LL x.av) ajo),sb,agu]
theorem H0 (l:List aS) (h:zS kr l<=1999999):qZ l l=some true:=by
 have a:=db (z:=kr) l;have e:jV l l 0=some (.inl ()):=eV l.length (λk hk=>by rw[jV,an ajo,ba hk,sb,sb,Ks _ (by have b:=cR (z:=kr) (afQ hk);omega),sb,an rfl,bm ajo]) (by rw[jV,mg ajo]);unfold qZ;rw[an rfl,e];rfl
theorem H2 (x:bH) (h:uG x<=1999999):ra x x=some true:=by
 unfold uG at h;unfold ra;simp only[ui x.aG ajo,H0 x.ak ajo,sb,agu]
theorem H3 (x:aD) (h:fQ x<=1999999):rb x x=some true:=by
 unfold fQ at h;unfold rb;simp only[H2 x.ax ajo,sb,agu]
theorem Fp (l:List aD) (h:zS fQ l<=1999999):pr l l=some true:=by
 have a:=db (z:=fQ) l;have e:iL l l 0=some (.inl ()):=eV l.length (λk hk=>by rw[iL,an ajo,ba hk,sb,sb,H3 _ (by have b:=cR (z:=fQ) (afQ hk);omega),sb,an rfl,bm ajo]) (by rw[iL,mg ajo]);unfold pr;rw[an rfl,e];rfl
theorem Kt (x:bD) (h:wj x<=1999999):sW x x=some true:=by
 unfold wj at h;unfold sW;simp only[Fp x.aw ajo,sb,agu]
theorem DN (x:aF) (h:dV x<=1999999):nD x x=some true:=by
 unfold dV at h;unfold nD;simp only[rr 2000000 (abF _) x.av (agq (LL x.av) ajo),sb,agu]
theorem B6 (l:List aF) (h:zS dV l<=1999999):lT l l=some true:=by
 have a:=db (z:=dV) l;have e:fW l l 0=some (.inl ()):=eV l.length (λk hk=>by rw[fW,an ajo,ba hk,sb,sb,DN _ (by have b:=cR (z:=dV) (afQ hk);omega),sb,an rfl,bm ajo]) (by rw[fW,mg ajo]);unfold lT;rw[an rfl,e];rfl
theorem Fq (x:aO) (h:fH x<=1999999):pt x x=some true:=by
 unfold fH at h;unfold pt;simp only[B6 x.cJ ajo,sb,agu]
theorem DO (l:List aO) (h:zS fH l<=1999999):nE l l=some true:=by
 have a:=db (z:=fH) l;have e:gU l l 0=some (.inl ()):=eV l.length (λk hk=>by rw[gU,an ajo,ba hk,sb,sb,Fq _ (by have b:=cR (z:=fH) (afQ hk);omega),sb,an rfl,bm ajo]) (by rw[gU,mg ajo]);unfold nE;rw[an rfl,e];rfl
theorem DP (x:aH) (h:dW x<=1999999):nF x x=some true:=by
 unfold dW at h;unfold nF;simp only[ui x.bh ajo,sb,agu]
theorem B7 (l:List aH) (h:zS dW l<=1999999):lU l l=some true:=by
 have a:=db (z:=dW) l;have e:fX l l 0=some (.inl ()):=eV l.length (λk hk=>by rw[fX,an ajo,ba hk,sb,sb,DP _ (by have b:=cR (z:=dW) (afQ hk);omega),sb,an rfl,bm ajo]) (by rw[fX,mg ajo]);unfold lU;rw[an rfl,e];rfl
theorem MU (x:bX) (h:uH x<=1999999):uU x x=some true:=by
 unfold uH at h;unfold uU;simp only[rr 2000000 (abF _) x.av (agq (LL x.av) ajo),sb,agu]
theorem Ku (l:List bX) (h:zS uH l<=1999999):sZ l l=some true:=by
 have a:=db (z:=uH) l;have e:lb l l 0=some (.inl ()):=eV l.length (λk hk=>by rw[lb,an ajo,ba hk,sb,sb,MU _ (by have b:=cR (z:=uH) (afQ hk);omega),sb,an rfl,bm ajo]) (by rw[lb,mg ajo]);unfold sZ;rw[an rfl,e];rfl
theorem Kv (x:bq) (h:nT x<=1999999):ta x x=some true:=by
 unfold nT at h;unfold ta;simp only[ui x.bh ajo,Ku x.fArgs ajo,sb,agu]
theorem H4 (l:List bq) (h:zS nT l<=1999999):re l l=some true:=by
 have a:=db (z:=nT) l;have e:jW l l 0=some (.inl ()):=eV l.length (λk hk=>by rw[jW,an ajo,ba hk,sb,sb,Kv _ (by have b:=cR (z:=nT) (afQ hk);omega),sb,an rfl,bm ajo]) (by rw[jW,mg ajo]);unfold re;rw[an rfl,e];rfl
theorem MV (x:bI):uV x x=some true:=by unfold uV;simp [sb]
theorem Kw (l:List bI) (h:l.length<=1999999):tc l l=some true:=by
 have e:ld l l 0=some (.inl ()):=eV l.length (λk hk=>by rw[ld,an ajo,ba hk,sb,sb,MV,sb,an rfl,bm ajo]) (by rw[ld,mg ajo]);unfold tc;rw[an rfl,e];rfl
theorem MW (x:bU) (h:uI x<=1999999):uW x x=some true:=by
 unfold uI at h;unfold uW;simp only[rr 2000000 (abF _) x.av (agq (LL x.av) ajo),sb,agu]
theorem Kx (l:List bU) (h:zS uI l<=1999999):tf l l=some true:=by
 have a:=db (z:=uI) l;have e:lf l l 0=some (.inl ()):=eV l.length (λk hk=>by rw[lf,an ajo,ba hk,sb,sb,MW _ (by have b:=cR (z:=uI) (afQ hk);omega),sb,an rfl,bm ajo]) (by rw[lf,mg ajo]);unfold tf;rw[an rfl,e];rfl
theorem zW (x:aX) (h:il x<=1999999):oH x x=some true:=by
 unfold il at h;unfold oH;simp only[ui x.ak ajo,ym x.bf ajo,H4 x.aY ajo,Kw x.aQ ajo,Kx x.bC ajo,sb,agu]
theorem MX (x:ca) (h:uJ x<=1999999):uX x x=some true:=by
 unfold uJ at h;unfold uX;simp only[rr 2000000 (abF _) x.aK (agq (LL x.aK) ajo),zW x.ae ajo,sb,agu]
theorem Ky (l:List ca) (h:zS uJ l<=1999999):tg l l=some true:=by
 have a:=db (z:=uJ) l;have e:lh l l 0=some (.inl ()):=eV l.length (λk hk=>by rw[lh,an ajo,ba hk,sb,sb,MX _ (by have b:=cR (z:=uJ) (afQ hk);omega),sb,an rfl,bm ajo]) (by rw[lh,mg ajo]);unfold tg;rw[an rfl,e];rfl
theorem Fs (l:List aX) (h:zS il l<=1999999):pz l l=some true:=by
 have a:=db (z:=il) l;have e:iM l l 0=some (.inl ()):=eV l.length (λk hk=>by rw[iM,an ajo,ba hk,sb,sb,zW _ (by have b:=cR (z:=il) (afQ hk);omega),sb,an rfl,bm ajo]) (by rw[iM,mg ajo]);unfold pz;rw[an rfl,e];rfl
theorem Ft (x:ay):pn x x=some true:=by unfold pn;simp [sb]
theorem xc (l:List ay) (h:l.length<=1999999):k9 l l=some true:=by
 have e:gT l l 0=some (.inl ()):=eV l.length (λk hk=>by rw[gT,an ajo,ba hk,sb,sb,Ft,sb,an rfl,bm ajo]) (by rw[gT,mg ajo]);unfold k9;rw[an rfl,e];rfl
theorem Fu (x:aC):pA x x=some true:=by unfold pA;simp [sb]
theorem DQ (l:List aC) (h:l.length<=1999999):nG l l=some true:=by
 have e:gV l l 0=some (.inl ()):=eV l.length (λk hk=>by rw[gV,an ajo,ba hk,sb,sb,Fu,sb,an rfl,bm ajo]) (by rw[gV,mg ajo]);unfold nG;rw[an rfl,e];rfl
theorem Fv (x:aR) (h:oa x<=1999999):pB x x=some true:=by
 unfold oa at h;unfold pB;simp only[xc x.az ajo,DQ x.ao ajo,sb,agu]
theorem DS (x:bJ) (h:mi x<=1999999):nH x x=some true:=by
 unfold mi at h;unfold nH;simp only[ym x.dB ajo,Fo x.cj ajo,Kt x.ko ajo,DO x.dw ajo,B7 x.cU ajo,Ky x.lz ajo,Fs x.ew ajo,Fv x.fq ajo,sb,agu]
theorem Fw (x:cp) (h:vI x<=1999999):ky x x=some true:=by
 unfold vI at h;unfold ky;simp only[xc x.az ajo,rr 2000000 (abF _) x.aW (agq (LL x.aW) ajo),sb,agu]
set_option maxRecDepth 20000
set_option maxHeartbeats 2000000
theorem mj {y:Int} {n:Nat} (h0:0<=y) (h1:y<=1048576) (a:n<=9223372036854775807):ah (y - (n:Int))=y - (n:Int):=B4 ajo ajo
theorem rT {α:Type} {L:Int->Int->Option (Int ⊕ Int)} (l:List α) (sz:α->Int->Option Int) (c:α->Nat) (Q:α->Prop) (hl:l.length<=1048576)
  (f:∀x∈l,∀y:Int,0<=y->y<=1048576->∃v,sz x y=some v/\(v<0\/(0<=v/\v+c x<=y/\Q x)))
  (hs:∀(i:Nat) (hi:i<l.length) (y:Int),0<=y->y<=1048576->L y (i:Int)=(sz l[i] y>>=λv=>if v<0 then some (.inr (-1))else L v ((i+1:Nat):Int)))
  (he:∀y,L y (l.length:Int)=some (.inl y)):∀(m i:Nat),i+m=l.length->∀y:Int,0<=y->y<=1048576->∃o,L y (i:Int)=some o/\(o=.inr (-1)\/∃z,o=.inl z/\0<=z/\z+((l.drop i).map c).sum<=y/\∀x∈l.drop i,Q x):=by
 intro m;induction m with
 | zero=>
  intro i h y d y1;obtain rfl:i=l.length:=by omega
  refine⟨_,he y,.inr ⟨y,rfl,d,by rw[ahk];simp,λx a=>by rw[ahk]at a;simp at a⟩⟩
 | succ m g=>
  intro i h y d y1;have hi:i<l.length:=by omega
  obtain⟨v,e,hv⟩:=f l[i] (afQ hi) y d y1;rw[hs i hi y d y1,e,sb];rcases hv with hv | ⟨j,p,k⟩
  ·rw[an hv];exact⟨_,rfl,.inl rfl⟩
  ·rw[mg ajo];obtain⟨o,e2,b⟩:=g (i+1) ajo v j ajo;refine⟨o,e2,?_⟩;rcases b with b | ⟨z,b,z0,q,n⟩
   ·exact .inl b
   ·refine .inr ⟨z,b,z0,?_,?_⟩
    ·rw[agl hi];simp only[afO,ahR];omega
    ·intro x a;rw[agl hi]at a;rcases afW.1 a with rfl | a
     ·exact k
     ·exact n x a
theorem Kz {x:bV} (h:x.Ok) {y:Int} (h0:0<=y) (h1:y<=1048576):∃v,sx x y=some v/\(v<0\/(0<=v/\v<=y)):=by
 unfold sx;rw[mj h0 h1 h.h0];by_cases a:y - (x.bp.length:Int)<0
 ·rw[an a];exact⟨_,rfl,.inl ajp⟩
 ·rw[mg a];exact⟨_,rfl,.inr ⟨by omega,by omega⟩⟩
theorem Ol:∀l:List af,af.za l=zS (λe:af=>e.av.wt - 1) l
 | []=>rfl
 | e::l=>by
  have:=qE e.av;rw[nS,vH,Ol l];omega
theorem qF:∀(n:Nat) (v:ai),v.wt<=n->v.Ok->∀y:Int,0<=y->y<=1048576->∃r,eh v y=some r/\(r<0\/(0<=r/\r+(v.wt - 1:Nat)<=y)):=by
 intro n;induction n with
 | zero=>intro v hv;have:=qE v;omega
 | succ n h=>
  intro v hv j y b y1;obtain⟨k,l,m⟩:=j.inv;have p:=v.kP;rw[eh,mj b y1 k];by_cases a:y - (v.bp.length:Int)<0
  ·rw[an a];exact⟨_,rfl,.inl ajp⟩
  rw[mg a];have f:0<=y - (v.bp.length:Int):=by omega
  have q1:y - (v.bp.length:Int)<=1048576:=by omega
  generalize q:y - (v.bp.length:Int)=y2 at f q1 a ⊢
  have main:∃r,rW v.aj y2=some r/\(r<0\/(0<=r/\r+(v.wt - 1:Nat)<=y2)):=by
   rw[rW,mj f q1 l];by_cases a:y2 - (v.aj.length:Int)<0
   ·rw[an a];exact⟨_,rfl,.inl ajp⟩
   ·rw[mg a]
    obtain⟨o,e,s⟩:=rT (L:=iD v.aj) v.aj tT (λe:af=>e.av.wt - 1) (λ_=>True) ajo (λx g y b y1=>by
     obtain⟨t,g2⟩:=(m x g).inv;obtain⟨u,w,hu⟩:=Kz t b y1;have A:=sf _ _ g;rw[tT,w,sb];rcases hu with hu | ⟨B,E⟩
     ·rw[an hu];exact⟨_,rfl,.inl ajp⟩
     ·rw[mg ajo];obtain⟨F,e2,c⟩:=h x.av ajo g2 u B ajo;rw[e2,sb];rcases c with c | ⟨C,G⟩
      ·rw[an c];exact⟨_,rfl,.inl ajp⟩
      ·rw[mg ajo];exact⟨_,rfl,.inr ⟨C,by omega,trivial⟩⟩) (λi hi y b y1=>by rw[iD,an ajo,ba hi,sb,bm ajo]) (λy=>by rw[iD,mg ajo]) v.aj.length 0 ajo (y2 - (v.aj.length:Int)) ajo ajo
    rw[show((0:Nat):Int)=0 from rfl]at e;rw[e,sb];rcases s with rfl | ⟨z,rfl,z0,D,H⟩
    ·exact aiM
    ·rw[afZ]at D;have:=Ol v.aj;unfold zS at this;exact⟨_,rfl,.inr ⟨z0,by omega⟩⟩
  obtain⟨r,e,d⟩:=main
  rw[e,sb];rcases d with d | ⟨r0,r1⟩
  ·rw[an d];exact⟨_,rfl,.inl ajp⟩
  ·rw[mg ajo];exact⟨_,rfl,.inr ⟨r0,by omega⟩⟩
structure ay.Tx (x:ay):Prop where
 t0:x.cu.length<=1048576
 t1:x.rz.length<=1048576
structure aC.Tx (x:aC):Prop where
 t0:x.bO.length<=1048576
structure aR.Tx (x:aR):Prop where
 t0:x.cm.length<=1048576
 t1:∀y∈x.az,ay.Tx y
 t2:∀y∈x.ao,aC.Tx y
structure bJ.Tx (x:bJ):Prop where
 t0:x.bA.length<=1048576
 t1:aR.Tx x.fq
theorem Bt {l:List ai} (hl:l.length<=9223372036854775807) (h:∀x∈l,ai.Ok x) {k:Int} (h0:0<=k) (h1:k<=1048576):∃v,mC l k=some v/\(v<0\/(0<=v/\v+(zS zV l:Nat)<=k)):=by
 unfold mC;rw[mj h0 h1 hl];by_cases a:k - (l.length:Int)<0
 ·rw[an a];exact⟨_,rfl,.inl ajp⟩
 ·rw[mg a];obtain⟨o,e,c⟩:=rT (L:=iE l) l eh zV (λ_=>True) ajo (λx d y b y1=>by obtain⟨r,e,f⟩:=qF _ x (abF _) (h x d) y b y1;exact⟨r,e,f.imp id λq=>⟨q.1,by unfold zV;omega,trivial⟩⟩) (λi hi y b y1=>by rw[iE,an ajo,ba hi,sb,bm ajo]) (λy=>by rw[iE,mg ajo]) l.length 0 ajo (k - (l.length:Int)) ajo ajo;rw[show((0:Nat):Int)=0 from rfl]at e;rw[e,sb];rcases c with rfl | ⟨z,rfl,z0,g,j⟩
  ·exact aiM
  ·rw[afZ]at g j;exact aiN
theorem MY {x:bc} (h:x.Ok) {y:Int} (h0:0<=y) (h1:y<=1048576):∃v,oD x y=some v/\(v<0\/(0<=v/\v<=y)):=by
 unfold oD;rw[mj (y:=y) ajo ajo h.h0];by_cases a:y - (x.cu.length:Int)<0
 ·rw[an a];exact⟨_,rfl,.inl ajp⟩
 rw[mg a];exact ajm
theorem KA {l:List bc} (hl:l.length<=9223372036854775807) (h:∀x∈l,bc.Ok x) {k:Int} (h0:0<=k) (h1:k<=1048576):∃v,pc l k=some v/\(v<0\/(0<=v/\v+l.length<=k)):=by
 unfold pc;rw[mj h0 h1 hl];by_cases a:k - (l.length:Int)<0
 ·rw[an a];exact⟨_,rfl,.inl ajp⟩
 ·rw[mg a];obtain⟨o,e,c⟩:=rT (L:=iF l) l oD (λ_=>0) (λ_=>True) ajo (λx d y b y1=>by obtain⟨r,e,f⟩:=MY (h x d) b y1;exact⟨r,e,f.imp id λq=>⟨q.1,by simpa using q.2,trivial⟩⟩) (λi hi y b y1=>by rw[iF,an ajo,ba hi,sb,bm ajo]) (λy=>by rw[iF,mg ajo]) l.length 0 ajo (k - (l.length:Int)) ajo ajo;rw[show((0:Nat):Int)=0 from rfl]at e;rw[e,sb];rcases c with rfl | ⟨z,rfl,z0,g,j⟩
  ·exact aiM
  ·rw[afZ]at g j;exact⟨_,rfl,.inr ⟨z0,by have m:=zU l;unfold zS at m;omega⟩⟩
theorem xB {l:List Int} (hl:l.length<=9223372036854775807) {k:Int} (h0:0<=k) (h1:k<=1048576):∃v,lH l k=some v/\(v<0\/(0<=v/\v+l.length<=k)):=by
 unfold lH;rw[mj h0 h1 hl];by_cases a:k - (l.length:Int)<0
 ·rw[an a];exact⟨_,rfl,.inl ajp⟩
 ·rw[mg a];exact ajm
theorem Pv {x:aS} (h:x.Ok) {y:Int} (h0:0<=y) (h1:y<=1048576):∃v,qt x y=some v/\(v<0\/(0<=v/\v+(kr x:Nat)<=y)):=by
 unfold qt;obtain⟨c,d,a⟩:=Kz h.h0 (y:=y) ajo ajo;rw[d,sb];rcases a with a | ⟨e,q1⟩
 ·rw[an a];exact⟨_,rfl,.inl ajp⟩
 rw[mg ajo];obtain⟨f,e2,b⟩:=qF _ x.av (abF _) h.h1 c ajo ajo;rw[e2,sb];rcases b with b | ⟨g,q2⟩
 ·rw[an b];exact⟨_,rfl,.inl ajp⟩
 rw[mg ajo];exact⟨_,rfl,.inr ⟨by omega,by unfold kr zV;omega⟩⟩
theorem MZ {l:List aS} (hl:l.length<=9223372036854775807) (h:∀x∈l,aS.Ok x) {k:Int} (h0:0<=k) (h1:k<=1048576):∃v,qR l k=some v/\(v<0\/(0<=v/\v+(zS kr l:Nat)<=k)):=by
 unfold qR;rw[mj h0 h1 hl];by_cases a:k - (l.length:Int)<0
 ·rw[an a];exact⟨_,rfl,.inl ajp⟩
 ·rw[mg a];obtain⟨o,e,c⟩:=rT (L:=jO l) l qt kr (λ_=>True) ajo (λx d y b y1=>by obtain⟨r,e,f⟩:=Pv (h x d) b y1;exact⟨r,e,f.imp id λq=>⟨q.1,by exact q.2,trivial⟩⟩) (λi hi y b y1=>by rw[jO,an ajo,ba hi,sb,bm ajo]) (λy=>by rw[jO,mg ajo]) l.length 0 ajo (k - (l.length:Int)) ajo ajo;rw[show((0:Nat):Int)=0 from rfl]at e;rw[e,sb];rcases c with rfl | ⟨z,rfl,z0,g,j⟩
  ·exact aiM
  ·rw[afZ]at g j;exact aiN
theorem M0 {x:bH} (h:x.Ok) {y:Int} (h0:0<=y) (h1:y<=1048576):∃v,qS x y=some v/\(v<0\/(0<=v/\v+(uG x:Nat)<=y)):=by
 unfold qS;obtain⟨c,e2,a⟩:=xB h.h0 (k:=y) ajo ajo;rw[e2,sb];rcases a with a | ⟨e,q2⟩
 ·rw[an a];exact⟨_,rfl,.inl ajp⟩
 rw[mg ajo];obtain⟨f,d,b⟩:=MZ h.h1 h.h2 (k:=c) ajo ajo;rw[d,sb];rcases b with b | ⟨g,q3⟩
 ·rw[an b];exact⟨_,rfl,.inl ajp⟩
 rw[mg ajo];exact⟨_,rfl,.inr ⟨by omega,by unfold uG;omega⟩⟩
theorem M1 {x:aD} (h:x.Ok) {y:Int} (h0:0<=y) (h1:y<=1048576):∃v,oE x y=some v/\(v<0\/(0<=v/\v+(fQ x:Nat)<=y)):=by
 unfold oE;obtain⟨b,e2,a⟩:=M0 h.h0 (y:=y) ajo ajo;rw[e2,sb];rcases a with a | ⟨c,q2⟩
 ·rw[an a];exact⟨_,rfl,.inl ajp⟩
 rw[mg ajo];exact⟨_,rfl,.inr ⟨by omega,by unfold fQ;omega⟩⟩
theorem KC {l:List aD} (hl:l.length<=9223372036854775807) (h:∀x∈l,aD.Ok x) {k:Int} (h0:0<=k) (h1:k<=1048576):∃v,pd l k=some v/\(v<0\/(0<=v/\v+(zS fQ l:Nat)<=k)):=by
 unfold pd;rw[mj h0 h1 hl];by_cases a:k - (l.length:Int)<0
 ·rw[an a];exact⟨_,rfl,.inl ajp⟩
 ·rw[mg a];obtain⟨o,e,c⟩:=rT (L:=iG l) l oE fQ (λ_=>True) ajo (λx d y b y1=>by obtain⟨r,e,f⟩:=M1 (h x d) b y1;exact⟨r,e,f.imp id λq=>⟨q.1,by exact q.2,trivial⟩⟩) (λi hi y b y1=>by rw[iG,an ajo,ba hi,sb,bm ajo]) (λy=>by rw[iG,mg ajo]) l.length 0 ajo (k - (l.length:Int)) ajo ajo;rw[show((0:Nat):Int)=0 from rfl]at e;rw[e,sb];rcases c with rfl | ⟨z,rfl,z0,g,j⟩
  ·exact aiM
  ·rw[afZ]at g j;exact aiN
theorem Px {x:bD} (h:x.Ok) {y:Int} (h0:0<=y) (h1:y<=1048576):∃v,sK x y=some v/\(v<0\/(0<=v/\v+(wj x:Nat)<=y)):=by
 unfold sK;obtain⟨c,b,a⟩:=KC h.h0 h.h1 (k:=y) ajo ajo;rw[b,sb];rcases a with a | ⟨d,q1⟩
 ·rw[an a];exact⟨_,rfl,.inl ajp⟩
 rw[mg ajo];exact⟨_,rfl,.inr ⟨by omega,by unfold wj;omega⟩⟩
theorem H5 {x:aF} (h:x.Ok) {y:Int} (h0:0<=y) (h1:y<=1048576):∃v,kU x y=some v/\(v<0\/(0<=v/\v+(dV x:Nat)<=y)):=by
 unfold kU;rw[mj (y:=y) ajo ajo h.h0];by_cases b:y - (x.cu.length:Int)<0
 ·rw[an b];exact⟨_,rfl,.inl ajp⟩
 rw[mg b];obtain⟨c,e2,a⟩:=qF _ x.av (abF _) h.h1 (y - (x.cu.length:Int)) ajo ajo;rw[e2,sb];rcases a with a | ⟨d,q2⟩
 ·rw[an a];exact⟨_,rfl,.inl ajp⟩
 rw[mg ajo];exact⟨_,rfl,.inr ⟨by omega,by unfold dV zV;omega⟩⟩
theorem Fx {l:List aF} (hl:l.length<=9223372036854775807) (h:∀x∈l,aF.Ok x) {k:Int} (h0:0<=k) (h1:k<=1048576):∃v,lI l k=some v/\(v<0\/(0<=v/\v+(zS dV l:Nat)<=k)):=by
 unfold lI;rw[mj h0 h1 hl];by_cases a:k - (l.length:Int)<0
 ·rw[an a];exact⟨_,rfl,.inl ajp⟩
 ·rw[mg a];obtain⟨o,e,c⟩:=rT (L:=fU l) l kU dV (λ_=>True) ajo (λx d y b y1=>by obtain⟨r,e,f⟩:=H5 (h x d) b y1;exact⟨r,e,f.imp id λq=>⟨q.1,by exact q.2,trivial⟩⟩) (λi hi y b y1=>by rw[fU,an ajo,ba hi,sb,bm ajo]) (λy=>by rw[fU,mg ajo]) l.length 0 ajo (k - (l.length:Int)) ajo ajo;rw[show((0:Nat):Int)=0 from rfl]at e;rw[e,sb];rcases c with rfl | ⟨z,rfl,z0,g,j⟩
  ·exact aiM
  ·rw[afZ]at g j;exact aiN
theorem KD {x:aO} (h:x.Ok) {y:Int} (h0:0<=y) (h1:y<=1048576):∃v,mD x y=some v/\(v<0\/(0<=v/\v+(fH x:Nat)<=y)):=by
 unfold mD;rw[mj (y:=y) ajo ajo h.h0];by_cases b:y - (x.eD.length:Int)<0
 ·rw[an b];exact⟨_,rfl,.inl ajp⟩
 rw[mg b];obtain⟨d,c,a⟩:=Fx h.h1 h.h2 (k:=(y - (x.eD.length:Int))) ajo ajo;rw[c,sb];rcases a with a | ⟨e,q3⟩
 ·rw[an a];exact⟨_,rfl,.inl ajp⟩
 rw[mg ajo];exact⟨_,rfl,.inr ⟨by omega,by unfold fH;omega⟩⟩
theorem H6 {l:List aO} (hl:l.length<=9223372036854775807) (h:∀x∈l,aO.Ok x) {k:Int} (h0:0<=k) (h1:k<=1048576):∃v,nu l k=some v/\(v<0\/(0<=v/\v+(zS fH l:Nat)<=k)):=by
 unfold nu;rw[mj h0 h1 hl];by_cases a:k - (l.length:Int)<0
 ·rw[an a];exact⟨_,rfl,.inl ajp⟩
 ·rw[mg a];obtain⟨o,e,c⟩:=rT (L:=gO l) l mD fH (λ_=>True) ajo (λx d y b y1=>by obtain⟨r,e,f⟩:=KD (h x d) b y1;exact⟨r,e,f.imp id λq=>⟨q.1,by exact q.2,trivial⟩⟩) (λi hi y b y1=>by rw[gO,an ajo,ba hi,sb,bm ajo]) (λy=>by rw[gO,mg ajo]) l.length 0 ajo (k - (l.length:Int)) ajo ajo;rw[show((0:Nat):Int)=0 from rfl]at e;rw[e,sb];rcases c with rfl | ⟨z,rfl,z0,g,j⟩
  ·exact aiM
  ·rw[afZ]at g j;exact aiN
theorem H7 {x:aH} (h:x.Ok) {y:Int} (h0:0<=y) (h1:y<=1048576):∃v,kV x y=some v/\(v<0\/(0<=v/\v+(dW x:Nat)<=y)):=by
 unfold kV;obtain⟨a,e2,b⟩:=xB h.h0 (k:=y) ajo ajo;rw[e2,sb];rcases b with b | ⟨e,q2⟩
 ·rw[an b];exact⟨_,rfl,.inl ajp⟩
 rw[mg ajo];rw[mj (y:=a) ajo ajo h.h1];by_cases c:a - (x.bx.length:Int)<0
 ·rw[an c];exact⟨_,rfl,.inl ajp⟩
 rw[mg c];rw[mj (y:=(a - (x.bx.length:Int))) ajo ajo h.h2];by_cases d:(a - (x.bx.length:Int)) - (x.aP.length:Int)<0
 ·rw[an d];exact⟨_,rfl,.inl ajp⟩
 rw[mg d];exact⟨_,rfl,.inr ⟨by omega,by unfold dW;omega⟩⟩
theorem Fy {l:List aH} (hl:l.length<=9223372036854775807) (h:∀x∈l,aH.Ok x) {k:Int} (h0:0<=k) (h1:k<=1048576):∃v,lJ l k=some v/\(v<0\/(0<=v/\v+(zS dW l:Nat)<=k)):=by
 unfold lJ;rw[mj h0 h1 hl];by_cases a:k - (l.length:Int)<0
 ·rw[an a];exact⟨_,rfl,.inl ajp⟩
 ·rw[mg a];obtain⟨o,e,c⟩:=rT (L:=fV l) l kV dW (λ_=>True) ajo (λx d y b y1=>by obtain⟨r,e,f⟩:=H7 (h x d) b y1;exact⟨r,e,f.imp id λq=>⟨q.1,by exact q.2,trivial⟩⟩) (λi hi y b y1=>by rw[fV,an ajo,ba hi,sb,bm ajo]) (λy=>by rw[fV,mg ajo]) l.length 0 ajo (k - (l.length:Int)) ajo ajo;rw[show((0:Nat):Int)=0 from rfl]at e;rw[e,sb];rcases c with rfl | ⟨z,rfl,z0,g,j⟩
  ·exact aiM
  ·rw[afZ]at g j;exact aiN
theorem Sr {x:bX} (h:x.Ok) {y:Int} (h0:0<=y) (h1:y<=1048576):∃v,sy x y=some v/\(v<0\/(0<=v/\v+(uH x:Nat)<=y)):=by
 unfold sy;obtain⟨b,e2,a⟩:=qF _ x.av (abF _) h.h0 y ajo ajo;rw[e2,sb];rcases a with a | ⟨c,q2⟩
 ·rw[an a];exact⟨_,rfl,.inl ajp⟩
 rw[mg ajo];exact⟨_,rfl,.inr ⟨by omega,by unfold uH zV;omega⟩⟩
theorem Py {l:List bX} (hl:l.length<=9223372036854775807) (h:∀x∈l,bX.Ok x) {k:Int} (h0:0<=k) (h1:k<=1048576):∃v,sL l k=some v/\(v<0\/(0<=v/\v+(zS uH l:Nat)<=k)):=by
 unfold sL;rw[mj h0 h1 hl];by_cases a:k - (l.length:Int)<0
 ·rw[an a];exact⟨_,rfl,.inl ajp⟩
 ·rw[mg a];obtain⟨o,e,c⟩:=rT (L:=kW l) l sy uH (λ_=>True) ajo (λx d y b y1=>by obtain⟨r,e,f⟩:=Sr (h x d) b y1;exact⟨r,e,f.imp id λq=>⟨q.1,by exact q.2,trivial⟩⟩) (λi hi y b y1=>by rw[kW,an ajo,ba hi,sb,bm ajo]) (λy=>by rw[kW,mg ajo]) l.length 0 ajo (k - (l.length:Int)) ajo ajo;rw[show((0:Nat):Int)=0 from rfl]at e;rw[e,sb];rcases c with rfl | ⟨z,rfl,z0,g,j⟩
  ·exact aiM
  ·rw[afZ]at g j;exact aiN
theorem Pz {x:bq} (h:x.Ok) {y:Int} (h0:0<=y) (h1:y<=1048576):∃v,qu x y=some v/\(v<0\/(0<=v/\v+(nT x:Nat)<=y)):=by
 unfold qu;rw[mj (y:=y) ajo ajo h.h0];by_cases d:y - (x.cu.length:Int)<0
 ·rw[an d];exact⟨_,rfl,.inl ajp⟩
 rw[mg d];rw[mj (y:=(y - (x.cu.length:Int))) ajo ajo h.h1];by_cases a:(y - (x.cu.length:Int)) - (x.bx.length:Int)<0
 ·rw[an a];exact⟨_,rfl,.inl ajp⟩
 rw[mg a];rw[mj (y:=((y - (x.cu.length:Int)) - (x.bx.length:Int))) ajo ajo h.h2];by_cases b:((y - (x.cu.length:Int)) - (x.bx.length:Int)) - (x.aP.length:Int)<0
 ·rw[an b];exact⟨_,rfl,.inl ajp⟩
 rw[mg b];obtain⟨e,f,c⟩:=xB h.h3 (k:=(((y - (x.cu.length:Int)) - (x.bx.length:Int)) - (x.aP.length:Int))) ajo ajo;rw[f,sb];rcases c with c | ⟨i,j⟩
 ·rw[an c];exact⟨_,rfl,.inl ajp⟩
 rw[mg ajo];obtain⟨l,g,c9⟩:=Py h.h4 h.h5 (k:=e) ajo ajo;rw[g,sb];rcases c9 with c9 | ⟨m,n⟩
 ·rw[an c9];exact⟨_,rfl,.inl ajp⟩
 rw[mg ajo];exact⟨_,rfl,.inr ⟨by omega,by unfold nT;omega⟩⟩
theorem M3 {l:List bq} (hl:l.length<=9223372036854775807) (h:∀x∈l,bq.Ok x) {k:Int} (h0:0<=k) (h1:k<=1048576):∃v,qU l k=some v/\(v<0\/(0<=v/\v+(zS nT l:Nat)<=k)):=by
 unfold qU;rw[mj h0 h1 hl];by_cases a:k - (l.length:Int)<0
 ·rw[an a];exact⟨_,rfl,.inl ajp⟩
 ·rw[mg a];obtain⟨o,e,c⟩:=rT (L:=jP l) l qu nT (λ_=>True) ajo (λx d y b y1=>by obtain⟨r,e,f⟩:=Pz (h x d) b y1;exact⟨r,e,f.imp id λq=>⟨q.1,by exact q.2,trivial⟩⟩) (λi hi y b y1=>by rw[jP,an ajo,ba hi,sb,bm ajo]) (λy=>by rw[jP,mg ajo]) l.length 0 ajo (k - (l.length:Int)) ajo ajo;rw[show((0:Nat):Int)=0 from rfl]at e;rw[e,sb];rcases c with rfl | ⟨z,rfl,z0,g,j⟩
  ·exact aiM
  ·rw[afZ]at g j;exact aiN
theorem Ss {x:bI} (h:x.Ok) {y:Int} (h0:0<=y) (h1:y<=1048576):∃v,sA x y=some v/\(v<0\/(0<=v/\v<=y)):=by
 unfold sA;rw[mj (y:=y) ajo ajo h.h0];by_cases a:y - (x.eD.length:Int)<0
 ·rw[an a];exact⟨_,rfl,.inl ajp⟩
 rw[mg a];exact ajm
theorem PA {l:List bI} (hl:l.length<=9223372036854775807) (h:∀x∈l,bI.Ok x) {k:Int} (h0:0<=k) (h1:k<=1048576):∃v,sM l k=some v/\(v<0\/(0<=v/\v+l.length<=k)):=by
 unfold sM;rw[mj h0 h1 hl];by_cases a:k - (l.length:Int)<0
 ·rw[an a];exact⟨_,rfl,.inl ajp⟩
 ·rw[mg a];obtain⟨o,e,c⟩:=rT (L:=kX l) l sA (λ_=>0) (λ_=>True) ajo (λx d y b y1=>by obtain⟨r,e,f⟩:=Ss (h x d) b y1;exact⟨r,e,f.imp id λq=>⟨q.1,by simpa using q.2,trivial⟩⟩) (λi hi y b y1=>by rw[kX,an ajo,ba hi,sb,bm ajo]) (λy=>by rw[kX,mg ajo]) l.length 0 ajo (k - (l.length:Int)) ajo ajo;rw[show((0:Nat):Int)=0 from rfl]at e;rw[e,sb];rcases c with rfl | ⟨z,rfl,z0,g,j⟩
  ·exact aiM
  ·rw[afZ]at g j;exact⟨_,rfl,.inr ⟨z0,by have m:=zU l;unfold zS at m;omega⟩⟩
theorem St {x:bU} (h:x.Ok) {y:Int} (h0:0<=y) (h1:y<=1048576):∃v,sB x y=some v/\(v<0\/(0<=v/\v+(uI x:Nat)<=y)):=by
 unfold sB;obtain⟨b,e2,a⟩:=qF _ x.av (abF _) h.h0 y ajo ajo;rw[e2,sb];rcases a with a | ⟨c,q2⟩
 ·rw[an a];exact⟨_,rfl,.inl ajp⟩
 rw[mg ajo];exact⟨_,rfl,.inr ⟨by omega,by unfold uI zV;omega⟩⟩
theorem PB {l:List bU} (hl:l.length<=9223372036854775807) (h:∀x∈l,bU.Ok x) {k:Int} (h0:0<=k) (h1:k<=1048576):∃v,sO l k=some v/\(v<0\/(0<=v/\v+(zS uI l:Nat)<=k)):=by
 unfold sO;rw[mj h0 h1 hl];by_cases a:k - (l.length:Int)<0
 ·rw[an a];exact⟨_,rfl,.inl ajp⟩
 ·rw[mg a];obtain⟨o,e,c⟩:=rT (L:=kY l) l sB uI (λ_=>True) ajo (λx d y b y1=>by obtain⟨r,e,f⟩:=St (h x d) b y1;exact⟨r,e,f.imp id λq=>⟨q.1,by exact q.2,trivial⟩⟩) (λi hi y b y1=>by rw[kY,an ajo,ba hi,sb,bm ajo]) (λy=>by rw[kY,mg ajo]) l.length 0 ajo (k - (l.length:Int)) ajo ajo;rw[show((0:Nat):Int)=0 from rfl]at e;rw[e,sb];rcases c with rfl | ⟨z,rfl,z0,g,j⟩
  ·exact aiM
  ·rw[afZ]at g j;exact aiN
theorem DT {x:aX} (h:x.Ok) {y:Int} (h0:0<=y) (h1:y<=1048576):∃v,lK x y=some v/\(v<0\/(0<=v/\v+(il x:Nat)<=y)):=by
 unfold lK;obtain⟨j,l,d⟩:=xB h.h0 (k:=y) ajo ajo;rw[l,sb];rcases d with d | ⟨t,q3⟩
 ·rw[an d];exact⟨_,rfl,.inl ajp⟩
 rw[mg ajo];obtain⟨m,n,e⟩:=Bt h.h1 h.h2 (k:=j) ajo ajo;rw[n,sb];rcases e with e | ⟨u,q4⟩
 ·rw[an e];exact⟨_,rfl,.inl ajp⟩
 rw[mg ajo];obtain⟨o,p,f⟩:=M3 h.h3 h.h4 (k:=m) ajo ajo;rw[p,sb];rcases f with f | ⟨w,z⟩
 ·rw[an f];exact⟨_,rfl,.inl ajp⟩
 rw[mg ajo];obtain⟨q,r,g⟩:=PA h.h5 h.h6 (k:=o) ajo ajo;rw[r,sb];rcases g with g | ⟨A,B⟩
 ·rw[an g];exact⟨_,rfl,.inl ajp⟩
 rw[mg ajo];obtain⟨c,s,i⟩:=PB h.h7 h.h8 (k:=q) ajo ajo;rw[s,sb];rcases i with i | ⟨C,D⟩
 ·rw[an i];exact⟨_,rfl,.inl ajp⟩
 rw[mg ajo];rw[mj (y:=c) ajo ajo h.h9];by_cases a:c - (x.bx.length:Int)<0
 ·rw[an a];exact⟨_,rfl,.inl ajp⟩
 rw[mg a];rw[mj (y:=(c - (x.bx.length:Int))) ajo ajo h.T9];by_cases b:(c - (x.bx.length:Int)) - (x.aP.length:Int)<0
 ·rw[an b];exact⟨_,rfl,.inl ajp⟩
 rw[mg b];exact⟨_,rfl,.inr ⟨by omega,by unfold il;omega⟩⟩
theorem Su {x:ca} (h:x.Ok) {y:Int} (h0:0<=y) (h1:y<=1048576):∃v,sC x y=some v/\(v<0\/(0<=v/\v+(uJ x:Nat)<=y)):=by
 unfold sC;obtain⟨c,e2,a⟩:=qF _ x.aK (abF _) h.h0 y ajo ajo;rw[e2,sb];rcases a with a | ⟨e,q2⟩
 ·rw[an a];exact⟨_,rfl,.inl ajp⟩
 rw[mg ajo];obtain⟨f,d,b⟩:=DT h.h1 (y:=c) ajo ajo;rw[d,sb];rcases b with b | ⟨g,q3⟩
 ·rw[an b];exact⟨_,rfl,.inl ajp⟩
 rw[mg ajo];exact⟨_,rfl,.inr ⟨by omega,by unfold uJ zV;omega⟩⟩
theorem PC {l:List ca} (hl:l.length<=9223372036854775807) (h:∀x∈l,ca.Ok x) {k:Int} (h0:0<=k) (h1:k<=1048576):∃v,sP l k=some v/\(v<0\/(0<=v/\v+(zS uJ l:Nat)<=k)):=by
 unfold sP;rw[mj h0 h1 hl];by_cases a:k - (l.length:Int)<0
 ·rw[an a];exact⟨_,rfl,.inl ajp⟩
 ·rw[mg a];obtain⟨o,e,c⟩:=rT (L:=kZ l) l sC uJ (λ_=>True) ajo (λx d y b y1=>by obtain⟨r,e,f⟩:=Su (h x d) b y1;exact⟨r,e,f.imp id λq=>⟨q.1,by exact q.2,trivial⟩⟩) (λi hi y b y1=>by rw[kZ,an ajo,ba hi,sb,bm ajo]) (λy=>by rw[kZ,mg ajo]) l.length 0 ajo (k - (l.length:Int)) ajo ajo;rw[show((0:Nat):Int)=0 from rfl]at e;rw[e,sb];rcases c with rfl | ⟨z,rfl,z0,g,j⟩
  ·exact aiM
  ·rw[afZ]at g j;exact aiN
theorem KE {l:List aX} (hl:l.length<=9223372036854775807) (h:∀x∈l,aX.Ok x) {k:Int} (h0:0<=k) (h1:k<=1048576):∃v,pf l k=some v/\(v<0\/(0<=v/\v+(zS il l:Nat)<=k)):=by
 unfold pf;rw[mj h0 h1 hl];by_cases a:k - (l.length:Int)<0
 ·rw[an a];exact⟨_,rfl,.inl ajp⟩
 ·rw[mg a];obtain⟨o,e,c⟩:=rT (L:=iH l) l lK il (λ_=>True) ajo (λx d y b y1=>by obtain⟨r,e,f⟩:=DT (h x d) b y1;exact⟨r,e,f.imp id λq=>⟨q.1,by exact q.2,trivial⟩⟩) (λi hi y b y1=>by rw[iH,an ajo,ba hi,sb,bm ajo]) (λy=>by rw[iH,mg ajo]) l.length 0 ajo (k - (l.length:Int)) ajo ajo;rw[show((0:Nat):Int)=0 from rfl]at e;rw[e,sb];rcases c with rfl | ⟨z,rfl,z0,g,j⟩
  ·exact aiM
  ·rw[afZ]at g j;exact aiN
theorem KF {x:ay} (h:x.Ok) {y:Int} (h0:0<=y) (h1:y<=1048576):∃v,mE x y=some v/\(v<0\/(0<=v/\v<=y/\ay.Tx x)):=by
 unfold mE;rw[mj (y:=y) ajo ajo h.h0];by_cases a:y - (x.cu.length:Int)<0
 ·rw[an a];exact⟨_,rfl,.inl ajp⟩
 rw[mg a];rw[mj (y:=(y - (x.cu.length:Int))) ajo ajo h.h1];by_cases b:(y - (x.cu.length:Int)) - (x.rz.length:Int)<0
 ·rw[an b];exact⟨_,rfl,.inl ajp⟩
 rw[mg b];exact⟨_,rfl,.inr ⟨by omega,by omega,⟨by omega,by omega⟩⟩⟩
theorem H8 {l:List ay} (hl:l.length<=9223372036854775807) (h:∀x∈l,ay.Ok x) {k:Int} (h0:0<=k) (h1:k<=1048576):∃v,nv l k=some v/\(v<0\/(0<=v/\v+l.length<=k/\∀x∈l,ay.Tx x)):=by
 unfold nv;rw[mj h0 h1 hl];by_cases a:k - (l.length:Int)<0
 ·rw[an a];exact⟨_,rfl,.inl ajp⟩
 ·rw[mg a];obtain⟨o,e,d⟩:=rT (L:=gP l) l mE (λ_=>0) ay.Tx ajo (λx f y b y1=>by obtain⟨r,e,g⟩:=KF (h x f) b y1;exact⟨r,e,g.imp id λq=>⟨q.1,by simpa using q.2.1,q.2.2⟩⟩) (λi hi y b y1=>by rw[gP,an ajo,ba hi,sb,bm ajo]) (λy=>by rw[gP,mg ajo]) l.length 0 ajo (k - (l.length:Int)) ajo ajo;rw[show((0:Nat):Int)=0 from rfl]at e;rw[e,sb];rcases d with rfl | ⟨z,rfl,z0,j,c⟩
  ·exact aiM
  ·rw[afZ]at j c;exact⟨_,rfl,.inr ⟨z0,by have m:=zU l;unfold zS at m;omega,c⟩⟩
theorem KG {x:aC} (h:x.Ok) {y:Int} (h0:0<=y) (h1:y<=1048576):∃v,mF x y=some v/\(v<0\/(0<=v/\v<=y/\aC.Tx x)):=by
 unfold mF;rw[mj (y:=y) ajo ajo h.h0];by_cases a:y - (x.bO.length:Int)<0
 ·rw[an a];exact⟨_,rfl,.inl ajp⟩
 rw[mg a];exact⟨_,rfl,.inr ⟨by omega,by omega,⟨by omega⟩⟩⟩
theorem H9 {l:List aC} (hl:l.length<=9223372036854775807) (h:∀x∈l,aC.Ok x) {k:Int} (h0:0<=k) (h1:k<=1048576):∃v,ny l k=some v/\(v<0\/(0<=v/\v+l.length<=k/\∀x∈l,aC.Tx x)):=by
 unfold ny;rw[mj h0 h1 hl];by_cases a:k - (l.length:Int)<0
 ·rw[an a];exact⟨_,rfl,.inl ajp⟩
 ·rw[mg a];obtain⟨o,e,d⟩:=rT (L:=gQ l) l mF (λ_=>0) aC.Tx ajo (λx f y b y1=>by obtain⟨r,e,g⟩:=KG (h x f) b y1;exact⟨r,e,g.imp id λq=>⟨q.1,by simpa using q.2.1,q.2.2⟩⟩) (λi hi y b y1=>by rw[gQ,an ajo,ba hi,sb,bm ajo]) (λy=>by rw[gQ,mg ajo]) l.length 0 ajo (k - (l.length:Int)) ajo ajo;rw[show((0:Nat):Int)=0 from rfl]at e;rw[e,sb];rcases d with rfl | ⟨z,rfl,z0,j,c⟩
  ·exact aiM
  ·rw[afZ]at j c;exact⟨_,rfl,.inr ⟨z0,by have m:=zU l;unfold zS at m;omega,c⟩⟩
theorem KH {x:aR} (h:x.Ok) {y:Int} (h0:0<=y) (h1:y<=1048576):∃v,pg x y=some v/\(v<0\/(0<=v/\v+(oa x:Nat)<=y/\aR.Tx x)):=by
 unfold pg;rw[mj (y:=y) ajo ajo h.h0];by_cases c:y - (x.cm.length:Int)<0
 ·rw[an c];exact⟨_,rfl,.inl ajp⟩
 rw[mg c];obtain⟨d,e2,a⟩:=H8 h.h1 h.h2 (k:=(y - (x.cm.length:Int))) ajo ajo;rw[e2,sb];rcases a with a | ⟨g,q2,t2⟩
 ·rw[an a];exact⟨_,rfl,.inl ajp⟩
 rw[mg ajo];obtain⟨i,e,b⟩:=H9 h.h3 h.h4 (k:=d) ajo ajo;rw[e,sb];rcases b with b | ⟨j,q3,f⟩
 ·rw[an b];exact⟨_,rfl,.inl ajp⟩
 rw[mg ajo];exact⟨_,rfl,.inr ⟨by omega,by unfold oa;omega,⟨by omega,t2,f⟩⟩⟩
theorem Ia {x:bJ} (h:x.Ok) {y:Int} (h0:0<=y) (h1:y<=1048576):∃v,nz x y=some v/\(v<0\/(0<=v/\v+(mi x:Nat)<=y/\bJ.Tx x)):=by
 unfold nz;rw[mj (y:=y) ajo ajo h.h0];by_cases p:y - (x.bA.length:Int)<0
 ·rw[an p];exact⟨_,rfl,.inl ajp⟩
 rw[mg p];obtain⟨q,r,c⟩:=Bt h.h1 h.h2 (k:=(y - (x.bA.length:Int))) ajo ajo;rw[r,sb];rcases c with c | ⟨J,K⟩
 ·rw[an c];exact⟨_,rfl,.inl ajp⟩
 rw[mg ajo];obtain⟨s,t,d⟩:=KA h.h3 h.h4 (k:=q) ajo ajo;rw[t,sb];rcases d with d | ⟨L,M⟩
 ·rw[an d];exact⟨_,rfl,.inl ajp⟩
 rw[mg ajo];obtain⟨u,w,e⟩:=Px h.h5 (y:=s) ajo ajo;rw[w,sb];rcases e with e | ⟨N,O⟩
 ·rw[an e];exact⟨_,rfl,.inl ajp⟩
 rw[mg ajo];obtain⟨z,A,f⟩:=H6 h.h6 h.h7 (k:=u) ajo ajo;rw[A,sb];rcases f with f | ⟨P,Q⟩
 ·rw[an f];exact⟨_,rfl,.inl ajp⟩
 rw[mg ajo];obtain⟨B,C,c9⟩:=Fy h.h8 h.h9 (k:=z) ajo ajo;rw[C,sb];rcases c9 with c9 | ⟨R,S⟩
 ·rw[an c9];exact⟨_,rfl,.inl ajp⟩
 rw[mg ajo];obtain⟨g,i,j⟩:=PC h.T9 h.Xm (k:=B) ajo ajo;rw[i,sb];rcases j with j | ⟨D,T⟩
 ·rw[an j];exact⟨_,rfl,.inl ajp⟩
 rw[mg ajo];obtain⟨l,m,a⟩:=KE h.h12 h.h13 (k:=g) ajo ajo;rw[m,sb];rcases a with a | ⟨E,F⟩
 ·rw[an a];exact⟨_,rfl,.inl ajp⟩
 rw[mg ajo];obtain⟨G,n,b⟩:=KH h.h14 (y:=l) ajo ajo;rw[n,sb];rcases b with b | ⟨H,I,o⟩
 ·rw[an b];exact⟨_,rfl,.inl ajp⟩
 rw[mg ajo];exact⟨_,rfl,.inr ⟨by omega,by unfold mi;omega,⟨by omega,o⟩⟩⟩
theorem iw {α:Type} (a:List α) {L:List α->Int->Option (List α)} (hs:∀(l:List α) (k:Nat) (h:k<a.length),l.length=a.length->L l (k:Int)=L (l.set k a[k]) ((k+1:Nat):Int))
  (he:∀l,L l (a.length:Int)=some l):∀(f k:Nat) (l:List α),a.length<=k+f->k<=a.length->l.length=a.length->(∀j,j<k->l[j]? =a[j]?)->L l (k:Int)=some a
 | f,k,l,hf,hk,hl,hj=>by
  by_cases hc:k<a.length
  ·obtain⟨g,rfl⟩:∃g,f=g+1:=⟨f - 1,by omega⟩;rw[hs l k hc hl];refine iw a hs he g (k+1) _ ajo ajo (by rw[agW];exact hl) (λj b=>?_);rw[ahh];by_cases h:k=j
   ·subst h;rw[an rfl,an ajo,No hc]
   ·rw[mg h];exact hj j ajo
  ·have:k=a.length:=by omega
   subst this;rw[he l];congr 1;refine ahE λj=>?_;by_cases h:j<a.length
   ·exact hj j h
   ·rw[agf ajo,agf ajo]
theorem mk_eq {α:Type} [Inhabited α] {b n:Nat} (a:n<=2000000) (hb:b<=1000):(fF b (n:Int) (n:Int):Option (List α))=some (List.replicate n default):=by
 unfold fF;have:n*b<=2000000*1000:=Nat.mul_le_mul a hb;rw[an ⟨by omega,by omega,by omega,by simp only[afT];omega⟩];rfl
theorem qG:∀(n:Nat),n<=2000000->∀v:ai,v.wt<=n->eZ v=some v:=by
 intro n;induction n with
 | zero=>intro _ v hv;have:=qE v;omega
 | succ n a=>
  intro c v hv;have b:=v.kP;have d:=vG v.aj
  have e:=iw v.aj (L:=iW v.aj) (λl k hk hl=>by
   have f:=sf _ _ (afQ hk)
   have he:ue v.aj[k]=some v.aj[k]:=by
    rw[ue,a ajo _ ajo,sb];cases v.aj[k];rfl
   rw[iW,an ajo,ba hk,sb,he,sb,ba ajo,sb,bm ajo];rfl) (λl=>by rw[iW,mg ajo]) v.aj.length 0 (List.replicate v.aj.length default) ajo ajo ajq (λj h=>absurd h ajo)
  rw[show((0:Nat):Int)=0 from rfl]at e;rw[eZ,vB,mk_eq ajo ajo,sb,e,sb,sb];cases v;rfl
theorem Bu (a:List ai) (h:zS zV a<=1999999):mO a=some a:=by
 have b:=db (z:=zV) a;unfold mO;have e:=iw a (L:=iX a) (λl k hk hl=>by rw[iX,an ajo,ba hk,sb,qG 2000000 (abF _) _ (by have c:=cR (z:=zV) (afQ hk);have hw:=LL (a[k]'hk);omega),sb,ba ajo,sb,bm ajo];rfl) (λl=>by rw[iX,mg ajo]) a.length 0 (List.replicate a.length default) ajo ajo ajq (λj h=>absurd h ajo);rw[show((0:Nat):Int)=0 from rfl]at e;rw[mk_eq ajo ajo,sb,e];rfl
theorem KI (a:List bc) (h:a.length<=1999999):pL a=some a:=by
 unfold pL;have e:=iw a (L:=iY a) (λl k hk hl=>by rw[iY,an ajo,ba hk,sb,ba ajo,sb,bm ajo];rfl) (λl=>by rw[iY,mg ajo]) a.length 0 (List.replicate a.length default) ajo ajo ajq (λj h=>absurd h ajo);rw[show((0:Nat):Int)=0 from rfl]at e;rw[mk_eq ajo ajo,sb,e];rfl
theorem xC (a:List Int) (h:a.length<=1999999):ma a=some a:=by
 unfold ma;have e:=iw a (L:=lk a) (λl k hk hl=>by rw[lk,an ajo,ba hk,sb,ba ajo,sb,bm ajo];rfl) (λl=>by rw[lk,mg ajo]) a.length 0 (List.replicate a.length default) ajo ajo ajq (λj h=>absurd h ajo);rw[show((0:Nat):Int)=0 from rfl]at e;rw[mk_eq ajo ajo,sb,e];rfl
theorem PD (x:aS) (h:kr x<=1999999):tr x=some x:=by
 unfold kr at h;unfold tr;simp only[qG 2000000 (abF _) x.av (agq (LL x.av) ajo),sb]
theorem M4 (a:List aS) (h:zS kr a<=1999999):rj a=some a:=by
 have b:=db (z:=kr) a;unfold rj;have e:=iw a (L:=kc a) (λl k hk hl=>by rw[kc,an ajo,ba hk,sb,PD _ (by have c:=cR (z:=kr) (afQ hk);omega),sb,ba ajo,sb,bm ajo];rfl) (λl=>by rw[kc,mg ajo]) a.length 0 (List.replicate a.length default) ajo ajo ajq (λj h=>absurd h ajo);rw[show((0:Nat):Int)=0 from rfl]at e;rw[mk_eq ajo ajo,sb,e];rfl
theorem M5 (x:bH) (h:uG x<=1999999):rk x=some x:=by
 unfold uG at h;unfold rk;simp only[xC x.aG ajo,M4 x.ak ajo,sb]
theorem M6 (x:aD) (h:fQ x<=1999999):rl x=some x:=by
 unfold fQ at h;unfold rl;simp only[M5 x.ax ajo,sb]
theorem KJ (a:List aD) (h:zS fQ a<=1999999):pM a=some a:=by
 have b:=db (z:=fQ) a;unfold pM;have e:=iw a (L:=iZ a) (λl k hk hl=>by rw[iZ,an ajo,ba hk,sb,M6 _ (by have c:=cR (z:=fQ) (afQ hk);omega),sb,ba ajo,sb,bm ajo];rfl) (λl=>by rw[iZ,mg ajo]) a.length 0 (List.replicate a.length default) ajo ajo ajq (λj h=>absurd h ajo);rw[show((0:Nat):Int)=0 from rfl]at e;rw[mk_eq ajo ajo,sb,e];rfl
theorem PE (x:bD) (h:wj x<=1999999):tt x=some x:=by
 unfold wj at h;unfold tt;simp only[KJ x.aw ajo,sb]
theorem Ib (x:aF) (h:dV x<=1999999):nN x=some x:=by
 unfold dV at h;unfold nN;simp only[qG 2000000 (abF _) x.av (agq (LL x.av) ajo),sb]
theorem FA (a:List aF) (h:zS dV a<=1999999):mb a=some a:=by
 have b:=db (z:=dV) a;unfold mb;have e:=iw a (L:=gg a) (λl k hk hl=>by rw[gg,an ajo,ba hk,sb,Ib _ (by have c:=cR (z:=dV) (afQ hk);omega),sb,ba ajo,sb,bm ajo];rfl) (λl=>by rw[gg,mg ajo]) a.length 0 (List.replicate a.length default) ajo ajo ajq (λj h=>absurd h ajo);rw[show((0:Nat):Int)=0 from rfl]at e;rw[mk_eq ajo ajo,sb,e];rfl
theorem KK (x:aO) (h:fH x<=1999999):pN x=some x:=by
 unfold fH at h;unfold pN;simp only[FA x.cJ ajo,sb]
theorem Ic (a:List aO) (h:zS fH a<=1999999):nO a=some a:=by
 have b:=db (z:=fH) a;unfold nO;have e:=iw a (L:=gY a) (λl k hk hl=>by rw[gY,an ajo,ba hk,sb,KK _ (by have c:=cR (z:=fH) (afQ hk);omega),sb,ba ajo,sb,bm ajo];rfl) (λl=>by rw[gY,mg ajo]) a.length 0 (List.replicate a.length default) ajo ajo ajq (λj h=>absurd h ajo);rw[show((0:Nat):Int)=0 from rfl]at e;rw[mk_eq ajo ajo,sb,e];rfl
theorem Ie (x:aH) (h:dW x<=1999999):nP x=some x:=by
 unfold dW at h;unfold nP;simp only[xC x.bh ajo,sb]
theorem FB (a:List aH) (h:zS dW a<=1999999):me a=some a:=by
 have b:=db (z:=dW) a;unfold me;have e:=iw a (L:=gl a) (λl k hk hl=>by rw[gl,an ajo,ba hk,sb,Ie _ (by have c:=cR (z:=dW) (afQ hk);omega),sb,ba ajo,sb,bm ajo];rfl) (λl=>by rw[gl,mg ajo]) a.length 0 (List.replicate a.length default) ajo ajo ajq (λj h=>absurd h ajo);rw[show((0:Nat):Int)=0 from rfl]at e;rw[mk_eq ajo ajo,sb,e];rfl
theorem Sv (x:bX) (h:uH x<=1999999):u7 x=some x:=by
 unfold uH at h;unfold u7;simp only[qG 2000000 (abF _) x.av (agq (LL x.av) ajo),sb]
theorem PF (a:List bX) (h:zS uH a<=1999999):tu a=some a:=by
 have b:=db (z:=uH) a;unfold tu;have e:=iw a (L:=ll a) (λl k hk hl=>by rw[ll,an ajo,ba hk,sb,Sv _ (by have c:=cR (z:=uH) (afQ hk);omega),sb,ba ajo,sb,bm ajo];rfl) (λl=>by rw[ll,mg ajo]) a.length 0 (List.replicate a.length default) ajo ajo ajq (λj h=>absurd h ajo);rw[show((0:Nat):Int)=0 from rfl]at e;rw[mk_eq ajo ajo,sb,e];rfl
theorem PG (x:bq) (h:nT x<=1999999):tv x=some x:=by
 unfold nT at h;unfold tv;simp only[xC x.bh ajo,PF x.fArgs ajo,sb]
theorem M7 (a:List bq) (h:zS nT a<=1999999):rm a=some a:=by
 have b:=db (z:=nT) a;unfold rm;have e:=iw a (L:=ke a) (λl k hk hl=>by rw[ke,an ajo,ba hk,sb,PG _ (by have c:=cR (z:=nT) (afQ hk);omega),sb,ba ajo,sb,bm ajo];rfl) (λl=>by rw[ke,mg ajo]) a.length 0 (List.replicate a.length default) ajo ajo ajq (λj h=>absurd h ajo);rw[show((0:Nat):Int)=0 from rfl]at e;rw[mk_eq ajo ajo,sb,e];rfl
theorem PH (a:List bI) (h:a.length<=1999999):tz a=some a:=by
 unfold tz;have e:=iw a (L:=lp a) (λl k hk hl=>by rw[lp,an ajo,ba hk,sb,ba ajo,sb,bm ajo];rfl) (λl=>by rw[lp,mg ajo]) a.length 0 (List.replicate a.length default) ajo ajo ajq (λj h=>absurd h ajo);rw[show((0:Nat):Int)=0 from rfl]at e;rw[mk_eq ajo ajo,sb,e];rfl
theorem Sw (x:bU) (h:uI x<=1999999):u9 x=some x:=by
 unfold uI at h;unfold u9;simp only[qG 2000000 (abF _) x.av (agq (LL x.av) ajo),sb]
theorem PI (a:List bU) (h:zS uI a<=1999999):tA a=some a:=by
 have b:=db (z:=uI) a;unfold tA;have e:=iw a (L:=lr a) (λl k hk hl=>by rw[lr,an ajo,ba hk,sb,Sw _ (by have c:=cR (z:=uI) (afQ hk);omega),sb,ba ajo,sb,bm ajo];rfl) (λl=>by rw[lr,mg ajo]) a.length 0 (List.replicate a.length default) ajo ajo ajq (λj h=>absurd h ajo);rw[show((0:Nat):Int)=0 from rfl]at e;rw[mk_eq ajo ajo,sb,e];rfl
theorem DU (x:aX) (h:il x<=1999999):oL x=some x:=by
 unfold il at h;unfold oL;simp only[xC x.ak ajo,Bu x.bf ajo,M7 x.aY ajo,PH x.aQ ajo,PI x.bC ajo,sb]
theorem Sx (x:ca) (h:uJ x<=1999999):va x=some x:=by
 unfold uJ at h;unfold va;simp only[qG 2000000 (abF _) x.aK (agq (LL x.aK) ajo),DU x.ae ajo,sb]
theorem PJ (a:List ca) (h:zS uJ a<=1999999):tB a=some a:=by
 have b:=db (z:=uJ) a;unfold tB;have e:=iw a (L:=lu a) (λl k hk hl=>by rw[lu,an ajo,ba hk,sb,Sx _ (by have c:=cR (z:=uJ) (afQ hk);omega),sb,ba ajo,sb,bm ajo];rfl) (λl=>by rw[lu,mg ajo]) a.length 0 (List.replicate a.length default) ajo ajo ajq (λj h=>absurd h ajo);rw[show((0:Nat):Int)=0 from rfl]at e;rw[mk_eq ajo ajo,sb,e];rfl
theorem KL (a:List aX) (h:zS il a<=1999999):pO a=some a:=by
 have b:=db (z:=il) a;unfold pO;have e:=iw a (L:=ja a) (λl k hk hl=>by rw[ja,an ajo,ba hk,sb,DU _ (by have c:=cR (z:=il) (afQ hk);omega),sb,ba ajo,sb,bm ajo];rfl) (λl=>by rw[ja,mg ajo]) a.length 0 (List.replicate a.length default) ajo ajo ajq (λj h=>absurd h ajo);rw[show((0:Nat):Int)=0 from rfl]at e;rw[mk_eq ajo ajo,sb,e];rfl
theorem Ig (a:List ay) (h:a.length<=1999999):nQ a=some a:=by
 unfold nQ;have e:=iw a (L:=gZ a) (λl k hk hl=>by rw[gZ,an ajo,ba hk,sb,ba ajo,sb,bm ajo];rfl) (λl=>by rw[gZ,mg ajo]) a.length 0 (List.replicate a.length default) ajo ajo ajq (λj h=>absurd h ajo);rw[show((0:Nat):Int)=0 from rfl]at e;rw[mk_eq ajo ajo,sb,e];rfl
theorem Ih (a:List aC) (h:a.length<=1999999):nR a=some a:=by
 unfold nR;have e:=iw a (L:=hC a) (λl k hk hl=>by rw[hC,an ajo,ba hk,sb,ba ajo,sb,bm ajo];rfl) (λl=>by rw[hC,mg ajo]) a.length 0 (List.replicate a.length default) ajo ajo ajq (λj h=>absurd h ajo);rw[show((0:Nat):Int)=0 from rfl]at e;rw[mk_eq ajo ajo,sb,e];rfl
theorem KM (x:aR) (h:oa x<=1999999):pP x=some x:=by
 unfold oa at h;unfold pP;simp only[Ig x.az ajo,Ih x.ao ajo,sb]
theorem Ii (x:bJ) (h:mi x<=1999999):eC x=some x:=by
 unfold mi at h;unfold eC;simp only[Bu x.dB ajo,KI x.cj ajo,PE x.ko ajo,Ic x.dw ajo,FB x.cU ajo,PJ x.lz ajo,KL x.ew ajo,KM x.fq ajo,sb]
def sg (c:Nat->Bool) (k n:Nat):Bool:=(List.range' k (n - k)).all c
theorem xd {c:Nat->Bool} {k n:Nat}:sg c k n=true↔∀i,k<=i->i<n->c i=true:=by
 unfold sg;rw[afS];constructor
 ·intro h i h1 h2;exact h i (List.mem_range'_1.2 ⟨h1,by omega⟩)
 ·intro h i hi;have:=List.mem_range'_1.1 hi;exact h i this.1 ajo
theorem KN {c:Nat->Bool} {n:Nat}:sg c n n=true:=by unfold sg;simp
theorem PK {c:Nat->Bool} {k n:Nat} (h:k<n):sg c k n=(c k&&sg c (k+1) n):=by
 unfold sg;rw[show n - k=(n - (k+1))+1 by omega,List.range'_succ,ahu]
theorem AZ {σ R:Type} {L:σ->Int->Option R} (c:Nat->Bool) (n:Nat) (T F:R) (I:σ->Nat->Prop)
  (hs:∀s k,k<n->I s k->(c k=true->∃a,I a (k+1)/\L s (k:Int)=L a ((k+1:Nat):Int))/\(c k=false->L s (k:Int)=some F))
  (he:∀s,I s n->L s (n:Int)=some T):∀(f k:Nat) (s:σ),n<=k+f->k<=n->I s k->L s (k:Int)=some (if sg c k n=true then T else F)
 | f,k,s,hf,hk,hi=>by
  by_cases hc:k<n
  ·obtain⟨g,rfl⟩:∃g,f=g+1:=⟨f - 1,by omega⟩;obtain⟨h1,h2⟩:=hs s k hc hi;rw[PK hc];cases b:c k
   ·rw[h2 b,ahN,mg ajq]
   ·obtain⟨a,q1,q2⟩:=h1 b;rw[q2,ahw];exact AZ c n T F I hs he g (k+1) a ajo ajo q1
  ·have:k=n:=by omega
   subst this;rw[he s hi,an KN]
theorem vJ {R:Type} {L:Int->Option R} (c:Nat->Bool) (n:Nat) (T F:R)
  (hs:∀k,k<n->(c k=true->L (k:Int)=L ((k+1:Nat):Int))/\(c k=false->L (k:Int)=some F))
  (he:L (n:Int)=some T):L 0=some (if sg c 0 n=true then T else F):=
 AZ (σ:=Unit) (L:=λ_=>L) c n T F (λ_ _=>True) (λs k hk _=>⟨λh=>⟨(),trivial,(hs k hk).1 h⟩,(hs k hk).2⟩) (λ_ _=>he) n 0 () ajo (agt _) trivial
theorem YY {v:ai} (hv:v.wt<=2000000):qW v=some (decide (v.kw<=200)&&v.PL):=by
 unfold qW;rw[Gn _ (abF _) v hv,sb,yn _ (abF _) v hv];by_cases h:v.kw<=200
 ·rw[an ajo,sb,afU h];rfl
 ·rw[mg ajo,afV h];rfl
theorem Om (n:Nat) (a:n<=2000000) (l1:List Int) (h1:l1.length=n):∀(f k:Nat) (l:List Int),n<=k+f->k<=n->l.length=n->(∀j,j<k->l[j]? =some (-1))->
  lM l1 l (k:Int)=some (List.replicate n (-1))
 | f,k,l,hf,hk,hl,hj=>by
  rw[lM];by_cases hc:k<n
  ·obtain⟨g,rfl⟩:∃g,f=g+1:=⟨f - 1,by omega⟩;rw[an ajo,ba ajo,sb,bm ajo,afT];refine Om n a l1 h1 g (k+1) _ ajo ajo ajP (λj h=>?_);rw[ahh];by_cases q:k=j
   ·rw[an q,an ajo]
   ·rw[mg q];exact hj j ajo
  ·rw[mg ajo];congr 1;refine ahE λj=>?_;by_cases q:j<n
   ·rw[hj j ajo,agU,an q]
   ·rw[agf ajo,agf ajs]
theorem M8 (n:Nat) (a:n<=2000000):qV (n:Int)=some (List.replicate n (-1)):=by
 unfold qV
 have em:(fF 8 (n:Int) (n:Int):Option (List Int))=some (List.replicate n default):=by
  unfold fF;rw[an ⟨by omega,by omega,by omega,by omega⟩];rfl
 have:=Om n a (List.replicate n default) ajq n 0 (List.replicate n default) ajo ajo ajq (λj h=>absurd h ajo);rw[show((0:Nat):Int)=0 from rfl]at this;rw[em,sb,this,sb]
def Pw (n:Nat):Prop:=n=8\/n=16\/n=32\/n=64\/n=128\/n=256\/n=512\/n=1024
theorem Pw.bd {n:Nat} (h:Pw n):8<=n/\n<=1024:=by rcases h with h | h | h | h | h | h | h | h<;>omega
theorem On (s:cx) (hs:s.length<=9223372036854775807):∀(f k:Nat) (y:Int),s.length<=k+f->k<=s.length->0<=y->y<2147483647->
  ∃z,kJ s y (k:Int)=some z/\kK s y (k:Int)=some z/\0<=z/\z<2147483647
 | f,k,y,hf,hk,h0,h1=>by
  rw[kJ,kK];by_cases hc:k<s.length
  ·obtain⟨g,rfl⟩:∃g,f=g+1:=⟨f - 1,by omega⟩;have hb:((s.getD k 0).toNat:Int)<256:=by have:=(s.getD k 0).toNat_lt;omega
   rw[an ajo,an ajo,pR hc,sb,sb,bm ajo];have a:ah (y*1000003)=y*1000003:=by rw[ah,B4 ajo ajo]
   have e2:ah ((s.getD k 0).toNat:Int)=((s.getD k 0).toNat:Int):=by rw[ah,B4 ajo ajo]
   have c:ah (y*1000003+((s.getD k 0).toNat:Int))=y*1000003+((s.getD k 0).toNat:Int):=by rw[ah,B4 ajo ajo]
   have d:ah (y*1000003+((s.getD k 0).toNat:Int)+13)=y*1000003+((s.getD k 0).toNat:Int)+13:=by rw[ah,B4 ajo ajo]
   rw[a,e2,c,d];have hm:=ahg (b:=2147483647) (show 0<=y*1000003+((s.getD k 0).toNat:Int)+13 by omega);rw[hm];exact On s hs g (k+1) _ ajo ajo ajo ajo
  ·rw[mg ajo,mg ajo];exact⟨y,rfl,rfl,h0,h1⟩
def kh (k:bV):Int:=(jl k).getD 0
def KB (k:bV):Prop:=k.bp.length<=9223372036854775807
theorem Oo {k:bV} (h:KB k):jl k=some (kh k)/\oF k=some (kh k)/\0<=kh k/\kh k<2147483647:=by
 suffices q:∃z,jl k=some z/\oF k=some z/\0<=z/\z<2147483647 by
  obtain⟨z,a,b,c,d⟩:=q;have:kh k=z:=by unfold kh;rw[a];rfl
  rw[this];exact⟨a,b,c,d⟩
 have hl:k.bp.length<=9223372036854775807:=h;unfold jl oF;by_cases e:k.bO=true
 ·obtain⟨z,a,b,c,d⟩:=On k.bp ajo k.bp.length 0 11 ajo ajo ajo ajo;rw[show((0:Nat):Int)=0 from rfl]at a b;rw[an e,an e];unfold rZ sc;rw[a,b];exact⟨z,rfl,rfl,c,d⟩
 ·rw[mg e,mg e];unfold Cl vr;have em:must ((2147483647:Int)≠0)=some ():=an ajp;rw[pS,sb,an ajp,em,sb,sb,mg ajo,mg ajo,sb];generalize g:k.bb.tmod 2147483647=r
  have r1: -2147483647<r/\r<2147483647:=by
   have h1:=Int.tmod_lt_of_pos k.bb (show(0:Int)<2147483647 by decide);have h2:=Int.lt_tmod_of_pos k.bb (show(0:Int)<2147483647 by decide);omega
  by_cases h0:0<=r
  ·have e2:ah (r+2147483647)=r+2147483647:=by rw[ah,B4 ajo ajo]
   have f:=ahg (b:=2147483647) (show 0<=r+2147483647 by omega);rw[e2,f,mg ajo,sb,sb];exact⟨r,by congr 1;omega,rfl,by omega,by omega⟩
  ·have e2:ah (r+2147483647)=r+2147483647:=by rw[ah,B4 ajo ajo]
   have f:=ahg (b:=2147483647) (show 0<=r+2147483647 by omega);rw[e2,f,an ajo,sb,sb];exact⟨r+2147483647,by congr 1;omega,rfl,by omega,by omega⟩
def Oq (n:Nat) (k:bV):Nat:=(kh k % (n:Int)).toNat
theorem Sy {n:Nat} (a:0<n) (k:bV):Oq n k<n:=by
 unfold Oq;have:=Int.emod_lt_of_pos (kh k) (show(0:Int)<n by omega);have:=Int.emod_nonneg (kh k) (show(n:Int)≠0 by omega);omega
theorem M9 {n:Nat} (b:0<n) (h1:n<=1024) {k:bV} (h:KB k):vr (kh k) (n:Int)=some (Oq n k:Int)/\(kh k).tmod (n:Int)=(Oq n k:Int):=by
 obtain⟨_,_,h0,_⟩:=Oo h
 have a:(kh k).tmod (n:Int)=(Oq n k:Int):=by
  rw[ahg h0];unfold Oq;have:=Int.emod_nonneg (kh k) (show(n:Int)≠0 by omega);omega
 refine⟨?_,a⟩;unfold vr;have em:must ((n:Int)≠0)=some ():=an ajo;rw[mg ajo,mg ajo,em,sb,a,mg ajo]
def tK (n:Nat) (L:List aS):List Int:=(L.foldl (λ(t:List Int×Nat) s=>(t.1.set (Oq n s.aN) (t.2:Int),t.2+1)) (List.replicate n (-1),0)).1
theorem U3 (n:Nat) (L:List aS):∀t:List Int×Nat,(L.foldl (λ(t:List Int×Nat) s=>(t.1.set (Oq n s.aN) (t.2:Int),t.2+1)) t).2=t.2+L.length:=by
 induction L with
 | nil=>intro t;rfl
 | cons s r a=>intro t;rw[List.foldl_cons,a];simp;omega
theorem Ij (n:Nat):tK n []=List.replicate n (-1):=rfl
theorem Sz (n:Nat) (L:List aS) (s:aS):tK n (L++[s])=(tK n L).set (Oq n s.aN) (L.length:Int):=by
 unfold tK;rw[List.foldl_append];simp only[List.foldl_cons,List.foldl_nil];rw[U3];simp
theorem xe {n:Nat} {L:List aS} {i:Nat} (h:i<L.length):tK n (L.take (i+1))=(tK n (L.take i)).set (Oq n L[i].aN) (i:Int):=by
 have e:L.take (i+1)=L.take i++[L[i]]:=(agT h).symm;rw[e,Sz];congr 2;simp;omega
theorem mQ (n:Nat) (L:List aS):(tK n L).length=n:=by
 have:∀m,m<=L.length->(tK n (L.take m)).length=n:=by
  intro m;induction m with
  | zero=>intro _;simp [Ij]
  | succ m a=>intro h;rw[xe ajo,agW];exact a ajo
 have:=this L.length (abF _)
 rwa [ahb]at this
theorem KO {n:Nat} {L M:List aS} (hl:L.length=M.length) (h:∀i (h1:i<L.length) (h2:i<M.length),L[i].aN=M[i].aN):∀m,m<=L.length->tK n (L.take m)=tK n (M.take m)
 | 0,_=>by simp
 | m+1,hm=>by rw[xe ajo,xe ajo,KO hl h m ajo,h m ajo ajo]
def WW (n:Nat) (L:List aS) (i:Nat):Int:=if h:i<L.length then(tK n (L.take i)).getD (Oq n L[i].aN) 0 else 0
theorem DV {n:Nat} {L:List aS} {i:Nat} (h:i<L.length):WW n L i=(tK n (L.take i)).getD (Oq n L[i].aN) 0:=dif_pos h
theorem Na {n:Nat} {L:List aS} {b:Nat} (h:b<n):idx (tK n L) (b:Int)=some ((tK n L).getD b 0):=by
 rw[ba (by rw[mQ];exact h),afP,No (by rw[mQ];exact h)];rfl
def slE (s:aS):af:=af.mk s.aN s.av
def lv (L:List aS):List af:=(L.filter (·.bS)).map slE
theorem YZ (a b:List aS):lv (a++b)=lv a++lv b:=by unfold lv;rw[List.filter_append,ahf]
theorem Y0 (s:aS):lv [s]=if s.bS=true then[slE s]else[]:=by
 unfold lv;by_cases h:s.bS=true
 ·simp [h]
 ·simp [h]
theorem Ot {L:List aS} {i:Nat} (h:i<L.length):lv (L.take (i+1))=lv (L.take i)++(if L[i].bS=true then[slE L[i]]else[]):=by
 have e:L.take (i+1)=L.take i++[L[i]]:=(agT h).symm;rw[e,YZ,Y0]
theorem Y1 (L:List aS):(lv L).length<=L.length:=by unfold lv;rw[ahp];exact List.length_filter_le _ _
theorem SA {L:List aS} {e:af}:e∈lv L↔∃s∈L,s.bS=true/\slE s=e:=by
 unfold lv;simp [ags,List.mem_filter,and_assoc]
def zv (v:ai):Bool:=v.aU==0&&v.bb==0&&v.bp==([]:cx)&&v.aE==0&&v.aj.length==0
theorem zero_eq (v:ai):qw v=some (zv v):=by
 unfold qw zv;by_cases h1:v.aU=0
 case neg=>rw[mg h1];simp [h1]
 by_cases h2:v.bb=0
 case neg=>rw[an h1,mg h2];simp [h2]
 by_cases h3:v.bp=([]:cx)
 case neg=>rw[an h1,an h2,mg h3];simp [h3]
 by_cases h4:v.aE=0
 case neg=>rw[an h1,an h2,an h3,mg h4];simp [h4]
 rw[an h1,an h2,an h3,an h4,h1,h2,h3,h4];congr 1;by_cases h5:v.aj.length=0
 ·rw[h5];rfl
 ·simp only[beq_self_eq_true,ahw];rw[ahn.2 h5];simp;simpa using h5
def C1 (t:bH) (i:Nat) (s:aS):Prop:=
 vk s.aN=true/\(s.aN.bO=true\/s.aN.bb<t.aE)/\(s.bS=true\/zv s.av=true)/\(if t.bZ=true then s.di=WW t.aG.length t.ak i else s.aN=bV.mk false (i:Int) []/\s.di= -1)
def D1 (t:bH) (i:Nat) (s:aS) (k:Nat):Prop:=
 t.bZ=true->s.bS=true->∀m,k<=m->m<i->∀h:m<t.ak.length,t.ak[m].bS=true->t.ak[m].aN≠s.aN
structure TB (t:bH):Prop where
 sl:t.ak.length<=2000000
 hl:t.aG.length<=2000000
 kb:∀s∈t.ak,KB s.aN
 sm:∀s∈t.ak,Sm s.av
theorem KP (a:bH) (hb:a.ak.length<=2000000) (x:aS) (i:Nat) (hi:i<=a.ak.length):∀(f j:Nat),i<=j+f->j<=i->
  (D1 a i x j->gq a x (i:Int) (j:Int)=some (.inl ()))/\(¬D1 a i x j->gq a x (i:Int) (j:Int)=some (.inr (.inr (.inr false))))
 | f,j,hf,hj=>by
  rw[gq];by_cases h1:a.bZ=true
  case neg=>rw[mg h1];exact⟨λ_=>rfl,λh=>absurd (λq=>absurd q h1) h⟩
  by_cases h2:x.bS=true
  case neg=>rw[an h1,mg h2];exact⟨λ_=>rfl,λh=>absurd (λ_ q=>absurd q h2) h⟩
  rw[an h1,an h2];by_cases hc:j<i
  ·obtain⟨g,rfl⟩:∃g,f=g+1:=⟨f - 1,by omega⟩;have d:=KP a hb x i hi g (j+1) ajo ajo;have k:j<a.ak.length:=by omega
   rw[an ajo,ba k,sb,sb,bm ajo];by_cases h3:a.ak[j].bS=true/\a.ak[j].aN=x.aN
   ·rw[an h3.1,an h3.2];exact⟨λh=>absurd h3.2 (h h1 h2 j (abF _) hc k h3.1),λ_=>rfl⟩
   ·have e:D1 a i x j↔D1 a i x (j+1):=by
     constructor
     ·exactλh q1 q2 m l b c=>h q1 q2 m ajo b c
     ·intro h q1 q2 m l b c q3;by_cases e:m=j
      ·subst e;exactλq=>h3 ⟨q3,q⟩
      ·exact h q1 q2 m ajo b c q3
    rw[e];by_cases h4:a.ak[j].bS=true
    ·rw[an h4,mg (λq=>h3 ⟨h4,q⟩)];exact d
    ·rw[mg h4];exact d
  ·rw[mg ajo];exact⟨λ_=>rfl,λh=>absurd (λ_ _ m l b=>by omega) h⟩
def CS (t:bH) (k:Nat):Prop:=∀i,k<=i->∀h:i<t.ak.length,C1 t i t.ak[i]/\D1 t i t.ak[i] 0
theorem CS.step {t:bH} {k:Nat} (h:k<t.ak.length):CS t k↔(C1 t k t.ak[k]/\D1 t k t.ak[k] 0)/\CS t (k+1):=by
 constructor
 ·exactλq=>⟨q k (abF _) h,λi hi hl=>q i ajo hl⟩
 ·rintro⟨q1,q2⟩ i hi hl;by_cases e:i=k
  ·subst e;exact q1
  ·exact q2 i ajo hl
theorem Gp (a:bH) (hb:TB a) (hh:if a.bZ=true then 0<a.aG.length/\a.aG.length<=1024 else a.aG.length=0):∀(f i:Nat),a.ak.length<=i+f->i<=a.ak.length->
  (CS a i->dF a ((lv (a.ak.take i)).length:Int) (tK a.aG.length (a.ak.take i)) (i:Int)=some (.inl (((lv a.ak).length:Int),tK a.aG.length a.ak)))/\
  (¬CS a i->dF a ((lv (a.ak.take i)).length:Int) (tK a.aG.length (a.ak.take i)) (i:Int)=some (.inr false))
 | f,i,hf,hi=>by
  have M:=hb.sl;rw[dF];by_cases hc:i<a.ak.length
  ·obtain⟨g,rfl⟩:∃g,f=g+1:=⟨f - 1,by omega⟩;have H:=Gp a hb hh g (i+1) ajo ajo;have r:=hb.kb _ (afQ hc);have N:(lv (a.ak.take i)).length<=i:=by have:=Y1 (a.ak.take i);simp at this;omega
   have t:=Ot hc;rw[CS.step hc];generalize hs:a.ak[i]=s at r t ⊢;have w:=KP a hb.sl s i ajo i 0 ajo ajo;rw[show((0:Nat):Int)=0 from rfl]at w
   have z:∀x:Option ((Int×List Int) ⊕ Bool),(C1 a i s/\D1 a i s 0->x=dF a ((lv (a.ak.take (i+1))).length:Int) (tK a.aG.length (a.ak.take (i+1))) ((i+1:Nat):Int))->(¬(C1 a i s/\D1 a i s 0)->x=some (.inr false))->
     ((C1 a i s/\D1 a i s 0)/\CS a (i+1)->x=some (.inl (((lv a.ak).length:Int),tK a.aG.length a.ak)))/\(¬((C1 a i s/\D1 a i s 0)/\CS a (i+1))->x=some (.inr false)):=λx h1 h2=>by
    by_cases q:C1 a i s/\D1 a i s 0
    ·rw[h1 q];exact⟨λh=>H.1 h.2,λh=>H.2 (λh'=>h ⟨q,h'⟩)⟩
    ·rw[h2 q];exact⟨λh=>absurd h.1 q,λ_=>rfl⟩
   refine z _ ?_ ?_
   ·rintro⟨⟨u,o,d,b⟩,J⟩;rw[an ajo,ba hc,sb,hs]
    have last:∀y:Int,y=s.di->tK a.aG.length (a.ak.take (i+1))=(if a.bZ=true then(tK a.aG.length (a.ak.take i)).set (Oq a.aG.length s.aN) (i:Int)else tK a.aG.length (a.ak.take i)):=λy _=>by
     have e:=xe (n:=a.aG.length) hc;rw[hs]at e;by_cases h1:a.bZ=true
     ·rw[an h1,e]
     ·rw[mg h1]at hh ⊢;have I:∀L,tK a.aG.length L=[]:=λL=>agw (by rw[mQ];exact hh);rw[I,I]
    rw[last _ rfl]
    have v:((if a.bZ=true then
      jl s.aN>>=λk=>must ((a.aG.length:Int)≠0)>>=λ_=>idx (tK a.aG.length (a.ak.take i)) (k.tmod (a.aG.length:Int))>>=λA=>idx (tK a.aG.length (a.ak.take i)) (k.tmod (a.aG.length:Int))>>=λB=>
       some (Sum.inl (((tK a.aG.length (a.ak.take i)).set ((k.tmod (a.aG.length:Int)).toNat) (i:Int)),A))
      else(if s.aN=(bV.mk false (i:Int) [])then some (Sum.inl (tK a.aG.length (a.ak.take i),(-1)))else some (Sum.inr (Sum.inr (Sum.inr false))))):Option (((List Int)×Int) ⊕ ((Int×(List Int)×Bool×Int×cx×Int×Int×cx×Int×(List af)×Bool×Int×Int×Int×Bool×Bool×Bool×Bool×Bool×Bool×Bool×Bool×Bool) ⊕ ((Int×(List Int)) ⊕ Bool))))=some (Sum.inl ((if a.bZ=true then(tK a.aG.length (a.ak.take i)).set (Oq a.aG.length s.aN) (i:Int)else tK a.aG.length (a.ak.take i)),s.di)):=by
     by_cases h1:a.bZ=true
     ·rw[an h1]at hh b ⊢;obtain⟨C,_,_,_⟩:=Oo r;obtain⟨_,D⟩:=M9 hh.1 hh.2 r;have em:must ((a.aG.length:Int)≠0)=some ():=an ajo;rw[C,sb,em,sb,D,Na (Sy hh.1 _),sb,sb,afT,an h1,b,DV hc,hs]
     ·rw[mg h1]at b ⊢;rw[an b.1,mg h1,b.2]
    rw[v,sb];dsimp only;rw[Nb,sb,u,an rfl,an rfl,zero_eq,w.1 J];have cl:ah (((lv (a.ak.take i)).length:Int)+1)=(((lv (a.ak.take i)).length+1:Nat):Int):=bm ajo;by_cases c:s.aN.bO=true
    ·by_cases h3:s.bS=true
     ·rw[an c,an h3];simp only[h3,agu,sb,bm (show i<9223372036854775807 by omega),cl,t,agP,age,agv,so]
     ·have m:=d.resolve_left h3;rw[an c,mg h3];simp only[m,h3,agu,agG,sb,bm (show i<9223372036854775807 by omega),t,agB,agN]
    ·have E:=o.resolve_left c;rw[mg c,mg ajo];by_cases h3:s.bS=true
     ·simp only[h3,agu,sb,bm (show i<9223372036854775807 by omega),cl,t,agP,age,agv,so]
     ·have m:=d.resolve_left h3;simp only[m,h3,agu,agG,sb,bm (show i<9223372036854775807 by omega),t,agB,agN]
   ·intro E;rw[an ajo,ba hc,sb,hs];by_cases j:(if a.bZ=true then True else s.aN=bV.mk false (i:Int) [])
    case neg=>
     by_cases h1:a.bZ=true
     ·rw[an h1]at j;exact absurd trivial j
     ·rw[mg h1]at j ⊢;rw[mg j];rfl
    have v:∃l,((if a.bZ=true then
      jl s.aN>>=λk=>must ((a.aG.length:Int)≠0)>>=λ_=>idx (tK a.aG.length (a.ak.take i)) (k.tmod (a.aG.length:Int))>>=λA=>idx (tK a.aG.length (a.ak.take i)) (k.tmod (a.aG.length:Int))>>=λB=>
       some (Sum.inl (((tK a.aG.length (a.ak.take i)).set ((k.tmod (a.aG.length:Int)).toNat) (i:Int)),A))
      else(if s.aN=(bV.mk false (i:Int) [])then some (Sum.inl (tK a.aG.length (a.ak.take i),(-1)))else some (Sum.inr (Sum.inr (Sum.inr false))))):Option (((List Int)×Int) ⊕ ((Int×(List Int)×Bool×Int×cx×Int×Int×cx×Int×(List af)×Bool×Int×Int×Int×Bool×Bool×Bool×Bool×Bool×Bool×Bool×Bool×Bool) ⊕ ((Int×(List Int)) ⊕ Bool))))=some (Sum.inl (l,if a.bZ=true then WW a.aG.length a.ak i else -1)):=by
     by_cases h1:a.bZ=true
     ·rw[an h1]at hh ⊢;obtain⟨C,_,_,_⟩:=Oo r;obtain⟨_,D⟩:=M9 hh.1 hh.2 r;have em:must ((a.aG.length:Int)≠0)=some ():=an ajo;rw[C,sb,em,sb,D,Na (Sy hh.1 _),sb,sb,an h1,DV hc,hs];exact⟨_,rfl⟩
     ·rw[mg h1]at j ⊢;rw[an j,mg h1];exact⟨_,rfl⟩
    obtain⟨l,v⟩:=v;rw[v,sb];dsimp only;rw[Nb,sb,zero_eq];by_cases u:vk s.aN=true
    case neg=>rw[mg u];rfl
    rw[an u];by_cases b:s.di=(if a.bZ=true then WW a.aG.length a.ak i else -1)
    case neg=>rw[mg b];rfl
    rw[an b]
    have G:(if a.bZ=true then s.di=WW a.aG.length a.ak i else s.aN=bV.mk false (i:Int) []/\s.di= -1):=by
     by_cases h1:a.bZ=true
     ·rw[an h1]at b ⊢;exact b
     ·rw[mg h1]at b j ⊢;exact⟨j,b⟩
    by_cases d:s.bS=true\/zv s.av=true
    case neg=>
     have q1:¬s.bS=true:=λq=>d (.inl q);have q2:¬zv s.av=true:=λq=>d (.inr q);rw[mg q1,mg q1,sb,sb,mg q2,mg q2];split
     ·rfl
     ·split<;>rfl
    by_cases o:s.aN.bO=true\/s.aN.bb<a.aE
    case neg=>
     have q1:¬s.aN.bO=true:=λq=>o (.inl q)
     have q2:s.aN.bb>=a.aE:=by
      refine ahx λq=>o (.inr ajo)
     rw[mg q1,an q2];rfl
    have K:¬D1 a i s 0:=λq=>E ⟨⟨u,o,d,G⟩,q⟩;have go:∀x:Option ((Bool×Bool×Bool×Bool) ⊕ ((Int×(List Int)×Bool×Int×cx×Int×Int×cx×Int×(List af)×Bool×Int×Int×Int×Bool×Bool×Bool×Bool×Bool×Bool×Bool×Bool×Bool) ⊕ ((Int×(List Int)) ⊕ Bool))),(∃p,x=some (.inl p))->∀F:(Bool×Bool×Bool×Bool)->Option ((Int×(List Int)) ⊕ Bool),True:=λ_ _ _=>trivial;rw[w.2 K];by_cases c:s.aN.bO=true
    ·by_cases h3:s.bS=true
     ·rw[an c,an h3];rfl
     ·have m:=d.resolve_left h3;rw[an c,mg h3,sb,an m];rfl
    ·have E:=o.resolve_left c;rw[mg c,mg ajo];by_cases h3:s.bS=true
     ·rw[an h3];rfl
     ·have m:=d.resolve_left h3;rw[mg h3,sb,an m];rfl
  ·have:i=a.ak.length:=by omega
   subst this;rw[mg ajo,ahb];exact aje
theorem KQ (a:bH) (l:List Int) (hl:a.aG.length=l.length) (c:l.length<=2000000):∀(f i:Nat),l.length<=i+f->i<=l.length->
  (a.aG.drop i=l.drop i->gr a l (i:Int)=some (.inl ()))/\(¬a.aG.drop i=l.drop i->gr a l (i:Int)=some (.inr false))
 | f,i,hf,hi=>by
  rw[gr];by_cases hc:i<l.length
  ·obtain⟨g,rfl⟩:∃g,f=g+1:=⟨f - 1,by omega⟩;have b:=KQ a l hl c g (i+1) ajo ajo;rw[an ajo,ba ajo,ba hc,sb,sb,bm ajo];rw[agl hc,agl (show i<a.aG.length by omega)];by_cases e:a.aG[i]=l[i]
   ·rw[an e,e];exact⟨λh=>b.1 (ahS h).2,λh=>b.2 (λq=>h (by rw[q]))⟩
   ·rw[mg e];exact⟨λh=>absurd (ahS h).1 e,λ_=>rfl⟩
  ·rw[mg ajo];exact⟨λ_=>rfl,λh=>absurd (by rw[ahr ajo,ahr ajo]) h⟩
theorem KR (a:bH) (n:Nat) (b:n<=2000000) (c:a.aG.length=n):∀(f k:Nat) (l:List Int),n<=k+f->k<=n->l.length=n->(∀j,j<k->l[j]? =some (-1))->
  jQ a l (k:Int)=some (List.replicate n (-1))
 | f,k,l,hf,hk,hl,hj=>by
  rw[jQ];by_cases hc:k<n
  ·obtain⟨g,rfl⟩:∃g,f=g+1:=⟨f - 1,by omega⟩;rw[an ajo,ba ajo,sb,bm ajo,afT];refine KR a n b c g (k+1) _ ajo ajo ajP (λj h=>?_);rw[ahh];by_cases q:k=j
   ·rw[an q,an ajo]
   ·rw[mg q];exact hj j ajo
  ·rw[mg ajo];congr 1;refine ahE λj=>?_;by_cases q:j<n
   ·rw[hj j ajo,agU,an q]
   ·rw[agf ajo,agf ajs]
theorem WY:∀n:Fin 1025,8<=n.val->bits .and .i64 (n.val:Int) (ah ((n.val:Int) - 1))=0->(n.val=8\/n.val=16\/n.val=32\/n.val=64\/n.val=128\/n.val=256\/n.val=512\/n.val=1024):=by decide +kernel
theorem SC {n:Nat} (h:Pw n):bits .and .i64 (n:Int) (ah ((n:Int) - 1))=0:=by
 rcases h with h | h | h | h | h | h | h | h<;>subst h<;>decide +kernel
def H1 (t:bH):Prop:=if t.bZ=true then Pw t.aG.length/\t.ak.length<=t.aG.length else t.aG.length=0/\(t.ak.length:Int)<=t.aE
structure VT (t:bH):Prop where
 nx:0<=t.aE/\t.aE<=1000000001
 sl:t.ak.length<=1024
 sz:H1 t
 cs:CS t 0
 hd:t.aG=tK t.aG.length t.ak
 ct:t.aZ=((lv t.ak).length:Int)
theorem H1.hh {t:bH} (h:H1 t):if t.bZ=true then 0<t.aG.length/\t.aG.length<=1024 else t.aG.length=0:=by
 unfold H1 at h;by_cases q:t.bZ=true
 ·rw[an q]at h ⊢;have:=h.1.bd;omega
 ·rw[mg q]at h ⊢;exact h.1
theorem Gq {t:bH} (hb:TB t) (h0:0<=t.aE/\t.aE<=1000000001) (h1:t.ak.length<=1024) (h2:H1 t) (x:Option Bool)
  (a:x=((fF 8 (t.aG.length:Int) (t.aG.length:Int):Option (List Int))>>=λg=>jQ t g 0>>=λl=>dF t 0 l 0>>=λo=>match o with
   | .inr r=>some r
   | .inl (y,l)=>gr t l 0>>=λo=>match o with
    | .inr r=>some r
    | .inl _=>some (y==t.aZ))):(VT t->x=some true)/\(¬VT t->x=some false):=by
 have i:=hb.hl
 have em:(fF 8 (t.aG.length:Int) (t.aG.length:Int):Option (List Int))=some (List.replicate t.aG.length default):=by
  unfold fF;rw[an ⟨by omega,by omega,by omega,by omega⟩];rfl
 have f:=KR t t.aG.length ajo rfl t.aG.length 0 (List.replicate t.aG.length default) ajo ajo ajq (λj h=>absurd h ajo);have e2:=Gp t hb h2.hh t.ak.length 0 ajo ajo;have b:=KQ t (tK t.aG.length t.ak) (by rw[mQ]) (by rw[mQ];omega) t.aG.length 0 (by rw[mQ];omega) ajo;rw[ahj,Ij]at e2;rw[show((0:Nat):Int)=0 from rfl]at f b;replace e2:(CS t 0->dF t 0 (List.replicate t.aG.length (-1)) 0=some (.inl (((lv t.ak).length:Int),tK t.aG.length t.ak)))/\(¬CS t 0->dF t 0 (List.replicate t.aG.length (-1)) 0=some (.inr false)):=e2;rw[afZ,afZ]at b;rw[em,sb,f,sb]at a;by_cases c:CS t 0
 case neg=>rw[e2.2 c,sb]at a;exact⟨λh=>absurd h.cs c,λ_=>a⟩
 rw[e2.1 c,sb]at a;dsimp only at a;by_cases d:t.aG=tK t.aG.length t.ak
 case neg=>rw[b.2 d,sb]at a;exact⟨λh=>absurd h.hd d,λ_=>a⟩
 rw[b.1 d,sb]at a;dsimp only at a;by_cases e:t.aZ=((lv t.ak).length:Int)
 ·rw[e]at a;exact⟨λ_=>by rw[a];simp,λh=>absurd ⟨h0,h1,h2,c,d,e⟩ h⟩
 ·exact⟨λh=>absurd h.ct e,λ_=>by rw[a,ahn.2 (λq=>e q.symm)]⟩
theorem aeD {t:bH} (hb:TB t):(VT t->jm t=some true)/\(¬VT t->jm t=some false):=by
 have d:=hb.sl;have c:=hb.hl;unfold jm;by_cases q1:0<=t.aE/\t.aE<=1000000001
 case neg=>rw[pS,sb,afV q1];exact⟨λh=>absurd h.nx q1,λ_=>rfl⟩
 rw[pS,sb,afU q1];simp only[agu];by_cases q2:t.ak.length<=1024
 case neg=>rw[an ajo];exact⟨λh=>absurd h.sl q2,λ_=>rfl⟩
 rw[mg ajo];by_cases q3:t.bZ=true
 ·simp only[an q3,pS,sb];by_cases q4:(8:Int)<=(t.aG.length:Int)/\(t.aG.length:Int)<=1024
  case neg=>
   rw[afV q4];exact⟨λh=>absurd (by have h:=h.sz;unfold H1 at h;rw[an q3]at h;have:=h.1.bd;omega) q4,λ_=>rfl⟩
  rw[afU q4];simp only[agu];by_cases a:bits .and .i64 (t.aG.length:Int) (ah ((t.aG.length:Int) - 1))=0
  case neg=>
   rw[mg a];exact⟨λh=>absurd (by have h:=h.sz;unfold H1 at h;rw[an q3]at h;exact SC h.1) a,λ_=>rfl⟩
  rw[an a];by_cases b:t.ak.length<=t.aG.length
  case neg=>
   rw[an ajo];exact⟨λh=>absurd (by have h:=h.sz;unfold H1 at h;rw[an q3]at h;exact h.2) b,λ_=>rfl⟩
  rw[mg ajo];have hp:Pw t.aG.length:=WY ⟨t.aG.length,by omega⟩ (by show 8<=t.aG.length;omega) a;exact Gq hb q1 q2 (by unfold H1;rw[an q3];exact⟨hp,b⟩) _ rfl
 ·simp only[mg q3];by_cases q4:t.aG.length=0
  case neg=>
   rw[an ajo];exact⟨λh=>absurd (by have h:=h.sz;unfold H1 at h;rw[mg q3]at h;exact h.1) q4,λ_=>rfl⟩
  rw[mg ajo];by_cases a:(t.ak.length:Int)<=t.aE
  case neg=>
   rw[an ajo];exact⟨λh=>absurd (by have h:=h.sz;unfold H1 at h;rw[mg q3]at h;exact h.2) a,λ_=>rfl⟩
  rw[mg ajo];exact Gq hb q1 q2 (by unfold H1;rw[mg q3];exact⟨q4,a⟩) _ rfl
def Lk (n:Nat) (L:List aS):Prop:=∀i (h:i<L.length),L[i].di=WW n L i
def KV (nx:Int) (s:aS):Prop:=vk s.aN=true/\(s.aN.bO=true\/s.aN.bb<nx)/\(s.bS=true\/zv s.av=true)
def SD (L:List aS):Prop:=L.Pairwise λa b=>a.bS=true->b.bS=true->a.aN≠b.aN
theorem SD.of {L:List aS} (h:((lv L).map (·.aN)).Nodup):SD L:=by
 unfold lv at h;rw[List.map_map]at h;unfold List.Nodup at h;rw[List.pairwise_map,List.pairwise_filter]at h;exact h.imp λq h1 h2=>q h1 h2
theorem Y3 {L:List aS} (h:∀i (h:i<L.length),L[i].aN=bV.mk false (i:Int) []):SD L:=by
 unfold SD;rw[aha];intro i j hi hj a _ _ e;rw[h i hi,h j hj]at e;injection e with _ e _;omega
theorem VT.hashed {n:Nat} {L:List aS} {nx:Int} {c:Int} (h0:0<=nx/\nx<=1000000001) (hp:Pw n) (hl:L.length<=n) (hk:Lk n L) (hv:∀s∈L,KV nx s) (hd:SD L) (hc:c=((lv L).length:Int)):VT (bH.mk true (tK n L) L nx c):=by
 have:=hp.bd;refine⟨h0,by show L.length<=1024;omega,?_,?_,?_,hc⟩
 ·unfold H1;rw[an rfl];dsimp only;rw[mQ];exact⟨hp,hl⟩
 ·intro i _ hi;have a:i<L.length:=hi;obtain⟨q1,q2,q3⟩:=hv _ (afQ a);refine⟨⟨q1,q2,q3,?_⟩,?_⟩
  ·rw[an rfl];dsimp only;rw[mQ];exact hk i a
  ·intro _ h2 m _ hm b h3;exact aha.1 hd m i b a hm h3 h2
 ·dsimp only;rw[mQ]
theorem VT.flat {L:List aS} {nx:Int} {c:Int} (h0:0<=nx/\nx<=1000000001) (h1:L.length<=1024) (hl:(L.length:Int)<=nx) (hk:∀i (h:i<L.length),L[i].aN=bV.mk false (i:Int) []/\L[i].di= -1) (hv:∀s∈L,KV nx s) (hc:c=((lv L).length:Int)):VT (bH.mk false [] L nx c):=by
 refine⟨h0,h1,?_,?_,?_,hc⟩
 ·unfold H1;rw[mg ajq];exact⟨rfl,hl⟩
 ·intro i _ hi;have a:i<L.length:=hi;obtain⟨q1,q2,q3⟩:=hv _ (afQ a);exact⟨⟨q1,q2,q3,by rw[mg ajq];exact hk i a⟩,λq=>by cases q⟩
 ·exact(agw (by rw[mQ];rfl)).symm
inductive VC:bH->Prop
 | hashed (n:Nat) (L:List aS) (nx:Int) (h0:0<=nx/\nx<=1000000001) (hp:Pw n) (hl:L.length<=n) (hk:Lk n L) (hv:∀s∈L,KV nx s) (hd:SD L):VC (bH.mk true (tK n L) L nx ((lv L).length:Int))
 | flat (L:List aS) (nx:Int) (h0:0<=nx/\nx<=1000000001) (h1:L.length<=1024) (hl:(L.length:Int)<=nx) (hk:∀i (h:i<L.length),L[i].aN=bV.mk false (i:Int) []/\L[i].di= -1) (hv:∀s∈L,KV nx s):VC (bH.mk false [] L nx ((lv L).length:Int))
theorem VT.vc {t:bH} (h:VT t):VC t:=by
 obtain⟨h0,h1,h2,h3,h4,h5⟩:=h;obtain⟨b,H,L,nx,c⟩:=t;dsimp only at*;subst h5
 have hv:∀s∈L,KV nx s:=λs hs=>by
  obtain⟨i,hi,rfl⟩:=agr.1 hs;obtain⟨⟨q1,q2,q3,_⟩,_⟩:=h3 i (agt _) hi;exact⟨q1,q2,q3⟩
 cases b
 ·unfold H1 at h2;rw[mg ajq]at h2;dsimp only at h2;obtain rfl:=agw h2.1;refine VC.flat L nx h0 h1 h2.2 (λi hi=>?_) hv;obtain⟨⟨_,_,_,q⟩,_⟩:=h3 i (agt _) hi;rw[mg ajq]at q;exact q
 ·unfold H1 at h2;rw[an rfl]at h2;dsimp only at h2;generalize e:H.length=n at*;subst h4;refine VC.hashed n L nx h0 h2.1 h2.2 (λi hi=>?_) hv ?_
  ·obtain⟨⟨_,_,_,q⟩,_⟩:=h3 i (agt _) hi;rw[an rfl]at q;dsimp only at q;rw[mQ]at q;exact q
  ·unfold SD;rw[aha];intro i j hi hj a l1 d;obtain⟨_,q⟩:=h3 j (agt _) hj;exact q rfl d i (agt _) a hi l1
theorem KS {L:List aS} {j:Nat} (h:j<L.length) {s:aS} (hk:s.aN=L[j].aN):∀i (h1:i<(L.set j s).length) (h2:i<L.length),(L.set j s)[i].aN=L[i].aN:=λi h1 h2=>by
 rw[aib];by_cases e:j=i
 ·subst e;rw[an rfl,hk]
 ·rw[mg e]
theorem U5 {n:Nat} {L:List aS} {j:Nat} (h:j<L.length) {s:aS} (hk:s.aN=L[j].aN):∀m,m<=L.length->tK n ((L.set j s).take m)=tK n (L.take m):=
 λm hm=>KO ajq (KS h hk) m (by simpa using hm)
theorem Lk.set {n:Nat} {L:List aS} (hl:Lk n L) {j:Nat} (h:j<L.length) {s:aS} (hk:s.aN=L[j].aN) (b:s.di=L[j].di):Lk n (L.set j s):=by
 intro i hi;have a:i<L.length:=by simpa using hi
 rw[DV hi,U5 h hk i ajo,KS h hk i hi a,<-DV a,<-hl i a,aib];by_cases e:j=i
 ·subst e;rw[an rfl,b]
 ·rw[mg e]
theorem VC.dis {t:bH} (h:VC t):SD t.ak:=by
 cases h with
 | hashed n L nx h0 hp hle hl hv b=>exact b
 | flat L nx h0 h1 hle a hv=>exact Y3 λi hi=>(a i hi).1
theorem VC.kv {t:bH} (h:VC t):∀s∈t.ak,KV t.aE s:=by
 cases h with
 | hashed n L nx h0 hp hle hl hv b=>exact hv
 | flat L nx h0 h1 hle a hv=>exact hv
theorem VC.ct {t:bH} (h:VC t):t.aZ=((lv t.ak).length:Int):=by cases h<;>rfl
theorem VC.nx {t:bH} (h:VC t):0<=t.aE/\t.aE<=1000000001:=by
 cases h with
 | hashed n L nx h0 hp hle hl hv b=>exact h0
 | flat L nx h0 h1 hle a hv=>exact h0
def nxt (nx:Int) (k:bV):Int:=if k.bO=true then nx else if ah (k.bb+1)>nx then ah (k.bb+1)else nx
structure Put (t:bH) (k:bV) (v:ai) (x:bH):Prop where
 vt:VT x
 nx:x.aE=nxt t.aE k
 lv:Go.Am.lv x.ak=Go.Am.lv t.ak++[af.mk k v]
 ln:x.ak.length<=t.ak.length+1
end Go.Am
