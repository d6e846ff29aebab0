/- Texts of the proof, joined and shortened. -/
import Derived.Test.YtgciegobebabfaaGreatDoorPk2
set_option linter.unusedVariables false
set_option linter.unusedSimpArgs false
namespace Go.Am
open Go Go.RowKit
section
variable {P:Program}{T:vE}{μ:Mu}{h h1:List au}{S:Nat->Prop}{w:World}
theorem TD (hc:Core μ h S w) (s:Pj h h1):∃μ',Fr μ h S w μ' h1 S w/\Core μ' h1 S w:=by
 obtain⟨id,g,sz,n,e,f,i,j,O,A,V,D,F,f1,hh,hi,hj,EF,Qm,rfl⟩:=s;have hid:id<h.length:=(As.1 hh).1;obtain⟨hl,cn⟩:=hc.heap id g sz n e f hh;have RF:j<sz:=by rw[<-hl i hi];exact(As.1 hj).1
 have Bb:∃b0 P Q v,μ id=some (b0,P)/\w.heap[b0]? =some (.cells Q e (0,0))/\P+n*sz<=Q.size/\Q[P+i*sz+j]? =some v/\rz S w (.aX O A V D F) v/\
   ∀(i j:Nat) (pv:PV),i<n->(f i)[j]? =some pv->∃v:Value,Q[P+i*sz+j]? =some v/\uK μ h S w pv v:=by
  cases ky:μ id with
  | none=>rw[ky]at cn;have cn:n=0:=cn;omega
  | some p=>
   obtain⟨b0,P⟩:=p;rw[ky]at cn;obtain⟨o,q1,q2⟩:=cn;cases o with
   | cells Q e0 z=>
    obtain⟨rfl,rfl,q3,q4⟩:=q2;obtain⟨v,r1,m⟩:=q4 i j _ hi hj;exact⟨b0,P,Q,v,rfl,q1,q3,r1,m,q4⟩
   | map es c=>
    obtain⟨kp,vp,en,y1,y2,y3,_⟩:=q2.2 i hi;rw[y1]at hj
    match j,hj with
    | 0,hj=>simp at hj;rw[hj]at y2;cases y2
    | 1,hj=>simp at hj;rw[hj]at y3;cases y3
    | y+2,hj=>simp at hj
   | _=>exact q2.elim
 obtain⟨b0,P,Q,v,ky,ag,Be,TM,ar,qm⟩:=Bb;have Yh:∀b,F b->fg h id i j b:=λb l=>⟨_,_,_,_,_,_,_,_,_,_,hh,hi,hj,l⟩
 obtain⟨p,hp⟩:∃p:Option (Nat×Nat),match p with
   | none=>v=.slice none 0 0/\A=0
   | some (b,off)=>F b/\∃(c:Nat) (a:Addr) (cur:Array Value),w.heap[b]? =some (.cells cur V (0,0))/\v=.slice (some a) A c/\A<=c/\(0<c->a=⟨b,off,none⟩)/\off+c*O<=cur.size/\(∀i,i<A->(D i).length=O)/\
     (∀(i j:Nat) (pv:PV),i<A->(D i)[j]? =some pv->∃u,cur[off+i*O+j]? =some u/\(bN S w pv u\/∃E n2 e2 f2 F2,pv=.aX E n2 e2 f2 F2/\rz S w (.aX E n2 e2 f2 F2) u))/\
     (∀(i j tB n2:Nat) (e2:TypeId) (f2:Nat->List PV) (F2:Nat->Prop),i<A->(D i)[j]? =some (.aX tB n2 e2 f2 F2)->∀W,F2 W->F W/\W≠b)/\
     (∀(i j tB n2:Nat) (e2:TypeId) (f2:Nat->List PV) (F2:Nat->Prop) (i' j' aa n3:Nat) (e3:TypeId) (f3:Nat->List PV) (F3:Nat->Prop),i<A->(D i)[j]? =some (.aX tB n2 e2 f2 F2)->i'<A->(D i')[j']? =some (.aX aa n3 e3 f3 F3)->∀W,F2 W->F3 W->i=i'/\j=j'):=by
  cases ar with
  | nil _ _ _ _ hF=>exact⟨none,rfl,rfl⟩
  | P2 _ _ _ _ _ b off c a cur vf hF l hlen ax ha iK ad tA Al Ks P3=>
   refine⟨some (b,off),hF,c,a,cur,l,rfl,ax,ha,iK,hlen,λi j pv hi hj=>⟨_,ad i j pv hi hj,?_⟩,Ks,P3⟩;rcases tA i j pv hi hj with q | ⟨E,n2,e2,f2,F2,rfl⟩
   ·exact .inl q
   ·exact .inr ⟨E,n2,e2,f2,F2,rfl,Al i j _ _ _ _ _ hi hj⟩
 have R:∀b off,p=some (b,off)->F b:=λb off hq=>by subst hq;exact hp.1
 generalize G:h.set id (au.row g sz n e f1)++[au.row 0 O A V D]=h1;have a0:h1.length=h.length+1:=by rw[<-G];simp
 have Cp:h1[id]? =some (au.row g sz n e f1):=by rw[<-G,akW (by simpa using hid)];simp [hid]
 have GB:h1[h.length]? =some (au.row 0 O A V D):=by rw[<-G,akN aon];simp
 have dH:∀k,k≠id->k<h.length->h1[k]? =h[k]?:=λk d t=>by rw[<-G,akW (by simpa using t),akQ (alJ d)]
 have inv:∀k o,h1[k]? =some o->(k=id/\o=au.row g sz n e f1)\/(k=h.length/\o=au.row 0 O A V D)\/(k≠id/\k<h.length/\h[k]? =some o):=λk o d=>by
  by_cases h2:k=id
  ·subst h2;rw[Cp]at d;injection d with d;exact .inl ⟨rfl,d.symm⟩
  ·by_cases h3:k=h.length
   ·subst h3;rw[GB]at d;injection d with d;exact .inr (.inl ⟨rfl,d.symm⟩)
   ·have h4:k<h.length:=by have:=(As.1 d).1;omega
    rw[dH k h2 h4]at d;exact .inr (.inr ⟨h2,h4,d⟩)
 let μ1:Mu:=tv μ h.length p
 have I3:μ1 h.length=p:=cG _ _ _;have H:∀k,k<h.length->μ1 k=μ k:=λk d=>eg μ _ aol
 have I4:∀x y pv,x<n->(f1 x)[y]? =some pv->((x,y)=(i,j)/\pv=.own h.length 0 0 A)\/((x,y)≠(i,j)/\(f x)[y]? =some pv):=λx y pv s hy=>by
  by_cases B:x=i
  ·subst B;rw[EF,alB]at hy;by_cases T:j=y
   ·subst T;rw[an rfl,an (by rw[hl x s];exact RF)]at hy;injection hy with hy;exact .inl ⟨rfl,hy.symm⟩
   ·rw[mg T]at hy;exact .inr ⟨λq=>T (by injection q with _ q;exact q.symm),hy⟩
  ·rw[Qm x s B]at hy;exact .inr ⟨λq=>B (by injection q),hy⟩
 have X:∀k x y b,fg h1 k x y b->(k≠h.length/\¬(k=id/\x=i/\y=j)/\fg h k x y b)\/(k=h.length/\fg h id i j b/\∃tB n2 e2 f2 F2,x<A/\(D x)[y]? =some (.aX tB n2 e2 f2 F2)/\F2 b):=λk x y b ⟨g2,E,n2,e2,f2,s3,n3,e3,f3,F3,q1,q2,q3,q4⟩=>by
  rcases inv k _ q1 with⟨rfl,C⟩ | ⟨rfl,C⟩ | ⟨h2,h3,h4⟩
  ·injection C with I J K L M;subst I J K L M;rcases I4 x y _ q2 q3 with⟨_,hq⟩ | ⟨uX,hq⟩
   ·cases hq
   ·exact .inl ⟨by omega,λ⟨_,b1,b2⟩=>uX (by rw[b1,b2]),_,_,_,_,_,_,_,_,_,_,hh,q2,hq,q4⟩
  ·injection C with I J K L M;subst I J K L M;refine .inr ⟨rfl,Yh b ?_,_,_,_,_,_,q2,q3,q4⟩;cases p with
   | none=>have:=hp.2;omega
   | some pp=>
    obtain⟨pb,U⟩:=pp;obtain⟨_,_,_,_,_,_,_,_,_,_,_,hs,_⟩:=hp;exact(hs x y _ _ _ _ _ q2 q3 b q4).1
  ·exact .inl ⟨by omega,λ⟨b1,_⟩=>h2 b1,_,_,_,_,_,_,_,_,_,_,h4,q2,q3,q4⟩
 have I5:∀b,H9 μ1 h1 b->H9 μ h b\/(∃off,p=some (b,off)):=λb ⟨k,g2,E,n2,e2,f2,base,q1,q2⟩=>by
  rcases inv k _ q1 with⟨rfl,C⟩ | ⟨rfl,C⟩ | ⟨h2,h3,h4⟩
  ·rw[H k hid]at q2;exact .inl ⟨k,_,_,_,_,_,_,hh,q2⟩
  ·rw[I3]at q2;exact .inr ⟨base,q2⟩
  ·rw[H k h3]at q2;exact .inl ⟨k,_,_,_,_,_,_,h4,q2⟩
 have qn:∀b,dX μ1 h1 b->dX μ h b:=λb l=>by
  rcases l with l | ⟨k,x,y,l⟩
  ·rcases I5 b l with q | ⟨off,q⟩
   ·exact .inl q
   ·exact .inr ⟨_,_,_,Yh b (R b off q)⟩
  ·rcases X k x y b l with⟨_,_,q⟩ | ⟨_,q,_⟩
   ·exact aok
   ·exact aok
 have nq:Fr μ h S w μ1 h1 S w:=by
  refine⟨by omega,λ_ _ _=>rfl,λ_ l=>l,λ_ l=>.inl l,λb l=>.inl (qn b l),No _,rfl,rfl,rfl,λk g2 E n2 e2 f2 d=>?_,λk d=>?_,λ_ _ _ hc=>hc,λk g2 E n2 e2 f2 b base d hm Y=>⟨Y,.inr ⟨?_,?_⟩⟩,λ_ _ _ _ _ Y=>Y⟩
  ·have t:=(As.1 d).1;by_cases Cc:k=id
   ·subst Cc;rw[hh]at d;injection d with d;injection d with I J K L M;subst I J K L M;rw[Cp];exact⟨No _,λ_=>⟨H _ hid,rfl,rfl,rfl⟩⟩
   ·rw[dH k Cc t,d];exact⟨No _,λ_=>⟨H k t,rfl,rfl,rfl⟩⟩
  ·have t:=(As.1 d).1;rw[dH k (by rintro rfl;rw[hh]at d;cases d) t];exact d
  ·have t:=(As.1 d).1;by_cases Cc:k=id
   ·subst Cc;exact⟨_,_,_,_,_,Cp⟩
   ·exact⟨_,_,_,_,_,(dH k Cc t).trans d⟩
  ·rw[H k (As.1 d).1];exact hm
 refine⟨μ1,nq,⟨λk g2 E n2 e2 f2 d=>?_,⟨λb l=>hc.ok.apart b (qn b l),λb l=>hc.ok.lt b (qn b l),hc.ok.slt,?_,hc.ok.known,λb l k x y s=>?_,λb k x y k' x' y' s zw=>?_⟩⟩⟩
 ·rcases inv k _ d with⟨rfl,C⟩ | ⟨rfl,C⟩ | ⟨h2,h3,h4⟩
  ·injection C with I J K L M;subst I J K L M;refine⟨λx s=>?_,?_⟩
   ·by_cases B:x=i
    ·subst B;rw[EF,alI];exact hl x s
    ·rw[Qm x s B];exact hl x s
   ·rw[H k hid,ky];refine⟨_,ag,rfl,rfl,Be,λx y pv s hy=>?_⟩;rcases I4 x y pv s hy with⟨hq,rfl⟩ | ⟨_,hq⟩
    ·injection hq with r1 m;subst r1 m;refine⟨v,TM,?_⟩;show cK μ1 h1 w h.length 0 0 A v;unfold cK;rw[GB];cases p with
     | none=>
      obtain⟨rfl,rfl⟩:=hp;exact⟨⟨_,_,_,rfl⟩,No _,λ_=>⟨No _,by rw[I3]⟩⟩
     | some pp=>
      obtain⟨pb,U⟩:=pp;obtain⟨_,c,a,cur,t1,rfl,t3,t4,t5,_⟩:=hp;refine⟨⟨_,_,_,rfl⟩,No _,λ_=>⟨by omega,?_⟩⟩;rw[I3];exact⟨a,c,rfl,t3,λh0=>by rw[t4 h0];simp,cur,V,_,t1,by rw[so];exact t5⟩
    ·obtain⟨u,r1,m⟩:=qm x y pv s hq;exact⟨u,r1,m.fr nq hc.ok (λ_ _ _ _ _ _ _ _=>rfl)⟩
  ·injection C with I J K L M;subst I J K L M;rw[I3];cases p with
   | none=>exact⟨λx s=>by have:=hp.2;omega,hp.2⟩
   | some pp=>
    obtain⟨pb,U⟩:=pp;obtain⟨_,c,a,cur,t1,_,t3,_,t5,t6,t7,_,_⟩:=hp;refine⟨t6,_,t1,rfl,rfl,alg (Nat.add_le_add_left (akJ _ t3) _) t5,λx y pv s hy=>?_⟩;obtain⟨u,r1,m⟩:=t7 x y pv s hy;refine⟨u,r1,?_⟩;rcases m with m | ⟨_,_,_,_,_,rfl,m⟩
    ·exact(dA.pP m).k (bN.no m)
    ·exact m
  ·obtain⟨q1,q2⟩:=hc.heap k _ _ _ _ _ h4;refine⟨q1,?_⟩;rw[H k h3];cases hm:μ k with
   | none=>rw[hm]at q2;exact q2
   | some pp=>
    obtain⟨b,base⟩:=pp;rw[hm]at q2;obtain⟨o,r1,m⟩:=q2;exact⟨o,r1,m.mono (λ_ _ _ _ _ _ hr=>hr.fr nq hc.ok (λ_ _ _ _ _ _ _ _=>rfl))⟩
 ·intro a b ga sa na ea fa gb sb nb eb fb P2 o o' ha l aV Y
  have Ju:∀k gk sk nk ek fk oo,h1[k]? =some (au.row gk sk nk ek fk)->μ1 k=some (P2,oo)->(k=h.length/\F P2)\/(k<h.length/\∃gk sk nk ek fk,h[k]? =some (au.row gk sk nk ek fk)/\μ k=some (P2,oo)):=λk gk sk nk ek fk oo d hm=>by
   rcases inv k _ d with⟨rfl,C⟩ | ⟨rfl,C⟩ | ⟨h2,h3,h4⟩
   ·rw[H k hid]at hm;exact .inr ⟨hid,_,_,_,_,_,hh,hm⟩
   ·rw[I3]at hm;exact .inl ⟨rfl,R _ _ hm⟩
   ·rw[H k h3]at hm;exact .inr ⟨h3,_,_,_,_,_,h4,hm⟩
  rcases Ju a _ _ _ _ _ _ ha aV with⟨rfl,q⟩ | ⟨q0,_,_,_,_,_,q1,q2⟩
  ·rcases Ju b _ _ _ _ _ _ l Y with⟨rfl,_⟩ | ⟨r0,_,_,_,_,_,r1,m⟩
   ·rfl
   ·exact absurd (Yh P2 q) (hc.ok.hv P2 ⟨b,_,_,_,_,_,_,r1,m⟩ _ _ _)
  ·rcases Ju b _ _ _ _ _ _ l Y with⟨rfl,r⟩ | ⟨r0,_,_,_,_,_,r1,m⟩
   ·exact absurd (Yh P2 r) (hc.ok.hv P2 ⟨a,_,_,_,_,_,_,q1,q2⟩ _ _ _)
   ·exact hc.ok.inj a b _ _ _ _ _ _ _ _ _ _ _ _ _ q1 r1 q2 m
 ·rcases I5 b l with q | ⟨off,q⟩
  ·rcases X k x y b s with⟨_,_,r⟩ | ⟨_,r,_⟩
   ·exact hc.ok.hv b q _ _ _ r
   ·exact hc.ok.hv b q _ _ _ r
  ·rcases X k x y b s with⟨_,uX,r⟩ | ⟨_,r,tB,n2,e2,f2,F2,r1,m,r3⟩
   ·exact uX (hc.ok.hh b _ _ _ _ _ _ r (Yh b (R b off q)))
   ·subst q;obtain⟨_,_,_,_,_,_,_,_,_,_,_,hs,_⟩:=hp;exact(hs x y _ _ _ _ _ r1 m b r3).2 rfl
 ·rcases X k x y b s with⟨k1,uX,r⟩ | ⟨rfl,r,tB,n2,e2,f2,F2,r1,m,r3⟩
  ·rcases X k' x' y' b zw with⟨k2,N,Z⟩ | ⟨rfl,Z,_⟩
   ·exact hc.ok.hh b _ _ _ _ _ _ r Z
   ·exact absurd (hc.ok.hh b _ _ _ _ _ _ r Z) uX
  ·rcases X k' x' y' b zw with⟨k2,N,Z⟩ | ⟨rfl,Z,aa,n3,e3,f3,F3,t1,t2,t3⟩
   ·exact absurd (hc.ok.hh b _ _ _ _ _ _ Z r) N
   ·cases p with
    | none=>have:=hp.2;omega
    | some pp=>
     obtain⟨pb,U⟩:=pp;obtain⟨_,_,_,_,_,_,_,_,_,_,_,_,hd⟩:=hp;obtain⟨e1,e2⟩:=hd x y _ _ _ _ _ x' y' _ _ _ _ _ r1 m t1 t2 b r3 t3;exact⟨rfl,e1,e2⟩
def FAb (μ:Mu) (h:List au) (sub:Nat) (b:Nat):Prop:=(∃g sz n e f base,h[sub]? =some (au.row g sz n e f)/\μ sub=some (b,base))\/∃x y,fg h sub x y b
theorem TE (hc:Core μ h S w) {id i j sub:Nat} (d:Lz h id i j sub (FAb μ h sub) h1):Fr μ h S w μ h1 S w/\Core μ h1 S w:=by
 obtain⟨g,sz,n,e,f,g2,tB,n2,e2,f2,f1,hh,hs,uX,hi,hj,ag,EF,Qm,rfl⟩:=d;have hid:id<h.length:=(As.1 hh).1;have Tb:sub<h.length:=(As.1 hs).1;obtain⟨hl,cn⟩:=hc.heap id g sz n e f hh;have RF:j<sz:=by rw[<-hl i hi];exact(As.1 hj).1
 generalize s:FAb μ h sub=F;rw[s]at EF
 have ar:∀b,F b->dX μ h b:=λb m=>by
  rw[<-s]at m;rcases m with⟨g,sz,n,e,f,base,q1,q2⟩ | ⟨x,y,q⟩
  ·exact .inl ⟨sub,_,_,_,_,_,_,q1,q2⟩
  ·exact aok
 generalize I:(h.set id (au.row g sz n e f1)).set sub au.dead=h1;have Cp:h1[id]? =some (au.row g sz n e f1):=by rw[<-I,akQ (alJ uX)];simp [hid]
 have GG:h1[sub]? =some au.dead:=by rw[<-I,alr (by simpa using Tb)]
 have dH:∀k,k≠id->k≠sub->h1[k]? =h[k]?:=λk h2 h3=>by rw[<-I,akQ (alJ h3),akQ (alJ h2)]
 have inv:∀k gk B C D E,h1[k]? =some (au.row gk B C D E)->k≠sub/\((k=id/\au.row gk B C D E=au.row g sz n e f1)\/(k≠id/\h[k]? =some (au.row gk B C D E))):=λk gk B C D E l=>by
  have h3:k≠sub:=by rintro rfl;rw[GG]at l;cases l
  refine⟨h3,?_⟩;by_cases h2:k=id
  ·subst h2;rw[Cp]at l;injection l with l;exact .inl ⟨rfl,l.symm⟩
  ·rw[dH k h2 h3]at l;exact .inr ⟨h2,l⟩
 have I4:∀x y pv,x<n->(f1 x)[y]? =some pv->((x=i/\y=j)/\pv=.aX tB n2 e2 f2 F)\/(¬(x=i/\y=j)/\(f x)[y]? =some pv):=λx y pv d hy=>by
  by_cases t:x=i
  ·subst t;rw[EF,alB]at hy;by_cases M:j=y
   ·subst M;rw[an rfl,an (by rw[hl x d];exact RF)]at hy;injection hy with hy;exact .inl ⟨⟨rfl,rfl⟩,hy.symm⟩
   ·rw[mg M]at hy;exact .inr ⟨λq=>M q.2.symm,hy⟩
  ·rw[Qm x d t]at hy;exact .inr ⟨λq=>t q.1,hy⟩
 have U:∀k x y b,fg h1 k x y b->(k=id/\x=i/\y=j/\F b)\/(k≠sub/\¬(k=id/\x=i/\y=j)/\fg h k x y b):=λk x y b ⟨g3,s3,n3,e3,f3,s4,n4,e4,f4,F4,q1,q2,q3,q4⟩=>by
  obtain⟨h3,hq⟩:=inv k _ _ _ _ _ q1;rcases hq with⟨rfl,ho⟩ | ⟨h2,h4⟩
  ·injection ho with V W X Y Z;subst V W X Y Z;rcases I4 x y _ q2 q3 with⟨⟨r1,A⟩,hq⟩ | ⟨aa,hq⟩
   ·injection hq with _ _ _ _ hq;subst hq;exact .inl ⟨rfl,r1,A,q4⟩
   ·exact .inr ⟨h3,λ⟨_,b1⟩=>aa b1,_,_,_,_,_,_,_,_,_,_,hh,q2,hq,q4⟩
  ·exact .inr ⟨h3,λ⟨b1,_⟩=>h2 b1,_,_,_,_,_,_,_,_,_,_,h4,q2,q3,q4⟩
 have I5:∀b,H9 μ h1 b->∃k gk B C D E base,k≠sub/\h[k]? =some (au.row gk B C D E)/\μ k=some (b,base):=λb ⟨k,g3,s3,n3,e3,f3,base,q1,q2⟩=>by
  obtain⟨h3,hq⟩:=inv k _ _ _ _ _ q1;rcases hq with⟨rfl,ho⟩ | ⟨h2,h4⟩
  ·exact⟨k,_,_,_,_,_,_,h3,hh,q2⟩
  ·exact⟨k,_,_,_,_,_,_,h3,h4,q2⟩
 have qn:∀b,dX μ h1 b->dX μ h b:=λb m=>by
  rcases m with m | ⟨k,x,y,m⟩
  ·obtain⟨k,_,_,_,_,_,_,_,q1,q2⟩:=I5 b m;exact .inl ⟨k,_,_,_,_,_,_,q1,q2⟩
  ·rcases U k x y b m with⟨_,_,_,q⟩ | ⟨_,_,q⟩
   ·exact ar b q
   ·exact aok
 have nq:Fr μ h S w μ h1 S w:=by
  refine⟨by rw[<-I];simp,λ_ _ _=>rfl,λ_ m=>m,λ_ m=>.inl m,λb m=>.inl (qn b m),No _,rfl,rfl,rfl,λk g3 s3 n3 e3 f3 l=>?_,λk l=>?_,λ_ _ _ hc=>hc,λk g3 s3 n3 e3 f3 b base l hm rO=>⟨rO,?_⟩,λ_ _ _ _ _ rO=>rO⟩
  ·by_cases Cc:k=id
   ·subst Cc;rw[hh]at l;injection l with l;injection l with V W X Y Z;subst V W X Y Z;rw[Cp];exact aoc
   ·by_cases J:k=sub
    ·subst J;rw[GG];trivial
    ·rw[dH k Cc J,l];exact aoc
  ·by_cases J:k=sub
   ·subst J;exact GG
   ·rw[dH k (by rintro rfl;rw[hh]at l;cases l) J];exact l
  ·by_cases J:k=sub
   ·subst J;exact .inl GG
   ·refine .inr ⟨?_,hm⟩;by_cases Cc:k=id
    ·subst Cc;exact⟨_,_,_,_,_,Cp⟩
    ·exact⟨_,_,_,_,_,(dH k Cc J).trans l⟩
 have ad:∀k x y b,k≠sub->fg h k x y b->¬F b:=λk x y b l d hF=>by
  rw[<-s]at hF;rcases hF with⟨_,_,_,_,_,_,q1,q2⟩ | ⟨_,_,q⟩
  ·exact hc.ok.hv b ⟨sub,_,_,_,_,_,_,q1,q2⟩ _ _ _ d
  ·exact l (hc.ok.hh b _ _ _ _ _ _ d q).1
 refine⟨nq,⟨λk g3 s3 n3 e3 f3 l=>?_,⟨λb m=>hc.ok.apart b (qn b m),λb m=>hc.ok.lt b (qn b m),hc.ok.slt,?_,hc.ok.known,λb m k x y d=>?_,λb k x y k' x' y' d zw=>?_⟩⟩⟩
 ·obtain⟨h3,hq⟩:=inv k _ _ _ _ _ l;rcases hq with⟨rfl,ho⟩ | ⟨h2,h4⟩
  ·injection ho with V W X Y Z;subst V W X Y Z;refine⟨λx d=>?_,?_⟩
   ·by_cases t:x=i
    ·subst t;rw[EF,alI];exact hl x d
    ·rw[Qm x d t];exact hl x d
   ·cases ky:μ k with
    | none=>rw[ky]at cn;exact cn
    | some p=>
     obtain⟨b0,Fv⟩:=p;rw[ky]at cn;obtain⟨o,q1,q2⟩:=cn;refine⟨o,q1,?_⟩;cases o with
     | cells P4 e0 z=>
      obtain⟨rfl,rfl,q3,q4⟩:=q2;refine⟨rfl,rfl,q3,λx y pv d hy=>?_⟩;rcases I4 x y pv d hy with⟨⟨rfl,rfl⟩,rfl⟩ | ⟨_,hq⟩
      ·obtain⟨v,r1,A⟩:=q4 x y _ d hj;refine⟨v,r1,?_⟩;show rz S w (.aX tB n2 e2 f2 F) v;have A:cK μ h w sub g2 0 n2 v:=A;unfold cK at A;rw[hs]at A;obtain⟨_,_,r3⟩:=A;obtain⟨_,R⟩:=r3 rfl;obtain⟨s1,T⟩:=hc.heap sub _ _ _ _ _ hs;cases G:μ sub with
       | none=>
        rw[G]at R T;have T:n2=0:=T;have R:v=.slice none 0 0:=R;subst T R;refine .nil _ _ _ _ (λb m=>?_);rw[<-s]at m;rcases m with⟨_,_,_,_,_,_,_,t2⟩ | ⟨x',y',t1,t2,t3,t4,t5,t6,t7,t8,t9,a6,K,u2,u3,u4⟩
        ·rw[G]at t2;cases t2
        ·rw[hs]at K;injection K with K;injection K with _ _ K _ _;omega
       | some p=>
        obtain⟨b,base⟩:=p;rw[G]at R T;obtain⟨a,cap,rfl,t2,t3,t4⟩:=R;obtain⟨cur,K,u2,u3⟩:=dT.cells t4 T
        have iK:base+cap*tB<=cur.size:=by
         obtain⟨Gb,e',z',p1,p2⟩:=t4;rw[K]at p1;injection p1 with p1;injection p1 with p1 _ _;subst p1;rw[so]at p2;exact p2
        have ax:H9 μ h b:=⟨sub,_,_,_,_,_,_,hs,G⟩;have N:∀(x y O P:Nat) (Q:TypeId) (f5:Nat->List PV) (L:Nat->Prop),x<n2->(f2 x)[y]? =some (.aX O P Q f5 L)->∀H,L H->fg h sub x y H:=λx y O P Q f5 L d hy H rU=>⟨_,_,_,_,_,_,_,_,_,_,hs,d,hy,rU⟩;refine .P2 tB n2 e2 f2 F b base cap a cur (λx y=>(cur[base+x*tB+y]?).getD undef) (by rw[<-s];exact .inl ⟨_,_,_,_,_,_,hs,G⟩) K s1 t2 (λh0=>by rw[t3 h0];simp) iK (λx y pv d hy=>?_) (λx y pv d hy=>?_) (λx y O P Q f5 L d hy=>?_) (λx y O P Q f5 L d hy H rU=>?_) (λx y O P Q f5 L x' y' s6 n6 e6 f6 F6 d hy zw aV H rU qq=>?_)
        ·obtain⟨u,w1,_⟩:=u3 x y pv d hy;rw[w1];rfl
        ·obtain⟨u,w1,w2⟩:=u3 x y pv d hy;rw[w1];rcases ag x d pv (akF hy)with z1 | z1
         ·exact .inl (EL z1 w2.c)
         ·exact .inr (by cases pv<;>first | exact⟨_,_,_,_,_,rfl⟩ | cases z1)
        ·obtain⟨u,w1,w2⟩:=u3 x y _ d hy;rw[w1];exact w2
        ·have hq:=N x y O P Q f5 L d hy H rU;refine⟨by rw[<-s];exact .inr ⟨_,_,hq⟩,?_⟩;rintro rfl;exact hc.ok.hv H ax _ _ _ hq
        ·exact(hc.ok.hh H _ _ _ _ _ _ (N x y O P Q f5 L d hy H rU) (N x' y' s6 n6 e6 f6 F6 zw aV H qq)).2
      ·obtain⟨u,r1,A⟩:=q4 x y pv d hq;exact⟨u,r1,A.fr nq hc.ok (λ_ _ _ _ _ _ _ _=>rfl)⟩
     | map es c=>
      obtain⟨kp,vp,en,y1,y2,y3,_⟩:=q2.2 i hi;rw[y1]at hj
      match j,hj with
      | 0,hj=>simp at hj;rw[hj]at y2;cases y2
      | 1,hj=>simp at hj;rw[hj]at y3;cases y3
      | y+2,hj=>simp at hj
     | _=>exact q2.elim
  ·obtain⟨q1,q2⟩:=hc.heap k _ _ _ _ _ h4;refine⟨q1,?_⟩;cases hm:μ k with
   | none=>rw[hm]at q2;exact q2
   | some pp=>
    obtain⟨b,base⟩:=pp;rw[hm]at q2;obtain⟨o,r1,A⟩:=q2;exact⟨o,r1,A.mono (λ_ _ _ _ _ _ hr=>hr.fr nq hc.ok (λ_ _ _ _ _ _ _ _=>rfl))⟩
 ·intro a b ga sa na ea fa gb sb nb eb fb P2 o o' ha m a0 rO
  have Ju:∀k gk B C D E,h1[k]? =some (au.row gk B C D E)->∃gk B C D E,h[k]? =some (au.row gk B C D E):=λk gk B C D E l=>by
   rcases(inv k _ _ _ _ _ l).2 with⟨rfl,_⟩ | ⟨_,q⟩
   ·exact⟨_,_,_,_,_,hh⟩
   ·exact⟨_,_,_,_,_,q⟩
  obtain⟨_,_,_,_,_,q1⟩:=Ju a _ _ _ _ _ ha;obtain⟨_,_,_,_,_,q2⟩:=Ju b _ _ _ _ _ m;exact hc.ok.inj a b _ _ _ _ _ _ _ _ _ _ _ _ _ q1 q2 a0 rO
 ·obtain⟨k0,_,_,_,_,_,_,q0,q1,q2⟩:=I5 b m;rcases U k x y b d with⟨_,_,_,q⟩ | ⟨_,_,q⟩
  ·rw[<-s]at q;rcases q with⟨_,_,_,_,_,_,r1,A⟩ | ⟨_,_,r⟩
   ·exact q0 (hc.ok.inj k0 sub _ _ _ _ _ _ _ _ _ _ _ _ _ q1 r1 q2 A)
   ·exact hc.ok.hv b ⟨k0,_,_,_,_,_,_,q1,q2⟩ _ _ _ r
  ·exact hc.ok.hv b ⟨k0,_,_,_,_,_,_,q1,q2⟩ _ _ _ q
 ·rcases U k x y b d with⟨rfl,rfl,rfl,q⟩ | ⟨k1,_,q⟩
  ·rcases U k' x' y' b zw with⟨rfl,rfl,rfl,_⟩ | ⟨k2,_,r⟩
   ·exact⟨rfl,rfl,rfl⟩
   ·exact absurd q (ad _ _ _ _ k2 r)
  ·rcases U k' x' y' b zw with⟨rfl,rfl,rfl,r⟩ | ⟨k2,_,r⟩
   ·exact absurd r (ad _ _ _ _ k1 q)
   ·exact hc.ok.hh b _ _ _ _ _ _ q r
variable {C:Start}{env:Env}{a:Act}
theorem uC.turn (hs:uC C μ h S env a w) {μ':Mu} (hf:Fr μ h S w μ' h1 S w) (hc:Core μ' h1 S w):uC C μ' h1 S env a w:=
 ⟨hc,hs.fr.trans hf,λt=>(hs.tmps t).fr hf hs.core.ok,hs.size,hs.far,hs.defers⟩
theorem uC.ex (hs:uC C μ h S env a w) (b:Pj h h1):∃μ',uC C μ' h1 S env a w:=by
 obtain⟨μ',hf,hc⟩:=TD hs.core b;exact⟨μ',hs.turn hf hc⟩
theorem uC.ab (hs:uC C μ h S env a w) {id i j sub:Nat} {h1:(Nat->Prop)->List au} (b:∀F,Lz h id i j sub F (h1 F)):∃F,uC C μ (h1 F) S env a w:=by
 obtain⟨hf,hc⟩:=TE hs.core (b (FAb μ h sub));exact⟨_,hs.turn hf hc⟩
end
section
variable {P:Program}{T:vE}{μ:Mu}{h η:List au}{k:List Nat}{S:Nat->Prop}{w:World}{C:Start}{env:Env}{a:Act}
theorem uC.agree (hs:uC C μ h S env a w) {w':World} (b:dV w w'):uC C μ h S env a w':=
 ⟨⟨hs.core.heap.agree b hs.core.ok,hs.core.ok.agree b⟩,hs.fr.trans (Fr.Cy b),λt=>(hs.tmps t).fr (Fr.Cy b) hs.core.ok,hs.size,hs.far,hs.defers⟩
theorem I6 {pv:PV} {v:Value} {w w':World} {μ μ':Mu} {h h':List au} {S S':Nat->Prop} (hs:Cx pv=true) (hv:da μ h S w pv v):da μ' h' S' w' pv v/\∀a:Value,da μ' h' S' w' pv a->a=v:=by
 cases pv with
 | int k n=>obtain rfl:=hv.p7;exact⟨bN.int _ _,λa h'=>h'.p7⟩
 | bool b=>obtain rfl:=hv.rX;exact⟨bN.bool _,λa h'=>h'.rX⟩
 | str s=>obtain rfl:=hv.sT;exact⟨bN.str _,λa h'=>h'.sT⟩
 | bn=>obtain rfl:=hv.wh;exact⟨bN.bn,λa h'=>h'.wh⟩
 | _=>cases hs
def K8:PV->Value
 | .int k n=>.int k n
 | .bool b=>.bool b
 | .str s=>.string ⟨⟨s⟩⟩
 | .bn=>.slice none 0 0
 | _=>undef
theorem xE {pv:PV} {w:World} {μ:Mu} {h:List au} {S:Nat->Prop} (hs:Cx pv=true):da μ h S w pv (K8 pv):=by
 cases pv with
 | int k n=>exact bN.int _ _
 | bool b=>exact bN.bool _
 | str s=>exact bN.str _
 | bn=>exact bN.bn
 | _=>cases hs
theorem Sv {P:Program} {K:Env->Prop} (all:List Oper) (o:Oper) (rest:List Oper) (env:Env) (h:List au) {j:Nat} {want:Bool} (hg:o.guard=some (j,want)):
  Cq P T all h K (o::rest) env=(match(all[j]?).bind (·.dst)with
     | some t=>match env t with
      | .bool b=>gu b
        (match(generalizing:=false) want with
         | true=>qop P T o.op (wJ env t (.bool true)) h (λv=>Cq P T all h K rest (gQ (wJ env t (.bool true)) o.dst v))
         | false=>Cq P T all h K rest (gQ (wJ env t (.bool true)) o.dst (.kc [])))
        (match(generalizing:=false) want with
         | true=>Cq P T all h K rest (gQ (wJ env t (.bool false)) o.dst (.kc []))
         | false=>qop P T o.op (wJ env t (.bool false)) h (λv=>Cq P T all h K rest (gQ (wJ env t (.bool false)) o.dst v)))
      | .kc []=>Cq P T all h K rest (gQ env o.dst (.kc []))
      | _=>False
     | none=>False):=by
 obtain⟨dst,op,ty,pos,after,guard⟩:=o;have hg:guard=some (j,want):=hg;rw[hg];rfl
theorem yV (z:fH P T) (ops:Array Oper) {K:Env->Prop} {Q:Act->Prop} (h:List au) (w:World) (μ:Mu) (S:Nat->Prop) (A:∀env a,K env->uC C μ h S env a w->Q a):
  ∀(l:List Oper) (env:Env) (a:Act),Cq P T ops.toList h K l env->(∀o∈l,wy C.nt o=true)->uC C μ h S env a w->wpQuiet P ops (dV w) Q l a
 | [],env,a,hp,_,hs=>A env a hp hs
 | o::rest,env,a,hp,hd,hs=>by
  have r:∀t,o.dst=some t->t<C.nt:=λt B=>by
   have:=hd o aon;unfold wy at this;rw[B]at this;simpa using this
  have s:∀o∈rest,wy C.nt o=true:=λo O=>hd o (by simp [O])
  have run:∀env',uC C μ h S env' a w->qop P T o.op env' h (λv=>Cq P T ops.toList h K rest (gQ env' o.dst v))->o.quiet P a (dV w) (wpQuiet P ops (dV w) Q rest):=λenv' d g=>by
   obtain⟨dst,op,ty,pos,after,guard⟩:=o
   have still:dN T op env' h (λv=>Cq P T ops.toList h K rest (gQ env' dst v))->Oper.quiet P ⟨dst,op,ty,pos,after,guard⟩ a (dV w) (wpQuiet P ops (dV w) Q rest):=λg=>by
    obtain⟨v,val,i,hv,R⟩:=tL (P:=P) (env:=env') z d.core.heap d.tmps (dst:=dst) (ty:=ty) (pos:=pos) (after:=after) (guard:=guard) g;refine⟨val,λw' q=>?_,yV z ops h w μ S A rest _ _ i s (d.put Fr.refl d.core hv r)⟩;unfold Oper.quietAt;rw[R w' q];exact aog
   cases op with
   | call c=>
    obtain⟨D,args,U⟩:=c;cases D with
    | value E=>
     have J:=dF d.tmps E;change Yi P (ev env' E) (args.toList.map (ev env')) h _ at g
     unfold Yi at g;split at g
     ·rename_i f F;rw[F]at J;replace g:=cO g;obtain⟨V,mf,v,W,G,⟨⟨fn,c,X,Y,Z⟩,hA⟩,i⟩:=g;obtain⟨n,i⟩:=cO i;refine⟨K8 v,λw' q=>?_,yV z ops h w μ S A rest _ _ i s (d.put Fr.refl d.core (xE n) r)⟩;have x:=d.agree q;obtain⟨hl,H⟩:=zy.get _ _ W;have L:=(DL (k:=[]) (η:=[]) (m:=0) x.core trivial rfl).1
      have P1:=hA w' (args.map a.eval) (rE μ h []) (K7 μ h [] S) L.heap L.ok (by simpa using hl.symm) (λj I hj=>by
       have M:j<args.toList.length:=by have:=(As.1 hj).1;simpa[hl]using this
       have hx:(args.toList.map (ev env'))[j]? =some (ev env' args.toList[j]):=by rw[akL,Is M];rfl
       refine⟨a.eval args.toList[j],by rw[ami];have:=Is M;simp only[akR]at this;rw[this];rfl,?_⟩;have hv:=(AF (k:=[]) (η:=[]) (m:=0) x.core trivial (H j _ I hx hj)).2.2 _ (dF x.tmps args.toList[j]);have uX:=(akA.1 G) I (akF hj);cases I with
       | kc ps=>cases uX
       | _=>exact hv)
      have qU:(execOp a.eval ⟨dst,.call ⟨.value E,args,U⟩,ty,pos,after,guard⟩).run P w'=.ok (.enter f (args.map a.eval)) w':=by
       simp only[execOp,resolve,J.WN,Deferred.ofValue,invoke,callFunc,Sem.run_bind,Sem.run_pure,Result.andThen_ok,Array.append_empty,amj];have IX:¬fn.name= "runtime.NumGoroutine" :=by simpa using Z
       simp [program,Sem.run,Result.andThen,X,IX,Y]
      unfold Oper.quietAt;rw[qU];refine⟨rfl,P1.mono λe N ⟨u,res,h',μ',S',he,hR,hv,hH,hM,y⟩=>?_⟩;subst hR;have hu:=(I6 (w':=w) (μ':=μ) (h':=h) (S':=S) n (xE (w:=N) (μ:=μ') (h:=h') (S:=S') n)).1;have NC:=(I6 (w':=N) (μ':=μ') (h':=h') (S':=S') n (xE (w:=w) (μ:=μ) (h:=h) (S:=S) n)).2 u hv;refine⟨by rw[he,NC],q.trans ⟨λb hb=>y.blocks b hb pQ,y.size,y.os,y.tape,y.output⟩⟩
     ·exact g.elim
    | _=>exact still g
   | _=>exact still g
  have skip:∀env',uC C μ h S env' a w->Cq P T ops.toList h K rest (gQ env' o.dst (.kc []))->wpQuiet P ops (dV w) Q rest (a.put o.dst undef):=λenv' d g=>
   yV z ops h w μ S A rest _ _ g s (d.put Fr.refl d.core Cm r)
  unfold wpQuiet;cases hg:o.guard with
  | none=>
   have hp:qop P T o.op env h (λv=>Cq P T ops.toList h K rest (gQ env o.dst v)):=by
    exact ane
   rw[an (by simp [Region.wanted,hg])];exact run env hs hp
  | some p=>
   obtain⟨j,want⟩:=p;rw[Sv ops.toList o rest env h hg]at hp;split at hp
   ·rename_i t hj;split at hp
    ·rename_i b he;have hy:=Cl hs hj he;obtain⟨B,hf⟩:=pz hp;have d:=hs.I1 he;cases b with
     | true=>
      have hp:=B rfl;cases want with
      | true=>rw[an aor];exact run _ d hp
      | false=>rw[mg aor];exact skip _ d hp
     | false=>
      have hp:=hf rfl;cases want with
      | true=>rw[mg aor];exact skip _ d hp
      | false=>rw[an aor];exact run _ d hp
    ·rename_i he;rw[mg aoW];exact skip _ hs hp
    ·exact anA
   ·exact anA
theorem EM:∀(σ:List (Nat×PV)) (t:Nat),CG h η k env σ->(∃v,Fz h η k (env t) v/\Gr vm σ t=v)\/Gr vm σ t=.mj
 | [],t,_=>.inr rfl
 | (b,v)::r,t,hh=>by
  obtain⟨h1,h2⟩:=hh;by_cases a:t=b
  ·subst a;exact .inl ⟨v,h1,by simp [Gr,I0]⟩
  ·simp only[Gr];rw[Nk _ _ a];exact EM r t h2
theorem K9 (hs:uC C μ h S env a w) {σ:List (Nat×PV)} (c:Dt C.h.length env h σ η):∃μ' S',uC C μ' η S' (Gr vm σ) a w:=by
 obtain⟨k,b,hm,he,hh⟩:=c;obtain⟨d,_,_⟩:=DL hs.core hh b;refine⟨rE μ h k,K7 μ h k S,d,abC hs.core hs.fr hh b hm,λt=>?_,hs.size,λt e=>?_,hs.defers⟩
 ·rcases EM σ t he with⟨v,h1,h2⟩ | h1
  ·rw[h2];exact(AF hs.core hh h1).2.2 _ (hs.tmps t)
  ·rw[h1];trivial
 ·rcases EM σ t he with⟨v,h1,h2⟩ | h1
  ·rw[hs.far t e]at h1;rw[h2];cases h1;rfl
  ·exact h1
theorem I2.mono {Q b:XQ} {e:Exit} {w:World} (hq:∀env h,Q e env h->b e env h) (hl:I2 C Q e a w):I2 C b e a w:=by
 obtain⟨μ,h,S,env,hs,c⟩:=hl;exact⟨μ,h,S,env,hs,hq env h c⟩
theorem xi:∀(l:List Nat) (x:Nat),uU l x=true->x∈l
 | [],_,h=>by cases h
 | a::r,x,h=>by
  unfold uU at h;split at h
  ·rename_i b;have:=abF b;simp [this]
  ·exact akP _ (xi r x h)
theorem yW (l:fH P T) (ops:Array Oper) {K:Env->List au->Prop} {Q:Exit->Act->World->Prop} {next:Act->World->Prop} (k:∀env h a w μ S,K env h->uC C μ h S env a w->next a w) (i:Nat) (o:Oper) (m:ops[i]? =some o)
  (hd:wy C.nt o=true) (env:Env) (h:List au) (a:Act) (w:World) (μ:Mu) (S:Nat->Prop) (hp:AG P T ops.toList K [o] env h) (hs:uC C μ h S env a w):wpOp P ops Q i next a w:=by
 have d:∀t,o.dst=some t->t<C.nt:=λt e=>by
  unfold wy at hd;rw[e]at hd;simpa using hd
 have run:∀env',uC C μ h S env' a w->pop P T o.op env' h (λv h'=>K (gQ env' o.dst v) h')->o.wp P a w next Q:=λenv' c f=>by
  obtain⟨dst,op,ty,pos,after,guard⟩:=o;refine K5 (env:=env') l c.core c.tmps f _ _ λv val h' μ' S' w' g hv hc hf=>?_;exact k _ h' _ w' μ' S' g (c.put hf hc hv d)
 have skip:∀env',uC C μ h S env' a w->K (gQ env' o.dst (.kc [])) h->next (a.put o.dst undef) w:=λenv' c f=>
  k _ h _ w μ S f (c.put Fr.refl c.core Cm d)
 unfold wpOp;simp only[m];cases hg:o.guard with
 | none=>
  have hp:pop P T o.op env h (λv h'=>K (gQ env o.dst v) h'):=by
   exact ane
  rw[an (by simp [Region.wanted,hg])];exact .inl (run env hs hp)
 | some p=>
  obtain⟨j,want⟩:=p;rw[Cn ops.toList o [] env h hg]at hp;split at hp
  ·rename_i t hj;split at hp
   ·rename_i b he;have hy:=Cl hs hj he;obtain⟨e,hf⟩:=pz hp;have c:=hs.I1 he;cases b with
    | true=>
     have hp:=e rfl;cases want with
     | true=>rw[an aor];exact .inl (run _ c hp)
     | false=>rw[mg aor];exact skip _ c hp
    | false=>
     have hp:=hf rfl;cases want with
     | true=>rw[mg aor];exact skip _ c hp
     | false=>rw[an aor];exact .inl (run _ c hp)
   ·rename_i he;rw[mg aoW];exact skip _ hs hp
   ·exact anA
  ·exact anA
theorem Yj {op:Op} {env:Env} {h:List au} {G:PV->List au->Prop} (hs:dN T op env h (λv=>G v h)):pop P T op env h G:=by
 cases op with
 | store t a x=>exact hs.elim
 | box t x=>exact hs.elim
 | alloc t=>exact hs.elim
 | makeSlice t l c=>exact hs.elim
 | buildSlice t len parts=>exact hs.elim
 | convert s d x=>
  simp only[pop];split
  ·rename_i e e2 f;simp only[dN,e,e2,f]at hs
  ·exact hs
 | binOp g t x y ty=>
  simp only[pop];split
  ·rename_i e e2 f;simp only[dN,Ul,e,e2,f]at hs
  ·exact hs
 | makeMap t r=>exact hs.elim
 | mapUpdate t m k x=>exact hs.elim
 | call c=>
  obtain⟨callee,args,i⟩:=c;cases callee with
  | value j=>exact hs.elim
  | builtin b=>cases b with
   | append=>exact hs.elim
   | copy=>exact hs.elim
   | _=>(simp only[pop];exact hs)
  | _=>(simp only[pop];exact hs)
 | _=>(simp only[pop];exact hs)
theorem I7 {st:Bool} {op:Op} {env:Env} {h:List au} {G:PV->List au->Prop} (hs:Kt P T st op env h G):pop P T op env h G:=by
 cases st with
 | true=>exact Yj hs
 | false=>exact hs
theorem GH {all:List Oper} {st:Bool} {o:Oper} {K:Env->List au->Prop} {env:Env} {h:List au} (hp:fs P T all st o (λv h'=>K (gQ env o.dst v) h') env h):AG P T all K [o] env h:=by
 unfold fs at hp;cases hg:o.guard with
 | none=>
  rw[hg]at hp;obtain⟨dst,op,ty,pos,after,guard⟩:=o;have hg:guard=none:=hg;subst hg;exact I7 hp
 | some q=>
  obtain⟨j,want⟩:=q;rw[hg]at hp;rw[Cn all o [] env h hg];simp only at hp ⊢;generalize(all[j]?).bind (·.dst)=d at hp ⊢;cases d with
  | none=>exact hp.elim
  | some t=>
   simp only at hp ⊢;generalize hv:env t=v at hp ⊢;cases v with
   | bool b=>
    simp only at hp ⊢;cases b with
    | true=>
     refine .mk (λ_=>?_) (λhc=>by cases hc);rw[GI hv];cases want with
     | true=>exact I7 hp
     | false=>exact hp
    | false=>
     refine .mk (λhc=>by cases hc) (λ_=>?_);rw[GI hv];cases want with
     | true=>exact hp
     | false=>exact I7 hp
   | kc l=>cases l with
    | nil=>exact hp
    | cons a r=>exact hp.elim
   | _=>exact hp.elim
inductive Qq (all:List Oper):Nat->Nat->Prop
 | base {x i:Nat} (h:x∈fh all i):Qq all x i
 | step {x d i:Nat} (h:d∈fh all i) (hx:Qq all x d):Qq all x i
theorem Nl:∀(l acc:List Nat) (x:Nat),x∈ddL l acc->x∈l\/x∈acc
 | [],acc,x,h=>.inr h
 | a::r,acc,x,h=>by
  unfold ddL at h;cases hi:uU acc a with
  | true=>rw[hi]at h;exact(Nl r acc x h).imp (akP _) id
  | false=>
   rw[hi]at h;rcases Nl r (a::acc) x h with h | h
   ·exact .inl (akP _ h)
   ·simp only[akM]at h;rcases h with rfl | h
    ·exact .inl aon
    ·exact .inr h
theorem DM:∀(l:List Nat) (x:Nat),x∈l->uU l x=true
 | a::r,x,h=>by
  unfold uU;cases b:Nat.beq a x with
  | true=>rfl
  | false=>
   simp only[akM]at h;rcases h with rfl | h
   ·rw[alV]at b;cases b
   ·exact DM r x h
theorem EN {all:List Oper}:∀(ord:List (Nat×Bool)) (t:List (Nat×List Nat)),(∀i x,uU (iS t i) x=true->Qq all x i)->∀i x,uU (iS (Nn all ord t) i) x=true->Qq all x i
 | [],t,hg=>hg
 | (j,b)::r,t,hg=>EN r _ (λi x a=>by
  unfold iS at a;cases c:Nat.beq j i with
  | false=>rw[c]at a;exact hg i x a
  | true=>
   rw[c]at a;have:=abF c;subst this;rcases Nl _ _ _ (xi _ _ a)with hm | hm
   ·rw[akC,List.mem_flatMap]at hm;rcases hm with hm | ⟨d,hd,hm⟩
    ·exact .base hm
    ·exact .step hd (hg d x (DM _ _ hm))
   ·simp at hm)
theorem pM {ops:Array Oper} {t:List (Nat×List Nat)} {p:Nat×Bool}:∀(c d:List (Nat×Bool)),dU ops t (c++p::d)=true->(∀o,o∈c->ma ops t o p=true)/\dU ops t (c++d)=true
 | [],d,h=>by
  simp only[alD,dU,An]at h;exact⟨λo b=>by simp at b,h.2⟩
 | a::c,d,h=>by
  simp only[alQ,dU,An,akA]at h ⊢;obtain⟨h1,h2⟩:=pM c d h.2;refine⟨λo b=>?_,λq hq=>h.1 q (by simp only[akC,akM]at hq ⊢;exact hq.imp id .inr),h2⟩;simp only[akM]at b;rcases b with rfl | b
  ·exact h.1 p aon
  ·exact h1 o b
theorem yX {ops:Array Oper} {i:Nat} {o:Oper} (c:ops[i]? =some o) {d:Nat}:d∈fh ops.toList i↔∃e,e∈o.after/\Region.binds .any e=true/\e.on=d:=by
 unfold fh;have:ops.toList[i]? =some o:=by simpa using c
 rw[this];unfold Yk;rw[List.mem_filterMap];constructor
 ·rintro⟨e,he,a⟩;cases b:Region.binds .any e with
  | true=>rw[b]at a;exact⟨e,by simpa using he,b,by simpa using a⟩
  | false=>rw[b]at a;cases a
 ·rintro⟨e,he,b,a⟩;exact⟨e,by simpa using he,by rw[b];simp [a]⟩
theorem Np (hT:fH P T) (ops:Array Oper) {t:List (Nat×List Nat)} (tj:∀i x,uU (iS t i) x=true->Qq ops.toList x i) (B:∀i,i<ops.size->∀d,d∈fh ops.toList i->d<ops.size/\d≠i)
  {K:Env->List au->Prop} {Q:Exit->Act->World->Prop} (hK:∀env h a w μ S,K env h->uC C μ h S env a w->Q .normal a w) (hd:∀o∈ops.toList,wy C.nt o=true):
  ∀(n:Nat) (l:List (Nat×Bool)) (s:oy) (listed:Array Bool) (env:Env) (h:List au) (a:Act) (w:World) (μ:Mu) (S:Nat->Prop),l.length=n->dU ops t l=true->(∀p,p∈l->p.1<ops.size)->listed.size=ops.size->
   (∀j,j<ops.size->(listed.getD j true=false↔j∈l.map (·.1)))->(∀j,j<ops.size->j∉l.map (·.1)->∀d,d∈fh ops.toList j->d∉l.map (·.1))->Sw P T ops.toList t K l s env h->uC C μ h S env a w->wpAny P .any ops Q n listed a w
 | 0,l,s,listed,env,h,a,w,μ,S,hn,_,_,L,u,_,hf,hs=>by
  obtain rfl:l=[]:=aml.1 hn;refine⟨?_,hK env h a w μ S hf hs⟩;cases hr:Region.ready .any ops listed with
  | nil=>rfl
  | cons j r=>
   have hj:j∈Region.ready .any ops listed:=by rw[hr];simp
   rw[mem_ready]at hj;obtain⟨h1,o,M,_⟩:=hj;have:=(u j (akw.1 M).1).1 h1;simp at this
 | n+1,l,s,listed,env,h,a,w,μ,S,hn,m,dh,L,u,Vk,hf,hs=>by
  have D:∀d,d<ops.size->(listed.getD d false=true↔d∉l.map (·.1)):=λd E=>by
   have:=u d E;have e:listed.getD d false=listed.getD d true:=by simp [Array.getD,L,E]
   rw[e,<-this];cases listed.getD d true<;>simp
  refine⟨λh0=>?_,λi hi=>?_⟩
  ·exfalso;cases l with
   | nil=>simp at hn
   | cons p r=>
    have hp:=dh p aon;have M:=akV hp
    have:p.1∈Region.ready .any ops listed:=by
     rw[mem_ready];refine⟨(u p.1 hp).2 aon,_,M,λe he F=>?_⟩;have hm:e.on∈fh ops.toList p.1:=(yX M).2 ⟨e,he,F,rfl⟩;obtain⟨d1,d2⟩:=B p.1 hp _ hm;rw[D _ d1];intro hc;simp only[akB,akM,akZ]at hc;rcases hc with hc | ⟨q,hq,hc⟩
     ·exact d2 hc
     ·simp only[dU,An,akA]at m;have:=m.1 q hq;unfold ma at this;simp only[An,akY]at this;rw[hc,DM _ _ hm]at this;exact absurd this.1.2 aon
    rw[h0]at this;simp at this
  ·rw[mem_ready]at hi;obtain⟨h1,N,O,Yl⟩:=hi;have U:=(akw.1 O).1
   have V:∀d,d∈fh ops.toList i->d∉l.map (·.1):=λd y=>by
    obtain⟨e,he,F,rfl⟩:=(yX O).1 y;exact(D _ (B i U _ y).1).1 (Yl e he F)
   have Ns:∀x,Qq ops.toList x i->x∉l.map (·.1):=by
    have gen:∀x j,Qq ops.toList x j->j<ops.size->(∀d,d∈fh ops.toList j->d∉l.map (·.1))->x∉l.map (·.1):=λx j W=>by
     induction W with
     | base hx=>exactλ_ hj=>hj _ hx
     | step y _ X=>exactλhj Y=>X (B _ hj _ y).1 (Vk _ (B _ hj _ y).1 (Y _ y))
    exactλx W=>gen x i W U V
   obtain⟨p,hp,G⟩:=akZ.1 ((u i U).1 h1);obtain⟨g,k,rfl⟩:=List.append_of_mem hp;obtain⟨c,st⟩:=p;simp only at G;subst G;obtain⟨H,Z⟩:=pM g k m;have Sx:ops.toList[c]? =some N:=by simpa using O
   have aa:=P5 (P:=P) (T:=T) (ops:=ops) (t:=t) (K:=K) Sx g k s env h (λq hq=>by
    have f:=H q hq;unfold ma at f;simp only[An,alw,akY]at f;have I:q.1∈(g++(c,st)::k).map (·.1):=akZ.2 ⟨q,by simp [hq],rfl⟩
    have J:uU (iS t c) q.1=false:=by
     cases F:uU (iS t c) q.1 with
     | false=>rfl
     | true=>exact absurd I (Ns _ (tj _ _ F))
    rcases f.2 with Bd | ⟨ad,z⟩
    ·exact absurd I (V _ (xi _ _ Bd))
    ·refine⟨?_,J,ad⟩;rcases z with z | z
     ·exact z
     ·rw[J]at z;cases z) hf
   have uX:∀q,q∈g++k->q.1≠c:=λq hq=>by
    rw[akC]at hq;rcases hq with hq | hq
    ·have f:=H q hq;unfold ma at f;simp only[An,akY]at f;intro he;have this:Nat.beq q.1 c=false:=f.1.1;rw[he,alV]at this;cases this
    ·have:∀(g:List (Nat×Bool)),dU ops t (g++(c,st)::k)=true->ma ops t (c,st) q=true:=λg=>by
      induction g with
      | nil=>intro hh;simp only[alD,dU,An,akA]at hh;exact hh.1 q hq
      | cons b r X=>intro hh;simp only[alQ,dU,An]at hh;exact X hh.2
     have f:=this g m;unfold ma at f;simp only[An,akY]at f;intro he;have:=f.1.1;rw[he]at this;rw[alV]at this;cases this
   have R:∀j,j∈(g++(c,st)::k).map (·.1)↔j=c\/j∈(g++k).map (·.1):=λj=>by
    simp only[alO,akB,akC,akM];constructor
    ·rintro(h | h | h)
     ·exact .inr (.inl h)
     ·exact .inl h
     ·exact .inr (.inr h)
    ·rintro(h | h | h)
     ·exact .inr (.inl h)
     ·exact .inl h
     ·exact .inr (.inr h)
   have ag:c∉(g++k).map (·.1):=λhm=>by
    obtain⟨q,hq,he⟩:=akZ.1 hm;exact uX q hq he
   have I8:AG P T ops.toList (λenv' h'=>Sw P T ops.toList t K (g++k) s env' h') [N] env h:=GH (lM (λv h' f=>f.2.2) aa);refine yW hT ops (λenv' h' a' w' μ' S' f rf=>Np hT ops tj B hK hd n (g++k) s _ env' h' a' w' μ' S' (by simp at hn ⊢;omega) Z (λq hq=>dh q (by rw[akC]at hq ⊢;exact hq.imp id (akP _))) (by simpa using L) (λj hj=>?_) (λj hj ar dd Tz=>?_) f rf) c N O (hd N (by have:=(As.1 Sx);obtain⟨h1,h2⟩:=this;rw[<-h2];exact akx h1)) env h a w μ S I8 hs
   ·by_cases A:j=c
    ·subst A;constructor
     ·intro hc;have:(listed.setIfInBounds j true).getD j true=true:=by simp [Array.getD,L,hj]
      rw[this]at hc;cases hc
     ·intro hc;exact absurd hc ag
    ·have e:(listed.setIfInBounds c true).getD j true=listed.getD j true:=getD_set_ne true (alJ A);rw[e,u j hj,R j];constructor
     ·rintro(h | h)
      ·exact absurd h A
      ·exact h
     ·exact .inr
   ·by_cases A:j=c
    ·subst A;exactλhm=>V dd Tz ((R dd).2 (.inr hm))
    ·exactλhm=>Vk j hj (λhc=>by rcases(R j).1 hc with hc | hc;exact A hc;exact ar hc) dd Tz ((R dd).2 (.inr hm))
theorem I9 {ops:Array Oper} {listed:Array Bool} {i:Nat} {L L':List Nat} (b:∀j,j∈L↔j=i\/j∈L') (c:i∉L') (k:listed.size=ops.size) (l:∀j,j<ops.size->(listed.getD j true=false↔j∈L))
  (m:∀j,j<ops.size->j∉L->∀d,d∈fh ops.toList j->d∉L) (n:∀d,d∈fh ops.toList i->d∉L):
  (∀j,j<ops.size->((listed.setIfInBounds i true).getD j true=false↔j∈L'))/\∀j,j<ops.size->j∉L'->∀d,d∈fh ops.toList j->d∉L':=by
 refine⟨λj hj=>?_,λj hj f d g hm=>?_⟩
 ·by_cases a:j=i
  ·subst a;constructor
   ·intro hc;have:(listed.setIfInBounds j true).getD j true=true:=by simp [Array.getD,k,hj]
    rw[this]at hc;cases hc
   ·intro hc;exact absurd hc c
  ·have e:(listed.setIfInBounds i true).getD j true=listed.getD j true:=getD_set_ne true (alJ a);rw[e,l j hj,b j];exact⟨λh=>h.resolve_left a,.inr⟩
 ·by_cases a:j=i
  ·subst a;exact n d g ((b d).2 (.inr hm))
  ·exact m j hj (λhc=>by rcases(b j).1 hc with hc | hc;exact a hc;exact f hc) d g ((b d).2 (.inr hm))
theorem A1 {ops:Array Oper} {t:List (Nat×List Nat)} {p q:Nat×Bool} (h:ma ops t p q=true):p.1≠q.1:=by
 unfold ma at h;simp only[An,akY]at h;intro he;have:=h.1.1;rw[he,alV]at this;cases this
theorem Sy {ops:Array Oper} {t:List (Nat×List Nat)} {p q:Nat×Bool} (h:ma ops t p q=true):q.1∉fh ops.toList p.1:=by
 unfold ma at h;simp only[An,akY]at h;intro hm;have:=h.1.2;rw[DM _ _ hm]at this;cases this
theorem wz {ops:Array Oper} {t:List (Nat×List Nat)} {p q:Nat×Bool}:∀(b a:List (Nat×Bool)),dU ops t (b++p::a)=true->q∈a->ma ops t p q=true
 | [],a,h,hq=>by simp only[alD,dU,An,akA]at h;exact h.1 q hq
 | _::b,a,h,hq=>by simp only[alQ,dU,An]at h;exact wz b a h.2 hq
theorem Ja {ops:Array Oper} {t:List (Nat×List Nat)} (g:∀i x,uU (iS t i) x=true->Qq ops.toList x i) {L:List Nat} {q:Nat×Bool} {i:Nat} {st:Bool} (e:ma ops t q (i,st)=true) (b:q.1∈L) (h:∀d,d∈fh ops.toList i->d∉L) (j:∀x,Qq ops.toList x i->x∉L):
  q.2=true/\uU (iS t i) q.1=false/\A2 ops q.1 i=true:=by
 unfold ma at e;simp only[An,alw,akY]at e
 have c:uU (iS t i) q.1=false:=by
  cases k:uU (iS t i) q.1 with
  | false=>rfl
  | true=>exact absurd b (j _ (g _ _ k))
 rcases e.2 with l | ⟨f,a⟩
 ·exact absurd b (h _ (xi _ _ l))
 ·refine⟨?_,c,f⟩;rcases a with a | a
  ·exact a
  ·rw[c]at a;cases a
def Left (ops:Array Oper) (l:List (Nat×Bool)) (R:List Nat) (listed:Array Bool):Prop:=
 listed.size=ops.size/\(∀j,j<ops.size->(listed.getD j true=false↔j∈l.map (·.1)++R))/\∀j,j<ops.size->j∉l.map (·.1)++R->∀d,d∈fh ops.toList j->d∉l.map (·.1)++R
def Snd (P:Program) (T:vE) (C:Start) (ops:Array Oper) (t:List (Nat×List Nat)) (Q:Exit->Act->World->Prop) (E:oy->Env->List au->Prop) (R:List Nat) (c:List (Nat×Bool)->Prop):Prop:=
 ∀(l:List (Nat×Bool)) (b:oy) (listed:Array Bool) (env:Env) (h:List au) (a:Act) (w:World) (μ:Mu) (S:Nat->Prop),c l->(∀p,p∈l->p.1<ops.size)->Left ops l R listed->
  rT P T ops.toList t E l b env h->uC C μ h S env a w->wpAny P .any ops Q (l.length+R.length) listed a w
theorem TF (f:fH P T) (ops:Array Oper) {t:List (Nat×List Nat)} (g:∀i x,uU (iS t i) x=true->Qq ops.toList x i) (j:∀i,i<ops.size->∀d,d∈fh ops.toList i->d<ops.size/\d≠i)
  {K:Env->List au->Prop} {Q:Exit->Act->World->Prop} (k:∀env h a w μ S,K env h->uC C μ h S env a w->Q .normal a w) (hd:∀o∈ops.toList,wy C.nt o=true) (A:List (Nat×Bool)) (m:∀p,p∈A->p.1<ops.size):
  Snd P T C ops t Q (λb env h=>Sw P T ops.toList t K A b env h) (A.map (·.1)) (λl=>dU ops t (l++A)=true):=by
 intro l b listed env h a w μ S hc n r hf hs;obtain⟨s,c,e⟩:=r;rw[show l.length+(A.map (·.1)).length=(l++A).length from by simp];rw[<-alO]at c e;exact Np f ops g j k hd _ (l++A) b listed env h a w μ S rfl hc (λp hp=>by rcases akC.1 hp with q | q;exact n p q;exact m p q) s c e (AH l b env h hf) hs
theorem aaG {ops:Array Oper} {t:List (Nat×List Nat)} {Q:Exit->Act->World->Prop} {E:oy->Env->List au->Prop} {R:List Nat} {c:List (Nat×Bool)->Prop} (f:Snd P T C ops t Q E R c) (b:List (Nat×Bool)) (h1:∀p,p∈b->p.1<ops.size):
  Snd P T C ops t Q (λd env h=>rT P T ops.toList t E b d env h) (b.map (·.1)++R) (λl=>c (l++b)):=by
 intro l d listed env h a w μ S hc g i hf hs;have e:(l++b).map (·.1)++R=l.map (·.1)++(b.map (·.1)++R):=by simp
 have:=f (l++b) d listed env h a w μ S hc (λp hp=>by rcases akC.1 hp with q | q;exact g p q;exact h1 p q) (by unfold Left;rw[e];exact i) (AI l d env h hf) hs;rw[show l.length+(b.map (·.1)++R).length=(l++b).length+R.length from by simp;omega];exact this
structure BrC (ops:Array Oper) (t:List (Nat×List Nat)) (x y:Nat) (R:List Nat) (cX cY:List (Nat×Bool)->Prop) (l:List (Nat×Bool)):Prop where
 pw:dU ops t l=true
 hd:∀p,p∈l->ma ops t p (x,false)=true/\ma ops t p (y,false)=true/\(∀d,d∈fh ops.toList p.1->d∉R)/\p.1∉R
 x:cX l
 y:cY l
theorem aee (hT:fH P T) (ops:Array Oper) {t:List (Nat×List Nat)} (M:∀i x,uU (iS t i) x=true->Qq ops.toList x i) (N:∀i,i<ops.size->∀d,d∈fh ops.toList i->d<ops.size/\d≠i)
  {Q:Exit->Act->World->Prop} (hd:∀o∈ops.toList,wy C.nt o=true) {x y:Nat} {b D:List Nat} {E F:oy->Env->List au->Prop} {cX cY:List (Nat×Bool)->Prop} (O:zo E) (R:zo F)
  (hX:Snd P T C ops t Q E b cX) (hY:Snd P T C ops t Q F D cY) (ad:∀g p k,cX (g++p::k)->cX (g++k)) (ag:∀g p k,cY (g++p::k)->cY (g++k))
  (hlen:b.length=D.length) (U:∀j,j∈x::b↔j∈y::D) (ar:x<ops.size) (ax:∀d,d∈fh ops.toList x->d∉x::b) (aV:x∉b) (a0:y∉D) (a1:∀j,j∈b->j=y\/uU (iS t j) x=true\/uU (iS t j) y=true):
  Snd P T C ops t Q (λc env h=>rT P T ops.toList t E [(x,false)] c env h/\rT P T ops.toList t F [(y,false)] c env h) (x::b) (BrC ops t x y (x::b) cX cY):=by
 have hE:zo (λc env h=>rT P T ops.toList t E [(x,false)] c env h/\rT P T ops.toList t F [(y,false)] c env h):=La (wA O _) (wA R _);intro l;generalize hn:l.length=n;induction n generalizing l with
 | zero=>?z
 | succ n ih=>?s
 all_goals
  intro c listed env h a w μ S hc dh hL hf hs;obtain⟨G,J,Vk⟩:=hL
  have V:∀d,d<ops.size->(listed.getD d false=true↔d∉l.map (·.1)++x::b):=λd W=>by
   have:=J d W;have e:listed.getD d false=listed.getD d true:=by simp [Array.getD,G,W]
   rw[e,<-this];cases listed.getD d true<;>simp
  refine⟨λh0=>?_,λi hi=>?_⟩
 case z.refine_1 | s.refine_1=>
  exfalso
  have first:∃p,p<ops.size/\p∈l.map (·.1)++x::b/\∀d,d∈fh ops.toList p->d∉l.map (·.1)++x::b:=by
   cases l with
   | nil=>exact⟨x,ar,by simp,λd X hm=>ax d X (by simpa using hm)⟩
   | cons p r=>
    have hp:=dh p aon;refine⟨p.1,hp,by simp,λd X hm=>?_⟩;rw[akC]at hm;rcases hm with hm | hm
    ·simp only[akB,akM,akZ]at hm;rcases hm with rfl | ⟨q,hq,rfl⟩
     ·exact(N _ hp _ X).2 rfl
     ·exact Sy (wz [] _ hc.pw hq) X
    ·exact(hc.hd p aon).2.2.1 d X hm
  obtain⟨p,hp,a2,a3⟩:=first
  have ho:=akV hp
  have:p∈Region.ready .any ops listed:=by
   rw[mem_ready];refine⟨(J p hp).2 a2,_,ho,λe he hb=>?_⟩;have hm:e.on∈fh ops.toList p:=(yX ho).2 ⟨e,he,hb,rfl⟩;rw[V _ (N p hp _ hm).1];exact a3 _ hm
  rw[h0]at this;simp at this
 all_goals
  rw[mem_ready]at hi;obtain⟨h1,B,K,Yl⟩:=hi;have yp:=(akw.1 K).1;have Sx:ops.toList[i]? =some B:=by simpa using K
  have H:wy C.nt B=true:=hd B (by obtain⟨h1,h2⟩:=As.1 Sx;rw[<-h2];exact akx h1)
  have I:∀d,d∈fh ops.toList i->d∉l.map (·.1)++x::b:=λd L=>by
   obtain⟨e,he,hb,rfl⟩:=(yX K).1 L;exact(V _ (N i yp _ L).1).1 (Yl e he hb)
  have Y:∀z,Qq ops.toList z i->z∉l.map (·.1)++x::b:=by
   have gen:∀z j,Qq ops.toList z j->j<ops.size->(∀d,d∈fh ops.toList j->d∉l.map (·.1)++x::b)->z∉l.map (·.1)++x::b:=λz j ha=>by
    induction ha with
    | base hx=>exactλ_ hj=>hj _ hx
    | step L _ ih=>exactλhj a4=>ih (N _ hj _ L).1 (Vk _ (N _ hj _ L).1 (a4 _ L))
   exactλz ha=>gen z i ha yp I
  have a5:y∈x::b:=(U y).2 aon;have f:=(J i yp).1 h1;rw[akC]at f
  have split:i∈l.map (·.1)\/i=x\/i=y:=by
   rcases f with f | f
   ·exact .inl f
   ·rcases akM.1 f with rfl | hq
    ·exact .inr (.inl rfl)
    ·rcases a1 i hq with h2 | h2 | h2
     ·exact .inr (.inr h2)
     ·exact absurd (by simp:x∈l.map (·.1)++x::b) (Y _ (M _ _ h2))
     ·exact absurd (by rw[akC];exact .inr a5) (Y _ (M _ _ h2))
  have a6:∀q,q∈l->q.1∉x::b:=λq hq=>(hc.hd q hq).2.2.2;rcases split with f | rfl | rfl
 case z.refine_2.inl=>obtain rfl:=aml.1 hn;simp at f
 case s.refine_2.inl=>
  obtain⟨p,hp,Z⟩:=akZ.1 f;obtain⟨g,k,rfl⟩:=List.append_of_mem hp;obtain⟨i',st⟩:=p;simp only at Z;subst Z;obtain⟨aa,a7⟩:=pM g _ hc.pw;have m:=A3 hE (P:=P) (T:=T) (ops:=ops) (t:=t) Sx g k c env h (λq hq=>Ja M (aa q hq) (by rw[akC];exact .inl (akZ.2 ⟨q,List.mem_append_left _ hq,rfl⟩)) I Y) hf
  have u:i'∉(g++k).map (·.1)++x::b:=λhm=>by
   rw[akC]at hm;rcases hm with hm | hm
   ·obtain⟨q,hq,he⟩:=akZ.1 hm;rcases akC.1 hq with hq | hq
    ·exact A1 (aa q hq) he
    ·exact A1 (wz g _ hc.pw hq) he.symm
   ·exact a6 (i',st) aon hm
  obtain⟨r1,r2⟩:=I9 (L':=(g++k).map (·.1)++x::b) (λj=>by
   simp only[alO,akB,akC,akM];constructor
   ·rintro((h | h | h) | h)
    ·exact .inr (.inl (.inl h))
    ·exact .inl h
    ·exact .inr (.inl (.inr h))
    ·exact .inr (.inr h)
   ·rintro(h | (h | h) | h)
    ·exact .inl (.inr (.inl h))
    ·exact .inl (.inl h)
    ·exact .inl (.inr (.inr h))
    ·exact .inr h) u G J Vk I
  have I8:AG P T ops.toList (λenv' h'=>rT P T ops.toList t (λc env h=>rT P T ops.toList t E [(x,false)] c env h/\rT P T ops.toList t F [(y,false)] c env h) (g++k) c env' h') [B] env h:=GH (lM (λv h' A=>A.2.2) m)
  have a9:BrC ops t x y (x::b) cX cY (g++k):=⟨a7,λq hq=>hc.hd q (by
   simp only[akC,akM]at hq ⊢;exact hq.imp id .inr),ad _ _ _ hc.x,ag _ _ _ hc.y⟩
  have q:wpOp P ops Q i' (wpAny P .any ops Q (n+(x::b).length) (listed.setIfInBounds i' true)) a w:=yW hT ops (λenv' h' a' w' μ' S' A rf=>ih (g++k) (by simp at hn ⊢;omega) c _ env' h' a' w' μ' S' a9 (λq hq=>dh q (by
   simp only[akC,akM]at hq ⊢;exact hq.imp id .inr)) ⟨by simpa using G,r1,r2⟩ A rf) i' B K H env h a w μ S I8 hs
  rw[show n+(x::b).length=n+1+b.length from by simp;omega]at q;exact q
 case z.refine_2.inr.inl | s.refine_2.inr.inl=>
  have ND:rT P T ops.toList t E (l++[(i,false)]) c env h:=AI l c env h (DN (λ_ _ _ q=>q.1) l c env h hf);have m:=A3 O (P:=P) (T:=T) (ops:=ops) (t:=t) Sx l [] c env h (λq hq=>Ja M (hc.hd q hq).1 (by rw[akC];exact .inl (akZ.2 ⟨q,hq,rfl⟩)) I Y) ND
  have u:i∉l.map (·.1)++b:=λhm=>by
   rcases akC.1 hm with hm | hm
   ·obtain⟨q,hq,he⟩:=akZ.1 hm;exact A1 (hc.hd q hq).1 he
   ·exact aV hm
  obtain⟨r1,r2⟩:=I9 (L':=l.map (·.1)++b) (λj=>by
   simp only[akC,akM];constructor
   ·rintro(h | h | h)
    ·exact .inr (.inl h)
    ·exact .inl h
    ·exact .inr (.inr h)
   ·rintro(h | h | h)
    ·exact .inr (.inl h)
    ·exact .inl h
    ·exact .inr (.inr h)) u G J Vk I
  have I8:AG P T ops.toList (λenv' h'=>rT P T ops.toList t E l c env' h') [B] env h:=GH (lM (λv h' A=>by have:=A.2.2;rwa [alv]at this) m);have q:wpOp P ops Q i (wpAny P .any ops Q (l.length+b.length) (listed.setIfInBounds i true)) a w:=yW hT ops (λenv' h' a' w' μ' S' A rf=>hX l c _ env' h' a' w' μ' S' hc.x dh ⟨by simpa using G,r1,r2⟩ A rf) i B K H env h a w μ S I8 hs;rw[hn]at q;exact q
 case z.refine_2.inr.inr | s.refine_2.inr.inr=>
  have ND:rT P T ops.toList t F (l++[(i,false)]) c env h:=AI l c env h (DN (λ_ _ _ q=>q.2) l c env h hf);have m:=A3 R (P:=P) (T:=T) (ops:=ops) (t:=t) Sx l [] c env h (λq hq=>Ja M (hc.hd q hq).2.1 (by rw[akC];exact .inl (akZ.2 ⟨q,hq,rfl⟩)) I Y) ND
  have u:i∉l.map (·.1)++D:=λhm=>by
   rcases akC.1 hm with hm | hm
   ·obtain⟨q,hq,he⟩:=akZ.1 hm;exact A1 (hc.hd q hq).2.1 he
   ·exact a0 hm
  obtain⟨r1,r2⟩:=I9 (L':=l.map (·.1)++D) (λj=>by
   rw[akC,U j,akC];simp only[akM];constructor
   ·rintro(h | h | h)
    ·exact .inr (.inl h)
    ·exact .inl h
    ·exact .inr (.inr h)
   ·rintro(h | h | h)
    ·exact .inr (.inl h)
    ·exact .inl h
    ·exact .inr (.inr h)) u G J Vk I
  have I8:AG P T ops.toList (λenv' h'=>rT P T ops.toList t F l c env' h') [B] env h:=GH (lM (λv h' A=>by have:=A.2.2;rwa [alv]at this) m);have q:wpOp P ops Q i (wpAny P .any ops Q (l.length+D.length) (listed.setIfInBounds i true)) a w:=yW hT ops (λenv' h' a' w' μ' S' A rf=>hY l c _ env' h' a' w' μ' S' hc.y dh ⟨by simpa using G,r1,r2⟩ A rf) i B K H env h a w μ S I8 hs;rw[hn,<-hlen]at q;exact q
theorem AJ {ops:Array Oper} {t:List (Nat×List Nat)}:∀(l A:List (Nat×Bool)),dU ops t (l++A)=true->dU ops t l=true
 | [],_,_=>rfl
 | p::l,A,h=>by
  simp only[alQ,dU,An,akA]at h ⊢;exact⟨λq hq=>h.1 q (List.mem_append_left _ hq),AJ l A h.2⟩
theorem Lb {ops:Array Oper} {t:List (Nat×List Nat)} {ord:List (Nat×Bool)} {x y:Nat} {a b:List Nat} (h:Ym ops t ord x y a b=true):
  a.length=b.length/\(∀p,p∈ord->ma ops t p (x,false)=true/\ma ops t p (y,false)=true/\(∀d,d∈fh ops.toList p.1->d∉x::a)/\p.1∉x::a)/\(∀j,j∈x::a↔j∈y::b)/\
  (∀d,d∈fh ops.toList x->d∉x::a)/\x∉a/\y∉b/\(∀j,j∈a->j=y\/uU (iS t j) x=true\/uU (iS t j) y=true):=by
 unfold Ym at h;simp only[An]at h;obtain⟨⟨⟨⟨⟨⟨⟨h1,h2⟩,h3⟩,h4⟩,h5⟩,h6⟩,h7⟩,h8⟩:=h;rw[akA]at h2 h3 h4 h5 h8;have no:∀(L:List Nat) (z:Nat),(!(uU L z))=true->z∉L:=λL z c hm=>by rw[DM _ _ hm]at c;cases c
 refine⟨abF h1,λp hp=>?_,λj=>⟨λhj=>xi _ _ (h3 j hj),λhj=>xi _ _ (h4 j hj)⟩,λd hd=>no _ _ (h5 d hd),no _ _ h6,no _ _ h7,λj hj=>?_⟩
 ·have:=h2 p hp;rw[An,An,An,akA]at this;exact⟨this.1.1.1,this.1.1.2,λd e=>no _ _ (this.1.2 d e),no _ _ this.2⟩
 ·have:=h8 j hj;rw[alw,alw]at this;rcases this with(q | q) | q
  ·exact .inl (abF q)
  ·exact .inr (.inl q)
  ·exact .inr (.inr q)
def aaH (P:Program) (T:vE) (all:List Oper) (t:List (Nat×List Nat)) (K:Env->List au->Prop) (fin:List (Nat×Bool)):xj->oy->Env->List au->Prop
 | []=>λa env h=>Sw P T all t K fin a env h
 | c::r=>λa env h=>rT P T all t (λa env h=>rT P T all t (aaH P T all t K fin r) [(c.2.1,false)] a env h/\rT P T all t (λa env h=>Sw P T all t K c.2.2.2 a env h) [(c.2.2.1,false)] a env h) c.1 a env h
theorem Jb {all:List Oper} {t:List (Nat×List Nat)} {K:Env->List au->Prop} {fin:List (Nat×Bool)}:∀(cs:xj),zo (aaH P T all t K fin cs)
 | []=>EO fin
 | c::r=>wA (La (wA (Jb r) _) (wA (EO c.2.2.2) _)) c.1
theorem TG {all:List Oper} {t:List (Nat×List Nat)} {K:Env->List au->Prop} {fin:List (Nat×Bool)}:∀(cs:xj) (a:oy) (env:Env) (h:List au),fwC P T all t K fin cs a env h->aaH P T all t K fin cs a env h
 | [],a,env,h,q=>yl _ _ _ _ q
 | c::r,a,env,h,q=>xk (λa env h q=>⟨xk (TG r) _ a env h q.1,yl _ _ _ _ q.2⟩) c.1 a env h q
def cbC (ops:Array Oper) (t:List (Nat×List Nat)) (fin:List (Nat×Bool)):xj->List (Nat×Bool)->Prop
 | []=>λl=>dU ops t (l++fin)=true
 | c::r=>λl=>BrC ops t c.2.1 c.2.2.1 (c.2.1::(Ku r fin).map (·.1)) (cbC ops t fin r) (λl=>dU ops t (l++c.2.2.2)=true) (l++c.1)
theorem TH {ops:Array Oper} {t:List (Nat×List Nat)} {fin:List (Nat×Bool)}:∀(cs:xj) (a:List (Nat×Bool)) (p:Nat×Bool) (b:List (Nat×Bool)),cbC ops t fin cs (a++p::b)->cbC ops t fin cs (a++b)
 | [],a,p,b,q=>by
  have q:dU ops t ((a++p::b)++fin)=true:=q;show dU ops t ((a++b)++fin)=true;rw[alA]at q ⊢;exact(pM a _ q).2
 | c::r,a,p,b,q=>by
  obtain⟨q1,q2,q3,q4⟩:=q;rw[alA a]at q1 q3;have q4:dU ops t ((a++p::b++c.1)++c.2.2.2)=true:=q4;rw[alA a (p::b) c.1]at q4;have e:a++b++c.1=a++(b++c.1):=alA _ _ _;show BrC ops t c.2.1 c.2.2.1 (c.2.1::(Ku r fin).map (·.1)) (cbC ops t fin r) (λl=>dU ops t (l++c.2.2.2)=true) (a++b++c.1);rw[e];refine⟨(pM a _ q1).2,λs hs=>q2 s ?_,TH r a p (b++c.1) q3,?_⟩
  ·simp only[akC,akM]at hs ⊢;rcases hs with hs | hs | hs
   ·exact .inl (.inl hs)
   ·exact .inl (.inr (.inr hs))
   ·exact .inr hs
  ·have q4:dU ops t ((a++(p::b++c.1))++c.2.2.2)=true:=q4;show dU ops t ((a++(b++c.1))++c.2.2.2)=true;rw[alA]at q4 ⊢;exact(pM a _ q4).2
theorem aaI {ops:Array Oper} {t:List (Nat×List Nat)} {fin:List (Nat×Bool)}:∀(cs:xj) (l:List (Nat×Bool)),cbC ops t fin cs l->dU ops t l=true
 | [],l,q=>AJ _ _ q
 | c::r,l,q=>AJ _ _ q.pw
theorem Yn {ops:Array Oper} {t:List (Nat×List Nat)} {fin:List (Nat×Bool)}:∀(cs:xj) (pre:List (Nat×Bool)),U1 ops t fin cs pre=true->cbC ops t fin cs pre
 | [],pre,q=>q
 | c::r,pre,q=>by
  have q:(Ym ops t (pre++c.1) c.2.1 c.2.2.1 ((Ku r fin).map (·.1)) (c.2.2.2.map (·.1))&&dU ops t ((pre++c.1)++c.2.2.2)&&U1 ops t fin r (pre++c.1))=true:=q;simp only[An]at q;obtain⟨⟨q1,q2⟩,q3⟩:=q;obtain⟨d,b,e,f,g,h,i⟩:=Lb q1;have a:=Yn r _ q3;exact⟨aaI r _ a,b,a,q2⟩
theorem Yo (f:fH P T) (ops:Array Oper) {t:List (Nat×List Nat)} (g:∀i x,uU (iS t i) x=true->Qq ops.toList x i) (k:∀i,i<ops.size->∀d,d∈fh ops.toList i->d<ops.size/\d≠i)
  {K:Env->List au->Prop} {Q:Exit->Act->World->Prop} (l:∀env h a w μ S,K env h->uC C μ h S env a w->Q .normal a w) (hd:∀o∈ops.toList,wy C.nt o=true) (fin:List (Nat×Bool)):
  ∀(cs:xj) (pre:List (Nat×Bool)),U1 ops t fin cs pre=true->(∀p,p∈Ku cs fin->p.1<ops.size)->Snd P T C ops t Q (aaH P T ops.toList t K fin cs) ((Ku cs fin).map (·.1)) (cbC ops t fin cs)
 | [],pre,_,b=>TF (C:=C) f ops g k l hd fin b
 | c::r,pre,q,b=>by
  have q:(Ym ops t (pre++c.1) c.2.1 c.2.2.1 ((Ku r fin).map (·.1)) (c.2.2.2.map (·.1))&&dU ops t ((pre++c.1)++c.2.2.2)&&U1 ops t fin r (pre++c.1))=true:=q;simp only[An]at q;obtain⟨⟨q1,q2⟩,q3⟩:=q;obtain⟨v,I,n,z,A,B,D⟩:=Lb q1;have b:∀p,p∈c.1++(c.2.1,false)::Ku r fin->p.1<ops.size:=b;have s:c.2.1<ops.size:=b (c.2.1,false) aon;have u:∀p,p∈Ku r fin->p.1<ops.size:=λp hp=>b p (by simp [hp])
  have m:∀j,j∈c.2.1::(Ku r fin).map (·.1)->j<ops.size:=λj hj=>by
   rcases akM.1 hj with rfl | hj
   ·exact s
   ·obtain⟨p,hp,rfl⟩:=akZ.1 hj;exact u p hp
  have E:=Yo f ops g k l hd fin r (pre++c.1) q3 u;have F:=TF (C:=C) f ops g k l hd c.2.2.2 (λp hp=>m p.1 ((n p.1).2 (akP _ (akZ.2 ⟨p,hp,rfl⟩))))
  have G:=aee (C:=C) f ops g k hd (x:=c.2.1) (y:=c.2.2.1) (Jb r) (EO c.2.2.2) E F (TH r) (λH p J q=>by
   rw[alA]at q ⊢;exact(pM H _ q).2) v n s z A B D
  have out:=aaG G c.1 (λp hp=>b p (by simp [hp]))
  have e:(Ku (c::r) fin).map (·.1)=c.1.map (·.1)++c.2.1::(Ku r fin).map (·.1):=by
   show(c.1++(c.2.1,false)::Ku r fin).map (·.1)=_;simp
  rw[e];exact out
theorem U2 (k:fH P T) (ops:Array Oper) {cs:xj} {fin:List (Nat×Bool)} (hc:Jc ops cs fin=true)
  {K:Env->List au->Prop} {Q:Exit->Act->World->Prop} (l:∀env h a w μ S,K env h->uC C μ h S env a w->Q .normal a w) (hd:∀o∈ops.toList,wy C.nt o=true) {env:Env} {h:List au} {a:Act} {w:World}
  (hf:fwC P T ops.toList (Nn ops.toList (Ku cs fin) []) K fin cs [] env h) (hs:uC C μ h S env a w):wpAny P .any ops Q ops.size (Array.replicate ops.size false) a w:=by
 unfold Jc at hc;simp only[An]at hc;obtain⟨⟨⟨hlen,b⟩,f⟩,c⟩:=hc;rw[akA]at b f;have hlen:=abF hlen;generalize m:Nn ops.toList (Ku cs fin) []=t at*;have n:∀i x,uU (iS t i) x=true->Qq ops.toList x i:=by rw[<-m];exact EN _ [] (λi x q=>by simp [iS,uU]at q)
 have r:∀p,p∈Ku cs fin->p.1<ops.size:=λp hp=>by
  have:=f p hp;rw[An]at this;exact akS this.1
 have g:∀j,j<ops.size->j∈(Ku cs fin).map (·.1):=λj hj=>xi _ _ (b j (amk.2 hj))
 have s:∀i,i<ops.size->∀d,d∈fh ops.toList i->d<ops.size/\d≠i:=λi hi d u=>by
  obtain⟨p,hp,rfl⟩:=akZ.1 (g i hi);have:=f p hp;rw[An,akA]at this;have:=this.2 d u;rw[An]at this;exact⟨akS this.1,λhe=>by rw[he,alV]at this;cases this.2⟩
 have out:=Yo (C:=C) k ops n s l hd fin cs [] c r
 have:=out [] [] (Array.replicate ops.size false) env h a w μ S (Yn cs [] c) (λp hp=>by simp at hp)
  ⟨by simp,λj hj=>⟨λ_=>by simpa using g j hj,λ_=>by simp [Array.getD,hj]⟩,λj hj hn=>absurd (g j hj) (by simpa using hn)⟩
  (TG cs [] env h hf) hs
 have e:([]:List (Nat×Bool)).length+((Ku cs fin).map (·.1)).length=ops.size:=by simpa using hlen
 rw[e]at this;exact this
theorem aaJ {J:List (Nat×PV)->List au->Prop} {env:Env} {h:List au} {a:Act} {w:World} (hg:Du C.h.length J env h):∀{μ:Mu} {S:Nat->Prop},uC C μ h S env a w->∃σ η μ3 b,uC C μ3 η b (Gr vm σ) a w/\J σ η:=by
 induction hg with
 | mk σ η f hj=>
  intro μ S hs;obtain⟨μ3,b,c⟩:=K9 hs f;exact⟨σ,η,μ3,b,c,hj⟩
 | ex h1 g k d=>
  intro μ S hs;obtain⟨μ1,e⟩:=hs.ex g;exact d e
 | ab id i j sub h1 l k d=>
  intro μ S hs;obtain⟨F,e⟩:=hs.ab l;exact d F e
theorem aaK {m:Nat} {A B:XQ->Env->List au->Prop} {Q:XQ} {env:Env} {h:List au} {a:Act} {w:World} {S:Nat->Prop} (hv:Au m A B Q env h):∀{μ:Mu},uC C μ h S env a w->
  ∃μ' h',uC C μ' h' S env a w/\(A (XQ.then (B Q) Q) env h'\/∃J,A (XQ.then (Du m J) Q) env h'/\∀σ η,J σ η->B Q (Gr vm σ) η):=by
 induction hv with
 | direct hd=>exactλhs=>⟨_,_,hs,.inl hd⟩
 | cut J b e=>exactλhs=>⟨_,_,hs,.inr ⟨J,b,e⟩⟩
 | ex h1 f g c=>
  intro μ hs;obtain⟨μ1,d⟩:=hs.ex f;exact c d
 | ab id i j sub h1 b g c=>
  intro μ hs;obtain⟨F,d⟩:=hs.ab b;exact c F d
theorem tl (g:fH P T) (m:P.follows .mixedOrders=true):∀(c:Code) (Q:XQ) (env:Env) (h:List au) (a:Act) (w:World) (μ:Mu) (S:Nat->Prop),
  vc P T C.h.length c Q env h->codeOk C.nt c=true->uC C μ h S env a w->c.wp P (I2 C Q) a w
 | .skip,Q,env,h,a,w,μ,S,hv,_,hs=>wp_skip ⟨μ,h,S,env,hs,hv⟩
 | .label _,Q,env,h,a,w,μ,S,hv,_,hs=>wp_label ⟨μ,h,S,env,hs,hv⟩
 | .exit _,Q,env,h,a,w,μ,S,hv,_,hs=>wp_exit ⟨μ,h,S,env,hs,hv⟩
 | .ret,Q,env,h,a,w,μ,S,hv,_,hs=>wp_ret ⟨μ,h,S,env,hs,hv⟩
 | .region id ops d,Q,env,h,a,w,μ,S,hv,zF,hs=>by
  simp only[codeOk,An,akA]at zF;have hd:∀o∈ops.toList,wy C.nt o=true:=zF.1;cases d with
  | false=>
   refine wp_region_list (Co g ops (Q:=I2 C Q) (λenv h a w μ S hq hs=>⟨μ,h,S,env,hs,hq⟩) ops.toList env h a w μ S hv hd hs)
  | true=>
   have quiet:Cq P T ops.toList h (λenv'=>Q .normal env' h) ops.toList env->(Code.region id ops true).wp P (I2 C Q) a w:=λhv=>by
    refine wp_region_quiet (C:=dV w) m (by simpa using zF.2) (dV.drew w) ?_;exact yV g ops h w μ S (λenv a hq hs w' B=>⟨μ,h,S,env,hs.agree B,hq⟩) ops.toList env a hv hd hs
   have hv:(match ops.toList.all (λo=>Lc o.op)with
    | true=>Cq P T ops.toList h (λenv'=>Q .normal env' h) ops.toList env
    | false=>Jd P T C.h.length ops (λenv' h'=>Q .normal env' h') env h):=hv
   split at hv
   ·exact quiet hv
   ·cases hv with
    | quiet hq=>exact quiet hq
    | QW cs fin hc hf=>
     refine wp_region_any m ?_;exact U2 (C:=C) g ops hc (K:=abE Q) (Q:=I2 C Q) (λenv h a w μ S hq hs=>⟨μ,h,S,env,hs,hq⟩) hd hf (hs.agree (dV.drew w))
    | float ord hc hf=>
     refine wp_region_any m ?_;unfold TJ at hc;simp only[An,akA,akY]at hc;obtain⟨⟨⟨hlen,D⟩,U⟩,A⟩:=hc;have hlen:=abF hlen;have W:∀p,p∈ord->p.1<ops.size:=λp hp=>akS (U p hp).1
     have X:(ord.map (·.1)).Nodup:=by
      have:∀(l:List (Nat×Bool)),dU ops (Nn ops.toList ord []) l=true->(l.map (·.1)).Nodup:=λl=>by
       induction l with
       | nil=>simp
       | cons p r s=>
        intro hh;simp only[dU,An,akA]at hh;simp only[akB,List.nodup_cons];refine⟨λhm=>?_,s hh.2⟩;obtain⟨q,hq,he⟩:=akZ.1 hm;have:=hh.1 q hq;unfold ma at this;simp only[An,akY]at this;have:=this.1.1;rw[he,alV]at this;cases this
      exact this _ A
     have E:∀j,j<ops.size->j∈ord.map (·.1):=λj hj=>xi _ _ (D j (amk.2 hj))
     exact Np g ops (C:=C) (EN ord [] (λi x G=>by simp [iS,uU]at G)) (λi hi d Y=>by
      obtain⟨p,hp,rfl⟩:=akZ.1 (E i hi);have:=(U p hp).2 d Y;exact⟨akS this.1,λhe=>by rw[he,alV]at this;cases this.2⟩)
      (K:=λenv' h'=>Q .normal env' h') (Q:=I2 C Q) (λenv h a w μ S hq hs=>⟨μ,h,S,env,hs,hq⟩) hd ops.size ord [] _ env h a _ μ S hlen A W aon (λj hj=>⟨λ_=>E j hj,λ_=>by simp [Array.getD,hj]⟩) (λj hj hn=>absurd (E j hj) hn) (yl _ _ _ _ hf) (hs.agree (dV.drew w))
 | .seq x y,Q,env,h,a,w,μ,S,hv,zF,hs=>by
  simp only[codeOk,An]at zF;have hv:Au C.h.length (vc P T C.h.length x) (vc P T C.h.length y) Q env h:=hv;obtain⟨μ,h,hs,hd | ⟨J,H,u⟩⟩:=aaK hv hs
  ·refine wp_seq (Code.wp_mono (λe n w' hl=>?_) (tl g m x _ env h a w μ S hd zF.1 hs));cases e with
   | normal=>
    obtain⟨μ',h',S',env',z,hq⟩:=hl;exact tl g m y Q env' h' n w' μ' S' hq zF.2 z
   | exit id=>exact hl
   | goto l=>exact hl
   | ret=>exact hl
   | panic I=>exact hl
   | outgrown=>exact hl
  ·refine wp_seq (Code.wp_mono (λe n w' hl=>?_) (tl g m x _ env h a w μ S H zF.1 hs));cases e with
   | normal=>
    obtain⟨μ',h',S',env',z,hg⟩:=hl;obtain⟨σ,η,μ3,Z,L,hj⟩:=aaJ hg z;exact tl g m y Q _ η n w' μ3 Z (u σ η hj) zF.2 L
   | exit id=>exact hl
   | goto l=>exact hl
   | ret=>exact hl
   | panic I=>exact hl
   | outgrown=>exact hl
 | .cond c x y,Q,env,h,a,w,μ,S,hv,zF,hs=>by
  simp only[codeOk,An]at zF
  have hv:(match ev env c with
   | .bool t=>gu t (vc P T C.h.length x Q env h) (vc P T C.h.length y Q env h)
   | _=>False):=hv
  have hc:=dF hs.tmps c;split at hv
  ·rename_i b he;rw[he]at hc;obtain⟨h1,h2⟩:=pz hv;exact wp_cond_split hc.rX (λu=>tl g m x Q env h a w μ S (h1 u) zF.1 hs) (λu=>tl g m y Q env h a w μ S (h2 u) zF.2 hs)
  ·exact hv.elim
 | .block id c,Q,env,h,a,w,μ,S,hv,zF,hs=>by
  refine wp_block (Code.wp_mono (λe n w' hl=>?_) (tl g m c _ env h a w μ S hv zF hs));cases e with
  | exit f=>
   obtain⟨μ',h',S',env',z,hq⟩:=hl;show if f=id then I2 C Q .normal n w' else I2 C Q (.exit f) n w'
   simp only[XQ.inBlock]at hq;by_cases hid:f=id
   ·rw[an hid];subst hid;rw[show Nat.beq f f=true by simp]at hq;exact⟨μ',h',S',env',z,hq⟩
   ·rw[mg hid]
    have:Nat.beq f id=false:=by
     cases u:Nat.beq f id with
     | true=>exact(hid (abF u)).elim
     | false=>rfl
    rw[this]at hq;exact⟨μ',h',S',env',z,hq⟩
  | normal=>exact hl
  | goto l=>exact hl
  | ret=>exact hl
  | panic I=>exact hl
  | outgrown=>exact hl
 | .loop c,Q,env,h,a,w,μ,S,hv,zF,hs=>by
  intro b k cs;replace hv:xc C.h.length (λnext=>vc P T C.h.length c (XQ.then next Q)) env h:=hv
  have key:∀(a:Act) (w:World) (μ:Mu) (S:Nat->Prop),uC C μ h S env a w->∃e n w',I2 C Q e n w'/\Arrives P (lone (b.at a (.code c::.inLoop c::k)) cs w) b k cs e n w':=by
   clear hs;induction hv with
   | take σ η ht V s=>
    intro a w μ S hs;obtain⟨μ0,S0,M⟩:=K9 hs ht;exact s a w μ0 S0 M
   | ex h1 G V s=>
    intro a w μ S hs;obtain⟨μ1,O⟩:=hs.ex G;exact s a w μ1 S O
   | ab id i j sub h1 H V s=>
    intro a w μ S hs;obtain⟨F,O⟩:=hs.ab H;exact s F a w μ S O
   | step N hN u s=>
    intro a w μ S hs;obtain⟨e,a₁,w₁,hq,v⟩:=tl g m c _ _ _ a w μ S u zF hs b (.inLoop c::k) cs;cases e with
    | normal=>
     obtain⟨μ2,h2,S2,aa,R,hn⟩:=hq;obtain⟨e₂,a₂,w₂,hq₂,harr₂⟩:=s _ _ hn a₁ w₁ μ2 S2 R;exact⟨e₂,a₂,w₂,hq₂,.of_steps (Steps.trans v (.one step_inLoop)) harr₂⟩
    | exit id=>exact⟨_,a₁,w₁,hq,.pass (x:=.inLoop c) rfl (λ_ _=>.inl aon) v⟩
    | goto l=>exact⟨_,a₁,w₁,hq,.pass (x:=.inLoop c) rfl (λ_ _=>.inl aon) v⟩
    | ret=>exact⟨_,a₁,w₁,hq,.pass (x:=.inLoop c) rfl (λ_ _=>.inl aon) v⟩
    | panic I=>exact⟨_,a₁,w₁,hq,.pass (x:=.inLoop c) rfl (λ_ _=>.inl aon) v⟩
    | outgrown=>exact⟨_,a₁,w₁,hq,.pass (x:=.inLoop c) rfl (λ_ _=>.inl aon) v⟩
  obtain⟨e,n,w',hq,v⟩:=key a w μ S hs;exact⟨e,n,w',hq,.of_steps (.one step_loop) v⟩
 | .rangeFunc _ _ _ _,Q,env,h,a,w,μ,S,hv,_,_=>hv.elim
 | .scope _,Q,env,h,a,w,μ,S,hv,_,_=>hv.elim
 | .goto _,Q,env,h,a,w,μ,S,hv,_,_=>hv.elim
 | .refuse _,Q,env,h,a,w,μ,S,hv,_,_=>hv.elim
theorem Yq (m:fH P T) (o:dT μ h S w) (t:Nat) (d:PV) (v:Value) (j:da μ h S w d v) {K:PV->Prop} (hp:Dn T t d h K):∃pv val,K pv/\da μ h S w pv val/\(do loadVar t (<-asAddr v):Sem Value).run P w=.ok val w:=by
 obtain⟨pv,val,p,hv,c⟩:=HY (P:=P) (dst:=none) (ty:=0) (pos:= "") (after:=#[]) (guard:=none) (a:=⟨#[v],[]⟩) m o t (.tmp 0) d (by simpa[Act.eval]using j) hp;refine⟨pv,val,p,hv,?_⟩;have:=c w (dV.refl w);have he:(execOp (Act.eval ⟨#[v],[]⟩) ⟨none,.load t (.tmp 0),0, "",#[],none⟩)=(do pure (Next.value (<-Instr.loadAt t v)):Sem Next):=rfl;rw[he]at this
 have k:∃l,v=.pointer (some l):=by
  unfold Dn at hp;split at hp
  ·obtain⟨b,off,r,q,_⟩:=j.Dh;exact⟨_,q⟩
  ·rename_i id gen i off;split at hp
   ·rename_i g sz n e f hg;obtain⟨rfl,_⟩:=hp;have c:=j.Ah;unfold dE at c;rw[gn hg]at c;obtain⟨_,_,c⟩:=c;obtain⟨_,b,base,_,_,hv⟩:=c rfl;exact⟨_,hv⟩
   ·exact anA
  ·exact anA
 obtain⟨l,rfl⟩:=k;simp only[Instr.loadAt,Instr.sureAddr,asAddr,Sem.run_bind,Sem.run_pure,Result.andThen_ok]at this ⊢;cases hl:(loadVar t l).run P w with
 | ok u w'=>
  rw[hl]at this;simp only[Result.andThen]at this;injection this with h1 h2;injection h1 with h1;rw[h1,h2]
 | halt x w'=>rw[hl]at this;cases this
theorem xF (c:fH P T) (hs:uC C μ h S env a w):∀(rs:List ResultVar) (K:List PV->Prop),A4 T env h rs K->∃(vs:List PV) (us:List Value),K vs/\us.length=vs.length/\(∀(j:Nat) (pv:PV),vs[j]? =some pv->∃u,us[j]? =some u/\da μ h S w pv u)/\
  (rs.mapM (fun | .tmp t=>pure (a.tmps.getD t undef) | .cell d t=>(do loadVar t (<-asAddr (a.tmps.getD d undef))):ResultVar->Sem Value)).run P w=.ok us w
 | [],K,hp=>⟨[],[],hp,rfl,λj pv hj=>by simp at hj,rfl⟩
 | .tmp t::r,K,hp=>by
  obtain⟨vs,us,b,h1,h2,h3⟩:=xF c hs r _ hp;refine⟨env t::vs,a.tmps.getD t undef::us,b,by simp [h1],λj pv hj=>?_,?_⟩
  ·cases j with
   | zero=>simp at hj;subst hj;exact⟨_,rfl,hs.tmps t⟩
   | succ j=>simp at hj;obtain⟨u,q1,q2⟩:=h2 j pv hj;exact⟨u,by simpa using q1,q2⟩
  ·simp only[List.mapM_cons,Sem.run_bind,Sem.run_pure,Result.andThen_ok,h3]
 | .cell d t::r,K,hp=>by
  obtain⟨pv,val,b,hv,e⟩:=Yq c hs.core.heap t _ _ (hs.tmps d) hp;obtain⟨vs,us,b,h1,h2,h3⟩:=xF c hs r _ b;refine⟨pv::vs,val::us,b,by simp [h1],λj f hj=>?_,?_⟩
  ·cases j with
   | zero=>simp at hj;subst hj;exact⟨_,rfl,hv⟩
   | succ j=>simp at hj;obtain⟨u,q1,q2⟩:=h2 j f hj;exact⟨u,by simpa using q1,q2⟩
  ·simp only[List.mapM_cons,Sem.run_bind,e,Result.andThen_ok,h3,Sem.run_pure]
end
section
variable {P:Program}{T:vE}
def valOf:List Value->Value
 | [v]=>v
 | us=>.tuple us.toArray
theorem P7 {fn:Func} {tmps:Array Value} {us:List Value} {w:World}
  (hm:(fn.results.toList.mapM (fun | .tmp t=>pure (tmps.getD t undef) | .cell b t=>(do loadVar t (<-asAddr (tmps.getD b undef))):ResultVar->Sem Value)).run P w=.ok us w):
  (results fn tmps).run P w=.ok (valOf us) w:=by
 unfold results;rw[Array.mapM_eq_mapM_toList];simp only[map_eq_pure_bind,bind_assoc,pure_bind,Sem.run_bind]
 have key:∀X:Result (List Value),X=.ok us w->(X.andThen λa w'=>Sem.run P (pure (if h:a.toArray.size=1 then a.toArray[0]else Value.tuple a.toArray)) w')=.ok (valOf us) w:=by
  rintro _ rfl;simp only[Result.andThen_ok,Sem.run_pure];congr 1
  match us with
  | []=>rfl
  | [v]=>rfl
  | v::u::r=>simp [valOf]
 exact key _ hm
theorem Yr {C:Start} {m:Nat} {R:PV->List au->Prop} {env:Env} {h:List au} {a:Act} {w:World} {S:Nat->Prop} {vs:List PV} {us:List Value} (d:Ends m R h vs):∀{μ:Mu},uC C μ h S env a w->
  (∀(j:Nat) (pv:PV),vs[j]? =some pv->∃u,us[j]? =some u/\da μ h S w pv u)->∃μ' h',uC C μ' h' S env a w/\(∀(j:Nat) (pv:PV),vs[j]? =some pv->∃u,us[j]? =some u/\da μ' h' S w pv u)/\
   vs.all qo=true/\∃(k:List Nat) (res:PV) (η:List au),uO (uu η k)=true/\m<=k.length/\Fz h' η k (oneOf vs) res/\qe h' η k m 0 η k/\R res η:=by
 induction d with
 | mk hn k res η b hm e hh f=>exactλhs h2=>⟨_,_,hs,h2,hn,k,res,η,b,hm,e,hh,f⟩
 | ex h1 g b c=>
  intro μ hs h2;obtain⟨μ1,hf,hc⟩:=TD hs.core g;exact c (hs.turn hf hc) (λj pv hj=>let⟨u,q1,q2⟩:=h2 j pv hj;⟨u,q1,q2.fr hf hs.core.ok⟩)
 | ab id i j sub h1 l b c=>
  intro μ hs h2;obtain⟨hf,hc⟩:=TE hs.core (l (FAb μ _ sub));exact c _ (hs.turn hf hc) (λj pv hj=>let⟨u,q1,q2⟩:=h2 j pv hj;⟨u,q1,q2.fr hf hs.core.ok⟩)
theorem ACall.aeD (q:fH P T) (D:P.follows .mixedOrders=true) {f:FuncId} {fn:Func} {c:Code} (hf:P.funcs[f]? =some fn) (s:fn.body=some c) (E:(fn.name== "runtime.NumGoroutine")=false)
  (args:List PV) (h:List au) (R:PV->List au->Prop) (hn:Nat.ble args.length fn.ntmps=true) (zF:codeOk fn.ntmps c=true)
  (hv:vc P T h.length c (aeC T fn.results.toList h.length R) (zE args) h):ACall P f args h R:=by
 refine⟨⟨fn,c,hf,s,E⟩,λw vs μ S F G U H=>?_⟩;have hn:=akS hn
 let C:Start:=⟨μ,h,S,w,fn.ntmps⟩
 have hs:uC C μ h S (zE args) ⟨vs++Array.replicate (fn.ntmps - vs.size) undef,[]⟩ w:=by
  refine⟨⟨F,G⟩,Fr.refl,λt=>?_,by simp;show _=fn.ntmps;omega,λt I=>?_,rfl⟩
  ·unfold zE;rw[akv];cases J:args[t]? with
   | none=>trivial
   | some pv=>
    obtain⟨v,h1,h2⟩:=H t pv J;have K:t<vs.size:=(akw.1 h1).1
    have:(vs++Array.replicate (fn.ntmps - vs.size) undef).getD t undef=v:=by
     rw[Array.getD_eq_getD_getElem?,alo K,h1];rfl
    simp only[amB];rw[this];exact da.aaF h2
  ·unfold zE;rw[akv,akT]
   ·rfl
   ·exact alg hn I
 refine calls_of_wp hf s ?_;refine Code.wp_mono (λe y w' hl=>?_) (tl (C:=C) q D c _ _ h _ w μ S hv zF hs);obtain⟨μ',h',S',env',m,hq⟩:=hl
 have fin:A4 T env' h' fn.results.toList (Ends h.length R h')->y.defers=[]/\∃v,(results fn y.tmps).run P w'=.ok v w'/\
   (∃(z:Value) (res:PV) (g:List au) (μ'':Mu) (i:Nat->Prop),Ending.returned v=.returned z/\R res g/\da μ'' g i w' res z/\dT μ'' g i w'/\yI μ'' g i w'/\Fr μ h S w μ'' g i w'):=λL=>by
  obtain⟨d,us,M,h1,h2,h3⟩:=xF q m _ _ L;refine⟨m.defers,_,P7 h3,?_⟩;obtain⟨μ',h',m,h2,o,k,res,η,A,hm,N,hh,O⟩:=Yr M m h2
  have p:da μ' h' S' w' (oneOf d) (valOf us):=by
   have key:(∀v,d≠[v])->da μ' h' S' w' (oneOf d) (valOf us):=λn=>by
    have Q:oneOf d=.kc d:=by
     match d,n with
     | [],_=>rfl
     | [v],n=>exact(n v rfl).elim
     | a::b::r,_=>rfl
    have e2:valOf us=.tuple us.toArray:=by
     match us,h1 with
     | [],_=>rfl
     | [v],h1=>
      match d,h1,n with
      | [x],_,n=>exact(n x rfl).elim
     | a::b::r,_=>rfl
    rw[Q,e2];refine⟨_,rfl,by simpa using h1,λj pv hj=>?_⟩;obtain⟨u,q1,q2⟩:=h2 j pv hj;refine⟨u,by simpa using q1,?_⟩;have hp:qo pv=true:=(akA.1 o) pv (akF hj);cases pv with
    | kc ps=>cases hp
    | _=>exact q2
   match d,us,h1 with
   | [v],[u],_=>
    obtain⟨V,q1,q2⟩:=h2 0 v rfl;simp at q1;subst q1;exact q2
   | [],us,_=>exact key (λv hv=>by cases hv)
   | a::b::r,us,_=>exact key (λv hv=>by cases hv)
  obtain⟨B,_,_⟩:=DL m.core hh A;exact⟨_,res,η,rE μ' h' k,K7 μ' h' k S',rfl,O,(AF m.core hh N).2.2 _ p,B.heap,B.ok,abC (C:=C) m.core m.fr hh A hm⟩
 cases e with
 | ret=>exact fin hq
 | normal=>exact fin hq
 | exit id=>exact hq.elim
 | goto l=>exact hq.elim
 | panic W=>exact hq.elim
 | outgrown=>exact hq.elim
theorem ACall.mono {f:FuncId} {args:List PV} {h:List au} {R a:PV->List au->Prop} (hc:ACall P f args h R) (b:∀res h',R res h'->a res h'):ACall P f args h a:=
 ⟨hc.1,λw vs μ S c d g i=>(hc.2 w vs μ S c d g i).mono λe w' ⟨v,res,h',μ',S',he,j,rest⟩=>⟨v,res,h',μ',S',he,b _ _ j,rest⟩⟩
end
def tM (N:Nat):PV->PV
 | .own id gen off len=>.own (N+id) gen off len
 | .bc id gen i off=>.bc (N+id) gen i off
 | .pZ id=>.pZ (N+id)
 | .vg f dp=>.vg f (yJ (N+·) dp)
 | v=>v
def SA (N:Nat):PV->PV
 | .agg cs=>.agg (cs.map (tM N))
 | v=>tM N v
def uN (N:Nat):PV->PV
 | .kc vs=>.kc (vs.map (SA N))
 | v=>SA N v
def iB (N:Nat):au->au
 | .row g sz n e f=>.row g sz n e (λi=>(f i).map (tM N))
 | .dead=>.dead
def Pg:PV->Bool
 | .agg cs=>cs.all cr
 | v=>cr v
def uj:PV->Bool
 | .jk _ n _=>Nat.beq n 0
 | .iV _=>false
 | .aX _ _ _ _ _=>false
 | _=>true
def abG:PV->Bool
 | .agg cs=>cs.all uj
 | v=>uj v
def Hz:PV->Bool
 | .kc vs=>vs.all abG
 | v=>abG v
def OF:au->Prop
 | .row _ _ n _ f=>∀i,i<n->(f i).all uj=true
 | .dead=>True
section
variable {P:Program}{T:vE}{μ μ0:Mu}{h h0:List au}{S S0 S':Nat->Prop}{w w':World}
def oz (μ:Mu) (N:Nat) (μ0:Mu):Mu:=λid=>if id<N then μ id else μ0 (id - N)
theorem Fw {N:Nat} {a:PV} (h:oD a=true):tM N a=a:=by cases a<;>first | rfl | cases h
theorem vn (N:Nat) (a:h.length=N) (id:Nat):(h++h0.map (iB N))[N+id]? =(h0[id]?).map (iB N):=by
 subst a;rw[akN aol,Nat.add_sub_cancel_left,akL]
theorem yY (N id:Nat):oz μ N μ0 (N+id)=μ0 id:=by
 unfold oz;rw[mg aol,Nat.add_sub_cancel_left]
theorem gd (G:PV->Prop) (a:∀pv v,G pv->bN S0 w' pv v->bN S' w' pv v) {pv:PV} {v:Value} (hg:G pv) (hc:dA μ0 h0 S0 w' pv v):
  dA (oz μ h.length μ0) (h++h0.map (iB h.length)) S' w' (tM h.length pv) v:=by
 have d:∀(id gen i off:Nat) (v:Value),dE μ0 h0 w' id gen i off v->dE (oz μ h.length μ0) (h++h0.map (iB h.length)) w' (h.length+id) gen i off v:=λid gen i off v hc=>by
  unfold dE at hc ⊢;rw[vn _ rfl,yY];obtain⟨h1,h2⟩:=hc;refine⟨h1,?_⟩;cases c:h0[id]? with
  | none=>rw[c]at h2;exact h2
  | some o=>
   rw[c]at h2;cases o with
   | dead=>trivial
   | row g sz n e f=>exact h2
 cases pv with
 | own id gen off len=>
  have hc:cK μ0 h0 w' id gen off len v:=hc;show cK _ _ _ (h.length+id) gen off len v;unfold cK at hc ⊢;rw[vn _ rfl,yY];obtain⟨h1,h2⟩:=hc;refine⟨h1,?_⟩;cases c:h0[id]? with
  | none=>rw[c]at h2;exact h2
  | some o=>
   rw[c]at h2;cases o with
   | dead=>trivial
   | row g sz n e f=>exact h2
 | bc id gen i off=>exact d _ _ _ _ _ hc
 | vg f dp=>exact zx.map (O:=λid g u=>dE (oz μ h.length μ0) (h++h0.map (iB h.length)) w' id g 0 0 u) (zx.mono (show uJ μ0 h0 w' f dp v from hc) (λid g u hu=>d id g 0 0 u hu))
 | pZ id=>
  have hc:jq μ0 h0 w' id v:=hc;show jq _ _ _ (h.length+id) v;unfold jq at hc ⊢;rw[vn _ rfl,yY];obtain⟨h1,h2⟩:=hc;refine⟨h1,?_⟩;cases c:h0[id]? with
  | none=>rw[c]at h2;exact h2
  | some o=>
   rw[c]at h2;cases o with
   | dead=>trivial
   | row g sz n e f=>exact h2
 | mj=>exact hc
 | aX sz n e f F=>exact hc
 | agg cs=>exact(show False from hc).elim
 | kc cs=>exact(show False from hc).elim
 | int k n=>exact a _ _ hg hc
 | bool b=>exact a _ _ hg hc
 | str s=>exact a _ _ hg hc
 | bn=>exact a _ _ hg hc
 | lJ=>exact a _ _ hg hc
 | jk sz n f=>exact a _ _ hg hc
 | iV cs=>exact a _ _ hg hc
 | fn f=>exact a _ _ hg hc
theorem gf (G:PV->Prop) (a:∀pv v,G pv->bN S0 w' pv v->bN S' w' pv v) {pv:PV} {v:Value} (hg:match pv with | .agg cs=>∀c∈cs,G c | v=>G v) (hc:mh μ0 h0 S0 w' pv v):
  mh (oz μ h.length μ0) (h++h0.map (iB h.length)) S' w' (SA h.length pv) v:=by
 cases pv with
 | agg cs=>
  obtain⟨vs,h1,h2,h3⟩:=hc;refine⟨vs,h1,by simpa using h2,λj pv hj=>?_⟩;rw[akL]at hj;cases d:cs[j]? with
  | none=>rw[d]at hj;cases hj
  | some c=>
   rw[d]at hj;injection hj with hj;subst hj;obtain⟨u,q1,q2⟩:=h3 j c d;exact⟨u,q1,gd G a (hg c (akF d)) q2⟩
 | mj=>trivial
 | aX sz n e f F=>exact gd (μ:=μ) (μ0:=μ0) (h:=h) (h0:=h0) (pv:=.aX sz n e f F) G a hg hc
 | kc cs=>exact(show False from hc).elim
 | own id gen off len=>exact gd (μ:=μ) (μ0:=μ0) (h:=h) (h0:=h0) (pv:=.own id gen off len) G a hg hc
 | bc id gen i off=>exact gd (μ:=μ) (μ0:=μ0) (h:=h) (h0:=h0) (pv:=.bc id gen i off) G a hg hc
 | pZ id=>exact gd (μ:=μ) (μ0:=μ0) (h:=h) (h0:=h0) (pv:=.pZ id) G a hg hc
 | vg f dp=>exact gd (μ:=μ) (μ0:=μ0) (h:=h) (h0:=h0) (pv:=.vg f dp) G a hg hc
 | int k n=>exact gd (μ:=μ) (μ0:=μ0) (h:=h) (h0:=h0) (pv:=.int k n) G a hg hc
 | bool b=>exact gd (μ:=μ) (μ0:=μ0) (h:=h) (h0:=h0) (pv:=.bool b) G a hg hc
 | str s=>exact gd (μ:=μ) (μ0:=μ0) (h:=h) (h0:=h0) (pv:=.str s) G a hg hc
 | bn=>exact gd (μ:=μ) (μ0:=μ0) (h:=h) (h0:=h0) (pv:=.bn) G a hg hc
 | lJ=>exact gd (μ:=μ) (μ0:=μ0) (h:=h) (h0:=h0) (pv:=.lJ) G a hg hc
 | jk sz n f=>exact gd (μ:=μ) (μ0:=μ0) (h:=h) (h0:=h0) (pv:=.jk sz n f) G a hg hc
 | iV cs=>exact gd (μ:=μ) (μ0:=μ0) (h:=h) (h0:=h0) (pv:=.iV cs) G a hg hc
 | fn f=>exact gd (μ:=μ) (μ0:=μ0) (h:=h) (h0:=h0) (pv:=.fn f) G a hg hc
def aaL (G:PV->Prop):PV->Prop
 | .kc vs=>∀v∈vs,(match v with | .agg cs=>∀c∈cs,G c | v=>G v)
 | .agg cs=>∀c∈cs,G c
 | v=>G v
theorem Je (G:PV->Prop) (a:∀pv v,G pv->bN S0 w' pv v->bN S' w' pv v) {pv:PV} {v:Value} (hg:aaL G pv) (hc:da μ0 h0 S0 w' pv v):
  da (oz μ h.length μ0) (h++h0.map (iB h.length)) S' w' (uN h.length pv) v:=by
 cases pv with
 | kc cs=>
  obtain⟨vs,h1,h2,h3⟩:=hc;refine⟨vs,h1,by simpa using h2,λj pv hj=>?_⟩;rw[akL]at hj;cases d:cs[j]? with
  | none=>rw[d]at hj;cases hj
  | some c=>
   rw[d]at hj;injection hj with hj;subst hj;obtain⟨u,q1,q2⟩:=h3 j c d;exact⟨u,q1,gf G a (hg c (akF d)) q2⟩
 | agg cs=>exact gf (μ:=μ) (μ0:=μ0) (h:=h) (h0:=h0) (pv:=.agg cs) G a hg hc
 | mj=>trivial
 | aX sz n e f F=>exact gf (μ:=μ) (μ0:=μ0) (h:=h) (h0:=h0) (pv:=.aX sz n e f F) G a hg hc
 | own id gen off len=>exact gf (μ:=μ) (μ0:=μ0) (h:=h) (h0:=h0) (pv:=.own id gen off len) G a hg hc
 | bc id gen i off=>exact gf (μ:=μ) (μ0:=μ0) (h:=h) (h0:=h0) (pv:=.bc id gen i off) G a hg hc
 | pZ id=>exact gf (μ:=μ) (μ0:=μ0) (h:=h) (h0:=h0) (pv:=.pZ id) G a hg hc
 | vg f dp=>exact gf (μ:=μ) (μ0:=μ0) (h:=h) (h0:=h0) (pv:=.vg f dp) G a hg hc
 | int k n=>exact gf (μ:=μ) (μ0:=μ0) (h:=h) (h0:=h0) (pv:=.int k n) G a hg hc
 | bool b=>exact gf (μ:=μ) (μ0:=μ0) (h:=h) (h0:=h0) (pv:=.bool b) G a hg hc
 | str s=>exact gf (μ:=μ) (μ0:=μ0) (h:=h) (h0:=h0) (pv:=.str s) G a hg hc
 | bn=>exact gf (μ:=μ) (μ0:=μ0) (h:=h) (h0:=h0) (pv:=.bn) G a hg hc
 | lJ=>exact gf (μ:=μ) (μ0:=μ0) (h:=h) (h0:=h0) (pv:=.lJ) G a hg hc
 | jk sz n f=>exact gf (μ:=μ) (μ0:=μ0) (h:=h) (h0:=h0) (pv:=.jk sz n f) G a hg hc
 | iV cs=>exact gf (μ:=μ) (μ0:=μ0) (h:=h) (h0:=h0) (pv:=.iV cs) G a hg hc
 | fn f=>exact gf (μ:=μ) (μ0:=μ0) (h:=h) (h0:=h0) (pv:=.fn f) G a hg hc
theorem Ld (hH:dT μ h S w) (l:yI μ h S w) {μc:Mu} {Sc:Nat->Prop} (s:Fr μc [] Sc w μ0 h0 S0 w') (M:dT μ0 h0 S0 w') (K:yI μ0 h0 S0 w')
  (G:PV->Prop) (hG:∀pv v,G pv->bN S0 w' pv v->bN S' w' pv v) (N:∀(id g sz n:Nat) (e:TypeId) (f:Nat->List PV),h0[id]? =some (au.row g sz n e f)->∀i,i<n->∀c∈f i,(fI c=false->G c)/\(fI c=true->OG G c))
  (O:∀b,S b->S' b) (E:∀b,S' b->S b\/w.heap.size<=b) (P:∀b,S' b->b<w'.heap.size) (Q:∀b,S' b->¬dX μ0 h0 b):
  dT (oz μ h.length μ0) (h++h0.map (iB h.length)) S' w'/\yI (oz μ h.length μ0) (h++h0.map (iB h.length)) S' w'/\Fr μ h S w (oz μ h.length μ0) (h++h0.map (iB h.length)) S' w':=by
 have xH:∀b,¬dX μc [] b:=λb=>pQ;have C:∀b,b<w.heap.size->w'.heap[b]? =w.heap[b]?:=λb a=>s.blocks b a (xH b);have t:∀b,dX μ0 h0 b->w.heap.size<=b:=λb a=>(s.own b a).resolve_left (xH b)
 have L:∀id o,h[id]? =some o->(h++h0.map (iB h.length))[id]? =some o/\oz μ h.length μ0 id=μ id:=λid o hid=>by
  have u:=(As.1 hid).1;exact⟨by rw[akW u];exact hid,by unfold oz;rw[an u]⟩
 have inv:∀(id g sz n:Nat) (e:TypeId) (f:Nat->List PV),(h++h0.map (iB h.length))[id]? =some (au.row g sz n e f)->
   (h[id]? =some (au.row g sz n e f)/\oz μ h.length μ0 id=μ id)\/∃d r,id=h.length+d/\h0[d]? =some (au.row g sz n e r)/\oz μ h.length μ0 id=μ0 d/\f=λi=>(r i).map (tM h.length):=λid g sz n e f hid=>by
  rcases alm id h.length with u | Td
  ·rw[akW u]at hid;exact .inl ⟨hid,by unfold oz;rw[an u]⟩
  ·obtain⟨d,rfl⟩:∃d,id=h.length+d:=⟨id - h.length,by omega⟩;rw[vn _ rfl]at hid;cases A:h0[d]? with
   | none=>rw[A]at hid;cases hid
   | some o=>
    rw[A]at hid;cases o with
    | dead=>cases hid
    | row g0 ZZ n0 e0 r=>
     injection hid with hid;injection hid with R e2 T e4 e5;subst R e2 T e4 e5;exact .inr ⟨d,r,rfl,A,yY _ _,rfl⟩
 have Cj:∀b,H9 (oz μ h.length μ0) (h++h0.map (iB h.length)) b->H9 μ h b\/H9 μ0 h0 b:=λb ⟨id,g,sz,n,e,f,base,hid,hm⟩=>by
  rcases inv id g sz n e f hid with⟨h1,h2⟩ | ⟨d,r,rfl,h1,h2,_⟩
  ·rw[h2]at hm;exact .inl ⟨id,g,sz,n,e,f,base,h1,hm⟩
  ·rw[h2]at hm;exact .inr ⟨d,g,sz,n,e,r,base,h1,hm⟩
 have U:∀{c:PV} {sz n:Nat} {e:TypeId} {f:Nat->List PV} {F:Nat->Prop},tM h.length c=.aX sz n e f F->c=.aX sz n e f F:=λ{c} _ _ _ _ _ hc=>by
  cases c<;>first | exact hc | cases hc
 have D:∀id i j b,fg (h++h0.map (iB h.length)) id i j b->fg h id i j b\/∃d,id=h.length+d/\fg h0 d i j b:=λid i j b ⟨g,sz,n,e,f,dk,n',e',f',F',q1,q2,q3,q4⟩=>by
  rcases inv id g sz n e f q1 with⟨h1,h2⟩ | ⟨d,r,rfl,h1,h2,rfl⟩
  ·exact .inl ⟨_,_,_,_,_,_,_,_,_,_,h1,q2,q3,q4⟩
  ·rw[akL]at q3;cases m:(r i)[j]? with
   | none=>rw[m]at q3;cases q3
   | some c=>
    rw[m]at q3;injection q3 with q3;rw[U q3]at m;exact .inr ⟨d,rfl,_,_,_,_,_,_,_,_,_,_,h1,q2,m,q4⟩
 have V:∀b,dX (oz μ h.length μ0) (h++h0.map (iB h.length)) b->dX μ h b\/dX μ0 h0 b:=λb a=>by
  rcases a with a | ⟨x,y,z,a⟩
  ·exact(Cj b a).imp .inl .inl
  ·rcases D x y z b a with q | ⟨_,_,q⟩
   ·exact .inl (.inr ⟨_,_,_,q⟩)
   ·exact .inr (.inr ⟨_,_,_,q⟩)
 have W:Fr μ h S w (oz μ h.length μ0) (h++h0.map (iB h.length)) S' w':=by
  refine⟨by simp,λb a _=>C b a,O,λb a=>(E b a).imp id .inr,λb a=>(V b a).imp id (t b),s.size,s.os,s.tape,s.output,λid g sz n e f hid=>?_,λid hid=>(L id _ hid).1,λb k a hc=>oE.of_same (C b hc.lt) hc,λid g sz n e f b base hid hm X=>⟨let⟨es,c,q⟩:=X;⟨es,c,(C b (akw.1 q).1).trans q⟩,.inr ⟨⟨_,_,_,_,_,(L id _ hid).1⟩,(L id _ hid).2.trans hm⟩⟩,λb _ _ _ m X=>let⟨es,c,q⟩:=X;⟨es,c,(C b (akw.1 q).1).trans q⟩⟩;obtain⟨h1,h2⟩:=L id _ hid;rw[h1];exact⟨No _,λ_=>⟨h2,rfl,rfl,rfl⟩⟩
 refine⟨λid g sz n e f hid=>?_,⟨λb a hs=>?_,λb a=>?_,P,?_,l.Eu W,λb a x y z m=>?_,λb x y z x' y' z' m zw=>?_⟩,W⟩;rotate_right 2
 ·rcases Cj b a with h1 | h1
  ·rcases D x y z b m with h2 | ⟨_,_,h2⟩
   ·exact l.hv b h1 _ _ _ h2
   ·have H:=l.lt b (.inl h1);have I:=t b (.inr ⟨_,_,_,h2⟩);omega
  ·rcases D x y z b m with h2 | ⟨_,_,h2⟩
   ·have H:=l.lt b (.inr ⟨_,_,_,h2⟩);have I:=t b (.inl h1);omega
   ·exact K.hv b h1 _ _ _ h2
 ·rcases D x y z b m with h1 | ⟨u1,rfl,h1⟩
  ·rcases D x' y' z' b zw with h2 | ⟨u2,rfl,h2⟩
   ·exact l.hh b _ _ _ _ _ _ h1 h2
   ·have H:=l.lt b (.inr ⟨_,_,_,h1⟩);have I:=t b (.inr ⟨_,_,_,h2⟩);omega
  ·rcases D x' y' z' b zw with h2 | ⟨u2,rfl,h2⟩
   ·have H:=l.lt b (.inr ⟨_,_,_,h2⟩);have I:=t b (.inr ⟨_,_,_,h1⟩);omega
   ·obtain⟨R,e2,T⟩:=K.hh b _ _ _ _ _ _ h1 h2;exact⟨by rw[R],e2,T⟩
 ·rcases inv id g sz n e f hid with⟨h1,h2⟩ | ⟨d,r,rfl,h1,h2,rfl⟩
  ·obtain⟨q1,q2⟩:=hH id g sz n e f h1;refine⟨q1,?_⟩;rw[h2];cases hm:μ id with
   | none=>rw[hm]at q2;exact q2
   | some p=>
    obtain⟨b,base⟩:=p;rw[hm]at q2;obtain⟨o,r1,J⟩:=q2;have u:b<w.heap.size:=(akw.1 r1).1;exact⟨o,(C b u).trans r1,J.mono (λi y pv v hi hy hr=>hr.fr W l (λdk n' e' f' F' he b2 lx=>C b2 (l.lt b2 (.inr ⟨id,i,y,_,_,_,_,_,_,_,_,_,_,h1,hi,he▸hy,lx⟩))))⟩
  ·obtain⟨q1,q2⟩:=M d g sz n e r h1;refine⟨λi hi=>by simpa using q1 i hi,?_⟩;rw[h2];cases hm:μ0 d with
   | none=>rw[hm]at q2;exact q2
   | some p=>
    obtain⟨b,base⟩:=p;rw[hm]at q2;obtain⟨o,r1,J⟩:=q2;refine⟨o,r1,?_⟩;cases o with
    | cells cur e' z=>
     obtain⟨Y,x2,x3,Z⟩:=J;refine⟨Y,x2,x3,λi j pv hi hj=>?_⟩;rw[akL]at hj;cases m:(r i)[j]? with
     | none=>rw[m]at hj;cases hj
     | some c=>
      rw[m]at hj;injection hj with hj;subst hj;obtain⟨v,s1,s2⟩:=Z i j c hi m;obtain⟨g1,g2⟩:=N d g sz n e r h1 i hi c (akF m);refine⟨v,s1,?_⟩;cases A:fI c with
      | false=>exact dA.k (gd G hG (g1 A) s2.c) (by cases c<;>first | rfl | cases A)
      | true=>
       cases c with
       | aX tB n2 e2 f2 F2=>exact rz.og hG (show rz S0 w' (.aX tB n2 e2 f2 F2) v from s2) (g2 rfl)
       | _=>cases A
    | map es c=>
     obtain⟨Y,Z⟩:=J;refine⟨Y,λi hi=>?_⟩;obtain⟨kp,vp,en,y1,y2,y3,y4⟩:=Z i hi;exact⟨kp,vp,en,by show(r i).map (tM h.length)=_;rw[y1];show[tM h.length kp,tM h.length vp]=_;rw[Fw y2,Fw y3],y2,y3,y4⟩
    | _=>exact J.elim
 ·rcases V b a with h1 | h1
  ·rcases E b hs with h2 | h2
   ·exact l.apart b h1 h2
   ·have:=l.lt b h1;omega
  ·exact Q b hs h1
 ·rcases V b a with h1 | h1
  ·exact akK (l.lt b h1) s.size
  ·exact K.lt b h1
 ·intro i j gi Us ni ei fi gj pN nj ej fj b o o' hi hj tm rS;rcases inv i _ _ _ _ _ hi with⟨h1,h2⟩ | ⟨d,r,rfl,h1,h2,_⟩
  ·rw[h2]at tm;rcases inv j _ _ _ _ _ hj with⟨h3,h4⟩ | ⟨B,f1,rfl,h3,h4,_⟩
   ·rw[h4]at rS;exact l.inj i j _ _ _ _ _ _ _ _ _ _ _ _ _ h1 h3 tm rS
   ·rw[h4]at rS;have H:=l.lt b (.inl ⟨i,_,_,_,_,_,_,h1,tm⟩);have I:=t b (.inl ⟨B,_,_,_,_,_,_,h3,rS⟩);omega
  ·rw[h2]at tm;rcases inv j _ _ _ _ _ hj with⟨h3,h4⟩ | ⟨B,f1,rfl,h3,h4,_⟩
   ·rw[h4]at rS;have H:=l.lt b (.inl ⟨j,_,_,_,_,_,_,h3,rS⟩);have I:=t b (.inl ⟨d,_,_,_,_,_,_,h1,tm⟩);omega
   ·rw[h4]at rS;have:=K.inj d B _ _ _ _ _ _ _ _ _ _ _ _ _ h1 h3 tm rS;rw[this]
theorem ACall.frame {f:FuncId} {args:List PV} {R:PV->List au->Prop} (E:ACall P f args [] R) (h:List au) (hp:args.all Pg=true):
  ACall P f args h (λres h'=>∃r0 h0,R r0 h0/\res=uN h.length r0/\h'=h++h0.map (iB h.length)):=by
 refine⟨E.1,λw vs μ S H A I J=>?_⟩;refine(E.2 w vs (λ_=>none) S (λid g sz n e f hid=>by simp at hid) ⟨λb l=>absurd l pQ,λb l=>absurd l pQ,A.slt,λi j g sz n e f g' dk n' K f' b o o' hi=>by simp at hi,A.known,λb _ x y z d=>CC d,λb _ _ _ _ _ _ d=>absurd d CC⟩ I (λj pv hj=>?_)).mono ?_
 ·obtain⟨v,h1,h2⟩:=J j pv hj;refine⟨v,h1,?_⟩;have a:=(akA.1 hp) pv (akF hj);cases pv with
  | agg cs=>
   obtain⟨us,q1,q2,q3⟩:=h2;refine⟨us,q1,q2,λi c hi=>?_⟩;obtain⟨u,r1,r⟩:=q3 i c hi;have hc:=(akA.1 a) c (akF hi);exact⟨u,r1,dA.pP (EL hc r)⟩
  | kc cs=>cases a
  | own id gen off len=>cases a
  | bc id gen i off=>cases a
  | pZ id=>cases a
  | vg f dp=>cases a
  | mj=>cases a
  | aX sz n e f F=>cases a
  | int k n=>exact h2
  | bool b=>exact h2
  | str s=>exact h2
  | bn=>exact h2
  | lJ=>exact h2
  | jk sz n f=>exact h2
  | iV cs=>exact h2
  | fn f=>exact h2
 ·rintro e w' ⟨v,r0,h0,μ0,S0,he,L,hv,t,B,C⟩;have M:∀b,¬dX (λ_=>none) [] b:=λb=>pQ
  obtain⟨N,O,Q⟩:=Ld (S':=S0) H A C t B (λ_=>True) (λ_ _ _ h=>h) (λid g sz n e f hid i hi c m=>⟨λ_=>trivial,λd=>by
    obtain⟨j,hj,D⟩:=alq.1 m;obtain⟨_,q2⟩:=t id g sz n e f hid;cases G:μ0 id with
    | none=>rw[G]at q2;omega
    | some p=>
     obtain⟨b,base⟩:=p;rw[G]at q2;obtain⟨o,_,r⟩:=q2;cases o with
     | cells cur K z=>
      obtain⟨_,_,_,T⟩:=r;obtain⟨v,_,U⟩:=T i j c hi (by rw[<-D];exact Is hj);cases c with
      | aX tB n2 e2 f2 F2=>exact rz.all (show rz S0 w' (.aX tB n2 e2 f2 F2) v from U)
      | _=>cases d
     | map es cl=>
      obtain⟨V,W,en,y1,y2,X,_⟩:=r.2 i hi;rw[y1]at m;rcases akM.1 m with q | q
      ·rw[q]at d;cases V<;>first | (cases d;done) | (cases y2;done)
      ·rw[ali.1 q]at d;cases W<;>first | (cases d;done) | (cases X;done)
     | _=>exact r.elim⟩) C.sub
   (λb l=>(C.new b l).imp id (λh=>h.resolve_left (M b))) B.slt (λb l Y=>B.apart b Y l)
  have Z:aaL (λ_=>True) r0:=by
   unfold aaL;split
   ·intro v _;split<;>intros<;>trivial
   ·intros;trivial
   ·trivial
  exact⟨v,_,_,_,S0,he,⟨r0,h0,L,rfl,rfl⟩,Je _ (λ_ _ _ h=>h) Z hv,N,O,Q⟩
def Bp:au->Prop
 | .row _ _ n _ f=>∀i,i<n->∀c∈f i,(fI c=false->uj c=true)/\(fI c=true->OG (λpv=>uj pv=true) c)
 | .dead=>True
theorem OF.p {o:au} (h:OF o):Bp o:=by
 cases o with
 | dead=>trivial
 | row g sz n e f=>
  intro i hi c hc;have:=(akA.1 (h i hi)) c hc;exact⟨λ_=>this,λa=>by cases c<;>first | (cases a;done) | (cases this;done)⟩
theorem ACall.snap {f:FuncId} {args q:List PV} {R:PV->List au->Prop} (y:ACall P f q [] R) (h:List au) (hl:q.length=args.length)
  (D:∀(j:Nat) (pv d:PV),args[j]? =some pv->q[j]? =some d->Fz h [] [] pv d/\qo d=true) (E:∀r0 h0,R r0 h0->Hz r0=true/\∀o∈h0,Bp o):
  ACall P f args h (λres h'=>∃r0 h0,R r0 h0/\res=uN h.length r0/\h'=h++h0.map (iB h.length)):=by
 refine⟨y.1,λw vs μ S r l T F=>?_⟩;have p:qe h [] [] 0 0 [] []:=trivial;obtain⟨z,_,_⟩:=DL (m:=0) ⟨r,l⟩ p rfl;refine(y.2 w vs (rE μ h []) (K7 μ h [] S) z.heap z.ok aol (λj d hj=>?_)).mono ?_
 ·have G:j<args.length:=by rw[<-hl];exact(As.1 hj).1
  have A:=Is G;obtain⟨v,h1,h2⟩:=F j _ A;obtain⟨H,U⟩:=D j _ d A hj;exact⟨v,h1,(AF (m:=0) ⟨r,l⟩ p H).2.1 v h2⟩
 ·rintro e w' ⟨v,r0,h0,μ0,S0,he,B,hv,t,I,u⟩;obtain⟨x,J⟩:=E r0 h0 B;have K:∀b,¬dX (rE μ h []) [] b:=λb=>pQ
  have C:∀pv v,uj pv=true->bN S0 w' pv v->bN S w' pv v:=λpv v hf hp=>by
   cases hp with
   | int k n=>exact .int k n
   | bool b=>exact .bool b
   | str s=>exact .str s
   | bn=>exact .bn
   | lJ=>exact .lJ
   | fn f=>exact .fn f
   | uW=>exact .uW _ _ _ _
   | jk sz n f=>
    obtain rfl:=abF hf;exact .uW _ _ _ _
   | iV=>cases hf
  obtain⟨L,M,N⟩:=Ld (S':=S) r l u t I (λpv=>uj pv=true) C (λid g sz n e f hid i hi c hc=>J _ (akF hid) i hi c hc) (λ_ a=>a) (λb a=>.inl a) (λb a=>akK (l.slt b a) u.size)
   (λb a O=>by
    have h1:=(u.own b O).resolve_left (K b);have h2:=l.slt b a;omega)
  have Q:aaL (λpv=>uj pv=true) r0:=by
   cases r0 with
   | kc vs=>
    intro v hv;have:=(akA.1 x) v hv;cases v with
    | agg cs=>exactλc hc=>(akA.1 this) c hc
    | _=>exact this
   | agg cs=>exactλc hc=>(akA.1 x) c hc
   | _=>exact x
  exact⟨v,_,_,_,S,he,⟨r0,h0,B,rfl,rfl⟩,Je _ C Q hv,L,M,N⟩
end
end Go.Am
