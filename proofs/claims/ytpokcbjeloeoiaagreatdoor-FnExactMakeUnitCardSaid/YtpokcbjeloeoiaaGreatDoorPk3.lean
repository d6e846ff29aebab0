/- Texts of the proof, joined and shortened. -/
import Derived.Test.YtpokcbjeloeoiaaGreatDoorPk2
set_option linter.unusedVariables false
set_option linter.unusedSimpArgs false
namespace Go.Am
open Go Go.RowKit
section
variable {P:Program}{T:sf}{μ:Mu}{h h1:List aq}{S:Nat->Prop}{w:World}
theorem U7 (hc:Core μ h S w) (hx:Pa h h1):∃μ',Fr μ h S w μ' h1 S w/\Core μ' h1 S w:=by
 obtain⟨id,g,sz,n,e,f,i,j,P,s,e',D,F,f1,hh,hi,hj,U5,aa,rfl⟩:=hx;have hid:id<h.length:=(N2.1 hh).1;obtain⟨hl,bD⟩:=hc.heap id g sz n e f hh;have Sg:j<sz:=by rw[<-hl i hi];exact(N2.1 hj).1
 have A0:∃b0 Q R v,μ id=some (b0,Q)/\w.heap[b0]? =some (.cells R e (0,0))/\Q+n*sz<=R.size/\R[Q+i*sz+j]? =some v/\nU S w (.eg P s e' D F) v/\
   ∀(i j:Nat) (pv:PV),i<n->(f i)[j]? =some pv->∃v:Value,R[Q+i*sz+j]? =some v/\qT μ h S w pv v:=by
  cases jq:μ id with
  | none=>rw[jq]at bD;have bD:n=0:=bD;omega
  | some p=>
   obtain⟨b0,Q⟩:=p;rw[jq]at bD;obtain⟨o,q1,q2⟩:=bD;cases o with
   | cells R e0 z=>
    obtain⟨rfl,rfl,q3,q4⟩:=q2;obtain⟨v,r1,l⟩:=q4 i j _ hi hj;exact⟨b0,Q,R,v,rfl,q1,q3,r1,l,q4⟩
   | map es c=>
    obtain⟨kp,vp,en,y1,y2,y3,_⟩:=q2.2 i hi;rw[y1]at hj
    match j,hj with
    | 0,hj=>simp at hj;rw[hj]at y2;cases y2
    | 1,hj=>simp at hj;rw[hj]at y3;cases y3
    | y+2,hj=>simp at hj
   | _=>exact q2.elim
 obtain⟨b0,Q,R,v,jq,L9,yM,Vq,a6,mU⟩:=A0;have B:∀b,F b->eK h id i j b:=λb d=>⟨_,_,_,_,_,_,_,_,_,_,hh,hi,hj,d⟩
 obtain⟨p,hp⟩:∃p:Option (Nat×Nat),match p with
   | none=>v=.slice none 0 0/\s=0
   | some (b,off)=>F b/\∃(c:Nat) (a:Addr) (cur:Array Value),w.heap[b]? =some (.cells cur e' (0,0))/\v=.slice (some a) s c/\s<=c/\(0<c->a=⟨b,off,none⟩)/\off+c*P<=cur.size/\(∀i,i<s->(D i).length=P)/\
     (∀(i j:Nat) (pv:PV),i<s->(D i)[j]? =some pv->∃u,cur[off+i*P+j]? =some u/\(ba S w pv u\/∃E n2 e2 f2 t,pv=.eg E n2 e2 f2 t/\nU S w (.eg E n2 e2 f2 t) u))/\
     (∀(i j mY n2:Nat) (e2:TypeId) (f2:Nat->List PV) (t:Nat->Prop),i<s->(D i)[j]? =some (.eg mY n2 e2 f2 t)->∀W,t W->F W/\W≠b)/\
     (∀(i j mY n2:Nat) (e2:TypeId) (f2:Nat->List PV) (t:Nat->Prop) (i' j' ad n3:Nat) (e3:TypeId) (f3:Nat->List PV) (F3:Nat->Prop),i<s->(D i)[j]? =some (.eg mY n2 e2 f2 t)->i'<s->(D i')[j']? =some (.eg ad n3 e3 f3 F3)->∀W,t W->F3 W->i=i'/\j=j'):=by
  cases a6 with
  | nil _ _ _ _ hF=>exact⟨none,rfl,rfl⟩
  | PB _ _ _ _ _ b off c a cur vf hF d hlen a8 ha il ag qR xz IA PD=>
   refine⟨some (b,off),hF,c,a,cur,d,rfl,a8,ha,il,hlen,λi j pv hi hj=>⟨_,ag i j pv hi hj,?_⟩,IA,PD⟩;rcases qR i j pv hi hj with q | ⟨E,n2,e2,f2,t,rfl⟩
   ·exact .inl q
   ·exact .inr ⟨E,n2,e2,f2,t,rfl,xz i j _ _ _ _ _ hi hj⟩
 have T:∀b off,p=some (b,off)->F b:=λb off G=>by subst G;exact hp.1
 generalize H:h.set id (aq.row g sz n e f1)++[aq.row 0 P s e' D]=h1;have bg:h1.length=h.length+1:=by rw[<-H];simp
 have Al:h1[id]? =some (aq.row g sz n e f1):=by rw[<-H,aON (by simpa using hid)];simp [hid]
 have Ee:h1[h.length]? =some (aq.row 0 P s e' D):=by rw[<-H,aOH aRN];simp
 have dh:∀k,k≠id->k<h.length->h1[k]? =h[k]?:=λk hk m=>by rw[<-H,aON (by simpa using m),aOI (aPB hk)]
 have inv:∀k o,h1[k]? =some o->(k=id/\o=aq.row g sz n e f1)\/(k=h.length/\o=aq.row 0 P s e' D)\/(k≠id/\k<h.length/\h[k]? =some o):=λk o hk=>by
  by_cases h2:k=id
  ·subst h2;rw[Al]at hk;injection hk with hk;exact .inl ⟨rfl,hk.symm⟩
  ·by_cases I:k=h.length
   ·subst I;rw[Ee]at hk;injection hk with hk;exact .inr (.inl ⟨rfl,hk.symm⟩)
   ·have h4:k<h.length:=by have:=(N2.1 hk).1;omega
    rw[dh k h2 h4]at hk;exact .inr (.inr ⟨h2,h4,hk⟩)
 let μ1:Mu:=pF μ h.length p
 have GU:μ1 h.length=p:=bF _ _ _;have J:∀k,k<h.length->μ1 k=μ k:=λk hk=>dN μ _ aRK
 have GV:∀x y pv,x<n->(f1 x)[y]? =some pv->((x,y)=(i,j)/\pv=.own h.length 0 0 s)\/((x,y)≠(i,j)/\(f x)[y]? =some pv):=λx y pv hx hy=>by
  by_cases A:x=i
  ·subst A;rw[U5,aQo]at hy;by_cases U:j=y
   ·subst U;rw[An rfl,An (by rw[hl x hx];exact Sg)]at hy;injection hy with hy;exact .inl ⟨rfl,hy.symm⟩
   ·rw[mg U]at hy;exact .inr ⟨λq=>U (by injection q with _ q;exact q.symm),hy⟩
  ·rw[aa x hx A]at hy;exact .inr ⟨λq=>A (by injection q),hy⟩
 have X:∀k x y b,eK h1 k x y b->(k≠h.length/\¬(k=id/\x=i/\y=j)/\eK h k x y b)\/(k=h.length/\eK h id i j b/\∃mY n2 e2 f2 t,x<s/\(D x)[y]? =some (.eg mY n2 e2 f2 t)/\t b):=λk x y b ⟨g2,E,n2,e2,f2,s3,n3,e3,f3,F3,q1,q2,q3,q4⟩=>by
  rcases inv k _ q1 with⟨rfl,C⟩ | ⟨rfl,C⟩ | ⟨h2,I,h4⟩
  ·injection C with a1 K L M N;subst a1 K L M N;rcases GV x y _ q2 q3 with⟨_,G⟩ | ⟨pU,G⟩
   ·cases G
   ·exact .inl ⟨by omega,λ⟨_,b1,b2⟩=>pU (by rw[b1,b2]),_,_,_,_,_,_,_,_,_,_,hh,q2,G,q4⟩
  ·injection C with a1 K L M N;subst a1 K L M N;refine .inr ⟨rfl,B b ?_,_,_,_,_,_,q2,q3,q4⟩;cases p with
   | none=>have:=hp.2;omega
   | some pp=>
    obtain⟨pb,V⟩:=pp;obtain⟨_,_,_,_,_,_,_,_,_,_,_,hs,_⟩:=hp;exact(hs x y _ _ _ _ _ q2 q3 b q4).1
  ·exact .inl ⟨by omega,λ⟨b1,_⟩=>h2 b1,_,_,_,_,_,_,_,_,_,_,h4,q2,q3,q4⟩
 have GW:∀b,FW μ1 h1 b->FW μ h b\/(∃off,p=some (b,off)):=λb ⟨k,g2,E,n2,e2,f2,base,q1,q2⟩=>by
  rcases inv k _ q1 with⟨rfl,C⟩ | ⟨rfl,C⟩ | ⟨h2,I,h4⟩
  ·rw[J k hid]at q2;exact .inl ⟨k,_,_,_,_,_,_,hh,q2⟩
  ·rw[GU]at q2;exact .inr ⟨base,q2⟩
  ·rw[J k I]at q2;exact .inl ⟨k,_,_,_,_,_,_,h4,q2⟩
 have mV:∀b,dE μ1 h1 b->dE μ h b:=λb d=>by
  rcases d with d | ⟨k,x,y,d⟩
  ·rcases GW b d with q | ⟨off,q⟩
   ·exact .inl q
   ·exact .inr ⟨_,_,_,B b (T b off q)⟩
  ·rcases X k x y b d with⟨_,_,q⟩ | ⟨_,q,_⟩
   ·exact aRJ
   ·exact aRJ
 have kP:Fr μ h S w μ1 h1 S w:=by
  refine⟨by omega,λ_ _ _=>rfl,λ_ d=>d,λ_ d=>.inl d,λb d=>.inl (mV b d),Of _,rfl,rfl,rfl,λk g2 E n2 e2 f2 hk=>?_,λk hk=>?_,λ_ _ _ hc=>hc,λk g2 E n2 e2 f2 b base hk hm Y=>⟨Y,.inr ⟨?_,?_⟩⟩,λ_ _ _ _ _ Y=>Y⟩
  ·have m:=(N2.1 hk).1;by_cases zO:k=id
   ·subst zO;rw[hh]at hk;injection hk with hk;injection hk with a1 K L M N;subst a1 K L M N;rw[Al];exact⟨Of _,λ_=>⟨J _ hid,rfl,rfl,rfl⟩⟩
   ·rw[dh k zO m,hk];exact⟨Of _,λ_=>⟨J k m,rfl,rfl,rfl⟩⟩
  ·have m:=(N2.1 hk).1;rw[dh k (by rintro rfl;rw[hh]at hk;cases hk) m];exact hk
  ·have m:=(N2.1 hk).1;by_cases zO:k=id
   ·subst zO;exact⟨_,_,_,_,_,Al⟩
   ·exact⟨_,_,_,_,_,(dh k zO m).trans hk⟩
  ·rw[J k (N2.1 hk).1];exact hm
 refine⟨μ1,kP,⟨λk g2 E n2 e2 f2 hk=>?_,⟨λb d=>hc.ok.apart b (mV b d),λb d=>hc.ok.lt b (mV b d),hc.ok.slt,?_,hc.ok.known,λb d k x y hx=>?_,λb k x y k' x' y' hx tr=>?_⟩⟩⟩
 ·rcases inv k _ hk with⟨rfl,C⟩ | ⟨rfl,C⟩ | ⟨h2,I,h4⟩
  ·injection C with a1 K L M N;subst a1 K L M N;refine⟨λx hx=>?_,?_⟩
   ·by_cases A:x=i
    ·subst A;rw[U5,aQh];exact hl x hx
    ·rw[aa x hx A];exact hl x hx
   ·rw[J k hid,jq];refine⟨_,L9,rfl,rfl,yM,λx y pv hx hy=>?_⟩;rcases GV x y pv hx hy with⟨G,rfl⟩ | ⟨_,G⟩
    ·injection G with r1 l;subst r1 l;refine⟨v,Vq,?_⟩;show bK μ1 h1 w h.length 0 0 s v;unfold bK;rw[Ee];cases p with
     | none=>
      obtain⟨rfl,rfl⟩:=hp;exact⟨⟨_,_,_,rfl⟩,Of _,λ_=>⟨Of _,by rw[GU]⟩⟩
     | some pp=>
      obtain⟨pb,V⟩:=pp;obtain⟨_,c,a,cur,t1,rfl,t3,t4,t5,_⟩:=hp;refine⟨⟨_,_,_,rfl⟩,Of _,λ_=>⟨by omega,?_⟩⟩;rw[GU];exact⟨a,c,rfl,t3,λh0=>by rw[t4 h0];simp,cur,e',_,t1,by rw[are];exact t5⟩
    ·obtain⟨u,r1,l⟩:=mU x y pv hx G;exact⟨u,r1,l.fr kP hc.ok (λ_ _ _ _ _ _ _ _=>rfl)⟩
  ·injection C with a1 K L M N;subst a1 K L M N;rw[GU];cases p with
   | none=>exact⟨λx hx=>by have:=hp.2;omega,hp.2⟩
   | some pp=>
    obtain⟨pb,V⟩:=pp;obtain⟨_,c,a,cur,t1,_,t3,_,t5,t6,t7,_,_⟩:=hp;refine⟨t6,_,t1,rfl,rfl,aPr (Nat.add_le_add_left (aOF _ t3) _) t5,λx y pv hx hy=>?_⟩;obtain⟨u,r1,l⟩:=t7 x y pv hx hy;refine⟨u,r1,?_⟩;rcases l with l | ⟨_,_,_,_,_,rfl,l⟩
    ·exact(cV.mK l).k (ba.no l)
    ·exact l
  ·obtain⟨q1,q2⟩:=hc.heap k _ _ _ _ _ h4;refine⟨q1,?_⟩;rw[J k I];cases hm:μ k with
   | none=>rw[hm]at q2;exact q2
   | some pp=>
    obtain⟨b,base⟩:=pp;rw[hm]at q2;obtain⟨o,r1,l⟩:=q2;exact⟨o,r1,l.mono (λ_ _ _ _ _ _ hr=>hr.fr kP hc.ok (λ_ _ _ _ _ _ _ _=>rfl))⟩
 ·intro a b ga sa na ea fa gb sb nb eb fb PB o o' ha d a9 Y
  have SS:∀k gk sk nk ek fk oo,h1[k]? =some (aq.row gk sk nk ek fk)->μ1 k=some (PB,oo)->(k=h.length/\F PB)\/(k<h.length/\∃gk sk nk ek fk,h[k]? =some (aq.row gk sk nk ek fk)/\μ k=some (PB,oo)):=λk gk sk nk ek fk oo hk hm=>by
   rcases inv k _ hk with⟨rfl,C⟩ | ⟨rfl,C⟩ | ⟨h2,I,h4⟩
   ·rw[J k hid]at hm;exact .inr ⟨hid,_,_,_,_,_,hh,hm⟩
   ·rw[GU]at hm;exact .inl ⟨rfl,T _ _ hm⟩
   ·rw[J k I]at hm;exact .inr ⟨I,_,_,_,_,_,h4,hm⟩
  rcases SS a _ _ _ _ _ _ ha a9 with⟨rfl,q⟩ | ⟨q0,_,_,_,_,_,q1,q2⟩
  ·rcases SS b _ _ _ _ _ _ d Y with⟨rfl,_⟩ | ⟨r0,_,_,_,_,_,r1,l⟩
   ·rfl
   ·exact absurd (B PB q) (hc.ok.hv PB ⟨b,_,_,_,_,_,_,r1,l⟩ _ _ _)
  ·rcases SS b _ _ _ _ _ _ d Y with⟨rfl,r⟩ | ⟨r0,_,_,_,_,_,r1,l⟩
   ·exact absurd (B PB r) (hc.ok.hv PB ⟨a,_,_,_,_,_,_,q1,q2⟩ _ _ _)
   ·exact hc.ok.inj a b _ _ _ _ _ _ _ _ _ _ _ _ _ q1 r1 q2 l
 ·rcases GW b d with q | ⟨off,q⟩
  ·rcases X k x y b hx with⟨_,_,r⟩ | ⟨_,r,_⟩
   ·exact hc.ok.hv b q _ _ _ r
   ·exact hc.ok.hv b q _ _ _ r
  ·rcases X k x y b hx with⟨_,pU,r⟩ | ⟨_,r,mY,n2,e2,f2,t,r1,l,r3⟩
   ·exact pU (hc.ok.hh b _ _ _ _ _ _ r (B b (T b off q)))
   ·subst q;obtain⟨_,_,_,_,_,_,_,_,_,_,_,hs,_⟩:=hp;exact(hs x y _ _ _ _ _ r1 l b r3).2 rfl
 ·rcases X k x y b hx with⟨k1,pU,r⟩ | ⟨rfl,r,mY,n2,e2,f2,t,r1,l,r3⟩
  ·rcases X k' x' y' b tr with⟨k2,O,Z⟩ | ⟨rfl,Z,_⟩
   ·exact hc.ok.hh b _ _ _ _ _ _ r Z
   ·exact absurd (hc.ok.hh b _ _ _ _ _ _ r Z) pU
  ·rcases X k' x' y' b tr with⟨k2,O,Z⟩ | ⟨rfl,Z,ad,n3,e3,f3,F3,t1,t2,t3⟩
   ·exact absurd (hc.ok.hh b _ _ _ _ _ _ Z r) O
   ·cases p with
    | none=>have:=hp.2;omega
    | some pp=>
     obtain⟨pb,V⟩:=pp;obtain⟨_,_,_,_,_,_,_,_,_,_,_,_,hd⟩:=hp;obtain⟨e1,e2⟩:=hd x y _ _ _ _ _ x' y' _ _ _ _ _ r1 l t1 t2 b r3 t3;exact⟨rfl,e1,e2⟩
def FAb (μ:Mu) (h:List aq) (sub:Nat) (b:Nat):Prop:=(∃g sz n e f base,h[sub]? =some (aq.row g sz n e f)/\μ sub=some (b,base))\/∃x y,eK h sub x y b
theorem KU (hc:Core μ h S w) {id i j sub:Nat} (hx:DC h id i j sub (FAb μ h sub) h1):Fr μ h S w μ h1 S w/\Core μ h1 S w:=by
 obtain⟨g,sz,n,e,f,g2,mY,n2,e2,f2,f1,hh,hs,pU,hi,hj,ag,U5,X,rfl⟩:=hx;have hid:id<h.length:=(N2.1 hh).1;have a6:sub<h.length:=(N2.1 hs).1;obtain⟨hl,bD⟩:=hc.heap id g sz n e f hh;have Sg:j<sz:=by rw[<-hl i hi];exact(N2.1 hj).1
 generalize m:FAb μ h sub=F;rw[m]at U5
 have a8:∀b,F b->dE μ h b:=λb d=>by
  rw[<-m]at d;rcases d with⟨g,sz,n,e,f,base,q1,q2⟩ | ⟨x,y,q⟩
  ·exact .inl ⟨sub,_,_,_,_,_,_,q1,q2⟩
  ·exact aRJ
 generalize J:(h.set id (aq.row g sz n e f1)).set sub aq.dead=h1;have Al:h1[id]? =some (aq.row g sz n e f1):=by rw[<-J,aOI (aPB pU)];simp [hid]
 have Eh:h1[sub]? =some aq.dead:=by rw[<-J,aPi (by simpa using a6)]
 have dh:∀k,k≠id->k≠sub->h1[k]? =h[k]?:=λk h2 A=>by rw[<-J,aOI (aPB A),aOI (aPB h2)]
 have inv:∀k B C D E G,h1[k]? =some (aq.row B C D E G)->k≠sub/\((k=id/\aq.row B C D E G=aq.row g sz n e f1)\/(k≠id/\h[k]? =some (aq.row B C D E G))):=λk B C D E G hk=>by
  have A:k≠sub:=by rintro rfl;rw[Eh]at hk;cases hk
  refine⟨A,?_⟩;by_cases h2:k=id
  ·subst h2;rw[Al]at hk;injection hk with hk;exact .inl ⟨rfl,hk.symm⟩
  ·rw[dh k h2 A]at hk;exact .inr ⟨h2,hk⟩
 have GV:∀x y pv,x<n->(f1 x)[y]? =some pv->((x=i/\y=j)/\pv=.eg mY n2 e2 f2 F)\/(¬(x=i/\y=j)/\(f x)[y]? =some pv):=λx y pv hx hy=>by
  by_cases s:x=i
  ·subst s;rw[U5,aQo]at hy;by_cases N:j=y
   ·subst N;rw[An rfl,An (by rw[hl x hx];exact Sg)]at hy;injection hy with hy;exact .inl ⟨⟨rfl,rfl⟩,hy.symm⟩
   ·rw[mg N]at hy;exact .inr ⟨λq=>N q.2.symm,hy⟩
  ·rw[X x hx s]at hy;exact .inr ⟨λq=>s q.1,hy⟩
 have Y:∀k x y b,eK h1 k x y b->(k=id/\x=i/\y=j/\F b)\/(k≠sub/\¬(k=id/\x=i/\y=j)/\eK h k x y b):=λk x y b ⟨g3,s3,n3,e3,f3,s4,n4,e4,f4,F4,q1,q2,q3,q4⟩=>by
  obtain⟨A,l⟩:=inv k _ _ _ _ _ q1;rcases l with⟨rfl,ho⟩ | ⟨h2,h4⟩
  ·injection ho with a1 Z a3 a4 a5;subst a1 Z a3 a4 a5;rcases GV x y _ q2 q3 with⟨⟨r1,t⟩,l⟩ | ⟨aa,l⟩
   ·injection l with _ _ _ _ l;subst l;exact .inl ⟨rfl,r1,t,q4⟩
   ·exact .inr ⟨A,λ⟨_,b1⟩=>aa b1,_,_,_,_,_,_,_,_,_,_,hh,q2,l,q4⟩
  ·exact .inr ⟨A,λ⟨b1,_⟩=>h2 b1,_,_,_,_,_,_,_,_,_,_,h4,q2,q3,q4⟩
 have GW:∀b,FW μ h1 b->∃k B C D E G base,k≠sub/\h[k]? =some (aq.row B C D E G)/\μ k=some (b,base):=λb ⟨k,g3,s3,n3,e3,f3,base,q1,q2⟩=>by
  obtain⟨A,l⟩:=inv k _ _ _ _ _ q1;rcases l with⟨rfl,ho⟩ | ⟨h2,h4⟩
  ·exact⟨k,_,_,_,_,_,_,A,hh,q2⟩
  ·exact⟨k,_,_,_,_,_,_,A,h4,q2⟩
 have mV:∀b,dE μ h1 b->dE μ h b:=λb d=>by
  rcases d with d | ⟨k,x,y,d⟩
  ·obtain⟨k,_,_,_,_,_,_,_,q1,q2⟩:=GW b d;exact .inl ⟨k,_,_,_,_,_,_,q1,q2⟩
  ·rcases Y k x y b d with⟨_,_,_,q⟩ | ⟨_,_,q⟩
   ·exact a8 b q
   ·exact aRJ
 have kP:Fr μ h S w μ h1 S w:=by
  refine⟨by rw[<-J];simp,λ_ _ _=>rfl,λ_ d=>d,λ_ d=>.inl d,λb d=>.inl (mV b d),Of _,rfl,rfl,rfl,λk g3 s3 n3 e3 f3 hk=>?_,λk hk=>?_,λ_ _ _ hc=>hc,λk g3 s3 n3 e3 f3 b base hk hm om=>⟨om,?_⟩,λ_ _ _ _ _ om=>om⟩
  ·by_cases zO:k=id
   ·subst zO;rw[hh]at hk;injection hk with hk;injection hk with a1 Z a3 a4 a5;subst a1 Z a3 a4 a5;rw[Al];exact aRx
   ·by_cases K:k=sub
    ·subst K;rw[Eh];trivial
    ·rw[dh k zO K,hk];exact aRx
  ·by_cases K:k=sub
   ·subst K;exact Eh
   ·rw[dh k (by rintro rfl;rw[hh]at hk;cases hk) K];exact hk
  ·by_cases K:k=sub
   ·subst K;exact .inl Eh
   ·refine .inr ⟨?_,hm⟩;by_cases zO:k=id
    ·subst zO;exact⟨_,_,_,_,_,Al⟩
    ·exact⟨_,_,_,_,_,(dh k zO K).trans hk⟩
 have ad:∀k x y b,k≠sub->eK h k x y b->¬F b:=λk x y b hk hx hF=>by
  rw[<-m]at hF;rcases hF with⟨_,_,_,_,_,_,q1,q2⟩ | ⟨_,_,q⟩
  ·exact hc.ok.hv b ⟨sub,_,_,_,_,_,_,q1,q2⟩ _ _ _ hx
  ·exact hk (hc.ok.hh b _ _ _ _ _ _ hx q).1
 refine⟨kP,⟨λk g3 s3 n3 e3 f3 hk=>?_,⟨λb d=>hc.ok.apart b (mV b d),λb d=>hc.ok.lt b (mV b d),hc.ok.slt,?_,hc.ok.known,λb d k x y hx=>?_,λb k x y k' x' y' hx tr=>?_⟩⟩⟩
 ·obtain⟨A,l⟩:=inv k _ _ _ _ _ hk;rcases l with⟨rfl,ho⟩ | ⟨h2,h4⟩
  ·injection ho with a1 Z a3 a4 a5;subst a1 Z a3 a4 a5;refine⟨λx hx=>?_,?_⟩
   ·by_cases s:x=i
    ·subst s;rw[U5,aQh];exact hl x hx
    ·rw[X x hx s];exact hl x hx
   ·cases jq:μ k with
    | none=>rw[jq]at bD;exact bD
    | some p=>
     obtain⟨b0,Dh⟩:=p;rw[jq]at bD;obtain⟨o,q1,q2⟩:=bD;refine⟨o,q1,?_⟩;cases o with
     | cells PF e0 z=>
      obtain⟨rfl,rfl,q3,q4⟩:=q2;refine⟨rfl,rfl,q3,λx y pv hx hy=>?_⟩;rcases GV x y pv hx hy with⟨⟨rfl,rfl⟩,rfl⟩ | ⟨_,l⟩
      ·obtain⟨v,r1,t⟩:=q4 x y _ hx hj;refine⟨v,r1,?_⟩;show nU S w (.eg mY n2 e2 f2 F) v;have t:bK μ h w sub g2 0 n2 v:=t;unfold bK at t;rw[hs]at t;obtain⟨_,_,r3⟩:=t;obtain⟨_,U⟩:=r3 rfl;obtain⟨s1,V⟩:=hc.heap sub _ _ _ _ _ hs;cases H:μ sub with
       | none=>
        rw[H]at U V;have V:n2=0:=V;have U:v=.slice none 0 0:=U;subst V U;refine .nil _ _ _ _ (λb d=>?_);rw[<-m]at d;rcases d with⟨_,_,_,_,_,_,_,t2⟩ | ⟨x',y',t1,t2,t3,t4,t5,t6,t7,t8,t9,bo,L,u2,u3,u4⟩
        ·rw[H]at t2;cases t2
        ·rw[hs]at L;injection L with L;injection L with _ _ L _ _;omega
       | some p=>
        obtain⟨b,base⟩:=p;rw[H]at U V;obtain⟨a,cap,rfl,t2,t3,t4⟩:=U;obtain⟨cur,L,u2,u3⟩:=dB.cells t4 V
        have il:base+cap*mY<=cur.size:=by
         obtain⟨DO,e',z',W,p2⟩:=t4;rw[L]at W;injection W with W;injection W with W _ _;subst W;rw[are]at p2;exact p2
        have a9:FW μ h b:=⟨sub,_,_,_,_,_,_,hs,H⟩;have O:∀(x y P Q:Nat) (R:TypeId) (T:Nat->List PV) (M:Nat->Prop),x<n2->(f2 x)[y]? =some (.eg P Q R T M)->∀I,M I->eK h sub x y I:=λx y P Q R T M hx hy I pq=>⟨_,_,_,_,_,_,_,_,_,_,hs,hx,hy,pq⟩;refine .PB mY n2 e2 f2 F b base cap a cur (λx y=>(cur[base+x*mY+y]?).getD undef) (by rw[<-m];exact .inl ⟨_,_,_,_,_,_,hs,H⟩) L s1 t2 (λh0=>by rw[t3 h0];simp) il (λx y pv hx hy=>?_) (λx y pv hx hy=>?_) (λx y P Q R T M hx hy=>?_) (λx y P Q R T M hx hy I pq=>?_) (λx y P Q R T M x' y' s6 n6 e6 f6 F6 hx hy tr bg I pq BL=>?_)
        ·obtain⟨u,w1,_⟩:=u3 x y pv hx hy;rw[w1];rfl
        ·obtain⟨u,w1,w2⟩:=u3 x y pv hx hy;rw[w1];rcases ag x hx pv (aOy hy)with z1 | z1
         ·exact .inl (CG z1 w2.c)
         ·exact .inr (by cases pv<;>first | exact⟨_,_,_,_,_,rfl⟩ | cases z1)
        ·obtain⟨u,w1,w2⟩:=u3 x y _ hx hy;rw[w1];exact w2
        ·have l:=O x y P Q R T M hx hy I pq;refine⟨by rw[<-m];exact .inr ⟨_,_,l⟩,?_⟩;rintro rfl;exact hc.ok.hv I a9 _ _ _ l
        ·exact(hc.ok.hh I _ _ _ _ _ _ (O x y P Q R T M hx hy I pq) (O x' y' s6 n6 e6 f6 F6 tr bg I BL)).2
      ·obtain⟨u,r1,t⟩:=q4 x y pv hx l;exact⟨u,r1,t.fr kP hc.ok (λ_ _ _ _ _ _ _ _=>rfl)⟩
     | map es c=>
      obtain⟨kp,vp,en,y1,y2,y3,_⟩:=q2.2 i hi;rw[y1]at hj
      match j,hj with
      | 0,hj=>simp at hj;rw[hj]at y2;cases y2
      | 1,hj=>simp at hj;rw[hj]at y3;cases y3
      | y+2,hj=>simp at hj
     | _=>exact q2.elim
  ·obtain⟨q1,q2⟩:=hc.heap k _ _ _ _ _ h4;refine⟨q1,?_⟩;cases hm:μ k with
   | none=>rw[hm]at q2;exact q2
   | some pp=>
    obtain⟨b,base⟩:=pp;rw[hm]at q2;obtain⟨o,r1,t⟩:=q2;exact⟨o,r1,t.mono (λ_ _ _ _ _ _ hr=>hr.fr kP hc.ok (λ_ _ _ _ _ _ _ _=>rfl))⟩
 ·intro a b ga sa na ea fa gb sb nb eb fb PB o o' ha d bj om
  have SS:∀k B C D E G,h1[k]? =some (aq.row B C D E G)->∃B C D E G,h[k]? =some (aq.row B C D E G):=λk B C D E G hk=>by
   rcases(inv k _ _ _ _ _ hk).2 with⟨rfl,_⟩ | ⟨_,q⟩
   ·exact⟨_,_,_,_,_,hh⟩
   ·exact⟨_,_,_,_,_,q⟩
  obtain⟨_,_,_,_,_,q1⟩:=SS a _ _ _ _ _ ha;obtain⟨_,_,_,_,_,q2⟩:=SS b _ _ _ _ _ d;exact hc.ok.inj a b _ _ _ _ _ _ _ _ _ _ _ _ _ q1 q2 bj om
 ·obtain⟨k0,_,_,_,_,_,_,q0,q1,q2⟩:=GW b d;rcases Y k x y b hx with⟨_,_,_,q⟩ | ⟨_,_,q⟩
  ·rw[<-m]at q;rcases q with⟨_,_,_,_,_,_,r1,t⟩ | ⟨_,_,r⟩
   ·exact q0 (hc.ok.inj k0 sub _ _ _ _ _ _ _ _ _ _ _ _ _ q1 r1 q2 t)
   ·exact hc.ok.hv b ⟨k0,_,_,_,_,_,_,q1,q2⟩ _ _ _ r
  ·exact hc.ok.hv b ⟨k0,_,_,_,_,_,_,q1,q2⟩ _ _ _ q
 ·rcases Y k x y b hx with⟨rfl,rfl,rfl,q⟩ | ⟨k1,_,q⟩
  ·rcases Y k' x' y' b tr with⟨rfl,rfl,rfl,_⟩ | ⟨k2,_,r⟩
   ·exact⟨rfl,rfl,rfl⟩
   ·exact absurd q (ad _ _ _ _ k2 r)
  ·rcases Y k' x' y' b tr with⟨rfl,rfl,rfl,r⟩ | ⟨k2,_,r⟩
   ·exact absurd r (ad _ _ _ _ k1 q)
   ·exact hc.ok.hh b _ _ _ _ _ _ q r
variable {C:Start}{env:Env}{a:Act}
theorem qL.turn (hs:qL C μ h S env a w) {μ':Mu} (hf:Fr μ h S w μ' h1 S w) (hc:Core μ' h1 S w):qL C μ' h1 S env a w:=
 ⟨hc,hs.fr.trans hf,λt=>(hs.tmps t).fr hf hs.core.ok,hs.size,hs.far,hs.defers⟩
theorem qL.ex (hs:qL C μ h S env a w) (hx:Pa h h1):∃μ',qL C μ' h1 S env a w:=by
 obtain⟨μ',hf,hc⟩:=U7 hs.core hx;exact⟨μ',hs.turn hf hc⟩
theorem qL.ab (hs:qL C μ h S env a w) {id i j sub:Nat} {h1:(Nat->Prop)->List aq} (b:∀F,DC h id i j sub F (h1 F)):∃F,qL C μ (h1 F) S env a w:=by
 obtain⟨hf,hc⟩:=KU hs.core (b (FAb μ h sub));exact⟨_,hs.turn hf hc⟩
end
section
variable {P:Program}{T:sf}{μ:Mu}{h η:List aq}{k:List Nat}{S:Nat->Prop}{w:World}{C:Start}{env:Env}{a:Act}
theorem qL.agree (hs:qL C μ h S env a w) {w':World} (b:dt w w'):qL C μ h S env a w':=
 ⟨⟨hs.core.heap.agree b hs.core.ok,hs.core.ok.agree b⟩,hs.fr.trans (Fr.uk b),λt=>(hs.tmps t).fr (Fr.uk b) hs.core.ok,hs.size,hs.far,hs.defers⟩
theorem GX {pv:PV} {v:Value} {w w':World} {μ μ':Mu} {h h':List aq} {S S':Nat->Prop} (hs:AJ pv=true) (hv:cj μ h S w pv v):cj μ' h' S' w' pv v/\∀a:Value,cj μ' h' S' w' pv a->a=v:=by
 cases pv with
 | int k n=>obtain rfl:=hv.mJ;exact⟨ba.int _ _,λa h'=>h'.mJ⟩
 | bool b=>obtain rfl:=hv.oW;exact⟨ba.bool _,λa h'=>h'.oW⟩
 | str s=>obtain rfl:=hv.oX;exact⟨ba.str _,λa h'=>h'.oX⟩
 | ck=>obtain rfl:=hv.sg;exact⟨ba.ck,λa h'=>h'.sg⟩
 | _=>cases hs
def JT:PV->Value
 | .int k n=>.int k n
 | .bool b=>.bool b
 | .str s=>.string ⟨⟨s⟩⟩
 | .ck=>.slice none 0 0
 | _=>undef
theorem tZ {pv:PV} {w:World} {μ:Mu} {h:List aq} {S:Nat->Prop} (hs:AJ pv=true):cj μ h S w pv (JT pv):=by
 cases pv with
 | int k n=>exact ba.int _ _
 | bool b=>exact ba.bool _
 | str s=>exact ba.str _
 | ck=>exact ba.ck
 | _=>cases hs
theorem Tj {P:Program} {K:Env->Prop} (all:List Oper) (o:Oper) (rest:List Oper) (env:Env) (h:List aq) {j:Nat} {want:Bool} (hg:o.guard=some (j,want)):
  Ao P T all h K (o::rest) env=(match(all[j]?).bind (·.dst)with
     | some t=>match env t with
      | .bool b=>iq b
        (match(generalizing:=false) want with
         | true=>qop P T o.op (sT env t (.bool true)) h (λv=>Ao P T all h K rest (gn (sT env t (.bool true)) o.dst v))
         | false=>Ao P T all h K rest (gn (sT env t (.bool true)) o.dst (.fV [])))
        (match(generalizing:=false) want with
         | true=>Ao P T all h K rest (gn (sT env t (.bool false)) o.dst (.fV []))
         | false=>qop P T o.op (sT env t (.bool false)) h (λv=>Ao P T all h K rest (gn (sT env t (.bool false)) o.dst v)))
      | .fV []=>Ao P T all h K rest (gn env o.dst (.fV []))
      | _=>False
     | none=>False):=by
 obtain⟨dst,op,ty,pos,after,guard⟩:=o;have hg:guard=some (j,want):=hg;rw[hg];rfl
theorem vM (z:e9 P T) (ops:Array Oper) {K:Env->Prop} {Q:Act->Prop} (h:List aq) (w:World) (μ:Mu) (S:Nat->Prop) (A:∀env a,K env->qL C μ h S env a w->Q a):
  ∀(l:List Oper) (env:Env) (a:Act),Ao P T ops.toList h K l env->(∀o∈l,sF C.nt o=true)->qL C μ h S env a w->wpQuiet P ops (dt w) Q l a
 | [],env,a,hp,_,hs=>A env a hp hs
 | o::rest,env,a,hp,hd,hs=>by
  have r:∀t,o.dst=some t->t<C.nt:=λt B=>by
   have:=hd o aRN;unfold sF at this;rw[B]at this;simpa using this
  have s:∀o∈rest,sF C.nt o=true:=λo U=>hd o (by simp [U])
  have run:∀env',qL C μ h S env' a w->qop P T o.op env' h (λv=>Ao P T ops.toList h K rest (gn env' o.dst v))->o.quiet P a (dt w) (wpQuiet P ops (dt w) Q rest):=λenv' d g=>by
   obtain⟨dst,op,ty,pos,after,guard⟩:=o
   have still:dF T op env' h (λv=>Ao P T ops.toList h K rest (gn env' dst v))->Oper.quiet P ⟨dst,op,ty,pos,after,guard⟩ a (dt w) (wpQuiet P ops (dt w) Q rest):=λg=>by
    obtain⟨v,val,i,hv,V⟩:=pT (P:=P) (env:=env') z d.core.heap d.tmps (dst:=dst) (ty:=ty) (pos:=pos) (after:=after) (guard:=guard) g;refine⟨val,λw' q=>?_,vM z ops h w μ S A rest _ _ i s (d.put Fr.refl d.core hv r)⟩;unfold Oper.quietAt;rw[V w' q];exact⟨rfl,rfl⟩
   cases op with
   | call c=>
    obtain⟨D,args,ts⟩:=c;cases D with
    | value E=>
     have M:=dk d.tmps E;change afS P (ev env' E) (args.toList.map (ev env')) h _ at g
     unfold afS at g;split at g
     ·rename_i f F;rw[F]at M;replace g:=bW g;obtain⟨W,mr,v,X,G,⟨⟨fn,c,H,Y,Z⟩,hA⟩,i⟩:=g;obtain⟨n,i⟩:=bW i;refine⟨JT v,λw' q=>?_,vM z ops h w μ S A rest _ _ i s (d.put Fr.refl d.core (tZ n) r)⟩;have I:=d.agree q;obtain⟨N,J⟩:=z7.get _ _ X;have O:=(BD (k:=[]) (η:=[]) (m:=0) I.core trivial rfl).1
      have PA:=hA w' (args.map a.eval) (nW μ h []) (JR μ h [] S) O.heap O.ok (by simpa using N.symm) (λj L hj=>by
       have R:j<args.toList.length:=by have:=(N2.1 hj).1;simpa[N]using this
       have hx:(args.toList.map (ev env'))[j]? =some (ev env' args.toList[j]):=by rw[aOG,abF R];rfl
       refine⟨a.eval args.toList[j],by rw[aQm];have:=abF R;simp only[aOL]at this;rw[this];rfl,?_⟩;have hv:=(xW (k:=[]) (η:=[]) (m:=0) I.core trivial (J j _ L hx hj)).2.2 _ (dk I.tmps args.toList[j]);have pU:=(aOl.1 G) L (aOy hj);cases L with
       | fV ps=>cases pU
       | _=>exact hv)
      have nD:(execOp a.eval ⟨dst,.call ⟨.value E,args,ts⟩,ty,pos,after,guard⟩).run P w'=.ok (.enter f (args.map a.eval)) w':=by
       simp only[execOp,resolve,M.ac0,Deferred.ofValue,invoke,callFunc,Sem.run_bind,Sem.run_pure,Result.andThen_ok,Array.append_empty,aPX];have GN:¬fn.name= "runtime.NumGoroutine" :=by simpa using Z
       simp [program,Sem.run,Result.andThen,H,GN,Y]
      unfold Oper.quietAt;rw[nD];refine⟨rfl,PA.mono λe x ⟨u,res,h',μ',S',he,hR,hv,hH,hM,y⟩=>?_⟩;subst hR;have hu:=(GX (w':=w) (μ':=μ) (h':=h) (S':=S) n (tZ (w:=x) (μ:=μ') (h:=h') (S:=S') n)).1;have Un:=(GX (w':=x) (μ':=μ') (h':=h') (S':=S') n (tZ (w:=w) (μ:=μ) (h:=h) (S:=S) n)).2 u hv;refine⟨by rw[he,Un],q.trans ⟨λb hb=>y.blocks b hb mL,y.size,y.os,y.tape,y.output⟩⟩
     ·exact g.elim
    | _=>exact still g
   | _=>exact still g
  have skip:∀env',qL C μ h S env' a w->Ao P T ops.toList h K rest (gn env' o.dst (.fV []))->wpQuiet P ops (dt w) Q rest (a.put o.dst undef):=λenv' d g=>
   vM z ops h w μ S A rest _ _ g s (d.put Fr.refl d.core Ai r)
  unfold wpQuiet;cases hg:o.guard with
  | none=>
   have hp:qop P T o.op env h (λv=>Ao P T ops.toList h K rest (gn env o.dst v)):=by
    exact aQM
   rw[An (by simp [Region.wanted,hg])];exact run env hs hp
  | some p=>
   obtain⟨j,want⟩:=p;rw[Tj ops.toList o rest env h hg]at hp;split at hp
   ·rename_i t hj;split at hp
    ·rename_i b he;have hy:=Ah hs hj he;obtain⟨B,hf⟩:=ml hp;have d:=hs.GR he;cases b with
     | true=>
      have hp:=B rfl;cases want with
      | true=>rw[An aRX];exact run _ d hp
      | false=>rw[mg aRX];exact skip _ d hp
     | false=>
      have hp:=hf rfl;cases want with
      | true=>rw[mg aRX];exact skip _ d hp
      | false=>rw[An aRX];exact run _ d hp
    ·rename_i he;rw[mg aSr];exact skip _ hs hp
    ·exact aRg
   ·exact aRg
theorem CH:∀(σ:List (Nat×PV)) (t:Nat),Bs h η k env σ->(∃v,Fz h η k (env t) v/\DY rC σ t=v)\/DY rC σ t=.j3
 | [],t,_=>.inr rfl
 | (b,v)::r,t,hh=>by
  obtain⟨h1,h2⟩:=hh;by_cases a:t=b
  ·subst a;exact .inl ⟨v,h1,by simp [DY,GQ]⟩
  ·simp only[DY];rw[LN _ _ a];exact CH r t h2
theorem JU (hs:qL C μ h S env a w) {σ:List (Nat×PV)} (b:Bt C.h.length env h σ η):∃μ' S',qL C μ' η S' (DY rC σ) a w:=by
 obtain⟨k,hk,hm,he,hh⟩:=b;obtain⟨c,_,_⟩:=BD hs.core hh hk;refine⟨nW μ h k,JR μ h k S,c,alk hs.core hs.fr hh hk hm,λt=>?_,hs.size,λt d=>?_,hs.defers⟩
 ·rcases CH σ t he with⟨v,h1,h2⟩ | h1
  ·rw[h2];exact(xW hs.core hh h1).2.2 _ (hs.tmps t)
  ·rw[h1];trivial
 ·rcases CH σ t he with⟨v,h1,h2⟩ | h1
  ·rw[hs.far t d]at h1;rw[h2];cases h1;rfl
  ·exact h1
theorem GS.mono {Q b:XQ} {e:Exit} {w:World} (c:∀env h,Q e env h->b e env h) (d:GS C Q e a w):GS C b e a w:=by
 obtain⟨μ,h,S,env,hs,f⟩:=d;exact⟨μ,h,S,env,hs,c env h f⟩
theorem tC:∀(l:List Nat) (x:Nat),rl l x=true->x∈l
 | [],_,h=>by cases h
 | a::r,x,h=>by
  unfold rl at h;split at h
  ·rename_i b;have:=abL b;simp [this]
  ·exact aOR _ (tC r x h)
theorem vN (l:e9 P T) (ops:Array Oper) {K:Env->List aq->Prop} {Q:Exit->Act->World->Prop} {next:Act->World->Prop} (k:∀env h a w μ S,K env h->qL C μ h S env a w->next a w) (i:Nat) (o:Oper) (m:ops[i]? =some o)
  (hd:sF C.nt o=true) (env:Env) (h:List aq) (a:Act) (w:World) (μ:Mu) (S:Nat->Prop) (hp:xX P T ops.toList K [o] env h) (hs:qL C μ h S env a w):wpOp P ops Q i next a w:=by
 have d:∀t,o.dst=some t->t<C.nt:=λt e=>by
  unfold sF at hd;rw[e]at hd;simpa using hd
 have run:∀env',qL C μ h S env' a w->pop P T o.op env' h (λv h'=>K (gn env' o.dst v) h')->o.wp P a w next Q:=λenv' c f=>by
  obtain⟨dst,op,ty,pos,after,guard⟩:=o;refine JP (env:=env') l c.core c.tmps f _ _ λv val h' μ' S' w' g hv hc hf=>?_;exact k _ h' _ w' μ' S' g (c.put hf hc hv d)
 have skip:∀env',qL C μ h S env' a w->K (gn env' o.dst (.fV [])) h->next (a.put o.dst undef) w:=λenv' c f=>
  k _ h _ w μ S f (c.put Fr.refl c.core Ai d)
 unfold wpOp;simp only[m];cases hg:o.guard with
 | none=>
  have hp:pop P T o.op env h (λv h'=>K (gn env o.dst v) h'):=by
   exact aQM
  rw[An (by simp [Region.wanted,hg])];exact .inl (run env hs hp)
 | some p=>
  obtain⟨j,want⟩:=p;rw[Aj ops.toList o [] env h hg]at hp;split at hp
  ·rename_i t hj;split at hp
   ·rename_i b he;have hy:=Ah hs hj he;obtain⟨e,hf⟩:=ml hp;have c:=hs.GR he;cases b with
    | true=>
     have hp:=e rfl;cases want with
     | true=>rw[An aRX];exact .inl (run _ c hp)
     | false=>rw[mg aRX];exact skip _ c hp
    | false=>
     have hp:=hf rfl;cases want with
     | true=>rw[mg aRX];exact skip _ c hp
     | false=>rw[An aRX];exact .inl (run _ c hp)
   ·rename_i he;rw[mg aSr];exact skip _ hs hp
   ·exact aRg
  ·exact aRg
theorem afT {op:Op} {env:Env} {h:List aq} {G:PV->List aq->Prop} (hs:dF T op env h (λv=>G v h)):pop P T op env h G:=by
 cases op with
 | store t a x=>exact hs.elim
 | box t x=>exact hs.elim
 | alloc t=>exact hs.elim
 | makeSlice t l c=>exact hs.elim
 | buildSlice t len parts=>exact hs.elim
 | convert s d x=>
  simp only[pop];split
  ·rename_i e e2 f;simp only[dF,e,e2,f]at hs
  ·exact hs
 | binOp g t x y ty=>
  simp only[pop];split
  ·rename_i e e2 f;simp only[dF,Wx,e,e2,f]at hs
  ·exact hs
 | makeMap t r=>exact hs.elim
 | mapUpdate t m k x=>exact hs.elim
 | call c=>
  obtain⟨callee,args,ts⟩:=c;cases callee with
  | value i=>exact hs.elim
  | builtin b=>cases b with
   | append=>exact hs.elim
   | copy=>exact hs.elim
   | _=>(simp only[pop];exact hs)
  | _=>(simp only[pop];exact hs)
 | _=>(simp only[pop];exact hs)
theorem GY {st:Bool} {op:Op} {env:Env} {h:List aq} {G:PV->List aq->Prop} (hs:IB P T st op env h G):pop P T op env h G:=by
 cases st with
 | true=>exact afT hs
 | false=>exact hs
theorem Ei {all:List Oper} {st:Bool} {o:Oper} {K:Env->List aq->Prop} {env:Env} {h:List aq} (hp:fs P T all st o (λv h'=>K (gn env o.dst v) h') env h):xX P T all K [o] env h:=by
 unfold fs at hp;cases hg:o.guard with
 | none=>
  rw[hg]at hp;obtain⟨dst,op,ty,pos,after,guard⟩:=o;have hg:guard=none:=hg;subst hg;exact GY hp
 | some q=>
  obtain⟨j,want⟩:=q;rw[hg]at hp;rw[Aj all o [] env h hg];simp only at hp ⊢;generalize(all[j]?).bind (·.dst)=d at hp ⊢;cases d with
  | none=>exact hp.elim
  | some t=>
   simp only at hp ⊢;generalize hv:env t=v at hp ⊢;cases v with
   | bool b=>
    simp only at hp ⊢;cases b with
    | true=>
     refine .mk (λ_=>?_) (λhc=>by cases hc);rw[Ej hv];cases want with
     | true=>exact GY hp
     | false=>exact hp
    | false=>
     refine .mk (λhc=>by cases hc) (λ_=>?_);rw[Ej hv];cases want with
     | true=>exact hp
     | false=>exact GY hp
   | fV l=>cases l with
    | nil=>exact hp
    | cons a r=>exact hp.elim
   | _=>exact hp.elim
inductive Qb (all:List Oper):Nat->Nat->Prop
 | base {x i:Nat} (h:x∈eM all i):Qb all x i
 | step {x d i:Nat} (h:d∈eM all i) (hx:Qb all x d):Qb all x i
theorem LO:∀(l acc:List Nat) (x:Nat),x∈ddL l acc->x∈l\/x∈acc
 | [],acc,x,h=>.inr h
 | a::r,acc,x,h=>by
  unfold ddL at h;cases hi:rl acc a with
  | true=>rw[hi]at h;exact(LO r acc x h).imp (aOR _) id
  | false=>
   rw[hi]at h;rcases LO r (a::acc) x h with h | h
   ·exact .inl (aOR _ h)
   ·simp only[aOz]at h;rcases h with rfl | h
    ·exact .inl aRN
    ·exact .inr h
theorem BE:∀(l:List Nat) (x:Nat),x∈l->rl l x=true
 | a::r,x,h=>by
  unfold rl;cases b:Nat.beq a x with
  | true=>rfl
  | false=>
   simp only[aOz]at h;rcases h with rfl | h
   ·rw[aPJ]at b;cases b
   ·exact BE r x h
theorem CI {all:List Oper}:∀(ord:List (Nat×Bool)) (t:List (Nat×List Nat)),(∀i x,rl (gZ t i) x=true->Qb all x i)->∀i x,rl (gZ (LP all ord t) i) x=true->Qb all x i
 | [],t,hg=>hg
 | (j,b)::r,t,hg=>CI r _ (λi x hx=>by
  unfold gZ at hx;cases a:Nat.beq j i with
  | false=>rw[a]at hx;exact hg i x hx
  | true=>
   rw[a]at hx;have:=abL a;subst this;rcases LO _ _ _ (tC _ _ hx)with hm | hm
   ·rw[aOx,List.mem_flatMap]at hm;rcases hm with hm | ⟨d,hd,hm⟩
    ·exact .base hm
    ·exact .step hd (hg d x (BE _ _ hm))
   ·simp at hm)
theorem mw {ops:Array Oper} {t:List (Nat×List Nat)} {p:Nat×Bool}:∀(c d:List (Nat×Bool)),dC ops t (c++p::d)=true->(∀o,o∈c->j4 ops t o p=true)/\dC ops t (c++d)=true
 | [],d,h=>by
  simp only[aOB,dC,As]at h;exact⟨λo b=>by simp at b,h.2⟩
 | a::c,d,h=>by
  simp only[aPu,dC,As,aOl]at h ⊢;obtain⟨h1,h2⟩:=mw c d h.2;refine⟨λo b=>?_,λq e=>h.1 q (by simp only[aOx,aOz]at e ⊢;exact e.imp id .inr),h2⟩;simp only[aOz]at b;rcases b with rfl | b
  ·exact h.1 p aRN
  ·exact h1 o b
theorem vO {ops:Array Oper} {i:Nat} {o:Oper} (b:ops[i]? =some o) {d:Nat}:d∈eM ops.toList i↔∃e,e∈o.after/\Region.binds .any e=true/\e.on=d:=by
 unfold eM;have:ops.toList[i]? =some o:=by simpa using b
 rw[this];unfold afU;rw[List.mem_filterMap];constructor
 ·rintro⟨e,he,hx⟩;cases a:Region.binds .any e with
  | true=>rw[a]at hx;exact⟨e,by simpa using he,a,by simpa using hx⟩
  | false=>rw[a]at hx;cases hx
 ·rintro⟨e,he,a,hx⟩;exact⟨e,by simpa using he,by rw[a];simp [hx]⟩
theorem LQ (hT:e9 P T) (ops:Array Oper) {t:List (Nat×List Nat)} (pk:∀i x,rl (gZ t i) x=true->Qb ops.toList x i) (B:∀i,i<ops.size->∀d,d∈eM ops.toList i->d<ops.size/\d≠i)
  {K:Env->List aq->Prop} {Q:Exit->Act->World->Prop} (hK:∀env h a w μ S,K env h->qL C μ h S env a w->Q .normal a w) (hd:∀o∈ops.toList,sF C.nt o=true):
  ∀(n:Nat) (l:List (Nat×Bool)) (s:List (Nat×List Nat)) (listed:Array Bool) (env:Env) (h:List aq) (a:Act) (w:World) (μ:Mu) (S:Nat->Prop),l.length=n->dC ops t l=true->(∀p,p∈l->p.1<ops.size)->listed.size=ops.size->
   (∀j,j<ops.size->(listed.getD j true=false↔j∈l.map (·.1)))->(∀j,j<ops.size->j∉l.map (·.1)->∀d,d∈eM ops.toList j->d∉l.map (·.1))->Tl P T ops.toList t K l s env h->qL C μ h S env a w->wpAny P .any ops Q n listed a w
 | 0,l,s,listed,env,h,a,w,μ,S,L,_,_,M,u,_,hf,hs=>by
  obtain rfl:l=[]:=aPt.1 L;refine⟨?_,hK env h a w μ S hf hs⟩;cases hr:Region.ready .any ops listed with
  | nil=>rfl
  | cons j r=>
   have hj:j∈Region.ready .any ops listed:=by rw[hr];simp
   rw[mem_ready]at hj;obtain⟨h1,o,N,_⟩:=hj;have:=(u j (amb.1 N).1).1 h1;simp at this
 | n+1,l,s,listed,env,h,a,w,μ,S,L,m,bg,M,u,XC,hf,hs=>by
  have D:∀d,d<ops.size->(listed.getD d false=true↔d∉l.map (·.1)):=λd E=>by
   have:=u d E;have e:listed.getD d false=listed.getD d true:=by simp [Array.getD,M,E]
   rw[e,<-this];cases listed.getD d true<;>simp
  refine⟨λh0=>?_,λi hi=>?_⟩
  ·exfalso;cases l with
   | nil=>simp at L
   | cons p r=>
    have hp:=bg p aRN;have N:=aOJ hp
    have:p.1∈Region.ready .any ops listed:=by
     rw[mem_ready];refine⟨(u p.1 hp).2 aRN,_,N,λe he F=>?_⟩;have hm:e.on∈eM ops.toList p.1:=(vO N).2 ⟨e,he,F,rfl⟩;obtain⟨d1,d2⟩:=B p.1 hp _ hm;rw[D _ d1];intro hc;simp only[aOC,aOz,aPg]at hc;rcases hc with hc | ⟨q,c,hc⟩
     ·exact d2 hc
     ·simp only[dC,As,aOl]at m;have:=m.1 q c;unfold j4 at this;simp only[As,aPe]at this;rw[hc,BE _ _ hm]at this;exact absurd this.1.2 aRN
    rw[h0]at this;simp at this
  ·rw[mem_ready]at hi;obtain⟨h1,O,R,V⟩:=hi;have W:=(amb.1 R).1
   have X:∀d,d∈eM ops.toList i->d∉l.map (·.1):=λd y=>by
    obtain⟨e,he,F,rfl⟩:=(vO R).1 y;exact(D _ (B i W _ y).1).1 (V e he F)
   have LU:∀x,Qb ops.toList x i->x∉l.map (·.1):=by
    have gen:∀x j,Qb ops.toList x j->j<ops.size->(∀d,d∈eM ops.toList j->d∉l.map (·.1))->x∉l.map (·.1):=λx j Y=>by
     induction Y with
     | base hx=>exactλ_ hj=>hj _ hx
     | step y _ Z=>exactλhj aa=>Z (B _ hj _ y).1 (XC _ (B _ hj _ y).1 (aa _ y))
    exactλx Y=>gen x i Y W X
   obtain⟨p,hp,G⟩:=aPg.1 ((u i W).1 h1);obtain⟨g,k,rfl⟩:=List.append_of_mem hp;obtain⟨f,st⟩:=p;simp only at G;subst G;obtain⟨H,ad⟩:=mw g k m;have Tm:ops.toList[f]? =some O:=by simpa using R
   have ag:=PG (P:=P) (T:=T) (ops:=ops) (t:=t) (K:=K) Tm g k s env h (λq c=>by
    have hk:=H q c;unfold j4 at hk;simp only[As,aOZ,aPe]at hk;have I:q.1∈(g++(f,st)::k).map (·.1):=aPg.2 ⟨q,by simp [c],rfl⟩
    have J:rl (gZ t f) q.1=false:=by
     cases F:rl (gZ t f) q.1 with
     | false=>rfl
     | true=>exact absurd I (LU _ (pk _ _ F))
    rcases hk.2 with yL | ⟨a2,z⟩
    ·exact absurd I (X _ (tC _ _ yL))
    ·refine⟨?_,J,a2⟩;rcases z with z | z
     ·exact z
     ·rw[J]at z;cases z) hf
   have pU:∀q,q∈g++k->q.1≠f:=λq c=>by
    rw[aOx]at c;rcases c with c | c
    ·have hk:=H q c;unfold j4 at hk;simp only[As,aPe]at hk;intro he;have this:Nat.beq q.1 f=false:=hk.1.1;rw[he,aPJ]at this;cases this
    ·have:∀(g:List (Nat×Bool)),dC ops t (g++(f,st)::k)=true->j4 ops t (f,st) q=true:=λg=>by
      induction g with
      | nil=>intro hh;simp only[aOB,dC,As,aOl]at hh;exact hh.1 q c
      | cons b r Z=>intro hh;simp only[aPu,dC,As]at hh;exact Z hh.2
     have hk:=this g m;unfold j4 at hk;simp only[As,aPe]at hk;intro he;have:=hk.1.1;rw[he]at this;rw[aPJ]at this;cases this
   have U:∀j,j∈(g++(f,st)::k).map (·.1)↔j=f\/j∈(g++k).map (·.1):=λj=>by
    simp only[List.map_append,aOC,aOx,aOz];constructor
    ·rintro(h | h | h)
     ·exact .inr (.inl h)
     ·exact .inl h
     ·exact .inr (.inr h)
    ·rintro(h | h | h)
     ·exact .inr (.inl h)
     ·exact .inl h
     ·exact .inr (.inr h)
   have a3:f∉(g++k).map (·.1):=λhm=>by
    obtain⟨q,c,he⟩:=aPg.1 hm;exact pU q c he
   have GZ:xX P T ops.toList (λenv' h'=>Tl P T ops.toList t K (g++k) s env' h') [O] env h:=Ei (jV (λv h' hk=>hk.2.2) ag);refine vN hT ops (λenv' h' a' w' μ' S' hk nI=>LQ hT ops pk B hK hd n (g++k) s _ env' h' a' w' μ' S' (by simp at L ⊢;omega) ad (λq c=>bg q (by rw[aOx]at c ⊢;exact c.imp id (aOR _))) (by simpa using M) (λj hj=>?_) (λj hj a4 dd Qa=>?_) hk nI) f O R (hd O (by have:=(N2.1 Tm);obtain⟨h1,h2⟩:=this;rw[<-h2];exact aOD h1)) env h a w μ S GZ hs
   ·by_cases A:j=f
    ·subst A;constructor
     ·intro hc;have:(listed.setIfInBounds j true).getD j true=true:=by simp [Array.getD,M,hj]
      rw[this]at hc;cases hc
     ·intro hc;exact absurd hc a3
    ·have e:(listed.setIfInBounds f true).getD j true=listed.getD j true:=getD_set_ne true (aPB A);rw[e,u j hj,U j];constructor
     ·rintro(h | h)
      ·exact absurd h A
      ·exact h
     ·exact .inr
   ·by_cases A:j=f
    ·subst A;exactλhm=>X dd Qa ((U dd).2 (.inr hm))
    ·exactλhm=>XC j hj (λhc=>by rcases(U j).1 hc with hc | hc;exact A hc;exact a4 hc) dd Qa ((U dd).2 (.inr hm))
theorem G0 {ops:Array Oper} {listed:Array Bool} {i:Nat} {L L':List Nat} (b:∀j,j∈L↔j=i\/j∈L') (c:i∉L') (k:listed.size=ops.size) (l:∀j,j<ops.size->(listed.getD j true=false↔j∈L))
  (m:∀j,j<ops.size->j∉L->∀d,d∈eM ops.toList j->d∉L) (n:∀d,d∈eM ops.toList i->d∉L):
  (∀j,j<ops.size->((listed.setIfInBounds i true).getD j true=false↔j∈L'))/\∀j,j<ops.size->j∉L'->∀d,d∈eM ops.toList j->d∉L':=by
 refine⟨λj hj=>?_,λj hj f d g hm=>?_⟩
 ·by_cases a:j=i
  ·subst a;constructor
   ·intro hc;have:(listed.setIfInBounds j true).getD j true=true:=by simp [Array.getD,k,hj]
    rw[this]at hc;cases hc
   ·intro hc;exact absurd hc c
  ·have e:(listed.setIfInBounds i true).getD j true=listed.getD j true:=getD_set_ne true (aPB a);rw[e,l j hj,b j];exact⟨λh=>h.resolve_left a,.inr⟩
 ·by_cases a:j=i
  ·subst a;exact n d g ((b d).2 (.inr hm))
  ·exact m j hj (λhc=>by rcases(b j).1 hc with hc | hc;exact a hc;exact f hc) d g ((b d).2 (.inr hm))
theorem yp {ops:Array Oper} {t:List (Nat×List Nat)} {p q:Nat×Bool} (h:j4 ops t p q=true):p.1≠q.1:=by
 unfold j4 at h;simp only[As,aPe]at h;intro he;have:=h.1.1;rw[he,aPJ]at this;cases this
theorem Tn {ops:Array Oper} {t:List (Nat×List Nat)} {p q:Nat×Bool} (h:j4 ops t p q=true):q.1∉eM ops.toList p.1:=by
 unfold j4 at h;simp only[As,aPe]at h;intro hm;have:=h.1.2;rw[BE _ _ hm]at this;cases this
theorem sG {ops:Array Oper} {t:List (Nat×List Nat)} {p q:Nat×Bool}:∀(b a:List (Nat×Bool)),dC ops t (b++p::a)=true->q∈a->j4 ops t p q=true
 | [],a,h,c=>by simp only[aOB,dC,As,aOl]at h;exact h.1 q c
 | _::b,a,h,c=>by simp only[aPu,dC,As]at h;exact sG b a h.2 c
theorem G2 {ops:Array Oper} {t:List (Nat×List Nat)} (f:∀i x,rl (gZ t i) x=true->Qb ops.toList x i) {L:List Nat} {q:Nat×Bool} {i:Nat} {st:Bool} (hk:j4 ops t q (i,st)=true) (b:q.1∈L) (g:∀d,d∈eM ops.toList i->d∉L) (h:∀x,Qb ops.toList x i->x∉L):
  q.2=true/\rl (gZ t i) q.1=false/\yq ops q.1 i=true:=by
 unfold j4 at hk;simp only[As,aOZ,aPe]at hk
 have c:rl (gZ t i) q.1=false:=by
  cases j:rl (gZ t i) q.1 with
  | false=>rfl
  | true=>exact absurd b (h _ (f _ _ j))
 rcases hk.2 with k | ⟨e,a⟩
 ·exact absurd b (g _ (tC _ _ k))
 ·refine⟨?_,c,e⟩;rcases a with a | a
  ·exact a
  ·rw[c]at a;cases a
def Left (ops:Array Oper) (l:List (Nat×Bool)) (R:List Nat) (listed:Array Bool):Prop:=
 listed.size=ops.size/\(∀j,j<ops.size->(listed.getD j true=false↔j∈l.map (·.1)++R))/\∀j,j<ops.size->j∉l.map (·.1)++R->∀d,d∈eM ops.toList j->d∉l.map (·.1)++R
def Snd (P:Program) (T:sf) (C:Start) (ops:Array Oper) (t:List (Nat×List Nat)) (Q:Exit->Act->World->Prop) (E:List (Nat×List Nat)->Env->List aq->Prop) (R:List Nat) (c:List (Nat×Bool)->Prop):Prop:=
 ∀(l:List (Nat×Bool)) (b:List (Nat×List Nat)) (listed:Array Bool) (env:Env) (h:List aq) (a:Act) (w:World) (μ:Mu) (S:Nat->Prop),c l->(∀p,p∈l->p.1<ops.size)->Left ops l R listed->
  oB P T ops.toList t E l b env h->qL C μ h S env a w->wpAny P .any ops Q (l.length+R.length) listed a w
theorem U8 (f:e9 P T) (ops:Array Oper) {t:List (Nat×List Nat)} (g:∀i x,rl (gZ t i) x=true->Qb ops.toList x i) (j:∀i,i<ops.size->∀d,d∈eM ops.toList i->d<ops.size/\d≠i)
  {K:Env->List aq->Prop} {Q:Exit->Act->World->Prop} (k:∀env h a w μ S,K env h->qL C μ h S env a w->Q .normal a w) (hd:∀o∈ops.toList,sF C.nt o=true) (A:List (Nat×Bool)) (m:∀p,p∈A->p.1<ops.size):
  Snd P T C ops t Q (λb env h=>Tl P T ops.toList t K A b env h) (A.map (·.1)) (λl=>dC ops t (l++A)=true):=by
 intro l b listed env h a w μ S hc n r hf hs;obtain⟨s,c,e⟩:=r;rw[show l.length+(A.map (·.1)).length=(l++A).length from by simp];rw[<-List.map_append]at c e;exact LQ f ops g j k hd _ (l++A) b listed env h a w μ S rfl hc (λp hp=>by rcases aOx.1 hp with q | q;exact n p q;exact m p q) s c e (xY l b env h hf) hs
theorem ai3 {ops:Array Oper} {t:List (Nat×List Nat)} {Q:Exit->Act->World->Prop} {E:List (Nat×List Nat)->Env->List aq->Prop} {R:List Nat} {c:List (Nat×Bool)->Prop} (f:Snd P T C ops t Q E R c) (b:List (Nat×Bool)) (h1:∀p,p∈b->p.1<ops.size):
  Snd P T C ops t Q (λd env h=>oB P T ops.toList t E b d env h) (b.map (·.1)++R) (λl=>c (l++b)):=by
 intro l d listed env h a w μ S hc g i hf hs;have e:(l++b).map (·.1)++R=l.map (·.1)++(b.map (·.1)++R):=by simp
 have:=f (l++b) d listed env h a w μ S hc (λp hp=>by rcases aOx.1 hp with q | q;exact g p q;exact h1 p q) (by unfold Left;rw[e];exact i) (xZ l d env h hf) hs;rw[show l.length+(b.map (·.1)++R).length=(l++b).length+R.length from by simp;omega];exact this
structure BrC (ops:Array Oper) (t:List (Nat×List Nat)) (x y:Nat) (R:List Nat) (cX cY:List (Nat×Bool)->Prop) (l:List (Nat×Bool)):Prop where
 pw:dC ops t l=true
 hd:∀p,p∈l->j4 ops t p (x,false)=true/\j4 ops t p (y,false)=true/\(∀d,d∈eM ops.toList p.1->d∉R)/\p.1∉R
 x:cX l
 y:cY l
theorem aq5 (hT:e9 P T) (ops:Array Oper) {t:List (Nat×List Nat)} (M:∀i x,rl (gZ t i) x=true->Qb ops.toList x i) (N:∀i,i<ops.size->∀d,d∈eM ops.toList i->d<ops.size/\d≠i)
  {Q:Exit->Act->World->Prop} (hd:∀o∈ops.toList,sF C.nt o=true) {x y:Nat} {c D:List Nat} {E F:List (Nat×List Nat)->Env->List aq->Prop} {cX cY:List (Nat×Bool)->Prop} (O:wB E) (R:wB F)
  (hX:Snd P T C ops t Q E c cX) (hY:Snd P T C ops t Q F D cY) (ad:∀k p m,cX (k++p::m)->cX (k++m)) (ag:∀k p m,cY (k++p::m)->cY (k++m))
  (hlen:c.length=D.length) (U:∀j,j∈x::c↔j∈y::D) (a2:x<ops.size) (a3:∀d,d∈eM ops.toList x->d∉x::c) (a4:x∉c) (a5:y∉D) (a6:∀j,j∈c->j=y\/rl (gZ t j) x=true\/rl (gZ t j) y=true):
  Snd P T C ops t Q (λf env h=>oB P T ops.toList t E [(x,false)] f env h/\oB P T ops.toList t F [(y,false)] f env h) (x::c) (BrC ops t x y (x::c) cX cY):=by
 have hE:wB (λf env h=>oB P T ops.toList t E [(x,false)] f env h/\oB P T ops.toList t F [(y,false)] f env h):=JV (sH O _) (sH R _);intro l;generalize hn:l.length=n;induction n generalizing l with
 | zero=>?z
 | succ n ih=>?s
 all_goals
  intro f listed env h a w μ S hc bg hL hf hs;obtain⟨G,J,XC⟩:=hL
  have V:∀d,d<ops.size->(listed.getD d false=true↔d∉l.map (·.1)++x::c):=λd W=>by
   have:=J d W;have e:listed.getD d false=listed.getD d true:=by simp [Array.getD,G,W]
   rw[e,<-this];cases listed.getD d true<;>simp
  refine⟨λh0=>?_,λi hi=>?_⟩
 case z.refine_1 | s.refine_1=>
  exfalso
  have first:∃p,p<ops.size/\p∈l.map (·.1)++x::c/\∀d,d∈eM ops.toList p->d∉l.map (·.1)++x::c:=by
   cases l with
   | nil=>exact⟨x,a2,by simp,λd X hm=>a3 d X (by simpa using hm)⟩
   | cons p r=>
    have hp:=bg p aRN;refine⟨p.1,hp,by simp,λd X hm=>?_⟩;rw[aOx]at hm;rcases hm with hm | hm
    ·simp only[aOC,aOz,aPg]at hm;rcases hm with rfl | ⟨q,b,rfl⟩
     ·exact(N _ hp _ X).2 rfl
     ·exact Tn (sG [] _ hc.pw b) X
    ·exact(hc.hd p aRN).2.2.1 d X hm
  obtain⟨p,hp,a8,a9⟩:=first
  have ho:=aOJ hp
  have:p∈Region.ready .any ops listed:=by
   rw[mem_ready];refine⟨(J p hp).2 a8,_,ho,λe he hb=>?_⟩;have hm:e.on∈eM ops.toList p:=(vO ho).2 ⟨e,he,hb,rfl⟩;rw[V _ (N p hp _ hm).1];exact a9 _ hm
  rw[h0]at this;simp at this
 all_goals
  rw[mem_ready]at hi;obtain⟨h1,B,K,bj⟩:=hi;have wA:=(amb.1 K).1;have Tm:ops.toList[i]? =some B:=by simpa using K
  have H:sF C.nt B=true:=hd B (by obtain⟨h1,h2⟩:=N2.1 Tm;rw[<-h2];exact aOD h1)
  have I:∀d,d∈eM ops.toList i->d∉l.map (·.1)++x::c:=λd L=>by
   obtain⟨e,he,hb,rfl⟩:=(vO K).1 L;exact(V _ (N i wA _ L).1).1 (bj e he hb)
  have Y:∀z,Qb ops.toList z i->z∉l.map (·.1)++x::c:=by
   have gen:∀z j,Qb ops.toList z j->j<ops.size->(∀d,d∈eM ops.toList j->d∉l.map (·.1)++x::c)->z∉l.map (·.1)++x::c:=λz j ha=>by
    induction ha with
    | base hx=>exactλ_ hj=>hj _ hx
    | step L _ ih=>exactλhj bo=>ih (N _ hj _ L).1 (XC _ (N _ hj _ L).1 (bo _ L))
   exactλz ha=>gen z i ha wA I
  have br:y∈x::c:=(U y).2 aRN;have g:=(J i wA).1 h1;rw[aOx]at g
  have split:i∈l.map (·.1)\/i=x\/i=y:=by
   rcases g with g | g
   ·exact .inl g
   ·rcases aOz.1 g with rfl | b
    ·exact .inr (.inl rfl)
    ·rcases a6 i b with h2 | h2 | h2
     ·exact .inr (.inr h2)
     ·exact absurd (by simp:x∈l.map (·.1)++x::c) (Y _ (M _ _ h2))
     ·exact absurd (by rw[aOx];exact .inr br) (Y _ (M _ _ h2))
  have bt:∀q,q∈l->q.1∉x::c:=λq b=>(hc.hd q b).2.2.2;rcases split with g | rfl | rfl
 case z.refine_2.inl=>obtain rfl:=aPt.1 hn;simp at g
 case s.refine_2.inl=>
  obtain⟨p,hp,Z⟩:=aPg.1 g;obtain⟨k,m,rfl⟩:=List.append_of_mem hp;obtain⟨i',st⟩:=p;simp only at Z;subst Z;obtain⟨aa,bw⟩:=mw k _ hc.pw;have u:=yr hE (P:=P) (T:=T) (ops:=ops) (t:=t) Tm k m f env h (λq b=>G2 M (aa q b) (by rw[aOx];exact .inl (aPg.2 ⟨q,List.mem_append_left _ b,rfl⟩)) I Y) hf
  have A:i'∉(k++m).map (·.1)++x::c:=λhm=>by
   rw[aOx]at hm;rcases hm with hm | hm
   ·obtain⟨q,b,he⟩:=aPg.1 hm;rcases aOx.1 b with b | b
    ·exact yp (aa q b) he
    ·exact yp (sG k _ hc.pw b) he.symm
   ·exact bt (i',st) aRN hm
  obtain⟨r1,r2⟩:=G0 (L':=(k++m).map (·.1)++x::c) (λj=>by
   simp only[List.map_append,aOC,aOx,aOz];constructor
   ·rintro((h | h | h) | h)
    ·exact .inr (.inl (.inl h))
    ·exact .inl h
    ·exact .inr (.inl (.inr h))
    ·exact .inr (.inr h)
   ·rintro(h | (h | h) | h)
    ·exact .inl (.inr (.inl h))
    ·exact .inl (.inl h)
    ·exact .inl (.inr (.inr h))
    ·exact .inr h) A G J XC I
  have GZ:xX P T ops.toList (λenv' h'=>oB P T ops.toList t (λf env h=>oB P T ops.toList t E [(x,false)] f env h/\oB P T ops.toList t F [(y,false)] f env h) (k++m) f env' h') [B] env h:=Ei (jV (λv h' hk=>hk.2.2) u)
  have bD:BrC ops t x y (x::c) cX cY (k++m):=⟨bw,λq b=>hc.hd q (by
   simp only[aOx,aOz]at b ⊢;exact b.imp id .inr),ad _ _ _ hc.x,ag _ _ _ hc.y⟩
  have q:wpOp P ops Q i' (wpAny P .any ops Q (n+(x::c).length) (listed.setIfInBounds i' true)) a w:=vN hT ops (λenv' h' a' w' μ' S' hk nI=>ih (k++m) (by simp at hn ⊢;omega) f _ env' h' a' w' μ' S' bD (λq b=>bg q (by
   simp only[aOx,aOz]at b ⊢;exact b.imp id .inr)) ⟨by simpa using G,r1,r2⟩ hk nI) i' B K H env h a w μ S GZ hs
  rw[show n+(x::c).length=n+1+c.length from by simp;omega]at q;exact q
 case z.refine_2.inr.inl | s.refine_2.inr.inl=>
  have Mc:oB P T ops.toList t E (l++[(i,false)]) f env h:=xZ l f env h (BF (λ_ _ _ q=>q.1) l f env h hf);have u:=yr O (P:=P) (T:=T) (ops:=ops) (t:=t) Tm l [] f env h (λq b=>G2 M (hc.hd q b).1 (by rw[aOx];exact .inl (aPg.2 ⟨q,b,rfl⟩)) I Y) Mc
  have A:i∉l.map (·.1)++c:=λhm=>by
   rcases aOx.1 hm with hm | hm
   ·obtain⟨q,b,he⟩:=aPg.1 hm;exact yp (hc.hd q b).1 he
   ·exact a4 hm
  obtain⟨r1,r2⟩:=G0 (L':=l.map (·.1)++c) (λj=>by
   simp only[aOx,aOz];constructor
   ·rintro(h | h | h)
    ·exact .inr (.inl h)
    ·exact .inl h
    ·exact .inr (.inr h)
   ·rintro(h | h | h)
    ·exact .inr (.inl h)
    ·exact .inl h
    ·exact .inr (.inr h)) A G J XC I
  have GZ:xX P T ops.toList (λenv' h'=>oB P T ops.toList t E l f env' h') [B] env h:=Ei (jV (λv h' hk=>by have:=hk.2.2;rwa [aOW]at this) u);have q:wpOp P ops Q i (wpAny P .any ops Q (l.length+c.length) (listed.setIfInBounds i true)) a w:=vN hT ops (λenv' h' a' w' μ' S' hk nI=>hX l f _ env' h' a' w' μ' S' hc.x bg ⟨by simpa using G,r1,r2⟩ hk nI) i B K H env h a w μ S GZ hs;rw[hn]at q;exact q
 case z.refine_2.inr.inr | s.refine_2.inr.inr=>
  have Mc:oB P T ops.toList t F (l++[(i,false)]) f env h:=xZ l f env h (BF (λ_ _ _ q=>q.2) l f env h hf);have u:=yr R (P:=P) (T:=T) (ops:=ops) (t:=t) Tm l [] f env h (λq b=>G2 M (hc.hd q b).2.1 (by rw[aOx];exact .inl (aPg.2 ⟨q,b,rfl⟩)) I Y) Mc
  have A:i∉l.map (·.1)++D:=λhm=>by
   rcases aOx.1 hm with hm | hm
   ·obtain⟨q,b,he⟩:=aPg.1 hm;exact yp (hc.hd q b).2.1 he
   ·exact a5 hm
  obtain⟨r1,r2⟩:=G0 (L':=l.map (·.1)++D) (λj=>by
   rw[aOx,U j,aOx];simp only[aOz];constructor
   ·rintro(h | h | h)
    ·exact .inr (.inl h)
    ·exact .inl h
    ·exact .inr (.inr h)
   ·rintro(h | h | h)
    ·exact .inr (.inl h)
    ·exact .inl h
    ·exact .inr (.inr h)) A G J XC I
  have GZ:xX P T ops.toList (λenv' h'=>oB P T ops.toList t F l f env' h') [B] env h:=Ei (jV (λv h' hk=>by have:=hk.2.2;rwa [aOW]at this) u);have q:wpOp P ops Q i (wpAny P .any ops Q (l.length+D.length) (listed.setIfInBounds i true)) a w:=vN hT ops (λenv' h' a' w' μ' S' hk nI=>hY l f _ env' h' a' w' μ' S' hc.y bg ⟨by simpa using G,r1,r2⟩ hk nI) i B K H env h a w μ S GZ hs;rw[hn,<-hlen]at q;exact q
theorem x7 {ops:Array Oper} {t:List (Nat×List Nat)}:∀(l A:List (Nat×Bool)),dC ops t (l++A)=true->dC ops t l=true
 | [],_,_=>rfl
 | p::l,A,h=>by
  simp only[aPu,dC,As,aOl]at h ⊢;exact⟨λq a=>h.1 q (List.mem_append_left _ a),x7 l A h.2⟩
theorem JW {ops:Array Oper} {t:List (Nat×List Nat)} {ord:List (Nat×Bool)} {x y:Nat} {a b:List Nat} (h:afW ops t ord x y a b=true):
  a.length=b.length/\(∀p,p∈ord->j4 ops t p (x,false)=true/\j4 ops t p (y,false)=true/\(∀d,d∈eM ops.toList p.1->d∉x::a)/\p.1∉x::a)/\(∀j,j∈x::a↔j∈y::b)/\
  (∀d,d∈eM ops.toList x->d∉x::a)/\x∉a/\y∉b/\(∀j,j∈a->j=y\/rl (gZ t j) x=true\/rl (gZ t j) y=true):=by
 unfold afW at h;simp only[As]at h;obtain⟨⟨⟨⟨⟨⟨⟨h1,h2⟩,c⟩,h4⟩,e⟩,i⟩,k⟩,f⟩:=h;rw[aOl]at h2 c h4 e f;have no:∀(L:List Nat) (z:Nat),(!(rl L z))=true->z∉L:=λL z g hm=>by rw[BE _ _ hm]at g;cases g
 refine⟨abL h1,λp hp=>?_,λj=>⟨λhj=>tC _ _ (c j hj),λhj=>tC _ _ (h4 j hj)⟩,λd hd=>no _ _ (e d hd),no _ _ i,no _ _ k,λj hj=>?_⟩
 ·have:=h2 p hp;rw[As,As,As,aOl]at this;exact⟨this.1.1.1,this.1.1.2,λd l=>no _ _ (this.1.2 d l),no _ _ this.2⟩
 ·have:=f j hj;rw[aOZ,aOZ]at this;rcases this with(q | q) | q
  ·exact .inl (abL q)
  ·exact .inr (.inl q)
  ·exact .inr (.inr q)
def ai4 (P:Program) (T:sf) (all:List Oper) (t:List (Nat×List Nat)) (K:Env->List aq->Prop) (fin:List (Nat×Bool)):tD->List (Nat×List Nat)->Env->List aq->Prop
 | []=>λa env h=>Tl P T all t K fin a env h
 | c::r=>λa env h=>oB P T all t (λa env h=>oB P T all t (ai4 P T all t K fin r) [(c.2.1,false)] a env h/\oB P T all t (λa env h=>Tl P T all t K c.2.2.2 a env h) [(c.2.2.1,false)] a env h) c.1 a env h
theorem G3 {all:List Oper} {t:List (Nat×List Nat)} {K:Env->List aq->Prop} {fin:List (Nat×Bool)}:∀(cs:tD),wB (ai4 P T all t K fin cs)
 | []=>CJ fin
 | c::r=>sH (JV (sH (G3 r) _) (sH (CJ c.2.2.2) _)) c.1
theorem U9 {all:List Oper} {t:List (Nat×List Nat)} {K:Env->List aq->Prop} {fin:List (Nat×Bool)}:∀(cs:tD) (a:List (Nat×List Nat)) (env:Env) (h:List aq),fwC P T all t K fin cs a env h->ai4 P T all t K fin cs a env h
 | [],a,env,h,q=>uT _ _ _ _ q
 | c::r,a,env,h,q=>tE (λa env h q=>⟨tE (U9 r) _ a env h q.1,uT _ _ _ _ q.2⟩) c.1 a env h q
def cbC (ops:Array Oper) (t:List (Nat×List Nat)) (fin:List (Nat×Bool)):tD->List (Nat×Bool)->Prop
 | []=>λl=>dC ops t (l++fin)=true
 | c::r=>λl=>BrC ops t c.2.1 c.2.2.1 (c.2.1::(IC r fin).map (·.1)) (cbC ops t fin r) (λl=>dC ops t (l++c.2.2.2)=true) (l++c.1)
theorem Va {ops:Array Oper} {t:List (Nat×List Nat)} {fin:List (Nat×Bool)}:∀(cs:tD) (a:List (Nat×Bool)) (p:Nat×Bool) (b:List (Nat×Bool)),cbC ops t fin cs (a++p::b)->cbC ops t fin cs (a++b)
 | [],a,p,b,q=>by
  have q:dC ops t ((a++p::b)++fin)=true:=q;show dC ops t ((a++b)++fin)=true;rw[aOQ]at q ⊢;exact(mw a _ q).2
 | c::r,a,p,b,q=>by
  obtain⟨q1,q2,q3,q4⟩:=q;rw[aOQ a]at q1 q3;have q4:dC ops t ((a++p::b++c.1)++c.2.2.2)=true:=q4;rw[aOQ a (p::b) c.1]at q4;have e:a++b++c.1=a++(b++c.1):=aOQ _ _ _;show BrC ops t c.2.1 c.2.2.1 (c.2.1::(IC r fin).map (·.1)) (cbC ops t fin r) (λl=>dC ops t (l++c.2.2.2)=true) (a++b++c.1);rw[e];refine⟨(mw a _ q1).2,λs hs=>q2 s ?_,Va r a p (b++c.1) q3,?_⟩
  ·simp only[aOx,aOz]at hs ⊢;rcases hs with hs | hs | hs
   ·exact .inl (.inl hs)
   ·exact .inl (.inr (.inr hs))
   ·exact .inr hs
  ·have q4:dC ops t ((a++(p::b++c.1))++c.2.2.2)=true:=q4;show dC ops t ((a++(b++c.1))++c.2.2.2)=true;rw[aOQ]at q4 ⊢;exact(mw a _ q4).2
theorem ai5 {ops:Array Oper} {t:List (Nat×List Nat)} {fin:List (Nat×Bool)}:∀(cs:tD) (l:List (Nat×Bool)),cbC ops t fin cs l->dC ops t l=true
 | [],l,q=>x7 _ _ q
 | c::r,l,q=>x7 _ _ q.pw
theorem afX {ops:Array Oper} {t:List (Nat×List Nat)} {fin:List (Nat×Bool)}:∀(cs:tD) (pre:List (Nat×Bool)),Xl ops t fin cs pre=true->cbC ops t fin cs pre
 | [],pre,q=>q
 | c::r,pre,q=>by
  have q:(afW ops t (pre++c.1) c.2.1 c.2.2.1 ((IC r fin).map (·.1)) (c.2.2.2.map (·.1))&&dC ops t ((pre++c.1)++c.2.2.2)&&Xl ops t fin r (pre++c.1))=true:=q;simp only[As]at q;obtain⟨⟨q1,q2⟩,q3⟩:=q;obtain⟨d,b,e,f,g,h,i⟩:=JW q1;have a:=afX r _ q3;exact⟨ai5 r _ a,b,a,q2⟩
theorem afY (f:e9 P T) (ops:Array Oper) {t:List (Nat×List Nat)} (g:∀i x,rl (gZ t i) x=true->Qb ops.toList x i) (k:∀i,i<ops.size->∀d,d∈eM ops.toList i->d<ops.size/\d≠i)
  {K:Env->List aq->Prop} {Q:Exit->Act->World->Prop} (l:∀env h a w μ S,K env h->qL C μ h S env a w->Q .normal a w) (hd:∀o∈ops.toList,sF C.nt o=true) (fin:List (Nat×Bool)):
  ∀(cs:tD) (pre:List (Nat×Bool)),Xl ops t fin cs pre=true->(∀p,p∈IC cs fin->p.1<ops.size)->Snd P T C ops t Q (ai4 P T ops.toList t K fin cs) ((IC cs fin).map (·.1)) (cbC ops t fin cs)
 | [],pre,_,b=>U8 (C:=C) f ops g k l hd fin b
 | c::r,pre,q,b=>by
  have q:(afW ops t (pre++c.1) c.2.1 c.2.2.1 ((IC r fin).map (·.1)) (c.2.2.2.map (·.1))&&dC ops t ((pre++c.1)++c.2.2.2)&&Xl ops t fin r (pre++c.1))=true:=q;simp only[As]at q;obtain⟨⟨q1,q2⟩,q3⟩:=q;obtain⟨u,H,n,v,z,A,B⟩:=JW q1;have b:∀p,p∈c.1++(c.2.1,false)::IC r fin->p.1<ops.size:=b;have hx:c.2.1<ops.size:=b (c.2.1,false) aRN;have s:∀p,p∈IC r fin->p.1<ops.size:=λp hp=>b p (by simp [hp])
  have m:∀j,j∈c.2.1::(IC r fin).map (·.1)->j<ops.size:=λj hj=>by
   rcases aOz.1 hj with rfl | hj
   ·exact hx
   ·obtain⟨p,hp,rfl⟩:=aPg.1 hj;exact s p hp
  have D:=afY f ops g k l hd fin r (pre++c.1) q3 s;have E:=U8 (C:=C) f ops g k l hd c.2.2.2 (λp hp=>m p.1 ((n p.1).2 (aOR _ (aPg.2 ⟨p,hp,rfl⟩))))
  have F:=aq5 (C:=C) f ops g k hd (x:=c.2.1) (y:=c.2.2.1) (G3 r) (CJ c.2.2.2) D E (Va r) (λG p I q=>by
   rw[aOQ]at q ⊢;exact(mw G _ q).2) u n hx v z A B
  have out:=ai3 F c.1 (λp hp=>b p (by simp [hp]))
  have e:(IC (c::r) fin).map (·.1)=c.1.map (·.1)++c.2.1::(IC r fin).map (·.1):=by
   show(c.1++(c.2.1,false)::IC r fin).map (·.1)=_;simp
  rw[e];exact out
theorem Xm (k:e9 P T) (ops:Array Oper) {cs:tD} {fin:List (Nat×Bool)} (hc:G4 ops cs fin=true)
  {K:Env->List aq->Prop} {Q:Exit->Act->World->Prop} (l:∀env h a w μ S,K env h->qL C μ h S env a w->Q .normal a w) (hd:∀o∈ops.toList,sF C.nt o=true) {env:Env} {h:List aq} {a:Act} {w:World}
  (hf:fwC P T ops.toList (LP ops.toList (IC cs fin) []) K fin cs [] env h) (hs:qL C μ h S env a w):wpAny P .any ops Q ops.size (Array.replicate ops.size false) a w:=by
 unfold G4 at hc;simp only[As]at hc;obtain⟨⟨⟨hlen,b⟩,f⟩,c⟩:=hc;rw[aOl]at b f;have hlen:=abL hlen;generalize m:LP ops.toList (IC cs fin) []=t at*;have n:∀i x,rl (gZ t i) x=true->Qb ops.toList x i:=by rw[<-m];exact CI _ [] (λi x hx=>by simp [gZ,rl]at hx)
 have q:∀p,p∈IC cs fin->p.1<ops.size:=λp hp=>by
  have:=f p hp;rw[As]at this;exact aOM this.1
 have g:∀j,j<ops.size->j∈(IC cs fin).map (·.1):=λj hj=>tC _ _ (b j (aQl.2 hj))
 have r:∀i,i<ops.size->∀d,d∈eM ops.toList i->d<ops.size/\d≠i:=λi hi d s=>by
  obtain⟨p,hp,rfl⟩:=aPg.1 (g i hi);have:=f p hp;rw[As,aOl]at this;have:=this.2 d s;rw[As]at this;exact⟨aOM this.1,λhe=>by rw[he,aPJ]at this;cases this.2⟩
 have out:=afY (C:=C) k ops n r l hd fin cs [] c q
 have:=out [] [] (Array.replicate ops.size false) env h a w μ S (afX cs [] c) (λp hp=>by simp at hp)
  ⟨by simp,λj hj=>⟨λ_=>by simpa using g j hj,λ_=>by simp [Array.getD,hj]⟩,λj hj u=>absurd (g j hj) (by simpa using u)⟩
  (U9 cs [] env h hf) hs
 have e:([]:List (Nat×Bool)).length+((IC cs fin).map (·.1)).length=ops.size:=by simpa using hlen
 rw[e]at this;exact this
theorem ai6 {J:List (Nat×PV)->List aq->Prop} {env:Env} {h:List aq} {a:Act} {w:World} (hg:Bu C.h.length J env h):∀{μ:Mu} {S:Nat->Prop},qL C μ h S env a w->∃σ η μ3 b,qL C μ3 η b (DY rC σ) a w/\J σ η:=by
 induction hg with
 | mk σ η e hj=>
  intro μ S hs;obtain⟨μ3,b,f⟩:=JU hs e;exact⟨σ,η,μ3,b,f,hj⟩
 | ex h1 hx hk c=>
  intro μ S hs;obtain⟨μ1,d⟩:=hs.ex hx;exact c d
 | ab id i j sub h1 g hk c=>
  intro μ S hs;obtain⟨F,d⟩:=hs.ab g;exact c F d
theorem ai7 {m:Nat} {A B:XQ->Env->List aq->Prop} {Q:XQ} {env:Env} {h:List aq} {a:Act} {w:World} {S:Nat->Prop} (hv:xO m A B Q env h):∀{μ:Mu},qL C μ h S env a w->
  ∃μ' h',qL C μ' h' S env a w/\(A (XQ.then (B Q) Q) env h'\/∃J,A (XQ.then (Bu m J) Q) env h'/\∀σ η,J σ η->B Q (DY rC σ) η):=by
 induction hv with
 | direct hd=>exactλhs=>⟨_,_,hs,.inl hd⟩
 | cut J b e=>exactλhs=>⟨_,_,hs,.inr ⟨J,b,e⟩⟩
 | ex h1 hx hk c=>
  intro μ hs;obtain⟨μ1,d⟩:=hs.ex hx;exact c d
 | ab id i j sub h1 b hk c=>
  intro μ hs;obtain⟨F,d⟩:=hs.ab b;exact c F d
theorem pn (s:e9 P T) (u:P.follows .mixedOrders=true):∀(c:Code) (Q:XQ) (env:Env) (h:List aq) (a:Act) (w:World) (μ:Mu) (S:Nat->Prop),
  vc P T C.h.length c Q env h->codeOk C.nt c=true->qL C μ h S env a w->c.wp P (GS C Q) a w
 | .skip,Q,env,h,a,w,μ,S,hv,_,hs=>wp_skip ⟨μ,h,S,env,hs,hv⟩
 | .label _,Q,env,h,a,w,μ,S,hv,_,hs=>wp_label ⟨μ,h,S,env,hs,hv⟩
 | .exit _,Q,env,h,a,w,μ,S,hv,_,hs=>wp_exit ⟨μ,h,S,env,hs,hv⟩
 | .ret,Q,env,h,a,w,μ,S,hv,_,hs=>wp_ret ⟨μ,h,S,env,hs,hv⟩
 | .region id ops d,Q,env,h,a,w,μ,S,hv,m,hs=>by
  simp only[codeOk,As,aOl]at m;have hd:∀o∈ops.toList,sF C.nt o=true:=m.1;cases d with
  | false=>
   refine wp_region_list (Ak s ops (Q:=GS C Q) (λenv h a w μ S f hs=>⟨μ,h,S,env,hs,f⟩) ops.toList env h a w μ S hv hd hs)
  | true=>
   have quiet:Ao P T ops.toList h (λenv'=>Q .normal env' h) ops.toList env->(Code.region id ops true).wp P (GS C Q) a w:=λhv=>by
    refine wp_region_quiet (C:=dt w) u (by simpa using m.2) (dt.drew w) ?_;exact vM s ops h w μ S (λenv a f hs w' G=>⟨μ,h,S,env,hs.agree G,f⟩) ops.toList env a hv hd hs
   have hv:(match ops.toList.all (λo=>JX o.op)with
    | true=>Ao P T ops.toList h (λenv'=>Q .normal env' h) ops.toList env
    | false=>G5 P T C.h.length ops (λenv' h'=>Q .normal env' h') env h):=hv
   split at hv
   ·exact quiet hv
   ·cases hv with
    | quiet f=>exact quiet f
    | FD cs fin hc hf=>
     refine wp_region_any u ?_;exact Xm (C:=C) s ops hc (K:=aln Q) (Q:=GS C Q) (λenv h a w μ S f hs=>⟨μ,h,S,env,hs,f⟩) hd hf (hs.agree (dt.drew w))
    | float ord hc hf=>
     refine wp_region_any u ?_;unfold Vb at hc;simp only[As,aOl,aPe]at hc;obtain⟨⟨⟨hlen,H⟩,V⟩,E⟩:=hc;have hlen:=abL hlen;have W:∀p,p∈ord->p.1<ops.size:=λp hp=>aOM (V p hp).1
     have X:(ord.map (·.1)).Nodup:=by
      have:∀(l:List (Nat×Bool)),dC ops (LP ops.toList ord []) l=true->(l.map (·.1)).Nodup:=λl=>by
       induction l with
       | nil=>simp
       | cons p r z=>
        intro hh;simp only[dC,As,aOl]at hh;simp only[aOC,List.nodup_cons];refine⟨λhm=>?_,z hh.2⟩;obtain⟨q,f,he⟩:=aPg.1 hm;have:=hh.1 q f;unfold j4 at this;simp only[As,aPe]at this;have:=this.1.1;rw[he,aPJ]at this;cases this
      exact this _ E
     have I:∀j,j<ops.size->j∈ord.map (·.1):=λj hj=>tC _ _ (H j (aQl.2 hj))
     exact LQ s ops (C:=C) (CI ord [] (λi x hx=>by simp [gZ,rl]at hx)) (λi hi d Y=>by
      obtain⟨p,hp,rfl⟩:=aPg.1 (I i hi);have:=(V p hp).2 d Y;exact⟨aOM this.1,λhe=>by rw[he,aPJ]at this;cases this.2⟩)
      (K:=λenv' h'=>Q .normal env' h') (Q:=GS C Q) (λenv h a w μ S f hs=>⟨μ,h,S,env,hs,f⟩) hd ops.size ord [] _ env h a _ μ S hlen E W aRN (λj hj=>⟨λ_=>I j hj,λ_=>by simp [Array.getD,hj]⟩) (λj hj L=>absurd (I j hj) L) (uT _ _ _ _ hf) (hs.agree (dt.drew w))
 | .seq x y,Q,env,h,a,w,μ,S,hv,m,hs=>by
  simp only[codeOk,As]at m;have hv:xO C.h.length (vc P T C.h.length x) (vc P T C.h.length y) Q env h:=hv;obtain⟨μ,h,hs,hd | ⟨J,M,A⟩⟩:=ai7 hv hs
  ·refine wp_seq (Code.wp_mono (λe v w' g=>?_) (pn s u x _ env h a w μ S hd m.1 hs));cases e with
   | normal=>
    obtain⟨μ',h',S',env',D,f⟩:=g;exact pn s u y Q env' h' v w' μ' S' f m.2 D
   | exit id=>exact g
   | goto l=>exact g
   | ret=>exact g
   | panic O=>exact g
   | outgrown=>exact g
  ·refine wp_seq (Code.wp_mono (λe v w' g=>?_) (pn s u x _ env h a w μ S M m.1 hs));cases e with
   | normal=>
    obtain⟨μ',h',S',env',D,hg⟩:=g;obtain⟨σ,η,μ3,Z,zL,hj⟩:=ai6 hg D;exact pn s u y Q _ η v w' μ3 Z (A σ η hj) m.2 zL
   | exit id=>exact g
   | goto l=>exact g
   | ret=>exact g
   | panic O=>exact g
   | outgrown=>exact g
 | .cond c x y,Q,env,h,a,w,μ,S,hv,m,hs=>by
  simp only[codeOk,As]at m
  have hv:(match ev env c with
   | .bool t=>iq t (vc P T C.h.length x Q env h) (vc P T C.h.length y Q env h)
   | _=>False):=hv
  have hc:=dk hs.tmps c;split at hv
  ·rename_i b he;rw[he]at hc;obtain⟨h1,h2⟩:=ml hv;exact wp_cond_split hc.oW (λA=>pn s u x Q env h a w μ S (h1 A) m.1 hs) (λA=>pn s u y Q env h a w μ S (h2 A) m.2 hs)
  ·exact hv.elim
 | .block id c,Q,env,h,a,w,μ,S,hv,m,hs=>by
  refine wp_block (Code.wp_mono (λe v w' g=>?_) (pn s u c _ env h a w μ S hv m hs));cases e with
  | exit n=>
   obtain⟨μ',h',S',env',D,f⟩:=g;show if n=id then GS C Q .normal v w' else GS C Q (.exit n) v w'
   simp only[XQ.inBlock]at f;by_cases hid:n=id
   ·rw[An hid];subst hid;rw[show Nat.beq n n=true by simp]at f;exact⟨μ',h',S',env',D,f⟩
   ·rw[mg hid]
    have:Nat.beq n id=false:=by
     cases A:Nat.beq n id with
     | true=>exact(hid (abL A)).elim
     | false=>rfl
    rw[this]at f;exact⟨μ',h',S',env',D,f⟩
  | normal=>exact g
  | goto l=>exact g
  | ret=>exact g
  | panic O=>exact g
  | outgrown=>exact g
 | .loop c,Q,env,h,a,w,μ,S,hv,m,hs=>by
  intro b k cs;replace hv:tA C.h.length (λnext=>vc P T C.h.length c (XQ.then next Q)) env h:=hv
  have key:∀(a:Act) (w:World) (μ:Mu) (S:Nat->Prop),qL C μ h S env a w->∃e v w',GS C Q e v w'/\Arrives P (lone (b.at a (.code c::.inLoop c::k)) cs w) b k cs e v w':=by
   clear hs;induction hv with
   | take σ η ht hk z=>
    intro a w μ S hs;obtain⟨μ0,S0,R⟩:=JU hs ht;exact z a w μ0 S0 R
   | ex h1 hx hk z=>
    intro a w μ S hs;obtain⟨μ1,U⟩:=hs.ex hx;exact z a w μ1 S U
   | ab id i j sub h1 M hk z=>
    intro a w μ S hs;obtain⟨F,U⟩:=hs.ab M;exact z F a w μ S U
   | step N hN A z=>
    intro a w μ S hs;obtain⟨e,a₁,w₁,f,B⟩:=pn s u c _ _ _ a w μ S A m hs b (.inLoop c::k) cs;cases e with
    | normal=>
     obtain⟨μ2,h2,S2,aa,pt,L⟩:=f;obtain⟨e₂,a₂,w₂,hq₂,harr₂⟩:=z _ _ L a₁ w₁ μ2 S2 pt;exact⟨e₂,a₂,w₂,hq₂,.of_steps (Steps.trans B (.one step_inLoop)) harr₂⟩
    | exit id=>exact⟨_,a₁,w₁,f,.pass (x:=.inLoop c) rfl (λ_ _=>.inl aRN) B⟩
    | goto l=>exact⟨_,a₁,w₁,f,.pass (x:=.inLoop c) rfl (λ_ _=>.inl aRN) B⟩
    | ret=>exact⟨_,a₁,w₁,f,.pass (x:=.inLoop c) rfl (λ_ _=>.inl aRN) B⟩
    | panic O=>exact⟨_,a₁,w₁,f,.pass (x:=.inLoop c) rfl (λ_ _=>.inl aRN) B⟩
    | outgrown=>exact⟨_,a₁,w₁,f,.pass (x:=.inLoop c) rfl (λ_ _=>.inl aRN) B⟩
  obtain⟨e,v,w',f,B⟩:=key a w μ S hs;exact⟨e,v,w',f,.of_steps (.one step_loop) B⟩
 | .rangeFunc _ _ _ _,Q,env,h,a,w,μ,S,hv,_,_=>hv.elim
 | .scope _,Q,env,h,a,w,μ,S,hv,_,_=>hv.elim
 | .goto _,Q,env,h,a,w,μ,S,hv,_,_=>hv.elim
 | .refuse _,Q,env,h,a,w,μ,S,hv,_,_=>hv.elim
theorem afZ (m:e9 P T) (o:dB μ h S w) (t:Nat) (d:PV) (v:Value) (hx:cj μ h S w d v) {K:PV->Prop} (hp:Bj T t d h K):∃pv val,K pv/\cj μ h S w pv val/\(do loadVar t (<-asAddr v):Sem Value).run P w=.ok val w:=by
 obtain⟨pv,val,p,hv,c⟩:=FN (P:=P) (dst:=none) (ty:=0) (pos:= "") (after:=#[]) (guard:=none) (a:=⟨#[v],[]⟩) m o t (.tmp 0) d (by simpa[Act.eval]using hx) hp;refine⟨pv,val,p,hv,?_⟩;have:=c w (dt.refl w);have he:(execOp (Act.eval ⟨#[v],[]⟩) ⟨none,.load t (.tmp 0),0, "",#[],none⟩)=(do pure (Next.value (<-Instr.loadAt t v)):Sem Next):=rfl;rw[he]at this
 have j:∃k,v=.pointer (some k):=by
  unfold Bj at hp;split at hp
  ·obtain⟨b,off,r,q,_⟩:=hx.Bd;exact⟨_,q⟩
  ·rename_i id gen i off;split at hp
   ·rename_i g sz n e f hg;obtain⟨rfl,_⟩:=hp;have c:=hx.xw;unfold db at c;rw[fO hg]at c;obtain⟨_,_,c⟩:=c;obtain⟨_,b,base,_,_,hv⟩:=c rfl;exact⟨_,hv⟩
   ·exact aRg
  ·exact aRg
 obtain⟨k,rfl⟩:=j;simp only[Instr.loadAt,Instr.sureAddr,asAddr,Sem.run_bind,Sem.run_pure,Result.andThen_ok]at this ⊢;cases l:(loadVar t k).run P w with
 | ok u w'=>
  rw[l]at this;simp only[Result.andThen]at this;injection this with h1 h2;injection h1 with h1;rw[h1,h2]
 | halt x w'=>rw[l]at this;cases this
theorem ua (c:e9 P T) (hs:qL C μ h S env a w):∀(rs:List ResultVar) (K:List PV->Prop),yt T env h rs K->∃(vs:List PV) (us:List Value),K vs/\us.length=vs.length/\(∀(j:Nat) (pv:PV),vs[j]? =some pv->∃u,us[j]? =some u/\cj μ h S w pv u)/\
  (rs.mapM (fun | .tmp t=>pure (a.tmps.getD t undef) | .cell d t=>(do loadVar t (<-asAddr (a.tmps.getD d undef))):ResultVar->Sem Value)).run P w=.ok us w
 | [],K,hp=>⟨[],[],hp,rfl,λj pv hj=>by simp at hj,rfl⟩
 | .tmp t::r,K,hp=>by
  obtain⟨vs,us,b,h1,h2,e⟩:=ua c hs r _ hp;refine⟨env t::vs,a.tmps.getD t undef::us,b,by simp [h1],λj pv hj=>?_,?_⟩
  ·cases j with
   | zero=>simp at hj;subst hj;exact⟨_,rfl,hs.tmps t⟩
   | succ j=>simp at hj;obtain⟨u,q1,q2⟩:=h2 j pv hj;exact⟨u,by simpa using q1,q2⟩
  ·simp only[List.mapM_cons,Sem.run_bind,Sem.run_pure,Result.andThen_ok,e]
 | .cell d t::r,K,hp=>by
  obtain⟨pv,val,b,hv,f⟩:=afZ c hs.core.heap t _ _ (hs.tmps d) hp;obtain⟨vs,us,b,h1,h2,e⟩:=ua c hs r _ b;refine⟨pv::vs,val::us,b,by simp [h1],λj g hj=>?_,?_⟩
  ·cases j with
   | zero=>simp at hj;subst hj;exact⟨_,rfl,hv⟩
   | succ j=>simp at hj;obtain⟨u,q1,q2⟩:=h2 j g hj;exact⟨u,by simpa using q1,q2⟩
  ·simp only[List.mapM_cons,Sem.run_bind,f,Result.andThen_ok,e,Sem.run_pure]
end
section
variable {P:Program}{T:sf}
def valOf:List Value->Value
 | [v]=>v
 | us=>.tuple us.toArray
theorem PI {fn:Func} {tmps:Array Value} {us:List Value} {w:World}
  (hm:(fn.results.toList.mapM (fun | .tmp t=>pure (tmps.getD t undef) | .cell b t=>(do loadVar t (<-asAddr (tmps.getD b undef))):ResultVar->Sem Value)).run P w=.ok us w):
  (results fn tmps).run P w=.ok (valOf us) w:=by
 unfold results;rw[Array.mapM_eq_mapM_toList];simp only[map_eq_pure_bind,bind_assoc,pure_bind,Sem.run_bind]
 have key:∀X:Result (List Value),X=.ok us w->(X.andThen λa w'=>Sem.run P (pure (if h:a.toArray.size=1 then a.toArray[0]else Value.tuple a.toArray)) w')=.ok (valOf us) w:=by
  rintro _ rfl;simp only[Result.andThen_ok,Sem.run_pure];congr 1
  match us with
  | []=>rfl
  | [v]=>rfl
  | v::u::r=>simp [valOf]
 exact key _ hm
theorem af0 {C:Start} {m:Nat} {R:PV->List aq->Prop} {env:Env} {h:List aq} {a:Act} {w:World} {S:Nat->Prop} {vs:List PV} {us:List Value} (c:Ends m R h vs):∀{μ:Mu},qL C μ h S env a w->
  (∀(j:Nat) (pv:PV),vs[j]? =some pv->∃u,us[j]? =some u/\cj μ h S w pv u)->∃μ' h',qL C μ' h' S env a w/\(∀(j:Nat) (pv:PV),vs[j]? =some pv->∃u,us[j]? =some u/\cj μ' h' S w pv u)/\
   vs.all pf=true/\∃(k:List Nat) (res:PV) (η:List aq),qX (qI η k)=true/\m<=k.length/\Fz h' η k (oneOf vs) res/\mW h' η k m 0 η k/\R res η:=by
 induction c with
 | mk d k res η hk hm e hh f=>exactλhs h2=>⟨_,_,hs,h2,d,k,res,η,hk,hm,e,hh,f⟩
 | ex h1 hx hk b=>
  intro μ hs h2;obtain⟨μ1,hf,hc⟩:=U7 hs.core hx;exact b (hs.turn hf hc) (λj pv hj=>let⟨u,q1,q2⟩:=h2 j pv hj;⟨u,q1,q2.fr hf hs.core.ok⟩)
 | ab id i j sub h1 g hk b=>
  intro μ hs h2;obtain⟨hf,hc⟩:=KU hs.core (g (FAb μ _ sub));exact b _ (hs.turn hf hc) (λj pv hj=>let⟨u,q1,q2⟩:=h2 j pv hj;⟨u,q1,q2.fr hf hs.core.ok⟩)
theorem ACall.aGh (y:e9 P T) (E:P.follows .mixedOrders=true) {f:FuncId} {fn:Func} {c:Code} (hf:P.funcs[f]? =some fn) (z:fn.body=some c) (F:(fn.name== "runtime.NumGoroutine")=false)
  (args:List PV) (h:List aq) (R:PV->List aq->Prop) (p:Nat.ble args.length fn.ntmps=true) (G:codeOk fn.ntmps c=true)
  (hv:vc P T h.length c (aGg T fn.results.toList h.length R) (xT args) h):ACall P f args h R:=by
 refine⟨⟨fn,c,hf,z,F⟩,λw vs μ S H I Y J=>?_⟩;have p:=aOM p
 let C:Start:=⟨μ,h,S,w,fn.ntmps⟩
 have hs:qL C μ h S (xT args) ⟨vs++Array.replicate (fn.ntmps - vs.size) undef,[]⟩ w:=by
  refine⟨⟨H,I⟩,Fr.refl,λt=>?_,by simp;show _=fn.ntmps;omega,λt K=>?_,rfl⟩
  ·unfold xT;rw[aOp];cases L:args[t]? with
   | none=>trivial
   | some pv=>
    obtain⟨v,h1,h2⟩:=J t pv L;have M:t<vs.size:=(amb.1 h1).1
    have:(vs++Array.replicate (fn.ntmps - vs.size) undef).getD t undef=v:=by
     rw[Array.getD_eq_getD_getElem?,aPo M,h1];rfl
    simp only[aQr];rw[this];exact cj.ai2 h2
  ·unfold xT;rw[aOp,aPc]
   ·rfl
   ·exact aPr p K
 refine calls_of_wp hf z ?_;refine Code.wp_mono (λe A w' N=>?_) (pn (C:=C) y E c _ _ h _ w μ S hv G hs);obtain⟨μ',h',S',env',m,n⟩:=N
 have fin:yt T env' h' fn.results.toList (Ends h.length R h')->A.defers=[]/\∃v,(results fn A.tmps).run P w'=.ok v w'/\
   (∃(B:Value) (res:PV) (g:List aq) (μ'':Mu) (i:Nat->Prop),Ending.returned v=.returned B/\R res g/\cj μ'' g i w' res B/\dB μ'' g i w'/\vz μ'' g i w'/\Fr μ h S w μ'' g i w'):=λO=>by
  obtain⟨d,us,Q,h1,h2,U⟩:=ua y m _ _ O;refine⟨m.defers,_,PI U,?_⟩;obtain⟨μ',h',m,h2,q,k,res,η,hk,hm,V,hh,W⟩:=af0 Q m h2
  have s:cj μ' h' S' w' (oneOf d) (valOf us):=by
   have key:(∀v,d≠[v])->cj μ' h' S' w' (oneOf d) (valOf us):=λo=>by
    have X:oneOf d=.fV d:=by
     match d,o with
     | [],_=>rfl
     | [v],o=>exact(o v rfl).elim
     | a::b::r,_=>rfl
    have e2:valOf us=.tuple us.toArray:=by
     match us,h1 with
     | [],_=>rfl
     | [v],h1=>
      match d,h1,o with
      | [x],_,o=>exact(o x rfl).elim
     | a::b::r,_=>rfl
    rw[X,e2];refine⟨_,rfl,by simpa using h1,λj pv hj=>?_⟩;obtain⟨u,q1,q2⟩:=h2 j pv hj;refine⟨u,by simpa using q1,?_⟩;have hp:pf pv=true:=(aOl.1 q) pv (aOy hj);cases pv with
    | fV Z=>cases hp
    | _=>exact q2
   match d,us,h1 with
   | [v],[u],_=>
    obtain⟨u',q1,q2⟩:=h2 0 v rfl;simp at q1;subst q1;exact q2
   | [],us,_=>exact key (λv hv=>by cases hv)
   | a::b::r,us,_=>exact key (λv hv=>by cases hv)
  obtain⟨D,_,_⟩:=BD m.core hh hk;exact⟨_,res,η,nW μ' h' k,JR μ' h' k S',rfl,W,(xW m.core hh V).2.2 _ s,D.heap,D.ok,alk (C:=C) m.core m.fr hh hk hm⟩
 cases e with
 | ret=>exact fin n
 | normal=>exact fin n
 | exit id=>exact n.elim
 | goto l=>exact n.elim
 | panic ch=>exact n.elim
 | outgrown=>exact n.elim
theorem ACall.mono {f:FuncId} {args:List PV} {h:List aq} {R a:PV->List aq->Prop} (hc:ACall P f args h R) (b:∀res h',R res h'->a res h'):ACall P f args h a:=
 ⟨hc.1,λw vs μ S c d g i=>(hc.2 w vs μ S c d g i).mono λe w' ⟨v,res,h',μ',S',he,j,rest⟩=>⟨v,res,h',μ',S',he,b _ _ j,rest⟩⟩
end
def pX (N:Nat):PV->PV
 | .own id gen off len=>.own (N+id) gen off len
 | .aA id gen i off=>.aA (N+id) gen i off
 | .qc id=>.qc (N+id)
 | .ud f dG=>.ud f (vD (N+·) dG)
 | v=>v
def Tp (N:Nat):PV->PV
 | .agg cs=>.agg (cs.map (pX N))
 | v=>pX N v
def vI (N:Nat):PV->PV
 | .fV vs=>.fV (vs.map (Tp N))
 | v=>Tp N v
def iG (N:Nat):aq->aq
 | .row g sz n e f=>.row g sz n e (λi=>(f i).map (pX N))
 | .dead=>.dead
def UL:PV->Bool
 | .agg cs=>cs.all cO
 | v=>cO v
def sx:PV->Bool
 | .iT _ _ _=>false
 | .ia _=>false
 | .eg _ _ _ _ _=>false
 | _=>true
def alo:PV->Bool
 | .agg cs=>cs.all sx
 | v=>sx v
def UK:PV->Bool
 | .fV vs=>vs.all alo
 | v=>alo v
def ae2:aq->Prop
 | .row _ _ n _ f=>∀i,i<n->(f i).all sx=true
 | .dead=>True
section
variable {P:Program}{T:sf}{μ μ0:Mu}{h h0:List aq}{S S0 S':Nat->Prop}{w w':World}
def lF (μ:Mu) (N:Nat) (μ0:Mu):Mu:=λid=>if id<N then μ id else μ0 (id - N)
theorem Di {N:Nat} {a:PV} (h:lG a=true):pX N a=a:=by cases a<;>first | rfl | cases h
theorem rD (N:Nat) (a:h.length=N) (id:Nat):(h++h0.map (iG N))[N+id]? =(h0[id]?).map (iG N):=by
 subst a;rw[aOH aRK,aPn,aOG]
theorem vQ (N id:Nat):lF μ N μ0 (N+id)=μ0 id:=by
 unfold lF;rw[mg aRK,aPn]
theorem fJ (G:PV->Prop) (a:∀pv v,G pv->ba S0 w' pv v->ba S' w' pv v) {pv:PV} {v:Value} (hg:G pv) (hc:cV μ0 h0 S0 w' pv v):
  cV (lF μ h.length μ0) (h++h0.map (iG h.length)) S' w' (pX h.length pv) v:=by
 have d:∀(id gen i off:Nat) (v:Value),db μ0 h0 w' id gen i off v->db (lF μ h.length μ0) (h++h0.map (iG h.length)) w' (h.length+id) gen i off v:=λid gen i off v hc=>by
  unfold db at hc ⊢;rw[rD _ rfl,vQ];obtain⟨h1,h2⟩:=hc;refine⟨h1,?_⟩;cases c:h0[id]? with
  | none=>rw[c]at h2;exact h2
  | some o=>
   rw[c]at h2;cases o with
   | dead=>trivial
   | row g sz n e f=>exact h2
 cases pv with
 | own id gen off len=>
  have hc:bK μ0 h0 w' id gen off len v:=hc;show bK _ _ _ (h.length+id) gen off len v;unfold bK at hc ⊢;rw[rD _ rfl,vQ];obtain⟨h1,h2⟩:=hc;refine⟨h1,?_⟩;cases c:h0[id]? with
  | none=>rw[c]at h2;exact h2
  | some o=>
   rw[c]at h2;cases o with
   | dead=>trivial
   | row g sz n e f=>exact h2
 | aA id gen i off=>exact d _ _ _ _ _ hc
 | ud f dG=>exact wL.map (O:=λid g u=>db (lF μ h.length μ0) (h++h0.map (iG h.length)) w' id g 0 0 u) (wL.mono (show sn μ0 h0 w' f dG v from hc) (λid g u hu=>d id g 0 0 u hu))
 | qc id=>
  have hc:ik μ0 h0 w' id v:=hc;show ik _ _ _ (h.length+id) v;unfold ik at hc ⊢;rw[rD _ rfl,vQ];obtain⟨h1,h2⟩:=hc;refine⟨h1,?_⟩;cases c:h0[id]? with
  | none=>rw[c]at h2;exact h2
  | some o=>
   rw[c]at h2;cases o with
   | dead=>trivial
   | row g sz n e f=>exact h2
 | j3=>exact hc
 | eg sz n e f F=>exact hc
 | agg cs=>exact(show False from hc).elim
 | fV cs=>exact(show False from hc).elim
 | int k n=>exact a _ _ hg hc
 | bool b=>exact a _ _ hg hc
 | str s=>exact a _ _ hg hc
 | ck=>exact a _ _ hg hc
 | jS=>exact a _ _ hg hc
 | iT sz n f=>exact a _ _ hg hc
 | ia cs=>exact a _ _ hg hc
 | fn f=>exact a _ _ hg hc
theorem fK (G:PV->Prop) (a:∀pv v,G pv->ba S0 w' pv v->ba S' w' pv v) {pv:PV} {v:Value} (hg:match pv with | .agg cs=>∀c∈cs,G c | v=>G v) (hc:ky μ0 h0 S0 w' pv v):
  ky (lF μ h.length μ0) (h++h0.map (iG h.length)) S' w' (Tp h.length pv) v:=by
 cases pv with
 | agg cs=>
  obtain⟨vs,h1,h2,d⟩:=hc;refine⟨vs,h1,by simpa using h2,λj pv hj=>?_⟩;rw[aOG]at hj;cases hx:cs[j]? with
  | none=>rw[hx]at hj;cases hj
  | some c=>
   rw[hx]at hj;injection hj with hj;subst hj;obtain⟨u,q1,q2⟩:=d j c hx;exact⟨u,q1,fJ G a (hg c (aOy hx)) q2⟩
 | j3=>trivial
 | eg sz n e f F=>exact fJ (μ:=μ) (μ0:=μ0) (h:=h) (h0:=h0) (pv:=.eg sz n e f F) G a hg hc
 | fV cs=>exact(show False from hc).elim
 | own id gen off len=>exact fJ (μ:=μ) (μ0:=μ0) (h:=h) (h0:=h0) (pv:=.own id gen off len) G a hg hc
 | aA id gen i off=>exact fJ (μ:=μ) (μ0:=μ0) (h:=h) (h0:=h0) (pv:=.aA id gen i off) G a hg hc
 | qc id=>exact fJ (μ:=μ) (μ0:=μ0) (h:=h) (h0:=h0) (pv:=.qc id) G a hg hc
 | ud f dG=>exact fJ (μ:=μ) (μ0:=μ0) (h:=h) (h0:=h0) (pv:=.ud f dG) G a hg hc
 | int k n=>exact fJ (μ:=μ) (μ0:=μ0) (h:=h) (h0:=h0) (pv:=.int k n) G a hg hc
 | bool b=>exact fJ (μ:=μ) (μ0:=μ0) (h:=h) (h0:=h0) (pv:=.bool b) G a hg hc
 | str s=>exact fJ (μ:=μ) (μ0:=μ0) (h:=h) (h0:=h0) (pv:=.str s) G a hg hc
 | ck=>exact fJ (μ:=μ) (μ0:=μ0) (h:=h) (h0:=h0) (pv:=.ck) G a hg hc
 | jS=>exact fJ (μ:=μ) (μ0:=μ0) (h:=h) (h0:=h0) (pv:=.jS) G a hg hc
 | iT sz n f=>exact fJ (μ:=μ) (μ0:=μ0) (h:=h) (h0:=h0) (pv:=.iT sz n f) G a hg hc
 | ia cs=>exact fJ (μ:=μ) (μ0:=μ0) (h:=h) (h0:=h0) (pv:=.ia cs) G a hg hc
 | fn f=>exact fJ (μ:=μ) (μ0:=μ0) (h:=h) (h0:=h0) (pv:=.fn f) G a hg hc
def ai8 (G:PV->Prop):PV->Prop
 | .fV vs=>∀v∈vs,(match v with | .agg cs=>∀c∈cs,G c | v=>G v)
 | .agg cs=>∀c∈cs,G c
 | v=>G v
theorem G6 (G:PV->Prop) (a:∀pv v,G pv->ba S0 w' pv v->ba S' w' pv v) {pv:PV} {v:Value} (hg:ai8 G pv) (hc:cj μ0 h0 S0 w' pv v):
  cj (lF μ h.length μ0) (h++h0.map (iG h.length)) S' w' (vI h.length pv) v:=by
 cases pv with
 | fV cs=>
  obtain⟨vs,h1,h2,d⟩:=hc;refine⟨vs,h1,by simpa using h2,λj pv hj=>?_⟩;rw[aOG]at hj;cases hx:cs[j]? with
  | none=>rw[hx]at hj;cases hj
  | some c=>
   rw[hx]at hj;injection hj with hj;subst hj;obtain⟨u,q1,q2⟩:=d j c hx;exact⟨u,q1,fK G a (hg c (aOy hx)) q2⟩
 | agg cs=>exact fK (μ:=μ) (μ0:=μ0) (h:=h) (h0:=h0) (pv:=.agg cs) G a hg hc
 | j3=>trivial
 | eg sz n e f F=>exact fK (μ:=μ) (μ0:=μ0) (h:=h) (h0:=h0) (pv:=.eg sz n e f F) G a hg hc
 | own id gen off len=>exact fK (μ:=μ) (μ0:=μ0) (h:=h) (h0:=h0) (pv:=.own id gen off len) G a hg hc
 | aA id gen i off=>exact fK (μ:=μ) (μ0:=μ0) (h:=h) (h0:=h0) (pv:=.aA id gen i off) G a hg hc
 | qc id=>exact fK (μ:=μ) (μ0:=μ0) (h:=h) (h0:=h0) (pv:=.qc id) G a hg hc
 | ud f dG=>exact fK (μ:=μ) (μ0:=μ0) (h:=h) (h0:=h0) (pv:=.ud f dG) G a hg hc
 | int k n=>exact fK (μ:=μ) (μ0:=μ0) (h:=h) (h0:=h0) (pv:=.int k n) G a hg hc
 | bool b=>exact fK (μ:=μ) (μ0:=μ0) (h:=h) (h0:=h0) (pv:=.bool b) G a hg hc
 | str s=>exact fK (μ:=μ) (μ0:=μ0) (h:=h) (h0:=h0) (pv:=.str s) G a hg hc
 | ck=>exact fK (μ:=μ) (μ0:=μ0) (h:=h) (h0:=h0) (pv:=.ck) G a hg hc
 | jS=>exact fK (μ:=μ) (μ0:=μ0) (h:=h) (h0:=h0) (pv:=.jS) G a hg hc
 | iT sz n f=>exact fK (μ:=μ) (μ0:=μ0) (h:=h) (h0:=h0) (pv:=.iT sz n f) G a hg hc
 | ia cs=>exact fK (μ:=μ) (μ0:=μ0) (h:=h) (h0:=h0) (pv:=.ia cs) G a hg hc
 | fn f=>exact fK (μ:=μ) (μ0:=μ0) (h:=h) (h0:=h0) (pv:=.fn f) G a hg hc
theorem JY (hH:dB μ h S w) (l:vz μ h S w) {μc:Mu} {Sc:Nat->Prop} (m:Fr μc [] Sc w μ0 h0 S0 w') (K:dB μ0 h0 S0 w') (I:vz μ0 h0 S0 w')
  (G:PV->Prop) (Y:∀pv v,G pv->ba S0 w' pv v->ba S' w' pv v) (L:∀(id g sz n:Nat) (e:TypeId) (f:Nat->List PV),h0[id]? =some (aq.row g sz n e f)->∀i,i<n->∀c∈f i,(eV c=false->G c)/\(eV c=true->OG G c))
  (M:∀b,S b->S' b) (D:∀b,S' b->S b\/w.heap.size<=b) (N:∀b,S' b->b<w'.heap.size) (O:∀b,S' b->¬dE μ0 h0 b):
  dB (lF μ h.length μ0) (h++h0.map (iG h.length)) S' w'/\vz (lF μ h.length μ0) (h++h0.map (iG h.length)) S' w'/\Fr μ h S w (lF μ h.length μ0) (h++h0.map (iG h.length)) S' w':=by
 have Z:∀b,¬dE μc [] b:=λb=>mL;have B:∀b,b<w.heap.size->w'.heap[b]? =w.heap[b]?:=λb a=>m.blocks b a (Z b);have r:∀b,dE μ0 h0 b->w.heap.size<=b:=λb a=>(m.own b a).resolve_left (Z b)
 have J:∀id o,h[id]? =some o->(h++h0.map (iG h.length))[id]? =some o/\lF μ h.length μ0 id=μ id:=λid o hid=>by
  have s:=(N2.1 hid).1;exact⟨by rw[aON s];exact hid,by unfold lF;rw[An s]⟩
 have inv:∀(id g sz n:Nat) (e:TypeId) (f:Nat->List PV),(h++h0.map (iG h.length))[id]? =some (aq.row g sz n e f)->
   (h[id]? =some (aq.row g sz n e f)/\lF μ h.length μ0 id=μ id)\/∃d f0,id=h.length+d/\h0[d]? =some (aq.row g sz n e f0)/\lF μ h.length μ0 id=μ0 d/\f=λi=>(f0 i).map (pX h.length):=λid g sz n e f hid=>by
  rcases aPf id h.length with s | Uq
  ·rw[aON s]at hid;exact .inl ⟨hid,by unfold lF;rw[An s]⟩
  ·obtain⟨d,rfl⟩:∃d,id=h.length+d:=⟨id - h.length,by omega⟩;rw[rD _ rfl]at hid;cases t:h0[d]? with
   | none=>rw[t]at hid;cases hid
   | some o=>
    rw[t]at hid;cases o with
    | dead=>cases hid
    | row g0 aa n0 e0 f0=>
     injection hid with hid;injection hid with P e2 Q e4 e5;subst P e2 Q e4 e5;exact .inr ⟨d,f0,rfl,t,vQ _ _,rfl⟩
 have Af:∀b,FW (lF μ h.length μ0) (h++h0.map (iG h.length)) b->FW μ h b\/FW μ0 h0 b:=λb ⟨id,g,sz,n,e,f,base,hid,hm⟩=>by
  rcases inv id g sz n e f hid with⟨h1,h2⟩ | ⟨d,f0,rfl,h1,h2,_⟩
  ·rw[h2]at hm;exact .inl ⟨id,g,sz,n,e,f,base,h1,hm⟩
  ·rw[h2]at hm;exact .inr ⟨d,g,sz,n,e,f0,base,h1,hm⟩
 have R:∀{c:PV} {sz n:Nat} {e:TypeId} {f:Nat->List PV} {F:Nat->Prop},pX h.length c=.eg sz n e f F->c=.eg sz n e f F:=λ{c} _ _ _ _ _ hc=>by
  cases c<;>first | exact hc | cases hc
 have C:∀id i j b,eK (h++h0.map (iG h.length)) id i j b->eK h id i j b\/∃d,id=h.length+d/\eK h0 d i j b:=λid i j b ⟨g,sz,n,e,f,cW,n',e',f',F',q1,q2,q3,q4⟩=>by
  rcases inv id g sz n e f q1 with⟨h1,h2⟩ | ⟨d,f0,rfl,h1,h2,rfl⟩
  ·exact .inl ⟨_,_,_,_,_,_,_,_,_,_,h1,q2,q3,q4⟩
  ·rw[aOG]at q3;cases hx:(f0 i)[j]? with
   | none=>rw[hx]at q3;cases q3
   | some c=>
    rw[hx]at q3;injection q3 with q3;rw[R q3]at hx;exact .inr ⟨d,rfl,_,_,_,_,_,_,_,_,_,_,h1,q2,hx,q4⟩
 have T:∀b,dE (lF μ h.length μ0) (h++h0.map (iG h.length)) b->dE μ h b\/dE μ0 h0 b:=λb a=>by
  rcases a with a | ⟨x,y,z,a⟩
  ·exact(Af b a).imp .inl .inl
  ·rcases C x y z b a with q | ⟨_,_,q⟩
   ·exact .inl (.inr ⟨_,_,_,q⟩)
   ·exact .inr (.inr ⟨_,_,_,q⟩)
 have U:Fr μ h S w (lF μ h.length μ0) (h++h0.map (iG h.length)) S' w':=by
  refine⟨by simp,λb a _=>B b a,M,λb a=>(D b a).imp id .inr,λb a=>(T b a).imp id (r b),m.size,m.os,m.tape,m.output,λid g sz n e f hid=>?_,λid hid=>(J id _ hid).1,λb k a hc=>lH.of_same (B b hc.lt) hc,λid g sz n e f b base hid hm V=>⟨let⟨es,c,q⟩:=V;⟨es,c,(B b (amb.1 q).1).trans q⟩,.inr ⟨⟨_,_,_,_,_,(J id _ hid).1⟩,(J id _ hid).2.trans hm⟩⟩,λb _ _ _ hx V=>let⟨es,c,q⟩:=V;⟨es,c,(B b (amb.1 q).1).trans q⟩⟩;obtain⟨h1,h2⟩:=J id _ hid;rw[h1];exact⟨Of _,λ_=>⟨h2,rfl,rfl,rfl⟩⟩
 refine⟨λid g sz n e f hid=>?_,⟨λb a hs=>?_,λb a=>?_,N,?_,l.Cw U,λb a x y z hx=>?_,λb x y z x' y' z' hx tr=>?_⟩,U⟩;rotate_right 2
 ·rcases Af b a with h1 | h1
  ·rcases C x y z b hx with h2 | ⟨_,_,h2⟩
   ·exact l.hv b h1 _ _ _ h2
   ·have a1:=l.lt b (.inl h1);have E:=r b (.inr ⟨_,_,_,h2⟩);omega
  ·rcases C x y z b hx with h2 | ⟨_,_,h2⟩
   ·have a1:=l.lt b (.inr ⟨_,_,_,h2⟩);have E:=r b (.inl h1);omega
   ·exact I.hv b h1 _ _ _ h2
 ·rcases C x y z b hx with h1 | ⟨u1,rfl,h1⟩
  ·rcases C x' y' z' b tr with h2 | ⟨u2,rfl,h2⟩
   ·exact l.hh b _ _ _ _ _ _ h1 h2
   ·have a1:=l.lt b (.inr ⟨_,_,_,h1⟩);have E:=r b (.inr ⟨_,_,_,h2⟩);omega
  ·rcases C x' y' z' b tr with h2 | ⟨u2,rfl,h2⟩
   ·have a1:=l.lt b (.inr ⟨_,_,_,h2⟩);have E:=r b (.inr ⟨_,_,_,h1⟩);omega
   ·obtain⟨P,e2,Q⟩:=I.hh b _ _ _ _ _ _ h1 h2;exact⟨by rw[P],e2,Q⟩
 ·rcases inv id g sz n e f hid with⟨h1,h2⟩ | ⟨d,f0,rfl,h1,h2,rfl⟩
  ·obtain⟨q1,q2⟩:=hH id g sz n e f h1;refine⟨q1,?_⟩;rw[h2];cases hm:μ id with
   | none=>rw[hm]at q2;exact q2
   | some p=>
    obtain⟨b,base⟩:=p;rw[hm]at q2;obtain⟨o,r1,H⟩:=q2;have s:b<w.heap.size:=(amb.1 r1).1;exact⟨o,(B b s).trans r1,H.mono (λi y pv v hi hy hr=>hr.fr U l (λcW n' e' f' F' he b2 yd=>B b2 (l.lt b2 (.inr ⟨id,i,y,_,_,_,_,_,_,_,_,_,_,h1,hi,he▸hy,yd⟩))))⟩
  ·obtain⟨q1,q2⟩:=K d g sz n e f0 h1;refine⟨λi hi=>by simpa using q1 i hi,?_⟩;rw[h2];cases hm:μ0 d with
   | none=>rw[hm]at q2;exact q2
   | some p=>
    obtain⟨b,base⟩:=p;rw[hm]at q2;obtain⟨o,r1,H⟩:=q2;refine⟨o,r1,?_⟩;cases o with
    | cells cur e' z=>
     obtain⟨W,x2,x3,X⟩:=H;refine⟨W,x2,x3,λi j pv hi hj=>?_⟩;rw[aOG]at hj;cases hx:(f0 i)[j]? with
     | none=>rw[hx]at hj;cases hj
     | some c=>
      rw[hx]at hj;injection hj with hj;subst hj;obtain⟨v,s1,s2⟩:=X i j c hi hx;obtain⟨g1,g2⟩:=L d g sz n e f0 h1 i hi c (aOy hx);refine⟨v,s1,?_⟩;cases t:eV c with
      | false=>exact cV.k (fJ G Y (g1 t) s2.c) (by cases c<;>first | rfl | cases t)
      | true=>
       cases c with
       | eg mY n2 e2 f2 F2=>exact nU.og Y (show nU S0 w' (.eg mY n2 e2 f2 F2) v from s2) (g2 rfl)
       | _=>cases t
    | map es c=>
     obtain⟨W,X⟩:=H;refine⟨W,λi hi=>?_⟩;obtain⟨kp,vp,en,y1,y2,y3,y4⟩:=X i hi;exact⟨kp,vp,en,by show(f0 i).map (pX h.length)=_;rw[y1];show[pX h.length kp,pX h.length vp]=_;rw[Di y2,Di y3],y2,y3,y4⟩
    | _=>exact H.elim
 ·rcases T b a with h1 | h1
  ·rcases D b hs with h2 | h2
   ·exact l.apart b h1 h2
   ·have:=l.lt b h1;omega
  ·exact O b hs h1
 ·rcases T b a with h1 | h1
  ·exact aOE (l.lt b h1) m.size
  ·exact I.lt b h1
 ·intro i j gi WD ni ei fi gj mz nj ej fj b o o' hi hj pz oA;rcases inv i _ _ _ _ _ hi with⟨h1,h2⟩ | ⟨d,f0,rfl,h1,h2,_⟩
  ·rw[h2]at pz;rcases inv j _ _ _ _ _ hj with⟨u,h4⟩ | ⟨A,f1,rfl,u,h4,_⟩
   ·rw[h4]at oA;exact l.inj i j _ _ _ _ _ _ _ _ _ _ _ _ _ h1 u pz oA
   ·rw[h4]at oA;have a1:=l.lt b (.inl ⟨i,_,_,_,_,_,_,h1,pz⟩);have E:=r b (.inl ⟨A,_,_,_,_,_,_,u,oA⟩);omega
  ·rw[h2]at pz;rcases inv j _ _ _ _ _ hj with⟨u,h4⟩ | ⟨A,f1,rfl,u,h4,_⟩
   ·rw[h4]at oA;have a1:=l.lt b (.inl ⟨j,_,_,_,_,_,_,u,oA⟩);have E:=r b (.inl ⟨d,_,_,_,_,_,_,h1,pz⟩);omega
   ·rw[h4]at oA;have:=I.inj d A _ _ _ _ _ _ _ _ _ _ _ _ _ h1 u pz oA;rw[this]
theorem ACall.frame {f:FuncId} {args:List PV} {R:PV->List aq->Prop} (D:ACall P f args [] R) (h:List aq) (hp:args.all UL=true):
  ACall P f args h (λres h'=>∃r0 h0,R r0 h0/\res=vI h.length r0/\h'=h++h0.map (iG h.length)):=by
 refine⟨D.1,λw vs μ S G t H I=>?_⟩;refine(D.2 w vs (λ_=>none) S (λid g sz n e f hid=>by simp at hid) ⟨λb d=>absurd d mL,λb d=>absurd d mL,t.slt,λi j g sz n e f X Y Z e' f' b o o' hi=>by simp at hi,t.known,λb _ x y z hx=>Br hx,λb _ _ _ _ _ _ hx=>absurd hx Br⟩ H (λj pv hj=>?_)).mono ?_
 ·obtain⟨v,h1,h2⟩:=I j pv hj;refine⟨v,h1,?_⟩;have a:=(aOl.1 hp) pv (aOy hj);cases pv with
  | agg cs=>
   obtain⟨us,q1,q2,q3⟩:=h2;refine⟨us,q1,q2,λi c hi=>?_⟩;obtain⟨u,r1,m⟩:=q3 i c hi;have hc:=(aOl.1 a) c (aOy hi);exact⟨u,r1,cV.mK (CG hc m)⟩
  | fV cs=>cases a
  | own id gen off len=>cases a
  | aA id gen i off=>cases a
  | qc id=>cases a
  | ud f dG=>cases a
  | j3=>cases a
  | eg sz n e f F=>cases a
  | int k n=>exact h2
  | bool b=>exact h2
  | str s=>exact h2
  | ck=>exact h2
  | jS=>exact h2
  | iT sz n f=>exact h2
  | ia cs=>exact h2
  | fn f=>exact h2
 ·rintro e w' ⟨v,r0,h0,μ0,S0,he,J,hv,r,A,B⟩;have K:∀b,¬dE (λ_=>none) [] b:=λb=>mL
  obtain⟨c1,c2,c3⟩:=JY (S':=S0) G t B r A (λ_=>True) (λ_ _ _ h=>h) (λid g sz n e f hid i hi c l=>⟨λ_=>trivial,λhx=>by
    obtain⟨j,hj,C⟩:=aPL.1 l;obtain⟨_,q2⟩:=r id g sz n e f hid;cases E:μ0 id with
    | none=>rw[E]at q2;omega
    | some p=>
     obtain⟨b,base⟩:=p;rw[E]at q2;obtain⟨o,_,m⟩:=q2;cases o with
     | cells cur e' z=>
      obtain⟨_,_,_,L⟩:=m;obtain⟨v,_,M⟩:=L i j c hi (by rw[<-C];exact abF hj);cases c with
      | eg mY n2 e2 f2 N=>exact nU.all (show nU S0 w' (.eg mY n2 e2 f2 N) v from M)
      | _=>cases hx
     | map es cl=>
      obtain⟨O,Q,en,y1,T,U,_⟩:=m.2 i hi;rw[y1]at l;rcases aOz.1 l with q | q
      ·rw[q]at hx;cases O<;>first | (cases hx;done) | (cases T;done)
      ·rw[aPW.1 q]at hx;cases Q<;>first | (cases hx;done) | (cases U;done)
     | _=>exact m.elim⟩) B.sub
   (λb d=>(B.new b d).imp id (λh=>h.resolve_left (K b))) A.slt (λb d V=>A.apart b V d)
  have W:ai8 (λ_=>True) r0:=by
   unfold ai8;split
   ·intro v _;split<;>intros<;>trivial
   ·intros;trivial
   ·trivial
  exact⟨v,_,_,_,S0,he,⟨r0,h0,J,rfl,rfl⟩,G6 _ (λ_ _ _ h=>h) W hv,c1,c2,c3⟩
def alp:aq->Prop
 | .row _ _ n _ f=>∀i,i<n->∀c∈f i,(eV c=false->sx c=true)/\(eV c=true->OG (λpv=>sx pv=true) c)
 | .dead=>True
theorem ae2.p {o:aq} (h:ae2 o):alp o:=by
 cases o with
 | dead=>trivial
 | row g sz n e f=>
  intro i hi c hc;have:=(aOl.1 (h i hi)) c hc;exact⟨λ_=>this,λhx=>by cases c<;>first | (cases hx;done) | (cases this;done)⟩
theorem ACall.snap {f:FuncId} {args q:List PV} {R:PV->List aq->Prop} (z:ACall P f q [] R) (h:List aq) (E:q.length=args.length)
  (F:∀(j:Nat) (pv d:PV),args[j]? =some pv->q[j]? =some d->Fz h [] [] pv d/\pf d=true) (G:∀r0 h0,R r0 h0->UK r0=true/\∀o∈h0,alp o):
  ACall P f args h (λres h'=>∃r0 h0,R r0 h0/\res=vI h.length r0/\h'=h++h0.map (iG h.length)):=by
 refine⟨z.1,λw vs μ S r l O H=>?_⟩;have p:mW h [] [] 0 0 [] []:=trivial;obtain⟨A,_,_⟩:=BD (m:=0) ⟨r,l⟩ p rfl;refine(z.2 w vs (nW μ h []) (JR μ h [] S) A.heap A.ok aRK (λj d hj=>?_)).mono ?_
 ·have I:j<args.length:=by rw[<-E];exact(N2.1 hj).1
  have B:=abF I;obtain⟨v,h1,h2⟩:=H j _ B;obtain⟨J,Q⟩:=F j _ d B hj;exact⟨v,h1,(xW (m:=0) ⟨r,l⟩ p J).2.1 v h2⟩
 ·rintro e w' ⟨v,r0,h0,μ0,S0,he,C,hv,t,K,u⟩;obtain⟨x,y⟩:=G r0 h0 C;have L:∀b,¬dE (nW μ h []) [] b:=λb=>mL
  have D:∀pv v,sx pv=true->ba S0 w' pv v->ba S w' pv v:=λpv v hf hp=>by
   cases hp with
   | int k n=>exact .int k n
   | bool b=>exact .bool b
   | str s=>exact .str s
   | ck=>exact .ck
   | jS=>exact .jS
   | fn f=>exact .fn f
   | uE=>cases hf
   | iT=>cases hf
   | ia=>cases hf
  obtain⟨c1,c2,c3⟩:=JY (S':=S) r l u t K (λpv=>sx pv=true) D (λid g sz n e f hid i hi c hc=>y _ (aOy hid) i hi c hc) (λ_ a=>a) (λb a=>.inl a) (λb a=>aOE (l.slt b a) u.size)
   (λb a M=>by
    have h1:=(u.own b M).resolve_left (L b);have h2:=l.slt b a;omega)
  have N:ai8 (λpv=>sx pv=true) r0:=by
   cases r0 with
   | fV vs=>
    intro v hv;have:=(aOl.1 x) v hv;cases v with
    | agg cs=>exactλc hc=>(aOl.1 this) c hc
    | _=>exact this
   | agg cs=>exactλc hc=>(aOl.1 x) c hc
   | _=>exact x
  exact⟨v,_,_,_,S,he,⟨r0,h0,C,rfl,rfl⟩,G6 _ D N hv,c1,c2,c3⟩
end
end Go.Am
