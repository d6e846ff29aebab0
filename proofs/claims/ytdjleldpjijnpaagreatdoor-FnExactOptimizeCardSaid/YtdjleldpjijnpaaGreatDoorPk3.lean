/- Texts of the proof, joined and shortened. -/
import Derived.Test.YtdjleldpjijnpaaGreatDoorPk2
set_option linter.unusedVariables false
set_option linter.unusedSimpArgs false
namespace Go.Am
open Go Go.RowKit
section
variable {P:Program}{T:rO}{μ:Mu}{h h1:List al}{S:Nat->Prop}{w:World}
theorem O3 (hc:Core μ h S w) (s:K6 h h1):∃μ',Fr μ h S w μ' h1 S w/\Core μ' h1 S w:=by
 obtain⟨id,g,sz,n,e,f,i,j,N,t,U,C,F,f1,hh,hi,hj,A8,Oy,rfl⟩:=s;have hid:id<h.length:=(Is.1 hh).1;obtain⟨hl,Z⟩:=hc.heap id g sz n e f hh;have LZ:j<sz:=by rw[<-hl i hi];exact(Is.1 hj).1
 have Bh:∃b0 O P v,μ id=some (b0,O)/\w.heap[b0]? =some (.cells P e (0,0))/\O+n*sz<=P.size/\P[O+i*sz+j]? =some v/\nq S w (.bu N t U C F) v/\
   ∀(i j:Nat) (pv:PV),i<n->(f i)[j]? =some pv->∃v:Value,P[O+i*sz+j]? =some v/\qw μ h S w pv v:=by
  cases eu:μ id with
  | none=>rw[eu]at Z;have Z:n=0:=Z;omega
  | some p=>
   obtain⟨b0,O⟩:=p;rw[eu]at Z;obtain⟨o,q1,q2⟩:=Z;cases o with
   | cells P e0 z=>
    obtain⟨rfl,rfl,q3,q4⟩:=q2;obtain⟨v,r1,m⟩:=q4 i j _ hi hj;exact⟨b0,O,P,v,rfl,q1,q3,r1,m,q4⟩
   | map es c=>
    obtain⟨kp,vp,en,y1,y2,y3,_⟩:=q2.2 i hi;rw[y1]at hj
    match j,hj with
    | 0,hj=>simp at hj;rw[hj]at y2;cases y2
    | 1,hj=>simp at hj;rw[hj]at y3;cases y3
    | y+2,hj=>simp at hj
   | _=>exact q2.elim
 obtain⟨b0,O,P,v,eu,ZW,vN,Qg,ag,kl⟩:=Bh;have T5:∀b,F b->cV h id i j b:=λb l=>⟨_,_,_,_,_,_,_,_,_,_,hh,hi,hj,l⟩
 obtain⟨p,hp⟩:∃p:Option (Nat×Nat),match p with
   | none=>v=.slice none 0 0/\t=0
   | some (b,off)=>F b/\∃(c:Nat) (a:Addr) (cur:Array Value),w.heap[b]? =some (.cells cur U (0,0))/\v=.slice (some a) t c/\t<=c/\(0<c->a=⟨b,off,none⟩)/\off+c*N<=cur.size/\(∀i,i<t->(C i).length=N)/\
     (∀(i j:Nat) (pv:PV),i<t->(C i)[j]? =some pv->∃u,cur[off+i*N+j]? =some u/\(aR S w pv u\/∃D n2 e2 f2 F2,pv=.bu D n2 e2 f2 F2/\nq S w (.bu D n2 e2 f2 F2) u))/\
     (∀(i j oZ n2:Nat) (e2:TypeId) (f2:Nat->List PV) (F2:Nat->Prop),i<t->(C i)[j]? =some (.bu oZ n2 e2 f2 F2)->∀V,F2 V->F V/\V≠b)/\
     (∀(i j oZ n2:Nat) (e2:TypeId) (f2:Nat->List PV) (F2:Nat->Prop) (i' j' aa n3:Nat) (e3:TypeId) (f3:Nat->List PV) (F3:Nat->Prop),i<t->(C i)[j]? =some (.bu oZ n2 e2 f2 F2)->i'<t->(C i')[j']? =some (.bu aa n3 e3 f3 F3)->∀V,F2 V->F3 V->i=i'/\j=j'):=by
  cases ag with
  | nil _ _ _ _ hF=>exact⟨none,rfl,rfl⟩
  | Aa _ _ _ _ _ b off c a cur vf hF l hlen XM ha dy ad oY wW Gf Lr=>
   refine⟨some (b,off),hF,c,a,cur,l,rfl,XM,ha,dy,hlen,λi j pv hi hj=>⟨_,ad i j pv hi hj,?_⟩,Gf,Lr⟩;rcases oY i j pv hi hj with q | ⟨D,n2,e2,f2,F2,rfl⟩
   ·exact .inl q
   ·exact .inr ⟨D,n2,e2,f2,F2,rfl,wW i j _ _ _ _ _ hi hj⟩
 have Q:∀b off,p=some (b,off)->F b:=λb off hq=>by subst hq;exact hp.1
 generalize WN:h.set id (al.row g sz n e f1)++[al.row 0 N t U C]=h1;have an:h1.length=h.length+1:=by rw[<-WN];simp
 have yZ:h1[id]? =some (al.row g sz n e f1):=by rw[<-WN,aia (by simpa using hid)];simp [hid]
 have CU:h1[h.length]? =some (al.row 0 N t U C):=by rw[<-WN,ahU alW];simp
 have bU:∀k,k≠id->k<h.length->h1[k]? =h[k]?:=λk d L=>by rw[<-WN,aia (by simpa using L),ahQ (aiI d)]
 have inv:∀k o,h1[k]? =some o->(k=id/\o=al.row g sz n e f1)\/(k=h.length/\o=al.row 0 N t U C)\/(k≠id/\k<h.length/\h[k]? =some o):=λk o d=>by
  by_cases h2:k=id
  ·subst h2;rw[yZ]at d;injection d with d;exact .inl ⟨rfl,d.symm⟩
  ·by_cases h3:k=h.length
   ·subst h3;rw[CU]at d;injection d with d;exact .inr (.inl ⟨rfl,d.symm⟩)
   ·have h4:k<h.length:=by have:=(Is.1 d).1;omega
    rw[bU k h2 h4]at d;exact .inr (.inr ⟨h2,h4,d⟩)
 let μ1:Mu:=oV μ h.length p
 have ED:μ1 h.length=p:=bp _ _ _;have E:∀k,k<h.length->μ1 k=μ k:=λk d=>cw μ _ alV
 have EE:∀x y pv,x<n->(f1 x)[y]? =some pv->((x,y)=(i,j)/\pv=.own h.length 0 0 t)\/((x,y)≠(i,j)/\(f x)[y]? =some pv):=λx y pv s hy=>by
  by_cases A:x=i
  ·subst A;rw[A8,aiG]at hy;by_cases R:j=y
   ·subst R;rw[As rfl,As (by rw[hl x s];exact LZ)]at hy;injection hy with hy;exact .inl ⟨rfl,hy.symm⟩
   ·rw[An R]at hy;exact .inr ⟨λq=>R (by injection q with _ q;exact q.symm),hy⟩
  ·rw[Oy x s A]at hy;exact .inr ⟨λq=>A (by injection q),hy⟩
 have W:∀k x y b,cV h1 k x y b->(k≠h.length/\¬(k=id/\x=i/\y=j)/\cV h k x y b)\/(k=h.length/\cV h id i j b/\∃oZ n2 e2 f2 F2,x<t/\(C x)[y]? =some (.bu oZ n2 e2 f2 F2)/\F2 b):=λk x y b ⟨g2,D,n2,e2,f2,s3,n3,e3,f3,F3,q1,q2,q3,q4⟩=>by
  rcases inv k _ q1 with⟨rfl,B⟩ | ⟨rfl,B⟩ | ⟨h2,h3,h4⟩
  ·injection B with G H I J K;subst G H I J K;rcases EE x y _ q2 q3 with⟨_,hq⟩ | ⟨pW,hq⟩
   ·cases hq
   ·exact .inl ⟨by omega,λ⟨_,b1,b2⟩=>pW (by rw[b1,b2]),_,_,_,_,_,_,_,_,_,_,hh,q2,hq,q4⟩
  ·injection B with G H I J K;subst G H I J K;refine .inr ⟨rfl,T5 b ?_,_,_,_,_,_,q2,q3,q4⟩;cases p with
   | none=>have:=hp.2;omega
   | some pp=>
    obtain⟨pb,T⟩:=pp;obtain⟨_,_,_,_,_,_,_,_,_,_,_,hs,_⟩:=hp;exact(hs x y _ _ _ _ _ q2 q3 b q4).1
  ·exact .inl ⟨by omega,λ⟨b1,_⟩=>h2 b1,_,_,_,_,_,_,_,_,_,_,h4,q2,q3,q4⟩
 have EF:∀b,CV μ1 h1 b->CV μ h b\/(∃off,p=some (b,off)):=λb ⟨k,g2,D,n2,e2,f2,base,q1,q2⟩=>by
  rcases inv k _ q1 with⟨rfl,B⟩ | ⟨rfl,B⟩ | ⟨h2,h3,h4⟩
  ·rw[E k hid]at q2;exact .inl ⟨k,_,_,_,_,_,_,hh,q2⟩
  ·rw[ED]at q2;exact .inr ⟨base,q2⟩
  ·rw[E k h3]at q2;exact .inl ⟨k,_,_,_,_,_,_,h4,q2⟩
 have ml:∀b,cf μ1 h1 b->cf μ h b:=λb l=>by
  rcases l with l | ⟨k,x,y,l⟩
  ·rcases EF b l with q | ⟨off,q⟩
   ·exact .inl q
   ·exact .inr ⟨_,_,_,T5 b (Q b off q)⟩
  ·rcases W k x y b l with⟨_,_,q⟩ | ⟨_,q,_⟩
   ·exact alU
   ·exact alU
 have ju:Fr μ h S w μ1 h1 S w:=by
  refine⟨by omega,λ_ _ _=>rfl,λ_ l=>l,λ_ l=>.inl l,λb l=>.inl (ml b l),ahy _,rfl,rfl,rfl,λk g2 D n2 e2 f2 d=>?_,λk d=>?_,λ_ _ _ hc=>hc,λk g2 D n2 e2 f2 b base d hm X=>⟨X,.inr ⟨?_,?_⟩⟩,λ_ _ _ _ _ X=>X⟩
  ·have L:=(Is.1 d).1;by_cases yP:k=id
   ·subst yP;rw[hh]at d;injection d with d;injection d with G H I J K;subst G H I J K;rw[yZ];exact⟨ahy _,λ_=>⟨E _ hid,rfl,rfl,rfl⟩⟩
   ·rw[bU k yP L,d];exact⟨ahy _,λ_=>⟨E k L,rfl,rfl,rfl⟩⟩
  ·have L:=(Is.1 d).1;rw[bU k (by rintro rfl;rw[hh]at d;cases d) L];exact d
  ·have L:=(Is.1 d).1;by_cases yP:k=id
   ·subst yP;exact⟨_,_,_,_,_,yZ⟩
   ·exact⟨_,_,_,_,_,(bU k yP L).trans d⟩
  ·rw[E k (Is.1 d).1];exact hm
 refine⟨μ1,ju,⟨λk g2 D n2 e2 f2 d=>?_,⟨λb l=>hc.ok.apart b (ml b l),λb l=>hc.ok.lt b (ml b l),hc.ok.slt,?_,hc.ok.known,λb l k x y s=>?_,λb k x y k' x' y' s vO=>?_⟩⟩⟩
 ·rcases inv k _ d with⟨rfl,B⟩ | ⟨rfl,B⟩ | ⟨h2,h3,h4⟩
  ·injection B with G H I J K;subst G H I J K;refine⟨λx s=>?_,?_⟩
   ·by_cases A:x=i
    ·subst A;rw[A8,aiH];exact hl x s
    ·rw[Oy x s A];exact hl x s
   ·rw[E k hid,eu];refine⟨_,ZW,rfl,rfl,vN,λx y pv s hy=>?_⟩;rcases EE x y pv s hy with⟨hq,rfl⟩ | ⟨_,hq⟩
    ·injection hq with r1 m;subst r1 m;refine⟨v,Qg,?_⟩;show bg μ1 h1 w h.length 0 0 t v;unfold bg;rw[CU];cases p with
     | none=>
      obtain⟨rfl,rfl⟩:=hp;exact⟨⟨_,_,_,rfl⟩,ahy _,λ_=>⟨ahy _,by rw[ED]⟩⟩
     | some pp=>
      obtain⟨pb,T⟩:=pp;obtain⟨_,c,a,cur,t1,rfl,t3,t4,t5,_⟩:=hp;refine⟨⟨_,_,_,rfl⟩,ahy _,λ_=>⟨by omega,?_⟩⟩;rw[ED];exact⟨a,c,rfl,t3,λh0=>by rw[t4 h0];simp,cur,U,_,t1,by rw[ahx];exact t5⟩
    ·obtain⟨u,r1,m⟩:=kl x y pv s hq;exact⟨u,r1,m.fr ju hc.ok (λ_ _ _ _ _ _ _ _=>rfl)⟩
  ·injection B with G H I J K;subst G H I J K;rw[ED];cases p with
   | none=>exact⟨λx s=>by have:=hp.2;omega,hp.2⟩
   | some pp=>
    obtain⟨pb,T⟩:=pp;obtain⟨_,c,a,cur,t1,_,t3,_,t5,t6,t7,_,_⟩:=hp;refine⟨t6,_,t1,rfl,rfl,air (Nat.add_le_add_left (ahH _ t3) _) t5,λx y pv s hy=>?_⟩;obtain⟨u,r1,m⟩:=t7 x y pv s hy;refine⟨u,r1,?_⟩;rcases m with m | ⟨_,_,_,_,_,rfl,m⟩
    ·exact(bK.kN m).k (aR.no m)
    ·exact m
  ·obtain⟨q1,q2⟩:=hc.heap k _ _ _ _ _ h4;refine⟨q1,?_⟩;rw[E k h3];cases hm:μ k with
   | none=>rw[hm]at q2;exact q2
   | some pp=>
    obtain⟨b,base⟩:=pp;rw[hm]at q2;obtain⟨o,r1,m⟩:=q2;exact⟨o,r1,m.mono (λ_ _ _ _ _ _ hr=>hr.fr ju hc.ok (λ_ _ _ _ _ _ _ _=>rfl))⟩
 ·intro a b ga sa na ea fa gb sb nb eb fb Aa o o' ha l ai X
  have old:∀k gk sk nk ek fk oo,h1[k]? =some (al.row gk sk nk ek fk)->μ1 k=some (Aa,oo)->(k=h.length/\F Aa)\/(k<h.length/\∃gk sk nk ek fk,h[k]? =some (al.row gk sk nk ek fk)/\μ k=some (Aa,oo)):=λk gk sk nk ek fk oo d hm=>by
   rcases inv k _ d with⟨rfl,B⟩ | ⟨rfl,B⟩ | ⟨h2,h3,h4⟩
   ·rw[E k hid]at hm;exact .inr ⟨hid,_,_,_,_,_,hh,hm⟩
   ·rw[ED]at hm;exact .inl ⟨rfl,Q _ _ hm⟩
   ·rw[E k h3]at hm;exact .inr ⟨h3,_,_,_,_,_,h4,hm⟩
  rcases old a _ _ _ _ _ _ ha ai with⟨rfl,q⟩ | ⟨q0,_,_,_,_,_,q1,q2⟩
  ·rcases old b _ _ _ _ _ _ l X with⟨rfl,_⟩ | ⟨r0,_,_,_,_,_,r1,m⟩
   ·rfl
   ·exact absurd (T5 Aa q) (hc.ok.hv Aa ⟨b,_,_,_,_,_,_,r1,m⟩ _ _ _)
  ·rcases old b _ _ _ _ _ _ l X with⟨rfl,r⟩ | ⟨r0,_,_,_,_,_,r1,m⟩
   ·exact absurd (T5 Aa r) (hc.ok.hv Aa ⟨a,_,_,_,_,_,_,q1,q2⟩ _ _ _)
   ·exact hc.ok.inj a b _ _ _ _ _ _ _ _ _ _ _ _ _ q1 r1 q2 m
 ·rcases EF b l with q | ⟨off,q⟩
  ·rcases W k x y b s with⟨_,_,r⟩ | ⟨_,r,_⟩
   ·exact hc.ok.hv b q _ _ _ r
   ·exact hc.ok.hv b q _ _ _ r
  ·rcases W k x y b s with⟨_,pW,r⟩ | ⟨_,r,oZ,n2,e2,f2,F2,r1,m,r3⟩
   ·exact pW (hc.ok.hh b _ _ _ _ _ _ r (T5 b (Q b off q)))
   ·subst q;obtain⟨_,_,_,_,_,_,_,_,_,_,_,hs,_⟩:=hp;exact(hs x y _ _ _ _ _ r1 m b r3).2 rfl
 ·rcases W k x y b s with⟨k1,pW,r⟩ | ⟨rfl,r,oZ,n2,e2,f2,F2,r1,m,r3⟩
  ·rcases W k' x' y' b vO with⟨k2,M,Y⟩ | ⟨rfl,Y,_⟩
   ·exact hc.ok.hh b _ _ _ _ _ _ r Y
   ·exact absurd (hc.ok.hh b _ _ _ _ _ _ r Y) pW
  ·rcases W k' x' y' b vO with⟨k2,M,Y⟩ | ⟨rfl,Y,aa,n3,e3,f3,F3,t1,t2,t3⟩
   ·exact absurd (hc.ok.hh b _ _ _ _ _ _ Y r) M
   ·cases p with
    | none=>have:=hp.2;omega
    | some pp=>
     obtain⟨pb,T⟩:=pp;obtain⟨_,_,_,_,_,_,_,_,_,_,_,_,hd⟩:=hp;obtain⟨e1,e2⟩:=hd x y _ _ _ _ _ x' y' _ _ _ _ _ r1 m t1 t2 b r3 t3;exact⟨rfl,e1,e2⟩
def FAb (μ:Mu) (h:List al) (sub:Nat) (b:Nat):Prop:=(∃g sz n e f base,h[sub]? =some (al.row g sz n e f)/\μ sub=some (b,base))\/∃x y,cV h sub x y b
theorem O4 (hc:Core μ h S w) {id i j sub:Nat} (d:Ht h id i j sub (FAb μ h sub) h1):Fr μ h S w μ h1 S w/\Core μ h1 S w:=by
 obtain⟨g,sz,n,e,f,g2,oZ,n2,e2,f2,f1,hh,hs,pW,hi,hj,ad,A8,Oy,rfl⟩:=d;have hid:id<h.length:=(Is.1 hh).1;have MQ:sub<h.length:=(Is.1 hs).1;obtain⟨hl,aY⟩:=hc.heap id g sz n e f hh;have LZ:j<sz:=by rw[<-hl i hi];exact(Is.1 hj).1
 generalize s:FAb μ h sub=F;rw[s]at A8
 have ag:∀b,F b->cf μ h b:=λb m=>by
  rw[<-s]at m;rcases m with⟨g,sz,n,e,f,base,q1,q2⟩ | ⟨x,y,q⟩
  ·exact .inl ⟨sub,_,_,_,_,_,_,q1,q2⟩
  ·exact alU
 generalize WN:(h.set id (al.row g sz n e f1)).set sub al.dead=h1;have yZ:h1[id]? =some (al.row g sz n e f1):=by rw[<-WN,ahQ (aiI pW)];simp [hid]
 have CX:h1[sub]? =some al.dead:=by rw[<-WN,ain (by simpa using MQ)]
 have bU:∀k,k≠id->k≠sub->h1[k]? =h[k]?:=λk h2 h3=>by rw[<-WN,ahQ (aiI h3),ahQ (aiI h2)]
 have inv:∀k B C D E G,h1[k]? =some (al.row B C D E G)->k≠sub/\((k=id/\al.row B C D E G=al.row g sz n e f1)\/(k≠id/\h[k]? =some (al.row B C D E G))):=λk B C D E G l=>by
  have h3:k≠sub:=by rintro rfl;rw[CX]at l;cases l
  refine⟨h3,?_⟩;by_cases h2:k=id
  ·subst h2;rw[yZ]at l;injection l with l;exact .inl ⟨rfl,l.symm⟩
  ·rw[bU k h2 h3]at l;exact .inr ⟨h2,l⟩
 have EE:∀x y pv,x<n->(f1 x)[y]? =some pv->((x=i/\y=j)/\pv=.bu oZ n2 e2 f2 F)\/(¬(x=i/\y=j)/\(f x)[y]? =some pv):=λx y pv d hy=>by
  by_cases t:x=i
  ·subst t;rw[A8,aiG]at hy;by_cases M:j=y
   ·subst M;rw[As rfl,As (by rw[hl x d];exact LZ)]at hy;injection hy with hy;exact .inl ⟨⟨rfl,rfl⟩,hy.symm⟩
   ·rw[An M]at hy;exact .inr ⟨λq=>M q.2.symm,hy⟩
  ·rw[Oy x d t]at hy;exact .inr ⟨λq=>t q.1,hy⟩
 have V:∀k x y b,cV h1 k x y b->(k=id/\x=i/\y=j/\F b)\/(k≠sub/\¬(k=id/\x=i/\y=j)/\cV h k x y b):=λk x y b ⟨g3,s3,n3,e3,f3,s4,n4,e4,f4,F4,q1,q2,q3,q4⟩=>by
  obtain⟨h3,hq⟩:=inv k _ _ _ _ _ q1;rcases hq with⟨rfl,ho⟩ | ⟨h2,h4⟩
  ·injection ho with W X Y Z a5;subst W X Y Z a5;rcases EE x y _ q2 q3 with⟨⟨r1,A⟩,hq⟩ | ⟨aa,hq⟩
   ·injection hq with _ _ _ _ hq;subst hq;exact .inl ⟨rfl,r1,A,q4⟩
   ·exact .inr ⟨h3,λ⟨_,b1⟩=>aa b1,_,_,_,_,_,_,_,_,_,_,hh,q2,hq,q4⟩
  ·exact .inr ⟨h3,λ⟨b1,_⟩=>h2 b1,_,_,_,_,_,_,_,_,_,_,h4,q2,q3,q4⟩
 have EF:∀b,CV μ h1 b->∃k B C D E G base,k≠sub/\h[k]? =some (al.row B C D E G)/\μ k=some (b,base):=λb ⟨k,g3,s3,n3,e3,f3,base,q1,q2⟩=>by
  obtain⟨h3,hq⟩:=inv k _ _ _ _ _ q1;rcases hq with⟨rfl,ho⟩ | ⟨h2,h4⟩
  ·exact⟨k,_,_,_,_,_,_,h3,hh,q2⟩
  ·exact⟨k,_,_,_,_,_,_,h3,h4,q2⟩
 have ml:∀b,cf μ h1 b->cf μ h b:=λb m=>by
  rcases m with m | ⟨k,x,y,m⟩
  ·obtain⟨k,_,_,_,_,_,_,_,q1,q2⟩:=EF b m;exact .inl ⟨k,_,_,_,_,_,_,q1,q2⟩
  ·rcases V k x y b m with⟨_,_,_,q⟩ | ⟨_,_,q⟩
   ·exact ag b q
   ·exact alU
 have ju:Fr μ h S w μ h1 S w:=by
  refine⟨by rw[<-WN];simp,λ_ _ _=>rfl,λ_ m=>m,λ_ m=>.inl m,λb m=>.inl (ml b m),ahy _,rfl,rfl,rfl,λk g3 s3 n3 e3 f3 l=>?_,λk l=>?_,λ_ _ _ hc=>hc,λk g3 s3 n3 e3 f3 b base l hm nF=>⟨nF,?_⟩,λ_ _ _ _ _ nF=>nF⟩
  ·by_cases yP:k=id
   ·subst yP;rw[hh]at l;injection l with l;injection l with W X Y Z a5;subst W X Y Z a5;rw[yZ];exact alN
   ·by_cases J:k=sub
    ·subst J;rw[CX];trivial
    ·rw[bU k yP J,l];exact alN
  ·by_cases J:k=sub
   ·subst J;exact CX
   ·rw[bU k (by rintro rfl;rw[hh]at l;cases l) J];exact l
  ·by_cases J:k=sub
   ·subst J;exact .inl CX
   ·refine .inr ⟨?_,hm⟩;by_cases yP:k=id
    ·subst yP;exact⟨_,_,_,_,_,yZ⟩
    ·exact⟨_,_,_,_,_,(bU k yP J).trans l⟩
 have Yd:∀k x y b,k≠sub->cV h k x y b->¬F b:=λk x y b l d hF=>by
  rw[<-s]at hF;rcases hF with⟨_,_,_,_,_,_,q1,q2⟩ | ⟨_,_,q⟩
  ·exact hc.ok.hv b ⟨sub,_,_,_,_,_,_,q1,q2⟩ _ _ _ d
  ·exact l (hc.ok.hh b _ _ _ _ _ _ d q).1
 refine⟨ju,⟨λk g3 s3 n3 e3 f3 l=>?_,⟨λb m=>hc.ok.apart b (ml b m),λb m=>hc.ok.lt b (ml b m),hc.ok.slt,?_,hc.ok.known,λb m k x y d=>?_,λb k x y k' x' y' d vO=>?_⟩⟩⟩
 ·obtain⟨h3,hq⟩:=inv k _ _ _ _ _ l;rcases hq with⟨rfl,ho⟩ | ⟨h2,h4⟩
  ·injection ho with W X Y Z a5;subst W X Y Z a5;refine⟨λx d=>?_,?_⟩
   ·by_cases t:x=i
    ·subst t;rw[A8,aiH];exact hl x d
    ·rw[Oy x d t];exact hl x d
   ·cases eu:μ k with
    | none=>rw[eu]at aY;exact aY
    | some p=>
     obtain⟨b0,B0⟩:=p;rw[eu]at aY;obtain⟨o,q1,q2⟩:=aY;refine⟨o,q1,?_⟩;cases o with
     | cells Ls e0 z=>
      obtain⟨rfl,rfl,q3,q4⟩:=q2;refine⟨rfl,rfl,q3,λx y pv d hy=>?_⟩;rcases EE x y pv d hy with⟨⟨rfl,rfl⟩,rfl⟩ | ⟨_,hq⟩
      ·obtain⟨v,r1,A⟩:=q4 x y _ d hj;refine⟨v,r1,?_⟩;show nq S w (.bu oZ n2 e2 f2 F) v;have A:bg μ h w sub g2 0 n2 v:=A;unfold bg at A;rw[hs]at A;obtain⟨_,_,r3⟩:=A;obtain⟨_,R⟩:=r3 rfl;obtain⟨s1,T⟩:=hc.heap sub _ _ _ _ _ hs;cases H:μ sub with
       | none=>
        rw[H]at R T;have T:n2=0:=T;have R:v=.slice none 0 0:=R;subst T R;refine .nil _ _ _ _ (λb m=>?_);rw[<-s]at m;rcases m with⟨_,_,_,_,_,_,_,t2⟩ | ⟨x',y',t1,t2,t3,t4,t5,t6,t7,t8,t9,a6,K,u2,u3,u4⟩
        ·rw[H]at t2;cases t2
        ·rw[hs]at K;injection K with K;injection K with _ _ K _ _;omega
       | some p=>
        obtain⟨b,base⟩:=p;rw[H]at R T;obtain⟨a,cap,rfl,t2,t3,t4⟩:=R;obtain⟨cur,K,u2,u3⟩:=bH.cells t4 T
        have dy:base+cap*oZ<=cur.size:=by
         obtain⟨Bi,e',z',U,p2⟩:=t4;rw[K]at U;injection U with U;injection U with U _ _;subst U;rw[ahx]at p2;exact p2
        have ai:CV μ h b:=⟨sub,_,_,_,_,_,_,hs,H⟩;have N:∀(x y O P:Nat) (Q:TypeId) (f5:Nat->List PV) (L:Nat->Prop),x<n2->(f2 x)[y]? =some (.bu O P Q f5 L)->∀I,L I->cV h sub x y I:=λx y O P Q f5 L d hy I nv=>⟨_,_,_,_,_,_,_,_,_,_,hs,d,hy,nv⟩;refine .Aa oZ n2 e2 f2 F b base cap a cur (λx y=>(cur[base+x*oZ+y]?).getD undef) (by rw[<-s];exact .inl ⟨_,_,_,_,_,_,hs,H⟩) K s1 t2 (λh0=>by rw[t3 h0];simp) dy (λx y pv d hy=>?_) (λx y pv d hy=>?_) (λx y O P Q f5 L d hy=>?_) (λx y O P Q f5 L d hy I nv=>?_) (λx y O P Q f5 L x' y' s6 n6 e6 f6 F6 d hy vO an I nv kU=>?_)
        ·obtain⟨u,w1,_⟩:=u3 x y pv d hy;rw[w1];rfl
        ·obtain⟨u,w1,w2⟩:=u3 x y pv d hy;rw[w1];rcases ad x d pv (ahJ hy)with z1 | z1
         ·exact .inl (xC z1 w2.c)
         ·exact .inr (by cases pv<;>first | exact⟨_,_,_,_,_,rfl⟩ | cases z1)
        ·obtain⟨u,w1,w2⟩:=u3 x y _ d hy;rw[w1];exact w2
        ·have hq:=N x y O P Q f5 L d hy I nv;refine⟨by rw[<-s];exact .inr ⟨_,_,hq⟩,?_⟩;rintro rfl;exact hc.ok.hv I ai _ _ _ hq
        ·exact(hc.ok.hh I _ _ _ _ _ _ (N x y O P Q f5 L d hy I nv) (N x' y' s6 n6 e6 f6 F6 vO an I kU)).2
      ·obtain⟨u,r1,A⟩:=q4 x y pv d hq;exact⟨u,r1,A.fr ju hc.ok (λ_ _ _ _ _ _ _ _=>rfl)⟩
     | map es c=>
      obtain⟨kp,vp,en,y1,y2,y3,_⟩:=q2.2 i hi;rw[y1]at hj
      match j,hj with
      | 0,hj=>simp at hj;rw[hj]at y2;cases y2
      | 1,hj=>simp at hj;rw[hj]at y3;cases y3
      | y+2,hj=>simp at hj
     | _=>exact q2.elim
  ·obtain⟨q1,q2⟩:=hc.heap k _ _ _ _ _ h4;refine⟨q1,?_⟩;cases hm:μ k with
   | none=>rw[hm]at q2;exact q2
   | some pp=>
    obtain⟨b,base⟩:=pp;rw[hm]at q2;obtain⟨o,r1,A⟩:=q2;exact⟨o,r1,A.mono (λ_ _ _ _ _ _ hr=>hr.fr ju hc.ok (λ_ _ _ _ _ _ _ _=>rfl))⟩
 ·intro a b ga sa na ea fa gb sb nb eb fb Aa o o' ha m a0 nF
  have old:∀k B C D E G,h1[k]? =some (al.row B C D E G)->∃B C D E G,h[k]? =some (al.row B C D E G):=λk B C D E G l=>by
   rcases(inv k _ _ _ _ _ l).2 with⟨rfl,_⟩ | ⟨_,q⟩
   ·exact⟨_,_,_,_,_,hh⟩
   ·exact⟨_,_,_,_,_,q⟩
  obtain⟨_,_,_,_,_,q1⟩:=old a _ _ _ _ _ ha;obtain⟨_,_,_,_,_,q2⟩:=old b _ _ _ _ _ m;exact hc.ok.inj a b _ _ _ _ _ _ _ _ _ _ _ _ _ q1 q2 a0 nF
 ·obtain⟨k0,_,_,_,_,_,_,q0,q1,q2⟩:=EF b m;rcases V k x y b d with⟨_,_,_,q⟩ | ⟨_,_,q⟩
  ·rw[<-s]at q;rcases q with⟨_,_,_,_,_,_,r1,A⟩ | ⟨_,_,r⟩
   ·exact q0 (hc.ok.inj k0 sub _ _ _ _ _ _ _ _ _ _ _ _ _ q1 r1 q2 A)
   ·exact hc.ok.hv b ⟨k0,_,_,_,_,_,_,q1,q2⟩ _ _ _ r
  ·exact hc.ok.hv b ⟨k0,_,_,_,_,_,_,q1,q2⟩ _ _ _ q
 ·rcases V k x y b d with⟨rfl,rfl,rfl,q⟩ | ⟨k1,_,q⟩
  ·rcases V k' x' y' b vO with⟨rfl,rfl,rfl,_⟩ | ⟨k2,_,r⟩
   ·exact⟨rfl,rfl,rfl⟩
   ·exact absurd q (Yd _ _ _ _ k2 r)
  ·rcases V k' x' y' b vO with⟨rfl,rfl,rfl,r⟩ | ⟨k2,_,r⟩
   ·exact absurd r (Yd _ _ _ _ k1 q)
   ·exact hc.ok.hh b _ _ _ _ _ _ q r
variable {C:Start}{env:Env}{a:Act}
theorem qq.turn (hs:qq C μ h S env a w) {μ':Mu} (hf:Fr μ h S w μ' h1 S w) (hc:Core μ' h1 S w):qq C μ' h1 S env a w:=
 ⟨hc,hs.fr.trans hf,λt=>(hs.tmps t).fr hf hs.core.ok,hs.size,hs.far,hs.defers⟩
theorem qq.ex (hs:qq C μ h S env a w) (b:K6 h h1):∃μ',qq C μ' h1 S env a w:=by
 obtain⟨μ',hf,hc⟩:=O3 hs.core b;exact⟨μ',hs.turn hf hc⟩
theorem qq.ab (hs:qq C μ h S env a w) {id i j sub:Nat} {h1:(Nat->Prop)->List al} (ha:∀F,Ht h id i j sub F (h1 F)):∃F,qq C μ (h1 F) S env a w:=by
 obtain⟨hf,hc⟩:=O4 hs.core (ha (FAb μ h sub));exact⟨_,hs.turn hf hc⟩
end
section
variable {P:Program}{T:rO}{μ:Mu}{h η:List al}{k:List Nat}{S:Nat->Prop}{w:World}{C:Start}{env:Env}{a:Act}
theorem qq.agree (hs:qq C μ h S env a w) {w':World} (ha:cc w w'):qq C μ h S env a w':=
 ⟨⟨hs.core.heap.agree ha hs.core.ok,hs.core.ok.agree ha⟩,hs.fr.trans (Fr.Ap ha),λt=>(hs.tmps t).fr (Fr.Ap ha) hs.core.ok,hs.size,hs.far,hs.defers⟩
theorem EG {pv:PV} {v:Value} {w w':World} {μ μ':Mu} {h h':List al} {S S':Nat->Prop} (hs:Ao pv=true) (hv:bz μ h S w pv v):bz μ' h' S' w' pv v/\∀a:Value,bz μ' h' S' w' pv a->a=v:=by
 cases pv with
 | int k n=>obtain rfl:=hv.lZ;exact⟨aR.int _ _,λa h'=>h'.lZ⟩
 | bool b=>obtain rfl:=hv.nQ;exact⟨aR.bool _,λa h'=>h'.nQ⟩
 | str s=>obtain rfl:=hv.oI;exact⟨aR.str _,λa h'=>h'.oI⟩
 | az=>obtain rfl:=hv.rP;exact⟨aR.az,λa h'=>h'.rP⟩
 | _=>cases hs
def Hc:PV->Value
 | .int k n=>.int k n
 | .bool b=>.bool b
 | .str s=>.string ⟨⟨s⟩⟩
 | .az=>.slice none 0 0
 | _=>undef
theorem tK {pv:PV} {w:World} {μ:Mu} {h:List al} {S:Nat->Prop} (hs:Ao pv=true):bz μ h S w pv (Hc pv):=by
 cases pv with
 | int k n=>exact aR.int _ _
 | bool b=>exact aR.bool _
 | str s=>exact aR.str _
 | az=>exact aR.az
 | _=>cases hs
theorem N0 {P:Program} {K:Env->Prop} (all:List Oper) (o:Oper) (rest:List Oper) (env:Env) (h:List al) {j:Nat} {want:Bool} (hg:o.guard=some (j,want)):
  za P T all h K (o::rest) env=(match(all[j]?).bind (·.dst)with
     | some t=>match env t with
      | .bool b=>ef b
        (match(generalizing:=false) want with
         | true=>qop P T o.op (sB env t (.bool true)) h (λv=>za P T all h K rest (eg (sB env t (.bool true)) o.dst v))
         | false=>za P T all h K rest (eg (sB env t (.bool true)) o.dst (.eG [])))
        (match(generalizing:=false) want with
         | true=>za P T all h K rest (eg (sB env t (.bool false)) o.dst (.eG []))
         | false=>qop P T o.op (sB env t (.bool false)) h (λv=>za P T all h K rest (eg (sB env t (.bool false)) o.dst v)))
      | .eG []=>za P T all h K rest (eg env o.dst (.eG []))
      | _=>False
     | none=>False):=by
 obtain⟨dst,op,ty,pos,after,guard⟩:=o;have hg:guard=some (j,want):=hg;rw[hg];rfl
theorem vd (y:da P T) (ops:Array Oper) {K:Env->Prop} {Q:Act->Prop} (h:List al) (w:World) (μ:Mu) (S:Nat->Prop) (z:∀env a,K env->qq C μ h S env a w->Q a):
  ∀(l:List Oper) (env:Env) (a:Act),za P T ops.toList h K l env->(∀o∈l,rX C.nt o=true)->qq C μ h S env a w->wpQuiet P ops (cc w) Q l a
 | [],env,a,hp,_,hs=>z env a hp hs
 | o::rest,env,a,hp,hd,hs=>by
  have A:∀t,o.dst=some t->t<C.nt:=λt B=>by
   have:=hd o alW;unfold rX at this;rw[B]at this;simpa using this
  have n:∀o∈rest,rX C.nt o=true:=λo N=>hd o (by simp [N])
  have run:∀env',qq C μ h S env' a w->qop P T o.op env' h (λv=>za P T ops.toList h K rest (eg env' o.dst v))->o.quiet P a (cc w) (wpQuiet P ops (cc w) Q rest):=λenv' d g=>by
   obtain⟨dst,op,ty,pos,after,guard⟩:=o
   have still:ck T op env' h (λv=>za P T ops.toList h K rest (eg env' dst v))->Oper.quiet P ⟨dst,op,ty,pos,after,guard⟩ a (cc w) (wpQuiet P ops (cc w) Q rest):=λg=>by
    obtain⟨v,val,r,hv,O⟩:=pz (P:=P) (env:=env') y d.core.heap d.tmps (dst:=dst) (ty:=ty) (pos:=pos) (after:=after) (guard:=guard) g;refine⟨val,λw' i=>?_,vd y ops h w μ S z rest _ _ r n (d.put Fr.refl d.core hv A)⟩;unfold Oper.quietAt;rw[O w' i];exact⟨rfl,rfl⟩
   cases op with
   | call c=>
    obtain⟨D,args,R⟩:=c;cases D with
    | value E=>
     have I:=bM d.tmps E;change T6 P (ev env' E) (args.toList.map (ev env')) h _ at g
     unfold T6 at g;split at g
     ·rename_i f F;rw[F]at I;replace g:=bw g;obtain⟨Ya,fD,v,U,G,⟨⟨fn,c,V,W,X⟩,hA⟩,r⟩:=g;obtain⟨s,r⟩:=bw r;refine⟨Hc v,λw' i=>?_,vd y ops h w μ S z rest _ _ r n (d.put Fr.refl d.core (tK s) A)⟩;have q:=d.agree i;obtain⟨hl,H⟩:=vn.get _ _ U;have J:=(xy (k:=[]) (η:=[]) (m:=0) q.core trivial rfl).1
      have Y:=hA w' (args.map a.eval) (ns μ h []) (Hb μ h [] S) J.heap J.ok (by simpa using hl.symm) (λj pv' hj=>by
       have L:j<args.toList.length:=by have:=(Is.1 hj).1;simpa[hl]using this
       have Z:(args.toList.map (ev env'))[j]? =some (ev env' args.toList[j]):=by rw[ahT,abF L];rfl
       refine⟨a.eval args.toList[j],by rw[ajq];have:=abF L;simp only[ahV]at this;rw[this];rfl,?_⟩;have hv:=(uf (k:=[]) (η:=[]) (m:=0) q.core trivial (H j _ pv' Z hj)).2.2 _ (bM q.tmps args.toList[j]);have pW:=(ahC.1 G) pv' (ahJ hj);cases pv' with
       | eG ps=>cases pW
       | _=>exact hv)
      have mS:(execOp a.eval ⟨dst,.call ⟨.value E,args,R⟩,ty,pos,after,guard⟩).run P w'=.ok (.enter f (args.map a.eval)) w':=by
       simp only[execOp,resolve,I.S5,Deferred.ofValue,invoke,callFunc,Sem.run_bind,Sem.run_pure,Result.andThen_ok,Array.append_empty,ajr];have Ew:¬fn.name= "runtime.NumGoroutine" :=by simpa using X
       simp [program,Sem.run,Result.andThen,V,Ew,W]
      unfold Oper.quietAt;rw[mS];refine⟨rfl,Y.mono λe M ⟨u,res,h',μ',S',he,hR,hv,hH,hM,x⟩=>?_⟩;subst hR;have hu:=(EG (w':=w) (μ':=μ) (h':=h) (S':=S) s (tK (w:=M) (μ:=μ') (h:=h') (S:=S') s)).1;have JE:=(EG (w':=M) (μ':=μ') (h':=h') (S':=S') s (tK (w:=w) (μ:=μ) (h:=h) (S:=S) s)).2 u hv;refine⟨by rw[he,JE],i.trans ⟨λb hb=>x.blocks b hb kC,x.size,x.os,x.tape,x.output⟩⟩
     ·exact g.elim
    | _=>exact still g
   | _=>exact still g
  have skip:∀env',qq C μ h S env' a w->za P T ops.toList h K rest (eg env' o.dst (.eG []))->wpQuiet P ops (cc w) Q rest (a.put o.dst undef):=λenv' d g=>
   vd y ops h w μ S z rest _ _ g n (d.put Fr.refl d.core yW A)
  unfold wpQuiet;cases hg:o.guard with
  | none=>
   have hp:qop P T o.op env h (λv=>za P T ops.toList h K rest (eg env o.dst v)):=by
    exact akw
   rw[As (by simp [Region.wanted,hg])];exact run env hs hp
  | some p=>
   obtain⟨j,want⟩:=p;rw[N0 ops.toList o rest env h hg]at hp;split at hp
   ·rename_i t hj;split at hp
    ·rename_i b he;have hy:=yV hs hj he;obtain⟨B,hf⟩:=lD hp;have d:=hs.EB he;cases b with
     | true=>
      have hp:=B rfl;cases want with
      | true=>rw[As amb];exact run _ d hp
      | false=>rw[An amb];exact skip _ d hp
     | false=>
      have hp:=hf rfl;cases want with
      | true=>rw[An amb];exact skip _ d hp
      | false=>rw[As amb];exact run _ d hp
    ·rename_i he;rw[An amp];exact skip _ hs hp
    ·exact alc
   ·exact alc
theorem Bt:∀(σ:List (Nat×PV)) (t:Nat),zi h η k env σ->(∃v,Fz h η k (env t) v/\CH qY σ t=v)\/CH qY σ t=.jw
 | [],t,_=>.inr rfl
 | (b,v)::r,t,hh=>by
  obtain⟨h1,h2⟩:=hh;by_cases a:t=b
  ·subst a;exact .inl ⟨v,h1,by simp [CH,EA]⟩
  ·simp only[CH];rw[I5 _ _ a];exact Bt r t h2
theorem Hd (hs:qq C μ h S env a w) {σ:List (Nat×PV)} (c:Ai C.h.length env h σ η):∃μ' S',qq C μ' η S' (CH qY σ) a w:=by
 obtain⟨k,b,hm,he,hh⟩:=c;obtain⟨d,_,_⟩:=xy hs.core hh b;refine⟨ns μ h k,Hb μ h k S,d,SJ hs.core hs.fr hh b hm,λt=>?_,hs.size,λt e=>?_,hs.defers⟩
 ·rcases Bt σ t he with⟨v,h1,h2⟩ | h1
  ·rw[h2];exact(uf hs.core hh h1).2.2 _ (hs.tmps t)
  ·rw[h1];trivial
 ·rcases Bt σ t he with⟨v,h1,h2⟩ | h1
  ·rw[hs.far t e]at h1;rw[h2];cases h1;rfl
  ·exact h1
theorem EC.mono {Q b:XQ} {e:Exit} {w:World} (hq:∀env h,Q e env h->b e env h) (hl:EC C Q e a w):EC C b e a w:=by
 obtain⟨μ,h,S,env,hs,c⟩:=hl;exact⟨μ,h,S,env,hs,hq env h c⟩
theorem tm:∀(l:List Nat) (x:Nat),qG l x=true->x∈l
 | [],_,h=>by cases h
 | a::r,x,h=>by
  unfold qG at h;split at h
  ·rename_i b;have:=ahz b;simp [this]
  ·exact ahZ _ (tm r x h)
theorem ve (k:da P T) (ops:Array Oper) {K:Env->List al->Prop} {Q:Exit->Act->World->Prop} {next:Act->World->Prop} (f:∀env h a w μ S,K env h->qq C μ h S env a w->next a w) (i:Nat) (o:Oper) (l:ops[i]? =some o)
  (hd:rX C.nt o=true) (env:Env) (h:List al) (a:Act) (w:World) (μ:Mu) (S:Nat->Prop) (hp:xj P T ops.toList K [o] env h) (hs:qq C μ h S env a w):wpOp P ops Q i next a w:=by
 have g:∀t,o.dst=some t->t<C.nt:=λt d=>by
  unfold rX at hd;rw[d]at hd;simpa using hd
 have run:∀env',qq C μ h S env' a w->pop P T o.op env' h (λv h'=>K (eg env' o.dst v) h')->o.wp P a w next Q:=λenv' c e=>by
  obtain⟨dst,op,ty,pos,after,guard⟩:=o;refine G9 (env:=env') k c.core c.tmps e _ _ λv val h' μ' S' w' m hv hc hf=>?_;exact f _ h' _ w' μ' S' m (c.put hf hc hv g)
 have skip:∀env',qq C μ h S env' a w->K (eg env' o.dst (.eG [])) h->next (a.put o.dst undef) w:=λenv' c e=>
  f _ h _ w μ S e (c.put Fr.refl c.core yW g)
 unfold wpOp;simp only[l];cases hg:o.guard with
 | none=>
  have hp:pop P T o.op env h (λv h'=>K (eg env o.dst v) h'):=by
   exact akw
  rw[As (by simp [Region.wanted,hg])];exact .inl (run env hs hp)
 | some p=>
  obtain⟨j,want⟩:=p;rw[yX ops.toList o [] env h hg]at hp;split at hp
  ·rename_i t hj;split at hp
   ·rename_i b he;have hy:=yV hs hj he;obtain⟨d,hf⟩:=lD hp;have c:=hs.EB he;cases b with
    | true=>
     have hp:=d rfl;cases want with
     | true=>rw[As amb];exact .inl (run _ c hp)
     | false=>rw[An amb];exact skip _ c hp
    | false=>
     have hp:=hf rfl;cases want with
     | true=>rw[An amb];exact skip _ c hp
     | false=>rw[As amb];exact .inl (run _ c hp)
   ·rename_i he;rw[An amp];exact skip _ hs hp
   ·exact alc
  ·exact alc
theorem T7 {op:Op} {env:Env} {h:List al} {G:PV->List al->Prop} (hs:ck T op env h (λv=>G v h)):pop P T op env h G:=by
 cases op with
 | store t a x=>exact hs.elim
 | box t x=>exact hs.elim
 | alloc t=>exact hs.elim
 | makeSlice t l c=>exact hs.elim
 | buildSlice t len parts=>exact hs.elim
 | convert s d x=>
  simp only[pop];split
  ·rename_i e e2 f;simp only[ck,e,e2,f]at hs
  ·exact hs
 | binOp g t x y ty=>
  simp only[pop];split
  ·rename_i e e2 f;simp only[ck,PU,e,e2,f]at hs
  ·exact hs
 | makeMap t r=>exact hs.elim
 | mapUpdate t m k x=>exact hs.elim
 | call c=>
  obtain⟨callee,args,i⟩:=c;cases callee with
  | value j=>exact hs.elim
  | builtin b=>cases b with
   | append=>exact hs.elim
   | copy=>exact hs.elim
   | _=>(simp only[pop];exact hs)
  | _=>(simp only[pop];exact hs)
 | _=>(simp only[pop];exact hs)
theorem EH {st:Bool} {op:Op} {env:Env} {h:List al} {G:PV->List al->Prop} (hs:Gg P T st op env h G):pop P T op env h G:=by
 cases st with
 | true=>exact T7 hs
 | false=>exact hs
theorem CY {all:List Oper} {st:Bool} {o:Oper} {K:Env->List al->Prop} {env:Env} {h:List al} (hp:fs P T all st o (λv h'=>K (eg env o.dst v) h') env h):xj P T all K [o] env h:=by
 unfold fs at hp;cases hg:o.guard with
 | none=>
  rw[hg]at hp;obtain⟨dst,op,ty,pos,after,guard⟩:=o;have hg:guard=none:=hg;subst hg;exact EH hp
 | some q=>
  obtain⟨j,want⟩:=q;rw[hg]at hp;rw[yX all o [] env h hg];simp only at hp ⊢;generalize(all[j]?).bind (·.dst)=d at hp ⊢;cases d with
  | none=>exact hp.elim
  | some t=>
   simp only at hp ⊢;generalize hv:env t=v at hp ⊢;cases v with
   | bool b=>
    simp only at hp ⊢;cases b with
    | true=>
     refine .mk (λ_=>?_) (λhc=>by cases hc);rw[CZ hv];cases want with
     | true=>exact EH hp
     | false=>exact hp
    | false=>
     refine .mk (λhc=>by cases hc) (λ_=>?_);rw[CZ hv];cases want with
     | true=>exact hp
     | false=>exact EH hp
   | eG l=>cases l with
    | nil=>exact hp
    | cons a r=>exact hp.elim
   | _=>exact hp.elim
inductive L1 (all:List Oper):Nat->Nat->Prop
 | base {x i:Nat} (h:x∈c7 all i):L1 all x i
 | step {x d i:Nat} (h:d∈c7 all i) (hx:L1 all x d):L1 all x i
theorem I6:∀(l acc:List Nat) (x:Nat),x∈ddL l acc->x∈l\/x∈acc
 | [],acc,x,h=>.inr h
 | a::r,acc,x,h=>by
  unfold ddL at h;cases hi:qG acc a with
  | true=>rw[hi]at h;exact(I6 r acc x h).imp (ahZ _) id
  | false=>
   rw[hi]at h;rcases I6 r (a::acc) x h with h | h
   ·exact .inl (ahZ _ h)
   ·simp only[ahM]at h;rcases h with rfl | h
    ·exact .inl alW
    ·exact .inr h
theorem Ay:∀(l:List Nat) (x:Nat),x∈l->qG l x=true
 | a::r,x,h=>by
  unfold qG;cases b:Nat.beq a x with
  | true=>rfl
  | false=>
   simp only[ahM]at h;rcases h with rfl | h
   ·rw[aiX]at b;cases b
   ·exact Ay r x h
theorem Bu {all:List Oper}:∀(ord:List (Nat×Bool)) (t:List (Nat×List Nat)),(∀i x,qG (fE t i) x=true->L1 all x i)->∀i x,qG (fE (I7 all ord t) i) x=true->L1 all x i
 | [],t,hg=>hg
 | (j,b)::r,t,hg=>Bu r _ (λi x a=>by
  unfold fE at a;cases c:Nat.beq j i with
  | false=>rw[c]at a;exact hg i x a
  | true=>
   rw[c]at a;have:=ahz c;subst this;rcases I6 _ _ _ (tm _ _ a)with hm | hm
   ·rw[ahL,List.mem_flatMap]at hm;rcases hm with hm | ⟨d,hd,hm⟩
    ·exact .base hm
    ·exact .step hd (hg d x (Ay _ _ hm))
   ·simp at hm)
theorem lI {ops:Array Oper} {t:List (Nat×List Nat)} {p:Nat×Bool}:∀(c d:List (Nat×Bool)),cn ops t (c++p::d)=true->(∀o,o∈c->jx ops t o p=true)/\cn ops t (c++d)=true
 | [],d,h=>by
  simp only[aiC,cn,No]at h;exact⟨λo b=>by simp at b,h.2⟩
 | a::c,d,h=>by
  simp only[aiV,cn,No,ahC]at h ⊢;obtain⟨h1,h2⟩:=lI c d h.2;refine⟨λo b=>?_,λq hq=>h.1 q (by simp only[ahL,ahM]at hq ⊢;exact hq.imp id .inr),h2⟩;simp only[ahM]at b;rcases b with rfl | b
  ·exact h.1 p alW
  ·exact h1 o b
theorem vg {ops:Array Oper} {i:Nat} {o:Oper} (c:ops[i]? =some o) {d:Nat}:d∈c7 ops.toList i↔∃e,e∈o.after/\Region.binds .any e=true/\e.on=d:=by
 unfold c7;have:ops.toList[i]? =some o:=by simpa using c
 rw[this];unfold T8;rw[List.mem_filterMap];constructor
 ·rintro⟨e,he,a⟩;cases b:Region.binds .any e with
  | true=>rw[b]at a;exact⟨e,by simpa using he,b,by simpa using a⟩
  | false=>rw[b]at a;cases a
 ·rintro⟨e,he,b,a⟩;exact⟨e,by simpa using he,by rw[b];simp [a]⟩
theorem I8 (hT:da P T) (ops:Array Oper) {t:List (Nat×List Nat)} (oO:∀i x,qG (fE t i) x=true->L1 ops.toList x i) (B:∀i,i<ops.size->∀d,d∈c7 ops.toList i->d<ops.size/\d≠i)
  {K:Env->List al->Prop} {Q:Exit->Act->World->Prop} (hK:∀env h a w μ S,K env h->qq C μ h S env a w->Q .normal a w) (hd:∀o∈ops.toList,rX C.nt o=true):
  ∀(n:Nat) (l:List (Nat×Bool)) (s:List (Nat×List Nat)) (listed:Array Bool) (env:Env) (h:List al) (a:Act) (w:World) (μ:Mu) (S:Nat->Prop),l.length=n->cn ops t l=true->(∀p,p∈l->p.1<ops.size)->listed.size=ops.size->
   (∀j,j<ops.size->(listed.getD j true=false↔j∈l.map (·.1)))->(∀j,j<ops.size->j∉l.map (·.1)->∀d,d∈c7 ops.toList j->d∉l.map (·.1))->N1 P T ops.toList t K l s env h->qq C μ h S env a w->wpAny P .any ops Q n listed a w
 | 0,l,s,listed,env,h,a,w,μ,S,hn,_,_,J,u,_,hf,hs=>by
  obtain rfl:l=[]:=List.length_eq_zero_iff.1 hn;refine⟨?_,hK env h a w μ S hf hs⟩;cases hr:Region.ready .any ops listed with
  | nil=>rfl
  | cons j r=>
   have hj:j∈Region.ready .any ops listed:=by rw[hr];simp
   rw[mem_ready]at hj;obtain⟨h1,o,L,_⟩:=hj;have:=(u j (ahB.1 L).1).1 h1;simp at this
 | n+1,l,s,listed,env,h,a,w,μ,S,hn,m,bO,J,u,QY,hf,hs=>by
  have D:∀d,d<ops.size->(listed.getD d false=true↔d∉l.map (·.1)):=λd Yb=>by
   have:=u d Yb;have e:listed.getD d false=listed.getD d true:=by simp [Array.getD,J,Yb]
   rw[e,<-this];cases listed.getD d true<;>simp
  refine⟨λh0=>?_,λi hi=>?_⟩
  ·exfalso;cases l with
   | nil=>simp at hn
   | cons p r=>
    have hp:=bO p alW;have L:=ahX hp
    have:p.1∈Region.ready .any ops listed:=by
     rw[mem_ready];refine⟨(u p.1 hp).2 alW,_,L,λe he E=>?_⟩;have hm:e.on∈c7 ops.toList p.1:=(vg L).2 ⟨e,he,E,rfl⟩;obtain⟨d1,d2⟩:=B p.1 hp _ hm;rw[D _ d1];intro hc;simp only[ahE,ahM,aif]at hc;rcases hc with hc | ⟨q,hq,hc⟩
     ·exact d2 hc
     ·simp only[cn,No,ahC]at m;have:=m.1 q hq;unfold jx at this;simp only[No,aid]at this;rw[hc,Ay _ _ hm]at this;exact absurd this.1.2 alW
    rw[h0]at this;simp at this
  ·rw[mem_ready]at hi;obtain⟨h1,M,N,T9⟩:=hi;have R:=(ahB.1 N).1
   have U:∀d,d∈c7 ops.toList i->d∉l.map (·.1):=λd y=>by
    obtain⟨e,he,E,rfl⟩:=(vg N).1 y;exact(D _ (B i R _ y).1).1 (T9 e he E)
   have Jb:∀x,L1 ops.toList x i->x∉l.map (·.1):=by
    have gen:∀x j,L1 ops.toList x j->j<ops.size->(∀d,d∈c7 ops.toList j->d∉l.map (·.1))->x∉l.map (·.1):=λx j ha=>by
     induction ha with
     | base hx=>exactλ_ hj=>hj _ hx
     | step y _ V=>exactλhj W=>V (B _ hj _ y).1 (QY _ (B _ hj _ y).1 (W _ y))
    exactλx ha=>gen x i ha R U
   obtain⟨p,hp,F⟩:=aif.1 ((u i R).1 h1);obtain⟨g,k,rfl⟩:=List.append_of_mem hp;obtain⟨c,st⟩:=p;simp only at F;subst F;obtain⟨G,X⟩:=lI g k m;have N3:ops.toList[c]? =some M:=by simpa using N
   have Y:=Lt (P:=P) (T:=T) (ops:=ops) (t:=t) (K:=K) N3 g k s env h (λq hq=>by
    have f:=G q hq;unfold jx at f;simp only[No,aiD,aid]at f;have H:q.1∈(g++(c,st)::k).map (·.1):=aif.2 ⟨q,by simp [hq],rfl⟩
    have I:qG (fE t c) q.1=false:=by
     cases E:qG (fE t c) q.1 with
     | false=>rfl
     | true=>exact absurd H (Jb _ (oO _ _ E))
    rcases f.2 with xU | ⟨Z,z⟩
    ·exact absurd H (U _ (tm _ _ xU))
    ·refine⟨?_,I,Z⟩;rcases z with z | z
     ·exact z
     ·rw[I]at z;cases z) hf
   have pW:∀q,q∈g++k->q.1≠c:=λq hq=>by
    rw[ahL]at hq;rcases hq with hq | hq
    ·have f:=G q hq;unfold jx at f;simp only[No,aid]at f;intro he;have this:Nat.beq q.1 c=false:=f.1.1;rw[he,aiX]at this;cases this
    ·have:∀(g:List (Nat×Bool)),cn ops t (g++(c,st)::k)=true->jx ops t (c,st) q=true:=λg=>by
      induction g with
      | nil=>intro hh;simp only[aiC,cn,No,ahC]at hh;exact hh.1 q hq
      | cons b r V=>intro hh;simp only[aiV,cn,No]at hh;exact V hh.2
     have f:=this g m;unfold jx at f;simp only[No,aid]at f;intro he;have:=f.1.1;rw[he]at this;rw[aiX]at this;cases this
   have O:∀j,j∈(g++(c,st)::k).map (·.1)↔j=c\/j∈(g++k).map (·.1):=λj=>by
    simp only[aiS,ahE,ahL,ahM];constructor
    ·rintro(h | h | h)
     ·exact .inr (.inl h)
     ·exact .inl h
     ·exact .inr (.inr h)
    ·rintro(h | h | h)
     ·exact .inr (.inl h)
     ·exact .inl h
     ·exact .inr (.inr h)
   have WO:c∉(g++k).map (·.1):=λhm=>by
    obtain⟨q,hq,he⟩:=aif.1 hm;exact pW q hq he
   have EI:xj P T ops.toList (λenv' h'=>N1 P T ops.toList t K (g++k) s env' h') [M] env h:=CY (jl (λv h' f=>f.2.2) Y);refine ve hT ops (λenv' h' a' w' μ' S' f nd=>I8 hT ops oO B hK hd n (g++k) s _ env' h' a' w' μ' S' (by simp at hn ⊢;omega) X (λq hq=>bO q (by rw[ahL]at hq ⊢;exact hq.imp id (ahZ _))) (by simpa using J) (λj hj=>?_) (λj hj aa dd OZ=>?_) f nd) c M N (hd M (by have:=(Is.1 N3);obtain⟨h1,h2⟩:=this;rw[<-h2];exact ahD h1)) env h a w μ S EI hs
   ·by_cases A:j=c
    ·subst A;constructor
     ·intro hc;have:(listed.setIfInBounds j true).getD j true=true:=by simp [Array.getD,J,hj]
      rw[this]at hc;cases hc
     ·intro hc;exact absurd hc WO
    ·have e:(listed.setIfInBounds c true).getD j true=listed.getD j true:=getD_set_ne true (aiI A);rw[e,u j hj,O j];constructor
     ·rintro(h | h)
      ·exact absurd h A
      ·exact h
     ·exact .inr
   ·by_cases A:j=c
    ·subst A;exactλhm=>U dd OZ ((O dd).2 (.inr hm))
    ·exactλhm=>QY j hj (λhc=>by rcases(O j).1 hc with hc | hc;exact A hc;exact aa hc) dd OZ ((O dd).2 (.inr hm))
theorem EJ {ops:Array Oper} {listed:Array Bool} {i:Nat} {L L':List Nat} (b:∀j,j∈L↔j=i\/j∈L') (g:i∉L') (k:listed.size=ops.size) (l:∀j,j<ops.size->(listed.getD j true=false↔j∈L))
  (m:∀j,j<ops.size->j∉L->∀d,d∈c7 ops.toList j->d∉L) (n:∀d,d∈c7 ops.toList i->d∉L):
  (∀j,j<ops.size->((listed.setIfInBounds i true).getD j true=false↔j∈L'))/\∀j,j<ops.size->j∉L'->∀d,d∈c7 ops.toList j->d∉L':=by
 refine⟨λj hj=>?_,λj hj c d f hm=>?_⟩
 ·by_cases a:j=i
  ·subst a;constructor
   ·intro hc;have:(listed.setIfInBounds j true).getD j true=true:=by simp [Array.getD,k,hj]
    rw[this]at hc;cases hc
   ·intro hc;exact absurd hc g
  ·have e:(listed.setIfInBounds i true).getD j true=listed.getD j true:=getD_set_ne true (aiI a);rw[e,l j hj,b j];exact⟨λh=>h.resolve_left a,.inr⟩
 ·by_cases a:j=i
  ·subst a;exact n d f ((b d).2 (.inr hm))
  ·exact m j hj (λhc=>by rcases(b j).1 hc with hc | hc;exact a hc;exact c hc) d f ((b d).2 (.inr hm))
theorem xF {ops:Array Oper} {t:List (Nat×List Nat)} {p q:Nat×Bool} (h:jx ops t p q=true):p.1≠q.1:=by
 unfold jx at h;simp only[No,aid]at h;intro he;have:=h.1.1;rw[he,aiX]at this;cases this
theorem N4 {ops:Array Oper} {t:List (Nat×List Nat)} {p q:Nat×Bool} (h:jx ops t p q=true):q.1∉c7 ops.toList p.1:=by
 unfold jx at h;simp only[No,aid]at h;intro hm;have:=h.1.2;rw[Ay _ _ hm]at this;cases this
theorem rY {ops:Array Oper} {t:List (Nat×List Nat)} {p q:Nat×Bool}:∀(b a:List (Nat×Bool)),cn ops t (b++p::a)=true->q∈a->jx ops t p q=true
 | [],a,h,hq=>by simp only[aiC,cn,No,ahC]at h;exact h.1 q hq
 | _::b,a,h,hq=>by simp only[aiV,cn,No]at h;exact rY b a h.2 hq
theorem EK {ops:Array Oper} {t:List (Nat×List Nat)} (g:∀i x,qG (fE t i) x=true->L1 ops.toList x i) {L:List Nat} {q:Nat×Bool} {i:Nat} {st:Bool} (e:jx ops t q (i,st)=true) (b:q.1∈L) (h:∀d,d∈c7 ops.toList i->d∉L) (j:∀x,L1 ops.toList x i->x∉L):
  q.2=true/\qG (fE t i) q.1=false/\xG ops q.1 i=true:=by
 unfold jx at e;simp only[No,aiD,aid]at e
 have c:qG (fE t i) q.1=false:=by
  cases k:qG (fE t i) q.1 with
  | false=>rfl
  | true=>exact absurd b (j _ (g _ _ k))
 rcases e.2 with l | ⟨f,a⟩
 ·exact absurd b (h _ (tm _ _ l))
 ·refine⟨?_,c,f⟩;rcases a with a | a
  ·exact a
  ·rw[c]at a;cases a
def Left (ops:Array Oper) (l:List (Nat×Bool)) (R:List Nat) (listed:Array Bool):Prop:=
 listed.size=ops.size/\(∀j,j<ops.size->(listed.getD j true=false↔j∈l.map (·.1)++R))/\∀j,j<ops.size->j∉l.map (·.1)++R->∀d,d∈c7 ops.toList j->d∉l.map (·.1)++R
def Snd (P:Program) (T:rO) (C:Start) (ops:Array Oper) (t:List (Nat×List Nat)) (Q:Exit->Act->World->Prop) (E:List (Nat×List Nat)->Env->List al->Prop) (R:List Nat) (c:List (Nat×Bool)->Prop):Prop:=
 ∀(l:List (Nat×Bool)) (b:List (Nat×List Nat)) (listed:Array Bool) (env:Env) (h:List al) (a:Act) (w:World) (μ:Mu) (S:Nat->Prop),c l->(∀p,p∈l->p.1<ops.size)->Left ops l R listed->
  nO P T ops.toList t E l b env h->qq C μ h S env a w->wpAny P .any ops Q (l.length+R.length) listed a w
theorem O5 (f:da P T) (ops:Array Oper) {t:List (Nat×List Nat)} (g:∀i x,qG (fE t i) x=true->L1 ops.toList x i) (j:∀i,i<ops.size->∀d,d∈c7 ops.toList i->d<ops.size/\d≠i)
  {K:Env->List al->Prop} {Q:Exit->Act->World->Prop} (k:∀env h a w μ S,K env h->qq C μ h S env a w->Q .normal a w) (hd:∀o∈ops.toList,rX C.nt o=true) (A:List (Nat×Bool)) (hA:∀p,p∈A->p.1<ops.size):
  Snd P T C ops t Q (λb env h=>N1 P T ops.toList t K A b env h) (A.map (·.1)) (λl=>cn ops t (l++A)=true):=by
 intro l b listed env h a w μ S hc m n hf hs;obtain⟨r,c,e⟩:=n;rw[show l.length+(A.map (·.1)).length=(l++A).length from by simp];rw[<-aiS]at c e;exact I8 f ops g j k hd _ (l++A) b listed env h a w μ S rfl hc (λp hp=>by rcases ahL.1 hp with q | q;exact m p q;exact hA p q) r c e (xk l b env h hf) hs
theorem WQ {ops:Array Oper} {t:List (Nat×List Nat)} {Q:Exit->Act->World->Prop} {E:List (Nat×List Nat)->Env->List al->Prop} {R:List Nat} {c:List (Nat×Bool)->Prop} (f:Snd P T C ops t Q E R c) (b:List (Nat×Bool)) (h1:∀p,p∈b->p.1<ops.size):
  Snd P T C ops t Q (λd env h=>nO P T ops.toList t E b d env h) (b.map (·.1)++R) (λl=>c (l++b)):=by
 intro l d listed env h a w μ S hc g i hf hs;have e:(l++b).map (·.1)++R=l.map (·.1)++(b.map (·.1)++R):=by simp
 have:=f (l++b) d listed env h a w μ S hc (λp hp=>by rcases ahL.1 hp with q | q;exact g p q;exact h1 p q) (by unfold Left;rw[e];exact i) (xl l d env h hf) hs;rw[show l.length+(b.map (·.1)++R).length=(l++b).length+R.length from by simp;omega];exact this
structure BrC (ops:Array Oper) (t:List (Nat×List Nat)) (x y:Nat) (R:List Nat) (cX cY:List (Nat×Bool)->Prop) (l:List (Nat×Bool)):Prop where
 pw:cn ops t l=true
 hd:∀p,p∈l->jx ops t p (x,false)=true/\jx ops t p (y,false)=true/\(∀d,d∈c7 ops.toList p.1->d∉R)/\p.1∉R
 x:cX l
 y:cY l
theorem aa8 (hT:da P T) (ops:Array Oper) {t:List (Nat×List Nat)} (L:∀i x,qG (fE t i) x=true->L1 ops.toList x i) (M:∀i,i<ops.size->∀d,d∈c7 ops.toList i->d<ops.size/\d≠i)
  {Q:Exit->Act->World->Prop} (hd:∀o∈ops.toList,rX C.nt o=true) {x y:Nat} {b B:List Nat} {D E:List (Nat×List Nat)->Env->List al->Prop} {cX cY:List (Nat×Bool)->Prop} (N:vG D) (O:vG E)
  (hX:Snd P T C ops t Q D b cX) (hY:Snd P T C ops t Q E B cY) (aa:∀f p g,cX (f++p::g)->cX (f++g)) (ad:∀f p g,cY (f++p::g)->cY (f++g))
  (hlen:b.length=B.length) (R:∀j,j∈x::b↔j∈y::B) (ag:x<ops.size) (ai:∀d,d∈c7 ops.toList x->d∉x::b) (an:x∉b) (aY:y∉B) (a0:∀j,j∈b->j=y\/qG (fE t j) x=true\/qG (fE t j) y=true):
  Snd P T C ops t Q (λc env h=>nO P T ops.toList t D [(x,false)] c env h/\nO P T ops.toList t E [(y,false)] c env h) (x::b) (BrC ops t x y (x::b) cX cY):=by
 have hE:vG (λc env h=>nO P T ops.toList t D [(x,false)] c env h/\nO P T ops.toList t E [(y,false)] c env h):=He (rZ N _) (rZ O _);intro l;generalize hn:l.length=n;induction n generalizing l with
 | zero=>?z
 | succ n ih=>?s
 all_goals
  intro c listed env h a w μ S hc bO hL hf hs;obtain⟨F,I,QY⟩:=hL
  have U:∀d,d<ops.size->(listed.getD d false=true↔d∉l.map (·.1)++x::b):=λd Yb=>by
   have:=I d Yb;have e:listed.getD d false=listed.getD d true:=by simp [Array.getD,F,Yb]
   rw[e,<-this];cases listed.getD d true<;>simp
  refine⟨λh0=>?_,λi hi=>?_⟩
 case z.refine_1 | s.refine_1=>
  exfalso
  have first:∃p,p<ops.size/\p∈l.map (·.1)++x::b/\∀d,d∈c7 ops.toList p->d∉l.map (·.1)++x::b:=by
   cases l with
   | nil=>exact⟨x,ag,by simp,λd V hm=>ai d V (by simpa using hm)⟩
   | cons p r=>
    have hp:=bO p alW;refine⟨p.1,hp,by simp,λd V hm=>?_⟩;rw[ahL]at hm;rcases hm with hm | hm
    ·simp only[ahE,ahM,aif]at hm;rcases hm with rfl | ⟨q,hq,rfl⟩
     ·exact(M _ hp _ V).2 rfl
     ·exact N4 (rY [] _ hc.pw hq) V
    ·exact(hc.hd p alW).2.2.1 d V hm
  obtain⟨p,hp,a1,a2⟩:=first
  have ho:=ahX hp
  have:p∈Region.ready .any ops listed:=by
   rw[mem_ready];refine⟨(I p hp).2 a1,_,ho,λe he hb=>?_⟩;have hm:e.on∈c7 ops.toList p:=(vg ho).2 ⟨e,he,hb,rfl⟩;rw[U _ (M p hp _ hm).1];exact a2 _ hm
  rw[h0]at this;simp at this
 all_goals
  rw[mem_ready]at hi;obtain⟨h1,u,J,T9⟩:=hi;have vF:=(ahB.1 J).1;have N3:ops.toList[i]? =some u:=by simpa using J
  have G:rX C.nt u=true:=hd u (by obtain⟨h1,h2⟩:=Is.1 N3;rw[<-h2];exact ahD h1)
  have H:∀d,d∈c7 ops.toList i->d∉l.map (·.1)++x::b:=λd K=>by
   obtain⟨e,he,hb,rfl⟩:=(vg J).1 K;exact(U _ (M i vF _ K).1).1 (T9 e he hb)
  have W:∀z,L1 ops.toList z i->z∉l.map (·.1)++x::b:=by
   have gen:∀z j,L1 ops.toList z j->j<ops.size->(∀d,d∈c7 ops.toList j->d∉l.map (·.1)++x::b)->z∉l.map (·.1)++x::b:=λz j ha=>by
    induction ha with
    | base hx=>exactλ_ hj=>hj _ hx
    | step K _ ih=>exactλhj a3=>ih (M _ hj _ K).1 (QY _ (M _ hj _ K).1 (a3 _ K))
   exactλz ha=>gen z i ha vF H
  have a4:y∈x::b:=(R y).2 alW;have A:=(I i vF).1 h1;rw[ahL]at A
  have split:i∈l.map (·.1)\/i=x\/i=y:=by
   rcases A with A | A
   ·exact .inl A
   ·rcases ahM.1 A with rfl | hq
    ·exact .inr (.inl rfl)
    ·rcases a0 i hq with h2 | h2 | h2
     ·exact .inr (.inr h2)
     ·exact absurd (by simp:x∈l.map (·.1)++x::b) (W _ (L _ _ h2))
     ·exact absurd (by rw[ahL];exact .inr a4) (W _ (L _ _ h2))
  have a5:∀q,q∈l->q.1∉x::b:=λq hq=>(hc.hd q hq).2.2.2;rcases split with A | rfl | rfl
 case z.refine_2.inl=>obtain rfl:=List.length_eq_zero_iff.1 hn;simp at A
 case s.refine_2.inl=>
  obtain⟨p,hp,X⟩:=aif.1 A;obtain⟨f,g,rfl⟩:=List.append_of_mem hp;obtain⟨Y,st⟩:=p;simp only at X;subst X;obtain⟨Z,a6⟩:=lI f _ hc.pw;have k:=xH hE (P:=P) (T:=T) (ops:=ops) (t:=t) N3 f g c env h (λq hq=>EK L (Z q hq) (by rw[ahL];exact .inl (aif.2 ⟨q,List.mem_append_left _ hq,rfl⟩)) H W) hf
  have WO:Y∉(f++g).map (·.1)++x::b:=λhm=>by
   rw[ahL]at hm;rcases hm with hm | hm
   ·obtain⟨q,hq,he⟩:=aif.1 hm;rcases ahL.1 hq with hq | hq
    ·exact xF (Z q hq) he
    ·exact xF (rY f _ hc.pw hq) he.symm
   ·exact a5 (Y,st) alW hm
  obtain⟨r1,r2⟩:=EJ (L':=(f++g).map (·.1)++x::b) (λj=>by
   simp only[aiS,ahE,ahL,ahM];constructor
   ·rintro((h | h | h) | h)
    ·exact .inr (.inl (.inl h))
    ·exact .inl h
    ·exact .inr (.inl (.inr h))
    ·exact .inr (.inr h)
   ·rintro(h | (h | h) | h)
    ·exact .inl (.inr (.inl h))
    ·exact .inl (.inl h)
    ·exact .inl (.inr (.inr h))
    ·exact .inr h) WO F I QY H
  have EI:xj P T ops.toList (λenv' h'=>nO P T ops.toList t (λc env h=>nO P T ops.toList t D [(x,false)] c env h/\nO P T ops.toList t E [(y,false)] c env h) (f++g) c env' h') [u] env h:=CY (jl (λv h' m=>m.2.2) k)
  have a7:BrC ops t x y (x::b) cX cY (f++g):=⟨a6,λq hq=>hc.hd q (by
   simp only[ahL,ahM]at hq ⊢;exact hq.imp id .inr),aa _ _ _ hc.x,ad _ _ _ hc.y⟩
  have q:wpOp P ops Q Y (wpAny P .any ops Q (n+(x::b).length) (listed.setIfInBounds Y true)) a w:=ve hT ops (λenv' h' a' w' μ' S' m nd=>ih (f++g) (by simp at hn ⊢;omega) c _ env' h' a' w' μ' S' a7 (λq hq=>bO q (by
   simp only[ahL,ahM]at hq ⊢;exact hq.imp id .inr)) ⟨by simpa using F,r1,r2⟩ m nd) Y u J G env h a w μ S EI hs
  rw[show n+(x::b).length=n+1+b.length from by simp;omega]at q;exact q
 case z.refine_2.inr.inl | s.refine_2.inr.inl=>
  have GP:nO P T ops.toList t D (l++[(i,false)]) c env h:=xl l c env h (Az (λ_ _ _ q=>q.1) l c env h hf);have k:=xH N (P:=P) (T:=T) (ops:=ops) (t:=t) N3 l [] c env h (λq hq=>EK L (hc.hd q hq).1 (by rw[ahL];exact .inl (aif.2 ⟨q,hq,rfl⟩)) H W) GP
  have WO:i∉l.map (·.1)++b:=λhm=>by
   rcases ahL.1 hm with hm | hm
   ·obtain⟨q,hq,he⟩:=aif.1 hm;exact xF (hc.hd q hq).1 he
   ·exact an hm
  obtain⟨r1,r2⟩:=EJ (L':=l.map (·.1)++b) (λj=>by
   simp only[ahL,ahM];constructor
   ·rintro(h | h | h)
    ·exact .inr (.inl h)
    ·exact .inl h
    ·exact .inr (.inr h)
   ·rintro(h | h | h)
    ·exact .inr (.inl h)
    ·exact .inl h
    ·exact .inr (.inr h)) WO F I QY H
  have EI:xj P T ops.toList (λenv' h'=>nO P T ops.toList t D l c env' h') [u] env h:=CY (jl (λv h' m=>by have:=m.2.2;rwa [aiL]at this) k);have q:wpOp P ops Q i (wpAny P .any ops Q (l.length+b.length) (listed.setIfInBounds i true)) a w:=ve hT ops (λenv' h' a' w' μ' S' m nd=>hX l c _ env' h' a' w' μ' S' hc.x bO ⟨by simpa using F,r1,r2⟩ m nd) i u J G env h a w μ S EI hs;rw[hn]at q;exact q
 case z.refine_2.inr.inr | s.refine_2.inr.inr=>
  have GP:nO P T ops.toList t E (l++[(i,false)]) c env h:=xl l c env h (Az (λ_ _ _ q=>q.2) l c env h hf);have k:=xH O (P:=P) (T:=T) (ops:=ops) (t:=t) N3 l [] c env h (λq hq=>EK L (hc.hd q hq).2.1 (by rw[ahL];exact .inl (aif.2 ⟨q,hq,rfl⟩)) H W) GP
  have WO:i∉l.map (·.1)++B:=λhm=>by
   rcases ahL.1 hm with hm | hm
   ·obtain⟨q,hq,he⟩:=aif.1 hm;exact xF (hc.hd q hq).2.1 he
   ·exact aY hm
  obtain⟨r1,r2⟩:=EJ (L':=l.map (·.1)++B) (λj=>by
   rw[ahL,R j,ahL];simp only[ahM];constructor
   ·rintro(h | h | h)
    ·exact .inr (.inl h)
    ·exact .inl h
    ·exact .inr (.inr h)
   ·rintro(h | h | h)
    ·exact .inr (.inl h)
    ·exact .inl h
    ·exact .inr (.inr h)) WO F I QY H
  have EI:xj P T ops.toList (λenv' h'=>nO P T ops.toList t E l c env' h') [u] env h:=CY (jl (λv h' m=>by have:=m.2.2;rwa [aiL]at this) k);have q:wpOp P ops Q i (wpAny P .any ops Q (l.length+B.length) (listed.setIfInBounds i true)) a w:=ve hT ops (λenv' h' a' w' μ' S' m nd=>hY l c _ env' h' a' w' μ' S' hc.y bO ⟨by simpa using F,r1,r2⟩ m nd) i u J G env h a w μ S EI hs;rw[hn,<-hlen]at q;exact q
theorem xm {ops:Array Oper} {t:List (Nat×List Nat)}:∀(l A:List (Nat×Bool)),cn ops t (l++A)=true->cn ops t l=true
 | [],_,_=>rfl
 | p::l,A,h=>by
  simp only[aiV,cn,No,ahC]at h ⊢;exact⟨λq hq=>h.1 q (List.mem_append_left _ hq),xm l A h.2⟩
theorem Hf {ops:Array Oper} {t:List (Nat×List Nat)} {ord:List (Nat×Bool)} {x y:Nat} {a b:List Nat} (h:Ua ops t ord x y a b=true):
  a.length=b.length/\(∀p,p∈ord->jx ops t p (x,false)=true/\jx ops t p (y,false)=true/\(∀d,d∈c7 ops.toList p.1->d∉x::a)/\p.1∉x::a)/\(∀j,j∈x::a↔j∈y::b)/\
  (∀d,d∈c7 ops.toList x->d∉x::a)/\x∉a/\y∉b/\(∀j,j∈a->j=y\/qG (fE t j) x=true\/qG (fE t j) y=true):=by
 unfold Ua at h;simp only[No]at h;obtain⟨⟨⟨⟨⟨⟨⟨h1,h2⟩,h3⟩,h4⟩,h5⟩,h6⟩,h7⟩,h8⟩:=h;rw[ahC]at h2 h3 h4 h5 h8;have no:∀(L:List Nat) (z:Nat),(!(qG L z))=true->z∉L:=λL z c hm=>by rw[Ay _ _ hm]at c;cases c
 refine⟨ahz h1,λp hp=>?_,λj=>⟨λhj=>tm _ _ (h3 j hj),λhj=>tm _ _ (h4 j hj)⟩,λd hd=>no _ _ (h5 d hd),no _ _ h6,no _ _ h7,λj hj=>?_⟩
 ·have:=h2 p hp;rw[No,No,No,ahC]at this;exact⟨this.1.1.1,this.1.1.2,λd e=>no _ _ (this.1.2 d e),no _ _ this.2⟩
 ·have:=h8 j hj;rw[aiD,aiD]at this;rcases this with(q | q) | q
  ·exact .inl (ahz q)
  ·exact .inr (.inl q)
  ·exact .inr (.inr q)
def WS (P:Program) (T:rO) (all:List Oper) (t:List (Nat×List Nat)) (K:Env->List al->Prop) (fin:List (Nat×Bool)):tn->List (Nat×List Nat)->Env->List al->Prop
 | []=>λa env h=>N1 P T all t K fin a env h
 | c::r=>λa env h=>nO P T all t (λa env h=>nO P T all t (WS P T all t K fin r) [(c.2.1,false)] a env h/\nO P T all t (λa env h=>N1 P T all t K c.2.2.2 a env h) [(c.2.2.1,false)] a env h) c.1 a env h
theorem EL {all:List Oper} {t:List (Nat×List Nat)} {K:Env->List al->Prop} {fin:List (Nat×Bool)}:∀(cs:tn),vG (WS P T all t K fin cs)
 | []=>Bv fin
 | c::r=>rZ (He (rZ (EL r) _) (rZ (Bv c.2.2.2) _)) c.1
theorem O6 {all:List Oper} {t:List (Nat×List Nat)} {K:Env->List al->Prop} {fin:List (Nat×Bool)}:∀(cs:tn) (a:List (Nat×List Nat)) (env:Env) (h:List al),fwC P T all t K fin cs a env h->WS P T all t K fin cs a env h
 | [],a,env,h,q=>uw _ _ _ _ q
 | c::r,a,env,h,q=>tq (λa env h q=>⟨tq (O6 r) _ a env h q.1,uw _ _ _ _ q.2⟩) c.1 a env h q
def cbC (ops:Array Oper) (t:List (Nat×List Nat)) (fin:List (Nat×Bool)):tn->List (Nat×Bool)->Prop
 | []=>λl=>cn ops t (l++fin)=true
 | c::r=>λl=>BrC ops t c.2.1 c.2.2.1 (c.2.1::(Gh r fin).map (·.1)) (cbC ops t fin r) (λl=>cn ops t (l++c.2.2.2)=true) (l++c.1)
theorem O7 {ops:Array Oper} {t:List (Nat×List Nat)} {fin:List (Nat×Bool)}:∀(cs:tn) (a:List (Nat×Bool)) (p:Nat×Bool) (b:List (Nat×Bool)),cbC ops t fin cs (a++p::b)->cbC ops t fin cs (a++b)
 | [],a,p,b,q=>by
  have q:cn ops t ((a++p::b)++fin)=true:=q;show cn ops t ((a++b)++fin)=true;rw[ait]at q ⊢;exact(lI a _ q).2
 | c::r,a,p,b,q=>by
  obtain⟨q1,q2,q3,q4⟩:=q;rw[ait a]at q1 q3;have q4:cn ops t ((a++p::b++c.1)++c.2.2.2)=true:=q4;rw[ait a (p::b) c.1]at q4;have e:a++b++c.1=a++(b++c.1):=ait _ _ _;show BrC ops t c.2.1 c.2.2.1 (c.2.1::(Gh r fin).map (·.1)) (cbC ops t fin r) (λl=>cn ops t (l++c.2.2.2)=true) (a++b++c.1);rw[e];refine⟨(lI a _ q1).2,λs hs=>q2 s ?_,O7 r a p (b++c.1) q3,?_⟩
  ·simp only[ahL,ahM]at hs ⊢;rcases hs with hs | hs | hs
   ·exact .inl (.inl hs)
   ·exact .inl (.inr (.inr hs))
   ·exact .inr hs
  ·have q4:cn ops t ((a++(p::b++c.1))++c.2.2.2)=true:=q4;show cn ops t ((a++(b++c.1))++c.2.2.2)=true;rw[ait]at q4 ⊢;exact(lI a _ q4).2
theorem WT {ops:Array Oper} {t:List (Nat×List Nat)} {fin:List (Nat×Bool)}:∀(cs:tn) (l:List (Nat×Bool)),cbC ops t fin cs l->cn ops t l=true
 | [],l,q=>xm _ _ q
 | c::r,l,q=>xm _ _ q.pw
theorem Ub {ops:Array Oper} {t:List (Nat×List Nat)} {fin:List (Nat×Bool)}:∀(cs:tn) (pre:List (Nat×Bool)),Qr ops t fin cs pre=true->cbC ops t fin cs pre
 | [],pre,q=>q
 | c::r,pre,q=>by
  have q:(Ua ops t (pre++c.1) c.2.1 c.2.2.1 ((Gh r fin).map (·.1)) (c.2.2.2.map (·.1))&&cn ops t ((pre++c.1)++c.2.2.2)&&Qr ops t fin r (pre++c.1))=true:=q;simp only[No]at q;obtain⟨⟨q1,q2⟩,q3⟩:=q;obtain⟨d,b,e,f,g,h,i⟩:=Hf q1;have a:=Ub r _ q3;exact⟨WT r _ a,b,a,q2⟩
theorem Uc (f:da P T) (ops:Array Oper) {t:List (Nat×List Nat)} (g:∀i x,qG (fE t i) x=true->L1 ops.toList x i) (k:∀i,i<ops.size->∀d,d∈c7 ops.toList i->d<ops.size/\d≠i)
  {K:Env->List al->Prop} {Q:Exit->Act->World->Prop} (l:∀env h a w μ S,K env h->qq C μ h S env a w->Q .normal a w) (hd:∀o∈ops.toList,rX C.nt o=true) (fin:List (Nat×Bool)):
  ∀(cs:tn) (pre:List (Nat×Bool)),Qr ops t fin cs pre=true->(∀p,p∈Gh cs fin->p.1<ops.size)->Snd P T C ops t Q (WS P T ops.toList t K fin cs) ((Gh cs fin).map (·.1)) (cbC ops t fin cs)
 | [],pre,_,b=>O5 (C:=C) f ops g k l hd fin b
 | c::r,pre,q,b=>by
  have q:(Ua ops t (pre++c.1) c.2.1 c.2.2.1 ((Gh r fin).map (·.1)) (c.2.2.2.map (·.1))&&cn ops t ((pre++c.1)++c.2.2.2)&&Qr ops t fin r (pre++c.1))=true:=q;simp only[No]at q;obtain⟨⟨q1,q2⟩,q3⟩:=q;obtain⟨v,I,n,z,A,B,D⟩:=Hf q1;have b:∀p,p∈c.1++(c.2.1,false)::Gh r fin->p.1<ops.size:=b;have s:c.2.1<ops.size:=b (c.2.1,false) alW;have u:∀p,p∈Gh r fin->p.1<ops.size:=λp hp=>b p (by simp [hp])
  have m:∀j,j∈c.2.1::(Gh r fin).map (·.1)->j<ops.size:=λj hj=>by
   rcases ahM.1 hj with rfl | hj
   ·exact s
   ·obtain⟨p,hp,rfl⟩:=aif.1 hj;exact u p hp
  have E:=Uc f ops g k l hd fin r (pre++c.1) q3 u;have F:=O5 (C:=C) f ops g k l hd c.2.2.2 (λp hp=>m p.1 ((n p.1).2 (ahZ _ (aif.2 ⟨p,hp,rfl⟩))))
  have G:=aa8 (C:=C) f ops g k hd (x:=c.2.1) (y:=c.2.2.1) (EL r) (Bv c.2.2.2) E F (O7 r) (λH p J q=>by
   rw[ait]at q ⊢;exact(lI H _ q).2) v n s z A B D
  have out:=WQ G c.1 (λp hp=>b p (by simp [hp]))
  have e:(Gh (c::r) fin).map (·.1)=c.1.map (·.1)++c.2.1::(Gh r fin).map (·.1):=by
   show(c.1++(c.2.1,false)::Gh r fin).map (·.1)=_;simp
  rw[e];exact out
theorem Qs (k:da P T) (ops:Array Oper) {cs:tn} {fin:List (Nat×Bool)} (hc:EM ops cs fin=true)
  {K:Env->List al->Prop} {Q:Exit->Act->World->Prop} (l:∀env h a w μ S,K env h->qq C μ h S env a w->Q .normal a w) (hd:∀o∈ops.toList,rX C.nt o=true) {env:Env} {h:List al} {a:Act} {w:World}
  (hf:fwC P T ops.toList (I7 ops.toList (Gh cs fin) []) K fin cs [] env h) (hs:qq C μ h S env a w):wpAny P .any ops Q ops.size (Array.replicate ops.size false) a w:=by
 unfold EM at hc;simp only[No]at hc;obtain⟨⟨⟨hlen,b⟩,c⟩,g⟩:=hc;rw[ahC]at b c;have hlen:=ahz hlen;generalize m:I7 ops.toList (Gh cs fin) []=t at*;have n:∀i x,qG (fE t i) x=true->L1 ops.toList x i:=by rw[<-m];exact Bu _ [] (λi x q=>by simp [fE,qG]at q)
 have r:∀p,p∈Gh cs fin->p.1<ops.size:=λp hp=>by
  have:=c p hp;rw[No]at this;exact ahW this.1
 have f:∀j,j<ops.size->j∈(Gh cs fin).map (·.1):=λj hj=>tm _ _ (b j (ajk.2 hj))
 have s:∀i,i<ops.size->∀d,d∈c7 ops.toList i->d<ops.size/\d≠i:=λi hi d u=>by
  obtain⟨p,hp,rfl⟩:=aif.1 (f i hi);have:=c p hp;rw[No,ahC]at this;have:=this.2 d u;rw[No]at this;exact⟨ahW this.1,λhe=>by rw[he,aiX]at this;cases this.2⟩
 have out:=Uc (C:=C) k ops n s l hd fin cs [] g r
 have:=out [] [] (Array.replicate ops.size false) env h a w μ S (Ub cs [] g) (λp hp=>by simp at hp)
  ⟨by simp,λj hj=>⟨λ_=>by simpa using f j hj,λ_=>by simp [Array.getD,hj]⟩,λj hj hn=>absurd (f j hj) (by simpa using hn)⟩
  (O6 cs [] env h hf) hs
 have e:([]:List (Nat×Bool)).length+((Gh cs fin).map (·.1)).length=ops.size:=by simpa using hlen
 rw[e]at this;exact this
theorem WU {J:List (Nat×PV)->List al->Prop} {env:Env} {h:List al} {a:Act} {w:World} (hg:Aj C.h.length J env h):∀{μ:Mu} {S:Nat->Prop},qq C μ h S env a w->∃σ η μ3 b,qq C μ3 η b (CH qY σ) a w/\J σ η:=by
 induction hg with
 | mk σ η f hj=>
  intro μ S hs;obtain⟨μ3,b,c⟩:=Hd hs f;exact⟨σ,η,μ3,b,c,hj⟩
 | ex h1 g k d=>
  intro μ S hs;obtain⟨μ1,e⟩:=hs.ex g;exact d e
 | ab id i j sub h1 ha k d=>
  intro μ S hs;obtain⟨F,e⟩:=hs.ab ha;exact d F e
theorem WV {m:Nat} {A B:XQ->Env->List al->Prop} {Q:XQ} {env:Env} {h:List al} {a:Act} {w:World} {S:Nat->Prop} (hv:xa m A B Q env h):∀{μ:Mu},qq C μ h S env a w->
  ∃μ' h',qq C μ' h' S env a w/\(A (XQ.then (B Q) Q) env h'\/∃J,A (XQ.then (Aj m J) Q) env h'/\∀σ η,J σ η->B Q (CH qY σ) η):=by
 induction hv with
 | direct hd=>exactλhs=>⟨_,_,hs,.inl hd⟩
 | cut J ha d=>exactλhs=>⟨_,_,hs,.inr ⟨J,ha,d⟩⟩
 | ex h1 e f b=>
  intro μ hs;obtain⟨μ1,c⟩:=hs.ex e;exact b c
 | ab id i j sub h1 ha f b=>
  intro μ hs;obtain⟨F,c⟩:=hs.ab ha;exact b F c
theorem oP (m:da P T) (n:P.follows .mixedOrders=true):∀(c:Code) (Q:XQ) (env:Env) (h:List al) (a:Act) (w:World) (μ:Mu) (S:Nat->Prop),
  vc P T C.h.length c Q env h->codeOk C.nt c=true->qq C μ h S env a w->c.wp P (EC C Q) a w
 | .skip,Q,env,h,a,w,μ,S,hv,_,hs=>wp_skip ⟨μ,h,S,env,hs,hv⟩
 | .label _,Q,env,h,a,w,μ,S,hv,_,hs=>wp_label ⟨μ,h,S,env,hs,hv⟩
 | .exit _,Q,env,h,a,w,μ,S,hv,_,hs=>wp_exit ⟨μ,h,S,env,hs,hv⟩
 | .ret,Q,env,h,a,w,μ,S,hv,_,hs=>wp_ret ⟨μ,h,S,env,hs,hv⟩
 | .region id ops d,Q,env,h,a,w,μ,S,hv,f,hs=>by
  simp only[codeOk,No,ahC]at f;have hd:∀o∈ops.toList,rX C.nt o=true:=f.1;cases d with
  | false=>
   refine wp_region_list (yY m ops (Q:=EC C Q) (λenv h a w μ S hq hs=>⟨μ,h,S,env,hs,hq⟩) ops.toList env h a w μ S hv hd hs)
  | true=>
   have quiet:za P T ops.toList h (λenv'=>Q .normal env' h) ops.toList env->(Code.region id ops true).wp P (EC C Q) a w:=λhv=>by
    refine wp_region_quiet (C:=cc w) n (by simpa using f.2) (cc.drew w) ?_;exact vd m ops h w μ S (λenv a hq hs w' D=>⟨μ,h,S,env,hs.agree D,hq⟩) ops.toList env a hv hd hs
   have hv:(match ops.toList.all (λo=>Hg o.op)with
    | true=>za P T ops.toList h (λenv'=>Q .normal env' h) ops.toList env
    | false=>EN P T C.h.length ops (λenv' h'=>Q .normal env' h') env h):=hv
   split at hv
   ·exact quiet hv
   ·cases hv with
    | quiet hq=>exact quiet hq
    | Nn cs fin hc hf=>
     refine wp_region_any n ?_;exact Qs (C:=C) m ops hc (K:=Yf Q) (Q:=EC C Q) (λenv h a w μ S hq hs=>⟨μ,h,S,env,hs,hq⟩) hd hf (hs.agree (cc.drew w))
    | float ord hc hf=>
     refine wp_region_any n ?_;unfold O8 at hc;simp only[No,ahC,aid]at hc;obtain⟨⟨⟨hlen,E⟩,U⟩,B⟩:=hc;have hlen:=ahz hlen;have W:∀p,p∈ord->p.1<ops.size:=λp hp=>ahW (U p hp).1
     have X:(ord.map (·.1)).Nodup:=by
      have:∀(l:List (Nat×Bool)),cn ops (I7 ops.toList ord []) l=true->(l.map (·.1)).Nodup:=λl=>by
       induction l with
       | nil=>simp
       | cons p r u=>
        intro hh;simp only[cn,No,ahC]at hh;simp only[ahE,List.nodup_cons];refine⟨λhm=>?_,u hh.2⟩;obtain⟨q,hq,he⟩:=aif.1 hm;have:=hh.1 q hq;unfold jx at this;simp only[No,aid]at this;have:=this.1.1;rw[he,aiX]at this;cases this
      exact this _ B
     have G:∀j,j<ops.size->j∈ord.map (·.1):=λj hj=>tm _ _ (E j (ajk.2 hj))
     exact I8 m ops (C:=C) (Bu ord [] (λi x H=>by simp [fE,qG]at H)) (λi hi d Y=>by
      obtain⟨p,hp,rfl⟩:=aif.1 (G i hi);have:=(U p hp).2 d Y;exact⟨ahW this.1,λhe=>by rw[he,aiX]at this;cases this.2⟩)
      (K:=λenv' h'=>Q .normal env' h') (Q:=EC C Q) (λenv h a w μ S hq hs=>⟨μ,h,S,env,hs,hq⟩) hd ops.size ord [] _ env h a _ μ S hlen B W alW (λj hj=>⟨λ_=>G j hj,λ_=>by simp [Array.getD,hj]⟩) (λj hj hn=>absurd (G j hj) hn) (uw _ _ _ _ hf) (hs.agree (cc.drew w))
 | .seq x y,Q,env,h,a,w,μ,S,hv,f,hs=>by
  simp only[codeOk,No]at f;have hv:xa C.h.length (vc P T C.h.length x) (vc P T C.h.length y) Q env h:=hv;obtain⟨μ,h,hs,hd | ⟨J,ha,v⟩⟩:=WV hv hs
  ·refine wp_seq (Code.wp_mono (λe s w' hl=>?_) (oP m n x _ env h a w μ S hd f.1 hs));cases e with
   | normal=>
    obtain⟨μ',h',S',env',A,hq⟩:=hl;exact oP m n y Q env' h' s w' μ' S' hq f.2 A
   | exit id=>exact hl
   | goto l=>exact hl
   | ret=>exact hl
   | panic I=>exact hl
   | outgrown=>exact hl
  ·refine wp_seq (Code.wp_mono (λe s w' hl=>?_) (oP m n x _ env h a w μ S ha f.1 hs));cases e with
   | normal=>
    obtain⟨μ',h',S',env',A,hg⟩:=hl;obtain⟨σ,η,μ3,Z,L,hj⟩:=WU hg A;exact oP m n y Q _ η s w' μ3 Z (v σ η hj) f.2 L
   | exit id=>exact hl
   | goto l=>exact hl
   | ret=>exact hl
   | panic I=>exact hl
   | outgrown=>exact hl
 | .cond c x y,Q,env,h,a,w,μ,S,hv,f,hs=>by
  simp only[codeOk,No]at f
  have hv:(match ev env c with
   | .bool t=>ef t (vc P T C.h.length x Q env h) (vc P T C.h.length y Q env h)
   | _=>False):=hv
  have hc:=bM hs.tmps c;split at hv
  ·rename_i b he;rw[he]at hc;obtain⟨h1,h2⟩:=lD hv;exact wp_cond_split hc.nQ (λv=>oP m n x Q env h a w μ S (h1 v) f.1 hs) (λv=>oP m n y Q env h a w μ S (h2 v) f.2 hs)
  ·exact hv.elim
 | .block id c,Q,env,h,a,w,μ,S,hv,f,hs=>by
  refine wp_block (Code.wp_mono (λe s w' hl=>?_) (oP m n c _ env h a w μ S hv f hs));cases e with
  | exit g=>
   obtain⟨μ',h',S',env',A,hq⟩:=hl;show if g=id then EC C Q .normal s w' else EC C Q (.exit g) s w'
   simp only[XQ.inBlock]at hq;by_cases hid:g=id
   ·rw[As hid];subst hid;rw[show Nat.beq g g=true by simp]at hq;exact⟨μ',h',S',env',A,hq⟩
   ·rw[An hid]
    have:Nat.beq g id=false:=by
     cases v:Nat.beq g id with
     | true=>exact(hid (ahz v)).elim
     | false=>rfl
    rw[this]at hq;exact⟨μ',h',S',env',A,hq⟩
  | normal=>exact hl
  | goto l=>exact hl
  | ret=>exact hl
  | panic I=>exact hl
  | outgrown=>exact hl
 | .loop c,Q,env,h,a,w,μ,S,hv,f,hs=>by
  intro b k cs;replace hv:tj C.h.length (λnext=>vc P T C.h.length c (XQ.then next Q)) env h:=hv
  have key:∀(a:Act) (w:World) (μ:Mu) (S:Nat->Prop),qq C μ h S env a w->∃e s w',EC C Q e s w'/\Arrives P (lone (b.at a (.code c::.inLoop c::k)) cs w) b k cs e s w':=by
   clear hs;induction hv with
   | take σ η ht V u=>
    intro a w μ S hs;obtain⟨μ0,S0,M⟩:=Hd hs ht;exact u a w μ0 S0 M
   | ex h1 H V u=>
    intro a w μ S hs;obtain⟨μ1,O⟩:=hs.ex H;exact u a w μ1 S O
   | ab id i j sub h1 ha V u=>
    intro a w μ S hs;obtain⟨F,O⟩:=hs.ab ha;exact u F a w μ S O
   | step N hN v u=>
    intro a w μ S hs;obtain⟨e,a₁,w₁,hq,z⟩:=oP m n c _ _ _ a w μ S v f hs b (.inLoop c::k) cs;cases e with
    | normal=>
     obtain⟨μ2,h2,S2,aa,R,hn⟩:=hq;obtain⟨e₂,a₂,w₂,hq₂,harr₂⟩:=u _ _ hn a₁ w₁ μ2 S2 R;exact⟨e₂,a₂,w₂,hq₂,.of_steps (Steps.trans z (.one step_inLoop)) harr₂⟩
    | exit id=>exact⟨_,a₁,w₁,hq,.pass (x:=.inLoop c) rfl (λ_ _=>.inl alW) z⟩
    | goto l=>exact⟨_,a₁,w₁,hq,.pass (x:=.inLoop c) rfl (λ_ _=>.inl alW) z⟩
    | ret=>exact⟨_,a₁,w₁,hq,.pass (x:=.inLoop c) rfl (λ_ _=>.inl alW) z⟩
    | panic I=>exact⟨_,a₁,w₁,hq,.pass (x:=.inLoop c) rfl (λ_ _=>.inl alW) z⟩
    | outgrown=>exact⟨_,a₁,w₁,hq,.pass (x:=.inLoop c) rfl (λ_ _=>.inl alW) z⟩
  obtain⟨e,s,w',hq,z⟩:=key a w μ S hs;exact⟨e,s,w',hq,.of_steps (.one step_loop) z⟩
 | .rangeFunc _ _ _ _,Q,env,h,a,w,μ,S,hv,_,_=>hv.elim
 | .scope _,Q,env,h,a,w,μ,S,hv,_,_=>hv.elim
 | .goto _,Q,env,h,a,w,μ,S,hv,_,_=>hv.elim
 | .refuse _,Q,env,h,a,w,μ,S,hv,_,_=>hv.elim
theorem Ue (m:da P T) (hH:bH μ h S w) (t:Nat) (d:PV) (v:Value) (j:bz μ h S w d v) {K:PV->Prop} (hp:zY T t d h K):∃pv val,K pv/\bz μ h S w pv val/\(do loadVar t (<-asAddr v):Sem Value).run P w=.ok val w:=by
 obtain⟨pv,val,o,hv,c⟩:=D4 (P:=P) (dst:=none) (ty:=0) (pos:= "") (after:=#[]) (guard:=none) (a:=⟨#[v],[]⟩) m hH t (.tmp 0) d (by simpa[Act.eval]using j) hp;refine⟨pv,val,o,hv,?_⟩;have:=c w (cc.refl w);have he:(execOp (Act.eval ⟨#[v],[]⟩) ⟨none,.load t (.tmp 0),0, "",#[],none⟩)=(do pure (Next.value (<-Instr.loadAt t v)):Sem Next):=rfl;rw[he]at this
 have k:∃l,v=.pointer (some l):=by
  unfold zY at hp;split at hp
  ·obtain⟨b,off,q,p,_⟩:=j.zR;exact⟨_,p⟩
  ·rename_i id gen i off;split at hp
   ·rename_i g sz n e f hg;obtain⟨rfl,_⟩:=hp;have c:=j.wS;unfold bS at c;rw[dz hg]at c;obtain⟨_,_,c⟩:=c;obtain⟨_,b,base,_,_,hv⟩:=c rfl;exact⟨_,hv⟩
   ·exact alc
  ·exact alc
 obtain⟨l,rfl⟩:=k;simp only[Instr.loadAt,Instr.sureAddr,asAddr,Sem.run_bind,Sem.run_pure,Result.andThen_ok]at this ⊢;cases hl:(loadVar t l).run P w with
 | ok u w'=>
  rw[hl]at this;simp only[Result.andThen]at this;injection this with h1 h2;injection h1 with h1;rw[h1,h2]
 | halt x w'=>rw[hl]at this;cases this
theorem tL (c:da P T) (hs:qq C μ h S env a w):∀(rs:List ResultVar) (K:List PV->Prop),xI T env h rs K->∃(vs:List PV) (us:List Value),K vs/\us.length=vs.length/\(∀(j:Nat) (pv:PV),vs[j]? =some pv->∃u,us[j]? =some u/\bz μ h S w pv u)/\
  (rs.mapM (fun | .tmp t=>pure (a.tmps.getD t undef) | .cell d t=>(do loadVar t (<-asAddr (a.tmps.getD d undef))):ResultVar->Sem Value)).run P w=.ok us w
 | [],K,hp=>⟨[],[],hp,rfl,λj pv hj=>by simp at hj,rfl⟩
 | .tmp t::r,K,hp=>by
  obtain⟨vs,us,b,h1,h2,h3⟩:=tL c hs r _ hp;refine⟨env t::vs,a.tmps.getD t undef::us,b,by simp [h1],λj pv hj=>?_,?_⟩
  ·cases j with
   | zero=>simp at hj;subst hj;exact⟨_,rfl,hs.tmps t⟩
   | succ j=>simp at hj;obtain⟨u,q1,q2⟩:=h2 j pv hj;exact⟨u,by simpa using q1,q2⟩
  ·simp only[List.mapM_cons,Sem.run_bind,Sem.run_pure,Result.andThen_ok,h3]
 | .cell d t::r,K,hp=>by
  obtain⟨pv,val,b,hv,e⟩:=Ue c hs.core.heap t _ _ (hs.tmps d) hp;obtain⟨vs,us,b,h1,h2,h3⟩:=tL c hs r _ b;refine⟨pv::vs,val::us,b,by simp [h1],λj pv' hj=>?_,?_⟩
  ·cases j with
   | zero=>simp at hj;subst hj;exact⟨_,rfl,hv⟩
   | succ j=>simp at hj;obtain⟨u,q1,q2⟩:=h2 j pv' hj;exact⟨u,by simpa using q1,q2⟩
  ·simp only[List.mapM_cons,Sem.run_bind,e,Result.andThen_ok,h3,Sem.run_pure]
end
section
variable {P:Program}{T:rO}
def valOf:List Value->Value
 | [v]=>v
 | us=>.tuple us.toArray
theorem Lv {fn:Func} {tmps:Array Value} {us:List Value} {w:World}
  (hm:(fn.results.toList.mapM (fun | .tmp t=>pure (tmps.getD t undef) | .cell b t=>(do loadVar t (<-asAddr (tmps.getD b undef))):ResultVar->Sem Value)).run P w=.ok us w):
  (results fn tmps).run P w=.ok (valOf us) w:=by
 unfold results;rw[Array.mapM_eq_mapM_toList];simp only[map_eq_pure_bind,bind_assoc,pure_bind,Sem.run_bind]
 have key:∀X:Result (List Value),X=.ok us w->(X.andThen λa w'=>Sem.run P (pure (if h:a.toArray.size=1 then a.toArray[0]else Value.tuple a.toArray)) w')=.ok (valOf us) w:=by
  rintro _ rfl;simp only[Result.andThen_ok,Sem.run_pure];congr 1
  match us with
  | []=>rfl
  | [v]=>rfl
  | v::u::r=>simp [valOf]
 exact key _ hm
theorem Uf {C:Start} {m:Nat} {R:PV->List al->Prop} {env:Env} {h:List al} {a:Act} {w:World} {S:Nat->Prop} {vs:List PV} {us:List Value} (d:Ends m R h vs):∀{μ:Mu},qq C μ h S env a w->
  (∀(j:Nat) (pv:PV),vs[j]? =some pv->∃u,us[j]? =some u/\bz μ h S w pv u)->∃μ' h',qq C μ' h' S env a w/\(∀(j:Nat) (pv:PV),vs[j]? =some pv->∃u,us[j]? =some u/\bz μ' h' S w pv u)/\
   vs.all lF=true/\∃(k:List Nat) (res:PV) (η:List al),pt (oU η k)=true/\m<=k.length/\Fz h' η k (oneOf vs) res/\kV h' η k m 0 η k/\R res η:=by
 induction d with
 | mk hn k res η b hm e hh f=>exactλhs h2=>⟨_,_,hs,h2,hn,k,res,η,b,hm,e,hh,f⟩
 | ex h1 g b c=>
  intro μ hs h2;obtain⟨μ1,hf,hc⟩:=O3 hs.core g;exact c (hs.turn hf hc) (λj pv hj=>let⟨u,q1,q2⟩:=h2 j pv hj;⟨u,q1,q2.fr hf hs.core.ok⟩)
 | ab id i j sub h1 ha b c=>
  intro μ hs h2;obtain⟨hf,hc⟩:=O4 hs.core (ha (FAb μ _ sub));exact c _ (hs.turn hf hc) (λj pv hj=>let⟨u,q1,q2⟩:=h2 j pv hj;⟨u,q1,q2.fr hf hs.core.ok⟩)
theorem ACall.adB (p:da P T) (B:P.follows .mixedOrders=true) {f:FuncId} {fn:Func} {c:Code} (hf:P.funcs[f]? =some fn) (q:fn.body=some c) (D:(fn.name== "runtime.NumGoroutine")=false)
  (args:List PV) (h:List al) (R:PV->List al->Prop) (hn:Nat.ble args.length fn.ntmps=true) (E:codeOk fn.ntmps c=true)
  (hv:vc P T h.length c (adA T fn.results.toList h.length R) (xd args) h):ACall P f args h R:=by
 refine⟨⟨fn,c,hf,q,D⟩,λw vs μ S hH hM O F=>?_⟩;have hn:=ahW hn
 let C:Start:=⟨μ,h,S,w,fn.ntmps⟩
 have hs:qq C μ h S (xd args) ⟨vs++Array.replicate (fn.ntmps - vs.size) undef,[]⟩ w:=by
  refine⟨⟨hH,hM⟩,Fr.refl,λt=>?_,by simp;show _=fn.ntmps;omega,λt G=>?_,rfl⟩
  ·unfold xd;rw[ahA];cases ha:args[t]? with
   | none=>trivial
   | some pv=>
    obtain⟨v,h1,h2⟩:=F t pv ha;have H:t<vs.size:=(ahB.1 h1).1
    have:(vs++Array.replicate (fn.ntmps - vs.size) undef).getD t undef=v:=by
     rw[Array.getD_eq_getD_getElem?,ail H,h1];rfl
    simp only[ajN];rw[this];exact bz.WK h2
  ·unfold xd;rw[ahA,ahO]
   ·rfl
   ·exact air hn G
 refine calls_of_wp hf q ?_;refine Code.wp_mono (λe s w' hl=>?_) (oP (C:=C) p B c _ _ h _ w μ S hv E hs);obtain⟨μ',h',S',env',g,hq⟩:=hl
 have fin:xI T env' h' fn.results.toList (Ends h.length R h')->s.defers=[]/\∃v,(results fn s.tmps).run P w'=.ok v w'/\
   (∃(y:Value) (res:PV) (n:List al) (μ'':Mu) (d:Nat->Prop),Ending.returned v=.returned y/\R res n/\bz μ'' n d w' res y/\bH μ'' n d w'/\sA μ'' n d w'/\Fr μ h S w μ'' n d w'):=λI=>by
  obtain⟨i,us,J,h1,h2,h3⟩:=tL p g _ _ I;refine⟨g.defers,_,Lv h3,?_⟩;obtain⟨μ',h',g,h2,K,k,res,η,z,hm,L,hh,M⟩:=Uf J g h2
  have o:bz μ' h' S' w' (oneOf i) (valOf us):=by
   have key:(∀v,i≠[v])->bz μ' h' S' w' (oneOf i) (valOf us):=λm=>by
    have N:oneOf i=.eG i:=by
     match i,m with
     | [],_=>rfl
     | [v],m=>exact(m v rfl).elim
     | a::b::r,_=>rfl
    have e2:valOf us=.tuple us.toArray:=by
     match us,h1 with
     | [],_=>rfl
     | [v],h1=>
      match i,h1,m with
      | [x],_,m=>exact(m x rfl).elim
     | a::b::r,_=>rfl
    rw[N,e2];refine⟨_,rfl,by simpa using h1,λj pv hj=>?_⟩;obtain⟨u,q1,q2⟩:=h2 j pv hj;refine⟨u,by simpa using q1,?_⟩;have hp:lF pv=true:=(ahC.1 K) pv (ahJ hj);cases pv with
    | eG ps=>cases hp
    | _=>exact q2
   match i,us,h1 with
   | [v],[u],_=>
    obtain⟨Q,q1,q2⟩:=h2 0 v rfl;simp at q1;subst q1;exact q2
   | [],us,_=>exact key (λv hv=>by cases hv)
   | a::b::r,us,_=>exact key (λv hv=>by cases hv)
  obtain⟨A,_,_⟩:=xy g.core hh z;exact⟨_,res,η,ns μ' h' k,Hb μ' h' k S',rfl,M,(uf g.core hh L).2.2 _ o,A.heap,A.ok,SJ (C:=C) g.core g.fr hh z hm⟩
 cases e with
 | ret=>exact fin hq
 | normal=>exact fin hq
 | exit id=>exact hq.elim
 | goto l=>exact hq.elim
 | panic U=>exact hq.elim
 | outgrown=>exact hq.elim
theorem ACall.mono {f:FuncId} {args:List PV} {h:List al} {R a:PV->List al->Prop} (hc:ACall P f args h R) (b:∀res h',R res h'->a res h'):ACall P f args h a:=
 ⟨hc.1,λw vs μ S hH hM c ha=>(hc.2 w vs μ S hH hM c ha).mono λe w' ⟨v,res,h',μ',S',he,d,rest⟩=>⟨v,res,h',μ',S',he,b _ _ d,rest⟩⟩
end
def pB (N:Nat):PV->PV
 | .own id gen off len=>.own (N+id) gen off len
 | .aF id gen i off=>.aF (N+id) gen i off
 | .ke id=>.ke (N+id)
 | .qE f bJ=>.qE f (uZ (N+·) bJ)
 | v=>v
def N6 (N:Nat):PV->PV
 | .agg cs=>.agg (cs.map (pB N))
 | v=>pB N v
def pA (N:Nat):PV->PV
 | .eG vs=>.eG (vs.map (N6 N))
 | v=>N6 N v
def eE (N:Nat):al->al
 | .row g sz n e f=>.row g sz n e (λi=>(f i).map (pB N))
 | .dead=>.dead
def GX:PV->Bool
 | .agg cs=>cs.all bx
 | v=>bx v
def qF:PV->Bool
 | .fF _ _ _=>false
 | .fC _=>false
 | .bu _ _ _ _ _=>false
 | _=>true
def Yh:PV->Bool
 | .agg cs=>cs.all qF
 | v=>qF v
def El:PV->Bool
 | .eG vs=>vs.all Yh
 | v=>Yh v
def Af:al->Prop
 | .row _ _ n _ f=>∀i,i<n->(f i).all qF=true
 | .dead=>True
section
variable {P:Program}{T:rO}{μ μ0:Mu}{h h0:List al}{S S0 S':Nat->Prop}{w w':World}
def kM (μ:Mu) (N:Nat) (μ0:Mu):Mu:=λid=>if id<N then μ id else μ0 (id - N)
theorem B1 {N:Nat} {a:PV} (h:kO a=true):pB N a=a:=by cases a<;>first | rfl | cases h
theorem qZ (N:Nat) (a:h.length=N) (id:Nat):(h++h0.map (eE N))[N+id]? =(h0[id]?).map (eE N):=by
 subst a;rw[ahU alV,Nat.add_sub_cancel_left,ahT]
theorem vh (N id:Nat):kM μ N μ0 (N+id)=μ0 id:=by
 unfold kM;rw[An alV,Nat.add_sub_cancel_left]
theorem dF (G:PV->Prop) (a:∀pv v,G pv->aR S0 w' pv v->aR S' w' pv v) {pv:PV} {v:Value} (hg:G pv) (hc:bK μ0 h0 S0 w' pv v):
  bK (kM μ h.length μ0) (h++h0.map (eE h.length)) S' w' (pB h.length pv) v:=by
 have d:∀(id gen i off:Nat) (v:Value),bS μ0 h0 w' id gen i off v->bS (kM μ h.length μ0) (h++h0.map (eE h.length)) w' (h.length+id) gen i off v:=λid gen i off v hc=>by
  unfold bS at hc ⊢;rw[qZ _ rfl,vh];obtain⟨h1,h2⟩:=hc;refine⟨h1,?_⟩;cases c:h0[id]? with
  | none=>rw[c]at h2;exact h2
  | some o=>
   rw[c]at h2;cases o with
   | dead=>trivial
   | row g sz n e f=>exact h2
 cases pv with
 | own id gen off len=>
  have hc:bg μ0 h0 w' id gen off len v:=hc;show bg _ _ _ (h.length+id) gen off len v;unfold bg at hc ⊢;rw[qZ _ rfl,vh];obtain⟨h1,h2⟩:=hc;refine⟨h1,?_⟩;cases c:h0[id]? with
  | none=>rw[c]at h2;exact h2
  | some o=>
   rw[c]at h2;cases o with
   | dead=>trivial
   | row g sz n e f=>exact h2
 | aF id gen i off=>exact d _ _ _ _ _ hc
 | qE f bJ=>exact vP.map (O:=λid g u=>bS (kM μ h.length μ0) (h++h0.map (eE h.length)) w' id g 0 0 u) (vP.mono (show qv μ0 h0 w' f bJ v from hc) (λid g u hu=>d id g 0 0 u hu))
 | ke id=>
  have hc:gg μ0 h0 w' id v:=hc;show gg _ _ _ (h.length+id) v;unfold gg at hc ⊢;rw[qZ _ rfl,vh];obtain⟨h1,h2⟩:=hc;refine⟨h1,?_⟩;cases c:h0[id]? with
  | none=>rw[c]at h2;exact h2
  | some o=>
   rw[c]at h2;cases o with
   | dead=>trivial
   | row g sz n e f=>exact h2
 | jw=>exact hc
 | bu sz n e f F=>exact hc
 | agg cs=>exact(show False from hc).elim
 | eG cs=>exact(show False from hc).elim
 | int k n=>exact a _ _ hg hc
 | bool b=>exact a _ _ hg hc
 | str s=>exact a _ _ hg hc
 | az=>exact a _ _ hg hc
 | iH=>exact a _ _ hg hc
 | fF sz n f=>exact a _ _ hg hc
 | fC cs=>exact a _ _ hg hc
 | fn f=>exact a _ _ hg hc
theorem dG (G:PV->Prop) (a:∀pv v,G pv->aR S0 w' pv v->aR S' w' pv v) {pv:PV} {v:Value} (hg:match pv with | .agg cs=>∀c∈cs,G c | v=>G v) (hc:jz μ0 h0 S0 w' pv v):
  jz (kM μ h.length μ0) (h++h0.map (eE h.length)) S' w' (N6 h.length pv) v:=by
 cases pv with
 | agg cs=>
  obtain⟨vs,h1,h2,h3⟩:=hc;refine⟨vs,h1,by simpa using h2,λj pv hj=>?_⟩;rw[ahT]at hj;cases d:cs[j]? with
  | none=>rw[d]at hj;cases hj
  | some c=>
   rw[d]at hj;injection hj with hj;subst hj;obtain⟨u,q1,q2⟩:=h3 j c d;exact⟨u,q1,dF G a (hg c (ahJ d)) q2⟩
 | jw=>trivial
 | bu sz n e f F=>exact dF (μ:=μ) (μ0:=μ0) (h:=h) (h0:=h0) (pv:=.bu sz n e f F) G a hg hc
 | eG cs=>exact(show False from hc).elim
 | own id gen off len=>exact dF (μ:=μ) (μ0:=μ0) (h:=h) (h0:=h0) (pv:=.own id gen off len) G a hg hc
 | aF id gen i off=>exact dF (μ:=μ) (μ0:=μ0) (h:=h) (h0:=h0) (pv:=.aF id gen i off) G a hg hc
 | ke id=>exact dF (μ:=μ) (μ0:=μ0) (h:=h) (h0:=h0) (pv:=.ke id) G a hg hc
 | qE f bJ=>exact dF (μ:=μ) (μ0:=μ0) (h:=h) (h0:=h0) (pv:=.qE f bJ) G a hg hc
 | int k n=>exact dF (μ:=μ) (μ0:=μ0) (h:=h) (h0:=h0) (pv:=.int k n) G a hg hc
 | bool b=>exact dF (μ:=μ) (μ0:=μ0) (h:=h) (h0:=h0) (pv:=.bool b) G a hg hc
 | str s=>exact dF (μ:=μ) (μ0:=μ0) (h:=h) (h0:=h0) (pv:=.str s) G a hg hc
 | az=>exact dF (μ:=μ) (μ0:=μ0) (h:=h) (h0:=h0) (pv:=.az) G a hg hc
 | iH=>exact dF (μ:=μ) (μ0:=μ0) (h:=h) (h0:=h0) (pv:=.iH) G a hg hc
 | fF sz n f=>exact dF (μ:=μ) (μ0:=μ0) (h:=h) (h0:=h0) (pv:=.fF sz n f) G a hg hc
 | fC cs=>exact dF (μ:=μ) (μ0:=μ0) (h:=h) (h0:=h0) (pv:=.fC cs) G a hg hc
 | fn f=>exact dF (μ:=μ) (μ0:=μ0) (h:=h) (h0:=h0) (pv:=.fn f) G a hg hc
def WX (G:PV->Prop):PV->Prop
 | .eG vs=>∀v∈vs,(match v with | .agg cs=>∀c∈cs,G c | v=>G v)
 | .agg cs=>∀c∈cs,G c
 | v=>G v
theorem EO (G:PV->Prop) (a:∀pv v,G pv->aR S0 w' pv v->aR S' w' pv v) {pv:PV} {v:Value} (hg:WX G pv) (hc:bz μ0 h0 S0 w' pv v):
  bz (kM μ h.length μ0) (h++h0.map (eE h.length)) S' w' (pA h.length pv) v:=by
 cases pv with
 | eG cs=>
  obtain⟨vs,h1,h2,h3⟩:=hc;refine⟨vs,h1,by simpa using h2,λj pv hj=>?_⟩;rw[ahT]at hj;cases d:cs[j]? with
  | none=>rw[d]at hj;cases hj
  | some c=>
   rw[d]at hj;injection hj with hj;subst hj;obtain⟨u,q1,q2⟩:=h3 j c d;exact⟨u,q1,dG G a (hg c (ahJ d)) q2⟩
 | agg cs=>exact dG (μ:=μ) (μ0:=μ0) (h:=h) (h0:=h0) (pv:=.agg cs) G a hg hc
 | jw=>trivial
 | bu sz n e f F=>exact dG (μ:=μ) (μ0:=μ0) (h:=h) (h0:=h0) (pv:=.bu sz n e f F) G a hg hc
 | own id gen off len=>exact dG (μ:=μ) (μ0:=μ0) (h:=h) (h0:=h0) (pv:=.own id gen off len) G a hg hc
 | aF id gen i off=>exact dG (μ:=μ) (μ0:=μ0) (h:=h) (h0:=h0) (pv:=.aF id gen i off) G a hg hc
 | ke id=>exact dG (μ:=μ) (μ0:=μ0) (h:=h) (h0:=h0) (pv:=.ke id) G a hg hc
 | qE f bJ=>exact dG (μ:=μ) (μ0:=μ0) (h:=h) (h0:=h0) (pv:=.qE f bJ) G a hg hc
 | int k n=>exact dG (μ:=μ) (μ0:=μ0) (h:=h) (h0:=h0) (pv:=.int k n) G a hg hc
 | bool b=>exact dG (μ:=μ) (μ0:=μ0) (h:=h) (h0:=h0) (pv:=.bool b) G a hg hc
 | str s=>exact dG (μ:=μ) (μ0:=μ0) (h:=h) (h0:=h0) (pv:=.str s) G a hg hc
 | az=>exact dG (μ:=μ) (μ0:=μ0) (h:=h) (h0:=h0) (pv:=.az) G a hg hc
 | iH=>exact dG (μ:=μ) (μ0:=μ0) (h:=h) (h0:=h0) (pv:=.iH) G a hg hc
 | fF sz n f=>exact dG (μ:=μ) (μ0:=μ0) (h:=h) (h0:=h0) (pv:=.fF sz n f) G a hg hc
 | fC cs=>exact dG (μ:=μ) (μ0:=μ0) (h:=h) (h0:=h0) (pv:=.fC cs) G a hg hc
 | fn f=>exact dG (μ:=μ) (μ0:=μ0) (h:=h) (h0:=h0) (pv:=.fn f) G a hg hc
theorem Hh (hH:bH μ h S w) (hM:sA μ h S w) {μc:Mu} {Sc:Nat->Prop} (r:Fr μc [] Sc w μ0 h0 S0 w') (Vb:bH μ0 h0 S0 w') (J:sA μ0 h0 S0 w')
  (G:PV->Prop) (Y:∀pv v,G pv->aR S0 w' pv v->aR S' w' pv v) (L:∀(id g sz n:Nat) (e:TypeId) (f:Nat->List PV),h0[id]? =some (al.row g sz n e f)->∀i,i<n->∀c∈f i,(dj c=false->G c)/\(dj c=true->OG G c))
  (M:∀b,S b->S' b) (D:∀b,S' b->S b\/w.heap.size<=b) (N:∀b,S' b->b<w'.heap.size) (O:∀b,S' b->¬cf μ0 h0 b):
  bH (kM μ h.length μ0) (h++h0.map (eE h.length)) S' w'/\sA (kM μ h.length μ0) (h++h0.map (eE h.length)) S' w'/\Fr μ h S w (kM μ h.length μ0) (h++h0.map (eE h.length)) S' w':=by
 have Z:∀b,¬cf μc [] b:=λb=>kC;have B:∀b,b<w.heap.size->w'.heap[b]? =w.heap[b]?:=λb a=>r.blocks b a (Z b);have s:∀b,cf μ0 h0 b->w.heap.size<=b:=λb a=>(r.own b a).resolve_left (Z b)
 have K:∀id o,h[id]? =some o->(h++h0.map (eE h.length))[id]? =some o/\kM μ h.length μ0 id=μ id:=λid o hid=>by
  have t:=(Is.1 hid).1;exact⟨by rw[aia t];exact hid,by unfold kM;rw[As t]⟩
 have inv:∀(id g sz n:Nat) (e:TypeId) (f:Nat->List PV),(h++h0.map (eE h.length))[id]? =some (al.row g sz n e f)->
   (h[id]? =some (al.row g sz n e f)/\kM μ h.length μ0 id=μ id)\/∃d m,id=h.length+d/\h0[d]? =some (al.row g sz n e m)/\kM μ h.length μ0 id=μ0 d/\f=λi=>(m i).map (pB h.length):=λid g sz n e f hid=>by
  rcases aip id h.length with t | OL
  ·rw[aia t]at hid;exact .inl ⟨hid,by unfold kM;rw[As t]⟩
  ·obtain⟨d,rfl⟩:∃d,id=h.length+d:=⟨id - h.length,by omega⟩;rw[qZ _ rfl]at hid;cases u:h0[d]? with
   | none=>rw[u]at hid;cases hid
   | some o=>
    rw[u]at hid;cases o with
    | dead=>cases hid
    | row g0 Wo n0 e0 m=>
     injection hid with hid;injection hid with P e2 Q e4 e5;subst P e2 Q e4 e5;exact .inr ⟨d,m,rfl,u,vh _ _,rfl⟩
 have yT:∀b,CV (kM μ h.length μ0) (h++h0.map (eE h.length)) b->CV μ h b\/CV μ0 h0 b:=λb ⟨id,g,sz,n,e,f,base,hid,hm⟩=>by
  rcases inv id g sz n e f hid with⟨h1,h2⟩ | ⟨d,m,rfl,h1,h2,_⟩
  ·rw[h2]at hm;exact .inl ⟨id,g,sz,n,e,f,base,h1,hm⟩
  ·rw[h2]at hm;exact .inr ⟨d,g,sz,n,e,m,base,h1,hm⟩
 have R:∀{c:PV} {sz n:Nat} {e:TypeId} {f:Nat->List PV} {F:Nat->Prop},pB h.length c=.bu sz n e f F->c=.bu sz n e f F:=λ{c} _ _ _ _ _ hc=>by
  cases c<;>first | exact hc | cases hc
 have C:∀id i j b,cV (h++h0.map (eE h.length)) id i j b->cV h id i j b\/∃d,id=h.length+d/\cV h0 d i j b:=λid i j b ⟨g,sz,n,e,f,bF,n',e',f',F',q1,q2,q3,q4⟩=>by
  rcases inv id g sz n e f q1 with⟨h1,h2⟩ | ⟨d,m,rfl,h1,h2,rfl⟩
  ·exact .inl ⟨_,_,_,_,_,_,_,_,_,_,h1,q2,q3,q4⟩
  ·rw[ahT]at q3;cases l:(m i)[j]? with
   | none=>rw[l]at q3;cases q3
   | some c=>
    rw[l]at q3;injection q3 with q3;rw[R q3]at l;exact .inr ⟨d,rfl,_,_,_,_,_,_,_,_,_,_,h1,q2,l,q4⟩
 have T:∀b,cf (kM μ h.length μ0) (h++h0.map (eE h.length)) b->cf μ h b\/cf μ0 h0 b:=λb a=>by
  rcases a with a | ⟨x,y,z,a⟩
  ·exact(yT b a).imp .inl .inl
  ·rcases C x y z b a with q | ⟨_,_,q⟩
   ·exact .inl (.inr ⟨_,_,_,q⟩)
   ·exact .inr (.inr ⟨_,_,_,q⟩)
 have U:Fr μ h S w (kM μ h.length μ0) (h++h0.map (eE h.length)) S' w':=by
  refine⟨by simp,λb a _=>B b a,M,λb a=>(D b a).imp id .inr,λb a=>(T b a).imp id (s b),r.size,r.os,r.tape,r.output,λid g sz n e f hid=>?_,λid hid=>(K id _ hid).1,λb k a hc=>jV.of_same (B b hc.lt) hc,λid g sz n e f b base hid hm V=>⟨let⟨es,c,q⟩:=V;⟨es,c,(B b (ahB.1 q).1).trans q⟩,.inr ⟨⟨_,_,_,_,_,(K id _ hid).1⟩,(K id _ hid).2.trans hm⟩⟩,λb _ _ _ l V=>let⟨es,c,q⟩:=V;⟨es,c,(B b (ahB.1 q).1).trans q⟩⟩;obtain⟨h1,h2⟩:=K id _ hid;rw[h1];exact⟨ahy _,λ_=>⟨h2,rfl,rfl,rfl⟩⟩
 refine⟨λid g sz n e f hid=>?_,⟨λb a hs=>?_,λb a=>?_,N,?_,hM.Bj U,λb a x y z l=>?_,λb x y z x' y' z' l vO=>?_⟩,U⟩;rotate_right 2
 ·rcases yT b a with h1 | h1
  ·rcases C x y z b l with h2 | ⟨_,_,h2⟩
   ·exact hM.hv b h1 _ _ _ h2
   ·have E:=hM.lt b (.inl h1);have H:=s b (.inr ⟨_,_,_,h2⟩);omega
  ·rcases C x y z b l with h2 | ⟨_,_,h2⟩
   ·have E:=hM.lt b (.inr ⟨_,_,_,h2⟩);have H:=s b (.inl h1);omega
   ·exact J.hv b h1 _ _ _ h2
 ·rcases C x y z b l with h1 | ⟨u1,rfl,h1⟩
  ·rcases C x' y' z' b vO with h2 | ⟨u2,rfl,h2⟩
   ·exact hM.hh b _ _ _ _ _ _ h1 h2
   ·have E:=hM.lt b (.inr ⟨_,_,_,h1⟩);have H:=s b (.inr ⟨_,_,_,h2⟩);omega
  ·rcases C x' y' z' b vO with h2 | ⟨u2,rfl,h2⟩
   ·have E:=hM.lt b (.inr ⟨_,_,_,h2⟩);have H:=s b (.inr ⟨_,_,_,h1⟩);omega
   ·obtain⟨P,e2,Q⟩:=J.hh b _ _ _ _ _ _ h1 h2;exact⟨by rw[P],e2,Q⟩
 ·rcases inv id g sz n e f hid with⟨h1,h2⟩ | ⟨d,m,rfl,h1,h2,rfl⟩
  ·obtain⟨q1,q2⟩:=hH id g sz n e f h1;refine⟨q1,?_⟩;rw[h2];cases hm:μ id with
   | none=>rw[hm]at q2;exact q2
   | some p=>
    obtain⟨b,base⟩:=p;rw[hm]at q2;obtain⟨o,r1,I⟩:=q2;have t:b<w.heap.size:=(ahB.1 r1).1;exact⟨o,(B b t).trans r1,I.mono (λi y pv v hi hy hr=>hr.fr U hM (λbF n' e' f' F' he b2 eK=>B b2 (hM.lt b2 (.inr ⟨id,i,y,_,_,_,_,_,_,_,_,_,_,h1,hi,he▸hy,eK⟩))))⟩
  ·obtain⟨q1,q2⟩:=Vb d g sz n e m h1;refine⟨λi hi=>by simpa using q1 i hi,?_⟩;rw[h2];cases hm:μ0 d with
   | none=>rw[hm]at q2;exact q2
   | some p=>
    obtain⟨b,base⟩:=p;rw[hm]at q2;obtain⟨o,r1,I⟩:=q2;refine⟨o,r1,?_⟩;cases o with
    | cells cur e' z=>
     obtain⟨W,x2,x3,X⟩:=I;refine⟨W,x2,x3,λi j pv hi hj=>?_⟩;rw[ahT]at hj;cases l:(m i)[j]? with
     | none=>rw[l]at hj;cases hj
     | some c=>
      rw[l]at hj;injection hj with hj;subst hj;obtain⟨v,s1,s2⟩:=X i j c hi l;obtain⟨g1,g2⟩:=L d g sz n e m h1 i hi c (ahJ l);refine⟨v,s1,?_⟩;cases u:dj c with
      | false=>exact bK.k (dF G Y (g1 u) s2.c) (by cases c<;>first | rfl | cases u)
      | true=>
       cases c with
       | bu oZ n2 e2 f2 F2=>exact nq.og Y (show nq S0 w' (.bu oZ n2 e2 f2 F2) v from s2) (g2 rfl)
       | _=>cases u
    | map es c=>
     obtain⟨W,X⟩:=I;refine⟨W,λi hi=>?_⟩;obtain⟨kp,vp,en,y1,y2,y3,y4⟩:=X i hi;exact⟨kp,vp,en,by show(m i).map (pB h.length)=_;rw[y1];show[pB h.length kp,pB h.length vp]=_;rw[B1 y2,B1 y3],y2,y3,y4⟩
    | _=>exact I.elim
 ·rcases T b a with h1 | h1
  ·rcases D b hs with h2 | h2
   ·exact hM.apart b h1 h2
   ·have:=hM.lt b h1;omega
  ·exact O b hs h1
 ·rcases T b a with h1 | h1
  ·exact ahS (hM.lt b h1) r.size
  ·exact J.lt b h1
 ·intro i j gi P1 ni ei fi gj lM nj ej fj b o o' hi hj oQ nN;rcases inv i _ _ _ _ _ hi with⟨h1,h2⟩ | ⟨d,m,rfl,h1,h2,_⟩
  ·rw[h2]at oQ;rcases inv j _ _ _ _ _ hj with⟨h3,h4⟩ | ⟨A,f1,rfl,h3,h4,_⟩
   ·rw[h4]at nN;exact hM.inj i j _ _ _ _ _ _ _ _ _ _ _ _ _ h1 h3 oQ nN
   ·rw[h4]at nN;have E:=hM.lt b (.inl ⟨i,_,_,_,_,_,_,h1,oQ⟩);have H:=s b (.inl ⟨A,_,_,_,_,_,_,h3,nN⟩);omega
  ·rw[h2]at oQ;rcases inv j _ _ _ _ _ hj with⟨h3,h4⟩ | ⟨A,f1,rfl,h3,h4,_⟩
   ·rw[h4]at nN;have E:=hM.lt b (.inl ⟨j,_,_,_,_,_,_,h3,nN⟩);have H:=s b (.inl ⟨d,_,_,_,_,_,_,h1,oQ⟩);omega
   ·rw[h4]at nN;have:=J.inj d A _ _ _ _ _ _ _ _ _ _ _ _ _ h1 h3 oQ nN;rw[this]
theorem ACall.frame {f:FuncId} {args:List PV} {R:PV->List al->Prop} (hA:ACall P f args [] R) (h:List al) (hp:args.all GX=true):
  ACall P f args h (λres h'=>∃r0 h0,R r0 h0/\res=pA h.length r0/\h'=h++h0.map (eE h.length)):=by
 refine⟨hA.1,λw vs μ S hH hM E ha=>?_⟩;refine(hA.2 w vs (λ_=>none) S (λid g sz n e f hid=>by simp at hid) ⟨λb l=>absurd l kC,λb l=>absurd l kC,hM.slt,λi j g sz n e f V W X G Y b o Z hi=>by simp at hi,hM.known,λb _ x y z a=>xo a,λb _ _ _ _ _ _ a=>absurd a xo⟩ E (λj pv hj=>?_)).mono ?_
 ·obtain⟨v,h1,h2⟩:=ha j pv hj;refine⟨v,h1,?_⟩;have d:=(ahC.1 hp) pv (ahJ hj);cases pv with
  | agg cs=>
   obtain⟨us,q1,q2,q3⟩:=h2;refine⟨us,q1,q2,λi c hi=>?_⟩;obtain⟨u,r1,r⟩:=q3 i c hi;have hc:=(ahC.1 d) c (ahJ hi);exact⟨u,r1,bK.kN (xC hc r)⟩
  | eG cs=>cases d
  | own id gen off len=>cases d
  | aF id gen i off=>cases d
  | ke id=>cases d
  | qE f bJ=>cases d
  | jw=>cases d
  | bu sz n e f F=>cases d
  | int k n=>exact h2
  | bool b=>exact h2
  | str s=>exact h2
  | az=>exact h2
  | iH=>exact h2
  | fF sz n f=>exact h2
  | fC cs=>exact h2
  | fn f=>exact h2
 ·rintro e w' ⟨v,r0,h0,μ0,S0,he,H,hv,C,t,A⟩;have I:∀b,¬cf (λ_=>none) [] b:=λb=>kC
  obtain⟨J,K,L⟩:=Hh (S':=S0) hH hM A C t (λ_=>True) (λ_ _ _ h=>h) (λid g sz n e f hid i hi c m=>⟨λ_=>trivial,λa=>by
    obtain⟨j,hj,B⟩:=aiw.1 m;obtain⟨_,q2⟩:=C id g sz n e f hid;cases D:μ0 id with
    | none=>rw[D]at q2;omega
    | some p=>
     obtain⟨b,base⟩:=p;rw[D]at q2;obtain⟨o,_,r⟩:=q2;cases o with
     | cells cur G z=>
      obtain⟨_,_,_,M⟩:=r;obtain⟨v,_,N⟩:=M i j c hi (by rw[<-B];exact abF hj);cases c with
      | bu oZ n2 e2 f2 F2=>exact nq.all (show nq S0 w' (.bu oZ n2 e2 f2 F2) v from N)
      | _=>cases a
     | map es cl=>
      obtain⟨kp,O,en,y1,y2,Q,_⟩:=r.2 i hi;rw[y1]at m;rcases ahM.1 m with q | q
      ·rw[q]at a;cases kp<;>first | (cases a;done) | (cases y2;done)
      ·rw[aiQ.1 q]at a;cases O<;>first | (cases a;done) | (cases Q;done)
     | _=>exact r.elim⟩) A.sub
   (λb l=>(A.new b l).imp id (λh=>h.resolve_left (I b))) t.slt (λb l T=>t.apart b T l)
  have U:WX (λ_=>True) r0:=by
   unfold WX;split
   ·intro v _;split<;>intros<;>trivial
   ·intros;trivial
   ·trivial
  exact⟨v,_,_,_,S0,he,⟨r0,h0,H,rfl,rfl⟩,EO _ (λ_ _ _ h=>h) U hv,J,K,L⟩
theorem ACall.PJ {f:FuncId} {args:List PV} {R:PV->List al->Prop} {sz:Nat} {e:TypeId} {g:Nat->List PV} (hA:ACall P f (.own 0 0 0 0::args) [.row 0 sz 0 e g] R) (hp:args.all GX=true):ACall P f (.az::args) [] R:=by
 have m:∀id i j b,¬cV [al.row 0 sz 0 e g] id i j b:=λid i j b ⟨B,C,D,r,E,_,_,_,_,_,q1,q2,_⟩=>by
  cases id with
  | succ id=>simp at q1
  | zero=>
   simp at q1;obtain⟨rfl,rfl,rfl,rfl,rfl⟩:=q1;exact ahP _ q2
 have p:∀b,¬CV (λ_=>none) [al.row 0 sz 0 e g] b:=λb ⟨id,g,sz,n,e,f,base,h1,h2⟩=>by cases h2
 have q:∀b,¬cf (λ_=>none) [al.row 0 sz 0 e g] b:=λb a=>by
  rcases a with a | ⟨x,y,z,a⟩
  ·exact p b a
  ·exact m _ _ _ _ a
 have t:∀(μ:Mu) b,¬cf μ [] b:=λμ b=>kC;refine⟨hA.1,λw vs μ S hH hM H ha=>?_⟩;refine(hA.2 w vs (λ_=>none) S (λid B C D r E hid=>?_) ⟨λb a=>absurd a (q b),λb a=>absurd a (q b),hM.slt,(λi j g sz n e f B C D r E b o N _ _ h3=>by cases h3),hM.known,λb a=>absurd a (p b),λb _ _ _ _ _ _ A=>absurd A (m _ _ _ _)⟩ (by simpa using H) (λj pv hj=>?_)).mono ?_
 ·cases id with
  | succ id=>simp at hid
  | zero=>
   simp at hid;obtain⟨rfl,rfl,rfl,rfl,rfl⟩:=hid;exact⟨λi hi=>absurd hi (ahP _),rfl⟩
 ·cases j with
  | zero=>
   simp at hj;subst hj;obtain⟨v,h1,h2⟩:=ha 0 .az rfl;refine⟨v,h1,?_⟩;have h2:aR S w .az v:=h2;cases h2;have I:bg (λ_=>none) [.row 0 sz 0 e g] w 0 0 0 0 (.slice none 0 0):=⟨⟨_,_,_,rfl⟩,ahy _,λ_=>⟨ahy _,rfl⟩⟩;exact I
  | succ j=>
   have G:args[j]? =some pv:=by simpa using hj
   obtain⟨v,h1,h2⟩:=ha (j+1) pv (by simpa using G);refine⟨v,h1,?_⟩;have d:=(ahC.1 hp) pv (ahJ G);cases pv with
   | agg cs=>
    obtain⟨us,q1,q2,q3⟩:=h2;refine⟨us,q1,q2,λi c hi=>?_⟩;obtain⟨u,r1,J⟩:=q3 i c hi;have hc:=(ahC.1 d) c (ahJ hi);exact⟨u,r1,bK.kN (xC hc J)⟩
   | eG cs=>cases d
   | own id gen off len=>cases d
   | aF id gen i off=>cases d
   | ke id=>cases d
   | qE f bJ=>cases d
   | jw=>cases d
   | bu sz n e f F=>cases d
   | int k n=>exact h2
   | bool b=>exact h2
   | str s=>exact h2
   | az=>exact h2
   | iH=>exact h2
   | fF sz n f=>exact h2
   | fC cs=>exact h2
   | fn f=>exact h2
 ·rintro r w' ⟨v,r0,h0,μ0,S0,he,K,hv,L,M,l⟩
  exact⟨v,r0,h0,μ0,S0,he,K,hv,L,M,⟨aih _,λb a _=>l.blocks b a (q b),l.sub,λb a=>(l.new b a).imp id (λh=>.inr (h.resolve_left (q b))),λb a=>.inr ((l.own b a).resolve_left (q b)),l.size,l.os,l.tape,l.output,
   λid g sz n e f hj=>by simp at hj,λid hj=>by simp at hj,λb k a _=>absurd a (t _ b),λid g sz n e f b base hj _ _=>by simp at hj,λb _ _ _ A _=>absurd A xo⟩⟩
def Ag:al->Prop
 | .row _ _ n _ f=>∀i,i<n->∀c∈f i,(dj c=false->qF c=true)/\(dj c=true->OG (λpv=>qF pv=true) c)
 | .dead=>True
theorem Af.p {o:al} (h:Af o):Ag o:=by
 cases o with
 | dead=>trivial
 | row g sz n e f=>
  intro i hi c hc;have:=(ahC.1 (h i hi)) c hc;exact⟨λ_=>this,λa=>by cases c<;>first | (cases a;done) | (cases this;done)⟩
theorem ACall.snap {f:FuncId} {args l:List PV} {R:PV->List al->Prop} (hA:ACall P f l [] R) (h:List al) (hl:l.length=args.length)
  (y:∀(j:Nat) (pv pv':PV),args[j]? =some pv->l[j]? =some pv'->Fz h [] [] pv pv'/\lF pv'=true) (z:∀r0 h0,R r0 h0->El r0=true/\∀o∈h0,Ag o):
  ACall P f args h (λres h'=>∃r0 h0,R r0 h0/\res=pA h.length r0/\h'=h++h0.map (eE h.length)):=by
 refine⟨hA.1,λw vs μ S hH hM L ha=>?_⟩;have d:kV h [] [] 0 0 [] []:=trivial;obtain⟨r,_,_⟩:=xy (m:=0) ⟨hH,hM⟩ d rfl;refine(hA.2 w vs (ns μ h []) (Hb μ h [] S) r.heap r.ok alV (λj pv' hj=>?_)).mono ?_
 ·have A:j<args.length:=by rw[<-hl];exact(Is.1 hj).1
  have t:=abF A;obtain⟨v,h1,h2⟩:=ha j _ t;obtain⟨B,z2⟩:=y j _ pv' t hj;exact⟨v,h1,(uf (m:=0) ⟨hH,hM⟩ d B).2.1 v h2⟩
 ·rintro e w' ⟨v,r0,h0,μ0,S0,he,u,hv,C,D,p⟩;obtain⟨q,E⟩:=z r0 h0 u;have F:∀b,¬cf (ns μ h []) [] b:=λb=>kC
  have x:∀pv v,qF pv=true->aR S0 w' pv v->aR S w' pv v:=λpv v hf hp=>by
   cases hp with
   | int k n=>exact .int k n
   | bool b=>exact .bool b
   | str s=>exact .str s
   | az=>exact .az
   | iH=>exact .iH
   | fn f=>exact .fn f
   | qH=>cases hf
   | fF=>cases hf
   | fC=>cases hf
  obtain⟨G,H,I⟩:=Hh (S':=S) hH hM p C D (λpv=>qF pv=true) x (λid g sz n e f hid i hi c hc=>E _ (ahJ hid) i hi c hc) (λ_ a=>a) (λb a=>.inl a) (λb a=>ahS (hM.slt b a) p.size)
   (λb a J=>by
    have h1:=(p.own b J).resolve_left (F b);have h2:=hM.slt b a;omega)
  have K:WX (λpv=>qF pv=true) r0:=by
   cases r0 with
   | eG vs=>
    intro v hv;have:=(ahC.1 q) v hv;cases v with
    | agg cs=>exactλc hc=>(ahC.1 this) c hc
    | _=>exact this
   | agg cs=>exactλc hc=>(ahC.1 q) c hc
   | _=>exact q
  exact⟨v,_,_,_,S,he,⟨r0,h0,u,rfl,rfl⟩,EO _ x K hv,G,H,I⟩
end
end Go.Am
