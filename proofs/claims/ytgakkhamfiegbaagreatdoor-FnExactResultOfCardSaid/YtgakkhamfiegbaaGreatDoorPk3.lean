/- Texts of the proof, joined and shortened. -/
import Derived.Test.YtgakkhamfiegbaaGreatDoorPk2
set_option linter.unusedVariables false
set_option linter.unusedSimpArgs false
namespace Go.Am
open Go Go.RowKit
section
variable {P:Program}{T:sI}{μ:Mu}{h h1:List ar}{S:Nat->Prop}{w:World}
theorem OD (hc:Core μ h S w) (l:Km h h1):∃μ',Fr μ h S w μ' h1 S w/\Core μ' h1 S w:=by
 obtain⟨id,g,sz,n,e,f,i,j,N,m,T,B,F,f1,hh,hi,hj,OA,S9,rfl⟩:=l;have hid:id<h.length:=(An.1 hh).1;obtain⟨hl,Y⟩:=hc.heap id g sz n e f hh;have My:j<sz:=by rw[<-hl i hi];exact(An.1 hj).1
 have AR:∃Z O P v,μ id=some (Z,O)/\w.heap[Z]? =some (.cells P e (0,0))/\O+n*sz<=P.size/\P[O+i*sz+j]? =some v/\oz S w (.aV N m T B F) v/\
   ∀(i j:Nat) (pv:PV),i<n->(f i)[j]? =some pv->∃v:Value,P[O+i*sz+j]? =some v/\rH μ h S w pv v:=by
  cases iz:μ id with
  | none=>rw[iz]at Y;have Y:n=0:=Y;omega
  | some p=>
   obtain⟨Z,O⟩:=p;rw[iz]at Y;obtain⟨o,q1,q2⟩:=Y;cases o with
   | cells P e0 z=>
    obtain⟨rfl,rfl,q3,q4⟩:=q2;obtain⟨v,r1,d⟩:=q4 i j _ hi hj;exact⟨Z,O,P,v,rfl,q1,q3,r1,d,q4⟩
   | map es c=>
    obtain⟨kp,vp,en,y1,y2,y3,_⟩:=q2.2 i hi;rw[y1]at hj
    match j,hj with
    | 0,hj=>simp at hj;rw[hj]at y2;cases y2
    | 1,hj=>simp at hj;rw[hj]at y3;cases y3
    | y+2,hj=>simp at hj
   | _=>exact q2.elim
 obtain⟨Z,O,P,v,iz,ag,xU,ON,aq,nn⟩:=AR;have Tc:∀b,F b->dD h id i j b:=λb hb=>⟨_,_,_,_,_,_,_,_,_,_,hh,hi,hj,hb⟩
 obtain⟨p,hp⟩:∃p:Option (Nat×Nat),match p with
   | none=>v=.slice none 0 0/\m=0
   | some (b,off)=>F b/\∃(c:Nat) (a:Addr) (cur:Array Value),w.heap[b]? =some (.cells cur T (0,0))/\v=.slice (some a) m c/\m<=c/\(0<c->a=⟨b,off,none⟩)/\off+c*N<=cur.size/\(∀i,i<m->(B i).length=N)/\
     (∀(i j:Nat) (pv:PV),i<m->(B i)[j]? =some pv->∃u,cur[off+i*N+j]? =some u/\(bz S w pv u\/∃C n2 e2 f2 s,pv=.aV C n2 e2 f2 s/\oz S w (.aV C n2 e2 f2 s) u))/\
     (∀(i j qs n2:Nat) (e2:TypeId) (f2:Nat->List PV) (s:Nat->Prop),i<m->(B i)[j]? =some (.aV qs n2 e2 f2 s)->∀U,s U->F U/\U≠b)/\
     (∀(i j qs n2:Nat) (e2:TypeId) (f2:Nat->List PV) (s:Nat->Prop) (i' j' aa n3:Nat) (e3:TypeId) (f3:Nat->List PV) (F3:Nat->Prop),i<m->(B i)[j]? =some (.aV qs n2 e2 f2 s)->i'<m->(B i')[j']? =some (.aV aa n3 e3 f3 F3)->∀U,s U->F3 U->i=i'/\j=j'):=by
  cases aq with
  | nil _ _ _ _ hF=>exact⟨none,rfl,rfl⟩
  | Lj _ _ _ _ _ b off c a cur vf hF hb hlen Qo ha fK ad qq wW FD Ll=>
   refine⟨some (b,off),hF,c,a,cur,hb,rfl,Qo,ha,fK,hlen,λi j pv hi hj=>⟨_,ad i j pv hi hj,?_⟩,FD,Ll⟩;rcases qq i j pv hi hj with q | ⟨C,n2,e2,f2,s,rfl⟩
   ·exact .inl q
   ·exact .inr ⟨C,n2,e2,f2,s,rfl,wW i j _ _ _ _ _ hi hj⟩
 have Q:∀b off,p=some (b,off)->F b:=λb off D=>by subst D;exact hp.1
 generalize Vr:h.set id (ar.row g sz n e f1)++[ar.row 0 N m T B]=h1;have a0:h1.length=h.length+1:=by rw[<-Vr];simp
 have yT:h1[id]? =some (ar.row g sz n e f1):=by rw[<-Vr,ago (by simpa using hid)];simp [hid]
 have Cq:h1[h.length]? =some (ar.row 0 N m T B):=by rw[<-Vr,agh ajq];simp
 have cH:∀k,k≠id->k<h.length->h1[k]? =h[k]?:=λk hk L=>by rw[<-Vr,ago (by simpa using L),agi (agX hk)]
 have inv:∀k o,h1[k]? =some o->(k=id/\o=ar.row g sz n e f1)\/(k=h.length/\o=ar.row 0 N m T B)\/(k≠id/\k<h.length/\h[k]? =some o):=λk o hk=>by
  by_cases h2:k=id
  ·subst h2;rw[yT]at hk;injection hk with hk;exact .inl ⟨rfl,hk.symm⟩
  ·by_cases h3:k=h.length
   ·subst h3;rw[Cq]at hk;injection hk with hk;exact .inr (.inl ⟨rfl,hk.symm⟩)
   ·have h4:k<h.length:=by have:=(An.1 hk).1;omega
    rw[cH k h2 h4]at hk;exact .inr (.inr ⟨h2,h4,hk⟩)
 let μ1:Mu:=qm μ h.length p
 have Ed:μ1 h.length=p:=cb _ _ _;have E:∀k,k<h.length->μ1 k=μ k:=λk hk=>dk μ _ ajo
 have Ee:∀x y pv,x<n->(f1 x)[y]? =some pv->((x,y)=(i,j)/\pv=.own h.length 0 0 m)\/((x,y)≠(i,j)/\(f x)[y]? =some pv):=λx y pv l hy=>by
  by_cases t:x=i
  ·subst t;rw[OA,ahh]at hy;by_cases R:j=y
   ·subst R;rw[an rfl,an (by rw[hl x l];exact My)]at hy;injection hy with hy;exact .inl ⟨rfl,hy.symm⟩
   ·rw[mg R]at hy;exact .inr ⟨λq=>R (by injection q with _ q;exact q.symm),hy⟩
  ·rw[S9 x l t]at hy;exact .inr ⟨λq=>t (by injection q),hy⟩
 have V:∀k x y b,dD h1 k x y b->(k≠h.length/\¬(k=id/\x=i/\y=j)/\dD h k x y b)\/(k=h.length/\dD h id i j b/\∃qs n2 e2 f2 s,x<m/\(B x)[y]? =some (.aV qs n2 e2 f2 s)/\s b):=λk x y b ⟨g2,C,n2,e2,f2,s3,n3,e3,f3,F3,q1,q2,q3,q4⟩=>by
  rcases inv k _ q1 with⟨rfl,A⟩ | ⟨rfl,A⟩ | ⟨h2,h3,h4⟩
  ·injection A with G H I J K;subst G H I J K;rcases Ee x y _ q2 q3 with⟨_,D⟩ | ⟨rN,D⟩
   ·cases D
   ·exact .inl ⟨by omega,λ⟨_,b1,b2⟩=>rN (by rw[b1,b2]),_,_,_,_,_,_,_,_,_,_,hh,q2,D,q4⟩
  ·injection A with G H I J K;subst G H I J K;refine .inr ⟨rfl,Tc b ?_,_,_,_,_,_,q2,q3,q4⟩;cases p with
   | none=>have:=hp.2;omega
   | some pp=>
    obtain⟨pb,Zk⟩:=pp;obtain⟨_,_,_,_,_,_,_,_,_,_,_,hs,_⟩:=hp;exact(hs x y _ _ _ _ _ q2 q3 b q4).1
  ·exact .inl ⟨by omega,λ⟨b1,_⟩=>h2 b1,_,_,_,_,_,_,_,_,_,_,h4,q2,q3,q4⟩
 have Ef:∀b,Dw μ1 h1 b->Dw μ h b\/(∃off,p=some (b,off)):=λb ⟨k,g2,C,n2,e2,f2,base,q1,q2⟩=>by
  rcases inv k _ q1 with⟨rfl,A⟩ | ⟨rfl,A⟩ | ⟨h2,h3,h4⟩
  ·rw[E k hid]at q2;exact .inl ⟨k,_,_,_,_,_,_,hh,q2⟩
  ·rw[Ed]at q2;exact .inr ⟨base,q2⟩
  ·rw[E k h3]at q2;exact .inl ⟨k,_,_,_,_,_,_,h4,q2⟩
 have np:∀b,dc μ1 h1 b->dc μ h b:=λb hb=>by
  rcases hb with hb | ⟨k,x,y,hb⟩
  ·rcases Ef b hb with q | ⟨off,q⟩
   ·exact .inl q
   ·exact .inr ⟨_,_,_,Tc b (Q b off q)⟩
  ·rcases V k x y b hb with⟨_,_,q⟩ | ⟨_,q,_⟩
   ·exact ajn
   ·exact ajn
 have kC:Fr μ h S w μ1 h1 S w:=by
  refine⟨by omega,λ_ _ _=>rfl,λ_ hb=>hb,λ_ hb=>.inl hb,λb hb=>.inl (np b hb),abF _,rfl,rfl,rfl,λk g2 C n2 e2 f2 hk=>?_,λk hk=>?_,λ_ _ _ hc=>hc,λk g2 C n2 e2 f2 b base hk hm W=>⟨W,.inr ⟨?_,?_⟩⟩,λ_ _ _ _ _ W=>W⟩
  ·have L:=(An.1 hk).1;by_cases yE:k=id
   ·subst yE;rw[hh]at hk;injection hk with hk;injection hk with G H I J K;subst G H I J K;rw[yT];exact⟨abF _,λ_=>⟨E _ hid,rfl,rfl,rfl⟩⟩
   ·rw[cH k yE L,hk];exact⟨abF _,λ_=>⟨E k L,rfl,rfl,rfl⟩⟩
  ·have L:=(An.1 hk).1;rw[cH k (by rintro rfl;rw[hh]at hk;cases hk) L];exact hk
  ·have L:=(An.1 hk).1;by_cases yE:k=id
   ·subst yE;exact⟨_,_,_,_,_,yT⟩
   ·exact⟨_,_,_,_,_,(cH k yE L).trans hk⟩
  ·rw[E k (An.1 hk).1];exact hm
 refine⟨μ1,kC,⟨λk g2 C n2 e2 f2 hk=>?_,⟨λb hb=>hc.ok.apart b (np b hb),λb hb=>hc.ok.lt b (np b hb),hc.ok.slt,?_,hc.ok.known,λb hb k x y l=>?_,λb k x y k' x' y' l wx=>?_⟩⟩⟩
 ·rcases inv k _ hk with⟨rfl,A⟩ | ⟨rfl,A⟩ | ⟨h2,h3,h4⟩
  ·injection A with G H I J K;subst G H I J K;refine⟨λx l=>?_,?_⟩
   ·by_cases t:x=i
    ·subst t;rw[OA,agW];exact hl x l
    ·rw[S9 x l t];exact hl x l
   ·rw[E k hid,iz];refine⟨_,ag,rfl,rfl,xU,λx y pv l hy=>?_⟩;rcases Ee x y pv l hy with⟨D,rfl⟩ | ⟨_,D⟩
    ·injection D with r1 d;subst r1 d;refine⟨v,ON,?_⟩;show cf μ1 h1 w h.length 0 0 m v;unfold cf;rw[Cq];cases p with
     | none=>
      obtain⟨rfl,rfl⟩:=hp;exact⟨⟨_,_,_,rfl⟩,abF _,λ_=>⟨abF _,by rw[Ed]⟩⟩
     | some pp=>
      obtain⟨pb,Zk⟩:=pp;obtain⟨_,c,a,cur,t1,rfl,t3,t4,t5,_⟩:=hp;refine⟨⟨_,_,_,rfl⟩,abF _,λ_=>⟨by omega,?_⟩⟩;rw[Ed];exact⟨a,c,rfl,t3,λh0=>by rw[t4 h0];simp,cur,T,_,t1,by rw[so];exact t5⟩
    ·obtain⟨u,r1,d⟩:=nn x y pv l D;exact⟨u,r1,d.fr kC hc.ok (λ_ _ _ _ _ _ _ _=>rfl)⟩
  ·injection A with G H I J K;subst G H I J K;rw[Ed];cases p with
   | none=>exact⟨λx l=>by have:=hp.2;omega,hp.2⟩
   | some pp=>
    obtain⟨pb,Zk⟩:=pp;obtain⟨_,c,a,cur,t1,_,t3,_,t5,t6,t7,_,_⟩:=hp;refine⟨t6,_,t1,rfl,rfl,agq (Nat.add_le_add_left (agb _ t3) _) t5,λx y pv l hy=>?_⟩;obtain⟨u,r1,d⟩:=t7 x y pv l hy;refine⟨u,r1,?_⟩;rcases d with d | ⟨_,_,_,_,_,rfl,d⟩
    ·exact(cD.my d).k (bz.no d)
    ·exact d
  ·obtain⟨q1,q2⟩:=hc.heap k _ _ _ _ _ h4;refine⟨q1,?_⟩;rw[E k h3];cases hm:μ k with
   | none=>rw[hm]at q2;exact q2
   | some pp=>
    obtain⟨b,base⟩:=pp;rw[hm]at q2;obtain⟨o,r1,d⟩:=q2;exact⟨o,r1,d.mono (λ_ _ _ _ _ _ hr=>hr.fr kC hc.ok (λ_ _ _ _ _ _ _ _=>rfl))⟩
 ·intro a b ga sa na ea fa gb sb nb eb fb Lj o o' ha hb aA W
  have MM:∀k gk sk nk ek fk oo,h1[k]? =some (ar.row gk sk nk ek fk)->μ1 k=some (Lj,oo)->(k=h.length/\F Lj)\/(k<h.length/\∃gk sk nk ek fk,h[k]? =some (ar.row gk sk nk ek fk)/\μ k=some (Lj,oo)):=λk gk sk nk ek fk oo hk hm=>by
   rcases inv k _ hk with⟨rfl,A⟩ | ⟨rfl,A⟩ | ⟨h2,h3,h4⟩
   ·rw[E k hid]at hm;exact .inr ⟨hid,_,_,_,_,_,hh,hm⟩
   ·rw[Ed]at hm;exact .inl ⟨rfl,Q _ _ hm⟩
   ·rw[E k h3]at hm;exact .inr ⟨h3,_,_,_,_,_,h4,hm⟩
  rcases MM a _ _ _ _ _ _ ha aA with⟨rfl,q⟩ | ⟨q0,_,_,_,_,_,q1,q2⟩
  ·rcases MM b _ _ _ _ _ _ hb W with⟨rfl,_⟩ | ⟨r0,_,_,_,_,_,r1,d⟩
   ·rfl
   ·exact absurd (Tc Lj q) (hc.ok.hv Lj ⟨b,_,_,_,_,_,_,r1,d⟩ _ _ _)
  ·rcases MM b _ _ _ _ _ _ hb W with⟨rfl,r⟩ | ⟨r0,_,_,_,_,_,r1,d⟩
   ·exact absurd (Tc Lj r) (hc.ok.hv Lj ⟨a,_,_,_,_,_,_,q1,q2⟩ _ _ _)
   ·exact hc.ok.inj a b _ _ _ _ _ _ _ _ _ _ _ _ _ q1 r1 q2 d
 ·rcases Ef b hb with q | ⟨off,q⟩
  ·rcases V k x y b l with⟨_,_,r⟩ | ⟨_,r,_⟩
   ·exact hc.ok.hv b q _ _ _ r
   ·exact hc.ok.hv b q _ _ _ r
  ·rcases V k x y b l with⟨_,rN,r⟩ | ⟨_,r,qs,n2,e2,f2,s,r1,d,r3⟩
   ·exact rN (hc.ok.hh b _ _ _ _ _ _ r (Tc b (Q b off q)))
   ·subst q;obtain⟨_,_,_,_,_,_,_,_,_,_,_,hs,_⟩:=hp;exact(hs x y _ _ _ _ _ r1 d b r3).2 rfl
 ·rcases V k x y b l with⟨k1,rN,r⟩ | ⟨rfl,r,qs,n2,e2,f2,s,r1,d,r3⟩
  ·rcases V k' x' y' b wx with⟨k2,M,X⟩ | ⟨rfl,X,_⟩
   ·exact hc.ok.hh b _ _ _ _ _ _ r X
   ·exact absurd (hc.ok.hh b _ _ _ _ _ _ r X) rN
  ·rcases V k' x' y' b wx with⟨k2,M,X⟩ | ⟨rfl,X,aa,n3,e3,f3,F3,t1,t2,t3⟩
   ·exact absurd (hc.ok.hh b _ _ _ _ _ _ X r) M
   ·cases p with
    | none=>have:=hp.2;omega
    | some pp=>
     obtain⟨pb,Zk⟩:=pp;obtain⟨_,_,_,_,_,_,_,_,_,_,_,_,hd⟩:=hp;obtain⟨e1,e2⟩:=hd x y _ _ _ _ _ x' y' _ _ _ _ _ r1 d t1 t2 b r3 t3;exact⟨rfl,e1,e2⟩
def FAb (μ:Mu) (h:List ar) (sub:Nat) (b:Nat):Prop:=(∃g sz n e f base,h[sub]? =some (ar.row g sz n e f)/\μ sub=some (b,base))\/∃x y,dD h sub x y b
theorem OE (hc:Core μ h S w) {id i j sub:Nat} (d:G1 h id i j sub (FAb μ h sub) h1):Fr μ h S w μ h1 S w/\Core μ h1 S w:=by
 obtain⟨g,sz,n,e,f,g2,qs,n2,e2,f2,f1,hh,hs,rN,hi,hj,aa,OA,S9,rfl⟩:=d;have hid:id<h.length:=(An.1 hh).1;have FW:sub<h.length:=(An.1 hs).1;obtain⟨hl,bQ⟩:=hc.heap id g sz n e f hh;have My:j<sz:=by rw[<-hl i hi];exact(An.1 hj).1
 generalize m:FAb μ h sub=F;rw[m]at OA
 have ad:∀b,F b->dc μ h b:=λb hb=>by
  rw[<-m]at hb;rcases hb with⟨g,sz,n,e,f,base,q1,q2⟩ | ⟨x,y,q⟩
  ·exact .inl ⟨sub,_,_,_,_,_,_,q1,q2⟩
  ·exact ajn
 generalize Vr:(h.set id (ar.row g sz n e f1)).set sub ar.dead=h1;have yT:h1[id]? =some (ar.row g sz n e f1):=by rw[<-Vr,agi (agX rN)];simp [hid]
 have Cw:h1[sub]? =some ar.dead:=by rw[<-Vr,agK (by simpa using FW)]
 have cH:∀k,k≠id->k≠sub->h1[k]? =h[k]?:=λk h2 h3=>by rw[<-Vr,agi (agX h3),agi (agX h2)]
 have inv:∀k A B C D E,h1[k]? =some (ar.row A B C D E)->k≠sub/\((k=id/\ar.row A B C D E=ar.row g sz n e f1)\/(k≠id/\h[k]? =some (ar.row A B C D E))):=λk A B C D E hk=>by
  have h3:k≠sub:=by rintro rfl;rw[Cw]at hk;cases hk
  refine⟨h3,?_⟩;by_cases h2:k=id
  ·subst h2;rw[yT]at hk;injection hk with hk;exact .inl ⟨rfl,hk.symm⟩
  ·rw[cH k h2 h3]at hk;exact .inr ⟨h2,hk⟩
 have Ee:∀x y pv,x<n->(f1 x)[y]? =some pv->((x=i/\y=j)/\pv=.aV qs n2 e2 f2 F)\/(¬(x=i/\y=j)/\(f x)[y]? =some pv):=λx y pv d hy=>by
  by_cases s:x=i
  ·subst s;rw[OA,ahh]at hy;by_cases L:j=y
   ·subst L;rw[an rfl,an (by rw[hl x d];exact My)]at hy;injection hy with hy;exact .inl ⟨⟨rfl,rfl⟩,hy.symm⟩
   ·rw[mg L]at hy;exact .inr ⟨λq=>L q.2.symm,hy⟩
  ·rw[S9 x d s]at hy;exact .inr ⟨λq=>s q.1,hy⟩
 have T:∀k x y b,dD h1 k x y b->(k=id/\x=i/\y=j/\F b)\/(k≠sub/\¬(k=id/\x=i/\y=j)/\dD h k x y b):=λk x y b ⟨g3,s3,n3,e3,f3,s4,n4,e4,f4,F4,q1,q2,q3,q4⟩=>by
  obtain⟨h3,l⟩:=inv k _ _ _ _ _ q1;rcases l with⟨rfl,ho⟩ | ⟨h2,h4⟩
  ·injection ho with U V W X Y;subst U V W X Y;rcases Ee x y _ q2 q3 with⟨⟨r1,t⟩,l⟩ | ⟨Z,l⟩
   ·injection l with _ _ _ _ l;subst l;exact .inl ⟨rfl,r1,t,q4⟩
   ·exact .inr ⟨h3,λ⟨_,b1⟩=>Z b1,_,_,_,_,_,_,_,_,_,_,hh,q2,l,q4⟩
  ·exact .inr ⟨h3,λ⟨b1,_⟩=>h2 b1,_,_,_,_,_,_,_,_,_,_,h4,q2,q3,q4⟩
 have Ef:∀b,Dw μ h1 b->∃k A B C D E base,k≠sub/\h[k]? =some (ar.row A B C D E)/\μ k=some (b,base):=λb ⟨k,g3,s3,n3,e3,f3,base,q1,q2⟩=>by
  obtain⟨h3,l⟩:=inv k _ _ _ _ _ q1;rcases l with⟨rfl,ho⟩ | ⟨h2,h4⟩
  ·exact⟨k,_,_,_,_,_,_,h3,hh,q2⟩
  ·exact⟨k,_,_,_,_,_,_,h3,h4,q2⟩
 have np:∀b,dc μ h1 b->dc μ h b:=λb hb=>by
  rcases hb with hb | ⟨k,x,y,hb⟩
  ·obtain⟨k,_,_,_,_,_,_,_,q1,q2⟩:=Ef b hb;exact .inl ⟨k,_,_,_,_,_,_,q1,q2⟩
  ·rcases T k x y b hb with⟨_,_,_,q⟩ | ⟨_,_,q⟩
   ·exact ad b q
   ·exact ajn
 have kC:Fr μ h S w μ h1 S w:=by
  refine⟨by rw[<-Vr];simp,λ_ _ _=>rfl,λ_ hb=>hb,λ_ hb=>.inl hb,λb hb=>.inl (np b hb),abF _,rfl,rfl,rfl,λk g3 s3 n3 e3 f3 hk=>?_,λk hk=>?_,λ_ _ _ hc=>hc,λk g3 s3 n3 e3 f3 b base hk hm oJ=>⟨oJ,?_⟩,λ_ _ _ _ _ oJ=>oJ⟩
  ·by_cases yE:k=id
   ·subst yE;rw[hh]at hk;injection hk with hk;injection hk with U V W X Y;subst U V W X Y;rw[yT];exact ajg
   ·by_cases I:k=sub
    ·subst I;rw[Cw];trivial
    ·rw[cH k yE I,hk];exact ajg
  ·by_cases I:k=sub
   ·subst I;exact Cw
   ·rw[cH k (by rintro rfl;rw[hh]at hk;cases hk) I];exact hk
  ·by_cases I:k=sub
   ·subst I;exact .inl Cw
   ·refine .inr ⟨?_,hm⟩;by_cases yE:k=id
    ·subst yE;exact⟨_,_,_,_,_,yT⟩
    ·exact⟨_,_,_,_,_,(cH k yE I).trans hk⟩
 have W8:∀k x y b,k≠sub->dD h k x y b->¬F b:=λk x y b hk d hF=>by
  rw[<-m]at hF;rcases hF with⟨_,_,_,_,_,_,q1,q2⟩ | ⟨_,_,q⟩
  ·exact hc.ok.hv b ⟨sub,_,_,_,_,_,_,q1,q2⟩ _ _ _ d
  ·exact hk (hc.ok.hh b _ _ _ _ _ _ d q).1
 refine⟨kC,⟨λk g3 s3 n3 e3 f3 hk=>?_,⟨λb hb=>hc.ok.apart b (np b hb),λb hb=>hc.ok.lt b (np b hb),hc.ok.slt,?_,hc.ok.known,λb hb k x y d=>?_,λb k x y k' x' y' d wx=>?_⟩⟩⟩
 ·obtain⟨h3,l⟩:=inv k _ _ _ _ _ hk;rcases l with⟨rfl,ho⟩ | ⟨h2,h4⟩
  ·injection ho with U V W X Y;subst U V W X Y;refine⟨λx d=>?_,?_⟩
   ·by_cases s:x=i
    ·subst s;rw[OA,agW];exact hl x d
    ·rw[S9 x d s];exact hl x d
   ·cases iz:μ k with
    | none=>rw[iz]at bQ;exact bQ
    | some p=>
     obtain⟨b0,Bx⟩:=p;rw[iz]at bQ;obtain⟨o,q1,q2⟩:=bQ;refine⟨o,q1,?_⟩;cases o with
     | cells Ln e0 z=>
      obtain⟨rfl,rfl,q3,q4⟩:=q2;refine⟨rfl,rfl,q3,λx y pv d hy=>?_⟩;rcases Ee x y pv d hy with⟨⟨rfl,rfl⟩,rfl⟩ | ⟨_,l⟩
      ·obtain⟨v,r1,t⟩:=q4 x y _ d hj;refine⟨v,r1,?_⟩;show oz S w (.aV qs n2 e2 f2 F) v;have t:cf μ h w sub g2 0 n2 v:=t;unfold cf at t;rw[hs]at t;obtain⟨_,_,r3⟩:=t;obtain⟨_,P⟩:=r3 rfl;obtain⟨s1,Q⟩:=hc.heap sub _ _ _ _ _ hs;cases G:μ sub with
       | none=>
        rw[G]at P Q;have Q:n2=0:=Q;have P:v=.slice none 0 0:=P;subst Q P;refine .nil _ _ _ _ (λb hb=>?_);rw[<-m]at hb;rcases hb with⟨_,_,_,_,_,_,_,t2⟩ | ⟨x',y',t1,t2,t3,t4,t5,t6,t7,t8,t9,a0,J,u2,u3,u4⟩
        ·rw[G]at t2;cases t2
        ·rw[hs]at J;injection J with J;injection J with _ _ J _ _;omega
       | some p=>
        obtain⟨b,base⟩:=p;rw[G]at P Q;obtain⟨a,cap,rfl,t2,t3,t4⟩:=P;obtain⟨cur,J,u2,u3⟩:=cW.cells t4 Q
        have fK:base+cap*qs<=cur.size:=by
         obtain⟨B0,e',z',R,p2⟩:=t4;rw[J]at R;injection R with R;injection R with R _ _;subst R;rw[so]at p2;exact p2
        have ag:Dw μ h b:=⟨sub,_,_,_,_,_,_,hs,G⟩;have Zl:∀(x y M N:Nat) (O:TypeId) (f5:Nat->List PV) (K:Nat->Prop),x<n2->(f2 x)[y]? =some (.aV M N O f5 K)->∀H,K H->dD h sub x y H:=λx y M N O f5 K d hy H oR=>⟨_,_,_,_,_,_,_,_,_,_,hs,d,hy,oR⟩;refine .Lj qs n2 e2 f2 F b base cap a cur (λx y=>(cur[base+x*qs+y]?).getD undef) (by rw[<-m];exact .inl ⟨_,_,_,_,_,_,hs,G⟩) J s1 t2 (λh0=>by rw[t3 h0];simp) fK (λx y pv d hy=>?_) (λx y pv d hy=>?_) (λx y M N O f5 K d hy=>?_) (λx y M N O f5 K d hy H oR=>?_) (λx y M N O f5 K x' y' s6 n6 e6 f6 F6 d hy wx aq H oR tN=>?_)
        ·obtain⟨u,w1,_⟩:=u3 x y pv d hy;rw[w1];rfl
        ·obtain⟨u,w1,w2⟩:=u3 x y pv d hy;rw[w1];rcases aa x d pv (afX hy)with z1 | z1
         ·exact .inl (A4 z1 w2.c)
         ·exact .inr (by cases pv<;>first | exact⟨_,_,_,_,_,rfl⟩ | cases z1)
        ·obtain⟨u,w1,w2⟩:=u3 x y _ d hy;rw[w1];exact w2
        ·have l:=Zl x y M N O f5 K d hy H oR;refine⟨by rw[<-m];exact .inr ⟨_,_,l⟩,?_⟩;rintro rfl;exact hc.ok.hv H ag _ _ _ l
        ·exact(hc.ok.hh H _ _ _ _ _ _ (Zl x y M N O f5 K d hy H oR) (Zl x' y' s6 n6 e6 f6 F6 wx aq H tN)).2
      ·obtain⟨u,r1,t⟩:=q4 x y pv d l;exact⟨u,r1,t.fr kC hc.ok (λ_ _ _ _ _ _ _ _=>rfl)⟩
     | map es c=>
      obtain⟨kp,vp,en,y1,y2,y3,_⟩:=q2.2 i hi;rw[y1]at hj
      match j,hj with
      | 0,hj=>simp at hj;rw[hj]at y2;cases y2
      | 1,hj=>simp at hj;rw[hj]at y3;cases y3
      | y+2,hj=>simp at hj
     | _=>exact q2.elim
  ·obtain⟨q1,q2⟩:=hc.heap k _ _ _ _ _ h4;refine⟨q1,?_⟩;cases hm:μ k with
   | none=>rw[hm]at q2;exact q2
   | some pp=>
    obtain⟨b,base⟩:=pp;rw[hm]at q2;obtain⟨o,r1,t⟩:=q2;exact⟨o,r1,t.mono (λ_ _ _ _ _ _ hr=>hr.fr kC hc.ok (λ_ _ _ _ _ _ _ _=>rfl))⟩
 ·intro a b ga sa na ea fa gb sb nb eb fb Lj o o' ha hb aA oJ
  have MM:∀k A B C D E,h1[k]? =some (ar.row A B C D E)->∃A B C D E,h[k]? =some (ar.row A B C D E):=λk A B C D E hk=>by
   rcases(inv k _ _ _ _ _ hk).2 with⟨rfl,_⟩ | ⟨_,q⟩
   ·exact⟨_,_,_,_,_,hh⟩
   ·exact⟨_,_,_,_,_,q⟩
  obtain⟨_,_,_,_,_,q1⟩:=MM a _ _ _ _ _ ha;obtain⟨_,_,_,_,_,q2⟩:=MM b _ _ _ _ _ hb;exact hc.ok.inj a b _ _ _ _ _ _ _ _ _ _ _ _ _ q1 q2 aA oJ
 ·obtain⟨k0,_,_,_,_,_,_,q0,q1,q2⟩:=Ef b hb;rcases T k x y b d with⟨_,_,_,q⟩ | ⟨_,_,q⟩
  ·rw[<-m]at q;rcases q with⟨_,_,_,_,_,_,r1,t⟩ | ⟨_,_,r⟩
   ·exact q0 (hc.ok.inj k0 sub _ _ _ _ _ _ _ _ _ _ _ _ _ q1 r1 q2 t)
   ·exact hc.ok.hv b ⟨k0,_,_,_,_,_,_,q1,q2⟩ _ _ _ r
  ·exact hc.ok.hv b ⟨k0,_,_,_,_,_,_,q1,q2⟩ _ _ _ q
 ·rcases T k x y b d with⟨rfl,rfl,rfl,q⟩ | ⟨k1,_,q⟩
  ·rcases T k' x' y' b wx with⟨rfl,rfl,rfl,_⟩ | ⟨k2,_,r⟩
   ·exact⟨rfl,rfl,rfl⟩
   ·exact absurd q (W8 _ _ _ _ k2 r)
  ·rcases T k' x' y' b wx with⟨rfl,rfl,rfl,r⟩ | ⟨k2,_,r⟩
   ·exact absurd r (W8 _ _ _ _ k1 q)
   ·exact hc.ok.hh b _ _ _ _ _ _ q r
variable {C:Start}{env:Env}{a:Act}
theorem rv.turn (hs:rv C μ h S env a w) {μ':Mu} (hf:Fr μ h S w μ' h1 S w) (hc:Core μ' h1 S w):rv C μ' h1 S env a w:=
 ⟨hc,hs.fr.trans hf,λt=>(hs.tmps t).fr hf hs.core.ok,hs.size,hs.far,hs.defers⟩
theorem rv.ex (hs:rv C μ h S env a w) (b:Km h h1):∃μ',rv C μ' h1 S env a w:=by
 obtain⟨μ',hf,hc⟩:=OD hs.core b;exact⟨μ',hs.turn hf hc⟩
theorem rv.ab (hs:rv C μ h S env a w) {id i j sub:Nat} {h1:(Nat->Prop)->List ar} (b:∀F,G1 h id i j sub F (h1 F)):∃F,rv C μ (h1 F) S env a w:=by
 obtain⟨hf,hc⟩:=OE hs.core (b (FAb μ h sub));exact⟨_,hs.turn hf hc⟩
end
section
variable {P:Program}{T:sI}{μ:Mu}{h η:List ar}{k:List Nat}{S:Nat->Prop}{w:World}{C:Start}{env:Env}{a:Act}
theorem rv.agree (hs:rv C μ h S env a w) {w':World} (b:da w w'):rv C μ h S env a w':=
 ⟨⟨hs.core.heap.agree b hs.core.ok,hs.core.ok.agree b⟩,hs.fr.trans (Fr.zd b),λt=>(hs.tmps t).fr (Fr.zd b) hs.core.ok,hs.size,hs.far,hs.defers⟩
theorem Eg {pv:PV} {v:Value} {w w':World} {μ μ':Mu} {h h':List ar} {S S':Nat->Prop} (hs:zc pv=true) (hv:cw μ h S w pv v):cw μ' h' S' w' pv v/\∀a:Value,cw μ' h' S' w' pv a->a=v:=by
 cases pv with
 | int k n=>obtain rfl:=hv.mM;exact⟨bz.int _ _,λa h'=>h'.mM⟩
 | bool b=>obtain rfl:=hv.oZ;exact⟨bz.bool _,λa h'=>h'.oZ⟩
 | str s=>obtain rfl:=hv.pF;exact⟨bz.str _,λa h'=>h'.pF⟩
 | au=>obtain rfl:=hv.tj;exact⟨bz.au,λa h'=>h'.tj⟩
 | _=>cases hs
def GG:PV->Value
 | .int k n=>.int k n
 | .bool b=>.bool b
 | .str s=>.string ⟨⟨s⟩⟩
 | .au=>.slice none 0 0
 | _=>undef
theorem uL {pv:PV} {w:World} {μ:Mu} {h:List ar} {S:Nat->Prop} (hs:zc pv=true):cw μ h S w pv (GG pv):=by
 cases pv with
 | int k n=>exact bz.int _ _
 | bool b=>exact bz.bool _
 | str s=>exact bz.str _
 | au=>exact bz.au
 | _=>cases hs
theorem Nu {P:Program} {K:Env->Prop} (all:List Oper) (o:Oper) (rest:List Oper) (env:Env) (h:List ar) {j:Nat} {want:Bool} (hg:o.guard=some (j,want)):
  yU P T all h K (o::rest) env=(match(all[j]?).bind (·.dst)with
     | some t=>match env t with
      | .bool b=>eN b
        (match(generalizing:=false) want with
         | true=>Zm P T o.op (tR env t (.bool true)) h (λv=>yU P T all h K rest (eQ (tR env t (.bool true)) o.dst v))
         | false=>yU P T all h K rest (eQ (tR env t (.bool true)) o.dst (.hJ [])))
        (match(generalizing:=false) want with
         | true=>yU P T all h K rest (eQ (tR env t (.bool false)) o.dst (.hJ []))
         | false=>Zm P T o.op (tR env t (.bool false)) h (λv=>yU P T all h K rest (eQ (tR env t (.bool false)) o.dst v)))
      | .hJ []=>yU P T all h K rest (eQ env o.dst (.hJ []))
      | _=>False
     | none=>False):=by
 obtain⟨dst,op,ty,pos,after,guard⟩:=o;have hg:guard=some (j,want):=hg;rw[hg];rfl
theorem vO (x:dL P T) (ops:Array Oper) {K:Env->Prop} {Q:Act->Prop} (h:List ar) (w:World) (μ:Mu) (S:Nat->Prop) (y:∀env a,K env->rv C μ h S env a w->Q a):
  ∀(l:List Oper) (env:Env) (a:Act),yU P T ops.toList h K l env->(∀o∈l,tG C.nt o=true)->rv C μ h S env a w->wpQuiet P ops (da w) Q l a
 | [],env,a,hp,_,hs=>y env a hp hs
 | o::rest,env,a,hp,hd,hs=>by
  have z:∀t,o.dst=some t->t<C.nt:=λt A=>by
   have:=hd o ajq;unfold tG at this;rw[A]at this;simpa using this
  have n:∀o∈rest,tG C.nt o=true:=λo O=>hd o (by simp [O])
  have run:∀env',rv C μ h S env' a w->Zm P T o.op env' h (λv=>yU P T ops.toList h K rest (eQ env' o.dst v))->o.quiet P a (da w) (wpQuiet P ops (da w) Q rest):=λenv' d g=>by
   obtain⟨dst,op,ty,pos,after,guard⟩:=o
   have still:de T op env' h (λv=>yU P T ops.toList h K rest (eQ env' dst v))->Oper.quiet P ⟨dst,op,ty,pos,after,guard⟩ a (da w) (wpQuiet P ops (da w) Q rest):=λg=>by
    obtain⟨v,val,q,hv,R⟩:=qB (P:=P) (env:=env') x d.core.heap d.tmps (dst:=dst) (ty:=ty) (pos:=pos) (after:=after) (guard:=guard) g;refine⟨val,λw' i=>?_,vO x ops h w μ S y rest _ _ q n (d.put Fr.refl d.core hv z)⟩;unfold Oper.quietAt;rw[R w' i];exact ajb
   cases op with
   | call c=>
    obtain⟨B,args,U⟩:=c;cases B with
    | value D=>
     have J:=cM d.tmps D;change Td P (ev env' D) (args.toList.map (ev env')) h _ at g
     unfold Td at g;split at g
     ·rename_i f E;rw[E]at J;replace g:=ck g;obtain⟨W5,gM,v,V,F,⟨⟨fn,c,W,X,Y⟩,Z⟩,q⟩:=g;obtain⟨r,q⟩:=ck q;refine⟨GG v,λw' i=>?_,vO x ops h w μ S y rest _ _ q n (d.put Fr.refl d.core (uL r) z)⟩;have G:=d.agree i;obtain⟨hl,H⟩:=wB.get _ _ V;have L:=(Ag (k:=[]) (η:=[]) (m:=0) G.core trivial rfl).1
      have Li:=Z w' (args.map a.eval) (oB μ h []) (GF μ h [] S) L.heap L.ok (by simpa using hl.symm) (λj I hj=>by
       have M:j<args.toList.length:=by have:=(An.1 hj).1;simpa[hl]using this
       have hx:(args.toList.map (ev env'))[j]? =some (ev env' args.toList[j]):=by rw[agd,No M];rfl
       refine⟨a.eval args.toList[j],by rw[ahO];have:=No M;simp only[agn]at this;rw[this];rfl,?_⟩;have hv:=(xj (k:=[]) (η:=[]) (m:=0) G.core trivial (H j _ I hx hj)).2.2 _ (cM G.tmps args.toList[j]);have rN:=(afS.1 F) I (afX hj);cases I with
       | hJ ps=>cases rN
       | _=>exact hv)
      have nL:(execOp a.eval ⟨dst,.call ⟨.value D,args,U⟩,ty,pos,after,guard⟩).run P w'=.ok (.enter f (args.map a.eval)) w':=by
       simp only[execOp,resolve,J.RF,Deferred.ofValue,invoke,callFunc,Sem.run_bind,Sem.run_pure,Result.andThen_ok,Array.append_empty,ahz];have D6:¬fn.name= "runtime.NumGoroutine" :=by simpa using Y
       simp [program,Sem.run,Result.andThen,W,D6,X]
      unfold Oper.quietAt;rw[nL];refine⟨rfl,Li.mono λe N ⟨u,res,h',μ',S',he,hR,hv,hH,hM,s⟩=>?_⟩;subst hR;have hu:=(Eg (w':=w) (μ':=μ) (h':=h) (S':=S) r (uL (w:=N) (μ:=μ') (h:=h') (S:=S') r)).1;have IU:=(Eg (w':=N) (μ':=μ') (h':=h') (S':=S') r (uL (w:=w) (μ:=μ) (h:=h) (S:=S) r)).2 u hv;refine⟨by rw[he,IU],i.trans ⟨λb hb=>s.blocks b hb mz,s.size,s.os,s.tape,s.output⟩⟩
     ·exact g.elim
    | _=>exact still g
   | _=>exact still g
  have skip:∀env',rv C μ h S env' a w->yU P T ops.toList h K rest (eQ env' o.dst (.hJ []))->wpQuiet P ops (da w) Q rest (a.put o.dst undef):=λenv' d g=>
   vO x ops h w μ S y rest _ _ g n (d.put Fr.refl d.core yQ z)
  unfold wpQuiet;cases hg:o.guard with
  | none=>
   have hp:Zm P T o.op env h (λv=>yU P T ops.toList h K rest (eQ env o.dst v)):=by
    exact aiq
   rw[an (by simp [Region.wanted,hg])];exact run env hs hp
  | some p=>
   obtain⟨j,want⟩:=p;rw[Nu ops.toList o rest env h hg]at hp;split at hp
   ·rename_i t hj;split at hp
    ·rename_i b he;have hy:=yP hs hj he;obtain⟨A,hf⟩:=lZ hp;have d:=hs.Ea he;cases b with
     | true=>
      have hp:=A rfl;cases want with
      | true=>rw[an ajw];exact run _ d hp
      | false=>rw[mg ajw];exact skip _ d hp
     | false=>
      have hp:=hf rfl;cases want with
      | true=>rw[mg ajw];exact skip _ d hp
      | false=>rw[an ajw];exact run _ d hp
    ·rename_i he;rw[mg ajL];exact skip _ hs hp
    ·exact aiI
   ·exact aiI
theorem A5:∀(σ:List (Nat×PV)) (t:Nat),zm h η k env σ->(∃v,Fz h η k (env t) v/\Cb sr σ t=v)\/Cb sr σ t=.jI
 | [],t,_=>.inr rfl
 | (b,v)::r,t,hh=>by
  obtain⟨h1,h2⟩:=hh;by_cases a:t=b
  ·subst a;exact .inl ⟨v,h1,by simp [Cb,D9]⟩
  ·simp only[Cb];rw[Iv _ _ a];exact A5 r t h2
theorem GH (hs:rv C μ h S env a w) {σ:List (Nat×PV)} (b:zQ C.h.length env h σ η):∃μ' S',rv C μ' η S' (Cb sr σ) a w:=by
 obtain⟨k,hk,hm,he,hh⟩:=b;obtain⟨c,_,_⟩:=Ag hs.core hh hk;refine⟨oB μ h k,GF μ h k S,c,W6 hs.core hs.fr hh hk hm,λt=>?_,hs.size,λt d=>?_,hs.defers⟩
 ·rcases A5 σ t he with⟨v,h1,h2⟩ | h1
  ·rw[h2];exact(xj hs.core hh h1).2.2 _ (hs.tmps t)
  ·rw[h1];trivial
 ·rcases A5 σ t he with⟨v,h1,h2⟩ | h1
  ·rw[hs.far t d]at h1;rw[h2];cases h1;rfl
  ·exact h1
theorem Eb.mono {Q b:XQ} {e:Exit} {w:World} (c:∀env h,Q e env h->b e env h) (hl:Eb C Q e a w):Eb C b e a w:=by
 obtain⟨μ,h,S,env,hs,d⟩:=hl;exact⟨μ,h,S,env,hs,c env h d⟩
theorem um:∀(l:List Nat) (x:Nat),rU l x=true->x∈l
 | [],_,h=>by cases h
 | a::r,x,h=>by
  unfold rU at h;split at h
  ·rename_i hb;have:=afM hb;simp [this]
  ·exact agm _ (um r x h)
theorem vP (k:dL P T) (ops:Array Oper) {K:Env->List ar->Prop} {Q:Exit->Act->World->Prop} {next:Act->World->Prop} (f:∀env h a w μ S,K env h->rv C μ h S env a w->next a w) (i:Nat) (o:Oper) (l:ops[i]? =some o)
  (hd:tG C.nt o=true) (env:Env) (h:List ar) (a:Act) (w:World) (μ:Mu) (S:Nat->Prop) (hp:xk P T ops.toList K [o] env h) (hs:rv C μ h S env a w):wpOp P ops Q i next a w:=by
 have g:∀t,o.dst=some t->t<C.nt:=λt d=>by
  unfold tG at hd;rw[d]at hd;simpa using hd
 have run:∀env',rv C μ h S env' a w->pop P T o.op env' h (λv h'=>K (eQ env' o.dst v) h')->o.wp P a w next Q:=λenv' c e=>by
  obtain⟨dst,op,ty,pos,after,guard⟩:=o;refine GC (env:=env') k c.core c.tmps e _ _ λv val h' μ' S' w' m hv hc hf=>?_;exact f _ h' _ w' μ' S' m (c.put hf hc hv g)
 have skip:∀env',rv C μ h S env' a w->K (eQ env' o.dst (.hJ [])) h->next (a.put o.dst undef) w:=λenv' c e=>
  f _ h _ w μ S e (c.put Fr.refl c.core yQ g)
 unfold wpOp;simp only[l];cases hg:o.guard with
 | none=>
  have hp:pop P T o.op env h (λv h'=>K (eQ env o.dst v) h'):=by
   exact aiq
  rw[an (by simp [Region.wanted,hg])];exact .inl (run env hs hp)
 | some p=>
  obtain⟨j,want⟩:=p;rw[yR ops.toList o [] env h hg]at hp;split at hp
  ·rename_i t hj;split at hp
   ·rename_i b he;have hy:=yP hs hj he;obtain⟨d,hf⟩:=lZ hp;have c:=hs.Ea he;cases b with
    | true=>
     have hp:=d rfl;cases want with
     | true=>rw[an ajw];exact .inl (run _ c hp)
     | false=>rw[mg ajw];exact skip _ c hp
    | false=>
     have hp:=hf rfl;cases want with
     | true=>rw[mg ajw];exact skip _ c hp
     | false=>rw[an ajw];exact .inl (run _ c hp)
   ·rename_i he;rw[mg ajL];exact skip _ hs hp
   ·exact aiI
  ·exact aiI
theorem Te {op:Op} {env:Env} {h:List ar} {G:PV->List ar->Prop} (hs:de T op env h (λv=>G v h)):pop P T op env h G:=by
 cases op with
 | store t a x=>exact hs.elim
 | box t x=>exact hs.elim
 | alloc t=>exact hs.elim
 | makeSlice t l c=>exact hs.elim
 | buildSlice t len parts=>exact hs.elim
 | convert s d x=>
  simp only[pop];split
  ·rename_i e e2 f;simp only[de,e,e2,f]at hs
  ·exact hs
 | binOp g t x y ty=>
  simp only[pop];split
  ·rename_i e e2 f;simp only[de,Pa,e,e2,f]at hs
  ·exact hs
 | makeMap t r=>exact hs.elim
 | mapUpdate t m k x=>exact hs.elim
 | call c=>
  obtain⟨callee,args,i⟩:=c;cases callee with
  | value j=>exact hs.elim
  | builtin b=>cases b with
   | append=>exact hs.elim
   | copy=>exact hs.elim
   | _=>(simp only[pop];exact hs)
  | _=>(simp only[pop];exact hs)
 | _=>(simp only[pop];exact hs)
theorem Eh {st:Bool} {op:Op} {env:Env} {h:List ar} {G:PV->List ar->Prop} (hs:FE P T st op env h G):pop P T op env h G:=by
 cases st with
 | true=>exact Te hs
 | false=>exact hs
theorem Cx {all:List Oper} {st:Bool} {o:Oper} {K:Env->List ar->Prop} {env:Env} {h:List ar} (hp:fs P T all st o (λv h'=>K (eQ env o.dst v) h') env h):xk P T all K [o] env h:=by
 unfold fs at hp;cases hg:o.guard with
 | none=>
  rw[hg]at hp;obtain⟨dst,op,ty,pos,after,guard⟩:=o;have hg:guard=none:=hg;subst hg;exact Eh hp
 | some q=>
  obtain⟨j,want⟩:=q;rw[hg]at hp;rw[yR all o [] env h hg];simp only at hp ⊢;generalize(all[j]?).bind (·.dst)=d at hp ⊢;cases d with
  | none=>exact hp.elim
  | some t=>
   simp only at hp ⊢;generalize hv:env t=v at hp ⊢;cases v with
   | bool b=>
    simp only at hp ⊢;cases b with
    | true=>
     refine .mk (λ_=>?_) (λhc=>by cases hc);rw[Cy hv];cases want with
     | true=>exact Eh hp
     | false=>exact hp
    | false=>
     refine .mk (λhc=>by cases hc) (λ_=>?_);rw[Cy hv];cases want with
     | true=>exact hp
     | false=>exact Eh hp
   | hJ l=>cases l with
    | nil=>exact hp
    | cons a r=>exact hp.elim
   | _=>exact hp.elim
inductive LN (all:List Oper):Nat->Nat->Prop
 | base {x i:Nat} (h:x∈dE all i):LN all x i
 | step {x d i:Nat} (h:d∈dE all i) (hx:LN all x d):LN all x i
theorem Iw:∀(l acc:List Nat) (x:Nat),x∈ddL l acc->x∈l\/x∈acc
 | [],acc,x,h=>.inr h
 | a::r,acc,x,h=>by
  unfold ddL at h;cases hi:rU acc a with
  | true=>rw[hi]at h;exact(Iw r acc x h).imp (agm _) id
  | false=>
   rw[hi]at h;rcases Iw r (a::acc) x h with h | h
   ·exact .inl (agm _ h)
   ·simp only[afW]at h;rcases h with rfl | h
    ·exact .inl ajq
    ·exact .inr h
theorem Ah:∀(l:List Nat) (x:Nat),x∈l->rU l x=true
 | a::r,x,h=>by
  unfold rU;cases hb:Nat.beq a x with
  | true=>rfl
  | false=>
   simp only[afW]at h;rcases h with rfl | h
   ·rw[ahc]at hb;cases hb
   ·exact Ah r x h
theorem A6 {all:List Oper}:∀(ord:List (Nat×Bool)) (t:List (Nat×List Nat)),(∀i x,rU (fS t i) x=true->LN all x i)->∀i x,rU (fS (Ix all ord t) i) x=true->LN all x i
 | [],t,hg=>hg
 | (j,b)::r,t,hg=>A6 r _ (λi x a=>by
  unfold fS at a;cases hb:Nat.beq j i with
  | false=>rw[hb]at a;exact hg i x a
  | true=>
   rw[hb]at a;have:=afM hb;subst this;rcases Iw _ _ _ (um _ _ a)with hm | hm
   ·rw[afY,List.mem_flatMap]at hm;rcases hm with hm | ⟨d,hd,hm⟩
    ·exact .base hm
    ·exact .step hd (hg d x (Ah _ _ hm))
   ·simp at hm)
theorem mu {ops:Array Oper} {t:List (Nat×List Nat)} {p:Nat×Bool}:∀(l1 c:List (Nat×Bool)),cZ ops t (l1++p::c)=true->(∀o,o∈l1->jD ops t o p=true)/\cZ ops t (l1++c)=true
 | [],c,h=>by
  simp only[agD,cZ,As]at h;exact⟨λo b=>by simp at b,h.2⟩
 | a::l1,c,h=>by
  simp only[agS,cZ,As,afS]at h ⊢;obtain⟨h1,h2⟩:=mu l1 c h.2;refine⟨λo b=>?_,λq d=>h.1 q (by simp only[afY,afW]at d ⊢;exact d.imp id .inr),h2⟩;simp only[afW]at b;rcases b with rfl | b
  ·exact h.1 p ajq
  ·exact h1 o b
theorem vQ {ops:Array Oper} {i:Nat} {o:Oper} (b:ops[i]? =some o) {d:Nat}:d∈dE ops.toList i↔∃e,e∈o.after/\Region.binds .any e=true/\e.on=d:=by
 unfold dE;have:ops.toList[i]? =some o:=by simpa using b
 rw[this];unfold Tf;rw[List.mem_filterMap];constructor
 ·rintro⟨e,he,a⟩;cases hb:Region.binds .any e with
  | true=>rw[hb]at a;exact⟨e,by simpa using he,hb,by simpa using a⟩
  | false=>rw[hb]at a;cases a
 ·rintro⟨e,he,hb,a⟩;exact⟨e,by simpa using he,by rw[hb];simp [a]⟩
theorem Iy (hT:dL P T) (ops:Array Oper) {t:List (Nat×List Nat)} (qb:∀i x,rU (fS t i) x=true->LN ops.toList x i) (z:∀i,i<ops.size->∀d,d∈dE ops.toList i->d<ops.size/\d≠i)
  {K:Env->List ar->Prop} {Q:Exit->Act->World->Prop} (hK:∀env h a w μ S,K env h->rv C μ h S env a w->Q .normal a w) (hd:∀o∈ops.toList,tG C.nt o=true):
  ∀(n:Nat) (l:List (Nat×Bool)) (k:List (Nat×List Nat)) (listed:Array Bool) (env:Env) (h:List ar) (a:Act) (w:World) (μ:Mu) (S:Nat->Prop),l.length=n->cZ ops t l=true->(∀p,p∈l->p.1<ops.size)->listed.size=ops.size->
   (∀j,j<ops.size->(listed.getD j true=false↔j∈l.map (·.1)))->(∀j,j<ops.size->j∉l.map (·.1)->∀d,d∈dE ops.toList j->d∉l.map (·.1))->Nv P T ops.toList t K l k env h->rv C μ h S env a w->wpAny P .any ops Q n listed a w
 | 0,l,k,listed,env,h,a,w,μ,S,G,_,_,H,m,_,hf,hs=>by
  obtain rfl:l=[]:=List.length_eq_zero_iff.1 G;refine⟨?_,hK env h a w μ S hf hs⟩;cases hr:Region.ready .any ops listed with
  | nil=>rfl
  | cons j r=>
   have hj:j∈Region.ready .any ops listed:=by rw[hr];simp
   rw[mem_ready]at hj;obtain⟨h1,o,I,_⟩:=hj;have:=(m j (afN.1 I).1).1 h1;simp at this
 | n+1,l,k,listed,env,h,a,w,μ,S,G,J,cy,H,m,Qt,hf,hs=>by
  have A:∀d,d<ops.size->(listed.getD d false=true↔d∉l.map (·.1)):=λd W7=>by
   have:=m d W7;have e:listed.getD d false=listed.getD d true:=by simp [Array.getD,H,W7]
   rw[e,<-this];cases listed.getD d true<;>simp
  refine⟨λh0=>?_,λi hi=>?_⟩
  ·exfalso;cases l with
   | nil=>simp at G
   | cons p r=>
    have hp:=cy p ajq;have I:=agk hp
    have:p.1∈Region.ready .any ops listed:=by
     rw[mem_ready];refine⟨(m p.1 hp).2 ajq,_,I,λe he hb=>?_⟩;have hm:e.on∈dE ops.toList p.1:=(vQ I).2 ⟨e,he,hb,rfl⟩;obtain⟨d1,d2⟩:=z p.1 hp _ hm;rw[A _ d1];intro hc;simp only[afO,afW,ags]at hc;rcases hc with hc | ⟨q,c,hc⟩
     ·exact d2 hc
     ·simp only[cZ,As,afS]at J;have:=J.1 q c;unfold jD at this;simp only[As,agA]at this;rw[hc,Ah _ _ hm]at this;exact absurd this.1.2 ajq
    rw[h0]at this;simp at this
  ·rw[mem_ready]at hi;obtain⟨h1,L,M,Tg⟩:=hi;have O:=(afN.1 M).1
   have R:∀d,d∈dE ops.toList i->d∉l.map (·.1):=λd s=>by
    obtain⟨e,he,hb,rfl⟩:=(vQ M).1 s;exact(A _ (z i O _ s).1).1 (Tg e he hb)
   have IB:∀x,LN ops.toList x i->x∉l.map (·.1):=by
    have gen:∀x j,LN ops.toList x j->j<ops.size->(∀d,d∈dE ops.toList j->d∉l.map (·.1))->x∉l.map (·.1):=λx j U=>by
     induction U with
     | base hx=>exactλ_ hj=>hj _ hx
     | step s _ V=>exactλhj W=>V (z _ hj _ s).1 (Qt _ (z _ hj _ s).1 (W _ s))
    exactλx U=>gen x i U O R
   obtain⟨p,hp,B⟩:=ags.1 ((m i O).1 h1);obtain⟨l1,g,rfl⟩:=List.append_of_mem hp;obtain⟨f,st⟩:=p;simp only at B;subst B;obtain⟨D,X⟩:=mu l1 g J;have Nw:ops.toList[f]? =some L:=by simpa using M
   have Zo:=Lo (P:=P) (T:=T) (ops:=ops) (t:=t) (K:=K) Nw l1 g k env h (λq c=>by
    have hk:=D q c;unfold jD at hk;simp only[As,ahe,agA]at hk;have E:q.1∈(l1++(f,st)::g).map (·.1):=ags.2 ⟨q,by simp [c],rfl⟩
    have F:rU (fS t f) q.1=false:=by
     cases hb:rU (fS t f) q.1 with
     | false=>rfl
     | true=>exact absurd E (IB _ (qb _ _ hb))
    rcases hk.2 with xT | ⟨Y,u⟩
    ·exact absurd E (R _ (um _ _ xT))
    ·refine⟨?_,F,Y⟩;rcases u with u | u
     ·exact u
     ·rw[F]at u;cases u) hf
   have rN:∀q,q∈l1++g->q.1≠f:=λq c=>by
    rw[afY]at c;rcases c with c | c
    ·have hk:=D q c;unfold jD at hk;simp only[As,agA]at hk;intro he;have this:Nat.beq q.1 f=false:=hk.1.1;rw[he,ahc]at this;cases this
    ·have:∀(l1:List (Nat×Bool)),cZ ops t (l1++(f,st)::g)=true->jD ops t (f,st) q=true:=λl1=>by
      induction l1 with
      | nil=>intro hh;simp only[agD,cZ,As,afS]at hh;exact hh.1 q c
      | cons b r V=>intro hh;simp only[agS,cZ,As]at hh;exact V hh.2
     have hk:=this l1 J;unfold jD at hk;simp only[As,agA]at hk;intro he;have:=hk.1.1;rw[he]at this;rw[ahc]at this;cases this
   have N:∀j,j∈(l1++(f,st)::g).map (·.1)↔j=f\/j∈(l1++g).map (·.1):=λj=>by
    simp only[ahf,afO,afY,afW];constructor
    ·rintro(h | h | h)
     ·exact .inr (.inl h)
     ·exact .inl h
     ·exact .inr (.inr h)
    ·rintro(h | h | h)
     ·exact .inr (.inl h)
     ·exact .inl h
     ·exact .inr (.inr h)
   have Vs:f∉(l1++g).map (·.1):=λhm=>by
    obtain⟨q,c,he⟩:=ags.1 hm;exact rN q c he
   have Ei:xk P T ops.toList (λenv' h'=>Nv P T ops.toList t K (l1++g) k env' h') [L] env h:=Cx (ju (λv h' hk=>hk.2.2) Zo);refine vP hT ops (λenv' h' a' w' μ' S' hk om=>Iy hT ops qb z hK hd n (l1++g) k _ env' h' a' w' μ' S' (by simp at G ⊢;omega) X (λq c=>cy q (by rw[afY]at c ⊢;exact c.imp id (agm _))) (by simpa using H) (λj hj=>?_) (λj hj Z dd Ox=>?_) hk om) f L M (hd L (by have:=(An.1 Nw);obtain⟨h1,h2⟩:=this;rw[<-h2];exact afQ h1)) env h a w μ S Ei hs
   ·by_cases y:j=f
    ·subst y;constructor
     ·intro hc;have:(listed.setIfInBounds j true).getD j true=true:=by simp [Array.getD,H,hj]
      rw[this]at hc;cases hc
     ·intro hc;exact absurd hc Vs
    ·have e:(listed.setIfInBounds f true).getD j true=listed.getD j true:=getD_set_ne true (agX y);rw[e,m j hj,N j];constructor
     ·rintro(h | h)
      ·exact absurd h y
      ·exact h
     ·exact .inr
   ·by_cases y:j=f
    ·subst y;exactλhm=>R dd Ox ((N dd).2 (.inr hm))
    ·exactλhm=>Qt j hj (λhc=>by rcases(N j).1 hc with hc | hc;exact y hc;exact Z hc) dd Ox ((N dd).2 (.inr hm))
theorem Ej {ops:Array Oper} {listed:Array Bool} {i:Nat} {L L':List Nat} (b:∀j,j∈L↔j=i\/j∈L') (g:i∉L') (k:listed.size=ops.size) (l:∀j,j<ops.size->(listed.getD j true=false↔j∈L))
  (m:∀j,j<ops.size->j∉L->∀d,d∈dE ops.toList j->d∉L) (n:∀d,d∈dE ops.toList i->d∉L):
  (∀j,j<ops.size->((listed.setIfInBounds i true).getD j true=false↔j∈L'))/\∀j,j<ops.size->j∉L'->∀d,d∈dE ops.toList j->d∉L':=by
 refine⟨λj hj=>?_,λj hj c d f hm=>?_⟩
 ·by_cases a:j=i
  ·subst a;constructor
   ·intro hc;have:(listed.setIfInBounds j true).getD j true=true:=by simp [Array.getD,k,hj]
    rw[this]at hc;cases hc
   ·intro hc;exact absurd hc g
  ·have e:(listed.setIfInBounds i true).getD j true=listed.getD j true:=getD_set_ne true (agX a);rw[e,l j hj,b j];exact⟨λh=>h.resolve_left a,.inr⟩
 ·by_cases a:j=i
  ·subst a;exact n d f ((b d).2 (.inr hm))
  ·exact m j hj (λhc=>by rcases(b j).1 hc with hc | hc;exact a hc;exact c hc) d f ((b d).2 (.inr hm))
theorem xH {ops:Array Oper} {t:List (Nat×List Nat)} {p q:Nat×Bool} (h:jD ops t p q=true):p.1≠q.1:=by
 unfold jD at h;simp only[As,agA]at h;intro he;have:=h.1.1;rw[he,ahc]at this;cases this
theorem Nx {ops:Array Oper} {t:List (Nat×List Nat)} {p q:Nat×Bool} (h:jD ops t p q=true):q.1∉dE ops.toList p.1:=by
 unfold jD at h;simp only[As,agA]at h;intro hm;have:=h.1.2;rw[Ah _ _ hm]at this;cases this
theorem tH {ops:Array Oper} {t:List (Nat×List Nat)} {p q:Nat×Bool}:∀(l1 a:List (Nat×Bool)),cZ ops t (l1++p::a)=true->q∈a->jD ops t p q=true
 | [],a,h,b=>by simp only[agD,cZ,As,afS]at h;exact h.1 q b
 | _::l1,a,h,b=>by simp only[agS,cZ,As]at h;exact tH l1 a h.2 b
theorem Ek {ops:Array Oper} {t:List (Nat×List Nat)} (f:∀i x,rU (fS t i) x=true->LN ops.toList x i) {L:List Nat} {q:Nat×Bool} {i:Nat} {st:Bool} (hk:jD ops t q (i,st)=true) (b:q.1∈L) (g:∀d,d∈dE ops.toList i->d∉L) (h:∀x,LN ops.toList x i->x∉L):
  q.2=true/\rU (fS t i) q.1=false/\xI ops q.1 i=true:=by
 unfold jD at hk;simp only[As,ahe,agA]at hk
 have c:rU (fS t i) q.1=false:=by
  cases hb:rU (fS t i) q.1 with
  | false=>rfl
  | true=>exact absurd b (h _ (f _ _ hb))
 rcases hk.2 with j | ⟨e,a⟩
 ·exact absurd b (g _ (um _ _ j))
 ·refine⟨?_,c,e⟩;rcases a with a | a
  ·exact a
  ·rw[c]at a;cases a
def Left (ops:Array Oper) (l:List (Nat×Bool)) (R:List Nat) (listed:Array Bool):Prop:=
 listed.size=ops.size/\(∀j,j<ops.size->(listed.getD j true=false↔j∈l.map (·.1)++R))/\∀j,j<ops.size->j∉l.map (·.1)++R->∀d,d∈dE ops.toList j->d∉l.map (·.1)++R
def Zp (P:Program) (T:sI) (C:Start) (ops:Array Oper) (t:List (Nat×List Nat)) (Q:Exit->Act->World->Prop) (E:List (Nat×List Nat)->Env->List ar->Prop) (R:List Nat) (c:List (Nat×Bool)->Prop):Prop:=
 ∀(l:List (Nat×Bool)) (b:List (Nat×List Nat)) (listed:Array Bool) (env:Env) (h:List ar) (a:Act) (w:World) (μ:Mu) (S:Nat->Prop),c l->(∀p,p∈l->p.1<ops.size)->Left ops l R listed->
  oQ P T ops.toList t E l b env h->rv C μ h S env a w->wpAny P .any ops Q (l.length+R.length) listed a w
theorem OF (f:dL P T) (ops:Array Oper) {t:List (Nat×List Nat)} (g:∀i x,rU (fS t i) x=true->LN ops.toList x i) (j:∀i,i<ops.size->∀d,d∈dE ops.toList i->d<ops.size/\d≠i)
  {K:Env->List ar->Prop} {Q:Exit->Act->World->Prop} (k:∀env h a w μ S,K env h->rv C μ h S env a w->Q .normal a w) (hd:∀o∈ops.toList,tG C.nt o=true) (A:List (Nat×Bool)) (m:∀p,p∈A->p.1<ops.size):
  Zp P T C ops t Q (λb env h=>Nv P T ops.toList t K A b env h) (A.map (·.1)) (λl=>cZ ops t (l++A)=true):=by
 intro l b listed env h a w μ S hc n r hf hs;obtain⟨s,c,e⟩:=r;rw[show l.length+(A.map (·.1)).length=(l++A).length from by simp];rw[<-ahf]at c e;exact Iy f ops g j k hd _ (l++A) b listed env h a w μ S rfl hc (λp hp=>by rcases afY.1 hp with q | q;exact n p q;exact m p q) s c e (xl l b env h hf) hs
theorem Vt {ops:Array Oper} {t:List (Nat×List Nat)} {Q:Exit->Act->World->Prop} {E:List (Nat×List Nat)->Env->List ar->Prop} {R:List Nat} {c:List (Nat×Bool)->Prop} (f:Zp P T C ops t Q E R c) (b:List (Nat×Bool)) (h1:∀p,p∈b->p.1<ops.size):
  Zp P T C ops t Q (λd env h=>oQ P T ops.toList t E b d env h) (b.map (·.1)++R) (λl=>c (l++b)):=by
 intro l d listed env h a w μ S hc g i hf hs;have e:(l++b).map (·.1)++R=l.map (·.1)++(b.map (·.1)++R):=by simp
 have:=f (l++b) d listed env h a w μ S hc (λp hp=>by rcases afY.1 hp with q | q;exact g p q;exact h1 p q) (by unfold Left;rw[e];exact i) (xm l d env h hf) hs;rw[show l.length+(b.map (·.1)++R).length=(l++b).length+R.length from by simp;omega];exact this
structure BrC (ops:Array Oper) (t:List (Nat×List Nat)) (x y:Nat) (R:List Nat) (cX cY:List (Nat×Bool)->Prop) (l:List (Nat×Bool)):Prop where
 pw:cZ ops t l=true
 hd:∀p,p∈l->jD ops t p (x,false)=true/\jD ops t p (y,false)=true/\(∀d,d∈dE ops.toList p.1->d∉R)/\p.1∉R
 x:cX l
 y:cY l
theorem Zq (hT:dL P T) (ops:Array Oper) {t:List (Nat×List Nat)} (I:∀i x,rU (fS t i) x=true->LN ops.toList x i) (J:∀i,i<ops.size->∀d,d∈dE ops.toList i->d<ops.size/\d≠i)
  {Q:Exit->Act->World->Prop} (hd:∀o∈ops.toList,tG C.nt o=true) {x y:Nat} {c u:List Nat} {A B:List (Nat×List Nat)->Env->List ar->Prop} {cX cY:List (Nat×Bool)->Prop} (K:wk A) (L:wk B)
  (hX:Zp P T C ops t Q A c cX) (hY:Zp P T C ops t Q B u cY) (aa:∀l1 p g,cX (l1++p::g)->cX (l1++g)) (ad:∀l1 p g,cY (l1++p::g)->cY (l1++g))
  (hlen:c.length=u.length) (M:∀j,j∈x::c↔j∈y::u) (Z7:x<ops.size) (ag:∀d,d∈dE ops.toList x->d∉x::c) (aq:x∉c) (aA:y∉u) (a0:∀j,j∈c->j=y\/rU (fS t j) x=true\/rU (fS t j) y=true):
  Zp P T C ops t Q (λf env h=>oQ P T ops.toList t A [(x,false)] f env h/\oQ P T ops.toList t B [(y,false)] f env h) (x::c) (BrC ops t x y (x::c) cX cY):=by
 have hE:wk (λf env h=>oQ P T ops.toList t A [(x,false)] f env h/\oQ P T ops.toList t B [(y,false)] f env h):=GI (tI K _) (tI L _);intro l;generalize hn:l.length=n;induction n generalizing l with
 | zero=>?z
 | succ n ih=>?s
 all_goals
  intro f listed env h a w μ S hc cy hL hf hs;obtain⟨D,F,Qt⟩:=hL
  have N:∀d,d<ops.size->(listed.getD d false=true↔d∉l.map (·.1)++x::c):=λd W7=>by
   have:=F d W7;have e:listed.getD d false=listed.getD d true:=by simp [Array.getD,D,W7]
   rw[e,<-this];cases listed.getD d true<;>simp
  refine⟨λh0=>?_,λi hi=>?_⟩
 case z.refine_1 | s.refine_1=>
  exfalso
  have first:∃p,p<ops.size/\p∈l.map (·.1)++x::c/\∀d,d∈dE ops.toList p->d∉l.map (·.1)++x::c:=by
   cases l with
   | nil=>exact⟨x,Z7,by simp,λd O hm=>ag d O (by simpa using hm)⟩
   | cons p r=>
    have hp:=cy p ajq;refine⟨p.1,hp,by simp,λd O hm=>?_⟩;rw[afY]at hm;rcases hm with hm | hm
    ·simp only[afO,afW,ags]at hm;rcases hm with rfl | ⟨q,b,rfl⟩
     ·exact(J _ hp _ O).2 rfl
     ·exact Nx (tH [] _ hc.pw b) O
    ·exact(hc.hd p ajq).2.2.1 d O hm
  obtain⟨p,hp,a1,a2⟩:=first
  have ho:=agk hp
  have:p∈Region.ready .any ops listed:=by
   rw[mem_ready];refine⟨(F p hp).2 a1,_,ho,λe he hb=>?_⟩;have hm:e.on∈dE ops.toList p:=(vQ ho).2 ⟨e,he,hb,rfl⟩;rw[N _ (J p hp _ hm).1];exact a2 _ hm
  rw[h0]at this;simp at this
 all_goals
  rw[mem_ready]at hi;obtain⟨h1,k,G,Tg⟩:=hi;have wi:=(afN.1 G).1;have Nw:ops.toList[i]? =some k:=by simpa using G
  have Zr:tG C.nt k=true:=hd k (by obtain⟨h1,h2⟩:=An.1 Nw;rw[<-h2];exact afQ h1)
  have E:∀d,d∈dE ops.toList i->d∉l.map (·.1)++x::c:=λd H=>by
   obtain⟨e,he,hb,rfl⟩:=(vQ G).1 H;exact(N _ (J i wi _ H).1).1 (Tg e he hb)
  have R:∀z,LN ops.toList z i->z∉l.map (·.1)++x::c:=by
   have gen:∀z j,LN ops.toList z j->j<ops.size->(∀d,d∈dE ops.toList j->d∉l.map (·.1)++x::c)->z∉l.map (·.1)++x::c:=λz j ha=>by
    induction ha with
    | base hx=>exactλ_ hj=>hj _ hx
    | step H _ ih=>exactλhj a3=>ih (J _ hj _ H).1 (Qt _ (J _ hj _ H).1 (a3 _ H))
   exactλz ha=>gen z i ha wi E
  have a4:y∈x::c:=(M y).2 ajq;have m:=(F i wi).1 h1;rw[afY]at m
  have split:i∈l.map (·.1)\/i=x\/i=y:=by
   rcases m with m | m
   ·exact .inl m
   ·rcases afW.1 m with rfl | b
    ·exact .inr (.inl rfl)
    ·rcases a0 i b with h2 | h2 | h2
     ·exact .inr (.inr h2)
     ·exact absurd (by simp:x∈l.map (·.1)++x::c) (R _ (I _ _ h2))
     ·exact absurd (by rw[afY];exact .inr a4) (R _ (I _ _ h2))
  have a5:∀q,q∈l->q.1∉x::c:=λq b=>(hc.hd q b).2.2.2;rcases split with m | rfl | rfl
 case z.refine_2.inl=>obtain rfl:=List.length_eq_zero_iff.1 hn;simp at m
 case s.refine_2.inl=>
  obtain⟨p,hp,U⟩:=ags.1 m;obtain⟨l1,g,rfl⟩:=List.append_of_mem hp;obtain⟨V,st⟩:=p;simp only at U;subst U;obtain⟨W,a6⟩:=mu l1 _ hc.pw;have X:=xJ hE (P:=P) (T:=T) (ops:=ops) (t:=t) Nw l1 g f env h (λq b=>Ek I (W q b) (by rw[afY];exact .inl (ags.2 ⟨q,ahK _ b,rfl⟩)) E R) hf
  have Y:V∉(l1++g).map (·.1)++x::c:=λhm=>by
   rw[afY]at hm;rcases hm with hm | hm
   ·obtain⟨q,b,he⟩:=ags.1 hm;rcases afY.1 b with b | b
    ·exact xH (W q b) he
    ·exact xH (tH l1 _ hc.pw b) he.symm
   ·exact a5 (V,st) ajq hm
  obtain⟨r1,Z⟩:=Ej (L':=(l1++g).map (·.1)++x::c) (λj=>by
   simp only[ahf,afO,afY,afW];constructor
   ·rintro((h | h | h) | h)
    ·exact .inr (.inl (.inl h))
    ·exact .inl h
    ·exact .inr (.inl (.inr h))
    ·exact .inr (.inr h)
   ·rintro(h | (h | h) | h)
    ·exact .inl (.inr (.inl h))
    ·exact .inl (.inl h)
    ·exact .inl (.inr (.inr h))
    ·exact .inr h) Y D F Qt E
  have Ei:xk P T ops.toList (λenv' h'=>oQ P T ops.toList t (λf env h=>oQ P T ops.toList t A [(x,false)] f env h/\oQ P T ops.toList t B [(y,false)] f env h) (l1++g) f env' h') [k] env h:=Cx (ju (λv h' hk=>hk.2.2) X)
  have a7:BrC ops t x y (x::c) cX cY (l1++g):=⟨a6,λq b=>hc.hd q (by
   simp only[afY,afW]at b ⊢;exact b.imp id .inr),aa _ _ _ hc.x,ad _ _ _ hc.y⟩
  have q:wpOp P ops Q V (wpAny P .any ops Q (n+(x::c).length) (listed.setIfInBounds V true)) a w:=vP hT ops (λenv' h' a' w' μ' S' hk om=>ih (l1++g) (by simp at hn ⊢;omega) f _ env' h' a' w' μ' S' a7 (λq b=>cy q (by
   simp only[afY,afW]at b ⊢;exact b.imp id .inr)) ⟨by simpa using D,r1,Z⟩ hk om) V k G Zr env h a w μ S Ei hs
  rw[show n+(x::c).length=n+1+c.length from by simp;omega]at q;exact q
 case z.refine_2.inr.inl | s.refine_2.inr.inl=>
  have IW:oQ P T ops.toList t A (l++[(i,false)]) f env h:=xm l f env h (Ai (λ_ _ _ q=>q.1) l f env h hf);have X:=xJ K (P:=P) (T:=T) (ops:=ops) (t:=t) Nw l [] f env h (λq b=>Ek I (hc.hd q b).1 (by rw[afY];exact .inl (ags.2 ⟨q,b,rfl⟩)) E R) IW
  have Y:i∉l.map (·.1)++c:=λhm=>by
   rcases afY.1 hm with hm | hm
   ·obtain⟨q,b,he⟩:=ags.1 hm;exact xH (hc.hd q b).1 he
   ·exact aq hm
  obtain⟨r1,Z⟩:=Ej (L':=l.map (·.1)++c) (λj=>by
   simp only[afY,afW];constructor
   ·rintro(h | h | h)
    ·exact .inr (.inl h)
    ·exact .inl h
    ·exact .inr (.inr h)
   ·rintro(h | h | h)
    ·exact .inr (.inl h)
    ·exact .inl h
    ·exact .inr (.inr h)) Y D F Qt E
  have Ei:xk P T ops.toList (λenv' h'=>oQ P T ops.toList t A l f env' h') [k] env h:=Cx (ju (λv h' hk=>by have:=hk.2.2;rwa [agB]at this) X);have q:wpOp P ops Q i (wpAny P .any ops Q (l.length+c.length) (listed.setIfInBounds i true)) a w:=vP hT ops (λenv' h' a' w' μ' S' hk om=>hX l f _ env' h' a' w' μ' S' hc.x cy ⟨by simpa using D,r1,Z⟩ hk om) i k G Zr env h a w μ S Ei hs;rw[hn]at q;exact q
 case z.refine_2.inr.inr | s.refine_2.inr.inr=>
  have IW:oQ P T ops.toList t B (l++[(i,false)]) f env h:=xm l f env h (Ai (λ_ _ _ q=>q.2) l f env h hf);have X:=xJ L (P:=P) (T:=T) (ops:=ops) (t:=t) Nw l [] f env h (λq b=>Ek I (hc.hd q b).2.1 (by rw[afY];exact .inl (ags.2 ⟨q,b,rfl⟩)) E R) IW
  have Y:i∉l.map (·.1)++u:=λhm=>by
   rcases afY.1 hm with hm | hm
   ·obtain⟨q,b,he⟩:=ags.1 hm;exact xH (hc.hd q b).2.1 he
   ·exact aA hm
  obtain⟨r1,Z⟩:=Ej (L':=l.map (·.1)++u) (λj=>by
   rw[afY,M j,afY];simp only[afW];constructor
   ·rintro(h | h | h)
    ·exact .inr (.inl h)
    ·exact .inl h
    ·exact .inr (.inr h)
   ·rintro(h | h | h)
    ·exact .inr (.inl h)
    ·exact .inl h
    ·exact .inr (.inr h)) Y D F Qt E
  have Ei:xk P T ops.toList (λenv' h'=>oQ P T ops.toList t B l f env' h') [k] env h:=Cx (ju (λv h' hk=>by have:=hk.2.2;rwa [agB]at this) X);have q:wpOp P ops Q i (wpAny P .any ops Q (l.length+u.length) (listed.setIfInBounds i true)) a w:=vP hT ops (λenv' h' a' w' μ' S' hk om=>hY l f _ env' h' a' w' μ' S' hc.y cy ⟨by simpa using D,r1,Z⟩ hk om) i k G Zr env h a w μ S Ei hs;rw[hn,<-hlen]at q;exact q
theorem xn {ops:Array Oper} {t:List (Nat×List Nat)}:∀(l A:List (Nat×Bool)),cZ ops t (l++A)=true->cZ ops t l=true
 | [],_,_=>rfl
 | p::l,A,h=>by
  simp only[agS,cZ,As,afS]at h ⊢;exact⟨λq a=>h.1 q (ahK _ a),xn l A h.2⟩
theorem GJ {ops:Array Oper} {t:List (Nat×List Nat)} {ord:List (Nat×Bool)} {x y:Nat} {a b:List Nat} (h:Th ops t ord x y a b=true):
  a.length=b.length/\(∀p,p∈ord->jD ops t p (x,false)=true/\jD ops t p (y,false)=true/\(∀d,d∈dE ops.toList p.1->d∉x::a)/\p.1∉x::a)/\(∀j,j∈x::a↔j∈y::b)/\
  (∀d,d∈dE ops.toList x->d∉x::a)/\x∉a/\y∉b/\(∀j,j∈a->j=y\/rU (fS t j) x=true\/rU (fS t j) y=true):=by
 unfold Th at h;simp only[As]at h;obtain⟨⟨⟨⟨⟨⟨⟨h1,h2⟩,h3⟩,h4⟩,h5⟩,h6⟩,h7⟩,h8⟩:=h;rw[afS]at h2 h3 h4 h5 h8;have no:∀(L:List Nat) (z:Nat),(!(rU L z))=true->z∉L:=λL z c hm=>by rw[Ah _ _ hm]at c;cases c
 refine⟨afM h1,λp hp=>?_,λj=>⟨λhj=>um _ _ (h3 j hj),λhj=>um _ _ (h4 j hj)⟩,λd hd=>no _ _ (h5 d hd),no _ _ h6,no _ _ h7,λj hj=>?_⟩
 ·have:=h2 p hp;rw[As,As,As,afS]at this;exact⟨this.1.1.1,this.1.1.2,λd e=>no _ _ (this.1.2 d e),no _ _ this.2⟩
 ·have:=h8 j hj;rw[ahe,ahe]at this;rcases this with(q | q) | q
  ·exact .inl (afM q)
  ·exact .inr (.inl q)
  ·exact .inr (.inr q)
def Vv (P:Program) (T:sI) (all:List Oper) (t:List (Nat×List Nat)) (K:Env->List ar->Prop) (fin:List (Nat×Bool)):uo->List (Nat×List Nat)->Env->List ar->Prop
 | []=>λa env h=>Nv P T all t K fin a env h
 | c::r=>λa env h=>oQ P T all t (λa env h=>oQ P T all t (Vv P T all t K fin r) [(c.2.1,false)] a env h/\oQ P T all t (λa env h=>Nv P T all t K c.2.2.2 a env h) [(c.2.2.1,false)] a env h) c.1 a env h
theorem El {all:List Oper} {t:List (Nat×List Nat)} {K:Env->List ar->Prop} {fin:List (Nat×Bool)}:∀(cs:uo),wk (Vv P T all t K fin cs)
 | []=>A7 fin
 | c::r=>tI (GI (tI (El r) _) (tI (A7 c.2.2.2) _)) c.1
theorem OH {all:List Oper} {t:List (Nat×List Nat)} {K:Env->List ar->Prop} {fin:List (Nat×Bool)}:∀(cs:uo) (a:List (Nat×List Nat)) (env:Env) (h:List ar),fwC P T all t K fin cs a env h->Vv P T all t K fin cs a env h
 | [],a,env,h,q=>vh _ _ _ _ q
 | c::r,a,env,h,q=>uq (λa env h q=>⟨uq (OH r) _ a env h q.1,vh _ _ _ _ q.2⟩) c.1 a env h q
def Zs (ops:Array Oper) (t:List (Nat×List Nat)) (fin:List (Nat×Bool)):uo->List (Nat×Bool)->Prop
 | []=>λl=>cZ ops t (l++fin)=true
 | c::r=>λl=>BrC ops t c.2.1 c.2.2.1 (c.2.1::(FF r fin).map (·.1)) (Zs ops t fin r) (λl=>cZ ops t (l++c.2.2.2)=true) (l++c.1)
theorem OI {ops:Array Oper} {t:List (Nat×List Nat)} {fin:List (Nat×Bool)}:∀(cs:uo) (l1:List (Nat×Bool)) (p:Nat×Bool) (a:List (Nat×Bool)),Zs ops t fin cs (l1++p::a)->Zs ops t fin cs (l1++a)
 | [],l1,p,a,q=>by
  have q:cZ ops t ((l1++p::a)++fin)=true:=q;show cZ ops t ((l1++a)++fin)=true;rw[agC]at q ⊢;exact(mu l1 _ q).2
 | c::r,l1,p,a,q=>by
  obtain⟨q1,q2,q3,q4⟩:=q;rw[agC l1]at q1 q3;have q4:cZ ops t ((l1++p::a++c.1)++c.2.2.2)=true:=q4;rw[agC l1 (p::a) c.1]at q4;have e:l1++a++c.1=l1++(a++c.1):=agC _ _ _;show BrC ops t c.2.1 c.2.2.1 (c.2.1::(FF r fin).map (·.1)) (Zs ops t fin r) (λl=>cZ ops t (l++c.2.2.2)=true) (l1++a++c.1);rw[e];refine⟨(mu l1 _ q1).2,λs hs=>q2 s ?_,OI r l1 p (a++c.1) q3,?_⟩
  ·simp only[afY,afW]at hs ⊢;rcases hs with hs | hs | hs
   ·exact .inl (.inl hs)
   ·exact .inl (.inr (.inr hs))
   ·exact .inr hs
  ·have q4:cZ ops t ((l1++(p::a++c.1))++c.2.2.2)=true:=q4;show cZ ops t ((l1++(a++c.1))++c.2.2.2)=true;rw[agC]at q4 ⊢;exact(mu l1 _ q4).2
theorem Vw {ops:Array Oper} {t:List (Nat×List Nat)} {fin:List (Nat×Bool)}:∀(cs:uo) (l:List (Nat×Bool)),Zs ops t fin cs l->cZ ops t l=true
 | [],l,q=>xn _ _ q
 | c::r,l,q=>xn _ _ q.pw
theorem Ti {ops:Array Oper} {t:List (Nat×List Nat)} {fin:List (Nat×Bool)}:∀(cs:uo) (pre:List (Nat×Bool)),P0 ops t fin cs pre=true->Zs ops t fin cs pre
 | [],pre,q=>q
 | c::r,pre,q=>by
  have q:(Th ops t (pre++c.1) c.2.1 c.2.2.1 ((FF r fin).map (·.1)) (c.2.2.2.map (·.1))&&cZ ops t ((pre++c.1)++c.2.2.2)&&P0 ops t fin r (pre++c.1))=true:=q;simp only[As]at q;obtain⟨⟨q1,q2⟩,q3⟩:=q;obtain⟨d,b,e,f,g,h,i⟩:=GJ q1;have a:=Ti r _ q3;exact⟨Vw r _ a,b,a,q2⟩
theorem Tj (f:dL P T) (ops:Array Oper) {t:List (Nat×List Nat)} (g:∀i x,rU (fS t i) x=true->LN ops.toList x i) (k:∀i,i<ops.size->∀d,d∈dE ops.toList i->d<ops.size/\d≠i)
  {K:Env->List ar->Prop} {Q:Exit->Act->World->Prop} (l:∀env h a w μ S,K env h->rv C μ h S env a w->Q .normal a w) (hd:∀o∈ops.toList,tG C.nt o=true) (fin:List (Nat×Bool)):
  ∀(cs:uo) (pre:List (Nat×Bool)),P0 ops t fin cs pre=true->(∀p,p∈FF cs fin->p.1<ops.size)->Zp P T C ops t Q (Vv P T ops.toList t K fin cs) ((FF cs fin).map (·.1)) (Zs ops t fin cs)
 | [],pre,_,b=>OF (C:=C) f ops g k l hd fin b
 | c::r,pre,q,b=>by
  have q:(Th ops t (pre++c.1) c.2.1 c.2.2.1 ((FF r fin).map (·.1)) (c.2.2.2.map (·.1))&&cZ ops t ((pre++c.1)++c.2.2.2)&&P0 ops t fin r (pre++c.1))=true:=q;simp only[As]at q;obtain⟨⟨q1,q2⟩,q3⟩:=q;obtain⟨u,H,m,v,z,A,B⟩:=GJ q1;have b:∀p,p∈c.1++(c.2.1,false)::FF r fin->p.1<ops.size:=b;have n:c.2.1<ops.size:=b (c.2.1,false) ajq;have s:∀p,p∈FF r fin->p.1<ops.size:=λp hp=>b p (by simp [hp])
  have D:∀j,j∈c.2.1::(FF r fin).map (·.1)->j<ops.size:=λj hj=>by
   rcases afW.1 hj with rfl | hj
   ·exact n
   ·obtain⟨p,hp,rfl⟩:=ags.1 hj;exact s p hp
  have E:=Tj f ops g k l hd fin r (pre++c.1) q3 s;have F:=OF (C:=C) f ops g k l hd c.2.2.2 (λp hp=>D p.1 ((m p.1).2 (agm _ (ags.2 ⟨p,hp,rfl⟩))))
  have G:=Zq (C:=C) f ops g k hd (x:=c.2.1) (y:=c.2.2.1) (El r) (A7 c.2.2.2) E F (OI r) (λl1 p I q=>by
   rw[agC]at q ⊢;exact(mu l1 _ q).2) u m n v z A B
  have out:=Vt G c.1 (λp hp=>b p (by simp [hp]))
  have e:(FF (c::r) fin).map (·.1)=c.1.map (·.1)++c.2.1::(FF r fin).map (·.1):=by
   show(c.1++(c.2.1,false)::FF r fin).map (·.1)=_;simp
  rw[e];exact out
theorem P1 (k:dL P T) (ops:Array Oper) {cs:uo} {fin:List (Nat×Bool)} (hc:Em ops cs fin=true)
  {K:Env->List ar->Prop} {Q:Exit->Act->World->Prop} (l:∀env h a w μ S,K env h->rv C μ h S env a w->Q .normal a w) (hd:∀o∈ops.toList,tG C.nt o=true) {env:Env} {h:List ar} {a:Act} {w:World}
  (hf:fwC P T ops.toList (Ix ops.toList (FF cs fin) []) K fin cs [] env h) (hs:rv C μ h S env a w):wpAny P .any ops Q ops.size (Array.replicate ops.size false) a w:=by
 unfold Em at hc;simp only[As]at hc;obtain⟨⟨⟨hlen,b⟩,f⟩,c⟩:=hc;rw[afS]at b f;have hlen:=afM hlen;generalize m:Ix ops.toList (FF cs fin) []=t at*;have n:∀i x,rU (fS t i) x=true->LN ops.toList x i:=by rw[<-m];exact A6 _ [] (λi x q=>by simp [fS,rU]at q)
 have r:∀p,p∈FF cs fin->p.1<ops.size:=λp hp=>by
  have:=f p hp;rw[As]at this;exact agj this.1
 have g:∀j,j<ops.size->j∈(FF cs fin).map (·.1):=λj hj=>um _ _ (b j (ahC.2 hj))
 have s:∀i,i<ops.size->∀d,d∈dE ops.toList i->d<ops.size/\d≠i:=λi hi d u=>by
  obtain⟨p,hp,rfl⟩:=ags.1 (g i hi);have:=f p hp;rw[As,afS]at this;have:=this.2 d u;rw[As]at this;exact⟨agj this.1,λhe=>by rw[he,ahc]at this;cases this.2⟩
 have out:=Tj (C:=C) k ops n s l hd fin cs [] c r
 have:=out [] [] (Array.replicate ops.size false) env h a w μ S (Ti cs [] c) (λp hp=>by simp at hp)
  ⟨by simp,λj hj=>⟨λ_=>by simpa using g j hj,λ_=>by simp [Array.getD,hj]⟩,λj hj v=>absurd (g j hj) (by simpa using v)⟩
  (OH cs [] env h hf) hs
 have e:([]:List (Nat×Bool)).length+((FF cs fin).map (·.1)).length=ops.size:=by simpa using hlen
 rw[e]at this;exact this
theorem Vx {J:List (Nat×PV)->List ar->Prop} {env:Env} {h:List ar} {a:Act} {w:World} (hg:zR C.h.length J env h):∀{μ:Mu} {S:Nat->Prop},rv C μ h S env a w->∃σ η μ3 b,rv C μ3 η b (Cb sr σ) a w/\J σ η:=by
 induction hg with
 | mk σ η f hj=>
  intro μ S hs;obtain⟨μ3,b,c⟩:=GH hs f;exact⟨σ,η,μ3,b,c,hj⟩
 | ex h1 g hk d=>
  intro μ S hs;obtain⟨μ1,e⟩:=hs.ex g;exact d e
 | ab id i j sub h1 k hk d=>
  intro μ S hs;obtain⟨F,e⟩:=hs.ab k;exact d F e
theorem Vy {m:Nat} {A B:XQ->Env->List ar->Prop} {Q:XQ} {env:Env} {h:List ar} {a:Act} {w:World} {S:Nat->Prop} (hv:w9 m A B Q env h):∀{μ:Mu},rv C μ h S env a w->
  ∃μ' h',rv C μ' h' S env a w/\(A (XQ.then (B Q) Q) env h'\/∃J,A (XQ.then (zR m J) Q) env h'/\∀σ η,J σ η->B Q (Cb sr σ) η):=by
 induction hv with
 | direct hd=>exactλhs=>⟨_,_,hs,.inl hd⟩
 | cut J b hb=>exactλhs=>⟨_,_,hs,.inr ⟨J,b,hb⟩⟩
 | ex h1 e hk c=>
  intro μ hs;obtain⟨μ1,d⟩:=hs.ex e;exact c d
 | ab id i j sub h1 b hk c=>
  intro μ hs;obtain⟨F,d⟩:=hs.ab b;exact c F d
theorem qc (n:dL P T) (s:P.follows .mixedOrders=true):∀(c:Code) (Q:XQ) (env:Env) (h:List ar) (a:Act) (w:World) (μ:Mu) (S:Nat->Prop),
  vc P T C.h.length c Q env h->codeOk C.nt c=true->rv C μ h S env a w->c.wp P (Eb C Q) a w
 | .skip,Q,env,h,a,w,μ,S,hv,_,hs=>wp_skip ⟨μ,h,S,env,hs,hv⟩
 | .label _,Q,env,h,a,w,μ,S,hv,_,hs=>wp_label ⟨μ,h,S,env,hs,hv⟩
 | .exit _,Q,env,h,a,w,μ,S,hv,_,hs=>wp_exit ⟨μ,h,S,env,hs,hv⟩
 | .ret,Q,env,h,a,w,μ,S,hv,_,hs=>wp_ret ⟨μ,h,S,env,hs,hv⟩
 | .region id ops d,Q,env,h,a,w,μ,S,hv,g,hs=>by
  simp only[codeOk,As,afS]at g;have hd:∀o∈ops.toList,tG C.nt o=true:=g.1;cases d with
  | false=>
   refine wp_region_list (yS n ops (Q:=Eb C Q) (λenv h a w μ S f hs=>⟨μ,h,S,env,hs,f⟩) ops.toList env h a w μ S hv hd hs)
  | true=>
   have quiet:yU P T ops.toList h (λenv'=>Q .normal env' h) ops.toList env->(Code.region id ops true).wp P (Eb C Q) a w:=λhv=>by
    refine wp_region_quiet (C:=da w) s (by simpa using g.2) (da.drew w) ?_;exact vO n ops h w μ S (λenv a f hs w' B=>⟨μ,h,S,env,hs.agree B,f⟩) ops.toList env a hv hd hs
   have hv:(match ops.toList.all (λo=>GK o.op)with
    | true=>yU P T ops.toList h (λenv'=>Q .normal env' h) ops.toList env
    | false=>En P T C.h.length ops (λenv' h'=>Q .normal env' h') env h):=hv
   split at hv
   ·exact quiet hv
   ·cases hv with
    | quiet f=>exact quiet f
    | NA cs fin hc hf=>
     refine wp_region_any s ?_;exact P1 (C:=C) n ops hc (K:=W9 Q) (Q:=Eb C Q) (λenv h a w μ S f hs=>⟨μ,h,S,env,hs,f⟩) hd hf (hs.agree (da.drew w))
    | float ord hc hf=>
     refine wp_region_any s ?_;unfold OJ at hc;simp only[As,afS,agA]at hc;obtain⟨⟨⟨hlen,D⟩,O⟩,R⟩:=hc;have hlen:=afM hlen;have U:∀p,p∈ord->p.1<ops.size:=λp hp=>agj (O p hp).1
     have V:(ord.map (·.1)).Nodup:=by
      have:∀(l:List (Nat×Bool)),cZ ops (Ix ops.toList ord []) l=true->(l.map (·.1)).Nodup:=λl=>by
       induction l with
       | nil=>simp
       | cons p r v=>
        intro hh;simp only[cZ,As,afS]at hh;simp only[afO,List.nodup_cons];refine⟨λhm=>?_,v hh.2⟩;obtain⟨q,f,he⟩:=ags.1 hm;have:=hh.1 q f;unfold jD at this;simp only[As,agA]at this;have:=this.1.1;rw[he,ahc]at this;cases this
      exact this _ R
     have E:∀j,j<ops.size->j∈ord.map (·.1):=λj hj=>um _ _ (D j (ahC.2 hj))
     exact Iy n ops (C:=C) (A6 ord [] (λi x G=>by simp [fS,rU]at G)) (λi hi d W=>by
      obtain⟨p,hp,rfl⟩:=ags.1 (E i hi);have:=(O p hp).2 d W;exact⟨agj this.1,λhe=>by rw[he,ahc]at this;cases this.2⟩)
      (K:=λenv' h'=>Q .normal env' h') (Q:=Eb C Q) (λenv h a w μ S f hs=>⟨μ,h,S,env,hs,f⟩) hd ops.size ord [] _ env h a _ μ S hlen R U ajq (λj hj=>⟨λ_=>E j hj,λ_=>by simp [Array.getD,hj]⟩) (λj hj H=>absurd (E j hj) H) (vh _ _ _ _ hf) (hs.agree (da.drew w))
 | .seq x y,Q,env,h,a,w,μ,S,hv,g,hs=>by
  simp only[codeOk,As]at g;have hv:w9 C.h.length (vc P T C.h.length x) (vc P T C.h.length y) Q env h:=hv;obtain⟨μ,h,hs,hd | ⟨J,I,hb⟩⟩:=Vy hv hs
  ·refine wp_seq (Code.wp_mono (λe u w' hl=>?_) (qc n s x _ env h a w μ S hd g.1 hs));cases e with
   | normal=>
    obtain⟨μ',h',S',env',A,f⟩:=hl;exact qc n s y Q env' h' u w' μ' S' f g.2 A
   | exit id=>exact hl
   | goto l=>exact hl
   | ret=>exact hl
   | panic ch=>exact hl
   | outgrown=>exact hl
  ·refine wp_seq (Code.wp_mono (λe u w' hl=>?_) (qc n s x _ env h a w μ S I g.1 hs));cases e with
   | normal=>
    obtain⟨μ',h',S',env',A,hg⟩:=hl;obtain⟨σ,η,μ3,X,L,hj⟩:=Vx hg A;exact qc n s y Q _ η u w' μ3 X (hb σ η hj) g.2 L
   | exit id=>exact hl
   | goto l=>exact hl
   | ret=>exact hl
   | panic ch=>exact hl
   | outgrown=>exact hl
 | .cond c x y,Q,env,h,a,w,μ,S,hv,g,hs=>by
  simp only[codeOk,As]at g
  have hv:(match ev env c with
   | .bool t=>eN t (vc P T C.h.length x Q env h) (vc P T C.h.length y Q env h)
   | _=>False):=hv
  have hc:=cM hs.tmps c;split at hv
  ·rename_i b he;rw[he]at hc;obtain⟨h1,h2⟩:=lZ hv;exact wp_cond_split hc.oZ (λhb=>qc n s x Q env h a w μ S (h1 hb) g.1 hs) (λhb=>qc n s y Q env h a w μ S (h2 hb) g.2 hs)
  ·exact hv.elim
 | .block id c,Q,env,h,a,w,μ,S,hv,g,hs=>by
  refine wp_block (Code.wp_mono (λe u w' hl=>?_) (qc n s c _ env h a w μ S hv g hs));cases e with
  | exit m=>
   obtain⟨μ',h',S',env',A,f⟩:=hl;show if m=id then Eb C Q .normal u w' else Eb C Q (.exit m) u w'
   simp only[XQ.inBlock]at f;by_cases hid:m=id
   ·rw[an hid];subst hid;rw[show Nat.beq m m=true by simp]at f;exact⟨μ',h',S',env',A,f⟩
   ·rw[mg hid]
    have:Nat.beq m id=false:=by
     cases hb:Nat.beq m id with
     | true=>exact(hid (afM hb)).elim
     | false=>rfl
    rw[this]at f;exact⟨μ',h',S',env',A,f⟩
  | normal=>exact hl
  | goto l=>exact hl
  | ret=>exact hl
  | panic ch=>exact hl
  | outgrown=>exact hl
 | .loop c,Q,env,h,a,w,μ,S,hv,g,hs=>by
  intro b k cs;replace hv:uh C.h.length (λnext=>vc P T C.h.length c (XQ.then next Q)) env h:=hv
  have key:∀(a:Act) (w:World) (μ:Mu) (S:Nat->Prop),rv C μ h S env a w->∃e u w',Eb C Q e u w'/\Arrives P (lone (b.at a (.code c::.inLoop c::k)) cs w) b k cs e u w':=by
   clear hs;induction hv with
   | take σ η Y hk v=>
    intro a w μ S hs;obtain⟨μ0,S0,Z⟩:=GH hs Y;exact v a w μ0 S0 Z
   | ex h1 G hk v=>
    intro a w μ S hs;obtain⟨μ1,M⟩:=hs.ex G;exact v a w μ1 S M
   | ab id i j sub h1 I hk v=>
    intro a w μ S hs;obtain⟨F,M⟩:=hs.ab I;exact v F a w μ S M
   | step N hN hb v=>
    intro a w μ S hs;obtain⟨e,a₁,w₁,f,z⟩:=qc n s c _ _ _ a w μ S hb g hs b (.inLoop c::k) cs;cases e with
    | normal=>
     obtain⟨μ2,h2,S2,aa,Za,H⟩:=f;obtain⟨e₂,a₂,w₂,hq₂,harr₂⟩:=v _ _ H a₁ w₁ μ2 S2 Za;exact⟨e₂,a₂,w₂,hq₂,.of_steps (Steps.trans z (.one step_inLoop)) harr₂⟩
    | exit id=>exact⟨_,a₁,w₁,f,.pass (x:=.inLoop c) rfl (λ_ _=>.inl ajq) z⟩
    | goto l=>exact⟨_,a₁,w₁,f,.pass (x:=.inLoop c) rfl (λ_ _=>.inl ajq) z⟩
    | ret=>exact⟨_,a₁,w₁,f,.pass (x:=.inLoop c) rfl (λ_ _=>.inl ajq) z⟩
    | panic ch=>exact⟨_,a₁,w₁,f,.pass (x:=.inLoop c) rfl (λ_ _=>.inl ajq) z⟩
    | outgrown=>exact⟨_,a₁,w₁,f,.pass (x:=.inLoop c) rfl (λ_ _=>.inl ajq) z⟩
  obtain⟨e,u,w',f,z⟩:=key a w μ S hs;exact⟨e,u,w',f,.of_steps (.one step_loop) z⟩
 | .rangeFunc _ _ _ _,Q,env,h,a,w,μ,S,hv,_,_=>hv.elim
 | .scope _,Q,env,h,a,w,μ,S,hv,_,_=>hv.elim
 | .goto _,Q,env,h,a,w,μ,S,hv,_,_=>hv.elim
 | .refuse _,Q,env,h,a,w,μ,S,hv,_,_=>hv.elim
theorem Tk (m:dL P T) (o:cW μ h S w) (t:Nat) (d:PV) (v:Value) (j:cw μ h S w d v) {K:PV->Prop} (hp:zK T t d h K):∃pv val,K pv/\cw μ h S w pv val/\(do loadVar t (<-asAddr v):Sem Value).run P w=.ok val w:=by
 obtain⟨pv,val,p,hv,c⟩:=Dm (P:=P) (dst:=none) (ty:=0) (pos:= "") (after:=#[]) (guard:=none) (a:=⟨#[v],[]⟩) m o t (.tmp 0) d (by simpa[Act.eval]using j) hp;refine⟨pv,val,p,hv,?_⟩;have:=c w (da.refl w);have he:(execOp (Act.eval ⟨#[v],[]⟩) ⟨none,.load t (.tmp 0),0, "",#[],none⟩)=(do pure (Next.value (<-Instr.loadAt t v)):Sem Next):=rfl;rw[he]at this
 have k:∃l,v=.pointer (some l):=by
  unfold zK at hp;split at hp
  ·obtain⟨b,off,r,q,_⟩:=j.zE;exact⟨_,q⟩
  ·rename_i id gen i off;split at hp
   ·rename_i g sz n e f hg;obtain⟨rfl,_⟩:=hp;have c:=j.wT;unfold cE at c;rw[ep hg]at c;obtain⟨_,_,c⟩:=c;obtain⟨_,b,base,_,_,hv⟩:=c rfl;exact⟨_,hv⟩
   ·exact aiI
  ·exact aiI
 obtain⟨l,rfl⟩:=k;simp only[Instr.loadAt,Instr.sureAddr,asAddr,Sem.run_bind,Sem.run_pure,Result.andThen_ok]at this ⊢;cases hl:(loadVar t l).run P w with
 | ok u w'=>
  rw[hl]at this;simp only[Result.andThen]at this;injection this with h1 h2;injection h1 with h1;rw[h1,h2]
 | halt x w'=>rw[hl]at this;cases this
theorem uM (c:dL P T) (hs:rv C μ h S env a w):∀(rs:List ResultVar) (K:List PV->Prop),xK T env h rs K->∃(vs:List PV) (us:List Value),K vs/\us.length=vs.length/\(∀(j:Nat) (pv:PV),vs[j]? =some pv->∃u,us[j]? =some u/\cw μ h S w pv u)/\
  (rs.mapM (fun | .tmp t=>pure (a.tmps.getD t undef) | .cell d t=>(do loadVar t (<-asAddr (a.tmps.getD d undef))):ResultVar->Sem Value)).run P w=.ok us w
 | [],K,hp=>⟨[],[],hp,rfl,λj pv hj=>by simp at hj,rfl⟩
 | .tmp t::r,K,hp=>by
  obtain⟨vs,us,b,h1,h2,h3⟩:=uM c hs r _ hp;refine⟨env t::vs,a.tmps.getD t undef::us,b,by simp [h1],λj pv hj=>?_,?_⟩
  ·cases j with
   | zero=>simp at hj;subst hj;exact⟨_,rfl,hs.tmps t⟩
   | succ j=>simp at hj;obtain⟨u,q1,q2⟩:=h2 j pv hj;exact⟨u,by simpa using q1,q2⟩
  ·simp only[List.mapM_cons,Sem.run_bind,Sem.run_pure,Result.andThen_ok,h3]
 | .cell d t::r,K,hp=>by
  obtain⟨pv,val,b,hv,e⟩:=Tk c hs.core.heap t _ _ (hs.tmps d) hp;obtain⟨vs,us,b,h1,h2,h3⟩:=uM c hs r _ b;refine⟨pv::vs,val::us,b,by simp [h1],λj f hj=>?_,?_⟩
  ·cases j with
   | zero=>simp at hj;subst hj;exact⟨_,rfl,hv⟩
   | succ j=>simp at hj;obtain⟨u,q1,q2⟩:=h2 j f hj;exact⟨u,by simpa using q1,q2⟩
  ·simp only[List.mapM_cons,Sem.run_bind,e,Result.andThen_ok,h3,Sem.run_pure]
end
section
variable {P:Program}{T:sI}
def valOf:List Value->Value
 | [v]=>v
 | us=>.tuple us.toArray
theorem Lq {fn:Func} {tmps:Array Value} {us:List Value} {w:World}
  (hm:(fn.results.toList.mapM (fun | .tmp t=>pure (tmps.getD t undef) | .cell b t=>(do loadVar t (<-asAddr (tmps.getD b undef))):ResultVar->Sem Value)).run P w=.ok us w):
  (results fn tmps).run P w=.ok (valOf us) w:=by
 unfold results;rw[Array.mapM_eq_mapM_toList];simp only[map_eq_pure_bind,bind_assoc,pure_bind,Sem.run_bind]
 have key:∀X:Result (List Value),X=.ok us w->(X.andThen λa w'=>Sem.run P (pure (if h:a.toArray.size=1 then a.toArray[0]else Value.tuple a.toArray)) w')=.ok (valOf us) w:=by
  rintro _ rfl;simp only[Result.andThen_ok,Sem.run_pure];congr 1
  match us with
  | []=>rfl
  | [v]=>rfl
  | v::u::r=>simp [valOf]
 exact key _ hm
theorem Tl {C:Start} {m:Nat} {R:PV->List ar->Prop} {env:Env} {h:List ar} {a:Act} {w:World} {S:Nat->Prop} {vs:List PV} {us:List Value} (c:Ends m R h vs):∀{μ:Mu},rv C μ h S env a w->
  (∀(j:Nat) (pv:PV),vs[j]? =some pv->∃u,us[j]? =some u/\cw μ h S w pv u)->∃μ' h',rv C μ' h' S env a w/\(∀(j:Nat) (pv:PV),vs[j]? =some pv->∃u,us[j]? =some u/\cw μ' h' S w pv u)/\
   vs.all mh=true/\∃(k:List Nat) (res:PV) (η:List ar),rK (rq η k)=true/\m<=k.length/\Fz h' η k (oneOf vs) res/\mW h' η k m 0 η k/\R res η:=by
 induction c with
 | mk d k res η hk hm e hh f=>exactλhs h2=>⟨_,_,hs,h2,d,k,res,η,hk,hm,e,hh,f⟩
 | ex h1 g hk b=>
  intro μ hs h2;obtain⟨μ1,hf,hc⟩:=OD hs.core g;exact b (hs.turn hf hc) (λj pv hj=>let⟨u,q1,q2⟩:=h2 j pv hj;⟨u,q1,q2.fr hf hs.core.ok⟩)
 | ab id i j sub h1 l hk b=>
  intro μ hs h2;obtain⟨hf,hc⟩:=OE hs.core (l (FAb μ _ sub));exact b _ (hs.turn hf hc) (λj pv hj=>let⟨u,q1,q2⟩:=h2 j pv hj;⟨u,q1,q2.fr hf hs.core.ok⟩)
theorem ACall.aae (s:dL P T) (B:P.follows .mixedOrders=true) {f:FuncId} {fn:Func} {c:Code} (hf:P.funcs[f]? =some fn) (hb:fn.body=some c) (D:(fn.name== "runtime.NumGoroutine")=false)
  (args:List PV) (h:List ar) (R:PV->List ar->Prop) (p:Nat.ble args.length fn.ntmps=true) (E:codeOk fn.ntmps c=true)
  (hv:vc P T h.length c (aad T fn.results.toList h.length R) (wD args) h):ACall P f args h R:=by
 refine⟨⟨fn,c,hf,hb,D⟩,λw vs μ S F G V H=>?_⟩;have p:=agj p
 let C:Start:=⟨μ,h,S,w,fn.ntmps⟩
 have hs:rv C μ h S (wD args) ⟨vs++Array.replicate (fn.ntmps - vs.size) undef,[]⟩ w:=by
  refine⟨⟨F,G⟩,Fr.refl,λt=>?_,by simp;show _=fn.ntmps;omega,λt I=>?_,rfl⟩
  ·unfold wD;rw[afP];cases J:args[t]? with
   | none=>trivial
   | some pv=>
    obtain⟨v,h1,h2⟩:=H t pv J;have K:t<vs.size:=(afN.1 h1).1
    have:(vs++Array.replicate (fn.ntmps - vs.size) undef).getD t undef=v:=by
     rw[Array.getD_eq_getD_getElem?,agH K,h1];rfl
    simp only[ahH];rw[this];exact cw.Vo h2
  ·unfold wD;rw[afP,agf]
   ·rfl
   ·exact agq p I
 refine calls_of_wp hf hb ?_;refine Code.wp_mono (λe y w' hl=>?_) (qc (C:=C) s B c _ _ h _ w μ S hv E hs);obtain⟨μ',h',S',env',d,i⟩:=hl
 have fin:xK T env' h' fn.results.toList (Ends h.length R h')->y.defers=[]/\∃v,(results fn y.tmps).run P w'=.ok v w'/\
   (∃(z:Value) (res:PV) (n:List ar) (μ'':Mu) (o:Nat->Prop),Ending.returned v=.returned z/\R res n/\cw μ'' n o w' res z/\cW μ'' n o w'/\vz μ'' n o w'/\Fr μ h S w μ'' n o w'):=λL=>by
  obtain⟨g,us,M,h1,h2,h3⟩:=uM s d _ _ L;refine⟨d.defers,_,Lq h3,?_⟩;obtain⟨μ',h',d,h2,N,k,res,η,hk,hm,O,hh,Q⟩:=Tl M d h2
  have q:cw μ' h' S' w' (oneOf g) (valOf us):=by
   have key:(∀v,g≠[v])->cw μ' h' S' w' (oneOf g) (valOf us):=λm=>by
    have U:oneOf g=.hJ g:=by
     match g,m with
     | [],_=>rfl
     | [v],m=>exact(m v rfl).elim
     | a::b::r,_=>rfl
    have e2:valOf us=.tuple us.toArray:=by
     match us,h1 with
     | [],_=>rfl
     | [v],h1=>
      match g,h1,m with
      | [x],_,m=>exact(m x rfl).elim
     | a::b::r,_=>rfl
    rw[U,e2];refine⟨_,rfl,by simpa using h1,λj pv hj=>?_⟩;obtain⟨u,q1,q2⟩:=h2 j pv hj;refine⟨u,by simpa using q1,?_⟩;have hp:mh pv=true:=(afS.1 N) pv (afX hj);cases pv with
    | hJ W=>cases hp
    | _=>exact q2
   match g,us,h1 with
   | [v],[u],_=>
    obtain⟨X,q1,q2⟩:=h2 0 v rfl;simp at q1;subst q1;exact q2
   | [],us,_=>exact key (λv hv=>by cases hv)
   | a::b::r,us,_=>exact key (λv hv=>by cases hv)
  obtain⟨A,_,_⟩:=Ag d.core hh hk;exact⟨_,res,η,oB μ' h' k,GF μ' h' k S',rfl,Q,(xj d.core hh O).2.2 _ q,A.heap,A.ok,W6 (C:=C) d.core d.fr hh hk hm⟩
 cases e with
 | ret=>exact fin i
 | normal=>exact fin i
 | exit id=>exact i.elim
 | goto l=>exact i.elim
 | panic ch=>exact i.elim
 | outgrown=>exact i.elim
theorem ACall.mono {f:FuncId} {args:List PV} {h:List ar} {R a:PV->List ar->Prop} (hc:ACall P f args h R) (b:∀res h',R res h'->a res h'):ACall P f args h a:=
 ⟨hc.1,λw vs μ S c d g i=>(hc.2 w vs μ S c d g i).mono λe w' ⟨v,res,h',μ',S',he,j,rest⟩=>⟨v,res,h',μ',S',he,b _ _ j,rest⟩⟩
end
def qD (N:Nat):PV->PV
 | .own id gen off len=>.own (N+id) gen off len
 | .bE id gen i off=>.bE (N+id) gen i off
 | .ql id=>.ql (N+id)
 | .uP f df=>.uP f (vC (N+·) df)
 | v=>v
def NB (N:Nat):PV->PV
 | .agg cs=>.agg (cs.map (qD N))
 | v=>qD N v
def qC (N:Nat):PV->PV
 | .hJ vs=>.hJ (vs.map (NB N))
 | v=>NB N v
def ff (N:Nat):ar->ar
 | .row g sz n e f=>.row g sz n e (λi=>(f i).map (qD N))
 | .dead=>.dead
def Kk:PV->Bool
 | .agg cs=>cs.all bW
 | v=>bW v
def rS:PV->Bool
 | .gn _ _ _=>false
 | .fT _=>false
 | .aV _ _ _ _ _=>false
 | _=>true
def Xb:PV->Bool
 | .agg cs=>cs.all rS
 | v=>rS v
def DJ:PV->Bool
 | .hJ vs=>vs.all Xb
 | v=>Xb v
def zO:ar->Prop
 | .row _ _ n _ f=>∀i,i<n->(f i).all rS=true
 | .dead=>True
section
variable {P:Program}{T:sI}{μ μ0:Mu}{h h0:List ar}{S S0 S':Nat->Prop}{w w':World}
def ly (μ:Mu) (N:Nat) (μ0:Mu):Mu:=λid=>if id<N then μ id else μ0 (id - N)
theorem By {N:Nat} {a:PV} (h:lC a=true):qD N a=a:=by cases a<;>first | rfl | cases h
theorem ss (N:Nat) (a:h.length=N) (id:Nat):(h++h0.map (ff N))[N+id]? =(h0[id]?).map (ff N):=by
 subst a;rw[agh ajo,Nat.add_sub_cancel_left,agd]
theorem vR (N id:Nat):ly μ N μ0 (N+id)=μ0 id:=by
 unfold ly;rw[mg ajo,Nat.add_sub_cancel_left]
theorem ef (G:PV->Prop) (a:∀pv v,G pv->bz S0 w' pv v->bz S' w' pv v) {pv:PV} {v:Value} (hg:G pv) (hc:cD μ0 h0 S0 w' pv v):
  cD (ly μ h.length μ0) (h++h0.map (ff h.length)) S' w' (qD h.length pv) v:=by
 have d:∀(id gen i off:Nat) (v:Value),cE μ0 h0 w' id gen i off v->cE (ly μ h.length μ0) (h++h0.map (ff h.length)) w' (h.length+id) gen i off v:=λid gen i off v hc=>by
  unfold cE at hc ⊢;rw[ss _ rfl,vR];obtain⟨h1,h2⟩:=hc;refine⟨h1,?_⟩;cases c:h0[id]? with
  | none=>rw[c]at h2;exact h2
  | some o=>
   rw[c]at h2;cases o with
   | dead=>trivial
   | row g sz n e f=>exact h2
 cases pv with
 | own id gen off len=>
  have hc:cf μ0 h0 w' id gen off len v:=hc;show cf _ _ _ (h.length+id) gen off len v;unfold cf at hc ⊢;rw[ss _ rfl,vR];obtain⟨h1,h2⟩:=hc;refine⟨h1,?_⟩;cases c:h0[id]? with
  | none=>rw[c]at h2;exact h2
  | some o=>
   rw[c]at h2;cases o with
   | dead=>trivial
   | row g sz n e f=>exact h2
 | bE id gen i off=>exact d _ _ _ _ _ hc
 | uP f df=>exact wy.map (O:=λid g u=>cE (ly μ h.length μ0) (h++h0.map (ff h.length)) w' id g 0 0 u) (wy.mono (show tq μ0 h0 w' f df v from hc) (λid g u hu=>d id g 0 0 u hu))
 | ql id=>
  have hc:gy μ0 h0 w' id v:=hc;show gy _ _ _ (h.length+id) v;unfold gy at hc ⊢;rw[ss _ rfl,vR];obtain⟨h1,h2⟩:=hc;refine⟨h1,?_⟩;cases c:h0[id]? with
  | none=>rw[c]at h2;exact h2
  | some o=>
   rw[c]at h2;cases o with
   | dead=>trivial
   | row g sz n e f=>exact h2
 | jI=>exact hc
 | aV sz n e f F=>exact hc
 | agg cs=>exact(show False from hc).elim
 | hJ cs=>exact(show False from hc).elim
 | int k n=>exact a _ _ hg hc
 | bool b=>exact a _ _ hg hc
 | str s=>exact a _ _ hg hc
 | au=>exact a _ _ hg hc
 | jq=>exact a _ _ hg hc
 | gn sz n f=>exact a _ _ hg hc
 | fT cs=>exact a _ _ hg hc
 | fn f=>exact a _ _ hg hc
theorem eg (G:PV->Prop) (a:∀pv v,G pv->bz S0 w' pv v->bz S' w' pv v) {pv:PV} {v:Value} (hg:match pv with | .agg cs=>∀c∈cs,G c | v=>G v) (hc:jG μ0 h0 S0 w' pv v):
  jG (ly μ h.length μ0) (h++h0.map (ff h.length)) S' w' (NB h.length pv) v:=by
 cases pv with
 | agg cs=>
  obtain⟨vs,h1,h2,h3⟩:=hc;refine⟨vs,h1,by simpa using h2,λj pv hj=>?_⟩;rw[agd]at hj;cases d:cs[j]? with
  | none=>rw[d]at hj;cases hj
  | some c=>
   rw[d]at hj;injection hj with hj;subst hj;obtain⟨u,q1,q2⟩:=h3 j c d;exact⟨u,q1,ef G a (hg c (afX d)) q2⟩
 | jI=>trivial
 | aV sz n e f F=>exact ef (μ:=μ) (μ0:=μ0) (h:=h) (h0:=h0) (pv:=.aV sz n e f F) G a hg hc
 | hJ cs=>exact(show False from hc).elim
 | own id gen off len=>exact ef (μ:=μ) (μ0:=μ0) (h:=h) (h0:=h0) (pv:=.own id gen off len) G a hg hc
 | bE id gen i off=>exact ef (μ:=μ) (μ0:=μ0) (h:=h) (h0:=h0) (pv:=.bE id gen i off) G a hg hc
 | ql id=>exact ef (μ:=μ) (μ0:=μ0) (h:=h) (h0:=h0) (pv:=.ql id) G a hg hc
 | uP f df=>exact ef (μ:=μ) (μ0:=μ0) (h:=h) (h0:=h0) (pv:=.uP f df) G a hg hc
 | int k n=>exact ef (μ:=μ) (μ0:=μ0) (h:=h) (h0:=h0) (pv:=.int k n) G a hg hc
 | bool b=>exact ef (μ:=μ) (μ0:=μ0) (h:=h) (h0:=h0) (pv:=.bool b) G a hg hc
 | str s=>exact ef (μ:=μ) (μ0:=μ0) (h:=h) (h0:=h0) (pv:=.str s) G a hg hc
 | au=>exact ef (μ:=μ) (μ0:=μ0) (h:=h) (h0:=h0) (pv:=.au) G a hg hc
 | jq=>exact ef (μ:=μ) (μ0:=μ0) (h:=h) (h0:=h0) (pv:=.jq) G a hg hc
 | gn sz n f=>exact ef (μ:=μ) (μ0:=μ0) (h:=h) (h0:=h0) (pv:=.gn sz n f) G a hg hc
 | fT cs=>exact ef (μ:=μ) (μ0:=μ0) (h:=h) (h0:=h0) (pv:=.fT cs) G a hg hc
 | fn f=>exact ef (μ:=μ) (μ0:=μ0) (h:=h) (h0:=h0) (pv:=.fn f) G a hg hc
def VA (G:PV->Prop):PV->Prop
 | .hJ vs=>∀v∈vs,(match v with | .agg cs=>∀c∈cs,G c | v=>G v)
 | .agg cs=>∀c∈cs,G c
 | v=>G v
theorem Eo (G:PV->Prop) (a:∀pv v,G pv->bz S0 w' pv v->bz S' w' pv v) {pv:PV} {v:Value} (hg:VA G pv) (hc:cw μ0 h0 S0 w' pv v):
  cw (ly μ h.length μ0) (h++h0.map (ff h.length)) S' w' (qC h.length pv) v:=by
 cases pv with
 | hJ cs=>
  obtain⟨vs,h1,h2,h3⟩:=hc;refine⟨vs,h1,by simpa using h2,λj pv hj=>?_⟩;rw[agd]at hj;cases d:cs[j]? with
  | none=>rw[d]at hj;cases hj
  | some c=>
   rw[d]at hj;injection hj with hj;subst hj;obtain⟨u,q1,q2⟩:=h3 j c d;exact⟨u,q1,eg G a (hg c (afX d)) q2⟩
 | agg cs=>exact eg (μ:=μ) (μ0:=μ0) (h:=h) (h0:=h0) (pv:=.agg cs) G a hg hc
 | jI=>trivial
 | aV sz n e f F=>exact eg (μ:=μ) (μ0:=μ0) (h:=h) (h0:=h0) (pv:=.aV sz n e f F) G a hg hc
 | own id gen off len=>exact eg (μ:=μ) (μ0:=μ0) (h:=h) (h0:=h0) (pv:=.own id gen off len) G a hg hc
 | bE id gen i off=>exact eg (μ:=μ) (μ0:=μ0) (h:=h) (h0:=h0) (pv:=.bE id gen i off) G a hg hc
 | ql id=>exact eg (μ:=μ) (μ0:=μ0) (h:=h) (h0:=h0) (pv:=.ql id) G a hg hc
 | uP f df=>exact eg (μ:=μ) (μ0:=μ0) (h:=h) (h0:=h0) (pv:=.uP f df) G a hg hc
 | int k n=>exact eg (μ:=μ) (μ0:=μ0) (h:=h) (h0:=h0) (pv:=.int k n) G a hg hc
 | bool b=>exact eg (μ:=μ) (μ0:=μ0) (h:=h) (h0:=h0) (pv:=.bool b) G a hg hc
 | str s=>exact eg (μ:=μ) (μ0:=μ0) (h:=h) (h0:=h0) (pv:=.str s) G a hg hc
 | au=>exact eg (μ:=μ) (μ0:=μ0) (h:=h) (h0:=h0) (pv:=.au) G a hg hc
 | jq=>exact eg (μ:=μ) (μ0:=μ0) (h:=h) (h0:=h0) (pv:=.jq) G a hg hc
 | gn sz n f=>exact eg (μ:=μ) (μ0:=μ0) (h:=h) (h0:=h0) (pv:=.gn sz n f) G a hg hc
 | fT cs=>exact eg (μ:=μ) (μ0:=μ0) (h:=h) (h0:=h0) (pv:=.fT cs) G a hg hc
 | fn f=>exact eg (μ:=μ) (μ0:=μ0) (h:=h) (h0:=h0) (pv:=.fn f) G a hg hc
theorem GL (hH:cW μ h S w) (d:vz μ h S w) {μc:Mu} {Sc:Nat->Prop} (r:Fr μc [] Sc w μ0 h0 S0 w') (WG:cW μ0 h0 S0 w') (J:vz μ0 h0 S0 w')
  (G:PV->Prop) (Y:∀pv v,G pv->bz S0 w' pv v->bz S' w' pv v) (L:∀(id g sz n:Nat) (e:TypeId) (f:Nat->List PV),h0[id]? =some (ar.row g sz n e f)->∀i,i<n->∀c∈f i,(dM c=false->G c)/\(dM c=true->OG G c))
  (M:∀b,S b->S' b) (D:∀b,S' b->S b\/w.heap.size<=b) (N:∀b,S' b->b<w'.heap.size) (O:∀b,S' b->¬dc μ0 h0 b):
  cW (ly μ h.length μ0) (h++h0.map (ff h.length)) S' w'/\vz (ly μ h.length μ0) (h++h0.map (ff h.length)) S' w'/\Fr μ h S w (ly μ h.length μ0) (h++h0.map (ff h.length)) S' w':=by
 have Z:∀b,¬dc μc [] b:=λb=>mz;have B:∀b,b<w.heap.size->w'.heap[b]? =w.heap[b]?:=λb hb=>r.blocks b hb (Z b);have s:∀b,dc μ0 h0 b->w.heap.size<=b:=λb hb=>(r.own b hb).resolve_left (Z b)
 have K:∀id o,h[id]? =some o->(h++h0.map (ff h.length))[id]? =some o/\ly μ h.length μ0 id=μ id:=λid o hid=>by
  have t:=(An.1 hid).1;exact⟨by rw[ago t];exact hid,by unfold ly;rw[an t]⟩
 have inv:∀(id g sz n:Nat) (e:TypeId) (f:Nat->List PV),(h++h0.map (ff h.length))[id]? =some (ar.row g sz n e f)->
   (h[id]? =some (ar.row g sz n e f)/\ly μ h.length μ0 id=μ id)\/∃a m,id=h.length+a/\h0[a]? =some (ar.row g sz n e m)/\ly μ h.length μ0 id=μ0 a/\f=λi=>(m i).map (qD h.length):=λid g sz n e f hid=>by
  rcases agI id h.length with t | N5
  ·rw[ago t]at hid;exact .inl ⟨hid,by unfold ly;rw[an t]⟩
  ·obtain⟨a,rfl⟩:∃a,id=h.length+a:=⟨id - h.length,by omega⟩;rw[ss _ rfl]at hid;cases u:h0[a]? with
   | none=>rw[u]at hid;cases hid
   | some o=>
    rw[u]at hid;cases o with
    | dead=>cases hid
    | row g0 UL n0 e0 m=>
     injection hid with hid;injection hid with P e2 Q e4 e5;subst P e2 Q e4 e5;exact .inr ⟨a,m,rfl,u,vR _ _,rfl⟩
 have yN:∀b,Dw (ly μ h.length μ0) (h++h0.map (ff h.length)) b->Dw μ h b\/Dw μ0 h0 b:=λb ⟨id,g,sz,n,e,f,base,hid,hm⟩=>by
  rcases inv id g sz n e f hid with⟨h1,h2⟩ | ⟨a,m,rfl,h1,h2,_⟩
  ·rw[h2]at hm;exact .inl ⟨id,g,sz,n,e,f,base,h1,hm⟩
  ·rw[h2]at hm;exact .inr ⟨a,g,sz,n,e,m,base,h1,hm⟩
 have R:∀{c:PV} {sz n:Nat} {e:TypeId} {f:Nat->List PV} {F:Nat->Prop},qD h.length c=.aV sz n e f F->c=.aV sz n e f F:=λ{c} _ _ _ _ _ hc=>by
  cases c<;>first | exact hc | cases hc
 have C:∀id i j b,dD (h++h0.map (ff h.length)) id i j b->dD h id i j b\/∃a,id=h.length+a/\dD h0 a i j b:=λid i j b ⟨g,sz,n,e,f,cA,n',e',f',F',q1,q2,q3,q4⟩=>by
  rcases inv id g sz n e f q1 with⟨h1,h2⟩ | ⟨a,m,rfl,h1,h2,rfl⟩
  ·exact .inl ⟨_,_,_,_,_,_,_,_,_,_,h1,q2,q3,q4⟩
  ·rw[agd]at q3;cases l:(m i)[j]? with
   | none=>rw[l]at q3;cases q3
   | some c=>
    rw[l]at q3;injection q3 with q3;rw[R q3]at l;exact .inr ⟨a,rfl,_,_,_,_,_,_,_,_,_,_,h1,q2,l,q4⟩
 have T:∀b,dc (ly μ h.length μ0) (h++h0.map (ff h.length)) b->dc μ h b\/dc μ0 h0 b:=λb hb=>by
  rcases hb with hb | ⟨x,y,z,hb⟩
  ·exact(yN b hb).imp .inl .inl
  ·rcases C x y z b hb with q | ⟨_,_,q⟩
   ·exact .inl (.inr ⟨_,_,_,q⟩)
   ·exact .inr (.inr ⟨_,_,_,q⟩)
 have U:Fr μ h S w (ly μ h.length μ0) (h++h0.map (ff h.length)) S' w':=by
  refine⟨by simp,λb hb _=>B b hb,M,λb hb=>(D b hb).imp id .inr,λb hb=>(T b hb).imp id (s b),r.size,r.os,r.tape,r.output,λid g sz n e f hid=>?_,λid hid=>(K id _ hid).1,λb k hb hc=>lD.of_same (B b hc.lt) hc,λid g sz n e f b base hid hm V=>⟨let⟨es,c,q⟩:=V;⟨es,c,(B b (afN.1 q).1).trans q⟩,.inr ⟨⟨_,_,_,_,_,(K id _ hid).1⟩,(K id _ hid).2.trans hm⟩⟩,λb _ _ _ l V=>let⟨es,c,q⟩:=V;⟨es,c,(B b (afN.1 q).1).trans q⟩⟩;obtain⟨h1,h2⟩:=K id _ hid;rw[h1];exact⟨abF _,λ_=>⟨h2,rfl,rfl,rfl⟩⟩
 refine⟨λid g sz n e f hid=>?_,⟨λb hb hs=>?_,λb hb=>?_,N,?_,d.AS U,λb hb x y z l=>?_,λb x y z x' y' z' l wx=>?_⟩,U⟩;rotate_right 2
 ·rcases yN b hb with h1 | h1
  ·rcases C x y z b l with h2 | ⟨_,_,h2⟩
   ·exact d.hv b h1 _ _ _ h2
   ·have E:=d.lt b (.inl h1);have H:=s b (.inr ⟨_,_,_,h2⟩);omega
  ·rcases C x y z b l with h2 | ⟨_,_,h2⟩
   ·have E:=d.lt b (.inr ⟨_,_,_,h2⟩);have H:=s b (.inl h1);omega
   ·exact J.hv b h1 _ _ _ h2
 ·rcases C x y z b l with h1 | ⟨u1,rfl,h1⟩
  ·rcases C x' y' z' b wx with h2 | ⟨u2,rfl,h2⟩
   ·exact d.hh b _ _ _ _ _ _ h1 h2
   ·have E:=d.lt b (.inr ⟨_,_,_,h1⟩);have H:=s b (.inr ⟨_,_,_,h2⟩);omega
  ·rcases C x' y' z' b wx with h2 | ⟨u2,rfl,h2⟩
   ·have E:=d.lt b (.inr ⟨_,_,_,h2⟩);have H:=s b (.inr ⟨_,_,_,h1⟩);omega
   ·obtain⟨P,e2,Q⟩:=J.hh b _ _ _ _ _ _ h1 h2;exact⟨by rw[P],e2,Q⟩
 ·rcases inv id g sz n e f hid with⟨h1,h2⟩ | ⟨a,m,rfl,h1,h2,rfl⟩
  ·obtain⟨q1,q2⟩:=hH id g sz n e f h1;refine⟨q1,?_⟩;rw[h2];cases hm:μ id with
   | none=>rw[hm]at q2;exact q2
   | some p=>
    obtain⟨b,base⟩:=p;rw[hm]at q2;obtain⟨o,r1,I⟩:=q2;have t:b<w.heap.size:=(afN.1 r1).1;exact⟨o,(B b t).trans r1,I.mono (λi y pv v hi hy hr=>hr.fr U d (λcA n' e' f' F' he b2 qT=>B b2 (d.lt b2 (.inr ⟨id,i,y,_,_,_,_,_,_,_,_,_,_,h1,hi,he▸hy,qT⟩))))⟩
  ·obtain⟨q1,q2⟩:=WG a g sz n e m h1;refine⟨λi hi=>by simpa using q1 i hi,?_⟩;rw[h2];cases hm:μ0 a with
   | none=>rw[hm]at q2;exact q2
   | some p=>
    obtain⟨b,base⟩:=p;rw[hm]at q2;obtain⟨o,r1,I⟩:=q2;refine⟨o,r1,?_⟩;cases o with
    | cells cur e' z=>
     obtain⟨W,x2,x3,X⟩:=I;refine⟨W,x2,x3,λi j pv hi hj=>?_⟩;rw[agd]at hj;cases l:(m i)[j]? with
     | none=>rw[l]at hj;cases hj
     | some c=>
      rw[l]at hj;injection hj with hj;subst hj;obtain⟨v,s1,s2⟩:=X i j c hi l;obtain⟨g1,g2⟩:=L a g sz n e m h1 i hi c (afX l);refine⟨v,s1,?_⟩;cases u:dM c with
      | false=>exact cD.k (ef G Y (g1 u) s2.c) (by cases c<;>first | rfl | cases u)
      | true=>
       cases c with
       | aV qs n2 e2 f2 F2=>exact oz.og Y (show oz S0 w' (.aV qs n2 e2 f2 F2) v from s2) (g2 rfl)
       | _=>cases u
    | map es c=>
     obtain⟨W,X⟩:=I;refine⟨W,λi hi=>?_⟩;obtain⟨kp,vp,en,y1,y2,y3,y4⟩:=X i hi;exact⟨kp,vp,en,by show(m i).map (qD h.length)=_;rw[y1];show[qD h.length kp,qD h.length vp]=_;rw[By y2,By y3],y2,y3,y4⟩
    | _=>exact I.elim
 ·rcases T b hb with h1 | h1
  ·rcases D b hs with h2 | h2
   ·exact d.apart b h1 h2
   ·have:=d.lt b h1;omega
  ·exact O b hs h1
 ·rcases T b hb with h1 | h1
  ·exact agc (d.lt b h1) r.size
  ·exact J.lt b h1
 ·intro i j gi Pg ni ei fi gj mw nj ej fj b o o' hi hj qe oP;rcases inv i _ _ _ _ _ hi with⟨h1,h2⟩ | ⟨a,m,rfl,h1,h2,_⟩
  ·rw[h2]at qe;rcases inv j _ _ _ _ _ hj with⟨h3,h4⟩ | ⟨A,f1,rfl,h3,h4,_⟩
   ·rw[h4]at oP;exact d.inj i j _ _ _ _ _ _ _ _ _ _ _ _ _ h1 h3 qe oP
   ·rw[h4]at oP;have E:=d.lt b (.inl ⟨i,_,_,_,_,_,_,h1,qe⟩);have H:=s b (.inl ⟨A,_,_,_,_,_,_,h3,oP⟩);omega
  ·rw[h2]at qe;rcases inv j _ _ _ _ _ hj with⟨h3,h4⟩ | ⟨A,f1,rfl,h3,h4,_⟩
   ·rw[h4]at oP;have E:=d.lt b (.inl ⟨j,_,_,_,_,_,_,h3,oP⟩);have H:=s b (.inl ⟨a,_,_,_,_,_,_,h1,qe⟩);omega
   ·rw[h4]at oP;have:=J.inj a A _ _ _ _ _ _ _ _ _ _ _ _ _ h1 h3 qe oP;rw[this]
theorem ACall.frame {f:FuncId} {args:List PV} {R:PV->List ar->Prop} (C:ACall P f args [] R) (h:List ar) (hp:args.all Kk=true):
  ACall P f args h (λres h'=>∃r0 h0,R r0 h0/\res=qC h.length r0/\h'=h++h0.map (ff h.length)):=by
 refine⟨C.1,λw vs μ S G r H I=>?_⟩;refine(C.2 w vs (λ_=>none) S (λid g sz n e f hid=>by simp at hid) ⟨λb hb=>absurd hb mz,λb hb=>absurd hb mz,r.slt,λi j g sz n e f g' cA n' J f' b o o' hi=>by simp at hi,r.known,λb _ x y z a=>zg a,λb _ _ _ _ _ _ a=>absurd a zg⟩ H (λj pv hj=>?_)).mono ?_
 ·obtain⟨v,h1,h2⟩:=I j pv hj;refine⟨v,h1,?_⟩;have d:=(afS.1 hp) pv (afX hj);cases pv with
  | agg cs=>
   obtain⟨us,q1,q2,q3⟩:=h2;refine⟨us,q1,q2,λi c hi=>?_⟩;obtain⟨u,r1,m⟩:=q3 i c hi;have hc:=(afS.1 d) c (afX hi);exact⟨u,r1,cD.my (A4 hc m)⟩
  | hJ cs=>cases d
  | own id gen off len=>cases d
  | bE id gen i off=>cases d
  | ql id=>cases d
  | uP f df=>cases d
  | jI=>cases d
  | aV sz n e f F=>cases d
  | int k n=>exact h2
  | bool b=>exact h2
  | str s=>exact h2
  | au=>exact h2
  | jq=>exact h2
  | gn sz n f=>exact h2
  | fT cs=>exact h2
  | fn f=>exact h2
 ·rintro e w' ⟨v,r0,h0,μ0,S0,he,K,hv,D,t,A⟩;have L:∀b,¬dc (λ_=>none) [] b:=λb=>mz
  obtain⟨M,N,O⟩:=GL (S':=S0) G r A D t (λ_=>True) (λ_ _ _ h=>h) (λid g sz n e f hid i hi c l=>⟨λ_=>trivial,λa=>by
    obtain⟨j,hj,B⟩:=agr.1 l;obtain⟨_,q2⟩:=D id g sz n e f hid;cases E:μ0 id with
    | none=>rw[E]at q2;omega
    | some p=>
     obtain⟨b,base⟩:=p;rw[E]at q2;obtain⟨o,_,m⟩:=q2;cases o with
     | cells cur J z=>
      obtain⟨_,_,_,Q⟩:=m;obtain⟨v,_,T⟩:=Q i j c hi (by rw[<-B];exact No hj);cases c with
      | aV qs n2 e2 f2 U=>exact oz.all (show oz S0 w' (.aV qs n2 e2 f2 U) v from T)
      | _=>cases a
     | map es cl=>
      obtain⟨V,W,en,y1,y2,X,_⟩:=m.2 i hi;rw[y1]at l;rcases afW.1 l with q | q
      ·rw[q]at a;cases V<;>first | (cases a;done) | (cases y2;done)
      ·rw[ahy.1 q]at a;cases W<;>first | (cases a;done) | (cases X;done)
     | _=>exact m.elim⟩) A.sub
   (λb hb=>(A.new b hb).imp id (λh=>h.resolve_left (L b))) t.slt (λb hb Y=>t.apart b Y hb)
  have Z:VA (λ_=>True) r0:=by
   unfold VA;split
   ·intro v _;split<;>intros<;>trivial
   ·intros;trivial
   ·trivial
  exact⟨v,_,_,_,S0,he,⟨r0,h0,K,rfl,rfl⟩,Eo _ (λ_ _ _ h=>h) Z hv,M,N,O⟩
def zP:ar->Prop
 | .row _ _ n _ f=>∀i,i<n->∀c∈f i,(dM c=false->rS c=true)/\(dM c=true->OG (λpv=>rS pv=true) c)
 | .dead=>True
theorem zO.p {o:ar} (h:zO o):zP o:=by
 cases o with
 | dead=>trivial
 | row g sz n e f=>
  intro i hi c hc;have:=(afS.1 (h i hi)) c hc;exact⟨λ_=>this,λa=>by cases c<;>first | (cases a;done) | (cases this;done)⟩
theorem ACall.snap {f:FuncId} {args p:List PV} {R:PV->List ar->Prop} (u:ACall P f p [] R) (h:List ar) (hl:p.length=args.length)
  (B:∀(j:Nat) (pv a:PV),args[j]? =some pv->p[j]? =some a->Fz h [] [] pv a/\mh a=true) (C:∀r0 h0,R r0 h0->DJ r0=true/\∀o∈h0,zP o):
  ACall P f args h (λres h'=>∃r0 h0,R r0 h0/\res=qC h.length r0/\h'=h++h0.map (ff h.length)):=by
 refine⟨u.1,λw vs μ S q d Q D=>?_⟩;have l:mW h [] [] 0 0 [] []:=trivial;obtain⟨x,_,_⟩:=Ag (m:=0) ⟨q,d⟩ l rfl;refine(u.2 w vs (oB μ h []) (GF μ h [] S) x.heap x.ok ajo (λj a hj=>?_)).mono ?_
 ·have E:j<args.length:=by rw[<-hl];exact(An.1 hj).1
  have y:=No E;obtain⟨v,h1,h2⟩:=D j _ y;obtain⟨F,T⟩:=B j _ a y hj;exact⟨v,h1,(xj (m:=0) ⟨q,d⟩ l F).2.1 v h2⟩
 ·rintro e w' ⟨v,r0,h0,μ0,S0,he,z,hv,G,H,r⟩;obtain⟨t,I⟩:=C r0 h0 z;have J:∀b,¬dc (oB μ h []) [] b:=λb=>mz
  have A:∀pv v,rS pv=true->bz S0 w' pv v->bz S w' pv v:=λpv v hf hp=>by
   cases hp with
   | int k n=>exact .int k n
   | bool b=>exact .bool b
   | str s=>exact .str s
   | au=>exact .au
   | jq=>exact .jq
   | fn f=>exact .fn f
   | tM=>cases hf
   | gn=>cases hf
   | fT=>cases hf
  obtain⟨K,L,M⟩:=GL (S':=S) q d r G H (λpv=>rS pv=true) A (λid g sz n e f hid i hi c hc=>I _ (afX hid) i hi c hc) (λ_ hb=>hb) (λb hb=>.inl hb) (λb hb=>agc (d.slt b hb) r.size)
   (λb hb N=>by
    have h1:=(r.own b N).resolve_left (J b);have h2:=d.slt b hb;omega)
  have O:VA (λpv=>rS pv=true) r0:=by
   cases r0 with
   | hJ vs=>
    intro v hv;have:=(afS.1 t) v hv;cases v with
    | agg cs=>exactλc hc=>(afS.1 this) c hc
    | _=>exact this
   | agg cs=>exactλc hc=>(afS.1 t) c hc
   | _=>exact t
  exact⟨v,_,_,_,S,he,⟨r0,h0,z,rfl,rfl⟩,Eo _ A O hv,K,L,M⟩
end
end Go.Am
