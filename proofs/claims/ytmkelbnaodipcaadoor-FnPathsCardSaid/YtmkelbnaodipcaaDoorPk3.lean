/- Texts of the proof, joined and shortened. -/
import Derived.Test.YtmkelbnaodipcaaDoorPk2
set_option linter.unusedVariables false
set_option linter.unusedSimpArgs false
namespace Go.Am
open Go Go.RowKit
section
variable {P:Program}{T:ij}{μ:Mu}{h h1:List au}{S:Nat->Prop}{w:World}
theorem yW (hc:Core μ h S w) (hx:vH h h1):∃μ',Fr μ h S w μ' h1 S w/\Core μ' h1 S w:=by
 obtain⟨id,g,sz,n,e,f,i,j,P,A,V,D,F,f1,hh,hi,hj,yU,CR,rfl⟩:=hx;have hid:id<h.length:=(an.1 hh).1;obtain⟨hl,aK⟩:=hc.heap id g sz n e f hh;have wx:j<sz:=by rw[<-hl i hi];exact(an.1 hj).1
 have oE:∃b0 Q R v,μ id=some (b0,Q)/\w.heap[b0]? =some (.cells R e (0,0))/\Q+n*sz<=R.size/\R[Q+i*sz+j]? =some v/\fK S w (.aG P A V D F) v/\
   ∀(i j:Nat) (pv:PV),i<n->(f i)[j]? =some pv->∃v:Value,R[Q+i*sz+j]? =some v/\gZ μ h S w pv v:=by
  cases cW:μ id with
  | none=>rw[cW]at aK;have aK:n=0:=aK;omega
  | some p=>
   obtain⟨b0,Q⟩:=p;rw[cW]at aK;obtain⟨o,q1,q2⟩:=aK;cases o with
   | cells R e0 z=>
    obtain⟨rfl,rfl,q3,q4⟩:=q2;obtain⟨v,m,d⟩:=q4 i j _ hi hj;exact⟨b0,Q,R,v,rfl,q1,q3,m,d,q4⟩
   | map es c=>
    obtain⟨kp,vp,en,y1,y2,y3,_⟩:=q2.2 i hi;rw[y1]at hj
    match j,hj with
    | 0,hj=>simp at hj;rw[hj]at y2;cases y2
    | 1,hj=>simp at hj;rw[hj]at y3;cases y3
    | y+2,hj=>simp at hj
   | _=>exact q2.elim
 obtain⟨b0,Q,R,v,cW,O1,kk,zl,RK,ep⟩:=oE;have CV:∀b,F b->bN h id i j b:=λb hb=>⟨_,_,_,_,_,_,_,_,_,_,hh,hi,hj,hb⟩
 obtain⟨p,hp⟩:∃p:Option (Nat×Nat),match p with
   | none=>v=.slice none 0 0/\A=0
   | some (b,off)=>F b/\∃(c:Nat) (a:Addr) (cur:Array Value),w.heap[b]? =some (.cells cur V (0,0))/\v=.slice (some a) A c/\A<=c/\(0<c->a=⟨b,off,none⟩)/\off+c*P<=cur.size/\(∀i,i<A->(D i).length=P)/\
     (∀(i j:Nat) (pv:PV),i<A->(D i)[j]? =some pv->∃u,cur[off+i*P+j]? =some u/\(aI S w pv u\/∃E s l t B,pv=.aG E s l t B/\fK S w (.aG E s l t B) u))/\
     (∀(i j T s:Nat) (l:TypeId) (t:Nat->List PV) (B:Nat->Prop),i<A->(D i)[j]? =some (.aG T s l t B)->∀W,B W->F W/\W≠b)/\
     (∀(i j T s:Nat) (l:TypeId) (t:Nat->List PV) (B:Nat->Prop) (i' j' Qz n3:Nat) (e3:TypeId) (f3:Nat->List PV) (F3:Nat->Prop),i<A->(D i)[j]? =some (.aG T s l t B)->i'<A->(D i')[j']? =some (.aG Qz n3 e3 f3 F3)->∀W,B W->F3 W->i=i'/\j=j'):=by
  cases RK with
  | nil _ _ _ _ hF=>exact⟨none,rfl,rfl⟩
  | vS _ _ _ _ _ b off c a cur vf hF hb hlen Fl ha cr aa gK jT rW vT=>
   refine⟨some (b,off),hF,c,a,cur,hb,rfl,Fl,ha,cr,hlen,λi j pv hi hj=>⟨_,aa i j pv hi hj,?_⟩,rW,vT⟩;rcases gK i j pv hi hj with q | ⟨E,s,l,t,B,rfl⟩
   ·exact .inl q
   ·exact .inr ⟨E,s,l,t,B,rfl,jT i j _ _ _ _ _ hi hj⟩
 have Pl:∀b off,p=some (b,off)->F b:=λb off hq=>by subst hq;exact hp.1
 generalize EK:h.set id (au.row g sz n e f1)++[au.row 0 P A V D]=h1;have QA:h1.length=h.length+1:=by rw[<-EK];simp
 have mJ:h1[id]? =some (au.row g sz n e f1):=by rw[<-EK,SR (by simpa using hid)];simp [hid]
 have p8:h1[h.length]? =some (au.row 0 P A V D):=by rw[<-EK,SP UQ];simp
 have aV:∀k,k≠id->k<h.length->h1[k]? =h[k]?:=λk hk N=>by rw[<-EK,SR (by simpa using N),SN (Tl hk)]
 have inv:∀k o,h1[k]? =some o->(k=id/\o=au.row g sz n e f1)\/(k=h.length/\o=au.row 0 P A V D)\/(k≠id/\k<h.length/\h[k]? =some o):=λk o hk=>by
  by_cases h2:k=id
  ·subst h2;rw[mJ]at hk;injection hk with hk;exact .inl ⟨rfl,hk.symm⟩
  ·by_cases G:k=h.length
   ·subst G;rw[p8]at hk;injection hk with hk;exact .inr (.inl ⟨rfl,hk.symm⟩)
   ·have h4:k<h.length:=by have:=(an.1 hk).1;omega
    rw[aV k h2 h4]at hk;exact .inr (.inr ⟨h2,h4,hk⟩)
 let μ1:Mu:=fv μ h.length p
 have rf:μ1 h.length=p:=aJ _ _ _;have H:∀k,k<h.length->μ1 k=μ k:=λk hk=>aZ μ _ UN
 have rh:∀x y pv,x<n->(f1 x)[y]? =some pv->((x,y)=(i,j)/\pv=.own h.length 0 0 A)\/((x,y)≠(i,j)/\(f x)[y]? =some pv):=λx y pv hx hy=>by
  by_cases X:x=i
  ·subst X;rw[yU,List.getElem?_set]at hy;by_cases U:j=y
   ·subst U;rw[An rfl,An (by rw[hl x hx];exact wx)]at hy;injection hy with hy;exact .inl ⟨rfl,hy.symm⟩
   ·rw[Is U]at hy;exact .inr ⟨λq=>U (by injection q with _ q;exact q.symm),hy⟩
  ·rw[CR x hx X]at hy;exact .inr ⟨λq=>X (by injection q),hy⟩
 have Y:∀k x y b,bN h1 k x y b->(k≠h.length/\¬(k=id/\x=i/\y=j)/\bN h k x y b)\/(k=h.length/\bN h id i j b/\∃T s l t B,x<A/\(D x)[y]? =some (.aG T s l t B)/\B b):=λk x y b ⟨g2,E,s,l,t,s3,n3,e3,f3,F3,q1,q2,q3,q4⟩=>by
  rcases inv k _ q1 with⟨rfl,C⟩ | ⟨rfl,C⟩ | ⟨h2,G,h4⟩
  ·injection C with I J K L M;subst I J K L M;rcases rh x y _ q2 q3 with⟨_,hq⟩ | ⟨iu,hq⟩
   ·cases hq
   ·exact .inl ⟨by omega,λ⟨_,b1,b2⟩=>iu (by rw[b1,b2]),_,_,_,_,_,_,_,_,_,_,hh,q2,hq,q4⟩
  ·injection C with I J K L M;subst I J K L M;refine .inr ⟨rfl,CV b ?_,_,_,_,_,_,q2,q3,q4⟩;cases p with
   | none=>have:=hp.2;omega
   | some pp=>
    obtain⟨pb,Im⟩:=pp;obtain⟨_,_,_,_,_,_,_,_,_,_,_,hs,_⟩:=hp;exact(hs x y _ _ _ _ _ q2 q3 b q4).1
  ·exact .inl ⟨by omega,λ⟨b1,_⟩=>h2 b1,_,_,_,_,_,_,_,_,_,_,h4,q2,q3,q4⟩
 have ri:∀b,qD μ1 h1 b->qD μ h b\/(∃off,p=some (b,off)):=λb ⟨k,g2,E,s,l,t,base,q1,q2⟩=>by
  rcases inv k _ q1 with⟨rfl,C⟩ | ⟨rfl,C⟩ | ⟨h2,G,h4⟩
  ·rw[H k hid]at q2;exact .inl ⟨k,_,_,_,_,_,_,hh,q2⟩
  ·rw[rf]at q2;exact .inr ⟨base,q2⟩
  ·rw[H k G]at q2;exact .inl ⟨k,_,_,_,_,_,_,h4,q2⟩
 have fm:∀b,bA μ1 h1 b->bA μ h b:=λb hb=>by
  rcases hb with hb | ⟨k,x,y,hb⟩
  ·rcases ri b hb with q | ⟨off,q⟩
   ·exact .inl q
   ·exact .inr ⟨_,_,_,CV b (Pl b off q)⟩
  ·rcases Y k x y b hb with⟨_,_,q⟩ | ⟨_,q,_⟩
   ·exact UM
   ·exact UM
 have dt:Fr μ h S w μ1 h1 S w:=by
  refine⟨by omega,λ_ _ _=>rfl,λ_ hb=>hb,λ_ hb=>.inl hb,λb hb=>.inl (fm b hb),Sv _,rfl,rfl,rfl,λk g2 E s l t hk=>?_,λk hk=>?_,λ_ _ _ hc=>hc,λk g2 E s l t b base hk hm fe=>⟨fe,.inr ⟨?_,?_⟩⟩,λ_ _ _ _ _ fe=>fe⟩
  ·have N:=(an.1 hk).1;by_cases lh:k=id
   ·subst lh;rw[hh]at hk;injection hk with hk;injection hk with I J K L M;subst I J K L M;rw[mJ];exact⟨Sv _,λ_=>⟨H _ hid,rfl,rfl,rfl⟩⟩
   ·rw[aV k lh N,hk];exact⟨Sv _,λ_=>⟨H k N,rfl,rfl,rfl⟩⟩
  ·have N:=(an.1 hk).1;rw[aV k (by rintro rfl;rw[hh]at hk;cases hk) N];exact hk
  ·have N:=(an.1 hk).1;by_cases lh:k=id
   ·subst lh;exact⟨_,_,_,_,_,mJ⟩
   ·exact⟨_,_,_,_,_,(aV k lh N).trans hk⟩
  ·rw[H k (an.1 hk).1];exact hm
 refine⟨μ1,dt,⟨λk g2 E s l t hk=>?_,⟨λb hb=>hc.ok.apart b (fm b hb),λb hb=>hc.ok.lt b (fm b hb),hc.ok.slt,?_,hc.ok.known,λb hb k x y hx=>?_,λb k x y k' x' y' hx jb=>?_⟩⟩⟩
 ·rcases inv k _ hk with⟨rfl,C⟩ | ⟨rfl,C⟩ | ⟨h2,G,h4⟩
  ·injection C with I J K L M;subst I J K L M;refine⟨λx hx=>?_,?_⟩
   ·by_cases X:x=i
    ·subst X;rw[yU,Te];exact hl x hx
    ·rw[CR x hx X];exact hl x hx
   ·rw[H k hid,cW];refine⟨_,O1,rfl,rfl,kk,λx y pv hx hy=>?_⟩;rcases rh x y pv hx hy with⟨hq,rfl⟩ | ⟨_,hq⟩
    ·injection hq with m d;subst m d;refine⟨v,zl,?_⟩;show aN μ1 h1 w h.length 0 0 A v;unfold aN;rw[p8];cases p with
     | none=>
      obtain⟨rfl,rfl⟩:=hp;exact⟨⟨_,_,_,rfl⟩,Sv _,λ_=>⟨Sv _,by rw[rf]⟩⟩
     | some pp=>
      obtain⟨pb,Im⟩:=pp;obtain⟨_,c,a,cur,t1,rfl,t3,t4,t5,_⟩:=hp;refine⟨⟨_,_,_,rfl⟩,Sv _,λ_=>⟨by omega,?_⟩⟩;rw[rf];exact⟨a,c,rfl,t3,λh0=>by rw[t4 h0];simp,cur,V,_,t1,by rw[Sx];exact t5⟩
    ·obtain⟨u,m,d⟩:=ep x y pv hx hq;exact⟨u,m,d.fr dt hc.ok (λ_ _ _ _ _ _ _ _=>rfl)⟩
  ·injection C with I J K L M;subst I J K L M;rw[rf];cases p with
   | none=>exact⟨λx hx=>by have:=hp.2;omega,hp.2⟩
   | some pp=>
    obtain⟨pb,Im⟩:=pp;obtain⟨_,c,a,cur,t1,_,t3,_,t5,t6,t7,_,_⟩:=hp;refine⟨t6,_,t1,rfl,rfl,S4 (Nat.add_le_add_left (SC _ t3) _) t5,λx y pv hx hy=>?_⟩;obtain⟨u,m,d⟩:=t7 x y pv hx hy;refine⟨u,m,?_⟩;rcases d with d | ⟨_,_,_,_,_,rfl,d⟩
    ·exact(bf.eX d).k (aI.no d)
    ·exact d
  ·obtain⟨q1,q2⟩:=hc.heap k _ _ _ _ _ h4;refine⟨q1,?_⟩;rw[H k G];cases hm:μ k with
   | none=>rw[hm]at q2;exact q2
   | some pp=>
    obtain⟨b,base⟩:=pp;rw[hm]at q2;obtain⟨o,m,d⟩:=q2;exact⟨o,m,d.mono (λ_ _ _ _ _ _ hr=>hr.fr dt hc.ok (λ_ _ _ _ _ _ _ _=>rfl))⟩
 ·intro a b ga sa na ea fa gb sb nb eb fb vS o o' ha hb Pm fe
  have xA:∀k gk sk nk ek fk oo,h1[k]? =some (au.row gk sk nk ek fk)->μ1 k=some (vS,oo)->(k=h.length/\F vS)\/(k<h.length/\∃gk sk nk ek fk,h[k]? =some (au.row gk sk nk ek fk)/\μ k=some (vS,oo)):=λk gk sk nk ek fk oo hk hm=>by
   rcases inv k _ hk with⟨rfl,C⟩ | ⟨rfl,C⟩ | ⟨h2,G,h4⟩
   ·rw[H k hid]at hm;exact .inr ⟨hid,_,_,_,_,_,hh,hm⟩
   ·rw[rf]at hm;exact .inl ⟨rfl,Pl _ _ hm⟩
   ·rw[H k G]at hm;exact .inr ⟨G,_,_,_,_,_,h4,hm⟩
  rcases xA a _ _ _ _ _ _ ha Pm with⟨rfl,q⟩ | ⟨q0,_,_,_,_,_,q1,q2⟩
  ·rcases xA b _ _ _ _ _ _ hb fe with⟨rfl,_⟩ | ⟨r0,_,_,_,_,_,m,d⟩
   ·rfl
   ·exact absurd (CV vS q) (hc.ok.hv vS ⟨b,_,_,_,_,_,_,m,d⟩ _ _ _)
  ·rcases xA b _ _ _ _ _ _ hb fe with⟨rfl,r⟩ | ⟨r0,_,_,_,_,_,m,d⟩
   ·exact absurd (CV vS r) (hc.ok.hv vS ⟨a,_,_,_,_,_,_,q1,q2⟩ _ _ _)
   ·exact hc.ok.inj a b _ _ _ _ _ _ _ _ _ _ _ _ _ q1 m q2 d
 ·rcases ri b hb with q | ⟨off,q⟩
  ·rcases Y k x y b hx with⟨_,_,r⟩ | ⟨_,r,_⟩
   ·exact hc.ok.hv b q _ _ _ r
   ·exact hc.ok.hv b q _ _ _ r
  ·rcases Y k x y b hx with⟨_,iu,r⟩ | ⟨_,r,T,s,l,t,B,m,d,r3⟩
   ·exact iu (hc.ok.hh b _ _ _ _ _ _ r (CV b (Pl b off q)))
   ·subst q;obtain⟨_,_,_,_,_,_,_,_,_,_,_,hs,_⟩:=hp;exact(hs x y _ _ _ _ _ m d b r3).2 rfl
 ·rcases Y k x y b hx with⟨k1,iu,r⟩ | ⟨rfl,r,T,s,l,t,B,m,d,r3⟩
  ·rcases Y k' x' y' b jb with⟨k2,O,Z⟩ | ⟨rfl,Z,_⟩
   ·exact hc.ok.hh b _ _ _ _ _ _ r Z
   ·exact absurd (hc.ok.hh b _ _ _ _ _ _ r Z) iu
  ·rcases Y k' x' y' b jb with⟨k2,O,Z⟩ | ⟨rfl,Z,Qz,n3,e3,f3,F3,t1,t2,t3⟩
   ·exact absurd (hc.ok.hh b _ _ _ _ _ _ Z r) O
   ·cases p with
    | none=>have:=hp.2;omega
    | some pp=>
     obtain⟨pb,Im⟩:=pp;obtain⟨_,_,_,_,_,_,_,_,_,_,_,_,hd⟩:=hp;obtain⟨e1,l⟩:=hd x y _ _ _ _ _ x' y' _ _ _ _ _ m d t1 t2 b r3 t3;exact⟨rfl,e1,l⟩
def IP (μ:Mu) (h:List au) (sub:Nat) (b:Nat):Prop:=(∃g sz n e f base,h[sub]? =some (au.row g sz n e f)/\μ sub=some (b,base))\/∃x y,bN h sub x y b
theorem tE (hc:Core μ h S w) {id i j sub:Nat} (hx:tD h id i j sub (IP μ h sub) h1):Fr μ h S w μ h1 S w/\Core μ h1 S w:=by
 obtain⟨g,sz,n,e,f,g2,U,O,e2,f2,f1,hh,hs,iu,hi,hj,RL,yU,CR,rfl⟩:=hx;have hid:id<h.length:=(an.1 hh).1;have zF:sub<h.length:=(an.1 hs).1;obtain⟨hl,aK⟩:=hc.heap id g sz n e f hh;have wx:j<sz:=by rw[<-hl i hi];exact(an.1 hj).1
 generalize d:IP μ h sub=F;rw[d]at yU
 have Ln:∀b,F b->bA μ h b:=λb hb=>by
  rw[<-d]at hb;rcases hb with⟨g,sz,n,e,f,base,q1,q2⟩ | ⟨x,y,q⟩
  ·exact .inl ⟨sub,_,_,_,_,_,_,q1,q2⟩
  ·exact UM
 generalize EK:(h.set id (au.row g sz n e f1)).set sub au.dead=h1;have mJ:h1[id]? =some (au.row g sz n e f1):=by rw[<-EK,SN (Tl iu)];simp [hid]
 have qd:h1[sub]? =some au.dead:=by rw[<-EK,SV (by simpa using zF)]
 have aV:∀k,k≠id->k≠sub->h1[k]? =h[k]?:=λk h2 m=>by rw[<-EK,SN (Tl m),SN (Tl h2)]
 have inv:∀k gk s t A B,h1[k]? =some (au.row gk s t A B)->k≠sub/\((k=id/\au.row gk s t A B=au.row g sz n e f1)\/(k≠id/\h[k]? =some (au.row gk s t A B))):=λk gk s t A B hk=>by
  have m:k≠sub:=by rintro rfl;rw[qd]at hk;cases hk
  refine⟨m,?_⟩;by_cases h2:k=id
  ·subst h2;rw[mJ]at hk;injection hk with hk;exact .inl ⟨rfl,hk.symm⟩
  ·rw[aV k h2 m]at hk;exact .inr ⟨h2,hk⟩
 have rh:∀x y pv,x<n->(f1 x)[y]? =some pv->((x=i/\y=j)/\pv=.aG U O e2 f2 F)\/(¬(x=i/\y=j)/\(f x)[y]? =some pv):=λx y pv hx hy=>by
  by_cases P:x=i
  ·subst P;rw[yU,List.getElem?_set]at hy;by_cases J:j=y
   ·subst J;rw[An rfl,An (by rw[hl x hx];exact wx)]at hy;injection hy with hy;exact .inl ⟨⟨rfl,rfl⟩,hy.symm⟩
   ·rw[Is J]at hy;exact .inr ⟨λq=>J q.2.symm,hy⟩
  ·rw[CR x hx P]at hy;exact .inr ⟨λq=>P q.1,hy⟩
 have V:∀k x y b,bN h1 k x y b->(k=id/\x=i/\y=j/\F b)\/(k≠sub/\¬(k=id/\x=i/\y=j)/\bN h k x y b):=λk x y b ⟨g3,s3,n3,e3,f3,s4,n4,e4,f4,F4,q1,q2,q3,q4⟩=>by
  obtain⟨m,hq⟩:=inv k _ _ _ _ _ q1;rcases hq with⟨rfl,ho⟩ | ⟨h2,h4⟩
  ·injection ho with W X Y Z a5;subst W X Y Z a5;rcases rh x y _ q2 q3 with⟨⟨E,l⟩,hq⟩ | ⟨aa,hq⟩
   ·injection hq with _ _ _ _ hq;subst hq;exact .inl ⟨rfl,E,l,q4⟩
   ·exact .inr ⟨m,λ⟨_,b1⟩=>aa b1,_,_,_,_,_,_,_,_,_,_,hh,q2,hq,q4⟩
  ·exact .inr ⟨m,λ⟨b1,_⟩=>h2 b1,_,_,_,_,_,_,_,_,_,_,h4,q2,q3,q4⟩
 have ri:∀b,qD μ h1 b->∃k gk s t A B base,k≠sub/\h[k]? =some (au.row gk s t A B)/\μ k=some (b,base):=λb ⟨k,g3,s3,n3,e3,f3,base,q1,q2⟩=>by
  obtain⟨m,hq⟩:=inv k _ _ _ _ _ q1;rcases hq with⟨rfl,ho⟩ | ⟨h2,h4⟩
  ·exact⟨k,_,_,_,_,_,_,m,hh,q2⟩
  ·exact⟨k,_,_,_,_,_,_,m,h4,q2⟩
 have fm:∀b,bA μ h1 b->bA μ h b:=λb hb=>by
  rcases hb with hb | ⟨k,x,y,hb⟩
  ·obtain⟨k,_,_,_,_,_,_,_,q1,q2⟩:=ri b hb;exact .inl ⟨k,_,_,_,_,_,_,q1,q2⟩
  ·rcases V k x y b hb with⟨_,_,_,q⟩ | ⟨_,_,q⟩
   ·exact Ln b q
   ·exact UM
 have dt:Fr μ h S w μ h1 S w:=by
  refine⟨by rw[<-EK];simp,λ_ _ _=>rfl,λ_ hb=>hb,λ_ hb=>.inl hb,λb hb=>.inl (fm b hb),Sv _,rfl,rfl,rfl,λk g3 s3 n3 e3 f3 hk=>?_,λk hk=>?_,λ_ _ _ hc=>hc,λk g3 s3 n3 e3 f3 b base hk hm fe=>⟨fe,?_⟩,λ_ _ _ _ _ fe=>fe⟩
  ·by_cases lh:k=id
   ·subst lh;rw[hh]at hk;injection hk with hk;injection hk with W X Y Z a5;subst W X Y Z a5;rw[mJ];exact UD
   ·by_cases G:k=sub
    ·subst G;rw[qd];trivial
    ·rw[aV k lh G,hk];exact UD
  ·by_cases G:k=sub
   ·subst G;exact qd
   ·rw[aV k (by rintro rfl;rw[hh]at hk;cases hk) G];exact hk
  ·by_cases G:k=sub
   ·subst G;exact .inl qd
   ·refine .inr ⟨?_,hm⟩;by_cases lh:k=id
    ·subst lh;exact⟨_,_,_,_,_,mJ⟩
    ·exact⟨_,_,_,_,_,(aV k lh G).trans hk⟩
 have FP:∀k x y b,k≠sub->bN h k x y b->¬F b:=λk x y b hk hx hF=>by
  rw[<-d]at hF;rcases hF with⟨_,_,_,_,_,_,q1,q2⟩ | ⟨_,_,q⟩
  ·exact hc.ok.hv b ⟨sub,_,_,_,_,_,_,q1,q2⟩ _ _ _ hx
  ·exact hk (hc.ok.hh b _ _ _ _ _ _ hx q).1
 refine⟨dt,⟨λk g3 s3 n3 e3 f3 hk=>?_,⟨λb hb=>hc.ok.apart b (fm b hb),λb hb=>hc.ok.lt b (fm b hb),hc.ok.slt,?_,hc.ok.known,λb hb k x y hx=>?_,λb k x y k' x' y' hx jb=>?_⟩⟩⟩
 ·obtain⟨m,hq⟩:=inv k _ _ _ _ _ hk;rcases hq with⟨rfl,ho⟩ | ⟨h2,h4⟩
  ·injection ho with W X Y Z a5;subst W X Y Z a5;refine⟨λx hx=>?_,?_⟩
   ·by_cases P:x=i
    ·subst P;rw[yU,Te];exact hl x hx
    ·rw[CR x hx P];exact hl x hx
   ·cases cW:μ k with
    | none=>rw[cW]at aK;exact aK
    | some p=>
     obtain⟨b0,pD⟩:=p;rw[cW]at aK;obtain⟨o,q1,q2⟩:=aK;refine⟨o,q1,?_⟩;cases o with
     | cells vV e0 z=>
      obtain⟨rfl,rfl,q3,q4⟩:=q2;refine⟨rfl,rfl,q3,λx y pv hx hy=>?_⟩;rcases rh x y pv hx hy with⟨⟨rfl,rfl⟩,rfl⟩ | ⟨_,hq⟩
      ·obtain⟨v,E,l⟩:=q4 x y _ hx hj;refine⟨v,E,?_⟩;show fK S w (.aG U O e2 f2 F) v;have l:aN μ h w sub g2 0 O v:=l;unfold aN at l;rw[hs]at l;obtain⟨_,_,r3⟩:=l;obtain⟨_,Q⟩:=r3 rfl;obtain⟨s1,R⟩:=hc.heap sub _ _ _ _ _ hs;cases C:μ sub with
       | none=>
        rw[C]at Q R;have R:O=0:=R;have Q:v=.slice none 0 0:=Q;subst R Q;refine .nil _ _ _ _ (λb hb=>?_);rw[<-d]at hb;rcases hb with⟨_,_,_,_,_,_,_,t2⟩ | ⟨x',y',t1,t2,t3,t4,t5,t6,t7,t8,t9,ad,H,u2,u3,u4⟩
        ·rw[C]at t2;cases t2
        ·rw[hs]at H;injection H with H;injection H with _ _ H _ _;omega
       | some p=>
        obtain⟨b,base⟩:=p;rw[C]at Q R;obtain⟨a,cap,rfl,t2,t3,t4⟩:=Q;obtain⟨cur,H,u2,u3⟩:=bu.cells t4 R
        have cr:base+cap*U<=cur.size:=by
         obtain⟨kM,e',z',T,p2⟩:=t4;rw[H]at T;injection T with T;injection T with T _ _;subst T;rw[Sx]at p2;exact p2
        have RM:qD μ h b:=⟨sub,_,_,_,_,_,_,hs,C⟩;have Ip:∀(x y K L:Nat) (M:TypeId) (N:Nat->List PV) (I:Nat->Prop),x<O->(f2 x)[y]? =some (.aG K L M N I)->∀D,I D->bN h sub x y D:=λx y K L M N I hx hy D fA=>⟨_,_,_,_,_,_,_,_,_,_,hs,hx,hy,fA⟩;refine .vS U O e2 f2 F b base cap a cur (λx y=>(cur[base+x*U+y]?).getD undef) (by rw[<-d];exact .inl ⟨_,_,_,_,_,_,hs,C⟩) H s1 t2 (λh0=>by rw[t3 h0];simp) cr (λx y pv hx hy=>?_) (λx y pv hx hy=>?_) (λx y K L M N I hx hy=>?_) (λx y K L M N I hx hy D fA=>?_) (λx y K L M N I x' y' s6 n6 e6 f6 F6 hx hy jb P2 D fA Jj=>?_)
        ·obtain⟨u,w1,_⟩:=u3 x y pv hx hy;rw[w1];rfl
        ·obtain⟨u,w1,w2⟩:=u3 x y pv hx hy;rw[w1];rcases RL x hx pv (SJ hy)with z1 | z1
         ·exact .inl (oS z1 w2.c)
         ·exact .inr (by cases pv<;>first | exact⟨_,_,_,_,_,rfl⟩ | cases z1)
        ·obtain⟨u,w1,w2⟩:=u3 x y _ hx hy;rw[w1];exact w2
        ·have hq:=Ip x y K L M N I hx hy D fA;refine⟨by rw[<-d];exact .inr ⟨_,_,hq⟩,?_⟩;rintro rfl;exact hc.ok.hv D RM _ _ _ hq
        ·exact(hc.ok.hh D _ _ _ _ _ _ (Ip x y K L M N I hx hy D fA) (Ip x' y' s6 n6 e6 f6 F6 jb P2 D Jj)).2
      ·obtain⟨u,E,l⟩:=q4 x y pv hx hq;exact⟨u,E,l.fr dt hc.ok (λ_ _ _ _ _ _ _ _=>rfl)⟩
     | map es c=>
      obtain⟨kp,vp,en,y1,y2,y3,_⟩:=q2.2 i hi;rw[y1]at hj
      match j,hj with
      | 0,hj=>simp at hj;rw[hj]at y2;cases y2
      | 1,hj=>simp at hj;rw[hj]at y3;cases y3
      | y+2,hj=>simp at hj
     | _=>exact q2.elim
  ·obtain⟨q1,q2⟩:=hc.heap k _ _ _ _ _ h4;refine⟨q1,?_⟩;cases hm:μ k with
   | none=>rw[hm]at q2;exact q2
   | some pp=>
    obtain⟨b,base⟩:=pp;rw[hm]at q2;obtain⟨o,E,l⟩:=q2;exact⟨o,E,l.mono (λ_ _ _ _ _ _ hr=>hr.fr dt hc.ok (λ_ _ _ _ _ _ _ _=>rfl))⟩
 ·intro a b ga sa na ea fa gb sb nb eb fb vS o o' ha hb Pm fe
  have xA:∀k gk s t A B,h1[k]? =some (au.row gk s t A B)->∃gk s t A B,h[k]? =some (au.row gk s t A B):=λk gk s t A B hk=>by
   rcases(inv k _ _ _ _ _ hk).2 with⟨rfl,_⟩ | ⟨_,q⟩
   ·exact⟨_,_,_,_,_,hh⟩
   ·exact⟨_,_,_,_,_,q⟩
  obtain⟨_,_,_,_,_,q1⟩:=xA a _ _ _ _ _ ha;obtain⟨_,_,_,_,_,q2⟩:=xA b _ _ _ _ _ hb;exact hc.ok.inj a b _ _ _ _ _ _ _ _ _ _ _ _ _ q1 q2 Pm fe
 ·obtain⟨k0,_,_,_,_,_,_,q0,q1,q2⟩:=ri b hb;rcases V k x y b hx with⟨_,_,_,q⟩ | ⟨_,_,q⟩
  ·rw[<-d]at q;rcases q with⟨_,_,_,_,_,_,E,l⟩ | ⟨_,_,r⟩
   ·exact q0 (hc.ok.inj k0 sub _ _ _ _ _ _ _ _ _ _ _ _ _ q1 E q2 l)
   ·exact hc.ok.hv b ⟨k0,_,_,_,_,_,_,q1,q2⟩ _ _ _ r
  ·exact hc.ok.hv b ⟨k0,_,_,_,_,_,_,q1,q2⟩ _ _ _ q
 ·rcases V k x y b hx with⟨rfl,rfl,rfl,q⟩ | ⟨k1,_,q⟩
  ·rcases V k' x' y' b jb with⟨rfl,rfl,rfl,_⟩ | ⟨k2,_,r⟩
   ·exact⟨rfl,rfl,rfl⟩
   ·exact absurd q (FP _ _ _ _ k2 r)
  ·rcases V k' x' y' b jb with⟨rfl,rfl,rfl,r⟩ | ⟨k2,_,r⟩
   ·exact absurd r (FP _ _ _ _ k1 q)
   ·exact hc.ok.hh b _ _ _ _ _ _ q r
variable {C:Start}{env:Env}{a:Act}
theorem gz.turn (hs:gz C μ h S env a w) {μ':Mu} (hf:Fr μ h S w μ' h1 S w) (hc:Core μ' h1 S w):gz C μ' h1 S env a w:=
 ⟨hc,hs.fr.trans hf,λt=>(hs.tmps t).fr hf hs.core.ok,hs.size,hs.I6,hs.defers⟩
theorem gz.ex (hs:gz C μ h S env a w) (hx:vH h h1):∃μ',gz C μ' h1 S env a w:=by
 obtain⟨μ',hf,hc⟩:=yW hs.core hx;exact⟨μ',hs.turn hf hc⟩
theorem gz.ab (hs:gz C μ h S env a w) {id i j sub:Nat} {h1:(Nat->Prop)->List au} (ha:∀F,tD h id i j sub F (h1 F)):∃F,gz C μ (h1 F) S env a w:=by
 obtain⟨hf,hc⟩:=tE hs.core (ha (IP μ h sub));exact⟨_,hs.turn hf hc⟩
end
section
variable {P:Program}{T:ij}{μ:Mu}{h η:List au}{k:List Nat}{S:Nat->Prop}{w:World}{C:Start}{env:Env}{a:Act}
theorem gz.agree (hs:gz C μ h S env a w) {w':World} (ha:bg w w'):gz C μ h S env a w':=
 ⟨⟨hs.core.heap.agree ha hs.core.ok,hs.core.ok.agree ha⟩,hs.fr.trans (Fr.mX ha),λt=>(hs.tmps t).fr (Fr.mX ha) hs.core.ok,hs.size,hs.I6,hs.defers⟩
theorem rj {pv:PV} {v:Value} {w w':World} {μ μ':Mu} {h h':List au} {S S':Nat->Prop} (hs:mW pv=true) (hv:aX μ h S w pv v):aX μ' h' S' w' pv v/\∀a:Value,aX μ' h' S' w' pv a->a=v:=by
 cases pv with
 | int k n=>obtain rfl:=hv.eW;exact⟨aI.int _ _,λa h'=>h'.eW⟩
 | bool b=>obtain rfl:=hv.gn;exact⟨aI.bool _,λa h'=>h'.gn⟩
 | str s=>obtain rfl:=hv.gp;exact⟨aI.str _,λa h'=>h'.gp⟩
 | aD=>obtain rfl:=hv.iL;exact⟨aI.aD,λa h'=>h'.iL⟩
 | _=>cases hs
def sU:PV->Value
 | .int k n=>.int k n
 | .bool b=>.bool b
 | .str s=>.string ⟨⟨s⟩⟩
 | .aD=>.slice none 0 0
 | _=>undef
theorem jD {pv:PV} {w:World} {μ:Mu} {h:List au} {S:Nat->Prop} (hs:mW pv=true):aX μ h S w pv (sU pv):=by
 cases pv with
 | int k n=>exact aI.int _ _
 | bool b=>exact aI.bool _
 | str s=>exact aI.str _
 | aD=>exact aI.aD
 | _=>cases hs
theorem xN {P:Program} {K:Env->Prop} (all:List Oper) (o:Oper) (rest:List Oper) (env:Env) (h:List au) {j:Nat} {want:Bool} (hg:o.guard=some (j,want)):
  mK P T all h K (o::rest) env=(match(all[j]?).bind (·.dst)with
     | some t=>match env t with
      | .bool b=>cw b
        (match(generalizing:=false) want with
         | true=>Iq P T o.op (jh env t (.bool true)) h (λv=>mK P T all h K rest (bV (jh env t (.bool true)) o.dst v))
         | false=>mK P T all h K rest (bV (jh env t (.bool true)) o.dst (.db [])))
        (match(generalizing:=false) want with
         | true=>mK P T all h K rest (bV (jh env t (.bool false)) o.dst (.db []))
         | false=>Iq P T o.op (jh env t (.bool false)) h (λv=>mK P T all h K rest (bV (jh env t (.bool false)) o.dst v)))
      | .db []=>mK P T all h K rest (bV env o.dst (.db []))
      | _=>False
     | none=>False):=by
 obtain⟨dst,op,ty,pos,after,guard⟩:=o;have hg:guard=some (j,want):=hg;rw[hg];rfl
theorem ky (r:bR P T) (ops:Array Oper) {K:Env->Prop} {Q:Act->Prop} (h:List au) (w:World) (μ:Mu) (S:Nat->Prop) (s:∀env a,K env->gz C μ h S env a w->Q a):
  ∀(l:List Oper) (env:Env) (a:Act),mK P T ops.toList h K l env->(∀o∈l,gA C.nt o=true)->gz C μ h S env a w->wpQuiet P ops (bg w) Q l a
 | [],env,a,hp,_,hs=>s env a hp hs
 | o::rest,env,a,hp,hd,hs=>by
  have y:∀t,o.dst=some t->t<C.nt:=λt z=>by
   have:=hd o UQ;unfold gA at this;rw[z]at this;simpa using this
  have A:∀o∈rest,gA C.nt o=true:=λo L=>hd o (by simp [L])
  have run:∀env',gz C μ h S env' a w->Iq P T o.op env' h (λv=>mK P T ops.toList h K rest (bV env' o.dst v))->o.quiet P a (bg w) (wpQuiet P ops (bg w) Q rest):=λenv' d g=>by
   obtain⟨dst,op,ty,pos,after,guard⟩:=o
   have still:bB T op env' h (λv=>mK P T ops.toList h K rest (bV env' dst v))->Oper.quiet P ⟨dst,op,ty,pos,after,guard⟩ a (bg w) (wpQuiet P ops (bg w) Q rest):=λg=>by
    obtain⟨v,val,i,hv,M⟩:=gM (P:=P) (env:=env') r d.core.heap d.tmps (dst:=dst) (ty:=ty) (pos:=pos) (after:=after) (guard:=guard) g;refine⟨val,λw' x=>?_,ky r ops h w μ S s rest _ _ i A (d.put Fr.refl d.core hv y)⟩;unfold Oper.quietAt;rw[M w' x];exact⟨rfl,rfl⟩
   cases op with
   | call c=>
    obtain⟨N,args,O⟩:=c;cases N with
    | value B=>
     have F:=bp d.tmps B;change CW P (ev env' B) (args.toList.map (ev env')) h _ at g
     unfold CW at g;split at g
     ·rename_i f R;rw[R]at F;replace g:=aT g;obtain⟨FM,dj,v,U,V,⟨⟨fn,c,W,X,Y⟩,Z⟩,i⟩:=g;obtain⟨n,i⟩:=aT i;refine⟨sU v,λw' x=>?_,ky r ops h w μ S s rest _ _ i A (d.put Fr.refl d.core (jD n) y)⟩;have D:=d.agree x;obtain⟨G,RN⟩:=mo.get _ _ U;have H:=(nW (k:=[]) (η:=[]) (m:=0) D.core trivial rfl).1
      have vR:=Z w' (args.map a.eval) (fN μ h []) (sT μ h [] S) H.heap H.ok (by simpa using G.symm) (λj E hj=>by
       have I:j<args.toList.length:=by have:=(an.1 hj).1;simpa[G]using this
       have hx:(args.toList.map (ev env'))[j]? =some (ev env' args.toList[j]):=by rw[SL,As I];rfl
       refine⟨a.eval args.toList[j],by rw[TZ];have:=As I;simp only[SQ]at this;rw[this];rfl,?_⟩;have hv:=(lx (k:=[]) (η:=[]) (m:=0) D.core trivial (RN j _ E hx hj)).2.2 _ (bp D.tmps args.toList[j]);have iu:=(Sy.1 V) E (SJ hj);cases E with
       | db ps=>cases iu
       | _=>exact hv)
      have ft:(execOp a.eval ⟨dst,.call ⟨.value B,args,O⟩,ty,pos,after,guard⟩).run P w'=.ok (.enter f (args.map a.eval)) w':=by
       simp only[execOp,resolve,F.BS,Deferred.ofValue,invoke,callFunc,Sem.run_bind,Sem.run_pure,Result.andThen_ok,Array.append_empty,TL];have qW:¬fn.name= "runtime.NumGoroutine" :=by simpa using Y
       simp [program,Sem.run,Result.andThen,W,qW,X]
      unfold Oper.quietAt;rw[ft];refine⟨rfl,vR.mono λe J ⟨u,res,h',μ',S',he,hR,hv,hH,hM,q⟩=>?_⟩;subst hR;have hu:=(rj (w':=w) (μ':=μ) (h':=h) (S':=S) n (jD (w:=J) (μ:=μ') (h:=h') (S:=S') n)).1;have yy:=(rj (w':=J) (μ':=μ') (h':=h') (S':=S') n (jD (w:=w) (μ:=μ) (h:=h) (S:=S) n)).2 u hv;refine⟨by rw[he,yy],x.trans ⟨λb hb=>q.blocks b hb eZ,q.size,q.os,q.tape,q.output⟩⟩
     ·exact g.elim
    | _=>exact still g
   | _=>exact still g
  have skip:∀env',gz C μ h S env' a w->mK P T ops.toList h K rest (bV env' o.dst (.db []))->wpQuiet P ops (bg w) Q rest (a.put o.dst undef):=λenv' d g=>
   ky r ops h w μ S s rest _ _ g A (d.put Fr.refl d.core mG y)
  unfold wpQuiet;cases hg:o.guard with
  | none=>
   have hp:Iq P T o.op env h (λv=>mK P T ops.toList h K rest (bV env o.dst v)):=by
    exact Ua
   rw[An (by simp [Region.wanted,hg])];exact run env hs hp
  | some p=>
   obtain⟨j,want⟩:=p;rw[xN ops.toList o rest env h hg]at hp;split at hp
   ·rename_i t hj;split at hp
    ·rename_i b he;have hy:=mF hs hj he;obtain⟨z,hf⟩:=eM hp;have d:=hs.re he;cases b with
     | true=>
      have hp:=z rfl;cases want with
      | true=>rw[An UU];exact run _ d hp
      | false=>rw[Is UU];exact skip _ d hp
     | false=>
      have hp:=hf rfl;cases want with
      | true=>rw[Is UU];exact skip _ d hp
      | false=>rw[An UU];exact run _ d hp
    ·rename_i he;rw[Is U6];exact skip _ hs hp
    ·exact Uq
   ·exact Uq
theorem oU:∀(σ:List (Nat×PV)) (t:Nat),yQ h η k env σ->(∃v,Fz h η k (env t) v/\pU iw σ t=v)\/pU iw σ t=.dA
 | [],t,_=>.inr rfl
 | (b,v)::r,t,hh=>by
  obtain⟨h1,h2⟩:=hh;by_cases a:t=b
  ·subst a;exact .inl ⟨v,h1,by simp [pU,qZ]⟩
  ·simp only[pU];rw[uu _ _ a];exact oU r t h2
theorem sW (hs:gz C μ h S env a w) {σ:List (Nat×PV)} (b:nO C.h.length env h σ η):∃μ' S',gz C μ' η S' (pU iw σ) a w:=by
 obtain⟨k,hk,hm,he,hh⟩:=b;obtain⟨c,_,_⟩:=nW hs.core hh hk;refine⟨fN μ h k,sT μ h k S,c,FN hs.core hs.fr hh hk hm,λt=>?_,hs.size,λt d=>?_,hs.defers⟩
 ·rcases oU σ t he with⟨v,h1,h2⟩ | h1
  ·rw[h2];exact(lx hs.core hh h1).2.2 _ (hs.tmps t)
  ·rw[h1];trivial
 ·rcases oU σ t he with⟨v,h1,h2⟩ | h1
  ·rw[hs.I6 t d]at h1;rw[h2];cases h1;rfl
  ·exact h1
theorem oT.mono {Q b:XQ} {e:Exit} {w:World} (hq:∀env h,Q e env h->b e env h) (c:oT C Q e a w):oT C b e a w:=by
 obtain⟨μ,h,S,env,hs,d⟩:=c;exact⟨μ,h,S,env,hs,hq env h d⟩
theorem fF:∀(l:List Nat) (x:Nat),eH l x=true->x∈l
 | [],_,h=>by cases h
 | a::r,x,h=>by
  unfold eH at h;split at h
  ·rename_i hb;have:=No hb;simp [this]
  ·exact SG _ (fF r x h)
theorem fO (k:bR P T) (ops:Array Oper) {K:Env->List au->Prop} {Q:Exit->Act->World->Prop} {next:Act->World->Prop} (f:∀env h a w μ S,K env h->gz C μ h S env a w->next a w) (i:Nat) (o:Oper) (l:ops[i]? =some o)
  (hd:gA C.nt o=true) (env:Env) (h:List au) (a:Act) (w:World) (μ:Mu) (S:Nat->Prop) (hp:jY P T ops.toList K [o] env h) (hs:gz C μ h S env a w):wpOp P ops Q i next a w:=by
 have g:∀t,o.dst=some t->t<C.nt:=λt d=>by
  unfold gA at hd;rw[d]at hd;simpa using hd
 have run:∀env',gz C μ h S env' a w->pop P T o.op env' h (λv h'=>K (bV env' o.dst v) h')->o.wp P a w next Q:=λenv' c e=>by
  obtain⟨dst,op,ty,pos,after,guard⟩:=o;refine sR (env:=env') k c.core c.tmps e _ _ λv val h' μ' S' w' m hv hc hf=>?_;exact f _ h' _ w' μ' S' m (c.put hf hc hv g)
 have skip:∀env',gz C μ h S env' a w->K (bV env' o.dst (.db [])) h->next (a.put o.dst undef) w:=λenv' c e=>
  f _ h _ w μ S e (c.put Fr.refl c.core mG g)
 unfold wpOp;simp only[l];cases hg:o.guard with
 | none=>
  have hp:pop P T o.op env h (λv h'=>K (bV env o.dst v) h'):=by
   exact Ua
  rw[An (by simp [Region.wanted,hg])];exact .inl (run env hs hp)
 | some p=>
  obtain⟨j,want⟩:=p;rw[mH ops.toList o [] env h hg]at hp;split at hp
  ·rename_i t hj;split at hp
   ·rename_i b he;have hy:=mF hs hj he;obtain⟨d,hf⟩:=eM hp;have c:=hs.re he;cases b with
    | true=>
     have hp:=d rfl;cases want with
     | true=>rw[An UU];exact .inl (run _ c hp)
     | false=>rw[Is UU];exact skip _ c hp
    | false=>
     have hp:=hf rfl;cases want with
     | true=>rw[Is UU];exact skip _ c hp
     | false=>rw[An UU];exact .inl (run _ c hp)
   ·rename_i he;rw[Is U6];exact skip _ hs hp
   ·exact Uq
  ·exact Uq
theorem CX {op:Op} {env:Env} {h:List au} {G:PV->List au->Prop} (hs:bB T op env h (λv=>G v h)):pop P T op env h G:=by
 cases op with
 | store t a x=>exact hs.elim
 | box t x=>exact hs.elim
 | alloc t=>exact hs.elim
 | makeSlice t l c=>exact hs.elim
 | buildSlice t len parts=>exact hs.elim
 | convert s d x=>
  simp only[pop];split
  ·rename_i e f g;simp only[bB,e,f,g]at hs
  ·exact hs
 | binOp i t x y ty=>
  simp only[pop];split
  ·rename_i e f g;simp only[bB,zB,e,f,g]at hs
  ·exact hs
 | makeMap t r=>exact hs.elim
 | mapUpdate t m k x=>exact hs.elim
 | call c=>
  obtain⟨callee,args,j⟩:=c;cases callee with
  | value n=>exact hs.elim
  | builtin b=>cases b with
   | append=>exact hs.elim
   | copy=>exact hs.elim
   | _=>(simp only[pop];exact hs)
  | _=>(simp only[pop];exact hs)
 | _=>(simp only[pop];exact hs)
theorem rk {st:Bool} {op:Op} {env:Env} {h:List au} {G:PV->List au->Prop} (hs:rY P T st op env h G):pop P T op env h G:=by
 cases st with
 | true=>exact CX hs
 | false=>exact hs
theorem kz {all:List Oper} {st:Bool} {o:Oper} {K:Env->List au->Prop} {env:Env} {h:List au} (hp:fs P T all st o (λv h'=>K (bV env o.dst v) h') env h):jY P T all K [o] env h:=by
 unfold fs at hp;cases hg:o.guard with
 | none=>
  rw[hg]at hp;obtain⟨dst,op,ty,pos,after,guard⟩:=o;have hg:guard=none:=hg;subst hg;exact rk hp
 | some q=>
  obtain⟨j,want⟩:=q;rw[hg]at hp;rw[mH all o [] env h hg];simp only at hp ⊢;generalize(all[j]?).bind (·.dst)=d at hp ⊢;cases d with
  | none=>exact hp.elim
  | some t=>
   simp only at hp ⊢;generalize hv:env t=v at hp ⊢;cases v with
   | bool b=>
    simp only at hp ⊢;cases b with
    | true=>
     refine .mk (λ_=>?_) (λhc=>by cases hc);rw[qe hv];cases want with
     | true=>exact rk hp
     | false=>exact hp
    | false=>
     refine .mk (λhc=>by cases hc) (λ_=>?_);rw[qe hv];cases want with
     | true=>exact hp
     | false=>exact rk hp
   | db l=>cases l with
    | nil=>exact hp
    | cons a r=>exact hp.elim
   | _=>exact hp.elim
inductive rZ (all:List Oper):Nat->Nat->Prop
 | base {x i:Nat} (h:x∈a6 all i):rZ all x i
 | step {x d i:Nat} (h:d∈a6 all i) (hx:rZ all x d):rZ all x i
theorem uv:∀(l acc:List Nat) (x:Nat),x∈Lp l acc->x∈l\/x∈acc
 | [],acc,x,h=>.inr h
 | a::r,acc,x,h=>by
  unfold Lp at h;cases hi:eH acc a with
  | true=>rw[hi]at h;exact(uv r acc x h).imp (SG _) id
  | false=>
   rw[hi]at h;rcases uv r (a::acc) x h with h | h
   ·exact .inl (SG _ h)
   ·simp only[SB]at h;rcases h with rfl | h
    ·exact .inl UQ
    ·exact .inr h
theorem lO:∀(l:List Nat) (x:Nat),x∈l->eH l x=true
 | a::r,x,h=>by
  unfold eH;cases hb:Nat.beq a x with
  | true=>rfl
  | false=>
   simp only[SB]at h;rcases h with rfl | h
   ·rw[Tn]at hb;cases hb
   ·exact lO r x h
theorem jZ {all:List Oper}:∀(ord:List (Nat×Bool)) (t:List (Nat×List Nat)),(∀i x,eH (bK t i) x=true->rZ all x i)->∀i x,eH (bK (j3 all ord t) i) x=true->rZ all x i
 | [],t,hg=>hg
 | (j,b)::r,t,hg=>jZ r _ (λi x hx=>by
  unfold bK at hx;cases hb:Nat.beq j i with
  | false=>rw[hb]at hx;exact hg i x hx
  | true=>
   rw[hb]at hx;have:=No hb;subst this;rcases uv _ _ _ (fF _ _ hx)with hm | hm
   ·rw[Sw,List.mem_flatMap]at hm;rcases hm with hm | ⟨d,hd,hm⟩
    ·exact .base hm
    ·exact .step hd (hg d x (lO _ _ hm))
   ·simp at hm)
theorem cm {ops:Array Oper} {t:List (Nat×List Nat)} {p:Nat×Bool}:∀(c d:List (Nat×Bool)),aR ops t (c++p::d)=true->(∀o,o∈c->cx ops t o p=true)/\aR ops t (c++d)=true
 | [],d,h=>by
  simp only[Tq,aR,so]at h;exact⟨λo b=>by simp at b,h.2⟩
 | a::c,d,h=>by
  simp only[TE,aR,so,Sy]at h ⊢;obtain⟨h1,h2⟩:=cm c d h.2;refine⟨λo b=>?_,λq hq=>h.1 q (by simp only[Sw,SB]at hq ⊢;exact hq.imp id .inr),h2⟩;simp only[SB]at b;rcases b with rfl | b
  ·exact h.1 p UQ
  ·exact h1 o b
theorem gQ {ops:Array Oper} {i:Nat} {o:Oper} (a:ops[i]? =some o) {d:Nat}:d∈a6 ops.toList i↔∃e,e∈o.after/\Region.binds .any e=true/\e.on=d:=by
 unfold a6;have:ops.toList[i]? =some o:=by simpa using a
 rw[this];unfold CY;rw[List.mem_filterMap];constructor
 ·rintro⟨e,he,hx⟩;cases hb:Region.binds .any e with
  | true=>rw[hb]at hx;exact⟨e,by simpa using he,hb,by simpa using hx⟩
  | false=>rw[hb]at hx;cases hx
 ·rintro⟨e,he,hb,hx⟩;exact⟨e,by simpa using he,by rw[hb];simp [hx]⟩
theorem nX (F:bR P T) (ops:Array Oper) {t:List (Nat×List Nat)} (G:∀i x,eH (bK t i) x=true->rZ ops.toList x i) (er:∀i,i<ops.size->∀d,d∈a6 ops.toList i->d<ops.size/\d≠i)
  {K:Env->List au->Prop} {Q:Exit->Act->World->Prop} (H:∀env h a w μ S,K env h->gz C μ h S env a w->Q .normal a w) (hd:∀o∈ops.toList,gA C.nt o=true):
  ∀(n:Nat) (l:List (Nat×Bool)) (k:List (Nat×List Nat)) (listed:Array Bool) (env:Env) (h:List au) (a:Act) (w:World) (μ:Mu) (S:Nat->Prop),l.length=n->aR ops t l=true->(∀p,p∈l->p.1<ops.size)->listed.size=ops.size->
   (∀j,j<ops.size->(listed.getD j true=false↔j∈l.map (·.1)))->(∀j,j<ops.size->j∉l.map (·.1)->∀d,d∈a6 ops.toList j->d∉l.map (·.1))->rl P T ops.toList t K l k env h->gz C μ h S env a w->wpAny P .any ops Q n listed a w
 | 0,l,k,listed,env,h,a,w,μ,S,u,_,_,dp,m,_,hf,hs=>by
  obtain rfl:l=[]:=List.length_eq_zero_iff.1 u;refine⟨?_,H env h a w μ S hf hs⟩;cases V:Region.ready .any ops listed with
  | nil=>rfl
  | cons j r=>
   have hj:j∈Region.ready .any ops listed:=by rw[V];simp
   rw[mem_ready]at hj;obtain⟨h1,o,y,_⟩:=hj;have:=(m j (Su.1 y).1).1 h1;simp at this
 | n+1,l,k,listed,env,h,a,w,μ,S,u,z,I,dp,m,J,hf,hs=>by
  have FQ:∀d,d<ops.size->(listed.getD d false=true↔d∉l.map (·.1)):=λd L=>by
   have:=m d L;have e:listed.getD d false=listed.getD d true:=by simp [Array.getD,dp,L]
   rw[e,<-this];cases listed.getD d true<;>simp
  refine⟨λh0=>?_,λi hi=>?_⟩
  ·exfalso;cases l with
   | nil=>simp at u
   | cons p r=>
    have hp:=I p UQ;have y:=SO hp
    have:p.1∈Region.ready .any ops listed:=by
     rw[mem_ready];refine⟨(m p.1 hp).2 UQ,_,y,λe he hb=>?_⟩;have hm:e.on∈a6 ops.toList p.1:=(gQ y).2 ⟨e,he,hb,rfl⟩;obtain⟨W,X⟩:=er p.1 hp _ hm;rw[FQ _ W];intro hc;simp only[SE,SB,SF]at hc;rcases hc with hc | ⟨q,hq,hc⟩
     ·exact X hc
     ·simp only[aR,so,Sy]at z;have:=z.1 q hq;unfold cx at this;simp only[so,SX]at this;rw[hc,lO _ _ hm]at this;exact absurd this.1.2 UQ
    rw[h0]at this;simp at this
  ·rw[mem_ready]at hi;obtain⟨h1,A,mU,vW⟩:=hi;have iv:=(Su.1 mU).1
   have D:∀d,d∈a6 ops.toList i->d∉l.map (·.1):=λd lP=>by
    exact Ul
   have Y:∀x,rZ ops.toList x i->x∉l.map (·.1):=by
    have gen:∀x j,rZ ops.toList x j->j<ops.size->(∀d,d∈a6 ops.toList j->d∉l.map (·.1))->x∉l.map (·.1):=λx j ha=>by
     induction ha with
     | base hx=>exactλ_ hj=>hj _ hx
     | step lP _ E=>exactλhj Z=>E (er _ hj _ lP).1 (J _ (er _ hj _ lP).1 (Z _ lP))
    exactλx ha=>gen x i ha iv D
   obtain⟨p,hp,M⟩:=SF.1 ((m i iv).1 h1);obtain⟨f,g,rfl⟩:=T0 hp;obtain⟨c,st⟩:=p;simp only at M;subst M;obtain⟨N,Po⟩:=cm f g z;have pV:ops.toList[c]? =some A:=by simpa using mU
   have Aa:=nY (P:=P) (T:=T) (ops:=ops) (t:=t) (K:=K) pV f g k env h (λq hq=>by
    have hk:=N q hq;unfold cx at hk;simp only[so,Th,SX]at hk;have O:q.1∈(f++(c,st)::g).map (·.1):=SF.2 ⟨q,by simp [hq],rfl⟩
    have R:eH (bK t c) q.1=false:=by
     cases hb:eH (bK t c) q.1 with
     | false=>rfl
     | true=>exact absurd O (Y _ (G _ _ hb))
    rcases hk.2 with lV | ⟨Pp,s⟩
    ·exact absurd O (D _ (fF _ _ lV))
    ·refine⟨?_,R,Pp⟩;rcases s with s | s
     ·exact s
     ·rw[R]at s;cases s) hf
   have iu:∀q,q∈f++g->q.1≠c:=λq hq=>by
    rw[Sw]at hq;rcases hq with hq | hq
    ·have hk:=N q hq;unfold cx at hk;simp only[so,SX]at hk;intro he;have this:Nat.beq q.1 c=false:=hk.1.1;rw[he,Tn]at this;cases this
    ·have:∀(f:List (Nat×Bool)),aR ops t (f++(c,st)::g)=true->cx ops t (c,st) q=true:=λf=>by
      induction f with
      | nil=>intro hh;simp only[Tq,aR,so,Sy]at hh;exact hh.1 q hq
      | cons b r E=>intro hh;simp only[TE,aR,so]at hh;exact E hh.2
     have hk:=this f z;unfold cx at hk;simp only[so,SX]at hk;intro he;have:=hk.1.1;rw[he]at this;rw[Tn]at this;cases this
   have B:∀j,j∈(f++(c,st)::g).map (·.1)↔j=c\/j∈(f++g).map (·.1):=λj=>by
    simp only[SU,SE,Sw,SB];constructor
    ·rintro(h | h | h)
     ·exact UA
     ·exact .inl h
     ·exact .inr (.inr h)
    ·rintro(h | h | h)
     ·exact UA
     ·exact .inl h
     ·exact .inr (.inr h)
   have xO:c∉(f++g).map (·.1):=λhm=>by
    obtain⟨q,hq,he⟩:=SF.1 hm;exact iu q hq he
   have j4:jY P T ops.toList (λenv' h'=>rl P T ops.toList t K (f++g) k env' h') [A] env h:=kz (bT (λv h' hk=>hk.2.2) Aa);refine fO F ops (λenv' h' a' w' μ' S' hk eG=>nX F ops G er H hd n (f++g) k _ env' h' a' w' μ' S' (by simp at u ⊢;omega) Po (λq hq=>I q (by rw[Sw]at hq ⊢;exact hq.imp id (SG _))) Vc (λj hj=>?_) (λj hj Pq dd U=>?_) hk eG) c A mU (hd A (by have:=(an.1 pV);obtain⟨h1,h2⟩:=this;rw[<-h2];exact SM h1)) env h a w μ S j4 hs
   ·by_cases bO:j=c
    ·subst bO;constructor
     ·intro hc;have:(listed.setIfInBounds j true).getD j true=true:=by simp [Array.getD,dp,hj]
      rw[this]at hc;cases hc
     ·intro hc;exact absurd hc xO
    ·have e:(listed.setIfInBounds c true).getD j true=listed.getD j true:=getD_set_ne true (Tl bO);rw[e,m j hj,B j];constructor
     ·rintro(h | h)
      ·exact absurd h bO
      ·exact h
     ·exact .inr
   ·by_cases bO:j=c
    ·subst bO;exactλhm=>D dd U ((B dd).2 (.inr hm))
    ·exactλhm=>J j hj (λhc=>by rcases(B j).1 hc with hc | hc;exact bO hc;exact Pq hc) dd U ((B dd).2 (.inr hm))
theorem j5 {ops:Array Oper} {listed:Array Bool} {i:Nat} {L L':List Nat} (a:∀j,j∈L↔j=i\/j∈L') (c:i∉L') (dp:listed.size=ops.size) (f:∀j,j<ops.size->(listed.getD j true=false↔j∈L))
  (g:∀j,j<ops.size->j∉L->∀d,d∈a6 ops.toList j->d∉L) (k:∀d,d∈a6 ops.toList i->d∉L):
  (∀j,j<ops.size->((listed.setIfInBounds i true).getD j true=false↔j∈L'))/\∀j,j<ops.size->j∉L'->∀d,d∈a6 ops.toList j->d∉L':=by
 refine⟨λj hj=>?_,λj hj l d b hm=>?_⟩
 ·by_cases bO:j=i
  ·subst bO;constructor
   ·intro hc;have:(listed.setIfInBounds j true).getD j true=true:=by simp [Array.getD,dp,hj]
    rw[this]at hc;cases hc
   ·intro hc;exact absurd hc c
  ·have e:(listed.setIfInBounds i true).getD j true=listed.getD j true:=getD_set_ne true (Tl bO);rw[e,f j hj,a j];exact⟨λh=>h.resolve_left bO,.inr⟩
 ·by_cases bO:j=i
  ·subst bO;exact k d b ((a d).2 (.inr hm))
  ·exact g j hj (λhc=>by rcases(a j).1 hc with hc | hc;exact bO hc;exact l hc) d b ((a d).2 (.inr hm))
theorem ee {ops:Array Oper} {t:List (Nat×List Nat)} {p q:Nat×Bool} (h:cx ops t p q=true):p.1≠q.1:=by
 unfold cx at h;simp only[so,SX]at h;intro he;have:=h.1.1;rw[he,Tn]at this;cases this
theorem rn {ops:Array Oper} {t:List (Nat×List Nat)} {p q:Nat×Bool} (h:cx ops t p q=true):q.1∉a6 ops.toList p.1:=by
 unfold cx at h;simp only[so,SX]at h;intro hm;have:=h.1.2;rw[lO _ _ hm]at this;cases this
theorem dN {ops:Array Oper} {t:List (Nat×List Nat)} {p q:Nat×Bool}:∀(b a:List (Nat×Bool)),aR ops t (b++p::a)=true->q∈a->cx ops t p q=true
 | [],a,h,hq=>by simp only[Tq,aR,so,Sy]at h;exact h.1 q hq
 | _::b,a,h,hq=>by simp only[TE,aR,so]at h;exact dN b a h.2 hq
theorem j6 {ops:Array Oper} {t:List (Nat×List Nat)} (e:∀i x,eH (bK t i) x=true->rZ ops.toList x i) {L:List Nat} {q:Nat×Bool} {i:Nat} {st:Bool} (hk:cx ops t q (i,st)=true) (b:q.1∈L) (f:∀d,d∈a6 ops.toList i->d∉L) (g:∀x,rZ ops.toList x i->x∉L):
  q.2=true/\eH (bK t i) q.1=false/\jt ops q.1 i=true:=by
 unfold cx at hk;simp only[so,Th,SX]at hk
 have c:eH (bK t i) q.1=false:=by
  cases hb:eH (bK t i) q.1 with
  | false=>rfl
  | true=>exact absurd b (g _ (e _ _ hb))
 rcases hk.2 with h | ⟨j,a⟩
 ·exact absurd b (f _ (fF _ _ h))
 ·refine⟨?_,c,j⟩;rcases a with a | a
  ·exact a
  ·rw[c]at a;cases a
theorem mi (I:bR P T) (ops:Array Oper) {t:List (Nat×List Nat)} (A:∀i x,eH (bK t i) x=true->rZ ops.toList x i) (er:∀i,i<ops.size->∀d,d∈a6 ops.toList i->d<ops.size/\d≠i) {x y:Nat} {b c:List (Nat×Bool)}
  (hlen:c.length=b.length) (EL:∀j,j∈((x,false)::b).map (·.1)↔j∈((y,false)::c).map (·.1)) (It:∀d,d∈a6 ops.toList x->d∉((x,false)::b).map (·.1)) (FU:x∉b.map (·.1)) (FV:y∉c.map (·.1))
  (ux:∀p,p∈b->p.1=y\/eH (bK t p.1) x=true\/eH (bK t p.1) y=true)
  {K:Env->List au->Prop} {Q:Exit->Act->World->Prop} (hK:∀env h a w μ S,K env h->gz C μ h S env a w->Q .normal a w) (hd:∀o∈ops.toList,gA C.nt o=true)
  (n:Nat) (l:List (Nat×Bool)) (f:List (Nat×List Nat)) (listed:Array Bool) (env:Env) (h:List au) (a:Act) (w:World) (μ:Mu) (S:Nat->Prop) (Y:l.length=n) (F:aR ops t (l++b)=true) (FW:aR ops t (l++c)=true)
  (B:∀p,p∈l->cx ops t p (x,false)=true/\cx ops t p (y,false)=true/\∀d,d∈a6 ops.toList p.1->d∉((x,false)::b).map (·.1))
  (G:∀p,p∈l++(x,false)::b->p.1<ops.size) (dp:listed.size=ops.size)
  (H:∀j,j<ops.size->(listed.getD j true=false↔j∈(l++(x,false)::b).map (·.1))) (Z:∀j,j<ops.size->j∉(l++(x,false)::b).map (·.1)->∀d,d∈a6 ops.toList j->d∉(l++(x,false)::b).map (·.1))
  (hf:oV P T ops.toList t ((x,false)::b) ((y,false)::c) K l f env h) (hs:gz C μ h S env a w)
  (ih:∀m,m+1=n->∀(l:List (Nat×Bool)) (f:List (Nat×List Nat)) (listed:Array Bool) (env:Env) (h:List au) (a:Act) (w:World) (μ:Mu) (S:Nat->Prop),l.length=m->aR ops t (l++b)=true->aR ops t (l++c)=true->
   (∀p,p∈l->cx ops t p (x,false)=true/\cx ops t p (y,false)=true/\∀d,d∈a6 ops.toList p.1->d∉((x,false)::b).map (·.1))->
   (∀p,p∈l++(x,false)::b->p.1<ops.size)->listed.size=ops.size->
   (∀j,j<ops.size->(listed.getD j true=false↔j∈(l++(x,false)::b).map (·.1)))->(∀j,j<ops.size->j∉(l++(x,false)::b).map (·.1)->∀d,d∈a6 ops.toList j->d∉(l++(x,false)::b).map (·.1))->
   oV P T ops.toList t ((x,false)::b) ((y,false)::c) K l f env h->gz C μ h S env a w->wpAny P .any ops Q (m+(b.length+1)) listed a w):wpAny P .any ops Q (n+(b.length+1)) listed a w:=by
 have FQ:∀d,d<ops.size->(listed.getD d false=true↔d∉(l++(x,false)::b).map (·.1)):=λd CU=>by
  have:=H d CU;have e:listed.getD d false=listed.getD d true:=by simp [Array.getD,dp,CU]
  rw[e,<-this];cases listed.getD d true<;>simp
 have hx:=G (x,false) UQ;refine⟨λh0=>?_,λi hi=>?_⟩
 ·exfalso
  have first:∃p,p<ops.size/\p∈(l++(x,false)::b).map (·.1)/\∀d,d∈a6 ops.toList p->d∉(l++(x,false)::b).map (·.1):=by
   cases l with
   | nil=>exact⟨x,hx,by simp,λd J hm=>It d J (by simpa using hm)⟩
   | cons p r=>
    have hp:=G p UQ;refine⟨p.1,hp,by simp,λd J hm=>?_⟩;rw[SU,Sw]at hm;rcases hm with hm | hm
    ·simp only[SE,SB,SF]at hm;rcases hm with rfl | ⟨q,hq,rfl⟩
     ·exact(er _ hp _ J).2 rfl
     ·exact rn (dN [] _ F (Tr _ hq)) J
    ·exact(B p UQ).2.2 d J hm
  obtain⟨p,hp,Pr,Ps⟩:=first
  have ho:=SO hp
  have:p∈Region.ready .any ops listed:=by
   rw[mem_ready];refine⟨(H p hp).2 Pr,_,ho,λe he hb=>?_⟩;have hm:e.on∈a6 ops.toList p:=(gQ ho).2 ⟨e,he,hb,rfl⟩;rw[FQ _ (er p hp _ hm).1];exact Ps _ hm
  rw[h0]at this;simp at this
 ·rw[mem_ready]at hi;obtain⟨h1,k,mU,vW⟩:=hi;have iv:=(Su.1 mU).1;have pV:ops.toList[i]? =some k:=by simpa using mU
  have xP:gA C.nt k=true:=hd k Vf
  have D:∀d,d∈a6 ops.toList i->d∉(l++(x,false)::b).map (·.1):=λd lP=>by
   exact Ul
  have L:∀z,rZ ops.toList z i->z∉(l++(x,false)::b).map (·.1):=by
   have gen:∀z j,rZ ops.toList z j->j<ops.size->(∀d,d∈a6 ops.toList j->d∉(l++(x,false)::b).map (·.1))->z∉(l++(x,false)::b).map (·.1):=λz j ha=>by
    induction ha with
    | base hx=>exactλ_ hj=>hj _ hx
    | step lP _ ih=>exactλhj Lq=>ih (er _ hj _ lP).1 (Z _ (er _ hj _ lP).1 (Lq _ lP))
   exactλz ha=>gen z i ha iv D
  have Pt:y∈((x,false)::b).map (·.1):=(EL y).2 UQ;have s:=(H i iv).1 h1;rw[SU,Sw]at s
  have split:i∈l.map (·.1)\/i=x\/i=y:=by
   rcases s with s | s
   ·exact .inl s
   ·simp only[SE,SB,SF]at s;rcases s with rfl | ⟨q,hq,rfl⟩
    ·exact .inr (.inl rfl)
    ·rcases ux q hq with h2 | h2 | h2
     ·exact .inr (.inr h2)
     ·exact absurd (by simp:x∈(l++(x,false)::b).map (·.1)) (L _ (A _ _ h2))
     ·exact absurd (by rw[SU,Sw];exact .inr Pt) (L _ (A _ _ h2))
  rcases split with s | rfl | rfl
  ·-- one of aa ahead
   obtain⟨p,hp,FR⟩:=SF.1 s;obtain⟨g,u,rfl⟩:=T0 hp;obtain⟨E,st⟩:=p;simp only at FR;subst FR;have e1:g++(E,st)::u++b=g++(E,st)::(u++b):=by simp
   have e2:g++(E,st)::u++c=g++(E,st)::(u++c):=by simp
   rw[e1]at F;rw[e2]at FW;obtain⟨FT,Pu⟩:=cm g _ F;obtain⟨_,Pv⟩:=cm g _ FW;have M:=s7 (P:=P) (T:=T) (ops:=ops) (t:=t) (A0:=(x,false)::b) (B0:=(y,false)::c) (K:=K) pV g u f env h (λq hq=>j6 A (FT q hq) (by rw[SU,Sw];exact .inl (SF.2 ⟨q,Tr _ hq,rfl⟩)) D L) hf
   have N:E∉((g++u)++(x,false)::b).map (·.1):=λhm=>by
    simp only[SU,SE,Sw,SB,SF]at hm;rcases hm with(⟨q,hq,he⟩ | ⟨q,hq,he⟩) | he | ⟨q,hq,he⟩
    ·exact ee (FT q hq) he
    ·exact ee (dN g _ F (Tr _ hq)) he.symm
    ·exact ee (B (E,st) UQ).1 he
    ·exact ee (dN g _ F (List.mem_append_right _ hq)) he.symm
   obtain⟨O,R⟩:=j5 (L':=((g++u)++(x,false)::b).map (·.1)) (λj=>by
    simp only[SU,SE,Sw,SB];constructor
    ·rintro((h | h | h) | h)
     ·exact .inr (.inl (.inl h))
     ·exact .inl h
     ·exact .inr (.inl (.inr h))
     ·exact .inr (.inr h)
    ·rintro(h | (h | h) | h)
     ·exact .inl (.inr (.inl h))
     ·exact .inl (.inl h)
     ·exact .inl (.inr (.inr h))
     ·exact .inr h) N dp H Z D
   have U:jY P T ops.toList (λenv' h'=>oV P T ops.toList t ((x,false)::b) ((y,false)::c) K (g++u) f env' h') [k] env h:=kz (bT (λv h' hk=>hk.2.2) M);obtain⟨m,rfl⟩:∃m,n=m+1:=⟨n - 1,by simp at Y;omega⟩;rw[show(m+1).add b.length=m+(b.length+1)from(by show m+1+b.length=_;omega)]
   refine fO I ops (λenv' h' V w' μ' S' hk W=>ih m rfl (g++u) f _ env' h' V w' μ' S' (by simp at Y ⊢;omega) (by rw[SY];exact Pu) (by rw[SY];exact Pv) (λq hq=>B q (by
    simp only[Sw,SB]at hq ⊢;exact hq.imp id .inr)) (λq hq=>G q (by
    simp only[Sw,SB]at hq ⊢;rcases hq with(h | h) | h
    ·exact .inl (.inl h)
    ·exact .inl (.inr (.inr h))
    ·exact .inr h)) Vc O R hk W) E k mU xP env h a w μ S U hs
  ·-- X first of X two
   have rF:rl P T ops.toList t K (l++(i,false)::b) f env h:=xQ l f env h hf;have M:=nY (P:=P) (T:=T) (ops:=ops) (t:=t) (K:=K) pV l b f env h (λq hq=>j6 A (B q hq).1 Vg D L) rF
   have N:i∉(l++b).map (·.1):=λhm=>by
    simp only[SU,Sw]at hm;rcases hm with hm | hm
    ·obtain⟨q,hq,he⟩:=SF.1 hm;exact ee (B q hq).1 he
    ·exact FU hm
   obtain⟨O,R⟩:=j5 (L':=(l++b).map (·.1)) (λj=>by
    simp only[SU,SE,Sw,SB];constructor
    ·rintro(h | h | h)
     ·exact UA
     ·exact .inl h
     ·exact .inr (.inr h)
    ·rintro(h | h | h)
     ·exact UA
     ·exact .inl h
     ·exact .inr (.inr h)) N dp H Z D
   have U:jY P T ops.toList (λenv' h'=>rl P T ops.toList t K (l++b) f env' h') [k] env h:=kz (bT (λv h' hk=>hk.2.2) M)
   refine fO I ops (λenv' h' V w' μ' S' hk W=>nX I ops A er hK hd (n+b.length) (l++b) f _ env' h' V w' μ' S' (by simp [Y]) F (λq hq=>G q (by
    simp only[Sw,SB]at hq ⊢;exact hq.imp id .inr)) Vc O R hk W) i k mU xP env h a w μ S U hs
  ·-- X second
   have rF:rl P T ops.toList t K (l++(i,false)::c) f env h:=xR l f env h hf;have M:=nY (P:=P) (T:=T) (ops:=ops) (t:=t) (K:=K) pV l c f env h (λq hq=>j6 A (B q hq).2.1 Vg D L) rF
   have N:i∉(l++c).map (·.1):=λhm=>by
    simp only[SU,Sw]at hm;rcases hm with hm | hm
    ·obtain⟨q,hq,he⟩:=SF.1 hm;exact ee (B q hq).2.1 he
    ·exact FV hm
   obtain⟨O,R⟩:=j5 (L':=(l++c).map (·.1)) (λj=>by
    rw[SU,Sw,EL j,SU];simp only[SE,Sw,SB];constructor
    ·rintro(h | h | h)
     ·exact UA
     ·exact .inl h
     ·exact .inr (.inr h)
    ·rintro(h | h | h)
     ·exact UA
     ·exact .inl h
     ·exact .inr (.inr h)) N dp H Z D
   have U:jY P T ops.toList (λenv' h'=>rl P T ops.toList t K (l++c) f env' h') [k] env h:=kz (bT (λv h' hk=>hk.2.2) M)
   refine fO I ops (λenv' h' V w' μ' S' hk W=>nX I ops A er hK hd (n+b.length) (l++c) f _ env' h' V w' μ' S' (by simp [Y,hlen]) FW (λq hq=>by
    rw[Sw]at hq;rcases hq with h | h
    ·exact G q (Tr _ h)
    ·have:q.1∈((x,false)::b).map (·.1):=(EL q.1).2 (SG _ (SF.2 ⟨q,h,rfl⟩));obtain⟨p,hp,he⟩:=SF.1 this;rw[<-he];exact G p (List.mem_append_right _ hp)) Vc O R hk W) i k mU xP env h a w μ S U hs
theorem C0 (f:bR P T) (ops:Array Oper) {t:List (Nat×List Nat)} (g:∀i x,eH (bK t i) x=true->rZ ops.toList x i) (er:∀i,i<ops.size->∀d,d∈a6 ops.toList i->d<ops.size/\d≠i) {x y:Nat} {b c:List (Nat×Bool)}
  (hlen:c.length=b.length) (k:∀j,j∈((x,false)::b).map (·.1)↔j∈((y,false)::c).map (·.1)) (q:∀d,d∈a6 ops.toList x->d∉((x,false)::b).map (·.1)) (r:x∉b.map (·.1)) (s:y∉c.map (·.1))
  (u:∀p,p∈b->p.1=y\/eH (bK t p.1) x=true\/eH (bK t p.1) y=true)
  {K:Env->List au->Prop} {Q:Exit->Act->World->Prop} (v:∀env h a w μ S,K env h->gz C μ h S env a w->Q .normal a w) (hd:∀o∈ops.toList,gA C.nt o=true)
  (n:Nat) (l:List (Nat×Bool)) (e:List (Nat×List Nat)) (listed:Array Bool) (env:Env) (h:List au) (a:Act) (w:World) (μ:Mu) (S:Nat->Prop) (z:l.length=n) (A:aR ops t (l++b)=true) (B:aR ops t (l++c)=true)
  (D:∀p,p∈l->cx ops t p (x,false)=true/\cx ops t p (y,false)=true/\∀d,d∈a6 ops.toList p.1->d∉((x,false)::b).map (·.1))
  (E:∀p,p∈l++(x,false)::b->p.1<ops.size) (dp:listed.size=ops.size)
  (F:∀j,j<ops.size->(listed.getD j true=false↔j∈(l++(x,false)::b).map (·.1))) (G:∀j,j<ops.size->j∉(l++(x,false)::b).map (·.1)->∀d,d∈a6 ops.toList j->d∉(l++(x,false)::b).map (·.1))
  (hf:oV P T ops.toList t ((x,false)::b) ((y,false)::c) K l e env h) (hs:gz C μ h S env a w):wpAny P .any ops Q (n+(b.length+1)) listed a w:=by
 induction n generalizing l e listed env h a w μ S with
 | zero=>exact mi f ops g er hlen k q r s u v hd 0 l e listed env h a w μ S z A B D E dp F G hf hs (λm hm=>absurd hm (Nat.succ_ne_zero m))
 | succ n H=>exact mi f ops g er hlen k q r s u v hd (n+1) l e listed env h a w μ S z A B D E dp F G hf hs (λm hm=>by(obtain rfl:m=n:=Nat.succ.inj hm);exact H)
def Left (ops:Array Oper) (l:List (Nat×Bool)) (R:List Nat) (listed:Array Bool):Prop:=
 listed.size=ops.size/\(∀j,j<ops.size->(listed.getD j true=false↔j∈l.map (·.1)++R))/\∀j,j<ops.size->j∉l.map (·.1)++R->∀d,d∈a6 ops.toList j->d∉l.map (·.1)++R
def Iu (P:Program) (T:ij) (C:Start) (ops:Array Oper) (t:List (Nat×List Nat)) (Q:Exit->Act->World->Prop) (E:List (Nat×List Nat)->Env->List au->Prop) (R:List Nat) (c:List (Nat×Bool)->Prop):Prop:=
 ∀(l:List (Nat×Bool)) (b:List (Nat×List Nat)) (listed:Array Bool) (env:Env) (h:List au) (a:Act) (w:World) (μ:Mu) (S:Nat->Prop),c l->(∀p,p∈l->p.1<ops.size)->Left ops l R listed->
  gf P T ops.toList t E l b env h->gz C μ h S env a w->wpAny P .any ops Q (l.length+R.length) listed a w
theorem nZ (f:bR P T) (ops:Array Oper) {t:List (Nat×List Nat)} (g:∀i x,eH (bK t i) x=true->rZ ops.toList x i) (er:∀i,i<ops.size->∀d,d∈a6 ops.toList i->d<ops.size/\d≠i)
  {K:Env->List au->Prop} {Q:Exit->Act->World->Prop} (j:∀env h a w μ S,K env h->gz C μ h S env a w->Q .normal a w) (hd:∀o∈ops.toList,gA C.nt o=true) (A:List (Nat×Bool)) (k:∀p,p∈A->p.1<ops.size):
  Iu P T C ops t Q (λb env h=>rl P T ops.toList t K A b env h) (A.map (·.1)) (λl=>aR ops t (l++A)=true):=by
 intro l b listed env h a w μ S hc m n hf hs;obtain⟨dp,c,e⟩:=n;rw[show l.length+(A.map (·.1)).length=(l++A).length from by simp];rw[<-SU]at c e;exact nX f ops g er j hd _ (l++A) b listed env h a w μ S rfl hc (λp hp=>by rcases Sw.1 hp with q | q;exact m p q;exact k p q) dp c e (ly l b env h hf) hs
theorem yX {ops:Array Oper} {t:List (Nat×List Nat)} {Q:Exit->Act->World->Prop} {E:List (Nat×List Nat)->Env->List au->Prop} {R:List Nat} {c:List (Nat×Bool)->Prop} (d:Iu P T C ops t Q E R c) (o1:List (Nat×Bool)) (h1:∀p,p∈o1->p.1<ops.size):
  Iu P T C ops t Q (λb env h=>gf P T ops.toList t E o1 b env h) (o1.map (·.1)++R) (λl=>c (l++o1)):=by
 intro l b listed env h a w μ S hc f g hf hs;have e:(l++o1).map (·.1)++R=l.map (·.1)++(o1.map (·.1)++R):=by simp
 have:=d (l++o1) b listed env h a w μ S hc (λp hp=>by rcases Sw.1 hp with q | q;exact f p q;exact h1 p q) (by unfold Left;rw[e];exact g) (lz l b env h hf) hs;rw[show l.length+(o1.map (·.1)++R).length=(l++o1).length+R.length from by simp;omega];exact this
structure L5 (ops:Array Oper) (t:List (Nat×List Nat)) (x y:Nat) (R:List Nat) (cX cY:List (Nat×Bool)->Prop) (l:List (Nat×Bool)):Prop where
 pw:aR ops t l=true
 hd:∀p,p∈l->cx ops t p (x,false)=true/\cx ops t p (y,false)=true/\(∀d,d∈a6 ops.toList p.1->d∉R)/\p.1∉R
 x:cX l
 y:cY l
theorem xS (X:bR P T) (ops:Array Oper) {t:List (Nat×List Nat)} (F:∀i x,eH (bK t i) x=true->rZ ops.toList x i) (er:∀i,i<ops.size->∀d,d∈a6 ops.toList i->d<ops.size/\d≠i)
  {Q:Exit->Act->World->Prop} (hd:∀o∈ops.toList,gA C.nt o=true) {x y:Nat} {b u:List Nat} {A B:List (Nat×List Nat)->Env->List au->Prop} {cX cY:List (Nat×Bool)->Prop} (QD:kI A) (QE:kI B)
  (hX:Iu P T C ops t Q A b cX) (hY:Iu P T C ops t Q B u cY) (RO:∀f p g,cX (f++p::g)->cX (f++g)) (RP:∀f p g,cY (f++p::g)->cY (f++g))
  (hlen:b.length=u.length) (EL:∀j,j∈x::b↔j∈y::u) (IV:x<ops.size) (RQ:∀d,d∈a6 ops.toList x->d∉x::b) (FU:x∉b) (FV:y∉u) (ux:∀j,j∈b->j=y\/eH (bK t j) x=true\/eH (bK t j) y=true):
  Iu P T C ops t Q (λc env h=>gf P T ops.toList t A [(x,false)] c env h/\gf P T ops.toList t B [(y,false)] c env h) (x::b) (L5 ops t x y (x::b) cX cY):=by
 have hE:kI (λc env h=>gf P T ops.toList t A [(x,false)] c env h/\gf P T ops.toList t B [(y,false)] c env h):=oW (eR QD _) (eR QE _);intro l;generalize U:l.length=n;induction n generalizing l with
 | zero=>?z
 | succ n Y=>?s
 all_goals
  intro c listed env h a w μ S hc V hL hf hs;obtain⟨dp,E,W⟩:=hL
  have FQ:∀d,d<ops.size->(listed.getD d false=true↔d∉l.map (·.1)++x::b):=λd CU=>by
   have:=E d CU;have e:listed.getD d false=listed.getD d true:=by simp [Array.getD,dp,CU]
   rw[e,<-this];cases listed.getD d true<;>simp
  refine⟨λh0=>?_,λi hi=>?_⟩
 case z.refine_1 | s.refine_1=>
  exfalso
  have first:∃p,p<ops.size/\p∈l.map (·.1)++x::b/\∀d,d∈a6 ops.toList p->d∉l.map (·.1)++x::b:=by
   cases l with
   | nil=>exact⟨x,IV,by simp,λd G hm=>RQ d G (by simpa using hm)⟩
   | cons p r=>
    have hp:=V p UQ;refine⟨p.1,hp,by simp,λd G hm=>?_⟩;rw[Sw]at hm;rcases hm with hm | hm
    ·simp only[SE,SB,SF]at hm;rcases hm with rfl | ⟨q,hq,rfl⟩
     ·exact(er _ hp _ G).2 rfl
     ·exact rn (dN [] _ hc.pw hq) G
    ·exact(hc.hd p UQ).2.2.1 d G hm
  obtain⟨p,hp,Pr,Ps⟩:=first
  have ho:=SO hp
  have:p∈Region.ready .any ops listed:=by
   rw[mem_ready];refine⟨(E p hp).2 Pr,_,ho,λe he hb=>?_⟩;have hm:e.on∈a6 ops.toList p:=(gQ ho).2 ⟨e,he,hb,rfl⟩;rw[FQ _ (er p hp _ hm).1];exact Ps _ hm
  rw[h0]at this;simp at this
 all_goals
  rw[mem_ready]at hi;obtain⟨h1,k,mU,vW⟩:=hi;have iv:=(Su.1 mU).1;have pV:ops.toList[i]? =some k:=by simpa using mU
  have Z:gA C.nt k=true:=hd k Vf
  have D:∀d,d∈a6 ops.toList i->d∉l.map (·.1)++x::b:=λd lP=>by
   exact Ul
  have H:∀z,rZ ops.toList z i->z∉l.map (·.1)++x::b:=by
   have gen:∀z j,rZ ops.toList z j->j<ops.size->(∀d,d∈a6 ops.toList j->d∉l.map (·.1)++x::b)->z∉l.map (·.1)++x::b:=λz j ha=>by
    induction ha with
    | base hx=>exactλ_ hj=>hj _ hx
    | step lP _ Y=>exactλhj Lq=>Y (er _ hj _ lP).1 (W _ (er _ hj _ lP).1 (Lq _ lP))
   exactλz ha=>gen z i ha iv D
  have Pt:y∈x::b:=(EL y).2 UQ;have m:=(E i iv).1 h1;rw[Sw]at m
  have split:i∈l.map (·.1)\/i=x\/i=y:=by
   rcases m with m | m
   ·exact .inl m
   ·rcases SB.1 m with rfl | hq
    ·exact .inr (.inl rfl)
    ·rcases ux i hq with h2 | h2 | h2
     ·exact .inr (.inr h2)
     ·exact absurd (by simp:x∈l.map (·.1)++x::b) (H _ (F _ _ h2))
     ·exact absurd (by rw[Sw];exact .inr Pt) (H _ (F _ _ h2))
  have Pw:∀q,q∈l->q.1∉x::b:=λq hq=>(hc.hd q hq).2.2.2;rcases split with m | rfl | rfl
 case z.refine_2.inl=>obtain rfl:=List.length_eq_zero_iff.1 U;simp at m
 case s.refine_2.inl=>
  obtain⟨p,hp,FR⟩:=SF.1 m;obtain⟨f,g,rfl⟩:=T0 hp;obtain⟨I,st⟩:=p;simp only at FR;subst FR;obtain⟨FT,RR⟩:=cm f _ hc.pw;have J:=lQ hE (P:=P) (T:=T) (ops:=ops) (t:=t) pV f g c env h (λq hq=>j6 F (FT q hq) (by rw[Sw];exact .inl (SF.2 ⟨q,Tr _ hq,rfl⟩)) D H) hf
  have K:I∉(f++g).map (·.1)++x::b:=λhm=>by
   rw[Sw]at hm;rcases hm with hm | hm
   ·obtain⟨q,hq,he⟩:=SF.1 hm;rcases Sw.1 hq with hq | hq
    ·exact ee (FT q hq) he
    ·exact ee (dN f _ hc.pw hq) he.symm
   ·exact Pw (I,st) UQ hm
  obtain⟨L,M⟩:=j5 (L':=(f++g).map (·.1)++x::b) (λj=>by
   simp only[SU,SE,Sw,SB];constructor
   ·rintro((h | h | h) | h)
    ·exact .inr (.inl (.inl h))
    ·exact .inl h
    ·exact .inr (.inl (.inr h))
    ·exact .inr (.inr h)
   ·rintro(h | (h | h) | h)
    ·exact .inl (.inr (.inl h))
    ·exact .inl (.inl h)
    ·exact .inl (.inr (.inr h))
    ·exact .inr h) K dp E W D
  have N:jY P T ops.toList (λenv' h'=>gf P T ops.toList t (λc env h=>gf P T ops.toList t A [(x,false)] c env h/\gf P T ops.toList t B [(y,false)] c env h) (f++g) c env' h') [k] env h:=kz (bT (λv h' hk=>hk.2.2) J)
  have Qs:L5 ops t x y (x::b) cX cY (f++g):=⟨RR,λq hq=>hc.hd q (by
   simp only[Sw,SB]at hq ⊢;exact hq.imp id .inr),RO _ _ _ hc.x,RP _ _ _ hc.y⟩
  have q:wpOp P ops Q I (wpAny P .any ops Q (n+(x::b).length) (listed.setIfInBounds I true)) a w:=fO X ops (λenv' h' O w' μ' S' hk R=>Y (f++g) (by simp at U ⊢;omega) c _ env' h' O w' μ' S' Qs (λq hq=>V q (by
   simp only[Sw,SB]at hq ⊢;exact hq.imp id .inr)) ⟨by simpa using dp,L,M⟩ hk R) I k mU Z env h a w μ S N hs
  rw[show n+(x::b).length=n+1+b.length from by simp;omega]at q;exact q
 case z.refine_2.inr.inl | s.refine_2.inr.inl=>
  have rF:gf P T ops.toList t A (l++[(i,false)]) c env h:=lz l c env h (n7 (λ_ _ _ q=>q.1) l c env h hf);have J:=lQ QD (P:=P) (T:=T) (ops:=ops) (t:=t) pV l [] c env h (λq hq=>j6 F (hc.hd q hq).1 (by rw[Sw];exact .inl (SF.2 ⟨q,hq,rfl⟩)) D H) rF
  have K:i∉l.map (·.1)++b:=λhm=>by
   rcases Sw.1 hm with hm | hm
   ·obtain⟨q,hq,he⟩:=SF.1 hm;exact ee (hc.hd q hq).1 he
   ·exact FU hm
  obtain⟨L,M⟩:=j5 (L':=l.map (·.1)++b) (λj=>by
   simp only[Sw,SB];constructor
   ·rintro(h | h | h)
    ·exact UA
    ·exact .inl h
    ·exact .inr (.inr h)
   ·rintro(h | h | h)
    ·exact UA
    ·exact .inl h
    ·exact .inr (.inr h)) K dp E W D
  have N:jY P T ops.toList (λenv' h'=>gf P T ops.toList t A l c env' h') [k] env h:=kz (bT (λv h' hk=>by have:=hk.2.2;rwa [TH]at this) J);have q:wpOp P ops Q i (wpAny P .any ops Q (l.length+b.length) (listed.setIfInBounds i true)) a w:=fO X ops (λenv' h' O w' μ' S' hk R=>hX l c _ env' h' O w' μ' S' hc.x V ⟨by simpa using dp,L,M⟩ hk R) i k mU Z env h a w μ S N hs;rw[U]at q;exact q
 case z.refine_2.inr.inr | s.refine_2.inr.inr=>
  have rF:gf P T ops.toList t B (l++[(i,false)]) c env h:=lz l c env h (n7 (λ_ _ _ q=>q.2) l c env h hf);have J:=lQ QE (P:=P) (T:=T) (ops:=ops) (t:=t) pV l [] c env h (λq hq=>j6 F (hc.hd q hq).2.1 (by rw[Sw];exact .inl (SF.2 ⟨q,hq,rfl⟩)) D H) rF
  have K:i∉l.map (·.1)++u:=λhm=>by
   rcases Sw.1 hm with hm | hm
   ·obtain⟨q,hq,he⟩:=SF.1 hm;exact ee (hc.hd q hq).2.1 he
   ·exact FV hm
  obtain⟨L,M⟩:=j5 (L':=l.map (·.1)++u) (λj=>by
   rw[Sw,EL j,Sw];simp only[SB];constructor
   ·rintro(h | h | h)
    ·exact UA
    ·exact .inl h
    ·exact .inr (.inr h)
   ·rintro(h | h | h)
    ·exact UA
    ·exact .inl h
    ·exact .inr (.inr h)) K dp E W D
  have N:jY P T ops.toList (λenv' h'=>gf P T ops.toList t B l c env' h') [k] env h:=kz (bT (λv h' hk=>by have:=hk.2.2;rwa [TH]at this) J);have q:wpOp P ops Q i (wpAny P .any ops Q (l.length+u.length) (listed.setIfInBounds i true)) a w:=fO X ops (λenv' h' O w' μ' S' hk R=>hY l c _ env' h' O w' μ' S' hc.y V ⟨by simpa using dp,L,M⟩ hk R) i k mU Z env h a w μ S N hs;rw[U,<-hlen]at q;exact q
theorem hJ {ops:Array Oper} {t:List (Nat×List Nat)}:∀(l A:List (Nat×Bool)),aR ops t (l++A)=true->aR ops t l=true
 | [],_,_=>rfl
 | p::l,A,h=>by
  simp only[TE,aR,so,Sy]at h ⊢;exact⟨λq hq=>h.1 q (Tr _ hq),hJ l A h.2⟩
theorem lR {ops:Array Oper} {t:List (Nat×List Nat)} {ord:List (Nat×Bool)} {x y:Nat} {a b:List Nat} (h:xT ops t ord x y a b=true):
  a.length=b.length/\(∀p,p∈ord->cx ops t p (x,false)=true/\cx ops t p (y,false)=true/\(∀d,d∈a6 ops.toList p.1->d∉x::a)/\p.1∉x::a)/\(∀j,j∈x::a↔j∈y::b)/\
  (∀d,d∈a6 ops.toList x->d∉x::a)/\x∉a/\y∉b/\(∀j,j∈a->j=y\/eH (bK t j) x=true\/eH (bK t j) y=true):=by
 unfold xT at h;simp only[so]at h;obtain⟨⟨⟨⟨⟨⟨⟨h1,h2⟩,c⟩,h4⟩,e⟩,i⟩,k⟩,f⟩:=h;rw[Sy]at h2 c h4 e f;have no:∀(L:List Nat) (z:Nat),(!(eH L z))=true->z∉L:=λL z g hm=>by rw[lO _ _ hm]at g;cases g
 refine⟨No h1,λp hp=>?_,λj=>⟨λhj=>fF _ _ (c j hj),λhj=>fF _ _ (h4 j hj)⟩,λd hd=>no _ _ (e d hd),no _ _ i,no _ _ k,λj hj=>?_⟩
 ·have:=h2 p hp;rw[so,so,so,Sy]at this;exact⟨this.1.1.1,this.1.1.2,λd lP=>no _ _ (this.1.2 d lP),no _ _ this.2⟩
 ·have:=f j hj;rw[Th,Th]at this;rcases this with(q | q) | q
  ·exact .inl (No q)
  ·exact .inr (.inl q)
  ·exact .inr (.inr q)
theorem Ac (n:bR P T) (ops:Array Oper) {ord:List (Nat×Bool)} {x:Nat} {o1:List (Nat×Bool)} {c:Nat} {b:List (Nat×Bool)} {v:Nat} {f:List (Nat×Bool)} {y:Nat} {z:List (Nat×Bool)} (hc:rp ops ord x o1 c b v f y z=true)
  {K:Env->List au->Prop} {Q:Exit->Act->World->Prop} (B:∀env h a w μ S,K env h->gz C μ h S env a w->Q .normal a w) (hd:∀o∈ops.toList,gA C.nt o=true) {env:Env} {h:List au} {a:Act} {w:World}
  (hf:QF P T ops.toList (j3 ops.toList (ord++(x,false)::(o1++(c,false)::b)) []) x o1 c b v f y z K ord [] env h) (hs:gz C μ h S env a w):wpAny P .any ops Q ops.size (Array.replicate ops.size false) a w:=by
 unfold rp at hc;simp only[so]at hc;obtain⟨⟨⟨⟨⟨⟨⟨hlen,I⟩,D⟩,J⟩,U⟩,L⟩,V⟩,W⟩:=hc;rw[Sy]at I D;have hlen:=No hlen;generalize X:j3 ops.toList (ord++(x,false)::(o1++(c,false)::b)) []=t at*;have s:∀i x,eH (bK t i) x=true->rZ ops.toList x i:=by rw[<-X];exact jZ _ [] (λi x hx=>by simp [bK,eH]at hx)
 generalize l:ord++(x,false)::(o1++(c,false)::b)=F at*
 have Y:∀p,p∈F->p.1<ops.size:=λp hp=>by
  have:=D p hp;rw[so]at this;exact SI this.1
 have G:∀j,j<ops.size->j∈F.map (·.1):=λj hj=>fF _ _ (I j (TB.2 hj))
 have er:∀i,i<ops.size->∀d,d∈a6 ops.toList i->d<ops.size/\d≠i:=λi hi d lP=>by
  obtain⟨p,hp,rfl⟩:=SF.1 (G i hi);have:=D p hp;rw[so,Sy]at this;have:=this.2 d lP;rw[so]at this;exact⟨SI this.1,λhe=>by rw[he,Tn]at this;cases this.2⟩
 obtain⟨Z,b2,M,b4,b5,b6,b7⟩:=lR V;obtain⟨c1,c2,N,c4,c5,c6,c7⟩:=lR W
 have m:∀p,p∈ord\/p=(x,false)\/p∈o1\/p=(c,false)\/p∈b->p.1<ops.size:=λp hp=>Y p (by
  rw[<-l];simp only[Sw,SB];exact hp)
 have H:∀j,j∈c::b.map (·.1)->j<ops.size:=λj hj=>by
  rcases SB.1 hj with rfl | hj
  ·exact m (j,false) (.inr (.inr (.inr (.inl rfl))))
  ·obtain⟨p,hp,rfl⟩:=SF.1 hj;exact m p (.inr (.inr (.inr (.inr hp))))
 have O:∀j,j∈x::(o1.map (·.1)++c::b.map (·.1))->j<ops.size:=λj hj=>by
  rcases SB.1 hj with rfl | hj
  ·exact m (j,false) (.inr (.inl rfl))
  ·rcases Sw.1 hj with hj | hj
   ·obtain⟨p,hp,rfl⟩:=SF.1 hj;exact m p (.inr (.inr (.inl hp)))
   ·exact H j hj
 have app:∀{A:List (Nat×Bool)} (e:List (Nat×Bool)) (p:Nat×Bool) (g:List (Nat×Bool)),aR ops t ((e++p::g)++A)=true->aR ops t ((e++g)++A)=true:=λ{A} e p g q=>by
  rw[SY]at q ⊢;exact(cm e _ q).2
 have s1:=nZ (C:=C) n ops s er B hd b (λp hp=>m p (.inr (.inr (.inr (.inr hp)))));have s2:=nZ (C:=C) n ops s er B hd f (λp hp=>H p.1 ((N p.1).2 (SG _ (SF.2 ⟨p,hp,rfl⟩))));have s3:=nZ (C:=C) n ops s er B hd z (λp hp=>O p.1 ((M p.1).2 (SG _ (SF.2 ⟨p,hp,rfl⟩))));have RS:=xS (C:=C) n ops s er hd (x:=c) (y:=v) (fW b) (fW f) s1 s2 app app c1 N (H c UQ) c4 c5 c6 c7;have RT:=yX RS o1 (λp hp=>m p (.inr (.inr (.inl hp))))
 have out:=xS (C:=C) n ops s er hd (x:=x) (y:=y) (eR (oW (eR (fW b) _) (eR (fW f) _)) o1) (fW z) RT s3 (λe p g q=>by
  rw[SY]at q ⊢;obtain⟨q1,q2,q3,q4⟩:=q;refine⟨(cm e _ q1).2,λr k=>q2 r ?_,?_,?_⟩
  ·simp only[Sw,SB]at k ⊢;rcases k with k | k | k
   ·exact .inl k
   ·exact .inr (.inl (.inr k))
   ·exact .inr (.inr k)
  ·have q3:aR ops t ((e++(p::g++o1))++b)=true:=q3;show aR ops t ((e++(g++o1))++b)=true;rw[SY]at q3 ⊢;exact(cm e _ q3).2
  ·have q4:aR ops t ((e++(p::g++o1))++f)=true:=q4;show aR ops t ((e++(g++o1))++f)=true;rw[SY]at q4 ⊢;exact(cm e _ q4).2) app Z M (O x UQ) b4 b5 b6 b7
 have R:∀j,j∈ord.map (·.1)++x::(o1.map (·.1)++c::b.map (·.1))↔j∈F.map (·.1):=λj=>by rw[<-l];simp
 have dp:ops.size=ord.length+(x::(o1.map (·.1)++c::b.map (·.1))).length:=by rw[<-hlen,<-l];simp
 have:=out ord [] (Array.replicate ops.size false) env h a w μ S ⟨hJ ord _ L,b2,⟨hJ _ _ J,c2,J,U⟩,L⟩ (λp hp=>m p (.inl hp))
  ⟨by simp,λj hj=>⟨λ_=>(R j).2 (G j hj),λ_=>by simp [Array.getD,hj]⟩,λj hj hn=>absurd ((R j).2 (G j hj)) hn⟩
  (fX (λu env h q=>⟨fX (E:=λu env h=>fw P T ops.toList t K ((c,false)::b) u env h/\fw P T ops.toList t K ((v,false)::f) u env h) (λu env h q=>⟨ef _ _ _ _ q.1,ef _ _ _ _ q.2⟩) ((x,false)::o1) u env h q.1,ef _ _ _ _ q.2⟩) ord [] env h hf) hs
 rw[<-dp]at this;exact this
def EM (P:Program) (T:ij) (all:List Oper) (t:List (Nat×List Nat)) (K:Env->List au->Prop) (fin:List (Nat×Bool)):ju->List (Nat×List Nat)->Env->List au->Prop
 | []=>λa env h=>rl P T all t K fin a env h
 | c::r=>λa env h=>gf P T all t (λa env h=>gf P T all t (EM P T all t K fin r) [(c.2.1,false)] a env h/\gf P T all t (λa env h=>rl P T all t K c.2.2.2 a env h) [(c.2.2.1,false)] a env h) c.1 a env h
theorem rq {all:List Oper} {t:List (Nat×List Nat)} {K:Env->List au->Prop} {fin:List (Nat×Bool)}:∀(cs:ju),kI (EM P T all t K fin cs)
 | []=>fW fin
 | c::r=>eR (oW (eR (rq r) _) (eR (fW c.2.2.2) _)) c.1
theorem yY {all:List Oper} {t:List (Nat×List Nat)} {K:Env->List au->Prop} {fin:List (Nat×Bool)}:∀(cs:ju) (a:List (Nat×List Nat)) (env:Env) (h:List au),Px P T all t K fin cs a env h->EM P T all t K fin cs a env h
 | [],a,env,h,q=>ef _ _ _ _ q
 | c::r,a,env,h,q=>fX (λa env h q=>⟨fX (yY r) _ a env h q.1,ef _ _ _ _ q.2⟩) c.1 a env h q
def Iv (ops:Array Oper) (t:List (Nat×List Nat)) (fin:List (Nat×Bool)):ju->List (Nat×Bool)->Prop
 | []=>λl=>aR ops t (l++fin)=true
 | c::r=>λl=>L5 ops t c.2.1 c.2.2.1 (c.2.1::(r7 r fin).map (·.1)) (Iv ops t fin r) (λl=>aR ops t (l++c.2.2.2)=true) (l++c.1)
theorem yZ {ops:Array Oper} {t:List (Nat×List Nat)} {fin:List (Nat×Bool)}:∀(cs:ju) (a:List (Nat×Bool)) (p:Nat×Bool) (b:List (Nat×Bool)),Iv ops t fin cs (a++p::b)->Iv ops t fin cs (a++b)
 | [],a,p,b,q=>by
  have q:aR ops t ((a++p::b)++fin)=true:=q;show aR ops t ((a++b)++fin)=true;rw[SY]at q ⊢;exact(cm a _ q).2
 | c::r,a,p,b,q=>by
  obtain⟨q1,q2,q3,q4⟩:=q;rw[SY a]at q1 q3;have q4:aR ops t ((a++p::b++c.1)++c.2.2.2)=true:=q4;rw[SY a (p::b) c.1]at q4;have e:a++b++c.1=a++(b++c.1):=SY _ _ _;show L5 ops t c.2.1 c.2.2.1 (c.2.1::(r7 r fin).map (·.1)) (Iv ops t fin r) (λl=>aR ops t (l++c.2.2.2)=true) (a++b++c.1);rw[e];refine⟨(cm a _ q1).2,λs hs=>q2 s ?_,yZ r a p (b++c.1) q3,?_⟩
  ·simp only[Sw,SB]at hs ⊢;rcases hs with hs | hs | hs
   ·exact .inl (.inl hs)
   ·exact .inl (.inr (.inr hs))
   ·exact .inr hs
  ·have q4:aR ops t ((a++(p::b++c.1))++c.2.2.2)=true:=q4;show aR ops t ((a++(b++c.1))++c.2.2.2)=true;rw[SY]at q4 ⊢;exact(cm a _ q4).2
theorem EN {ops:Array Oper} {t:List (Nat×List Nat)} {fin:List (Nat×Bool)}:∀(cs:ju) (l:List (Nat×Bool)),Iv ops t fin cs l->aR ops t l=true
 | [],l,q=>hJ _ _ q
 | c::r,l,q=>hJ _ _ q.pw
theorem C1 {ops:Array Oper} {t:List (Nat×List Nat)} {fin:List (Nat×Bool)}:∀(cs:ju) (pre:List (Nat×Bool)),Ad ops t fin cs pre=true->Iv ops t fin cs pre
 | [],pre,q=>q
 | c::r,pre,q=>by
  have q:(xT ops t (pre++c.1) c.2.1 c.2.2.1 ((r7 r fin).map (·.1)) (c.2.2.2.map (·.1))&&aR ops t ((pre++c.1)++c.2.2.2)&&Ad ops t fin r (pre++c.1))=true:=q;simp only[so]at q;obtain⟨⟨q1,q2⟩,q3⟩:=q;obtain⟨d,b,e,f,g,h,i⟩:=lR q1;have a:=C1 r _ q3;exact⟨EN r _ a,b,a,q2⟩
theorem C2 (f:bR P T) (ops:Array Oper) {t:List (Nat×List Nat)} (g:∀i x,eH (bK t i) x=true->rZ ops.toList x i) (er:∀i,i<ops.size->∀d,d∈a6 ops.toList i->d<ops.size/\d≠i)
  {K:Env->List au->Prop} {Q:Exit->Act->World->Prop} (k:∀env h a w μ S,K env h->gz C μ h S env a w->Q .normal a w) (hd:∀o∈ops.toList,gA C.nt o=true) (fin:List (Nat×Bool)):
  ∀(cs:ju) (pre:List (Nat×Bool)),Ad ops t fin cs pre=true->(∀p,p∈r7 cs fin->p.1<ops.size)->Iu P T C ops t Q (EM P T ops.toList t K fin cs) ((r7 cs fin).map (·.1)) (Iv ops t fin cs)
 | [],pre,_,b=>nZ (C:=C) f ops g er k hd fin b
 | c::r,pre,q,b=>by
  have q:(xT ops t (pre++c.1) c.2.1 c.2.2.1 ((r7 r fin).map (·.1)) (c.2.2.2.map (·.1))&&aR ops t ((pre++c.1)++c.2.2.2)&&Ad ops t fin r (pre++c.1))=true:=q;simp only[so]at q;obtain⟨⟨q1,q2⟩,q3⟩:=q;obtain⟨n,G,l,s,u,v,z⟩:=lR q1;have b:∀p,p∈c.1++(c.2.1,false)::r7 r fin->p.1<ops.size:=b;have hx:c.2.1<ops.size:=b (c.2.1,false) UQ;have m:∀p,p∈r7 r fin->p.1<ops.size:=λp hp=>b p (by simp [hp])
  have A:∀j,j∈c.2.1::(r7 r fin).map (·.1)->j<ops.size:=λj hj=>by
   rcases SB.1 hj with rfl | hj
   ·exact hx
   ·obtain⟨p,hp,rfl⟩:=SF.1 hj;exact m p hp
  have B:=C2 f ops g er k hd fin r (pre++c.1) q3 m;have D:=nZ (C:=C) f ops g er k hd c.2.2.2 (λp hp=>A p.1 ((l p.1).2 (SG _ (SF.2 ⟨p,hp,rfl⟩))))
  have E:=xS (C:=C) f ops g er hd (x:=c.2.1) (y:=c.2.2.1) (rq r) (fW c.2.2.2) B D (yZ r) (λF p H q=>by
   rw[SY]at q ⊢;exact(cm F _ q).2) n l hx s u v z
  have out:=yX E c.1 (λp hp=>b p (by simp [hp]))
  have e:(r7 (c::r) fin).map (·.1)=c.1.map (·.1)++c.2.1::(r7 r fin).map (·.1):=by
   show(c.1++(c.2.1,false)::r7 r fin).map (·.1)=_;simp
  rw[e];exact out
theorem Ae (k:bR P T) (ops:Array Oper) {cs:ju} {fin:List (Nat×Bool)} (hc:rr ops cs fin=true)
  {K:Env->List au->Prop} {Q:Exit->Act->World->Prop} (l:∀env h a w μ S,K env h->gz C μ h S env a w->Q .normal a w) (hd:∀o∈ops.toList,gA C.nt o=true) {env:Env} {h:List au} {a:Act} {w:World}
  (hf:Px P T ops.toList (j3 ops.toList (r7 cs fin) []) K fin cs [] env h) (hs:gz C μ h S env a w):wpAny P .any ops Q ops.size (Array.replicate ops.size false) a w:=by
 unfold rr at hc;simp only[so]at hc;obtain⟨⟨⟨hlen,f⟩,b⟩,g⟩:=hc;rw[Sy]at f b;have hlen:=No hlen;generalize m:j3 ops.toList (r7 cs fin) []=t at*;have n:∀i x,eH (bK t i) x=true->rZ ops.toList x i:=by rw[<-m];exact jZ _ [] (λi x hx=>by simp [bK,eH]at hx)
 have q:∀p,p∈r7 cs fin->p.1<ops.size:=λp hp=>by
  have:=b p hp;rw[so]at this;exact SI this.1
 have c:∀j,j<ops.size->j∈(r7 cs fin).map (·.1):=λj hj=>fF _ _ (f j (TB.2 hj))
 have er:∀i,i<ops.size->∀d,d∈a6 ops.toList i->d<ops.size/\d≠i:=λi hi d lP=>by
  obtain⟨p,hp,rfl⟩:=SF.1 (c i hi);have:=b p hp;rw[so,Sy]at this;have:=this.2 d lP;rw[so]at this;exact⟨SI this.1,λhe=>by rw[he,Tn]at this;cases this.2⟩
 have out:=C2 (C:=C) k ops n er l hd fin cs [] g q
 have:=out [] [] (Array.replicate ops.size false) env h a w μ S (C1 cs [] g) (λp hp=>by simp at hp)
  ⟨by simp,λj hj=>⟨λ_=>by simpa using c j hj,λ_=>by simp [Array.getD,hj]⟩,λj hj r=>absurd (c j hj) (by simpa using r)⟩
  (yY cs [] env h hf) hs
 have e:([]:List (Nat×Bool)).length+((r7 cs fin).map (·.1)).length=ops.size:=by simpa using hlen
 rw[e]at this;exact this
theorem EO {J:List (Nat×PV)->List au->Prop} {env:Env} {h:List au} {a:Act} {w:World} (hg:nP C.h.length J env h):∀{μ:Mu} {S:Nat->Prop},gz C μ h S env a w->∃σ η μ3 b,gz C μ3 η b (pU iw σ) a w/\J σ η:=by
 induction hg with
 | mk σ η e hj=>
  intro μ S hs;obtain⟨μ3,b,f⟩:=sW hs e;exact⟨σ,η,μ3,b,f,hj⟩
 | ex h1 hx hk c=>
  intro μ S hs;obtain⟨μ1,d⟩:=hs.ex hx;exact c d
 | ab id i j sub h1 ha hk c=>
  intro μ S hs;obtain⟨F,d⟩:=hs.ab ha;exact c F d
theorem EP {m:Nat} {A B:XQ->Env->List au->Prop} {Q:XQ} {env:Env} {h:List au} {a:Act} {w:World} {S:Nat->Prop} (hv:lu m A B Q env h):∀{μ:Mu},gz C μ h S env a w->
  ∃μ' h',gz C μ' h' S env a w/\(A (XQ.then (B Q) Q) env h'\/∃J,A (XQ.then (nP m J) Q) env h'/\∀σ η,J σ η->B Q (pU iw σ) η):=by
 induction hv with
 | direct hd=>exactλhs=>⟨_,_,hs,.inl hd⟩
 | cut J ha hb=>exactλhs=>⟨_,_,hs,.inr ⟨J,ha,hb⟩⟩
 | ex h1 hx hk b=>
  intro μ hs;obtain⟨μ1,c⟩:=hs.ex hx;exact b c
 | ab id i j sub h1 ha hk b=>
  intro μ hs;obtain⟨F,c⟩:=hs.ab ha;exact b F c
theorem gB (n:bR P T) (s:P.follows .mixedOrders=true):∀(c:Code) (Q:XQ) (env:Env) (h:List au) (a:Act) (w:World) (μ:Mu) (S:Nat->Prop),
  vc P T C.h.length c Q env h->codeOk C.nt c=true->gz C μ h S env a w->c.wp P (oT C Q) a w
 | .skip,Q,env,h,a,w,μ,S,hv,_,hs=>wp_skip ⟨μ,h,S,env,hs,hv⟩
 | .label _,Q,env,h,a,w,μ,S,hv,_,hs=>wp_label ⟨μ,h,S,env,hs,hv⟩
 | .exit _,Q,env,h,a,w,μ,S,hv,_,hs=>wp_exit ⟨μ,h,S,env,hs,hv⟩
 | .ret,Q,env,h,a,w,μ,S,hv,_,hs=>wp_ret ⟨μ,h,S,env,hs,hv⟩
 | .region id ops d,Q,env,h,a,w,μ,S,hv,g,hs=>by
  simp only[codeOk,so,Sy]at g;have hd:∀o∈ops.toList,gA C.nt o=true:=g.1;cases d with
  | false=>
   refine wp_region_list (mI n ops (Q:=oT C Q) (λenv h a w μ S hq hs=>⟨μ,h,S,env,hs,hq⟩) ops.toList env h a w μ S hv hd hs)
  | true=>
   have quiet:mK P T ops.toList h (λenv'=>Q .normal env' h) ops.toList env->(Code.region id ops true).wp P (oT C Q) a w:=λhv=>by
    refine wp_region_quiet (C:=bg w) s (by simpa using g.2) (bg.drew w) ?_;exact ky n ops h w μ S (λenv a hq hs w' I8=>⟨μ,h,S,env,hs.agree I8,hq⟩) ops.toList env a hv hd hs
   have hv:(match ops.toList.all (λo=>s9 o.op)with
    | true=>mK P T ops.toList h (λenv'=>Q .normal env' h) ops.toList env
    | false=>mO P T C.h.length ops (λenv' h'=>Q .normal env' h') env h):=hv
   split at hv
   ·exact quiet hv
   ·cases hv with
    | quiet hq=>exact quiet hq
    | w8 ord x R y rb hc hf=>
     refine wp_region_any s ?_;unfold vY at hc;simp only[so]at hc;obtain⟨⟨⟨⟨⟨⟨⟨⟨⟨⟨⟨⟨hlen,Lu⟩,H⟩,D⟩,CZ⟩,FW⟩,U⟩,V⟩,W⟩,X⟩,FU⟩,FV⟩,Y⟩:=hc;rw[Sy]at H D U V W X Y;have hlen:=No hlen
     have I:∀p,p∈ord++(x,false)::R->p.1<ops.size:=λp hp=>by
      have:=D p hp;rw[so]at this;exact SI this.1
     have B:∀j,j<ops.size->j∈(ord++(x,false)::R).map (·.1):=λj hj=>fF _ _ (H j (TB.2 hj));have no:∀(L:List Nat) (z:Nat),(!(eH L z))=true->z∉L:=λL z Z hm=>by rw[lO _ _ hm]at Z;cases Z
     rw[<-hlen]
     exact C0 n ops (C:=C) (jZ _ [] (λi x hx=>by simp [bK,eH]at hx)) (λi hi d lP=>by
      obtain⟨p,hp,rfl⟩:=SF.1 (B i hi);have:=D p hp;rw[so,Sy]at this;have:=this.2 d lP;rw[so]at this;exact⟨SI this.1,λhe=>by rw[he,Tn]at this;cases this.2⟩)
      (No Lu) (λj=>⟨λhj=>fF _ _ (V j hj),λhj=>fF _ _ (W j hj)⟩) (λd lP=>no _ _ (X d lP)) (no _ _ FU) (no _ _ FV)
      (λp hp=>by
       have:=Y p hp;rw[Th,Th]at this;rcases this with(h1 | h1) | h1
       ·exact .inl (No h1)
       ·exact .inr (.inl h1)
       ·exact .inr (.inr h1))
      (K:=y0 Q) (Q:=oT C Q) (λenv h a w μ S hq hs=>⟨μ,h,S,env,hs,hq⟩) hd ord.length ord [] _ env h a _ μ S rfl CZ FW (λp hp=>by
       have:=U p hp;rw[so,so,Sy]at this;exact⟨this.1.1,this.1.2,λd lP=>no _ _ (this.2 d lP)⟩) I (by simp [hlen]) (λj hj=>⟨λ_=>B j hj,λ_=>by simp [Array.getD,hlen,hj]⟩) (λj hj G=>absurd (B j hj) G) (lA _ _ _ _ hf) (hs.agree (bg.drew w))
    | B1 ord x o1 x1 ou y1 vX y rb hc hf=>
     refine wp_region_any s ?_;exact Ac (C:=C) n ops hc (K:=y0 Q) (Q:=oT C Q) (λenv h a w μ S hq hs=>⟨μ,h,S,env,hs,hq⟩) hd hf (hs.agree (bg.drew w))
    | Iw cs fin hc hf=>
     refine wp_region_any s ?_;exact Ae (C:=C) n ops hc (K:=y0 Q) (Q:=oT C Q) (λenv h a w μ S hq hs=>⟨μ,h,S,env,hs,hq⟩) hd hf (hs.agree (bg.drew w))
    | float ord hc hf=>
     refine wp_region_any s ?_;unfold za at hc;simp only[so,Sy,SX]at hc;obtain⟨⟨⟨hlen,H⟩,D⟩,Ir⟩:=hc;have hlen:=No hlen;have I:∀p,p∈ord->p.1<ops.size:=λp hp=>SI (D p hp).1
     have Nx:(ord.map (·.1)).Nodup:=by
      have:∀(l:List (Nat×Bool)),aR ops (j3 ops.toList ord []) l=true->(l.map (·.1)).Nodup:=λl=>by
       induction l with
       | nil=>simp
       | cons p r v=>
        intro hh;simp only[aR,so,Sy]at hh;simp only[SE,List.nodup_cons];refine⟨λhm=>?_,v hh.2⟩;obtain⟨q,hq,he⟩:=SF.1 hm;have:=hh.1 q hq;unfold cx at this;simp only[so,SX]at this;have:=this.1.1;rw[he,Tn]at this;cases this
      exact this _ Ir
     have B:∀j,j<ops.size->j∈ord.map (·.1):=λj hj=>fF _ _ (H j (TB.2 hj))
     exact nX n ops (C:=C) (jZ ord [] (λi x hx=>by simp [bK,eH]at hx)) (λi hi d lP=>by
      obtain⟨p,hp,rfl⟩:=SF.1 (B i hi);have:=(D p hp).2 d lP;exact⟨SI this.1,λhe=>by rw[he,Tn]at this;cases this.2⟩)
      (K:=λenv' h'=>Q .normal env' h') (Q:=oT C Q) (λenv h a w μ S hq hs=>⟨μ,h,S,env,hs,hq⟩) hd ops.size ord [] _ env h a _ μ S hlen Ir I UQ (λj hj=>⟨λ_=>B j hj,λ_=>by simp [Array.getD,hj]⟩) (λj hj G=>absurd (B j hj) G) (ef _ _ _ _ hf) (hs.agree (bg.drew w))
 | .seq x y,Q,env,h,a,w,μ,S,hv,g,hs=>by
  simp only[codeOk,so]at g;have hv:lu C.h.length (vc P T C.h.length x) (vc P T C.h.length y) Q env h:=hv;obtain⟨μ,h,hs,hd | ⟨J,ha,hb⟩⟩:=EP hv hs
  ·refine wp_seq (Code.wp_mono (λe u w' f=>?_) (gB n s x _ env h a w μ S hd g.1 hs));cases e with
   | normal=>
    obtain⟨μ',h',S',env',E,hq⟩:=f;exact gB n s y Q env' h' u w' μ' S' hq g.2 E
   | exit id=>exact f
   | goto l=>exact f
   | ret=>exact f
   | panic M=>exact f
   | outgrown=>exact f
  ·refine wp_seq (Code.wp_mono (λe u w' f=>?_) (gB n s x _ env h a w μ S ha g.1 hs));cases e with
   | normal=>
    obtain⟨μ',h',S',env',E,hg⟩:=f;obtain⟨σ,η,μ3,S3,Py,hj⟩:=EO hg E;exact gB n s y Q _ η u w' μ3 S3 (hb σ η hj) g.2 Py
   | exit id=>exact f
   | goto l=>exact f
   | ret=>exact f
   | panic M=>exact f
   | outgrown=>exact f
 | .cond c x y,Q,env,h,a,w,μ,S,hv,g,hs=>by
  simp only[codeOk,so]at g
  have hv:(match ev env c with
   | .bool t=>cw t (vc P T C.h.length x Q env h) (vc P T C.h.length y Q env h)
   | _=>False):=hv
  have hc:=bp hs.tmps c;split at hv
  ·rename_i b he;rw[he]at hc;obtain⟨h1,h2⟩:=eM hv;exact wp_cond_split hc.gn (λhb=>gB n s x Q env h a w μ S (h1 hb) g.1 hs) (λhb=>gB n s y Q env h a w μ S (h2 hb) g.2 hs)
  ·exact hv.elim
 | .block id c,Q,env,h,a,w,μ,S,hv,g,hs=>by
  refine wp_block (Code.wp_mono (λe u w' f=>?_) (gB n s c _ env h a w μ S hv g hs));cases e with
  | exit m=>
   obtain⟨μ',h',S',env',E,hq⟩:=f;show if m=id then oT C Q .normal u w' else oT C Q (.exit m) u w'
   simp only[XQ.inBlock]at hq;by_cases hid:m=id
   ·rw[An hid];subst hid;rw[show Nat.beq m m=true by simp]at hq;exact⟨μ',h',S',env',E,hq⟩
   ·rw[Is hid]
    have:Nat.beq m id=false:=by
     cases hb:Nat.beq m id with
     | true=>exact(hid (No hb)).elim
     | false=>rfl
    rw[this]at hq;exact⟨μ',h',S',env',E,hq⟩
  | normal=>exact f
  | goto l=>exact f
  | ret=>exact f
  | panic M=>exact f
  | outgrown=>exact f
 | .loop c,Q,env,h,a,w,μ,S,hv,g,hs=>by
  intro b k cs;replace hv:js C.h.length (λnext=>vc P T C.h.length c (XQ.then next Q)) env h:=hv
  have key:∀(a:Act) (w:World) (μ:Mu) (S:Nat->Prop),gz C μ h S env a w->∃e u w',oT C Q e u w'/\Arrives P (lone (b.at a (.code c::.inLoop c::k)) cs w) b k cs e u w':=by
   clear hs;induction hv with
   | take σ η ht hk v=>
    intro a w μ S hs;obtain⟨μ0,S0,HM⟩:=sW hs ht;exact v a w μ0 S0 HM
   | ex h1 hx hk v=>
    intro a w μ S hs;obtain⟨μ1,O⟩:=hs.ex hx;exact v a w μ1 S O
   | ab id i j sub h1 ha hk v=>
    intro a w μ S hs;obtain⟨F,O⟩:=hs.ab ha;exact v F a w μ S O
   | step N hN hb v=>
    intro a w μ S hs;obtain⟨e,a₁,w₁,hq,A⟩:=gB n s c _ _ _ a w μ S hb g hs b (.inLoop c::k) cs;cases e with
    | normal=>
     obtain⟨μ2,h2,S2,RU,Lo,G⟩:=hq;obtain⟨e₂,a₂,w₂,hq₂,harr₂⟩:=v _ _ G a₁ w₁ μ2 S2 Lo;exact⟨e₂,a₂,w₂,hq₂,.of_steps (Steps.trans A (.one step_inLoop)) harr₂⟩
    | exit id=>exact⟨_,a₁,w₁,hq,.pass (x:=.inLoop c) rfl (λ_ _=>.inl UQ) A⟩
    | goto l=>exact⟨_,a₁,w₁,hq,.pass (x:=.inLoop c) rfl (λ_ _=>.inl UQ) A⟩
    | ret=>exact⟨_,a₁,w₁,hq,.pass (x:=.inLoop c) rfl (λ_ _=>.inl UQ) A⟩
    | panic M=>exact⟨_,a₁,w₁,hq,.pass (x:=.inLoop c) rfl (λ_ _=>.inl UQ) A⟩
    | outgrown=>exact⟨_,a₁,w₁,hq,.pass (x:=.inLoop c) rfl (λ_ _=>.inl UQ) A⟩
  obtain⟨e,u,w',hq,A⟩:=key a w μ S hs;exact⟨e,u,w',hq,.of_steps (.one step_loop) A⟩
 | .rangeFunc _ _ _ _,Q,env,h,a,w,μ,S,hv,_,_=>hv.elim
 | .scope _,Q,env,h,a,w,μ,S,hv,_,_=>hv.elim
 | .goto _,Q,env,h,a,w,μ,S,hv,_,_=>hv.elim
 | .refuse _,Q,env,h,a,w,μ,S,hv,_,_=>hv.elim
theorem C4 (l:bR P T) (m:bu μ h S w) (t:Nat) (d:PV) (v:Value) (hx:aX μ h S w d v) {K:PV->Prop} (hp:nG T t d h K):∃pv val,K pv/\aX μ h S w pv val/\(do loadVar t (<-asAddr v):Sem Value).run P w=.ok val w:=by
 obtain⟨pv,val,o,hv,c⟩:=qt (P:=P) (dst:=none) (ty:=0) (pos:= "") (after:=#[]) (guard:=none) (a:=⟨#[v],[]⟩) l m t (.tmp 0) d (by simpa[Act.eval]using hx) hp;refine⟨pv,val,o,hv,?_⟩;have:=c w (bg.refl w);have he:(execOp (Act.eval ⟨#[v],[]⟩) ⟨none,.load t (.tmp 0),0, "",#[],none⟩)=(do pure (Next.value (<-Instr.loadAt t v)):Sem Next):=rfl;rw[he]at this
 have p:∃j,v=.pointer (some j):=by
  unfold nG at hp;split at hp
  ·obtain⟨b,off,r,q,_⟩:=hx.nA;exact⟨_,q⟩
  ·rename_i id gen i off;split at hp
   ·rename_i g sz n e f hg;obtain⟨rfl,_⟩:=hp;have c:=hx.la;unfold bh at c;rw[ca hg]at c;obtain⟨_,_,c⟩:=c;obtain⟨_,b,base,_,_,hv⟩:=c rfl;exact⟨_,hv⟩
   ·exact Uq
  ·exact Uq
 obtain⟨j,rfl⟩:=p;simp only[Instr.loadAt,Instr.sureAddr,asAddr,Sem.run_bind,Sem.run_pure,Result.andThen_ok]at this ⊢;cases k:(loadVar t j).run P w with
 | ok u w'=>
  rw[k]at this;simp only[Result.andThen]at this;injection this with h1 h2;injection h1 with h1;rw[h1,h2]
 | halt x w'=>rw[k]at this;cases this
theorem jE (c:bR P T) (hs:gz C μ h S env a w):∀(rs:List ResultVar) (K:List PV->Prop),lS T env h rs K->∃(vs:List PV) (us:List Value),K vs/\us.length=vs.length/\(∀(j:Nat) (pv:PV),vs[j]? =some pv->∃u,us[j]? =some u/\aX μ h S w pv u)/\
  (rs.mapM (fun | .tmp t=>pure (a.tmps.getD t undef) | .cell d t=>(do loadVar t (<-asAddr (a.tmps.getD d undef))):ResultVar->Sem Value)).run P w=.ok us w
 | [],K,hp=>⟨[],[],hp,rfl,λj pv hj=>by simp at hj,rfl⟩
 | .tmp t::r,K,hp=>by
  obtain⟨vs,us,b,h1,h2,e⟩:=jE c hs r _ hp;refine⟨env t::vs,a.tmps.getD t undef::us,b,by simp [h1],λj pv hj=>?_,?_⟩
  ·cases j with
   | zero=>simp at hj;subst hj;exact⟨_,rfl,hs.tmps t⟩
   | succ j=>simp at hj;obtain⟨u,q1,q2⟩:=h2 j pv hj;exact⟨u,by simpa using q1,q2⟩
  ·simp only[List.mapM_cons,Sem.run_bind,Sem.run_pure,Result.andThen_ok,e]
 | .cell d t::r,K,hp=>by
  obtain⟨pv,val,b,hv,f⟩:=C4 c hs.core.heap t _ _ (hs.tmps d) hp;obtain⟨vs,us,b,h1,h2,e⟩:=jE c hs r _ b;refine⟨pv::vs,val::us,b,by simp [h1],λj g hj=>?_,?_⟩
  ·cases j with
   | zero=>simp at hj;subst hj;exact⟨_,rfl,hv⟩
   | succ j=>simp at hj;obtain⟨u,q1,q2⟩:=h2 j g hj;exact⟨u,by simpa using q1,q2⟩
  ·simp only[List.mapM_cons,Sem.run_bind,f,Result.andThen_ok,e,Sem.run_pure]
end
section
variable {P:Program}{T:ij}
def valOf:List Value->Value
 | [v]=>v
 | us=>.tuple us.toArray
theorem wa {fn:Func} {tmps:Array Value} {us:List Value} {w:World}
  (hm:(fn.results.toList.mapM (fun | .tmp t=>pure (tmps.getD t undef) | .cell b t=>(do loadVar t (<-asAddr (tmps.getD b undef))):ResultVar->Sem Value)).run P w=.ok us w):
  (results fn tmps).run P w=.ok (valOf us) w:=by
 unfold results;rw[Array.mapM_eq_mapM_toList];simp only[map_eq_pure_bind,bind_assoc,pure_bind,Sem.run_bind]
 have key:∀X:Result (List Value),X=.ok us w->(X.andThen λa w'=>Sem.run P (pure (if h:a.toArray.size=1 then a.toArray[0]else Value.tuple a.toArray)) w')=.ok (valOf us) w:=by
  rintro _ rfl;simp only[Result.andThen_ok,Sem.run_pure];congr 1
  match us with
  | []=>rfl
  | [v]=>rfl
  | v::u::r=>simp [valOf]
 exact key _ hm
theorem C5 {C:Start} {m:Nat} {R:PV->List au->Prop} {env:Env} {h:List au} {a:Act} {w:World} {S:Nat->Prop} {vs:List PV} {us:List Value} (c:Ends m R h vs):∀{μ:Mu},gz C μ h S env a w->
  (∀(j:Nat) (pv:PV),vs[j]? =some pv->∃u,us[j]? =some u/\aX μ h S w pv u)->∃μ' h',gz C μ' h' S env a w/\(∀(j:Nat) (pv:PV),vs[j]? =some pv->∃u,us[j]? =some u/\aX μ' h' S w pv u)/\
   vs.all fp=true/\∃(k:List Nat) (res:PV) (η:List au),ig (hI η k)=true/\m<=k.length/\Fz h' η k (oneOf vs) res/\iW h' η k m 0 η k/\R res η:=by
 induction c with
 | mk d k res η hk hm e hh f=>exactλhs h2=>⟨_,_,hs,h2,d,k,res,η,hk,hm,e,hh,f⟩
 | ex h1 hx hk b=>
  intro μ hs h2;obtain⟨μ1,hf,hc⟩:=yW hs.core hx;exact b (hs.turn hf hc) (λj pv hj=>let⟨u,q1,q2⟩:=h2 j pv hj;⟨u,q1,q2.fr hf hs.core.ok⟩)
 | ab id i j sub h1 ha hk b=>
  intro μ hs h2;obtain⟨hf,hc⟩:=tE hs.core (ha (IP μ _ sub));exact b _ (hs.turn hf hc) (λj pv hj=>let⟨u,q1,q2⟩:=h2 j pv hj;⟨u,q1,q2.fr hf hs.core.ok⟩)
theorem ACall.Lc (p:bR P T) (z:P.follows .mixedOrders=true) {f:FuncId} {fn:Func} {c:Code} (hf:P.funcs[f]? =some fn) (hb:fn.body=some c) (A:(fn.name== "runtime.NumGoroutine")=false)
  (args:List PV) (h:List au) (R:PV->List au->Prop) (o:Nat.ble args.length fn.ntmps=true) (B:codeOk fn.ntmps c=true)
  (hv:vc P T h.length c (Lb T fn.results.toList h.length R) (lv args) h):ACall P f args h R:=by
 refine⟨⟨fn,c,hf,hb,A⟩,λw vs μ S D E dp F=>?_⟩;have o:=SI o
 let C:Start:=⟨μ,h,S,w,fn.ntmps⟩
 have hs:gz C μ h S (lv args) ⟨vs++Array.replicate (fn.ntmps - vs.size) undef,[]⟩ w:=by
  refine⟨⟨D,E⟩,Fr.refl,λt=>?_,by simp;show _=fn.ntmps;omega,λt G=>?_,rfl⟩
  ·unfold lv;rw[Sz];cases ha:args[t]? with
   | none=>trivial
   | some pv=>
    obtain⟨v,h1,h2⟩:=F t pv ha;have H:t<vs.size:=(Su.1 h1).1
    have:(vs++Array.replicate (fn.ntmps - vs.size) undef).getD t undef=v:=by
     rw[Array.getD_eq_getD_getElem?,S9 H,h1];rfl
    simp only[T2];rw[this];exact aX.EH h2
  ·unfold lv;rw[Sz,SZ]
   ·rfl
   ·exact S4 o G
 refine calls_of_wp hf hb ?_;refine Code.wp_mono (λe q w' I=>?_) (gB (C:=C) p z c _ _ h _ w μ S hv B hs);obtain⟨μ',h',S',env',d,hq⟩:=I
 have fin:lS T env' h' fn.results.toList (Ends h.length R h')->q.defers=[]/\∃v,(results fn q.tmps).run P w'=.ok v w'/\
   (∃(s:Value) (res:PV) (m:List au) (μ'':Mu) (n:Nat->Prop),Ending.returned v=.returned s/\R res m/\aX μ'' m n w' res s/\bu μ'' m n w'/\kl μ'' m n w'/\Fr μ h S w μ'' m n w'):=λJ=>by
  obtain⟨g,us,K,h1,h2,L⟩:=jE p d _ _ J;refine⟨d.defers,_,wa L,?_⟩;obtain⟨μ',h',d,h2,M,k,res,η,hk,hm,N,hh,O⟩:=C5 K d h2
  have Q:aX μ' h' S' w' (oneOf g) (valOf us):=by
   have key:(∀v,g≠[v])->aX μ' h' S' w' (oneOf g) (valOf us):=λi=>by
    have U:oneOf g=.db g:=by
     match g,i with
     | [],_=>rfl
     | [v],i=>exact(i v rfl).elim
     | a::b::r,_=>rfl
    have V:valOf us=.tuple us.toArray:=by
     match us,h1 with
     | [],_=>rfl
     | [v],h1=>
      match g,h1,i with
      | [x],_,i=>exact(i x rfl).elim
     | a::b::r,_=>rfl
    rw[U,V];refine⟨_,rfl,by simpa using h1,λj pv hj=>?_⟩;obtain⟨u,q1,q2⟩:=h2 j pv hj;refine⟨u,by simpa using q1,?_⟩;have hp:fp pv=true:=(Sy.1 M) pv (SJ hj);cases pv with
    | db W=>cases hp
    | _=>exact q2
   match g,us,h1 with
   | [v],[u],_=>
    obtain⟨X,q1,q2⟩:=h2 0 v rfl;simp at q1;subst q1;exact q2
   | [],us,_=>exact key (λv hv=>by cases hv)
   | a::b::r,us,_=>exact key (λv hv=>by cases hv)
  obtain⟨y,_,_⟩:=nW d.core hh hk;exact⟨_,res,η,fN μ' h' k,sT μ' h' k S',rfl,O,(lx d.core hh N).2.2 _ Q,y.heap,y.ok,FN (C:=C) d.core d.fr hh hk hm⟩
 cases e with
 | ret=>exact fin hq
 | normal=>exact fin hq
 | exit id=>exact hq.elim
 | goto l=>exact hq.elim
 | panic Y=>exact hq.elim
 | outgrown=>exact hq.elim
theorem ACall.mono {f:FuncId} {args:List PV} {h:List au} {R a:PV->List au->Prop} (hc:ACall P f args h R) (b:∀res h',R res h'->a res h'):ACall P f args h a:=
 ⟨hc.1,λw vs μ S c d dp ha=>(hc.2 w vs μ S c d dp ha).mono λe w' ⟨v,res,h',μ',S',he,g,rest⟩=>⟨v,res,h',μ',S',he,b _ _ g,rest⟩⟩
end
def gN (N:Nat):PV->PV
 | .own id gen off len=>.own (N+id) gen off len
 | .aH id gen i off=>.aH (N+id) gen i off
 | .gS id=>.gS (N+id)
 | .jK f bC=>.jK f (ko (N+·) bC)
 | v=>v
def xU (N:Nat):PV->PV
 | .agg cs=>.agg (cs.map (gN N))
 | v=>gN N v
def ie (N:Nat):PV->PV
 | .db vs=>.db (vs.map (xU N))
 | v=>xU N v
def cE (N:Nat):au->au
 | .row g sz n e f=>.row g sz n e (λi=>(f i).map (gN N))
 | .dead=>.dead
def vF:PV->Bool
 | .agg cs=>cs.all bn
 | v=>bn v
def iY:PV->Bool
 | .cP _ _ _=>false
 | .cN _=>false
 | .aG _ _ _ _ _=>false
 | _=>true
def FY:PV->Bool
 | .agg cs=>cs.all iY
 | v=>iY v
def sJ:PV->Bool
 | .db vs=>vs.all FY
 | v=>FY v
def Cx:au->Prop
 | .row _ _ n _ f=>∀i,i<n->(f i).all iY=true
 | .dead=>True
section
variable {P:Program}{T:ij}{μ μ0:Mu}{h h0:List au}{S S0 S':Nat->Prop}{w w':World}
def eu (μ:Mu) (N:Nat) (μ0:Mu):Mu:=λid=>if id<N then μ id else μ0 (id - N)
theorem pE {N:Nat} {a:PV} (h:eA a=true):gN N a=a:=by cases a<;>first | rfl | cases h
theorem iy (N:Nat) (a:h.length=N) (id:Nat):(h++h0.map (cE N))[N+id]? =(h0[id]?).map (cE N):=by
 subst a;rw[SP UN,Nat.add_sub_cancel_left,SL]
theorem kA (N id:Nat):eu μ N μ0 (N+id)=μ0 id:=by
 unfold eu;rw[Is UN,Nat.add_sub_cancel_left]
theorem cd (G:PV->Prop) (a:∀pv v,G pv->aI S0 w' pv v->aI S' w' pv v) {pv:PV} {v:Value} (hg:G pv) (hc:bf μ0 h0 S0 w' pv v):
  bf (eu μ h.length μ0) (h++h0.map (cE h.length)) S' w' (gN h.length pv) v:=by
 have d:∀(id gen i off:Nat) (v:Value),bh μ0 h0 w' id gen i off v->bh (eu μ h.length μ0) (h++h0.map (cE h.length)) w' (h.length+id) gen i off v:=λid gen i off v hc=>by
  unfold bh at hc ⊢;rw[iy _ rfl,kA];obtain⟨h1,h2⟩:=hc;refine⟨h1,?_⟩;cases c:h0[id]? with
  | none=>rw[c]at h2;exact h2
  | some o=>
   rw[c]at h2;cases o with
   | dead=>trivial
   | row g sz n e f=>exact h2
 cases pv with
 | own id gen off len=>
  have hc:aN μ0 h0 w' id gen off len v:=hc;show aN _ _ _ (h.length+id) gen off len v;unfold aN at hc ⊢;rw[iy _ rfl,kA];obtain⟨h1,h2⟩:=hc;refine⟨h1,?_⟩;cases c:h0[id]? with
  | none=>rw[c]at h2;exact h2
  | some o=>
   rw[c]at h2;cases o with
   | dead=>trivial
   | row g sz n e f=>exact h2
 | aH id gen i off=>exact d _ _ _ _ _ hc
 | jK f bC=>exact kN.map (O:=λid g u=>bh (eu μ h.length μ0) (h++h0.map (cE h.length)) w' id g 0 0 u) (kN.mono (show iQ μ0 h0 w' f bC v from hc) (λid g u hu=>d id g 0 0 u hu))
 | gS id=>
  have hc:cQ μ0 h0 w' id v:=hc;show cQ _ _ _ (h.length+id) v;unfold cQ at hc ⊢;rw[iy _ rfl,kA];obtain⟨h1,h2⟩:=hc;refine⟨h1,?_⟩;cases c:h0[id]? with
  | none=>rw[c]at h2;exact h2
  | some o=>
   rw[c]at h2;cases o with
   | dead=>trivial
   | row g sz n e f=>exact h2
 | dA=>exact hc
 | aG sz n e f F=>exact hc
 | agg cs=>exact(show False from hc).elim
 | db cs=>exact(show False from hc).elim
 | int k n=>exact a _ _ hg hc
 | bool b=>exact a _ _ hg hc
 | str s=>exact a _ _ hg hc
 | aD=>exact a _ _ hg hc
 | dx=>exact a _ _ hg hc
 | cP sz n f=>exact a _ _ hg hc
 | cN cs=>exact a _ _ hg hc
 | fn f=>exact a _ _ hg hc
theorem cf (G:PV->Prop) (a:∀pv v,G pv->aI S0 w' pv v->aI S' w' pv v) {pv:PV} {v:Value} (hg:match pv with | .agg cs=>∀c∈cs,G c | v=>G v) (hc:dP μ0 h0 S0 w' pv v):
  dP (eu μ h.length μ0) (h++h0.map (cE h.length)) S' w' (xU h.length pv) v:=by
 cases pv with
 | agg cs=>
  obtain⟨vs,h1,h2,d⟩:=hc;refine⟨vs,h1,by simpa using h2,λj pv hj=>?_⟩;rw[SL]at hj;cases hx:cs[j]? with
  | none=>rw[hx]at hj;cases hj
  | some c=>
   rw[hx]at hj;injection hj with hj;subst hj;obtain⟨u,q1,q2⟩:=d j c hx;exact⟨u,q1,cd G a (hg c (SJ hx)) q2⟩
 | dA=>trivial
 | aG sz n e f F=>exact cd (μ:=μ) (μ0:=μ0) (h:=h) (h0:=h0) (pv:=.aG sz n e f F) G a hg hc
 | db cs=>exact(show False from hc).elim
 | own id gen off len=>exact cd (μ:=μ) (μ0:=μ0) (h:=h) (h0:=h0) (pv:=.own id gen off len) G a hg hc
 | aH id gen i off=>exact cd (μ:=μ) (μ0:=μ0) (h:=h) (h0:=h0) (pv:=.aH id gen i off) G a hg hc
 | gS id=>exact cd (μ:=μ) (μ0:=μ0) (h:=h) (h0:=h0) (pv:=.gS id) G a hg hc
 | jK f bC=>exact cd (μ:=μ) (μ0:=μ0) (h:=h) (h0:=h0) (pv:=.jK f bC) G a hg hc
 | int k n=>exact cd (μ:=μ) (μ0:=μ0) (h:=h) (h0:=h0) (pv:=.int k n) G a hg hc
 | bool b=>exact cd (μ:=μ) (μ0:=μ0) (h:=h) (h0:=h0) (pv:=.bool b) G a hg hc
 | str s=>exact cd (μ:=μ) (μ0:=μ0) (h:=h) (h0:=h0) (pv:=.str s) G a hg hc
 | aD=>exact cd (μ:=μ) (μ0:=μ0) (h:=h) (h0:=h0) (pv:=.aD) G a hg hc
 | dx=>exact cd (μ:=μ) (μ0:=μ0) (h:=h) (h0:=h0) (pv:=.dx) G a hg hc
 | cP sz n f=>exact cd (μ:=μ) (μ0:=μ0) (h:=h) (h0:=h0) (pv:=.cP sz n f) G a hg hc
 | cN cs=>exact cd (μ:=μ) (μ0:=μ0) (h:=h) (h0:=h0) (pv:=.cN cs) G a hg hc
 | fn f=>exact cd (μ:=μ) (μ0:=μ0) (h:=h) (h0:=h0) (pv:=.fn f) G a hg hc
def ES (G:PV->Prop):PV->Prop
 | .db vs=>∀v∈vs,(match v with | .agg cs=>∀c∈cs,G c | v=>G v)
 | .agg cs=>∀c∈cs,G c
 | v=>G v
theorem ru (G:PV->Prop) (a:∀pv v,G pv->aI S0 w' pv v->aI S' w' pv v) {pv:PV} {v:Value} (hg:ES G pv) (hc:aX μ0 h0 S0 w' pv v):
  aX (eu μ h.length μ0) (h++h0.map (cE h.length)) S' w' (ie h.length pv) v:=by
 cases pv with
 | db cs=>
  obtain⟨vs,h1,h2,d⟩:=hc;refine⟨vs,h1,by simpa using h2,λj pv hj=>?_⟩;rw[SL]at hj;cases hx:cs[j]? with
  | none=>rw[hx]at hj;cases hj
  | some c=>
   rw[hx]at hj;injection hj with hj;subst hj;obtain⟨u,q1,q2⟩:=d j c hx;exact⟨u,q1,cf G a (hg c (SJ hx)) q2⟩
 | agg cs=>exact cf (μ:=μ) (μ0:=μ0) (h:=h) (h0:=h0) (pv:=.agg cs) G a hg hc
 | dA=>trivial
 | aG sz n e f F=>exact cf (μ:=μ) (μ0:=μ0) (h:=h) (h0:=h0) (pv:=.aG sz n e f F) G a hg hc
 | own id gen off len=>exact cf (μ:=μ) (μ0:=μ0) (h:=h) (h0:=h0) (pv:=.own id gen off len) G a hg hc
 | aH id gen i off=>exact cf (μ:=μ) (μ0:=μ0) (h:=h) (h0:=h0) (pv:=.aH id gen i off) G a hg hc
 | gS id=>exact cf (μ:=μ) (μ0:=μ0) (h:=h) (h0:=h0) (pv:=.gS id) G a hg hc
 | jK f bC=>exact cf (μ:=μ) (μ0:=μ0) (h:=h) (h0:=h0) (pv:=.jK f bC) G a hg hc
 | int k n=>exact cf (μ:=μ) (μ0:=μ0) (h:=h) (h0:=h0) (pv:=.int k n) G a hg hc
 | bool b=>exact cf (μ:=μ) (μ0:=μ0) (h:=h) (h0:=h0) (pv:=.bool b) G a hg hc
 | str s=>exact cf (μ:=μ) (μ0:=μ0) (h:=h) (h0:=h0) (pv:=.str s) G a hg hc
 | aD=>exact cf (μ:=μ) (μ0:=μ0) (h:=h) (h0:=h0) (pv:=.aD) G a hg hc
 | dx=>exact cf (μ:=μ) (μ0:=μ0) (h:=h) (h0:=h0) (pv:=.dx) G a hg hc
 | cP sz n f=>exact cf (μ:=μ) (μ0:=μ0) (h:=h) (h0:=h0) (pv:=.cP sz n f) G a hg hc
 | cN cs=>exact cf (μ:=μ) (μ0:=μ0) (h:=h) (h0:=h0) (pv:=.cN cs) G a hg hc
 | fn f=>exact cf (μ:=μ) (μ0:=μ0) (h:=h) (h0:=h0) (pv:=.fn f) G a hg hc
theorem ta (hH:bu μ h S w) (d:kl μ h S w) {μc:Mu} {Sc:Nat->Prop} (m:Fr μc [] Sc w μ0 h0 S0 w') (Fw:bu μ0 h0 S0 w') (H:kl μ0 h0 S0 w')
  (G:PV->Prop) (R:∀pv v,G pv->aI S0 w' pv v->aI S' w' pv v) (Lx:∀(id g sz n:Nat) (e:TypeId) (f:Nat->List PV),h0[id]? =some (au.row g sz n e f)->∀i,i<n->∀c∈f i,(cg c=false->G c)/\(cg c=true->OG G c))
  (RV:∀b,S b->S' b) (T:∀b,S' b->S b\/w.heap.size<=b) (RW:∀b,S' b->b<w'.heap.size) (RZ:∀b,S' b->¬bA μ0 h0 b):
  bu (eu μ h.length μ0) (h++h0.map (cE h.length)) S' w'/\kl (eu μ h.length μ0) (h++h0.map (cE h.length)) S' w'/\Fr μ h S w (eu μ h.length μ0) (h++h0.map (cE h.length)) S' w':=by
 have U:∀b,¬bA μc [] b:=λb=>eZ;have cj:∀b,b<w.heap.size->w'.heap[b]? =w.heap[b]?:=λb hb=>m.blocks b hb (U b);have r:∀b,bA μ0 h0 b->w.heap.size<=b:=λb hb=>(m.own b hb).resolve_left (U b)
 have I:∀id o,h[id]? =some o->(h++h0.map (cE h.length))[id]? =some o/\eu μ h.length μ0 id=μ id:=λid o hid=>by
  have s:=(an.1 hid).1;exact⟨by rw[SR s];exact hid,by unfold eu;rw[An s]⟩
 have inv:∀(id g sz n:Nat) (e:TypeId) (f:Nat->List PV),(h++h0.map (cE h.length))[id]? =some (au.row g sz n e f)->
   (h[id]? =some (au.row g sz n e f)/\eu μ h.length μ0 id=μ id)\/∃a l,id=h.length+a/\h0[a]? =some (au.row g sz n e l)/\eu μ h.length μ0 id=μ0 a/\f=λi=>(l i).map (gN h.length):=λid g sz n e f hid=>by
  rcases S5 id h.length with s | sw
  ·rw[SR s]at hid;exact .inl ⟨hid,by unfold eu;rw[An s]⟩
  ·obtain⟨a,rfl⟩:∃a,id=h.length+a:=⟨id - h.length,by omega⟩;rw[iy _ rfl]at hid;cases t:h0[a]? with
   | none=>rw[t]at hid;cases hid
   | some o=>
    rw[t]at hid;cases o with
    | dead=>cases hid
    | row g0 Ep n0 e0 l=>
     injection hid with hid;injection hid with K B L e4 e5;subst K B L e4 e5;exact .inr ⟨a,l,rfl,t,kA _ _,rfl⟩
 have V:∀b,qD (eu μ h.length μ0) (h++h0.map (cE h.length)) b->qD μ h b\/qD μ0 h0 b:=λb ⟨id,g,sz,n,e,f,base,hid,hm⟩=>by
  rcases inv id g sz n e f hid with⟨h1,h2⟩ | ⟨a,l,rfl,h1,h2,_⟩
  ·rw[h2]at hm;exact .inl ⟨id,g,sz,n,e,f,base,h1,hm⟩
  ·rw[h2]at hm;exact .inr ⟨a,g,sz,n,e,l,base,h1,hm⟩
 have PA:∀{c:PV} {sz n:Nat} {e:TypeId} {f:Nat->List PV} {F:Nat->Prop},gN h.length c=.aG sz n e f F->c=.aG sz n e f F:=λ{c} _ _ _ _ _ hc=>by
  cases c<;>first | exact hc | cases hc
 have A:∀id i j b,bN (h++h0.map (cE h.length)) id i j b->bN h id i j b\/∃a,id=h.length+a/\bN h0 a i j b:=λid i j b ⟨g,sz,n,e,f,a8,n',W,f',F',q1,q2,q3,q4⟩=>by
  rcases inv id g sz n e f q1 with⟨h1,h2⟩ | ⟨a,l,rfl,h1,h2,rfl⟩
  ·exact .inl ⟨_,_,_,_,_,_,_,_,_,_,h1,q2,q3,q4⟩
  ·rw[SL]at q3;cases hx:(l i)[j]? with
   | none=>rw[hx]at q3;cases q3
   | some c=>
    rw[hx]at q3;injection q3 with q3;rw[PA q3]at hx;exact .inr ⟨a,rfl,_,_,_,_,_,_,_,_,_,_,h1,q2,hx,q4⟩
 have M:∀b,bA (eu μ h.length μ0) (h++h0.map (cE h.length)) b->bA μ h b\/bA μ0 h0 b:=λb hb=>by
  rcases hb with hb | ⟨x,y,z,hb⟩
  ·exact(V b hb).imp .inl .inl
  ·rcases A x y z b hb with q | ⟨_,_,q⟩
   ·exact .inl (.inr ⟨_,_,_,q⟩)
   ·exact .inr (.inr ⟨_,_,_,q⟩)
 have N:Fr μ h S w (eu μ h.length μ0) (h++h0.map (cE h.length)) S' w':=by
  refine⟨by simp,λb hb _=>cj b hb,RV,λb hb=>(T b hb).imp id .inr,λb hb=>(M b hb).imp id (r b),m.size,m.os,m.tape,m.output,λid g sz n e f hid=>?_,λid hid=>(I id _ hid).1,λb k hb hc=>dZ.of_same (cj b hc.lt) hc,λid g sz n e f b base hid hm fe=>⟨let⟨es,c,q⟩:=fe;⟨es,c,(cj b (Su.1 q).1).trans q⟩,.inr ⟨⟨_,_,_,_,_,(I id _ hid).1⟩,(I id _ hid).2.trans hm⟩⟩,λb _ _ _ hx fe=>let⟨es,c,q⟩:=fe;⟨es,c,(cj b (Su.1 q).1).trans q⟩⟩;obtain⟨h1,h2⟩:=I id _ hid;rw[h1];exact⟨Sv _,λ_=>⟨h2,rfl,rfl,rfl⟩⟩
 refine⟨λid g sz n e f hid=>?_,⟨λb hb hs=>?_,λb hb=>?_,RW,?_,d.my N,λb hb x y z hx=>?_,λb x y z x' X Y hx Z=>?_⟩,N⟩;rotate_right 2
 ·rcases V b hb with h1 | h1
  ·rcases A x y z b hx with h2 | ⟨_,_,h2⟩
   ·exact d.hv b h1 _ _ _ h2
   ·have C:=d.lt b (.inl h1);have D:=r b (.inr ⟨_,_,_,h2⟩);omega
  ·rcases A x y z b hx with h2 | ⟨_,_,h2⟩
   ·have C:=d.lt b (.inr ⟨_,_,_,h2⟩);have D:=r b (.inl h1);omega
   ·exact H.hv b h1 _ _ _ h2
 ·rcases A x y z b hx with h1 | ⟨u1,rfl,h1⟩
  ·rcases A x' X Y b Z with h2 | ⟨u2,rfl,h2⟩
   ·exact d.hh b _ _ _ _ _ _ h1 h2
   ·have C:=d.lt b (.inr ⟨_,_,_,h1⟩);have D:=r b (.inr ⟨_,_,_,h2⟩);omega
  ·rcases A x' X Y b Z with h2 | ⟨u2,rfl,h2⟩
   ·have C:=d.lt b (.inr ⟨_,_,_,h2⟩);have D:=r b (.inr ⟨_,_,_,h1⟩);omega
   ·obtain⟨K,B,L⟩:=H.hh b _ _ _ _ _ _ h1 h2;exact⟨by rw[K],B,L⟩
 ·rcases inv id g sz n e f hid with⟨h1,h2⟩ | ⟨a,l,rfl,h1,h2,rfl⟩
  ·obtain⟨q1,q2⟩:=hH id g sz n e f h1;refine⟨q1,?_⟩;rw[h2];cases hm:μ id with
   | none=>rw[hm]at q2;exact q2
   | some p=>
    obtain⟨b,base⟩:=p;rw[hm]at q2;obtain⟨o,J,E⟩:=q2;have s:b<w.heap.size:=(Su.1 J).1;exact⟨o,(cj b s).trans J,E.mono (λi y pv v hi hy hr=>hr.fr N d (λa8 n' W f' F' he b2 wh=>cj b2 (d.lt b2 (.inr ⟨id,i,y,_,_,_,_,_,_,_,_,_,_,h1,hi,he▸hy,wh⟩))))⟩
  ·obtain⟨q1,q2⟩:=Fw a g sz n e l h1;refine⟨λi hi=>by simpa using q1 i hi,?_⟩;rw[h2];cases hm:μ0 a with
   | none=>rw[hm]at q2;exact q2
   | some p=>
    obtain⟨b,base⟩:=p;rw[hm]at q2;obtain⟨o,J,E⟩:=q2;refine⟨o,J,?_⟩;cases o with
    | cells cur W z=>
     obtain⟨O,x2,x3,P⟩:=E;refine⟨O,x2,x3,λi j pv hi hj=>?_⟩;rw[SL]at hj;cases hx:(l i)[j]? with
     | none=>rw[hx]at hj;cases hj
     | some c=>
      rw[hx]at hj;injection hj with hj;subst hj;obtain⟨v,s1,s2⟩:=P i j c hi hx;obtain⟨g1,g2⟩:=Lx a g sz n e l h1 i hi c (SJ hx);refine⟨v,s1,?_⟩;cases t:cg c with
      | false=>exact bf.k (cd G R (g1 t) s2.c) (by cases c<;>first | rfl | cases t)
      | true=>
       cases c with
       | aG hU n2 B f2 F2=>exact fK.og R (show fK S0 w' (.aG hU n2 B f2 F2) v from s2) (g2 rfl)
       | _=>cases t
    | map es c=>
     obtain⟨O,P⟩:=E;refine⟨O,λi hi=>?_⟩;obtain⟨kp,vp,en,y1,y2,y3,y4⟩:=P i hi;exact⟨kp,vp,en,by show(l i).map (gN h.length)=_;rw[y1];show[gN h.length kp,gN h.length vp]=_;rw[pE y2,pE y3],y2,y3,y4⟩
    | _=>exact E.elim
 ·rcases M b hb with h1 | h1
  ·rcases T b hs with h2 | h2
   ·exact d.apart b h1 h2
   ·have:=d.lt b h1;omega
  ·exact RZ b hs h1
 ·rcases M b hb with h1 | h1
  ·exact SH (d.lt b h1) m.size
  ·exact H.lt b h1
 ·intro i j gi xo ni ei fi gj dQ nj ej fj b o o' hi hj eY eN;rcases inv i _ _ _ _ _ hi with⟨h1,h2⟩ | ⟨a,l,rfl,h1,h2,_⟩
  ·rw[h2]at eY;rcases inv j _ _ _ _ _ hj with⟨u,h4⟩ | ⟨Q,f1,rfl,u,h4,_⟩
   ·rw[h4]at eN;exact d.inj i j _ _ _ _ _ _ _ _ _ _ _ _ _ h1 u eY eN
   ·rw[h4]at eN;have C:=d.lt b (.inl ⟨i,_,_,_,_,_,_,h1,eY⟩);have D:=r b (.inl ⟨Q,_,_,_,_,_,_,u,eN⟩);omega
  ·rw[h2]at eY;rcases inv j _ _ _ _ _ hj with⟨u,h4⟩ | ⟨Q,f1,rfl,u,h4,_⟩
   ·rw[h4]at eN;have C:=d.lt b (.inl ⟨j,_,_,_,_,_,_,u,eN⟩);have D:=r b (.inl ⟨a,_,_,_,_,_,_,h1,eY⟩);omega
   ·rw[h4]at eN;have:=H.inj a Q _ _ _ _ _ _ _ _ _ _ _ _ _ h1 u eY eN;rw[this]
theorem ACall.frame {f:FuncId} {args:List PV} {R:PV->List au->Prop} (A:ACall P f args [] R) (h:List au) (hp:args.all vF=true):
  ACall P f args h (λres h'=>∃r0 h0,R r0 h0/\res=ie h.length r0/\h'=h++h0.map (cE h.length)):=by
 refine⟨A.1,λw vs μ S D l dp ha=>?_⟩;refine(A.2 w vs (λ_=>none) S (λid g sz n e f hid=>by simp at hid) ⟨λb hb=>absurd hb eZ,λb hb=>absurd hb eZ,l.slt,λi j g sz n e f g' a8 n' E f' b o o' hi=>by simp at hi,l.known,λb _ x y z hx=>nM hx,λb _ _ _ _ _ _ hx=>absurd hx nM⟩ dp (λj pv hj=>?_)).mono ?_
 ·obtain⟨v,h1,h2⟩:=ha j pv hj;refine⟨v,h1,?_⟩;have a:=(Sy.1 hp) pv (SJ hj);cases pv with
  | agg cs=>
   obtain⟨us,q1,q2,q3⟩:=h2;refine⟨us,q1,q2,λi c hi=>?_⟩;obtain⟨u,G,d⟩:=q3 i c hi;have hc:=(Sy.1 a) c (SJ hi);exact⟨u,G,bf.eX (oS hc d)⟩
  | db cs=>cases a
  | own id gen off len=>cases a
  | aH id gen i off=>cases a
  | gS id=>cases a
  | jK f bC=>cases a
  | dA=>cases a
  | aG sz n e f F=>cases a
  | int k n=>exact h2
  | bool b=>exact h2
  | str s=>exact h2
  | aD=>exact h2
  | dx=>exact h2
  | cP sz n f=>exact h2
  | cN cs=>exact h2
  | fn f=>exact h2
 ·rintro e w' ⟨v,r0,h0,μ0,S0,he,H,hv,B,m,r⟩;have I:∀b,¬bA (λ_=>none) [] b:=λb=>eZ
  obtain⟨J,K,L⟩:=ta (S':=S0) D l r B m (λ_=>True) (λ_ _ _ h=>h) (λid g sz n e f hid i hi c t=>⟨λ_=>trivial,λhx=>by
    obtain⟨j,hj,M⟩:=Tb.1 t;obtain⟨_,q2⟩:=B id g sz n e f hid;cases C:μ0 id with
    | none=>rw[C]at q2;omega
    | some p=>
     obtain⟨b,base⟩:=p;rw[C]at q2;obtain⟨o,_,d⟩:=q2;cases o with
     | cells cur E z=>
      obtain⟨_,_,_,N⟩:=d;obtain⟨v,_,O⟩:=N i j c hi (by rw[<-M];exact As hj);cases c with
      | aG Q T U V W=>exact fK.all (show fK S0 w' (.aG Q T U V W) v from O)
      | _=>cases hx
     | map es cl=>
      obtain⟨X,Y,en,Z,y2,y3,_⟩:=d.2 i hi;rw[Z]at t;rcases SB.1 t with q | q
      ·rw[q]at hx;cases X<;>first | (cases hx;done) | (cases y2;done)
      ·rw[Tz.1 q]at hx;cases Y<;>first | (cases hx;done) | (cases y3;done)
     | _=>exact d.elim⟩) r.sub
   (λb hb=>(r.new b hb).imp id (λh=>h.resolve_left (I b))) m.slt (λb hb ho=>m.apart b ho hb)
  have gd:ES (λ_=>True) r0:=by
   unfold ES;split
   ·intro v _;split<;>intros<;>trivial
   ·intros;trivial
   ·trivial
  exact⟨v,_,_,_,S0,he,⟨r0,h0,H,rfl,rfl⟩,ru _ (λ_ _ _ h=>h) gd hv,J,K,L⟩
def nN:au->Prop
 | .row _ _ n _ f=>∀i,i<n->∀c∈f i,(cg c=false->iY c=true)/\(cg c=true->OG (λpv=>iY pv=true) c)
 | .dead=>True
theorem Cx.p {o:au} (h:Cx o):nN o:=by
 cases o with
 | dead=>trivial
 | row g sz n e f=>
  intro i hi c hc;have:=(Sy.1 (h i hi)) c hc;exact⟨λ_=>this,λhx=>by cases c<;>first | (cases hx;done) | (cases this;done)⟩
theorem ACall.snap {f:FuncId} {args l:List PV} {R:PV->List au->Prop} (t:ACall P f l [] R) (h:List au) (B:l.length=args.length)
  (C:∀(j:Nat) (pv a:PV),args[j]? =some pv->l[j]? =some a->Fz h [] [] pv a/\fp a=true) (D:∀r0 h0,R r0 h0->sJ r0=true/\∀o∈h0,nN o):
  ACall P f args h (λres h'=>∃r0 h0,R r0 h0/\res=ie h.length r0/\h'=h++h0.map (cE h.length)):=by
 refine⟨t.1,λw vs μ S p d dp ha=>?_⟩;have u:iW h [] [] 0 0 [] []:=trivial;obtain⟨x,_,_⟩:=nW (m:=0) ⟨p,d⟩ u rfl;refine(t.2 w vs (fN μ h []) (sT μ h [] S) x.heap x.ok UN (λj a hj=>?_)).mono ?_
 ·have E:j<args.length:=by rw[<-B];exact(an.1 hj).1
  have y:=As E;obtain⟨v,h1,h2⟩:=ha j _ y;obtain⟨F,Q⟩:=C j _ a y hj;exact⟨v,h1,(lx (m:=0) ⟨p,d⟩ u F).2.1 v h2⟩
 ·rintro e w' ⟨v,r0,h0,μ0,S0,he,z,hv,G,H,q⟩;obtain⟨r,I⟩:=D r0 h0 z;have J:∀b,¬bA (fN μ h []) [] b:=λb=>eZ
  have A:∀pv v,iY pv=true->aI S0 w' pv v->aI S w' pv v:=λpv v hf hp=>by
   cases hp with
   | int k n=>exact .int k n
   | bool b=>exact .bool b
   | str s=>exact .str s
   | aD=>exact .aD
   | dx=>exact .dx
   | fn f=>exact .fn f
   | iq=>cases hf
   | cP=>cases hf
   | cN=>cases hf
  obtain⟨K,L,M⟩:=ta (S':=S) p d q G H (λpv=>iY pv=true) A (λid g sz n e f hid i hi c hc=>I _ (SJ hid) i hi c hc) (λ_ hb=>hb) (λb hb=>.inl hb) (λb hb=>SH (d.slt b hb) q.size)
   (λb hb N=>by
    have h1:=(q.own b N).resolve_left (J b);have h2:=d.slt b hb;omega)
  have O:ES (λpv=>iY pv=true) r0:=by
   cases r0 with
   | db vs=>
    intro v hv;have:=(Sy.1 r) v hv;cases v with
    | agg cs=>exactλc hc=>(Sy.1 this) c hc
    | _=>exact this
   | agg cs=>exactλc hc=>(Sy.1 r) c hc
   | _=>exact r
  exact⟨v,_,_,_,S,he,⟨r0,h0,z,rfl,rfl⟩,ru _ A O hv,K,L,M⟩
end
end Go.Am
