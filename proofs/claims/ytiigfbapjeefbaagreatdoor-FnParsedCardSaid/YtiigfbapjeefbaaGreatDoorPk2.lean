/- Texts of the proof, joined and shortened. -/
import Derived.Test.YtiigfbapjeefbaaGreatDoorPk1
import Derived.MapKept
import Derived.Lib.ConvBytes
import Derived.Lib.AtoiErrMem
import Derived.Deep.LoopGhost
set_option linter.unusedVariables false
set_option linter.unusedSimpArgs false
namespace Go.Am
open Go Go.RowKit
section
variable {P:Program}{T:ru}{μ:Mu}{h:List ao}{S:Nat->Prop}{w w1:World}
theorem Vf (hc:Core μ h S w) (a g sz n:Nat) (e:TypeId) (f:Nat->List PV) (hh:h[a]? =some (ao.row g sz n e f)):Fr μ h S w μ (h.set a .dead) S w/\Core μ (h.set a .dead) S w:=by
 have hid:a<h.length:=(abF.1 hh).1;have v:(h.set a ao.dead)[a]? =some ao.dead:=by simp [hid]
 have r:∀j,j≠a->(h.set a ao.dead)[j]? =h[j]?:=λj hj=>by rw[aRB (aSA hj)]
 have t:∀{j d k l m q},(h.set a ao.dead)[j]? =some (ao.row d k l m q)->j≠a:=λhj hx=>by subst hx;rw[v]at hj;cases hj
 have D:∀b,Hx μ (h.set a ao.dead) b->Hx μ h b:=λb ⟨j,d,k,l,m,q,F,hj,hm⟩=>by
  rw[r j (t hj)]at hj;exact⟨j,d,k,l,m,q,F,hj,hm⟩
 have u:∀j x y b,eR (h.set a ao.dead) j x y b->eR h j x y b:=λj x y b ⟨d,k,l,m,q,K,L,e',M,N,q1,A,G,H⟩=>by
  rw[r j (t q1)]at q1;exact⟨_,_,_,_,_,_,_,_,_,_,q1,A,G,H⟩
 have B:∀b,dL μ (h.set a ao.dead) b->dL μ h b:=λb c=>by
  rcases c with c | ⟨x,y,z,c⟩
  ·exact .inl (D b c)
  ·exact .inr ⟨x,y,z,u _ _ _ _ c⟩
 have E:Fr μ h S w μ (h.set a .dead) S w:=by
  refine⟨by simp,λ_ _ _=>rfl,λ_ c=>c,λ_ c=>.inl c,λb c=>.inl (B b c),Of _,rfl,rfl,rfl,λj d k l m q hj=>?_,λj hj=>?_,λ_ _ _ I=>I,λj d k l m q b base hj hm C=>⟨C,?_⟩,λ_ _ _ _ _ C=>C⟩
  ·by_cases s:j=a
   ·subst s;rw[v];trivial
   ·rw[r j s,hj];exact⟨Of _,λ_=>⟨rfl,rfl,rfl,rfl⟩⟩
  ·have s:j≠a:=by rintro rfl;rw[hh]at hj;cases hj
   rw[r j s];exact hj
  ·by_cases s:j=a
   ·subst s;exact .inl v
   ·exact .inr ⟨⟨_,_,_,_,_,(r j s).trans hj⟩,hm⟩
 refine⟨E,⟨λj d k l m q hj=>?_,⟨λb c=>hc.ok.apart b (B b c),λb c=>hc.ok.lt b (B b c),hc.ok.slt,?_,hc.ok.known,λb c x y z hx=>hc.ok.hv b (D b c) x y z (u _ _ _ _ hx),λb _ _ _ _ _ _ hx hy=>hc.ok.hh b _ _ _ _ _ _ (u _ _ _ _ hx) (u _ _ _ _ hy)⟩⟩⟩
 ·rw[r j (t hj)]at hj;obtain⟨h1,h2⟩:=hc.heap j d k l m q hj;refine⟨h1,?_⟩;cases hm:μ j with
  | none=>rw[hm]at h2;exact h2
  | some p=>
   obtain⟨b,base⟩:=p;rw[hm]at h2;obtain⟨o,q1,A⟩:=h2;exact⟨o,q1,A.mono (λ_ _ _ _ _ _ J=>J.fr E hc.ok (λ_ _ _ _ _ _ _ _=>rfl))⟩
 ·intro i j O P Q R T d k l m q b o U hi hj oF oa;rw[r i (t hi)]at hi;rw[r j (t hj)]at hj;exact aUq
theorem HI (hc:Core μ h S w) (id d:Nat) (qp:d≠id) (g2 oh n2:Nat) (e2:TypeId) (f2:Nat->List PV) (M6:h[d]? =some (ao.row g2 oh n2 e2 f2)) (P:Nat) (g F sz n t:Nat) (e:TypeId) (f u:Nat->List PV) (hh:h[id]? =some (ao.row g sz n e f)) (l R:Nat) (T:Array Value)
  (hg:g<=F) (aa:F=g->μ id=some (l,R)/\t=n)
  (m:w.heap.size<=l\/∃base cur,μ id=some (l,base)/\w.heap[l]? =some (.cells cur e (0,0))/\cur.size=T.size)
  (hw:w1.heap[l]? =some (.cells T e (0,0))) (yo:R+t*sz<=T.size)
  (M:∀b,b<w.heap.size->b≠l->w1.heap[b]? =w.heap[b]?) (Ax:w.heap.size<=w1.heap.size) (ad:w1.os=w.os) (ag:w1.tape=w.tape) (a5:w1.output=w.output)
  (hl:∀i,i<t->(u i).length=sz) (QD:∀b base,μ id=some (b,base)->¬th w b)
  (bB:∀(i j:Nat) (pv:PV),i<t->(u i)[j]? =some pv->∃v:Value,T[R+i*sz+j]? =some v/\qn μ h S w pv v) (My zx:Nat)
  (xl:∀(i j U V:Nat) (e':TypeId) (W:Nat->List PV) (X:Nat->Prop),i<t->(u i)[j]? =some (.fG U V e' W X)->(i<P/\My+i<n/\(f (My+i))[j]? =some (.fG U V e' W X))\/(P<=i/\zx+(i - P)<n2/\(f2 (zx+(i - P)))[j]? =some (.fG U V e' W X))):
  Fr μ h S w (oE μ id (some (l,R))) ((h.set id (.row F sz t e u)).set d .dead) S w1/\Core (oE μ id (some (l,R))) ((h.set id (.row F sz t e u)).set d .dead) S w1:=by
 have hid:id<h.length:=(abF.1 hh).1;have lY:((h.set id (ao.row F sz t e u)).set d .dead)[id]? =some (ao.row F sz t e u):=by rw[aRB qp];simp [hid]
 have a6:d<h.length:=(abF.1 M6).1;have vd:((h.set id (ao.row F sz t e u)).set d .dead)[d]? =some ao.dead:=by simp [a6]
 have G:∀j,j≠id->j≠d->((h.set id (ao.row F sz t e u)).set d .dead)[j]? =h[j]?:=λj hj H=>by rw[aRB (aSA H),aRB (aSA hj)]
 have I:∀{j A B C D E},((h.set id (ao.row F sz t e u)).set d .dead)[j]? =some (ao.row A B C D E)->j≠d:=λhj hx=>by subst hx;rw[vd]at hj;cases hj
 have a8:l<w1.heap.size:=(aRa.1 hw).1
 have xm:l<w.heap.size->dL μ h l:=λJ=>by
  rcases m with m | ⟨base,cur,hm,_,_⟩
  ·omega
  ·exact .inl ⟨id,g,sz,n,e,f,base,hh,hm⟩
 have fx:∀j x y b,eR ((h.set id (ao.row F sz t e u)).set d .dead) j x y b->j≠d/\∃N O,eR h N O y b/\((j≠id/\N=j/\O=x)\/(j=id/\x<P/\N=id/\O=My+x)\/(j=id/\P<=x/\N=d/\O=zx+(x - P))):=λj x y b ⟨A,B,C,D,E,U,V,e',W,X,q1,s,q3,q4⟩=>by
  refine⟨I q1,?_⟩;by_cases a:j=id
  ·subst a;rw[lY]at q1;injection q1 with q1;injection q1 with e1 e2 e3 e4 e5;subst e1 e2 e3 e4 e5;rcases xl x y _ _ _ _ _ s q3 with⟨r0,r1,K⟩ | ⟨r0,r1,K⟩
   ·exact⟨_,_,⟨_,_,_,_,_,_,_,_,_,_,hh,r1,K,q4⟩,.inr (.inl ⟨rfl,r0,rfl,rfl⟩)⟩
   ·exact⟨_,_,⟨_,_,_,_,_,_,_,_,_,_,M6,r1,K,q4⟩,.inr (.inr ⟨rfl,r0,rfl,rfl⟩)⟩
  ·have H:=I q1;rw[G j a H]at q1;exact⟨_,_,⟨_,_,_,_,_,_,_,_,_,_,q1,s,q3,q4⟩,.inl ⟨a,rfl,rfl⟩⟩
 have yJ:∀j x y b,eR h j x y b->b<w.heap.size/\b≠l:=λj x y b hx=>by
  have J:=hc.ok.lt b (.inr ⟨j,x,y,hx⟩);refine⟨J,?_⟩;rintro rfl;rcases m with m | ⟨base,cur,hm,_,_⟩
  ·omega
  ·exact hc.ok.hv b ⟨id,g,sz,n,e,f,base,hh,hm⟩ j x y hx
 have mi:Fr μ h S w (oE μ id (some (l,R))) ((h.set id (.row F sz t e u)).set d .dead) S w1:=by
  refine⟨by simp,λb J Bp=>?_,λ_ m=>m,λ_ m=>.inl m,λb Y=>?_,Ax,ad,ag,a5,λj A B C D E hj=>?_,λj hj=>?_,λb k Ck iQ=>?_,λj A B C D E b base hj hm ow=>?_,λb j x y hx ow=>?_⟩;rotate_right
  ·obtain⟨q1,s⟩:=yJ j x y b hx;obtain⟨es,c,q⟩:=ow;exact⟨es,c,(M b q1 s).trans q⟩
  ·by_cases L:b=l
   ·subst L;exact(Bp (xm J)).elim
   ·exact M b J L
  ·rcases Y with⟨j,A,B,C,D,E,rD,hj,hm⟩ | ⟨j,x,y,hx⟩;rotate_left
   ·obtain⟨_,N,O,r,_⟩:=fx j x y b hx;exact .inl (.inr ⟨_,_,_,r⟩)
   by_cases a:j=id
   ·subst a;rw[bY]at hm;injection hm with hm;injection hm with h1 h2;subst h1;rcases aSf l w.heap.size with J | Kv
    ·exact .inl (xm J)
    ·exact .inr Kv
   ·rw[G j a (I hj)]at hj;rw[dH μ _ a]at hm;exact .inl (.inl ⟨j,A,B,C,D,E,rD,hj,hm⟩)
  ·by_cases a:j=id
   ·subst a;rw[hh]at hj;injection hj with hj;injection hj with e1 e2 e3 e4 e5;subst e1 e2 e3 e4 e5;rw[lY];refine⟨hg,λhe=>?_⟩;obtain⟨h1,h2⟩:=aa he;exact⟨by rw[bY,h1],rfl,h2,rfl⟩
   ·by_cases H:j=d
    ·subst H;rw[vd];trivial
    ·rw[G j a H,hj];exact⟨Of _,λ_=>⟨dH μ _ a,rfl,rfl,rfl⟩⟩
  ·have a:j≠id:=by rintro rfl;rw[hh]at hj;cases hj
   have H:j≠d:=by rintro rfl;rw[M6]at hj;cases hj
   rw[G j a H];exact hj
  ·by_cases L:b=l
   ·subst L;obtain⟨cur,e',z,q1,s⟩:=iQ;rcases m with m | ⟨base,CU,hm,n9,kS⟩
    ·have:=(aRa.1 q1).1;omega
    ·rw[n9]at q1;injection q1 with q1;injection q1 with q1 _ _;subst q1;exact⟨T,e,_,hw,by omega⟩
   ·exact lZ.of_same (M b iQ.lt L) iQ
  ·have a:j≠id:=by rintro rfl;exact QD b base hm ow
   have L:b≠l:=by
    rintro rfl;obtain⟨es,c,q⟩:=ow;rcases m with m | ⟨sH,CU,Z,n9,_⟩
    ·have:=(aRa.1 q).1;omega
    ·rw[n9]at q;cases q
   obtain⟨es,c,q⟩:=ow;refine⟨⟨es,c,(M b (aRa.1 q).1 L).trans q⟩,?_⟩;by_cases H:j=d
   ·subst H;exact .inl vd
   ·exact .inr ⟨⟨_,_,_,_,_,(G j a H).trans hj⟩,by rw[dH μ _ a];exact hm⟩
 refine⟨mi,⟨λj A B C D E hj=>?_,?_⟩⟩
 ·by_cases a:j=id
  ·subst a;rw[lY]at hj;injection hj with hj;injection hj with e1 e2 e3 e4 e5;subst e1 e2 e3 e4 e5;rw[bY];refine⟨hl,dA.EM ⟨T,hw,yo,λi k pv hi Q=>?_⟩⟩;obtain⟨v,h1,h2⟩:=bB i k pv hi Q;refine⟨v,h1,h2.fr mi hc.ok (λU V e' W X he b Y=>?_)⟩;rw[he]at Q;rcases xl i k _ _ _ _ _ hi Q with⟨r0,r1,K⟩ | ⟨r0,r1,K⟩
   ·obtain⟨q1,s⟩:=yJ _ _ k b ⟨_,_,_,_,_,_,_,_,_,_,hh,r1,K,Y⟩;exact M b q1 s
   ·obtain⟨q1,s⟩:=yJ _ _ k b ⟨_,_,_,_,_,_,_,_,_,_,M6,r1,K,Y⟩;exact M b q1 s
  ·rw[G j a (I hj)]at hj;obtain⟨h1,h2⟩:=hc.heap j A B C D E hj;refine⟨h1,?_⟩;rw[dH μ _ a];cases hm:μ j with
   | none=>rw[hm]at h2;exact h2
   | some p=>
    obtain⟨b,base⟩:=p;rw[hm]at h2;obtain⟨o,q1,s⟩:=h2;have J:b<w.heap.size:=(aRa.1 q1).1
    have L:b≠l:=by
     rintro rfl;rcases m with m | ⟨sH,CU,Z,_⟩
     ·omega
     ·exact a (hc.ok.inj j id _ _ _ _ _ _ _ _ _ _ _ _ _ hj hh hm Z)
    exact⟨o,(M b J L).trans q1,s.mono (λi y pv v hi hy hr=>hr.fr mi hc.ok (λU V e' W X he b' Y=>by
     obtain⟨q1,s⟩:=yJ j i y b' ⟨_,_,_,_,_,_,_,_,_,_,hj,hi,by rw[hy,he],Y⟩;exact M b' q1 s))⟩
 ·refine⟨λb Ck S4=>?_,λb Ck=>?_,λb S4=>aRx (hc.ok.slt b S4) Ax,?_,hc.ok.EN mi,λb a9 j x y hx=>?_,λb j x y j' x' y' hx wh=>?_⟩;rotate_right 2
  ·obtain⟨_,N,O,r,_⟩:=fx j x y b hx;obtain⟨q1,s⟩:=yJ _ _ _ b r;obtain⟨k,gk,bj,nk,ek,fk,Mz,Q,hm⟩:=a9;by_cases AZ:k=id
   ·subst AZ;rw[bY]at hm;injection hm with hm;injection hm with h1 h2;exact s h1.symm
   ·rw[G k AZ (I Q)]at Q;rw[dH μ _ AZ]at hm;exact hc.ok.hv b ⟨k,gk,bj,nk,ek,fk,Mz,Q,hm⟩ _ _ _ r
  ·obtain⟨k1,N,O,r,c0⟩:=fx j x y b hx;obtain⟨k2,j1,x1,bo,c1⟩:=fx j' x' y' b wh;obtain⟨r1,K,r3⟩:=hc.ok.hh b _ _ _ _ _ _ r bo;subst r1;subst K;rcases c0 with⟨a1,a2,a3⟩ | ⟨a1,a2,a3,a4⟩ | ⟨a1,a2,a3,a4⟩<;>rcases c1 with⟨d1,d2,d3⟩ | ⟨d1,d2,d3,d4⟩ | ⟨d1,d2,d3,d4⟩<;>refine⟨?_,?_,r3⟩<;>omega
  ·rcases mi.own b Ck with h1 | h1
   ·exact hc.ok.apart b h1 S4
   ·have:=hc.ok.slt b S4;omega
  ·rcases Ck with⟨j,A,B,C,D,E,rD,hj,hm⟩ | ⟨j,x,y,hx⟩;rotate_left
   ·obtain⟨_,N,O,r,_⟩:=fx j x y b hx;exact aRx (hc.ok.lt b (.inr ⟨_,_,_,r⟩)) Ax
   by_cases a:j=id
   ·subst a;rw[bY]at hm;injection hm with hm;injection hm with h1 h2;subst h1;exact a8
   ·rw[G j a (I hj)]at hj;rw[dH μ _ a]at hm;exact aRx (hc.ok.lt b (.inl ⟨j,A,B,C,D,E,rD,hj,hm⟩)) Ax
  ·intro i j gi VA ni ei fi A B C D E b o o' hi hj oF oa;by_cases Vu:i=id
   ·by_cases a:j=id
    ·rw[Vu,a]
    ·subst Vu;rw[bY]at oF;injection oF with oF;injection oF with h1 h2;subst h1;rw[G j a (I hj)]at hj;rw[dH μ _ a]at oa;rcases m with m | ⟨sH,CU,Z,_⟩
     ·have:=hc.ok.lt _ (.inl ⟨j,A,B,C,D,E,o',hj,oa⟩);omega
     ·exact hc.ok.inj i j _ _ _ _ _ _ _ _ _ _ _ _ _ hh hj Z oa
   ·rw[G i Vu (I hi)]at hi;rw[dH μ _ Vu]at oF;by_cases a:j=id
    ·subst a;rw[bY]at oa;injection oa with oa;injection oa with h1 h2;subst h1;rcases m with m | ⟨sH,CU,Z,_⟩
     ·have:=hc.ok.lt _ (.inl ⟨i,gi,VA,ni,ei,fi,o,hi,oF⟩);omega
     ·exact hc.ok.inj i j _ _ _ _ _ _ _ _ _ _ _ _ _ hi hh oF Z
    ·rw[G j a (I hj)]at hj;rw[dH μ _ a]at oa;exact aUq
end
section
variable {P:Program}{T:ru}{μ:Mu}{h:List ao}{S:Nat->Prop}{w:World}
theorem yM (hc:Core μ h S w) (id g d sz n:Nat) (e:TypeId) (f k:Nat->List PV) (hh:h[id]? =some (ao.row g sz n e f)) (u:μ id=none) (hg:g<d):
  Fr μ h S w μ (h.set id (.row d sz 0 e k)) S w/\Core μ (h.set id (.row d sz 0 e k)) S w:=by
 have hid:id<h.length:=(abF.1 hh).1;have E:(h.set id (ao.row d sz 0 e k))[id]? =some (ao.row d sz 0 e k):=by simp [hid]
 have l:∀j,j≠id->(h.set id (ao.row d sz 0 e k))[j]? =h[j]?:=λj hj=>by rw[aRB (aSA hj)]
 have I:∀b,Hx μ (h.set id (ao.row d sz 0 e k)) b->Hx μ h b:=λb a=>by
  obtain⟨j,m,q,r,s,t,K,hj,hm⟩:=a;by_cases c:j=id
  ·subst c;rw[u]at hm;cases hm
  ·rw[l j c]at hj;exact⟨j,m,q,r,s,t,K,hj,hm⟩
 have v:∀j x y b,eR (h.set id (ao.row d sz 0 e k)) j x y b->eR h j x y b:=λj x y b ⟨m,q,r,s,t,Q,R,e',T,U,q1,F,L,M⟩=>by
  by_cases c:j=id
  ·subst c;rw[E]at q1;injection q1 with q1;injection q1 with A e2 B C D;omega
  ·rw[l j c]at q1;exact⟨_,_,_,_,_,_,_,_,_,_,q1,F,L,M⟩
 have G:∀b,dL μ (h.set id (ao.row d sz 0 e k)) b->dL μ h b:=λb a=>by
  rcases a with a | ⟨x,y,z,a⟩
  ·exact .inl (I b a)
  ·exact .inr ⟨x,y,z,v _ _ _ _ a⟩
 have J:Fr μ h S w μ (h.set id (.row d sz 0 e k)) S w:=by
  refine⟨by simp,λ_ _ _=>rfl,λ_ a=>a,λ_ a=>.inl a,λb a=>.inl (G b a),Of _,rfl,rfl,rfl,λj m q r s t hj=>?_,λj hj=>?_,λ_ _ _ N=>N,λj m q r s t b base hj hm H=>⟨H,.inr ⟨⟨_,_,_,_,_,(l j (by rintro rfl;rw[u]at hm;cases hm)).trans hj⟩,hm⟩⟩,λ_ _ _ _ _ H=>H⟩
  ·by_cases c:j=id
   ·subst c;rw[hh]at hj;injection hj with hj;injection hj with A e2 B C D;subst A e2 B C D;rw[E];exact⟨by omega,λhe=>absurd he aUE⟩
   ·rw[l j c,hj];exact aUB
  ·have c:j≠id:=by rintro rfl;rw[hh]at hj;cases hj
   rw[l j c];exact hj
 refine⟨J,⟨λj m q r s t hj=>?_,⟨λb a=>hc.ok.apart b (G b a),λb a=>hc.ok.lt b (G b a),hc.ok.slt,?_,hc.ok.known,λb a x y z hx=>hc.ok.hv b (I b a) x y z (v _ _ _ _ hx),λb _ _ _ _ _ _ hx hy=>hc.ok.hh b _ _ _ _ _ _ (v _ _ _ _ hx) (v _ _ _ _ hy)⟩⟩⟩
 ·by_cases c:j=id
  ·subst c;rw[E]at hj;injection hj with hj;injection hj with A e2 B C D;subst A e2 B C D;refine⟨λi hi=>absurd hi aUE,?_⟩;rw[u]
  ·rw[l j c]at hj;obtain⟨h1,h2⟩:=hc.heap j m q r s t hj;refine⟨h1,?_⟩;cases hm:μ j with
   | none=>rw[hm]at h2;exact h2
   | some p=>
    obtain⟨b,base⟩:=p;rw[hm]at h2;obtain⟨o,q1,F⟩:=h2;exact⟨o,q1,F.mono (λ_ _ _ _ _ _ O=>O.fr J hc.ok (λ_ _ _ _ _ _ _ _=>rfl))⟩
 ·intro i j V W X Y Z m q r s t b o o' hi hj oF oa;have P:i≠id:=by rintro rfl;rw[u]at oF;cases oF
  have c:j≠id:=by rintro rfl;rw[u]at oa;cases oa
  rw[l i P]at hi;rw[l j c]at hj;exact aUq
variable {a:Act}{env:Env}{K:PV->List ao->Prop}{dst:Option Tmp}{ty:TypeId}{pos:String}{after:Array Edge}{guard:Option (Nat×Bool)}
theorem rK (z:Array Value) (n:Nat):(Builtin.zeroCells z n).size=n*z.size:=by simp [Builtin.zeroCells]
theorem kG {s x:Operand} {t tx:TypeId} {b c d:Value} {w':World} (hs:a.eval s=b) (hx:a.eval x=c) (e:(Builtin.append_ #[t,tx] ty #[b,c]).run P w=.ok d w'):
  (execOp a.eval ⟨dst,.call ⟨.builtin .append,#[s,x],#[t,tx]⟩,ty,pos,after,guard⟩).run P w=.ok (.value d) w':=by
 simp only[execOp,resolve,invoke,builtin,Sem.run_bind,Sem.run_pure,Result.andThen_ok,aTm,aRD,aRX,hs,hx,e]
theorem E5 {sz l m:Nat} {f q:Nat->List PV} {a news rest:Array Value} (ho:a.size=l*sz) (k:news.size=m*sz)
  (h1:∀(i j:Nat) (pv:PV),i<l->(f i)[j]? =some pv->∃u,a[i*sz+j]? =some u/\qn μ h S w pv u)
  (h2:∀(i j:Nat) (pv:PV),i<m->(q i)[j]? =some pv->∃u,news[i*sz+j]? =some u/\qn μ h S w pv u)
  (g:∀i,i<l->(f i).length=sz) (n:∀i,i<m->(q i).length=sz):
  ∀(i j:Nat) (pv:PV),i<l+m->(bif Nat.blt i l then f i else q (i - l))[j]? =some pv->∃u,(a++news++rest)[i*sz+j]? =some u/\qn μ h S w pv u:=by
 intro i j pv hi hj;by_cases b:i<l
 ·have c:Nat.blt i l=true:=by simpa using b
  rw[c]at hj;simp only[aRY]at hj;obtain⟨u,q1,d⟩:=h1 i j pv b hj;have e:i*sz+j<a.size:=(aRa.1 q1).1;exact⟨u,by rw[aSi aUP,aSi e];exact q1,d⟩
 ·have c:Nat.blt i l=false:=by
   cases hh:Nat.blt i l with
   | true=>exact(b aVw).elim
   | false=>rfl
  rw[c]at hj;simp only[aRR]at hj;obtain⟨u,q1,d⟩:=h2 (i - l) j pv aUE hj;have e:(i - l)*sz+j<news.size:=(aRa.1 q1).1;have hmul:i*sz=l*sz+(i - l)*sz:=by rw[<-aRt];congr 1;omega
  refine⟨u,?_,d⟩;rw[aSi aUP,Array.getElem?_append_right aUE,<-q1];congr 1;omega
theorem M7 {sz l m:Nat} {f q:Nat->List PV} (a:∀i,i<l->(f i).length=sz) (d:∀i,i<m->(q i).length=sz):∀i,i<l+m->(bif Nat.blt i l then f i else q (i - l)).length=sz:=by
 intro i hi;by_cases b:i<l
 ·have c:Nat.blt i l=true:=by simpa using b
  rw[c];exact a i b
 ·have c:Nat.blt i l=false:=by
   cases hh:Nat.blt i l with
   | true=>exact(b aVw).elim
   | false=>rfl
  rw[c];exact d _ aUE
theorem BO (w:World) (o:Obj):dt w (w.drew.alloc o):=(dt.drew w).trans (pV w.drew o)
theorem M8 (v:fL P T) (hc:Core μ h S w) (t tx e sz bytes:Nat) (zero:List PV) (d:TypeDesc) (y:T.get t=.slice e sz bytes zero) (z:P.underlying tx=some d) (hd:(∃e',d=.slice e')\/d=.string)
  (s x:Operand) (hs:a.eval s=.slice none 0 0) (m:Nat) (g:Nat->List PV) (F:Src P μ h S w (a.eval x) sz m g) (b:∀(i j:Nat) (pv:PV),i<m->(g i)[j]? =some pv->eH pv=false) (G:m*bytes<=140737488355328) (A:K (.own h.length 0 0 m) (h++[.row 0 sz m e g])):
  jl P ⟨dst,.call ⟨.builtin .append,#[s,x],#[t,tx]⟩,ty,pos,after,guard⟩ a μ h S w K:=by
 obtain⟨hu,U,inf,B,C,H,k,I,l,J,L⟩:=v.slice _ _ _ _ _ y;have n:=v.bytes _ _ _ _ _ y;subst H k;obtain⟨D,news,q1,M,V,o⟩:=F;rcases aSq m with h0 | h0
 ·subst h0;have N:news=#[]:=aSr aVv;subst N;obtain⟨r1,p⟩:=o w (dt.refl w);have f:=ma (P:=P) (w:=w) t tx ty e inf d hu z hd C none 0 0 (a.eval x) 0 #[] w r1 p (Of _) rfl;obtain⟨q,r⟩:=rE (w1:=w) hc inf.size 0 e g none rfl (dt.refl w) D b;refine jl.kr (kG hs rfl f) A ?_ r q;show bX _ _ _ _ _ _ _ _;unfold bX;rw[aRv (Of _),aSz];refine⟨⟨_,_,_,rfl⟩,Of _,λ_=>⟨by omega,?_⟩⟩;rw[bY]
 ·obtain⟨r1,_⟩:=o w (dt.refl w);obtain⟨_,p⟩:=o w.drew (dt.drew w);have f:=qq (P:=P) (w:=w) t tx ty e inf B d hu z hd C I none 0 0 (a.eval x) m #[] news r1 rfl p aUE n (by rw[aRf];exact G);rw[aRf]at f
  obtain⟨q,r⟩:=rE (w1:=w.drew.alloc (.cells (#[]++news++Builtin.zeroCells B.cells (grownCap w m 0 e - m)) e)) hc inf.size m e g (some (w.heap.size,0))
   ⟨Of _,_,heap_alloc_new w.drew _,by simp [q1],λi j pv hi hj=>by
    obtain⟨u,E,O⟩:=M i j pv hi hj;have Q:=(aRa.1 E).1;exact⟨u,by rw[aSS,aRf,aSi Q];exact E,O.c⟩⟩ (BO w _) D b
  refine jl.kr (kG hs rfl f) A ?_ r q;show bX _ _ _ _ _ _ _ _;unfold bX;rw[aRv (Of _),aSz];refine⟨⟨_,_,_,rfl⟩,Of _,λ_=>⟨by omega,?_⟩⟩;rw[bY];have R:=grownCap_ge w m 0 e;refine⟨_,grownCap w m 0 e,rfl,R,λ_=>by simp,_,e,_,heap_alloc_new w.drew _,?_⟩;simp only[aSJ,rK,l,q1];simp only[aRf];have:grownCap w m 0 e*inf.size=m*inf.size+(grownCap w m 0 e - m)*inf.size:=by rw[<-aRt];congr 1;omega
  simp;omega
theorem Q9 (hT:fL P T) (hc:Core μ h S w) (t tx e sz bytes:Nat) (zero:List PV) (d:TypeDesc) (kA:T.get t=.slice e sz bytes zero) (U:P.underlying tx=some d) (hd:(∃e',d=.slice e')\/d=.string)
  (s x:Operand) (id g off len n:Nat) (f:Nat->List PV) (hh:h[id]? =some (ao.row g sz n e f)) (hs:cE μ h S w (.own id g off len) (a.eval s)) (m:Nat) (q:Nat->List PV) (CZ:Src P μ h S w (a.eval x) sz m q) (V:∀(i j:Nat) (pv:PV),i<m->(q i)[j]? =some pv->eH pv=false)
  (E:(len+m)*bytes<=140737488355328)
  (W:K (.own id (g+1) 0 (len+m)) (h.set id (.row (g+1) sz (len+m) e (λi=>bif Nat.blt i len then f (off+i)else q (i - len))))):
  jl P ⟨dst,.call ⟨.builtin .append,#[s,x],#[t,tx]⟩,ty,pos,after,guard⟩ a μ h S w K:=by
 obtain⟨hu,kS,inf,X,Y,sc,Z,hz,aa,a8,a9⟩:=hT.slice _ _ _ _ _ kA;have ag:=hT.bytes _ _ _ _ _ kA;subst sc Z;have hid:id<h.length:=(abF.1 hh).1;obtain⟨F,zu,o1,o2,o3,o4⟩:=qP (P:=P) hc id g off len inf.size n e f hh _ hs kS;obtain⟨zK,news,q1,q2,q3,q4⟩:=CZ;have y:=M7 F zK
 have G:∀{sl:Nat},off+sl<=n->∀(i j cV n':Nat) (e':TypeId) (f':Nat->List PV) (F':Nat->Prop),i<sl+m->(bif Nat.blt i sl then f (off+i)else q (i - sl))[j]? =some (.fG cV n' e' f' F')->off+i<n/\(f (off+i))[j]? =some (.fG cV n' e' f' F'):=λ{sl} bj i j cV n' e' f' F' hi hj=>by
  by_cases C:i<sl
  ·have E:Nat.blt i sl=true:=by simpa using C
   rw[E]at hj;exact⟨by omega,hj⟩
  ·have E:Nat.blt i sl=false:=by
    cases hh:Nat.blt i sl with
    | true=>exact(C aVw).elim
    | false=>rfl
   rw[E]at hj;have:=V (i - sl) j _ aUE hj;cases this
 have c:=hs.qJ;unfold bX at c;rw[hh]at c;obtain⟨⟨sa,sl,l,z⟩,_,c⟩:=c;obtain⟨hle,c⟩:=c rfl
 have a1:sl=len:=by
  obtain⟨v,_⟩:=o4 w (dt.refl w);rw[z]at v;simp [Builtin.lenOf]at v;exact v
 subst a1;obtain⟨hl,bB⟩:=hc.heap id g _ n e f hh
 have QD:∀b base,μ id=some (b,base)->¬th w b:=λb base A=>by
  rw[A]at c;obtain⟨_,_,_,_,_,M⟩:=c;exact M.QJ
 by_cases N:sl+m<=l
 ·-- in place
  obtain⟨r1,O⟩:=q4 w (dt.refl w);cases A:μ id with
  | none=>
   rw[A]at c bB;rw[z]at c;injection c with v e2 e3;subst v e2 e3;have hm:m=0:=by omega
   subst hm;have hn:news=#[]:=aSr aVv;subst hn;have H:=ma (P:=P) (w:=w) t tx ty e inf d hu U hd Y none 0 0 (a.eval x) 0 #[] w r1 O (Of _) rfl;obtain⟨I,J⟩:=yM hc id g (g+1) inf.size n e f (λi=>bif Nat.blt i 0 then f (off+i)else q (i - 0)) hh A (aRh g);refine jl.kr (kG z rfl H) W ?_ J I;show bX _ _ _ _ _ _ _ _;unfold bX;rw[aSc hid];refine⟨⟨_,_,_,rfl⟩,Of _,λ_=>⟨by omega,?_⟩⟩;rw[A]
  | some p=>
   obtain⟨b,base⟩:=p;rw[A]at c bB;obtain⟨Q,cap,hv,bo,R,M⟩:=c;rw[z]at hv;injection hv with v e2 e3;subst v e3;obtain⟨cur,D,yo,mB⟩:=dA.cells M bB
   have a2:base+(off+l)*inf.size<=cur.size:=by
    obtain⟨CU,e',z',o,L⟩:=M;rw[D]at o;injection o with o;injection o with o _ _;subst o;exact L
   rw[aRt]at a2
   have key:∃r:Array Value,r.size=cur.size/\(match(some Q:Option Addr)with | some a=>(storeCells (a.add (sl*inf.size)) news.toList).run P w=.ok () (w.setRow b r) | none=>w.setRow b r=w)/\
     ∀k,r[k]? =if base+off*inf.size+sl*inf.size<=k/\k<base+off*inf.size+sl*inf.size+m*inf.size then news[k - (base+off*inf.size+sl*inf.size)]? else cur[k]?:=by
    rcases aSq m with h0 | h0
    ·subst h0;have hn:news=#[]:=aSr aVv;subst hn;refine⟨cur,rfl,?_,λk=>by rw[As aUE]⟩;show(storeCells (Q.add (sl*inf.size)) []).run P w=.ok () (w.setRow b cur);rw[setRow_self w b cur e (0,0) D];rfl
    ·have R:=R aUE;subst R;have hmul:(sl+m)*inf.size<=l*inf.size:=aRu _ N;rw[aRt]at hmul;have Bn:=run_storeCells_at P b (base+off*inf.size+sl*inf.size) e news.toList 0 cur w D aUP q3;rw[aSo]at Bn;refine⟨(cur.toList.take (base+off*inf.size+sl*inf.size)++news.toList++cur.toList.drop (base+off*inf.size+sl*inf.size+news.toList.length)).toArray,?_,?_,λk=>?_⟩
     ·simp;omega
     ·show(storeCells ((⟨b,base+off*inf.size,none⟩:Addr).add (sl*inf.size)) news.toList).run P w=.ok () _;rw[Addr.add_lit];exact Bn
     ·have a3:=zt cur.toList news.toList (base+off*inf.size+sl*inf.size) k aUP;rw[aTa,a3];simp only[aRP,aSy,q1]
   obtain⟨r,c1,c2,c3⟩:=key;have H:=ma (P:=P) (w:=w) t tx ty e inf d hu U hd Y (some Q) sl l (a.eval x) m news (w.setRow b r) r1 O N c2;have hmul:(sl+m)*inf.size<=l*inf.size:=aRu _ N;rw[aRt]at hmul
   have pU:=EL (w1:=w.setRow b r) hc id g (g+1) inf.size n (sl+m) e f (λi=>bif Nat.blt i sl then f (off+i)else q (i - sl)) hh b (base+off*inf.size) r aUE (λhe=>absurd he aUE)
    (.inr ⟨base,cur,A,D,c1.symm⟩) (setRow_heap w b cur _ e _ D) (by rw[c1,aRt];omega) (λb' _ qp=>setRow_other w b b' _ qp) aUG rfl rfl rfl y QD
    (λi j pv hi hj=>by
     have QE:j<inf.size:=by rw[<-y i hi];exact(abF.1 hj).1
     rw[c3];by_cases C:i<sl
     ·have B:Nat.blt i sl=true:=by simpa using C
      rw[B]at hj;simp only[aRY]at hj;have oF:(i+1)*inf.size<=sl*inf.size:=aRu _ C;rw[aRt]at oF;rw[As aUE];obtain⟨u,o,L⟩:=mB (off+i) j pv aUE hj;refine⟨u,?_,L⟩;rw[<-o];congr 1;rw[aRt];omega
     ·have B:Nat.blt i sl=false:=by
       cases a4:Nat.blt i sl with
       | true=>exact(C (by simpa using a4)).elim
       | false=>rfl
      rw[B]at hj;simp only[aRR]at hj;have v:i*inf.size=sl*inf.size+(i - sl)*inf.size:=by rw[<-aRt];congr 1;omega
      have e2:(i - sl+1)*inf.size<=m*inf.size:=aRu _ aUE;rw[aRt]at e2;rw[At aUE];obtain⟨u,o,L⟩:=q2 (i - sl) j pv aUE hj;exact⟨u,by rw[<-o];congr 1;omega,L⟩) off (G aUE)
   obtain⟨I,J⟩:=pU;refine jl.kr (kG z rfl H) W ?_ J I;show bX _ _ _ _ _ _ _ _;unfold bX;rw[aSc hid];refine⟨⟨_,_,_,rfl⟩,Of _,λ_=>⟨by omega,?_⟩⟩;rw[bY];refine⟨Q,l,rfl,N,λa5=>?_,r,e,_,setRow_heap w b cur _ e _ D,?_⟩
   ·rw[R a5,Nat.zero_mul,aSo]
   ·rw[c1,aRf];omega
 ·-- it a6
  obtain⟨r1,_⟩:=q4 w (dt.refl w);obtain⟨_,O⟩:=q4 w.drew (dt.drew w);obtain⟨_,s2⟩:=o4 w.drew (dt.drew w);rw[z]at s2;have H:=qq (P:=P) (w:=w) t tx ty e inf X d hu U hd Y hz sa sl l (a.eval x) m zu news r1 s2 O aUE ag E;have Kv:=grownCap_ge w (sl+m) l e
  have pU:=EL (w1:=w.drew.alloc (.cells (zu++news++Builtin.zeroCells X.cells (grownCap w (sl+m) l e - (sl+m))) e)) hc id g (g+1) inf.size n (sl+m) e f (λi=>bif Nat.blt i sl then f (off+i)else q (i - sl)) hh
   w.heap.size 0 (zu++news++Builtin.zeroCells X.cells (grownCap w (sl+m) l e - (sl+m))) aUE (λhe=>absurd he aUE) (.inl (Of _)) (heap_alloc_new w.drew _)
   (by simp only[aSJ,o1,q1,aRt];omega) (λb bg _=>heap_alloc_old w.drew _ bg) aUG rfl rfl rfl y QD
   (λi j pv hi hj=>by
    rw[aRf];exact E5 o1 q1 o2 q2 F zK i j pv hi hj) off (G aUE)
  obtain⟨I,J⟩:=pU;refine jl.kr (kG z rfl H) W ?_ J I;show bX _ _ _ _ _ _ _ _;unfold bX;rw[aSc hid];refine⟨⟨_,_,_,rfl⟩,Of _,λ_=>⟨by omega,?_⟩⟩;rw[bY];refine⟨_,grownCap w (sl+m) l e,rfl,Kv,λ_=>by simp,_,e,_,heap_alloc_new w.drew _,?_⟩;simp only[aSJ,rK,aa,o1,q1,aRf];have:grownCap w (sl+m) l e*inf.size=(sl+m)*inf.size+(grownCap w (sl+m) l e - (sl+m))*inf.size:=by rw[<-aRt];congr 1;omega
  rw[aRt]at this;omega
theorem jl.agX {o:Oper} {a:Act} {K:PV->List ao->Prop} {μ1:Mu} {h1:List ao} (hf:Fr μ h S w μ1 h1 S w) (hm:uY μ h S w) (b:jl P o a μ1 h1 S w K):jl P o a μ h S w K:=by
 intro next Q c
 exact b next Q λv val h' μ' S' w' d hv hc e=>c v val h' μ' S' w' d hv hc (hf.trans e)
theorem Cp (hT:fL P T) (hc:Core μ h S w) (t tx e sz bytes:Nat) (zero:List PV) (d:TypeDesc) (kA:T.get t=.slice e sz bytes zero) (wh:P.underlying tx=some d) (hd:(∃e',d=.slice e')\/d=.string)
  (s x:Operand) (id g off len n:Nat) (f:Nat->List PV) (hh:h[id]? =some (ao.row g sz n e f)) (hs:cE μ h S w (.own id g off len) (a.eval s)) (G:Nat) (z:G≠id) (g2 n2:Nat) (v:TypeId) (o:Nat->List PV) (q m:Nat) (M6:h[G]? =some (ao.row g2 sz n2 v o)) (GG:q+m<=n2) (CZ:Src P μ h S w (a.eval x) sz m (λi=>o (q+i)))
  (I:(len+m)*bytes<=140737488355328)
  (hK:K (.own id (g+1) 0 (len+m)) ((h.set id (.row (g+1) sz (len+m) e (λi=>bif Nat.blt i len then f (off+i)else o (q+(i - len))))).set G .dead)):
  jl P ⟨dst,.call ⟨.builtin .append,#[s,x],#[t,tx]⟩,ty,pos,after,guard⟩ a μ h S w K:=by
 obtain⟨hu,kS,inf,zv,oC,sc,aa,hz,ag,br,bs⟩:=hT.slice _ _ _ _ _ kA;have a1:=hT.bytes _ _ _ _ _ kA;subst sc aa;have hid:id<h.length:=(abF.1 hh).1;obtain⟨J,zu,o1,o2,o3,o4⟩:=qP (P:=P) hc id g off len inf.size n e f hh _ hs kS;obtain⟨zK,news,q1,L,q3,q4⟩:=CZ;have B:=M7 J zK
 have M:∀{sl:Nat},off+sl<=n->∀(i j U V:Nat) (e':TypeId) (W:Nat->List PV) (X:Nat->Prop),i<sl+m->(bif Nat.blt i sl then f (off+i)else o (q+(i - sl)))[j]? =some (.fG U V e' W X)->(i<sl/\off+i<n/\(f (off+i))[j]? =some (.fG U V e' W X))\/(sl<=i/\q+(i - sl)<n2/\(o (q+(i - sl)))[j]? =some (.fG U V e' W X)):=λ{sl} bt i j U V e' W X hi hj=>by
  by_cases C:i<sl
  ·have I:Nat.blt i sl=true:=by simpa using C
   rw[I]at hj;exact .inl ⟨C,by omega,hj⟩
  ·have I:Nat.blt i sl=false:=by
    cases hh:Nat.blt i sl with
    | true=>exact(C aVw).elim
    | false=>rfl
   rw[I]at hj;exact .inr ⟨by omega,by omega,hj⟩
 have c:=hs.qJ;unfold bX at c;rw[hh]at c;obtain⟨⟨sa,sl,l,D⟩,_,c⟩:=c;obtain⟨hle,c⟩:=c rfl
 have a2:sl=len:=by
  obtain⟨A,_⟩:=o4 w (dt.refl w);rw[D]at A;simp [Builtin.lenOf]at A;exact A
 subst a2;obtain⟨hl,bB⟩:=hc.heap id g _ n e f hh
 have QD:∀b base,μ id=some (b,base)->¬th w b:=λb base E=>by
  rw[E]at c;obtain⟨_,_,_,_,_,Y⟩:=c;exact Y.QJ
 by_cases Z:sl+m<=l
 ·-- in place
  obtain⟨r1,r2⟩:=q4 w (dt.refl w);cases E:μ id with
  | none=>
   rw[E]at c bB;rw[D]at c;injection c with A e2 e3;subst A e2 e3;have hm:m=0:=by omega
   subst hm;have hn:news=#[]:=aSr aVv;subst hn;have N:=ma (P:=P) (w:=w) t tx ty e inf d hu wh hd oC none 0 0 (a.eval x) 0 #[] w r1 r2 (Of _) rfl;obtain⟨a3,a4⟩:=yM hc id g (g+1) inf.size n e f (λi=>bif Nat.blt i 0 then f (off+i)else o (q+(i - 0))) hh E (aRh g);obtain⟨a5,O⟩:=Vf a4 G g2 inf.size n2 v o (by rw[aRB (aSA z)];exact M6);have Q:=a3.trans a5;refine jl.kr (kG D rfl N) hK ?_ O Q;show bX _ _ _ _ _ _ _ _;unfold bX;rw[aRB z,aSc hid];refine⟨⟨_,_,_,rfl⟩,Of _,λ_=>⟨by omega,?_⟩⟩;rw[E]
  | some p=>
   obtain⟨b,base⟩:=p;rw[E]at c bB;obtain⟨ad,cap,hv,bw,zL,Y⟩:=c;rw[D]at hv;injection hv with A e2 e3;subst A e3;obtain⟨cur,H,yo,mB⟩:=dA.cells Y bB
   have a6:base+(off+l)*inf.size<=cur.size:=by
    obtain⟨CU,e',z',r,R⟩:=Y;rw[H]at r;injection r with r;injection r with r _ _;subst r;exact R
   rw[aRt]at a6
   have key:∃y:Array Value,y.size=cur.size/\(match(some ad:Option Addr)with | some a=>(storeCells (a.add (sl*inf.size)) news.toList).run P w=.ok () (w.setRow b y) | none=>w.setRow b y=w)/\
     ∀k,y[k]? =if base+off*inf.size+sl*inf.size<=k/\k<base+off*inf.size+sl*inf.size+m*inf.size then news[k - (base+off*inf.size+sl*inf.size)]? else cur[k]?:=by
    rcases aSq m with h0 | h0
    ·subst h0;have hn:news=#[]:=aSr aVv;subst hn;refine⟨cur,rfl,?_,λk=>by rw[As aUE]⟩;show(storeCells (ad.add (sl*inf.size)) []).run P w=.ok () (w.setRow b cur);rw[setRow_self w b cur e (0,0) H];rfl
    ·have zL:=zL aUE;subst zL;have hmul:(sl+m)*inf.size<=l*inf.size:=aRu _ Z;rw[aRt]at hmul;have Bn:=run_storeCells_at P b (base+off*inf.size+sl*inf.size) e news.toList 0 cur w H aUP q3;rw[aSo]at Bn;refine⟨(cur.toList.take (base+off*inf.size+sl*inf.size)++news.toList++cur.toList.drop (base+off*inf.size+sl*inf.size+news.toList.length)).toArray,?_,?_,λk=>?_⟩
     ·simp;omega
     ·show(storeCells ((⟨b,base+off*inf.size,none⟩:Addr).add (sl*inf.size)) news.toList).run P w=.ok () _;rw[Addr.add_lit];exact Bn
     ·have a8:=zt cur.toList news.toList (base+off*inf.size+sl*inf.size) k aUP;rw[aTa,a8];simp only[aRP,aSy,q1]
   obtain⟨y,c1,c2,c3⟩:=key;have N:=ma (P:=P) (w:=w) t tx ty e inf d hu wh hd oC (some ad) sl l (a.eval x) m news (w.setRow b y) r1 r2 Z c2;have hmul:(sl+m)*inf.size<=l*inf.size:=aRu _ Z;rw[aRt]at hmul
   have pU:=HI (w1:=w.setRow b y) hc id G z g2 inf.size n2 v o M6 sl g (g+1) inf.size n (sl+m) e f (λi=>bif Nat.blt i sl then f (off+i)else o (q+(i - sl))) hh b (base+off*inf.size) y aUE (λhe=>absurd he aUE)
    (.inr ⟨base,cur,E,H,c1.symm⟩) (setRow_heap w b cur _ e _ H) (by rw[c1,aRt];omega) (λb' _ z=>setRow_other w b b' _ z) aUG rfl rfl rfl B QD
    (λi j pv hi hj=>by
     have QE:j<inf.size:=by rw[<-B i hi];exact(abF.1 hj).1
     rw[c3];by_cases C:i<sl
     ·have F:Nat.blt i sl=true:=by simpa using C
      rw[F]at hj;simp only[aRY]at hj;have oF:(i+1)*inf.size<=sl*inf.size:=aRu _ C;rw[aRt]at oF;rw[As aUE];obtain⟨u,r,R⟩:=mB (off+i) j pv aUE hj;refine⟨u,?_,R⟩;rw[<-r];congr 1;rw[aRt];omega
     ·have F:Nat.blt i sl=false:=by
       cases a9:Nat.blt i sl with
       | true=>exact(C (by simpa using a9)).elim
       | false=>rfl
      rw[F]at hj;simp only[aRR]at hj;have A:i*inf.size=sl*inf.size+(i - sl)*inf.size:=by rw[<-aRt];congr 1;omega
      have e2:(i - sl+1)*inf.size<=m*inf.size:=aRu _ aUE;rw[aRt]at e2;rw[At aUE];obtain⟨u,r,R⟩:=L (i - sl) j pv aUE hj;exact⟨u,by rw[<-r];congr 1;omega,R⟩) off q (M aUE)
   obtain⟨Q,O⟩:=pU;refine jl.kr (kG D rfl N) hK ?_ O Q;show bX _ _ _ _ _ _ _ _;unfold bX;rw[aRB z,aSc hid];refine⟨⟨_,_,_,rfl⟩,Of _,λ_=>⟨by omega,?_⟩⟩;rw[bY];refine⟨ad,l,rfl,Z,λbj=>?_,y,e,_,setRow_heap w b cur _ e _ H,?_⟩
   ·rw[zL bj,Nat.zero_mul,aSo]
   ·rw[c1,aRf];omega
 ·-- it bo
  obtain⟨r1,_⟩:=q4 w (dt.refl w);obtain⟨_,r2⟩:=q4 w.drew (dt.drew w);obtain⟨_,s2⟩:=o4 w.drew (dt.drew w);rw[D]at s2;have N:=qq (P:=P) (w:=w) t tx ty e inf zv d hu wh hd oC hz sa sl l (a.eval x) m zu news r1 s2 r2 aUE a1 I;have Kv:=grownCap_ge w (sl+m) l e
  have pU:=HI (w1:=w.drew.alloc (.cells (zu++news++Builtin.zeroCells zv.cells (grownCap w (sl+m) l e - (sl+m))) e)) hc id G z g2 inf.size n2 v o M6 sl g (g+1) inf.size n (sl+m) e f (λi=>bif Nat.blt i sl then f (off+i)else o (q+(i - sl))) hh
   w.heap.size 0 (zu++news++Builtin.zeroCells zv.cells (grownCap w (sl+m) l e - (sl+m))) aUE (λhe=>absurd he aUE) (.inl (Of _)) (heap_alloc_new w.drew _)
   (by simp only[aSJ,o1,q1,aRt];omega) (λb bg _=>heap_alloc_old w.drew _ bg) aUG rfl rfl rfl B QD
   (λi j pv hi hj=>by
    rw[aRf];exact E5 o1 q1 o2 L J zK i j pv hi hj) off q (M aUE)
  obtain⟨Q,O⟩:=pU;refine jl.kr (kG D rfl N) hK ?_ O Q;show bX _ _ _ _ _ _ _ _;unfold bX;rw[aRB z,aSc hid];refine⟨⟨_,_,_,rfl⟩,Of _,λ_=>⟨by omega,?_⟩⟩;rw[bY];refine⟨_,grownCap w (sl+m) l e,rfl,Kv,λ_=>by simp,_,e,_,heap_alloc_new w.drew _,?_⟩;simp only[aSJ,rK,ag,o1,q1,aRf];have:grownCap w (sl+m) l e*inf.size=(sl+m)*inf.size+(grownCap w (sl+m) l e - (sl+m))*inf.size:=by rw[<-aRt];congr 1;omega
  rw[aRt]at this;omega
theorem J4 (r:fL P T) (hc:Core μ h S w) (R:∀t,cE μ h S w (env t) (a.tmps.getD t undef)) (args:Array Operand) (ts:Array TypeId) (hp:pop P T (.call ⟨.builtin .append,args,ts⟩) env h K):
  jl P ⟨dst,.call ⟨.builtin .append,args,ts⟩,ty,pos,after,guard⟩ a μ h S w K:=by
 obtain⟨args⟩:=args;obtain⟨ts⟩:=ts;simp only[pop]at hp;split at hp
 ·rename_i s x t tx;have hs:=dG R s;have hx:=dG R x
  have main:∀(e sz bytes:Nat) (zero:List PV) (d:TypeDesc),T.get t=.slice e sz bytes zero->P.underlying tx=some d->((∃e',d=.slice e')\/d=.string)->Ra e sz bytes (ev env s) (ev env x) h K->
    jl P ⟨dst,.call ⟨.builtin .append,#[s,x],#[t,tx]⟩,ty,pos,after,guard⟩ a μ h S w K:=by
   intro e sz bytes zero d c k hd hp;have C:=(r.slice _ _ _ _ _ c).2.1;cases hp with
   | move hp=>
    unfold Na at hp;split at hp
    ·rename_i l F m b hex;rw[b]at hs;rw[hex]at hx;split at hp
     ·rename_i u oh n2 e' q hg;obtain⟨rfl,hp⟩:=hp;replace hp:=cn hp;obtain⟨o,v,y⟩:=hp;obtain rfl:=amb o;have p:=gG hg;have G:l<h.length:=(abF.1 p).1;have B:=qP (P:=P) hc l u 0 m sz n2 e' q p _ hx C
      have H:0+m<=n2:=by
       have z:=hx.qJ;unfold bX at z;rw[p]at z;exact(z.2.2 rfl).1
      obtain⟨D,U⟩:=rE (w1:=w) hc sz 0 e (λ_=>[]) none rfl (dt.refl w) (λi hi=>absurd hi (aSk _)) (λi j pv hi=>absurd hi (aSk _));have V:(h++[ao.row 0 sz 0 e (λ_=>[])])[h.length]? =some (.row 0 sz 0 e (λ_=>[])):=by simp
      have E:(h++[ao.row 0 sz 0 e (λ_=>[])])[l]? =some (.row u sz n2 e' q):=by rw[aRJ G];exact p
      have X:cE (oE μ h.length none) (h++[ao.row 0 sz 0 e (λ_=>[])]) S w (.own h.length 0 0 0) (a.eval s):=by
       rw[hs.rz];show bX _ _ w h.length 0 0 0 _;unfold bX;rw[V,bY];exact⟨⟨_,_,_,rfl⟩,Of _,λ_=>⟨Of _,rfl⟩⟩
      have I:=cE.fr D hc.ok hx;have J:=qP (P:=P) U l u 0 m sz n2 e' q E _ I C
      have key:=Cp (dst:=dst) (pos:=pos) (after:=after) (guard:=guard) (ty:=ty) (K:=K) r U t tx e sz bytes zero d c k hd s x h.length 0 0 0 0 (λ_=>[]) V X l aUE u n2 e' q 0 m E H J (by rw[aRf];exact v) (by
       have L:(λi=>bif Nat.blt i 0 then([]:List PV)else q (0+(i - 0)))=q:=by funext i;rw[aRf];rfl
       rw[L,aRf m];exact y)
      exact jl.agX D hc.ok key
     ·exact aUd
    ·rename_i id gen len l F m b hex;rw[b]at hs;rw[hex]at hx;split at hp
     ·rename_i g W n e' f hg;split at hp
      ·rename_i u oh n2 e2 q M;obtain⟨rfl,rfl,hp⟩:=hp;replace hp:=cn hp;obtain⟨o,v,y⟩:=hp;simp only[No,aSb]at o;obtain⟨h1,h2,Y,Z⟩:=o;obtain rfl:=amb h1;obtain rfl:=amb h2;obtain rfl:=amb Y;have qp:l≠id:=Nat.ne_of_beq_eq_false Z;have p:=gG M
       have H:0+m<=n2:=by
        have z:=hx.qJ;unfold bX at z;rw[p]at z;exact(z.2.2 rfl).1
       have B:=qP (P:=P) hc l u 0 m sz n2 e2 q p _ hx C;refine Cp r hc t tx e sz bytes zero d c k hd s x id g 0 len n f (gG hg) hs l qp u n2 e2 q 0 m p H B v ?_;have L:(λi=>bif Nat.blt i len then f (0+i)else q (0+(i - len)))=Qa f len q:=by funext i;rw[aRf,aRf];rfl
       rw[L];exact y
      ·exact aUd
     ·exact aUd
    ·exact aUd
   | gx hp=>
   unfold xS at hp;split at hp
   ·rename_i b;rw[b]at hs;obtain⟨_,g,⟨v,m,f',rfl,N,y⟩,B,O⟩:=Hy (P:=P) hc _ _ hx sz C _ hp;exact jl.rows (M8 r hc t tx e sz bytes zero d c k hd s x hs.rz m g B O v ⟨_,fK.snoc _ _ _ _ _ _ _ N,y⟩)
   ·rename_i id gen off len b;rw[b]at hs;split at hp
    ·rename_i g W n e' f hg;obtain⟨rfl,hp⟩:=hp;replace hp:=cn hp;obtain⟨o,hp⟩:=hp;simp only[No]at o;obtain rfl:=amb o.1;obtain rfl:=amb o.2;obtain⟨m,q,⟨v,n',f',rfl,N,y⟩,B,Q⟩:=Hy (P:=P) hc _ _ hx sz C _ hp;exact jl.rows (Q9 r hc t tx e sz bytes zero d c k hd s x id g off len n f (gG hg) hs m q B Q v ⟨_,fK.set _ _ _ _ _ _ _ _ N,y⟩)
    ·exact aUd
   ·exact aUd
  split at hp
  ·rename_i e sz bytes zero e' W aa ad c A;exact main e sz bytes zero _ c (r.slice _ _ _ _ _ A).1 (.inl ⟨_,rfl⟩) hp
  ·rename_i e sz bytes zero c A;exact main e sz bytes zero _ c (r.str _ A) (.inr rfl) hp
  ·exact aUd
 ·exact aUd
theorem cE.agZ {pv:PV} {v:Value} (a:lE μ h S w pv v):cE μ h S w pv v:=by
 cases pv with
 | gJ b=>exact(show False from a).elim
 | _=>exact a
theorem Rb (hc:Core μ h S w) (n:∀t,cE μ h S w (env t) (a.tmps.getD t undef)) (i:Operand) (args:Array Operand) (ts:Array TypeId) (hp:pop P T (.call ⟨.value i,args,ts⟩) env h K):
  jl P ⟨dst,.call ⟨.value i,args,ts⟩,ty,pos,after,guard⟩ a μ h S w K:=by
 have l:=dG n i;simp only[pop]at hp;split at hp
 ·rename_i f d;rw[d]at l;replace hp:=cn hp;obtain⟨b,R,⟨⟨fn,c,g,o,q⟩,r⟩,s⟩:=hp;simp only[aRg]at b
  have y:=r w (args.map a.eval) μ S hc.heap hc.ok aUG (λj pv hj=>by
   rw[aRs]at hj;cases hx:args.toList[j]? with
   | none=>rw[hx]at hj;cases hj
   | some x=>
    rw[hx]at hj;injection hj with hj;subst hj;refine⟨a.eval x,by rw[aTf];simp only[aRP]at hx;rw[hx];rfl,?_⟩;have hv:=dG n x;have k:=b x (aRq hx);cases he:ev env x with
    | gJ J=>rw[he]at k;cases k
    | _=>rw[he]at hv;exact hv)
  intro next Q z
  have A:(execOp a.eval ⟨dst,.call ⟨.value i,args,ts⟩,ty,pos,after,guard⟩).run P w=.ok (.enter f (args.map a.eval)) w:=by
   simp only[execOp,resolve,l.ab8,Deferred.ofValue,invoke,callFunc,Sem.run_bind,Sem.run_pure,Result.andThen_ok,Array.append_empty,aSS];have B:¬fn.name= "runtime.NumGoroutine" :=by simpa using q
   simp [program,Sem.run,Result.andThen,g,B,o]
  unfold Oper.wp;rw[A];show Calls P f (args.map a.eval) w _;refine y.mono λe w' ⟨v,res,h',μ',S',he,C,hv,D,E,F⟩=>?_;subst he;exact z res v h' μ' S' w' (s res h' C) hv ⟨D,E⟩ F
 ·rename_i f dB d;rw[d]at l;replace hp:=cn hp;obtain⟨b,R,⟨⟨fn,c,g,o,q⟩,r⟩,s⟩:=hp;simp only[aRg]at b;obtain⟨vs,G,H,I⟩:=(show rF μ h w f dB (a.eval i)from l)
  have y:=r w (args.map a.eval++vs) μ S hc.heap hc.ok (by simp [H]) (λj pv hj=>by
   by_cases m:j<args.size
   ·rw[aRJ (by simpa using m),aRs]at hj;cases hx:args.toList[j]? with
    | none=>rw[hx]at hj;cases hj
    | some x=>
     rw[hx]at hj;injection hj with hj;subst hj;refine⟨a.eval x,by rw[aSi (by simpa using m),aTf];simp only[aRP]at hx;rw[hx];rfl,?_⟩;have hv:=dG n x;have k:=b x (aRq hx);cases he:ev env x with
     | gJ J=>rw[he]at k;cases k
     | _=>rw[he]at hv;exact hv
   ·rw[aRv (by simpa using Nat.le_of_not_lt m),aRs]at hj;simp only[aSp,aSy]at hj;cases hx:dB[j - args.size]? with
    | none=>rw[hx]at hj;cases hj
    | some p=>
     rw[hx]at hj;injection hj with hj;subst hj;obtain⟨u,q1,L⟩:=I _ p hx;exact⟨u,by rw[Array.getElem?_append_right (by simpa using Nat.le_of_not_lt m)];simpa using q1,L⟩)
  intro next Q z
  have A:(execOp a.eval ⟨dst,.call ⟨.value i,args,ts⟩,ty,pos,after,guard⟩).run P w=.ok (.enter f (args.map a.eval++vs)) w:=by
   simp only[execOp,resolve,G,Deferred.ofValue,invoke,callFunc,Sem.run_bind,Sem.run_pure,Result.andThen_ok,aSS];have B:¬fn.name= "runtime.NumGoroutine" :=by simpa using q
   simp [program,Sem.run,Result.andThen,g,B,o]
  unfold Oper.wp;rw[A];show Calls P f (args.map a.eval++vs) w _;refine y.mono λe w' ⟨v,res,h',μ',S',he,C,hv,D,E,F⟩=>?_;subst he;exact z res v h' μ' S' w' (s res h' C) hv ⟨D,E⟩ F
 ·exact aUd
theorem Vg {w1:World} (hc:Core μ h S w) (d:dt w w1) (b:Nat) (z:w.heap.size<=b) (A:b<w1.heap.size):Fr μ h S w μ h (λx=>S x\/x=b) w1/\Core μ h (λx=>S x\/x=b) w1:=by
 have f:Fr μ h S w μ h (λx=>S x\/x=b) w1:=by
  refine⟨Of _,λa e _=>d.blocks a e,λ_ hs=>.inl hs,λa e=>?_,λ_ ho=>.inl ho,d.size,d.os,d.tape,d.output,λj g l m n r hj=>?_,λ_ hd=>hd,λa k ho B=>?_,λj g l m n r a C hj hm s=>?_,λa j x y hx s=>let⟨t,D,q⟩:=s;⟨t,D,(d.blocks a (hc.ok.lt a (.inr ⟨j,x,y,hx⟩))).trans q⟩⟩
  ·rcases e with e | rfl
   ·exact .inl e
   ·exact .inr (.inr z)
  ·rw[hj];exact⟨Of _,λ_=>⟨rfl,rfl,rfl,rfl⟩⟩
  ·exact lZ.of_same (d.blocks a (hc.ok.lt a ho)) B
  ·obtain⟨es,c,q⟩:=s;exact⟨⟨es,c,(d.blocks a (hc.ok.lt a (.inl ⟨_,_,_,_,_,_,_,hj,hm⟩))).trans q⟩,.inr ⟨⟨_,_,_,_,_,hj⟩,hm⟩⟩
 refine⟨f,⟨λj g l m n r hj=>?_,⟨λa ho hs=>?_,λa ho=>aRx (hc.ok.lt a ho) d.size,λa hs=>?_,hc.ok.inj,hc.ok.EN f,hc.ok.hv,hc.ok.hh⟩⟩⟩
 ·obtain⟨h1,h2⟩:=hc.heap j g l m n r hj;refine⟨h1,?_⟩;cases hm:μ j with
  | none=>rw[hm]at h2;exact h2
  | some p=>
   obtain⟨a,C⟩:=p;rw[hm]at h2;obtain⟨o,q1,E⟩:=h2;exact⟨o,(d.blocks a (hc.ok.lt a (.inl ⟨_,_,_,_,_,_,_,hj,hm⟩))).trans q1,E.mono (λi y pv v hi hy F=>F.fr f hc.ok (λH I e' J K he u G=>d.blocks u (hc.ok.lt u (.inr ⟨j,i,y,_,_,_,_,_,_,_,_,_,_,hj,hi,he▸hy,G⟩))))⟩
 ·rcases hs with hs | rfl
  ·exact hc.ok.apart a ho hs
  ·exact absurd (hc.ok.lt a ho) aUE
 ·rcases hs with hs | rfl
  ·exact aRx (hc.ok.slt a hs) d.size
  ·exact A
theorem E7 (c:fL P T) (hc:Core μ h S w) (l:∀t,cE μ h S w (env t) (a.tmps.getD t undef)) (s d:Nat) (x:Operand) (hp:pop P T (.convert s d x) env h K):jl P ⟨dst,.convert s d x,ty,pos,after,guard⟩ a μ h S w K:=by
 simp only[pop]at hp;split at hp
 ·rename_i e sz n z b hs hd hx;split at hp
  ·rename_i he;obtain⟨m,f,o⟩:=hp;have hv:=dG l x;rw[hx]at hv;have p:=Lib.run_convert_string_bytes (P:=P) w s d e ⟨⟨b⟩⟩ (c.str _ hs) (c.slice _ _ _ _ _ hd).1 (c.int _ _ he)
   have g:dt w (Lib.bytesWorld w e ⟨⟨b⟩⟩):=by
    have:=Lib.bytesWorld_below w e ⟨⟨b⟩⟩;exact⟨this.block,this.size,this.os,this.tape,this.output⟩
   obtain⟨q,r⟩:=Vg hc g w.heap.size (Of _) (by rw[Lib.bytesWorld_size];omega);refine jl.kr (val:=.slice (some ⟨w.heap.size,0,none⟩) b.length (grownCap w b.length 0 e)) (eZ rfl ?_) o ?_ r q
   ·rw[hv.pn];exact p
   ·show bh _ _ (.im 1 b.length m) _;refine .im 1 b.length m w.heap.size 0 _ (λi _=>.int .u8 (b.getD i 0).toNat) (.inr rfl) (λi hi=>by rw[f i hi];rfl) ?_ (λi j pv hi hj=>?_) (λi j pv hi hj=>?_)
    ·have:=grownCap_ge w b.length 0 e;omega
    ·rw[f i hi]at hj
     have k:j=0:=by
      have:=(abF.1 hj).1;simpa using this
     subst k;have:=Lib.bytesWorld_cell w e ⟨⟨b⟩⟩ i (by show i<b.length;exact hi);rw[show 0+i*1+0=i by omega];exact this
    ·rw[f i hi]at hj
     have k:j=0:=by
      have:=(abF.1 hj).1;simpa using this
     subst k;simp at hj;subst hj;exact .int _ _
  ·exact aUd
 ·exact .ua hc (oY c hc.heap l hp)
theorem J5 (j:fL P T) (hc:Core μ h S w) (i:∀t,cE μ h S w (env t) (a.tmps.getD t undef)) (k:BinOp) (t l:TypeId) (x y:Operand) (hp:pop P T (.binOp k t x y l) env h K):
  jl P ⟨dst,.binOp k t x y l,ty,pos,after,guard⟩ a μ h S w K:=by
 simp only[pop]at hp;split at hp
 ·rename_i e sz m z o n f p hx hy;obtain⟨h1,h2⟩:=hp;have rx:=dG i x;have g:=dG i y;rw[hx]at rx;rw[hy]at g;have rx:bh S w (.im o n f) (a.eval x):=rx;have g:bh S w .bR (a.eval y):=g
  have q:a.eval y=.slice none 0 0:=by
   generalize a.eval y=v at g;cases g;rfl
  obtain⟨d,c,ex,r⟩:∃d c,a.eval x=.slice d n c/\(d=none->n=0):=by
   generalize a.eval x=v at rx;cases rx with
   | rZ _ _ d c=>exact⟨d,c,rfl,λ_=>rfl⟩
   | im _ _ _ b off c u _ _ _ _ _=>exact⟨_,c,rfl,λh0=>by cases h0⟩
  obtain⟨hu,_⟩:=j.slice _ _ _ _ _ p;have hg:eqGuard .eql t x y (a.eval x) (a.eval y)=pure ():=by rw[ex];apply eqGuard_at_slice
  have s:K (.bool d.isNone) h:=by
   cases d with
   | none=>exact h1 (r rfl)
   | some _=>exact h2
  refine .ua hc (.mk (v:=.bool d.isNone) s (bh.bool _) λw' _=>Cg (SX hg ?_));rw[ex,q];first | exact Lib.run_eql_slice_nil _ _ _ _ _ _ _ _ hu | exact run_eql_slice_nil _ _ _ _ _ _ hu
 ·exact .ua hc (oY j hc.heap i hp)
theorem HJ (f:fL P T) (hc:Core μ h S w) (e:∀t,cE μ h S w (env t) (a.tmps.getD t undef)) {op:Op} (hp:pop P T op env h K):
  jl P ⟨dst,op,ty,pos,after,guard⟩ a μ h S w K:=by
 cases op with
 | store t i x=>exact MB f hc e t i x hp
 | makeSlice t l c=>exact QK f hc e t l c hp
 | box t x=>exact UT hc e t x hp
 | alloc t=>exact MD f hc t hp
 | buildSlice t len parts=>exact BI f hc e t len parts hp
 | convert s d x=>exact E7 f hc e s d x hp
 | binOp j t x y k=>exact J5 f hc e j t k x y hp
 | call c=>
  obtain⟨g,args,ts⟩:=c;cases g with
  | value n=>exact Rb hc e n args ts hp
  | invoke r m=>exact .ua hc (oY f hc.heap e hp)
  | builtin b=>cases b with
   | append=>exact J4 f hc e args ts hp
   | _=>exact .ua hc (oY f hc.heap e hp)
 | _=>exact .ua hc (oY f hc.heap e hp)
end
section
variable {P:Program}{T:ru}{μ:Mu}{h η:List ao}{k:List Nat}{S:Nat->Prop}{w:World}{m:Nat}
theorem wx.get:∀(l r:List PV),wx h η k l r->r.length=l.length/\∀(j:Nat) (pv c:PV),l[j]? =some pv->r[j]? =some c->Fz h η k pv c
 | [],[],_=>⟨rfl,λj pv c hj=>by simp at hj⟩
 | [],_::_,hh=>hh.elim
 | _::_,[],hh=>hh.elim
 | a::l,b::r,hh=>by
  obtain⟨h1,h2⟩:=hh;obtain⟨q1,e⟩:=wx.get l r h2;refine⟨by simp [q1],λj pv c hj d=>?_⟩;cases j with
  | zero=>
   simp at hj d;subst hj d;exact h1
  | succ j=>exact e j pv c aUV (by simpa using d)
theorem pk:∀(l:List ao) (r:List Nat) (i:Nat),mC h η k m i l r->l.length=r.length/\∀(j:Nat) (o:ao),l[j]? =some o->∃id,r[j]? =some id/\zM h η k m o (i+j) id
 | [],[],i,_=>⟨rfl,λj o hj=>by simp at hj⟩
 | [],_::_,_,hh=>hh.elim
 | _::_,[],_,hh=>hh.elim
 | o::l,id::r,i,hh=>by
  obtain⟨h1,h2⟩:=hh;obtain⟨q1,b⟩:=pk l r (i+1) h2;refine⟨by simp [q1],λj c hj=>?_⟩;cases j with
  | zero=>
   simp at hj;subst hj;exact⟨id,rfl,h1⟩
  | succ j=>
   simp at hj;obtain⟨a,r1,d⟩:=b j c hj;exact⟨a,by simpa using r1,by rw[show i+(j+1)=i+1+j from by omega];exact d⟩
def nr (μ:Mu) (h:List ao) (k:List Nat):Mu:=λa=>match k[a]? with | some id=>(match h[id]? with | some _=>μ id | none=>none) | none=>none
theorem ve {μ:Mu} {h:List ao} {k:List Nat} {id a:Nat} {o:ao} (b:k[a]? =some id) (ho:h[id]? =some o):nr μ h k a=μ id:=by unfold nr;rw[b];simp only[ho]
theorem HK {μ:Mu} {h:List ao} {k:List Nat} {id a:Nat} (b:k[a]? =some id) (ho:h[id]? =none):nr μ h k a=none:=by unfold nr;rw[b];simp only[ho]
def HM (μ:Mu) (h:List ao) (k:List Nat) (S:Nat->Prop):Nat->Prop:=
 λb=>S b\/∃(id g sz n:Nat) (e:TypeId) (f:Nat->List PV) (base:Nat),id∉k/\h[id]? =some (ao.row g sz n e f)/\(μ id=some (b,base)\/∃i j,eR h id i j b)
theorem ade {S S':Nat->Prop} {w:World} (s:∀b,S b->S' b) {pv:PV} {v:Value} (h:nh S w pv v):∀d,EW pv d->(∀sz n e f F,pv=.fG sz n e f F->∀b,F b->S' b)->bh S' w d v:=by
 induction h with
 | nil sz e f F m=>
  intro d ho _;cases ho;exact .rZ _ _ _ _
 | FK sz n e f F b off c a cur t m u hlen hc x G y z H A I B=>
  intro d ho l;have l:=l _ _ _ _ _ rfl;cases ho with
  | mk _ _ _ _ o _ p hf g hp=>
   rcases aSq n with h0 | h0
   ·subst h0;exact .rZ _ _ _ _
   ·obtain rfl:=x aUE
    have get:∀(i j:Nat) (d:PV),i<n->(o i)[j]? =some d->∃pv,(f i)[j]? =some pv:=λi j d hi hj=>by
     have C:j<(f i).length:=by rw[<-p i hi];exact(abF.1 hj).1
     exact⟨_,abL C⟩
    refine .im sz n o b off c t (l b m) (λi hi=>by rw[p i hi];exact hlen i hi) hc (λi j d hi hj=>?_) (λi j d hi hj=>?_)
    ·obtain⟨pv,k⟩:=get i j d hi hj;rw[cell_of_row w b _ cur e (0,0) u,<-y i j pv hi k]
    ·obtain⟨pv,k⟩:=get i j d hi hj;cases hx:eH pv with
     | false=>
      rw[hf i j pv d hi k hj hx];rcases z i j pv hi k with q | ⟨_,_,_,_,_,q⟩
      ·exact q.mono (λ_ _=>rfl) s
      ·rw[q]at hx;cases hx
     | true=>
      have g:=g i j pv d hi k hj hx;cases pv with
      | fG oh n2 e2 f2 D=>exact B i j oh n2 e2 f2 D hi k d g (λ_ _ _ _ _ he r E=>by
        injection he with _ _ _ _ he;subst he;exact l r (A i j _ _ _ _ _ hi k r E).1)
      | _=>cases hx
theorem BQ {μ':Mu} {h':List ao} {S':Nat->Prop} {pv:PV} {v:Value} (hp:cP pv=true) (hc:db μ' h' S' w pv v):bh S' w pv v:=by
 cases pv<;>first | exact hc | cases hp
theorem xA (hc:Core μ h S w) (hh:mC h η k m 0 η k) {pv l:PV} (hz:Fz h η k pv l):
  (∀v,db μ h S w pv v->db (nr μ h k) η (HM μ h k S) w l v)/\(∀v,lE μ h S w pv v->lE (nr μ h k) η (HM μ h k S) w l v)/\(∀v,cE μ h S w pv v->cE (nr μ h k) η (HM μ h k S) w l v):=by
 have up:∀pv v,bh S w pv v->bh (HM μ h k S) w pv v:=λpv v hp=>bh.mono (λ_ _=>rfl) (λb M=>.inl M) hp
 have same:∀pv:PV,(∀v,db μ h S w pv v->bh S w pv v)->(∀v,lE μ h S w pv v->db μ h S w pv v)->(∀v,cE μ h S w pv v->lE μ h S w pv v)->∀l:PV,(∀v,bh S w pv v->bh (HM μ h k S) w l v)->
   (∀v,db μ h S w pv v->db (nr μ h k) η (HM μ h k S) w l v)/\(∀v,lE μ h S w pv v->db (nr μ h k) η (HM μ h k S) w l v)/\(∀v,cE μ h S w pv v->db (nr μ h k) η (HM μ h k S) w l v):=
  λpv h1 h2 o l hp=>⟨λv hv=>db.mu (hp v (h1 v hv)),λv hv=>db.mu (hp v (h1 v (h2 v hv))),λv hv=>db.mu (hp v (h1 v (h2 v (o v hv))))⟩
 induction hz with
 | int k' n=>exact same (.int k' n) (λ_ h=>h) (λ_ h=>h) (λ_ h=>h) _ (up _)
 | bool b=>exact same (.bool b) (λ_ h=>h) (λ_ h=>h) (λ_ h=>h) _ (up _)
 | str s=>exact same (.str s) (λ_ h=>h) (λ_ h=>h) (λ_ h=>h) _ (up _)
 | bR=>exact same .bR (λ_ h=>h) (λ_ h=>h) (λ_ h=>h) _ (up _)
 | jk=>exact same .jk (λ_ h=>h) (λ_ h=>h) (λ_ h=>h) _ (up _)
 | GY sz f=>exact same .bR (λ_ h=>h) (λ_ h=>h) (λ_ h=>h) (.im sz 0 f) (λv hv=>by cases hv;exact .rZ _ _ _ _)
 | aFg id d A J e' x q ho hη=>
  have key:∀v,v=Value.slice none 0 0->bX (nr μ h k) η w d A 0 0 v:=λv hv=>by
   unfold bX;rw[hη];refine⟨⟨_,_,_,hv⟩,Of _,λ_=>⟨Of _,?_⟩⟩;rw[HK q ho];exact hv
  have inv:∀v,bh S w .bR v->v=Value.slice none 0 0:=λv hv=>by cases hv;rfl
  exact⟨λv hv=>key v (inv v hv),λv hv=>key v (inv v hv),λv hv=>key v (inv v hv)⟩
 | fn f=>exact same (.fn f) (λ_ h=>h) (λ_ h=>h) (λ_ h=>h) _ (up _)
 | ic cs=>exact same (.ic cs) (λ_ h=>h) (λ_ h=>h) (λ_ h=>h) _ (up _)
 | im sz n f x hf=>
  exact same (.im sz n f) (λ_ h=>h) (λ_ h=>h) (λ_ h=>h) (.im sz n x) (λv hv=>by
   have hv:=up _ _ hv;cases hv with
   | rZ _ _ a c=>exact .rZ _ _ _ _
   | im _ _ _ b off c vf h1 h2 o h4 h5=>
    exact .im sz n x b off c vf h1 (λi hi=>by rw[hf i hi];exact h2 i hi) o (λi j pv hi hj=>h4 i j pv hi aVg) (λi j pv hi hj=>h5 i j pv hi aVg))
 | kB pv=>exact⟨λv hv=>hv.one,λ_ _=>trivial,λ_ _=>trivial⟩
 | fG sz n e f F=>exact⟨λv hv=>hv,λv hv=>hv,λv hv=>hv⟩
 | Jv sz e f=>exact⟨λv hv=>db.one hv,λv hv=>db.one (pv:=.bR) (μ:=μ) (h:=h) hv,λv hv=>db.one (pv:=.bR) (μ:=μ) (h:=h) hv⟩
 | own id d g A sz J n N off len e e' f x q ho hη D=>
  have key:∀v,bX μ h w id g off len v->bX (nr μ h k) η w d A off len v:=λv hv=>by
   unfold bX at hv ⊢;rw[ho]at hv;rw[hη];obtain⟨h1,_,E⟩:=hv;have O:=E rfl;clear E;obtain⟨h2,o⟩:=O;obtain⟨_,eM⟩:=pk η k 0 hh;obtain⟨X,r1,r⟩:=eM d _ hη;rw[q]at r1;injection r1 with r1;subst r1;unfold zM at r;rw[ho]at r;obtain⟨_,rfl,_,_⟩:=r;refine⟨h1,Of _,λ_=>⟨D,?_⟩⟩;have hm:nr μ h k d=μ id:=ve q ho;rw[hm];exact o
  exact⟨key,key,key⟩
 | aI id d g A sz J n N i off e e' f x q ho hη D=>
  have key:∀v,c7 μ h w id g i off v->c7 (nr μ h k) η w d A i off v:=λv hv=>by
   unfold c7 at hv ⊢;rw[ho]at hv;rw[hη];obtain⟨h1,_,E⟩:=hv;have O:=E rfl;clear E;obtain⟨h2,o⟩:=O;obtain⟨_,eM⟩:=pk η k 0 hh;obtain⟨X,r1,r⟩:=eM d _ hη;rw[q]at r1;injection r1 with r1;subst r1;unfold zM at r;rw[ho]at r;obtain⟨_,rfl,_,rfl,_⟩:=r;refine⟨h1,Of _,λ_=>⟨D,?_⟩⟩;have hm:nr μ h k d=μ id:=ve q ho;rw[hm];exact o
  exact⟨key,key,key⟩
 | qz f dB Nf t B=>
  have key:∀v,rF μ h w f dB v->rF (nr μ h k) η w f Nf v:=λv hv=>by
   obtain⟨vs,h1,h2,o⟩:=hv;refine⟨vs,h1,h2.trans t.symm,λj Y hj=>?_⟩;have Z:j<dB.length:=by rw[<-t];exact(abF.1 hj).1
   obtain⟨q,⟨sz,n,e,g,ho⟩,J,N,e',A,hη,D⟩:=B j _ Y (abL Z) hj;obtain⟨u,q1,z⟩:=o j _ (abL Z);refine⟨u,q1,?_⟩;unfold c7 at z ⊢;rw[ho]at z;rw[hη];obtain⟨P,_,K⟩:=z;have Q:=K rfl;clear K;obtain⟨a4,a5⟩:=Q;obtain⟨_,eM⟩:=pk η k 0 hh;obtain⟨X,r1,r⟩:=eM Y.1 _ hη;rw[q]at r1;injection r1 with r1;subst r1;unfold zM at r;rw[ho]at r;obtain⟨_,rfl,_,rfl,_⟩:=r;refine⟨P,Of _,λ_=>⟨D,?_⟩⟩;rw[ve q ho];exact a5
  exact⟨key,key,key⟩
 | rB id d g A sz J n N e e' f x q ho hη=>
  have key:∀v,je μ h w id v->je (nr μ h k) η w d v:=λv hv=>by
   unfold je at hv ⊢;rw[ho]at hv;rw[hη];obtain⟨h1,b,base,q1,z,q3⟩:=hv;exact⟨h1,b,base,(ve q ho).trans q1,z,q3⟩
  exact⟨key,key,key⟩
 | frz id g sz n off len e f x q ho t hp hf G=>
  have key:∀v,bX μ h w id g off len v->db (nr μ h k) η (HM μ h k S) w (.im sz len x) v:=λv hv=>by
   refine db.mu ?_;unfold bX at hv;rw[ho]at hv;obtain⟨_,_,hv⟩:=hv;obtain⟨hle,hv⟩:=hv rfl;obtain⟨R,L⟩:=hc.heap id g sz n e f ho;cases T:μ id with
   | none=>
    rw[T]at hv L;have D:n=0:=L;have h0:len=0:=by omega
    subst h0;have hv:v=.slice none 0 0:=hv;subst hv;exact .rZ _ _ _ _
   | some p=>
    obtain⟨b,base⟩:=p;rw[T]at hv L;obtain⟨ad,cap,rfl,U,V,QF⟩:=hv;obtain⟨cur,n9,yo,mB⟩:=dA.cells QF L;rcases aSq len with h0 | h0
    ·subst h0;exact .rZ _ _ _ _
    ·have V:=V aUE;subst V
     have H:∀(i j:Nat) (l:PV),i<len->(x i)[j]? =some l->∃u,w.cell? ⟨b,base+off*sz+i*sz+j,none⟩=some u/\bh (HM μ h k S) w l u:=λi j l hi hj=>by
      have I:j<(f (off+i)).length:=by rw[<-t i hi];exact(abF.1 hj).1
      have y:=abL I;obtain⟨u,h1,h2⟩:=mB (off+i) j _ aUE y
      have o:bh (HM μ h k S) w l u:=by
       by_cases C:EW (f (off+i))[j] l
       ·generalize aa:(f (off+i))[j]=pv at C h2 y;cases C with
        | mk oh n2 e2 f2 W F2 P K Q a4=>
         exact ade (λb M=>.inl M) (show nh S w (.fG oh n2 e2 f2 F2) u from h2) _ (.mk oh n2 e2 f2 W F2 P K Q a4) (λ_ _ _ _ _ he b' ta=>by
          injection he with _ _ _ _ he;subst he;exact .inr ⟨id,g,sz,n,e,f,base,q,ho,.inr ⟨off+i,j,_,_,_,_,_,_,_,_,_,_,ho,by omega,y,ta⟩⟩)
       ·exact BQ (hp i j l hi hj) ((G i j _ l hi y hj C).1 u h2.c)
      refine⟨u,?_,o⟩;rw[cell_of_row w b _ cur e (0,0) n9,<-h1];congr 1;rw[aRt];omega
     refine .im sz len x b (base+off*sz) cap (λi j=>(w.cell? ⟨b,base+off*sz+i*sz+j,none⟩).getD undef) (.inr ⟨id,g,sz,n,e,f,base,q,ho,.inl T⟩) (λi hi=>by rw[t i hi];exact R _ aUE) U (λi j pv hi hj=>?_) (λi j pv hi hj=>?_)
     ·obtain⟨u,h1,_⟩:=H i j pv hi hj;rw[h1];rfl
     ·obtain⟨u,h1,h2⟩:=H i j pv hi hj;simp only[h1,aTl];exact h2
  exact⟨key,key,key⟩
 | agg cs Dg t B G=>
  have key:∀v,lE μ h S w (.agg cs) v->lE (nr μ h k) η (HM μ h k S) w (.agg Dg) v:=λv hv=>by
   obtain⟨vs,h1,h2,o⟩:=hv;refine⟨vs,h1,h2.trans t.symm,λj l hj=>?_⟩;have I:j<cs.length:=by rw[<-t];exact(abF.1 hj).1
   have y:=abL I;obtain⟨u,q1,z⟩:=o j _ y;exact⟨u,q1,(G j _ l y hj).1 u z⟩
  exact⟨λ_ hv=>(show False from hv).elim,key,key⟩
 | gJ cs Dg t B G=>
  refine⟨λ_ hv=>(show False from hv).elim,λ_ hv=>(show False from hv).elim,λv hv=>?_⟩;obtain⟨vs,h1,h2,o⟩:=hv;refine⟨vs,h1,h2.trans t.symm,λj l hj=>?_⟩;have I:j<cs.length:=by rw[<-t];exact(abF.1 hj).1
  have y:=abL I;obtain⟨u,q1,z⟩:=o j _ y;exact⟨u,q1,(G j _ l y hj).2.1 u z⟩
end
section
variable {P:Program}{T:ru}{μ:Mu}{h η:List ao}{k:List Nat}{S:Nat->Prop}{w:World}{m:Nat}
theorem adf {a c:PV} (e:Fz h η k a c) (d:Hw a=true):Hw c=true/\∀v,EK a v->EK c v:=by
 cases e with
 | int f n=>exact⟨rfl,λ_ h=>h⟩
 | bool b=>exact⟨rfl,λ_ h=>h⟩
 | str s=>exact⟨rfl,λ_ h=>h⟩
 | kB _=>exact⟨rfl,λv h=>by
   cases a<;>first | (cases d;done) | (have h:v=_:=h;subst h;rfl) | exact h⟩
 | _=>cases d
theorem To {a d:PV} (i:Fz h η k a d) (e:rv a=true):rv d=true/\∀v,Gt a v->Gt d v:=by
 cases i with
 | int r n=>exact⟨rfl,λ_ h=>h⟩
 | bool b=>exact⟨rfl,λ_ h=>h⟩
 | str s=>exact⟨rfl,λ_ h=>h⟩
 | kB _=>exact⟨rfl,λ_ _=>trivial⟩
 | agg cs l f hc=>
  have el:∀j c,l[j]? =some c->∃pv,cs[j]? =some pv/\Hw c=true/\∀v,EK pv v->EK c v:=λj c hj=>by
   have g:j<cs.length:=by rw[<-f];exact(abF.1 hj).1
   have h1:=abL g;have h2:=adf (hc j _ _ h1 hj) (aRg.1 e _ (aRr g));exact⟨_,h1,h2⟩
  refine⟨aRg.2 (λx hx=>?_),λv hv=>?_⟩
  ·obtain⟨j,hj,rfl⟩:=aSG.1 hx;obtain⟨_,_,h2,_⟩:=el j _ (abL hj);exact h2
  ·obtain⟨vs,q1,m,o⟩:=hv;refine⟨vs,q1,m.trans f.symm,λj c hj=>?_⟩;obtain⟨pv,p,_,e2⟩:=el j c hj;obtain⟨u,hu,q⟩:=o j pv p;exact⟨u,hu,e2 u q⟩
 | _=>cases e
theorem E8:∀{l:List Nat} {x i:Nat},l[i]? =some x->Vh l x=true
 | [],x,i,h=>by simp at h
 | a::r,x,0,h=>by
  simp at h;subst h;unfold Vh;rw[show Nat.beq a a=true from aSD a]
 | a::r,x,i+1,h=>by
  unfold Vh;cases Nat.beq a x
  ·exact E8 aVn
  ·rfl
theorem xT:∀{η:List ao} {k:List Nat} {i id g sz n:Nat} {e:TypeId} {f:Nat->List PV},η[i]? =some (ao.row g sz n e f)->k[i]? =some id->∃j:Nat,(pZ η k)[j]? =some id
 | [],_,i,_,_,_,_,_,_,h,_=>by simp at h
 | _::_,[],i,_,_,_,_,_,_,_,h=>by simp at h
 | .row _ _ _ _ _::r,a::is,0,id,_,_,_,_,_,_,h=>by simp at h;subst h;exact⟨0,rfl⟩
 | .dead::r,a::is,0,id,_,_,_,_,_,h,_=>by simp at h
 | .row _ _ _ _ _::r,a::is,i+1,id,_,_,_,_,_,h1,h2=>by
  obtain⟨j,hj⟩:=xT (i:=i) aVi aVh;exact⟨j+1,by simpa[pZ]using hj⟩
 | .dead::r,a::is,i+1,id,_,_,_,_,_,h1,h2=>by
  obtain⟨j,hj⟩:=xT (i:=i) aVi aVh;exact⟨j,by simpa[pZ]using hj⟩
theorem xU:∀{η:List ao} {k:List Nat} {i j id g sz n l m o:Nat} {e e':TypeId} {f p:Nat->List PV},qs (pZ η k)=true->η[i]? =some (ao.row g sz n e f)->k[i]? =some id->η[j]? =some (ao.row l m o e' p)->k[j]? =some id->i=j
 | [],_,i,_,_,_,_,_,_,_,_,_,_,_,_,_,h,_,_,_=>by simp at h
 | _::_,[],i,_,_,_,_,_,_,_,_,_,_,_,_,_,_,h,_,_=>by simp at h
 | .row _ _ _ _ _::r,a::is,0,0,_,_,_,_,_,_,_,_,_,_,_,_,_,_,_,_=>rfl
 | .row _ _ _ _ _::r,a::is,0,j+1,id,_,_,_,_,_,_,_,_,_,_,b,_,h2,d,c=>by
  simp at h2;subst h2;obtain⟨q,hq⟩:=xT (η:=r) (k:=is) (i:=j) (by simpa using d) (by simpa using c);unfold pZ qs at b;rw[E8 hq]at b;cases b
 | .row _ _ _ _ _::r,a::is,i+1,0,id,_,_,_,_,_,_,_,_,_,_,b,h1,h2,_,c=>by
  simp at c;subst c;obtain⟨q,hq⟩:=xT (η:=r) (k:=is) (i:=i) aVi aVh;unfold pZ qs at b;rw[E8 hq]at b;cases b
 | .row _ _ _ _ _::r,a::is,i+1,j+1,id,_,_,_,_,_,_,_,_,_,_,b,h1,h2,d,c=>by
  unfold pZ qs at b;cases hm:Vh (pZ r is) a with
  | true=>rw[hm]at b;cases b
  | false=>
   rw[hm]at b;rw[xU (η:=r) (k:=is) (i:=i) (j:=j) b aVi aVh (by simpa using d) (by simpa using c)]
 | .dead::r,a::is,0,_,_,_,_,_,_,_,_,_,_,_,_,_,h,_,_,_=>by simp at h
 | .dead::r,a::is,_+1,0,_,_,_,_,_,_,_,_,_,_,_,_,_,_,h,_=>by simp at h
 | .dead::r,a::is,i+1,j+1,id,_,_,_,_,_,_,_,_,_,_,b,h1,h2,d,c=>by
  rw[xU (η:=r) (k:=is) (i:=i) (j:=j) b aVi aVh (by simpa using d) (by simpa using c)]
theorem AI (hc:Core μ h S w) (hh:mC h η k m 0 η k) (hk:qs (pZ η k)=true):Core (nr μ h k) η (HM μ h k S) w/\(∀b,dL (nr μ h k) η b->dL μ h b)/\∀b,HM μ h k S b->S b\/dL μ h b:=by
 obtain⟨hlen,eM⟩:=pk η k 0 hh
 have back:∀(a B v s:Nat) (e':TypeId) (A:Nat->List PV),η[a]? =some (ao.row B v s e' A)->(s=0/\nr μ h k a=none)\/∃(id g:Nat) (f:Nat->List PV),k[a]? =some id/\(∃n,h[id]? =some (ao.row g v n e' f)/\s<=n/\(s=n\/v≠2))/\nr μ h k a=μ id/\
   ∀i,i<s->(A i).length=(f i).length/\∀(j:Nat) (pv G:PV),(f i)[j]? =some pv->(A i)[j]? =some G->Fz h η k pv G:=λa B v s e' A hη=>by
  obtain⟨id,r1,l⟩:=eM a _ hη;unfold zM at l;cases ho:h[id]? with
  | none=>rw[ho]at l;exact .inl ⟨l.2,HK r1 ho⟩
  | some o=>
   cases o with
   | dead=>rw[ho]at l;exact l.elim
   | row g sz n e f=>
    rw[ho]at l;obtain⟨_,rfl,U,rfl,H⟩:=l;refine .inr ⟨id,g,f,r1,⟨n,ho,?_⟩,ve r1 ho,λi hi=>wx.get _ _ (H i hi)⟩;rcases U with rfl | ⟨_,r5,r6⟩
    ·exact⟨Of _,.inl rfl⟩
    ·exact⟨r6,.inr r5⟩
 have V:∀b,Hx (nr μ h k) η b->∃id,id∈k/\∃g sz n e f base,h[id]? =some (ao.row g sz n e f)/\μ id=some (b,base):=λb d=>by
  obtain⟨a,B,v,s,e',A,base,hη,hm⟩:=d;rcases back a B v s e' A hη with⟨_,t⟩ | ⟨id,g,f,q1,⟨n,r,_⟩,t,_⟩
  ·rw[t]at hm;cases hm
  ·rw[t]at hm;exact⟨id,aRq q1,g,v,n,e',f,base,r,hm⟩
 have J:∀{pv:PV} {sz n:Nat} {e:TypeId} {f:Nat->List PV} {F:Nat->Prop},Fz h η k pv (.fG sz n e f F)->pv=.fG sz n e f F\/(pv=.bR/\n=0/\∀b,¬F b):=λQ=>by
  cases Q with
  | fG=>exact .inl rfl
  | Jv=>exact .inr ⟨rfl,rfl,λ_ h=>h⟩
 have K:∀a i j b,eR η a i j b->∃id,k[a]? =some id/\eR h id i j b/\∃g sz n e f,η[a]? =some (ao.row g sz n e f):=λa i j b ⟨B,v,s,e',A,oh,n2,e2,f2,F2,q1,r,t,C⟩=>by
  rcases back a B v s e' A q1 with⟨r1,_⟩ | ⟨id,g,f,r1,⟨n,l,hle,_⟩,H,U⟩
  ·omega
  ·obtain⟨W,s2⟩:=U i r;have X:j<(f i).length:=by rw[<-W];exact(abF.1 t).1
   have L:=abL X;rcases J (s2 j _ _ L t)with this | ⟨_,_,this⟩
   ·exact⟨id,r1,⟨g,v,n,e',f,_,_,_,_,_,l,by omega,by rw[L,this],C⟩,_,_,_,_,_,q1⟩
   ·exact absurd C (this b)
 have Y:∀b,dL (nr μ h k) η b->dL μ h b:=λb d=>by
  rcases d with d | ⟨x,y,z,d⟩
  ·obtain⟨id,_,g,sz,n,e,f,base,r,hm⟩:=V b d;exact .inl ⟨id,g,sz,n,e,f,base,r,hm⟩
  ·obtain⟨id,_,q,_⟩:=K x y z b d;exact aUD
 have hs:∀b,HM μ h k S b->S b\/dL μ h b:=λb d=>by
  rcases d with d | ⟨id,g,sz,n,e,f,base,_,h1,h2 | ⟨i,j,h2⟩⟩
  ·exact .inl d
  ·exact .inr (.inl ⟨id,g,sz,n,e,f,base,h1,h2⟩)
  ·exact .inr (.inr ⟨_,_,_,h2⟩)
 refine⟨⟨λa B v s e' A hη=>?_,?_⟩,Y,hs⟩
 ·rcases back a B v s e' A hη with⟨rfl,t⟩ | ⟨id,g,f,q1,⟨n,r,hle,Z⟩,t,C⟩
  ·exact⟨λi hi=>absurd hi (aSk _),by rw[t]⟩
  obtain⟨r1,l⟩:=hc.heap id g v n e' f r;refine⟨λi hi=>(C i hi).1.trans (r1 i (aRx hi hle)),?_⟩;rw[t];cases hm:μ id with
  | none=>rw[hm]at l;have l:n=0:=l;show s=0;omega
  | some p=>
   obtain⟨b,base⟩:=p;rw[hm]at l;obtain⟨o,W,s2⟩:=l;refine⟨o,W,?_⟩;cases o with
   | cells cur e2 z=>
    obtain⟨x1,x2,x3,R⟩:=s2;refine⟨x1,x2,aSe (Nat.add_le_add_left (aRu _ hle) _) x3,λi j G hi hj=>?_⟩;have X:j<(f i).length:=by rw[<-(C i hi).1];exact(abF.1 hj).1
    have L:=abL X;obtain⟨u,t1,t2⟩:=R i j _ (aRx hi hle) L;have Q:=(C i hi).2 j _ G L hj;refine⟨u,t1,?_⟩;cases hx:eH G with
    | false=>exact db.k ((xA hc hh Q).1 u t2.c) hx
    | true=>
     cases G with
     | fG oh n2 e2 f2 F2=>
      rcases J Q with hq | ⟨hq,rfl,hF⟩
      ·rw[hq]at t2;exact nh.mono (λ_ _=>rfl) (λb d=>.inl d) (show nh S w (.fG oh n2 e2 f2 F2) u from t2) (λ_ _ _ _ _ _ _ _=>rfl)
      ·rw[hq]at t2;have t2:bh S w .bR u:=t2;cases t2;exact nh.nil _ _ _ _ hF
     | _=>cases hx
   | map es c=>
    obtain⟨x1,R⟩:=s2
    have hn:s=n:=by
     rcases Z with h0 | h0
     ·exact h0
     ·rcases aSq n with h1 | h1
      ·omega
      ·obtain⟨kp,vp,en,y1,_⟩:=R 0 h1;have:=r1 0 h1;rw[y1]at this;exact absurd this.symm h0
    subst hn;refine⟨x1,λi hi=>?_⟩;obtain⟨kp,vp,en,y1,y2,y3,y4,y5,y6⟩:=R i hi;obtain⟨z1,T⟩:=C i hi;rw[y1]at z1 T;generalize Da:A i=l' at z1 T ⊢;rcases l' with _ | ⟨M,_ | ⟨N,_ | ⟨c3,l3⟩⟩⟩<;>simp at z1;have w1:=To (T 0 kp M rfl rfl) y2;have w2:=To (T 1 vp N rfl rfl) y3;exact⟨M,N,en,rfl,w1.1,w2.1,y4,w1.2 _ y5,w2.2 _ y6⟩
   | _=>exact s2.elim
 ·refine⟨λb d D=>?_,λb d=>hc.ok.lt b (Y b d),λb d=>?_,?_,hc.ok.known.gx (λ_ _=>rfl) (λ_ d=>.inl d),λb d x y z hx=>?_,λb i x y j x' y' hx wh=>?_⟩;rotate_right 2
  ·obtain⟨id,_,g,sz,n,e,f,base,r,hm⟩:=V b d;obtain⟨I,_,q,_⟩:=K x y z b hx;exact hc.ok.hv b ⟨id,g,sz,n,e,f,base,r,hm⟩ _ _ _ q
  ·obtain⟨O,k1,q1,_,_,_,_,_,r1⟩:=K i x y b hx;obtain⟨I,k2,r,_,_,_,_,_,l⟩:=K j x' y' b wh;obtain⟨e1,e2,e3⟩:=hc.ok.hh b _ _ _ _ _ _ q1 r;subst e1;exact⟨xU hk r1 k1 l k2,e2,e3⟩
  ·rcases D with D | ⟨I,g2,oh,n2,e2,f2,aa,P,h1,h2⟩
   ·exact hc.ok.apart b (Y b d) D
   ·rcases d with d | ⟨x,y,z,d⟩
    ·obtain⟨id,E,g,sz,n,e,f,base,r,hm⟩:=V b d;rcases h2 with h2 | ⟨i,j,h2⟩
     ·have:=hc.ok.inj id I _ _ _ _ _ _ _ _ _ _ _ _ _ r h1 hm h2;subst this;exact P E
     ·exact hc.ok.hv b ⟨id,g,sz,n,e,f,base,r,hm⟩ _ _ _ h2
    ·obtain⟨id,E,q,_⟩:=K x y z b d;rcases h2 with h2 | ⟨i,j,h2⟩
     ·exact hc.ok.hv b ⟨I,g2,oh,n2,e2,f2,aa,h1,h2⟩ _ _ _ q
     ·obtain⟨e1,_,_⟩:=hc.ok.hh b _ _ _ _ _ _ q h2;subst e1;exact P (aRq E)
  ·rcases hs b d with h1 | h1
   ·exact hc.ok.slt b h1
   ·exact hc.ok.lt b h1
  ·intro i j gi VA ni ei fi gj ny nj ej fj b o o' hi hj oF oa;rcases back i gi VA ni ei fi hi with⟨_,t⟩ | ⟨O,g1,f1,q1,⟨ad,r,_⟩,t,_⟩
   ·rw[t]at oF;cases oF
   rcases back j gj ny nj ej fj hj with⟨_,H⟩ | ⟨I,g2,f2,r1,⟨ag,l,_⟩,H,_⟩
   ·rw[H]at oa;cases oa
   rw[t]at oF;rw[H]at oa;have:=hc.ok.inj O I _ _ _ _ _ _ _ _ _ _ _ _ _ r l oF oa;subst this;exact xU hk hi q1 hj r1
structure Start where
 μ:Mu
 h:List ao
 S:Nat->Prop
 w:World
 nt:Nat
theorem akS {C:Start} (hc:Core μ h S w) (hf:Fr C.μ C.h C.S C.w μ h S w) (hh:mC h η k C.h.length 0 η k) (z:qs (pZ η k)=true) (hm:C.h.length<=k.length):
  Fr C.μ C.h C.S C.w (nr μ h k) η (HM μ h k S) w:=by
 obtain⟨hlen,eM⟩:=pk η k 0 hh;obtain⟨_,A,hs⟩:=AI hc hh z
 have idx:∀id,id<C.h.length->∃o c,η[id]? =some o/\k[id]? =some c/\zM h η k C.h.length o id c:=λid hid=>by
  have t:id<η.length:=by omega
  obtain⟨c,r1,d⟩:=eM id _ (abL t);rw[aRf]at d;exact⟨_,c,abL t,r1,d⟩
 refine⟨by omega,hf.blocks,λb j=>.inl (hf.sub b j),λb j=>?_,λb j=>hf.own b (A b j),hf.size,hf.os,hf.tape,hf.output,λid p i q e0 f0 h0=>?_,λid h0=>?_,hf.dB,λid p i q e0 f0 b base h0 r B=>?_,hf.yK⟩;rotate_right
 ·have hid:id<C.h.length:=(abF.1 h0).1;obtain⟨o,c,q1,m,a⟩:=idx id hid;obtain⟨r1,d⟩:=hf.maps id p i q e0 f0 b base h0 r B;refine⟨r1,?_⟩;rw[q1];unfold zM at a;cases o with
  | dead=>exact .inl rfl
  | row u v x e' y=>
   cases ho:h[c]? with
   | none=>rw[ho]at a;exact absurd a.1 aUE
   | some l=>
    cases l with
    | dead=>rw[ho]at a;exact a.elim
    | row g sz n e f=>
     rw[ho]at a;obtain⟨s,rfl,s2,rfl,_⟩:=a;obtain⟨rfl,rfl⟩:=s hid;obtain rfl:=s2.resolve_right (λhx=>absurd hx.1 aUE);rw[ho]at d;rcases d with d | ⟨_,D⟩
     ·cases d
     ·exact .inr ⟨⟨_,_,_,_,_,rfl⟩,(ve m ho).trans D⟩
 ·rcases hs b j with h1 | h1
  ·exact hf.new b h1
  ·rcases hf.own b h1 with h2 | h2
   ·exact .inr (.inl h2)
   ·exact .inr (.inr h2)
 ·have hid:id<C.h.length:=(abF.1 h0).1;obtain⟨o,c,q1,m,a⟩:=idx id hid;have hg:=hf.EO id p i q e0 f0 h0;rw[q1];unfold zM at a;cases o with
  | dead=>trivial
  | row u v x e' y=>
   cases ho:h[c]? with
   | none=>rw[ho]at a;exact absurd a.1 aUE
   | some l=>
    cases l with
    | dead=>rw[ho]at a;exact a.elim
    | row g sz n e f=>
     rw[ho]at a;obtain⟨r1,rfl,d,rfl,_⟩:=a;obtain⟨rfl,rfl⟩:=r1 hid;obtain rfl:=d.resolve_right (λhx=>absurd hx.1 aUE);rw[ho]at hg;refine⟨hg.1,λhe=>?_⟩;obtain⟨s,s2,E,F⟩:=hg.2 he;exact⟨by rw[ve m ho];exact s,s2,E,F⟩
 ·have hid:id<C.h.length:=(abF.1 h0).1;obtain⟨o,c,q1,m,a⟩:=idx id hid;have hd:=hf.dead id h0;rw[q1];unfold zM at a;cases o with
  | dead=>rfl
  | row u v x e' y=>
   cases ho:h[c]? with
   | none=>rw[ho]at a;exact absurd a.1 aUE
   | some l=>
    cases l with
    | dead=>rw[ho]at a;exact a.elim
    | row g sz n e f=>
     rw[ho]at a;obtain⟨rfl,rfl⟩:=a.1 hid;rw[ho]at hd;cases hd
structure qb (C:Start) (μ:Mu) (h:List ao) (S:Nat->Prop) (env:Env) (a:Act) (w:World):Prop where
 core:Core μ h S w
 fr:Fr C.μ C.h C.S C.w μ h S w
 tmps:∀t,cE μ h S w (env t) (a.tmps.getD t undef)
 size:a.tmps.size=C.nt
 far:∀t,C.nt<=t->env t=.kB
 defers:a.defers=[]
variable {C:Start}{env:Env}{a:Act}
theorem E9 (env:Env) (t:Nat) (v:PV):se env t v t=v:=by simp [se]
theorem J6 (env:Env) {t j:Nat} (v:PV) (hj:j≠t):se env t v j=env j:=by
 unfold se
 have:Nat.beq j t=false:=by
  cases a:Nat.beq j t with
  | true=>exact(hj (amb a)).elim
  | false=>rfl
 rw[this];rfl
def rL (nt:Nat) (o:Oper):Bool:=match o.dst with | some t=>Nat.blt t nt | none=>true
theorem qb.put (hs:qb C μ h S env a w) {μ':Mu} {h':List ao} {S':Nat->Prop} {w':World} (hf:Fr μ h S w μ' h' S' w') (hc:Core μ' h' S' w') {dst:Option Nat} {v:PV} {val:Value} (hv:cE μ' h' S' w' v val)
  (hd:∀t,dst=some t->t<C.nt):qb C μ' h' S' (fZ env dst v) (a.put dst val) w':=by
 refine⟨hc,hs.fr.trans hf,λt=>?_,?_,λt e=>?_,?_⟩
 ·cases dst with
  | none=>exact(hs.tmps t).fr hf hs.core.ok
  | some d=>
   have c:=hd d rfl;by_cases b:t=d
   ·subst b;show cE μ' h' S' w' (se env t v t) _;rw[E9]
    have:((a.put (some t) val).tmps).getD t undef=val:=by
     have f:t<a.tmps.size:=by rw[hs.size];exact c
     simp [Act.put,f]
    rw[this];exact hv
   ·show cE μ' h' S' w' (se env d v t) _;rw[J6 env v b]
    have:((a.put (some d) val).tmps).getD t undef=a.tmps.getD t undef:=by
     simp [Act.put,aTb (aSA b)]
    rw[this];exact(hs.tmps t).fr hf hs.core.ok
 ·cases dst with
  | none=>exact hs.size
  | some d=>simp [Act.put,hs.size]
 ·cases dst with
  | none=>exact hs.far t e
  | some d=>
   have c:=hd d rfl;show se env d v t=_;rw[J6 env v aUE];exact hs.far t e
 ·cases dst with
  | none=>exact hs.defers
  | some d=>exact hs.defers
theorem qb.Fa (hs:qb C μ h S env a w) {t:Nat} {b:Bool} (he:env t=.bool b):qb C μ h S (se env t (.bool b)) a w:=by
 have:se env t (.bool b)=env:=by
  funext j;by_cases hj:j=t
  ·subst hj;rw[E9,he]
  ·rw[J6 env _ hj]
 rw[this];exact hs
def Fb (C:Start) (Q:XQ):Exit->Act->World->Prop:=λe a w=>∃μ h S env,qb C μ h S env a w/\Q e env h
theorem zy (hs:qb C μ h S env a w) {ops:Array Oper} {j t:Nat} {b:Bool} (hj:(ops.toList[j]?).bind (·.dst)=some t) (he:env t=.bool b):yielded ops a.tmps j=some b:=by
 have hv:=hs.tmps t;rw[he]at hv;have hv:=hv.nZ
 have c:t<a.tmps.size:=by
  rcases aSf t a.tmps.size with h1 | h1
  ·exact h1
  ·rw[hs.far t (by rw[<-hs.size];exact h1)]at he;cases he
 unfold yielded;rw[aRP]at hj;rw[hj];simp only[aTn]
 have:a.tmps[t]? =some (.bool b):=by
  rw[aRK c];simp [c]at hv;rw[hv]
 rw[this]
theorem zA:cE μ h S w (.gJ []) undef:=⟨#[],rfl,rfl,λj pv hj=>by simp at hj⟩
theorem vg (hs:qb C μ h S env a w) {ops:Array Oper} {j t:Nat} (hj:(ops.toList[j]?).bind (·.dst)=some t) (he:env t=.gJ []):yielded ops a.tmps j=none:=by
 have hv:=hs.tmps t;rw[he]at hv;obtain⟨vs,hv,_⟩:=hv;unfold yielded;rw[aRP]at hj;rw[hj];simp only[aTn];rcases aSf t a.tmps.size with h1 | h1
 ·have:a.tmps[t]? =some (.tuple vs):=by
   rw[aRK h1];simp [h1]at hv;rw[hv]
  rw[this]
 ·rw[Array.getElem?_eq_none h1]
theorem zB {K:Env->List ao->Prop} (all:List Oper) (o:Oper) (rest:List Oper) (env:Env) (h:List ao) {j:Nat} {want:Bool} (hg:o.guard=some (j,want)):
  xB P T all K (o::rest) env h=(match(all[j]?).bind (·.dst)with
     | some t=>match env t with
      | .bool b=>iq b
        (match(generalizing:=false) want with
         | true=>pop P T o.op (se env t (.bool true)) h (λv h'=>xB P T all K rest (fZ (se env t (.bool true)) o.dst v) h')
         | false=>xB P T all K rest (fZ (se env t (.bool true)) o.dst (.gJ [])) h)
        (match(generalizing:=false) want with
         | true=>xB P T all K rest (fZ (se env t (.bool false)) o.dst (.gJ [])) h
         | false=>pop P T o.op (se env t (.bool false)) h (λv h'=>xB P T all K rest (fZ (se env t (.bool false)) o.dst v) h'))
      | .gJ []=>xB P T all K rest (fZ env o.dst (.gJ [])) h
      | _=>False
     | none=>False):=by
 obtain⟨dst,op,ty,pos,after,guard⟩:=o;have hg:guard=some (j,want):=hg;rw[hg];rfl
theorem zC (f:fL P T) (ops:Array Oper) {K:Env->List ao->Prop} {Q:Exit->Act->World->Prop} (g:∀env h a w μ S,K env h->qb C μ h S env a w->Q .normal a w):
  ∀(l:List Oper) (env:Env) (h:List ao) (a:Act) (w:World) (μ:Mu) (S:Nat->Prop),xB P T ops.toList K l env h->(∀o∈l,rL C.nt o=true)->qb C μ h S env a w->wpList P ops Q l a w
 | [],env,h,a,w,μ,S,hp,_,hs=>g env h a w μ S hp hs
 | o::rest,env,h,a,w,μ,S,hp,hd,hs=>by
  have d:∀t,o.dst=some t->t<C.nt:=λt i=>by
   have:=hd o aUG;unfold rL at this;rw[i]at this;simpa using this
  have e:∀o∈rest,rL C.nt o=true:=λo ho=>hd o (by simp [ho])
  have run:∀env',qb C μ h S env' a w->pop P T o.op env' h (λv h'=>xB P T ops.toList K rest (fZ env' o.dst v) h')->o.wp P a w (wpList P ops Q rest) Q:=λenv' c k=>by
   obtain⟨dst,op,ty,pos,after,guard⟩:=o;refine HJ (env:=env') f c.core c.tmps k _ _ λv val h' μ' S' w' m hv hc hf=>?_;exact zC f ops g rest _ h' _ w' μ' S' m e (c.put hf hc hv d)
  have skip:∀env',qb C μ h S env' a w->xB P T ops.toList K rest (fZ env' o.dst (.gJ [])) h->wpList P ops Q rest (a.put o.dst undef) w:=λenv' c k=>
   zC f ops g rest _ h _ w μ S k e (c.put Fr.refl c.core zA d)
  unfold wpList;cases hg:o.guard with
  | none=>
   have hp:pop P T o.op env h (λv h'=>xB P T ops.toList K rest (fZ env o.dst v) h'):=by
    exact aTH
   rw[At (by simp [Region.wanted,hg])];exact .inl (run env hs hp)
  | some p=>
   obtain⟨j,want⟩:=p;rw[zB ops.toList o rest env h hg]at hp;split at hp
   ·rename_i t hj;split at hp
    ·rename_i b he;have hy:=zy hs hj he;obtain⟨i,hf⟩:=lX hp;have c:=hs.Fa he;cases b with
     | true=>
      have hp:=i rfl;cases want with
      | true=>rw[At aUT];exact .inl (run _ c hp)
      | false=>rw[As aUT];exact skip _ c hp
     | false=>
      have hp:=hf rfl;cases want with
      | true=>rw[As aUT];exact skip _ c hp
      | false=>rw[At aUT];exact .inl (run _ c hp)
    ·rename_i he;rw[As aVo];exact skip _ hs hp
    ·exact aUd
   ·exact aUd
end
section
variable {P:Program}{T:ru}{μ:Mu}{h h1:List ao}{S:Nat->Prop}{w:World}
theorem Tp (hc:Core μ h S w) (hx:MS h h1):∃μ',Fr μ h S w μ' h1 S w/\Core μ' h1 S w:=by
 obtain⟨id,g,sz,n,e,f,i,j,P,A,e',D,F,f1,hh,hi,hj,aa,ad,rfl⟩:=hx;have hid:id<h.length:=(abF.1 hh).1;obtain⟨hl,bB⟩:=hc.heap id g sz n e f hh;have QE:j<sz:=by rw[<-hl i hi];exact(abF.1 hj).1
 have BF:∃b0 Q R v,μ id=some (b0,Q)/\w.heap[b0]? =some (.cells R e (0,0))/\Q+n*sz<=R.size/\R[Q+i*sz+j]? =some v/\nh S w (.fG P A e' D F) v/\
   ∀(i j:Nat) (pv:PV),i<n->(f i)[j]? =some pv->∃v:Value,R[Q+i*sz+j]? =some v/\qn μ h S w pv v:=by
  cases jS:μ id with
  | none=>rw[jS]at bB;have bB:n=0:=bB;omega
  | some p=>
   obtain⟨b0,Q⟩:=p;rw[jS]at bB;obtain⟨o,q1,l⟩:=bB;cases o with
   | cells R e0 z=>
    obtain⟨rfl,rfl,X,T⟩:=l;obtain⟨v,r1,s⟩:=T i j _ hi hj;exact⟨b0,Q,R,v,rfl,q1,X,r1,s,T⟩
   | map es c=>
    obtain⟨kp,vp,en,y1,y2,y3,_⟩:=l.2 i hi;rw[y1]at hj
    match j,hj with
    | 0,hj=>simp at hj;rw[hj]at y2;cases y2
    | 1,hj=>simp at hj;rw[hj]at y3;cases y3
    | y+2,hj=>simp at hj
   | _=>exact l.elim
 obtain⟨b0,Q,R,v,jS,Kx,yo,TX,a8,mB⟩:=BF;have C:∀b,F b->eR h id i j b:=λb m=>⟨_,_,_,_,_,_,_,_,_,_,hh,hi,hj,m⟩
 obtain⟨p,hp⟩:∃p:Option (Nat×Nat),match p with
   | none=>v=.slice none 0 0/\A=0
   | some (b,off)=>F b/\∃(c:Nat) (a:Addr) (cur:Array Value),w.heap[b]? =some (.cells cur e' (0,0))/\v=.slice (some a) A c/\A<=c/\(0<c->a=⟨b,off,none⟩)/\off+c*P<=cur.size/\(∀i,i<A->(D i).length=P)/\
     (∀(i j:Nat) (pv:PV),i<A->(D i)[j]? =some pv->∃u,cur[off+i*P+j]? =some u/\(bh S w pv u\/∃s2 n2 e2 f2 B,pv=.fG s2 n2 e2 f2 B/\nh S w (.fG s2 n2 e2 f2 B) u))/\
     (∀(i j oh n2:Nat) (e2:TypeId) (f2:Nat->List PV) (B:Nat->Prop),i<A->(D i)[j]? =some (.fG oh n2 e2 f2 B)->∀Y,B Y->F Y/\Y≠b)/\
     (∀(i j oh n2:Nat) (e2:TypeId) (f2:Nat->List PV) (B:Nat->Prop) (i' j' ag n3:Nat) (e3:TypeId) (f3:Nat->List PV) (F3:Nat->Prop),i<A->(D i)[j]? =some (.fG oh n2 e2 f2 B)->i'<A->(D i')[j']? =some (.fG ag n3 e3 f3 F3)->∀Y,B Y->F3 Y->i=i'/\j=j'):=by
  cases a8 with
  | nil _ _ _ _ hF=>exact⟨none,rfl,rfl⟩
  | FK _ _ _ _ _ b off c a cur vf hF m hlen a9 ha iQ a6 oV xl GI Nd=>
   refine⟨some (b,off),hF,c,a,cur,m,rfl,a9,ha,iQ,hlen,λi j pv hi hj=>⟨_,a6 i j pv hi hj,?_⟩,GI,Nd⟩;rcases oV i j pv hi hj with q | ⟨s2,n2,e2,f2,B,rfl⟩
   ·exact .inl q
   ·exact .inr ⟨s2,n2,e2,f2,B,rfl,xl i j _ _ _ _ _ hi hj⟩
 have U:∀b off,p=some (b,off)->F b:=λb off hq=>by subst hq;exact hp.1
 generalize G:h.set id (ao.row g sz n e f1)++[ao.row 0 P A e' D]=h1;have bj:h1.length=h.length+1:=by rw[<-G];simp
 have zD:h1[id]? =some (ao.row g sz n e f1):=by rw[<-G,aRJ (by simpa using hid)];simp [hid]
 have Df:h1[h.length]? =some (ao.row 0 P A e' D):=by rw[<-G,aRv aUG];simp
 have dP:∀k,k≠id->k<h.length->h1[k]? =h[k]?:=λk d t=>by rw[<-G,aRJ (by simpa using t),aRB (aSA d)]
 have inv:∀k o,h1[k]? =some o->(k=id/\o=ao.row g sz n e f1)\/(k=h.length/\o=ao.row 0 P A e' D)\/(k≠id/\k<h.length/\h[k]? =some o):=λk o d=>by
  by_cases h2:k=id
  ·subst h2;rw[zD]at d;injection d with d;exact .inl ⟨rfl,d.symm⟩
  ·by_cases H:k=h.length
   ·subst H;rw[Df]at d;injection d with d;exact .inr (.inl ⟨rfl,d.symm⟩)
   ·have E:k<h.length:=by have:=(abF.1 d).1;omega
    rw[dP k h2 E]at d;exact .inr (.inr ⟨h2,E,d⟩)
 let μ1:Mu:=oE μ h.length p
 have Fc:μ1 h.length=p:=bY _ _ _;have I:∀k,k<h.length->μ1 k=μ k:=λk d=>dH μ _ aUE
 have Fe:∀x y pv,x<n->(f1 x)[y]? =some pv->((x,y)=(i,j)/\pv=.own h.length 0 0 A)\/((x,y)≠(i,j)/\(f x)[y]? =some pv):=λx y pv hx hy=>by
  by_cases Z:x=i
  ·subst Z;rw[aa,List.getElem?_set]at hy;by_cases V:j=y
   ·subst V;rw[At rfl,At (by rw[hl x hx];exact QE)]at hy;injection hy with hy;exact .inl ⟨rfl,hy.symm⟩
   ·rw[As V]at hy;exact .inr ⟨λq=>V (by injection q with _ q;exact q.symm),hy⟩
  ·rw[ad x hx Z]at hy;exact .inr ⟨λq=>Z (by injection q),hy⟩
 have fx:∀k x y b,eR h1 k x y b->(k≠h.length/\¬(k=id/\x=i/\y=j)/\eR h k x y b)\/(k=h.length/\eR h id i j b/\∃oh n2 e2 f2 B,x<A/\(D x)[y]? =some (.fG oh n2 e2 f2 B)/\B b):=λk x y b ⟨g2,s2,n2,e2,f2,s3,n3,e3,f3,F3,q1,l,X,T⟩=>by
  rcases inv k _ q1 with⟨rfl,ho⟩ | ⟨rfl,ho⟩ | ⟨h2,H,E⟩
  ·injection ho with J K L M N;subst J K L M N;rcases Fe x y _ l X with⟨_,hq⟩ | ⟨qp,hq⟩
   ·cases hq
   ·exact .inl ⟨by omega,λ⟨_,b1,b2⟩=>qp (by rw[b1,b2]),_,_,_,_,_,_,_,_,_,_,hh,l,hq,T⟩
  ·injection ho with J K L M N;subst J K L M N;refine .inr ⟨rfl,C b ?_,_,_,_,_,_,l,X,T⟩;cases p with
   | none=>have:=hp.2;omega
   | some pp=>
    obtain⟨pb,W⟩:=pp;obtain⟨_,_,_,_,_,_,_,_,_,_,_,hs,_⟩:=hp;exact(hs x y _ _ _ _ _ l X b T).1
  ·exact .inl ⟨by omega,λ⟨b1,_⟩=>h2 b1,_,_,_,_,_,_,_,_,_,_,E,l,X,T⟩
 have Ff:∀b,Hx μ1 h1 b->Hx μ h b\/(∃off,p=some (b,off)):=λb ⟨k,g2,s2,n2,e2,f2,base,q1,l⟩=>by
  rcases inv k _ q1 with⟨rfl,ho⟩ | ⟨rfl,ho⟩ | ⟨h2,H,E⟩
  ·rw[I k hid]at l;exact .inl ⟨k,_,_,_,_,_,_,hh,l⟩
  ·rw[Fc]at l;exact .inr ⟨base,l⟩
  ·rw[I k H]at l;exact .inl ⟨k,_,_,_,_,_,_,E,l⟩
 have om:∀b,dL μ1 h1 b->dL μ h b:=λb m=>by
  rcases m with m | ⟨k,x,y,m⟩
  ·rcases Ff b m with q | ⟨off,q⟩
   ·exact .inl q
   ·exact .inr ⟨_,_,_,C b (U b off q)⟩
  ·rcases fx k x y b m with⟨_,_,q⟩ | ⟨_,q,_⟩
   ·exact aUD
   ·exact aUD
 have mi:Fr μ h S w μ1 h1 S w:=by
  refine⟨by omega,λ_ _ _=>rfl,λ_ m=>m,λ_ m=>.inl m,λb m=>.inl (om b m),Of _,rfl,rfl,rfl,λk g2 s2 n2 e2 f2 d=>?_,λk d=>?_,λ_ _ _ hc=>hc,λk g2 s2 n2 e2 f2 b base d hm ow=>⟨ow,.inr ⟨?_,?_⟩⟩,λ_ _ _ _ _ ow=>ow⟩
  ·have t:=(abF.1 d).1;by_cases AZ:k=id
   ·subst AZ;rw[hh]at d;injection d with d;injection d with J K L M N;subst J K L M N;rw[zD];exact⟨Of _,λ_=>⟨I _ hid,rfl,rfl,rfl⟩⟩
   ·rw[dP k AZ t,d];exact⟨Of _,λ_=>⟨I k t,rfl,rfl,rfl⟩⟩
  ·have t:=(abF.1 d).1;rw[dP k (by rintro rfl;rw[hh]at d;cases d) t];exact d
  ·have t:=(abF.1 d).1;by_cases AZ:k=id
   ·subst AZ;exact⟨_,_,_,_,_,zD⟩
   ·exact⟨_,_,_,_,_,(dP k AZ t).trans d⟩
  ·rw[I k (abF.1 d).1];exact hm
 refine⟨μ1,mi,⟨λk g2 s2 n2 e2 f2 d=>?_,⟨λb m=>hc.ok.apart b (om b m),λb m=>hc.ok.lt b (om b m),hc.ok.slt,?_,hc.ok.known,λb m k x y hx=>?_,λb k x y k' x' y' hx wh=>?_⟩⟩⟩
 ·rcases inv k _ d with⟨rfl,ho⟩ | ⟨rfl,ho⟩ | ⟨h2,H,E⟩
  ·injection ho with J K L M N;subst J K L M N;refine⟨λx hx=>?_,?_⟩
   ·by_cases Z:x=i
    ·subst Z;rw[aa,aSN];exact hl x hx
    ·rw[ad x hx Z];exact hl x hx
   ·rw[I k hid,jS];refine⟨_,Kx,rfl,rfl,yo,λx y pv hx hy=>?_⟩;rcases Fe x y pv hx hy with⟨hq,rfl⟩ | ⟨_,hq⟩
    ·injection hq with r1 s;subst r1 s;refine⟨v,TX,?_⟩;show bX μ1 h1 w h.length 0 0 A v;unfold bX;rw[Df];cases p with
     | none=>
      obtain⟨rfl,rfl⟩:=hp;exact⟨⟨_,_,_,rfl⟩,Of _,λ_=>⟨Of _,by rw[Fc]⟩⟩
     | some pp=>
      obtain⟨pb,W⟩:=pp;obtain⟨_,c,a,cur,t1,rfl,t3,t4,t5,_⟩:=hp;refine⟨⟨_,_,_,rfl⟩,Of _,λ_=>⟨by omega,?_⟩⟩;rw[Fc];exact⟨a,c,rfl,t3,λh0=>by rw[t4 h0];simp,cur,e',_,t1,by rw[aRf];exact t5⟩
    ·obtain⟨u,r1,s⟩:=mB x y pv hx hq;exact⟨u,r1,s.fr mi hc.ok (λ_ _ _ _ _ _ _ _=>rfl)⟩
  ·injection ho with J K L M N;subst J K L M N;rw[Fc];cases p with
   | none=>exact⟨λx hx=>by have:=hp.2;omega,hp.2⟩
   | some pp=>
    obtain⟨pb,W⟩:=pp;obtain⟨_,c,a,cur,t1,_,t3,_,t5,t6,t7,_,_⟩:=hp;refine⟨t6,_,t1,rfl,rfl,aSe (Nat.add_le_add_left (aRu _ t3) _) t5,λx y pv hx hy=>?_⟩;obtain⟨u,r1,s⟩:=t7 x y pv hx hy;refine⟨u,r1,?_⟩;rcases s with s | ⟨_,_,_,_,_,rfl,s⟩
    ·exact(db.mu s).k (bh.no s)
    ·exact s
  ·obtain⟨q1,l⟩:=hc.heap k _ _ _ _ _ E;refine⟨q1,?_⟩;rw[I k H];cases hm:μ k with
   | none=>rw[hm]at l;exact l
   | some pp=>
    obtain⟨b,base⟩:=pp;rw[hm]at l;obtain⟨o,r1,s⟩:=l;exact⟨o,r1,s.mono (λ_ _ _ _ _ _ hr=>hr.fr mi hc.ok (λ_ _ _ _ _ _ _ _=>rfl))⟩
 ·intro a b ga sa na ea fa gb sb nb eb fb FK o o' ha m bg ow
  have VD:∀k gk sk nk ek fk oo,h1[k]? =some (ao.row gk sk nk ek fk)->μ1 k=some (FK,oo)->(k=h.length/\F FK)\/(k<h.length/\∃gk sk nk ek fk,h[k]? =some (ao.row gk sk nk ek fk)/\μ k=some (FK,oo)):=λk gk sk nk ek fk oo d hm=>by
   rcases inv k _ d with⟨rfl,ho⟩ | ⟨rfl,ho⟩ | ⟨h2,H,E⟩
   ·rw[I k hid]at hm;exact .inr ⟨hid,_,_,_,_,_,hh,hm⟩
   ·rw[Fc]at hm;exact .inl ⟨rfl,U _ _ hm⟩
   ·rw[I k H]at hm;exact .inr ⟨H,_,_,_,_,_,E,hm⟩
  rcases VD a _ _ _ _ _ _ ha bg with⟨rfl,q⟩ | ⟨q0,_,_,_,_,_,q1,l⟩
  ·rcases VD b _ _ _ _ _ _ m ow with⟨rfl,_⟩ | ⟨r0,_,_,_,_,_,r1,s⟩
   ·rfl
   ·exact absurd (C FK q) (hc.ok.hv FK ⟨b,_,_,_,_,_,_,r1,s⟩ _ _ _)
  ·rcases VD b _ _ _ _ _ _ m ow with⟨rfl,r⟩ | ⟨r0,_,_,_,_,_,r1,s⟩
   ·exact absurd (C FK r) (hc.ok.hv FK ⟨a,_,_,_,_,_,_,q1,l⟩ _ _ _)
   ·exact hc.ok.inj a b _ _ _ _ _ _ _ _ _ _ _ _ _ q1 r1 l s
 ·rcases Ff b m with q | ⟨off,q⟩
  ·rcases fx k x y b hx with⟨_,_,r⟩ | ⟨_,r,_⟩
   ·exact hc.ok.hv b q _ _ _ r
   ·exact hc.ok.hv b q _ _ _ r
  ·rcases fx k x y b hx with⟨_,qp,r⟩ | ⟨_,r,oh,n2,e2,f2,B,r1,s,r3⟩
   ·exact qp (hc.ok.hh b _ _ _ _ _ _ r (C b (U b off q)))
   ·subst q;obtain⟨_,_,_,_,_,_,_,_,_,_,_,hs,_⟩:=hp;exact(hs x y _ _ _ _ _ r1 s b r3).2 rfl
 ·rcases fx k x y b hx with⟨k1,qp,r⟩ | ⟨rfl,r,oh,n2,e2,f2,B,r1,s,r3⟩
  ·rcases fx k' x' y' b wh with⟨k2,O,r'⟩ | ⟨rfl,r',_⟩
   ·exact hc.ok.hh b _ _ _ _ _ _ r r'
   ·exact absurd (hc.ok.hh b _ _ _ _ _ _ r r') qp
  ·rcases fx k' x' y' b wh with⟨k2,O,r'⟩ | ⟨rfl,r',ag,n3,e3,f3,F3,t1,t2,t3⟩
   ·exact absurd (hc.ok.hh b _ _ _ _ _ _ r' r) O
   ·cases p with
    | none=>have:=hp.2;omega
    | some pp=>
     obtain⟨pb,W⟩:=pp;obtain⟨_,_,_,_,_,_,_,_,_,_,_,_,hd⟩:=hp;obtain⟨e1,e2⟩:=hd x y _ _ _ _ _ x' y' _ _ _ _ _ r1 s t1 t2 b r3 t3;exact⟨rfl,e1,e2⟩
def FAb (μ:Mu) (h:List ao) (sub:Nat) (b:Nat):Prop:=(∃g sz n e f base,h[sub]? =some (ao.row g sz n e f)/\μ sub=some (b,base))\/∃x y,eR h sub x y b
theorem Tr (hc:Core μ h S w) {id i j sub:Nat} (hx:EZ h id i j sub (FAb μ h sub) h1):Fr μ h S w μ h1 S w/\Core μ h1 S w:=by
 obtain⟨g,sz,n,e,f,g2,oh,n2,e2,f2,f1,hh,hs,qp,hi,hj,ag,M,Y,rfl⟩:=hx;have hid:id<h.length:=(abF.1 hh).1;have a6:sub<h.length:=(abF.1 hs).1;obtain⟨hl,bB⟩:=hc.heap id g sz n e f hh;have QE:j<sz:=by rw[<-hl i hi];exact(abF.1 hj).1
 generalize s:FAb μ h sub=F;rw[s]at M
 have a8:∀b,F b->dL μ h b:=λb m=>by
  rw[<-s]at m;rcases m with⟨g,sz,n,e,f,base,q1,d⟩ | ⟨x,y,q⟩
  ·exact .inl ⟨sub,_,_,_,_,_,_,q1,d⟩
  ·exact aUD
 generalize I:(h.set id (ao.row g sz n e f1)).set sub ao.dead=h1;have zD:h1[id]? =some (ao.row g sz n e f1):=by rw[<-I,aRB (aSA qp)];simp [hid]
 have Dh:h1[sub]? =some ao.dead:=by rw[<-I,aSc (by simpa using a6)]
 have dP:∀k,k≠id->k≠sub->h1[k]? =h[k]?:=λk h2 A=>by rw[<-I,aRB (aSA A),aRB (aSA h2)]
 have inv:∀k gk B C D E,h1[k]? =some (ao.row gk B C D E)->k≠sub/\((k=id/\ao.row gk B C D E=ao.row g sz n e f1)\/(k≠id/\h[k]? =some (ao.row gk B C D E))):=λk gk B C D E l=>by
  have A:k≠sub:=by rintro rfl;rw[Dh]at l;cases l
  refine⟨A,?_⟩;by_cases h2:k=id
  ·subst h2;rw[zD]at l;injection l with l;exact .inl ⟨rfl,l.symm⟩
  ·rw[dP k h2 A]at l;exact .inr ⟨h2,l⟩
 have Fe:∀x y pv,x<n->(f1 x)[y]? =some pv->((x=i/\y=j)/\pv=.fG oh n2 e2 f2 F)\/(¬(x=i/\y=j)/\(f x)[y]? =some pv):=λx y pv hx hy=>by
  by_cases U:x=i
  ·subst U;rw[M,List.getElem?_set]at hy;by_cases N:j=y
   ·subst N;rw[At rfl,At (by rw[hl x hx];exact QE)]at hy;injection hy with hy;exact .inl ⟨⟨rfl,rfl⟩,hy.symm⟩
   ·rw[As N]at hy;exact .inr ⟨λq=>N q.2.symm,hy⟩
  ·rw[Y x hx U]at hy;exact .inr ⟨λq=>U q.1,hy⟩
 have Z:∀k x y b,eR h1 k x y b->(k=id/\x=i/\y=j/\F b)\/(k≠sub/\¬(k=id/\x=i/\y=j)/\eR h k x y b):=λk x y b ⟨g3,s3,n3,e3,f3,s4,n4,e4,f4,F4,q1,d,q3,V⟩=>by
  obtain⟨A,hq⟩:=inv k _ _ _ _ _ q1;rcases hq with⟨rfl,ho⟩ | ⟨h2,h4⟩
  ·injection ho with a1 a2 a3 a4 a5;subst a1 a2 a3 a4 a5;rcases Fe x y _ d q3 with⟨⟨r1,t⟩,hq⟩ | ⟨aa,hq⟩
   ·injection hq with _ _ _ _ hq;subst hq;exact .inl ⟨rfl,r1,t,V⟩
   ·exact .inr ⟨A,λ⟨_,b1⟩=>aa b1,_,_,_,_,_,_,_,_,_,_,hh,d,hq,V⟩
  ·exact .inr ⟨A,λ⟨b1,_⟩=>h2 b1,_,_,_,_,_,_,_,_,_,_,h4,d,q3,V⟩
 have Ff:∀b,Hx μ h1 b->∃k gk B C D E base,k≠sub/\h[k]? =some (ao.row gk B C D E)/\μ k=some (b,base):=λb ⟨k,g3,s3,n3,e3,f3,base,q1,d⟩=>by
  obtain⟨A,hq⟩:=inv k _ _ _ _ _ q1;rcases hq with⟨rfl,ho⟩ | ⟨h2,h4⟩
  ·exact⟨k,_,_,_,_,_,_,A,hh,d⟩
  ·exact⟨k,_,_,_,_,_,_,A,h4,d⟩
 have om:∀b,dL μ h1 b->dL μ h b:=λb m=>by
  rcases m with m | ⟨k,x,y,m⟩
  ·obtain⟨k,_,_,_,_,_,_,_,q1,d⟩:=Ff b m;exact .inl ⟨k,_,_,_,_,_,_,q1,d⟩
  ·rcases Z k x y b m with⟨_,_,_,q⟩ | ⟨_,_,q⟩
   ·exact a8 b q
   ·exact aUD
 have mi:Fr μ h S w μ h1 S w:=by
  refine⟨by rw[<-I];simp,λ_ _ _=>rfl,λ_ m=>m,λ_ m=>.inl m,λb m=>.inl (om b m),Of _,rfl,rfl,rfl,λk g3 s3 n3 e3 f3 l=>?_,λk l=>?_,λ_ _ _ hc=>hc,λk g3 s3 n3 e3 f3 b base l hm ow=>⟨ow,?_⟩,λ_ _ _ _ _ ow=>ow⟩
  ·by_cases AZ:k=id
   ·subst AZ;rw[hh]at l;injection l with l;injection l with a1 a2 a3 a4 a5;subst a1 a2 a3 a4 a5;rw[zD];exact aUB
   ·by_cases J:k=sub
    ·subst J;rw[Dh];trivial
    ·rw[dP k AZ J,l];exact aUB
  ·by_cases J:k=sub
   ·subst J;exact Dh
   ·rw[dP k (by rintro rfl;rw[hh]at l;cases l) J];exact l
  ·by_cases J:k=sub
   ·subst J;exact .inl Dh
   ·refine .inr ⟨?_,hm⟩;by_cases AZ:k=id
    ·subst AZ;exact⟨_,_,_,_,_,zD⟩
    ·exact⟨_,_,_,_,_,(dP k AZ J).trans l⟩
 have ad:∀k x y b,k≠sub->eR h k x y b->¬F b:=λk x y b l hx hF=>by
  rw[<-s]at hF;rcases hF with⟨_,_,_,_,_,_,q1,d⟩ | ⟨_,_,q⟩
  ·exact hc.ok.hv b ⟨sub,_,_,_,_,_,_,q1,d⟩ _ _ _ hx
  ·exact l (hc.ok.hh b _ _ _ _ _ _ hx q).1
 refine⟨mi,⟨λk g3 s3 n3 e3 f3 l=>?_,⟨λb m=>hc.ok.apart b (om b m),λb m=>hc.ok.lt b (om b m),hc.ok.slt,?_,hc.ok.known,λb m k x y hx=>?_,λb k x y k' x' y' hx wh=>?_⟩⟩⟩
 ·obtain⟨A,hq⟩:=inv k _ _ _ _ _ l;rcases hq with⟨rfl,ho⟩ | ⟨h2,h4⟩
  ·injection ho with a1 a2 a3 a4 a5;subst a1 a2 a3 a4 a5;refine⟨λx hx=>?_,?_⟩
   ·by_cases U:x=i
    ·subst U;rw[M,aSN];exact hl x hx
    ·rw[Y x hx U];exact hl x hx
   ·cases jS:μ k with
    | none=>rw[jS]at bB;exact bB
    | some p=>
     obtain⟨b0,Cq⟩:=p;rw[jS]at bB;obtain⟨o,q1,d⟩:=bB;refine⟨o,q1,?_⟩;cases o with
     | cells Ng e0 z=>
      obtain⟨rfl,rfl,q3,V⟩:=d;refine⟨rfl,rfl,q3,λx y pv hx hy=>?_⟩;rcases Fe x y pv hx hy with⟨⟨rfl,rfl⟩,rfl⟩ | ⟨_,hq⟩
      ·obtain⟨v,r1,t⟩:=V x y _ hx hj;refine⟨v,r1,?_⟩;show nh S w (.fG oh n2 e2 f2 F) v;have t:bX μ h w sub g2 0 n2 v:=t;unfold bX at t;rw[hs]at t;obtain⟨_,_,r3⟩:=t;obtain⟨_,W⟩:=r3 rfl;obtain⟨s1,s2⟩:=hc.heap sub _ _ _ _ _ hs;cases G:μ sub with
       | none=>
        rw[G]at W s2;have s2:n2=0:=s2;have W:v=.slice none 0 0:=W;subst s2 W;refine .nil _ _ _ _ (λb m=>?_);rw[<-s]at m;rcases m with⟨_,_,_,_,_,_,_,t2⟩ | ⟨x',y',t1,t2,t3,t4,t5,t6,t7,t8,t9,bo,K,u2,u3,u4⟩
        ·rw[G]at t2;cases t2
        ·rw[hs]at K;injection K with K;injection K with _ _ K _ _;omega
       | some p=>
        obtain⟨b,base⟩:=p;rw[G]at W s2;obtain⟨a,cap,rfl,t2,t3,t4⟩:=W;obtain⟨cur,K,u2,u3⟩:=dA.cells t4 s2
        have iQ:base+cap*oh<=cur.size:=by
         obtain⟨CU,e',z',X,p2⟩:=t4;rw[K]at X;injection X with X;injection X with X _ _;subst X;rw[aRf]at p2;exact p2
        have a9:Hx μ h b:=⟨sub,_,_,_,_,_,_,hs,G⟩;have O:∀(x y P Q:Nat) (R:TypeId) (T:Nat->List PV) (L:Nat->Prop),x<n2->(f2 x)[y]? =some (.fG P Q R T L)->∀H,L H->eR h sub x y H:=λx y P Q R T L hx hy H ta=>⟨_,_,_,_,_,_,_,_,_,_,hs,hx,hy,ta⟩;refine .FK oh n2 e2 f2 F b base cap a cur (λx y=>(cur[base+x*oh+y]?).getD undef) (by rw[<-s];exact .inl ⟨_,_,_,_,_,_,hs,G⟩) K s1 t2 (λh0=>by rw[t3 h0];simp) iQ (λx y pv hx hy=>?_) (λx y pv hx hy=>?_) (λx y P Q R T L hx hy=>?_) (λx y P Q R T L hx hy H ta=>?_) (λx y P Q R T L x' y' s6 n6 e6 f6 F6 hx hy wh bg H ta AV=>?_)
        ·obtain⟨u,w1,_⟩:=u3 x y pv hx hy;rw[w1];rfl
        ·obtain⟨u,w1,w2⟩:=u3 x y pv hx hy;rw[w1];rcases ag x hx pv (aRq hy)with z1 | z1
         ·exact .inl (BQ z1 w2.c)
         ·exact .inr (by cases pv<;>first | exact⟨_,_,_,_,_,rfl⟩ | cases z1)
        ·obtain⟨u,w1,w2⟩:=u3 x y _ hx hy;rw[w1];exact w2
        ·have hq:=O x y P Q R T L hx hy H ta;refine⟨by rw[<-s];exact .inr ⟨_,_,hq⟩,?_⟩;rintro rfl;exact hc.ok.hv H a9 _ _ _ hq
        ·exact(hc.ok.hh H _ _ _ _ _ _ (O x y P Q R T L hx hy H ta) (O x' y' s6 n6 e6 f6 F6 wh bg H AV)).2
      ·obtain⟨u,r1,t⟩:=V x y pv hx hq;exact⟨u,r1,t.fr mi hc.ok (λ_ _ _ _ _ _ _ _=>rfl)⟩
     | map es c=>
      obtain⟨kp,vp,en,y1,y2,y3,_⟩:=d.2 i hi;rw[y1]at hj
      match j,hj with
      | 0,hj=>simp at hj;rw[hj]at y2;cases y2
      | 1,hj=>simp at hj;rw[hj]at y3;cases y3
      | y+2,hj=>simp at hj
     | _=>exact d.elim
  ·obtain⟨q1,d⟩:=hc.heap k _ _ _ _ _ h4;refine⟨q1,?_⟩;cases hm:μ k with
   | none=>rw[hm]at d;exact d
   | some pp=>
    obtain⟨b,base⟩:=pp;rw[hm]at d;obtain⟨o,r1,t⟩:=d;exact⟨o,r1,t.mono (λ_ _ _ _ _ _ hr=>hr.fr mi hc.ok (λ_ _ _ _ _ _ _ _=>rfl))⟩
 ·intro a b ga sa na ea fa gb sb nb eb fb FK o o' ha m bj ow
  have VD:∀k gk B C D E,h1[k]? =some (ao.row gk B C D E)->∃gk B C D E,h[k]? =some (ao.row gk B C D E):=λk gk B C D E l=>by
   rcases(inv k _ _ _ _ _ l).2 with⟨rfl,_⟩ | ⟨_,q⟩
   ·exact⟨_,_,_,_,_,hh⟩
   ·exact⟨_,_,_,_,_,q⟩
  obtain⟨_,_,_,_,_,q1⟩:=VD a _ _ _ _ _ ha;obtain⟨_,_,_,_,_,d⟩:=VD b _ _ _ _ _ m;exact hc.ok.inj a b _ _ _ _ _ _ _ _ _ _ _ _ _ q1 d bj ow
 ·obtain⟨k0,_,_,_,_,_,_,q0,q1,d⟩:=Ff b m;rcases Z k x y b hx with⟨_,_,_,q⟩ | ⟨_,_,q⟩
  ·rw[<-s]at q;rcases q with⟨_,_,_,_,_,_,r1,t⟩ | ⟨_,_,r⟩
   ·exact q0 (hc.ok.inj k0 sub _ _ _ _ _ _ _ _ _ _ _ _ _ q1 r1 d t)
   ·exact hc.ok.hv b ⟨k0,_,_,_,_,_,_,q1,d⟩ _ _ _ r
  ·exact hc.ok.hv b ⟨k0,_,_,_,_,_,_,q1,d⟩ _ _ _ q
 ·rcases Z k x y b hx with⟨rfl,rfl,rfl,q⟩ | ⟨k1,_,q⟩
  ·rcases Z k' x' y' b wh with⟨rfl,rfl,rfl,_⟩ | ⟨k2,_,r⟩
   ·exact⟨rfl,rfl,rfl⟩
   ·exact absurd q (ad _ _ _ _ k2 r)
  ·rcases Z k' x' y' b wh with⟨rfl,rfl,rfl,r⟩ | ⟨k2,_,r⟩
   ·exact absurd r (ad _ _ _ _ k1 q)
   ·exact hc.ok.hh b _ _ _ _ _ _ q r
variable {C:Start}{env:Env}{a:Act}
theorem qb.turn (hs:qb C μ h S env a w) {μ':Mu} (hf:Fr μ h S w μ' h1 S w) (hc:Core μ' h1 S w):qb C μ' h1 S env a w:=
 ⟨hc,hs.fr.trans hf,λt=>(hs.tmps t).fr hf hs.core.ok,hs.size,hs.far,hs.defers⟩
theorem qb.ex (hs:qb C μ h S env a w) (hx:MS h h1):∃μ',qb C μ' h1 S env a w:=by
 obtain⟨μ',hf,hc⟩:=Tp hs.core hx;exact⟨μ',hs.turn hf hc⟩
theorem qb.ab (hs:qb C μ h S env a w) {id i j sub:Nat} {h1:(Nat->Prop)->List ao} (b:∀F,EZ h id i j sub F (h1 F)):∃F,qb C μ (h1 F) S env a w:=by
 obtain⟨hf,hc⟩:=Tr hs.core (b (FAb μ h sub));exact⟨_,hs.turn hf hc⟩
end
end Go.Am
