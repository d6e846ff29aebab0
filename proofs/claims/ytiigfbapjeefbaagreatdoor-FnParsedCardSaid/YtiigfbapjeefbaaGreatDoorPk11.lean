/- Texts of the proof, joined and shortened. -/
import Derived.Test.YtiigfbapjeefbaaGreatDoorPk10
import Derived.Lib.AtoiTie
set_option linter.unusedVariables false
set_option linter.unusedSimpArgs false
set_option maxRecDepth 100000
set_option maxHeartbeats 4000000
set_option synthInstance.maxSize 4000
namespace Go.Am
open Go Go.RowKit Go.Proofs
theorem Ve (t:av):∃v:Int,lV t=some v/\mI t=some v/\(v=0\/(1<=v/\v<=15/\fN v=some t)):=by
 have go:∀(k:Nat) (y:Int),1<=y->y+k=16->∃o,pT t y=some o/\nz t y=some o/\(o=.inl ()\/∃v,o=.inr v/\1<=v/\v<=15/\fN v=some t):=by
  intro k;induction k with
  | zero=>
   intro y h1 h2;rw[pT,nz,As aUE,As aUE];exact⟨_,rfl,rfl,.inl rfl⟩
  | succ k c=>
   intro y h1 h2;obtain⟨x,b,e2,_⟩:=sOp y h1 aUE;rw[pT,nz,At aUE,At aUE,b,sb,e2,sb];by_cases hx:x=t
   ·rw[At hx,At hx];exact⟨_,rfl,rfl,.inr ⟨y,rfl,h1,by omega,by rw[b,hx]⟩⟩
   ·rw[As hx,As hx,wW aUE aUE];exact c (y+1) aUE aUE
 obtain⟨o,h1,h2,a⟩:=go 15 1 aUE aUE;unfold lV mI;rw[h1,h2,sb];rcases a with rfl | ⟨v,rfl,a⟩
 ·exact⟨0,rfl,rfl,.inl rfl⟩
 ·exact⟨v,rfl,rfl,.inr a⟩
theorem Np {v:Int} (h1:1<=v) (h2:v<=15):∃k,eC v=some k/\lP v=some k/\6<=k/\k<=10:=by
 obtain⟨_,_,_,k,q1,a,b,c⟩:=sOp v h1 h2;exact⟨k,q1,a,b,c⟩
theorem asx {v:Int} (h1:1<=v) (h2:v<=15):fN v≠some [61]:=by
 obtain⟨n,rfl⟩:∃n:Nat,v=(n:Int):=⟨v.toNat,by omega⟩;have:n=1\/n=2\/n=3\/n=4\/n=5\/n=6\/n=7\/n=8\/n=9\/n=10\/n=11\/n=12\/n=13\/n=14\/n=15:=by omega
 rcases this with rfl | rfl | rfl | rfl | rfl | rfl | rfl | rfl | rfl | rfl | rfl | rfl | rfl | rfl | rfl<;>(unfold fN;intro h;revert h;decide)
def J9 (x:Option ((List ai)×Int×Int×Bool×(List ae)×Int×Int×av×(List ae))) (n:ae) (p:ak):Prop:=x=some (p.aq,p.bF,p.ay,p.ax,[],n.ah,n.aE,n.al,n.af)
theorem J9.run {x:Option ((List ai)×Int×Int×Bool×(List ae)×Int×Int×av×(List ae))} {n:ae} {p:ak} (h:J9 x n p):(x>>=λ(a,b,c,d,e,f,g,i,j)=>some ((ae.mk f g i j),(ak.mk a b c d)))=some (n,p):=by
 cases n;rw[h];rfl
section
variable {ts:List ai}{e e':Int}
theorem Rs.Ti {v:Bool} {D i:Nat} {s':JS} {k m:Int} {t b:av} {l c:List ae} (e:k≠7) (f:k≠4) (n:k≠8) (o:s'.Ok ts) (hle:i<=s'.pos) (p:1<=D) (q:∀j,s'=.d j->i<j)
  (hg:∀a,s'=.g a->i+1<a/\t=b/\l=c/\(t.length:Int)+(wl l:Int)+8192+16384*(i:Int)<=16384*(a:Int)):Rs ts v D (.g i) s' (.mk k m t l) (.mk k m b c):=
 ⟨o,hle,λa h=>by
  obtain⟨h1,rfl,rfl,h2⟩:=hg a h;exact⟨i,rfl,by omega,rfl,by rw[fD];omega,ra e,λ_ hh=>by omega⟩,λj hj=>⟨⟨i,rfl⟩,q j hj,p,λ_=>DV e f n⟩⟩
theorem akQ (H:Tk ts e) {i:Nat} (hi:i<=ts.length) (f:∀s,Lt ts i s->PC ts e e' s):C1 ts e e' true 1 (.g i) dy cH:=by
 have hs:(JS.g i).Ok ts:=hi
 have wrap:∀(a:Int) (s':JS) (n m:ae),i<ts.length->Rs ts true 1 (.g (i+1)) s' n m->Rs ts true 1 (.g i) s' (.mk 9 a [] [n]) (.mk 9 a [] [m]):=λa s' n m b h=>by
  refine Rs.Ti aUF aUF aUF h.ok (by have:i+1<=s'.pos:=h.le;omega) (Of _) (λj hj=>?_) (λl h'=>?_)
  ·have q:i+1<j:=(h.dm j hj).2.1;omega
  ·obtain⟨k,q1,p,o,r,_⟩:=h.good l h';cases q1;subst o;refine⟨by omega,rfl,rfl,?_⟩;rw[cy];simp only[An];omega
 cases h1:tw ts i [33]with
 | true=>
  have b:=cd h1;obtain⟨s',n,m,c,g2,d⟩:=(f _ (Lt.g (aRh i) b)).un;refine⟨s',_,_,?_,?_,wrap 1 s' n m b d⟩
  ·rw[dy];refine dC (ck H h1) ?_;refine a7 c ?_;rfl
  ·rw[cH];refine dC (bL H h1) ?_;refine a7 g2 ?_;rfl
 | false=>
  cases h2:tw ts i [45]with
  | true=>
   have b:=cd h2;obtain⟨s',n,m,c,g2,d⟩:=(f _ (Lt.g (aRh i) b)).un;refine⟨s',_,_,?_,?_,wrap 2 s' n m b d⟩
   ·rw[dy];refine bm (aZ (w:=[33]) H hs h1) ?_;refine dC (ck H h2) ?_;refine a7 c ?_;rfl
   ·rw[cH];refine bm (aF (w:=[33]) H hs h1) ?_;refine dC (bL H h2) ?_;refine a7 g2 ?_;rfl
  | false=>
   obtain⟨s',n,m,c,g2,d⟩:=Lr (e':=e') H hi f true;refine⟨s',n,m,?_,?_,d⟩
   ·rw[dy];refine bm (aZ (w:=[33]) H hs h1) ?_;refine bm (aZ (w:=[45]) H hs h2) ?_;rw[iZ];refine(gA (a:=(n,pS ts e s')) ?_).trans rfl;exact(gA c).trans rfl
   ·rw[cH];refine bm (aF (w:=[33]) H hs h1) ?_;refine bm (aF (w:=[45]) H hs h2) ?_;refine a7 g2 ?_;rfl
theorem eq6 (H:Tk ts e) {j:Nat} (h:tw ts j [61]=true):kd ts j=6:=by
 rw[<-aM H aUF aUF]at h;unfold aT at h;rw[No,aRi]at h;exact h.1
theorem Nq (H:Tk ts e) {i0:Nat} (P:∀s,Lt ts i0 s->PC ts e e' s) (c:Nat) (Q:6<=c) (V:c<=10):∀(N:Nat) (s:JS) (n m:ae),s.Ok ts->i0<=s.pos->(∀i,s=.g i->ts.length - i<N/\n=m/\Inv ts i0 i n)->(∀j,s=.d j->i0<j/\zJ m=false)->
  ∃s' E F,S9 (aG (c:Int) (pS ts e s).fT (pS ts e s).fI (pS ts e s).ay (pS ts e s).ax [] n.ah n.aE n.al n.af) E (pS ts e s')/\
   I9 (bP (c:Int) (qS ts e' s).aq (qS ts e' s).bF (qS ts e' s).ay (qS ts e' s).ax [] m.ah m.aE m.al m.af) F (qS ts e' s')/\Rs ts true 1 (.g i0) s' E F
 | N,.b j,n,m,hs,hp,_,_=>by
  refine⟨.b j,n,m,.inr ?_,.inr ?_,Rs.b hs hp⟩
  ·rw[aG,As (show ¬(pS ts e (.b j)).fI<((pS ts e (.b j)).fT.length:Int) fromλh=>by have h:(ts.length:Int)<ts.length:=h;omega)]
  ·rw[bP];simp only[jq,aRj]
 | N,.d j,n,m,hs,hp,_,hd=>by
  refine⟨.d j,n,m,.inr ?_,.inl ?_,⟨hs,hp,λi h=>aUZ,λj' h=>by cases h;exact⟨⟨i0,rfl⟩,(hd j rfl).1,Of _,λ_=>(hd j rfl).2⟩⟩⟩
  ·rw[aG,As (show ¬(pS ts e (.d j)).fI<((pS ts e (.d j)).fT.length:Int) fromλh=>by have h:(ts.length:Int)<ts.length:=h;omega)]
  ·obtain⟨v,K,w,A⟩:=Ve (tx ts j)
   have hv:v=0:=by
    rcases A with h | ⟨h1,h2,L⟩
    ·exact h
    ·rw[(G2 hs.2).2]at L;exact(asx h1 h2 L).elim
   subst hv;rw[bP];simp only[O8,aRc,du];refine nL H hs ?_;refine a7 (show mI (tok ts j).al=some 0 from w) ?_;refine nG (show(tok ts j).ah=6 from eq6 H hs.2) ?_;refine nG rfl ?_;rw[afL]
 | 0,.g i,n,m,_,_,h,_=>by have:=(h i rfl).1;omega
 | N+1,.g i,n,m,hs,hp,hinv,_=>by
  obtain⟨hN,rfl,inv⟩:=hinv i rfl;have hi:i<=ts.length:=hs;have hL:=H.len;have W:=inv.lt;have X:=inv.wt;obtain⟨k,a,t,l⟩:=n
  have next:∀(r B:Int) (f:JS) (x y:ae),r≠7->r≠4->r≠8->i<ts.length->Rs ts true 1 (.g (i+1)) f x y->(∀C,f=.g C->ts.length - C<N/\ae.mk r B [] [.mk k a t l,x]=.mk r B [] [.mk k a t l,y]/\Inv ts i0 C (.mk r B [] [.mk k a t l,x]))/\(∀j,f=.d j->i0<j/\zJ (.mk r B [] [.mk k a t l,y])=false)/\i0<=f.pos:=λr B f x y R Y Z o h=>by
   refine⟨λC h2=>?_,λj hj=>⟨?_,DV R Y Z⟩,by have:i+1<=f.pos:=h.le;omega⟩
   ·obtain⟨k1,q1,q2,q3,q4,_⟩:=h.good C h2;cases q1;subst q3;refine⟨by omega,rfl,⟨by omega,?_,ra R,λhh=>by omega⟩⟩;rw[fD,gv,cy];simp only[An];omega
   ·have q:i+1<j:=(h.dm j hj).2.1;omega
  have M:i<ts.length->(pS ts e (.g i)).fI<((pS ts e (.g i)).fT.length:Int):=λh=>by show(i:Int)<(ts.length:Int);omega
  have send:¬(i<ts.length/\kd ts i=6)->aG (c:Int) (pS ts e (.g i)).fT (pS ts e (.g i)).fI (pS ts e (.g i)).ay (pS ts e (.g i)).ax [] k a t l=some (.inl ((pS ts e (.g i)).fT,(pS ts e (.g i)).fI,(pS ts e (.g i)).ay,(pS ts e (.g i)).ax,[],k,a,t,l)):=λhh=>by
   rw[aG];by_cases o:i<ts.length
   ·rw[At (M o)];refine(gA (fJ o)).trans ?_;refine cf (show ¬(tok ts i).ah=6 fromλh=>hh ⟨o,h⟩) ?_;rfl
   ·rw[As (show ¬(pS ts e (.g i)).fI<((pS ts e (.g i)).fT.length:Int) fromλh=>by have h:(i:Int)<(ts.length:Int):=h;omega)]
  obtain⟨v,K,w,A⟩:=Ve (tx ts i);by_cases h:i<ts.length/\kd ts i=6
  ·obtain⟨o,G⟩:=h;have eA:(JS.g (i+1)).Ok ts:=o;by_cases p:v≠0/\lP v=some (c:Int)
   ·have D:=A.resolve_left p.1;obtain⟨I,J,u,S,T⟩:=Np D.1 D.2.1;have O:I=(c:Int):=aRO (u.symm.trans p.2);subst O;obtain⟨f,x,y,g1,g2,U⟩:=(P _ (Lt.g (show i0<i+1 by omega) o)).bin (c+1) aUE aUE;obtain⟨n1,n2,n3⟩:=next 10 v f x y aUF aUF aUF o U
    obtain⟨s',E,F,f1,f2,f3⟩:=Nq H P c Q V N f _ _ U.ok n3 n1 n2
    have ib:bA (qS ts e' (.g (i+1))) ((c+1:Nat):Int)=some (y,qS ts e' f):=by
     match c,Q with
     | z+6,_=>exact g2
    refine⟨s',E,F,?_,?_,f3⟩
    ·have key:aG (c:Int) (pS ts e (.g i)).fT (pS ts e (.g i)).fI (pS ts e (.g i)).ay (pS ts e (.g i)).ax [] k a t l=aG (c:Int) (pS ts e f).fT (pS ts e f).fI (pS ts e f).ay (pS ts e f).ax [] 10 v [] [.mk k a t l,x]:=by
      rw[aG,At (M o)];refine(gA (fJ o)).trans ?_;refine nG (show(tok ts i).ah=6 from G) ?_;refine(gA (fJ o)).trans ?_;refine a7 (show lV (tok ts i).al=some v from K) ?_;refine(gA (a:=((pS ts e (.g i)).fT,(pS ts e (.g i)).fI,(pS ts e (.g i)).ay,(pS ts e (.g i)).ax,false)) (As aUE)).trans ?_;refine cf are ?_;refine(gA (a:=((pS ts e (.g i)).fT,(pS ts e (.g i)).fI,(pS ts e (.g i)).ay,(pS ts e (.g i)).ax,false)) (As aUE)).trans ?_;refine cf are ?_;refine(gA (a:=true) ?_).trans ?_
      ·rw[At (show v>0 by omega),J,sb,aSZ]
      refine nG rfl ?_;rw[re H hi,ca aUE];refine a7 g1 ?_;rfl
     rw[show aG (c:Int) (pS ts e (.g i)).fT (pS ts e (.g i)).fI (pS ts e (.g i)).ay (pS ts e (.g i)).ax [] (ae.mk k a t l).ah (ae.mk k a t l).aE (ae.mk k a t l).al (ae.mk k a t l).af=_ from key];exact f1
    ·have key:bP (c:Int) (qS ts e' (.g i)).aq (qS ts e' (.g i)).bF (qS ts e' (.g i)).ay (qS ts e' (.g i)).ax [] k a t l=bP (c:Int) (qS ts e' f).aq (qS ts e' f).bF (qS ts e' f).ay (qS ts e' f).ax [] 10 v [] [.mk k a t l,y]:=by
      rw[bP];simp only[jo,aRc,du];refine nL H hs ?_;refine a7 (show mI (tok ts i).al=some v from w) ?_;refine nG (show(tok ts i).ah=6 from G) ?_;refine cf p.1 ?_;refine a7 p.2 ?_;refine nG rfl ?_;rw[qv H hi,ca aUE];refine a7 ib ?_;rfl
     rw[show bP (c:Int) (qS ts e' (.g i)).aq (qS ts e' (.g i)).bF (qS ts e' (.g i)).ay (qS ts e' (.g i)).ax [] (ae.mk k a t l).ah (ae.mk k a t l).aE (ae.mk k a t l).al (ae.mk k a t l).af=_ from key];exact f2
   ·refine⟨.g i,.mk k a t l,.mk k a t l,.inl ?_,.inl ?_,inv.rs hi⟩
    ·rw[aG,At (M o)];refine(gA (fJ o)).trans ?_;refine nG (show(tok ts i).ah=6 from G) ?_;refine(gA (fJ o)).trans ?_;refine a7 (show lV (tok ts i).al=some v from K) ?_;refine(gA (a:=((pS ts e (.g i)).fT,(pS ts e (.g i)).fI,(pS ts e (.g i)).ay,(pS ts e (.g i)).ax,false)) (As aUE)).trans ?_;refine cf are ?_;refine(gA (a:=((pS ts e (.g i)).fT,(pS ts e (.g i)).fI,(pS ts e (.g i)).ay,(pS ts e (.g i)).ax,false)) (As aUE)).trans ?_;refine cf are ?_;refine(gA (a:=false) ?_).trans ?_
     ·rcases A with rfl | ⟨h1,h2,L⟩
      ·rw[As aUF]
      ·obtain⟨I,J,u,S,T⟩:=Np h1 h2;rw[At (show v>0 by omega),J,sb,an.2 (λhh=>p ⟨by omega,by rw[u,hh]⟩)]
     refine cf are ?_;rfl
    ·rw[bP];simp only[jo,aRc,du];refine nL H hs ?_;refine a7 (show mI (tok ts i).al=some v from w) ?_;refine nG (show(tok ts i).ah=6 from G) ?_;by_cases hv:v=0
     ·refine nG hv ?_;rfl
     ·refine cf hv ?_;have D:=A.resolve_left hv;obtain⟨I,J,u,S,T⟩:=Np D.1 D.2.1;refine a7 u ?_;refine cf (show ¬I=(c:Int) fromλhh=>p ⟨hv,by rw[u,hh]⟩) ?_;rfl
  ·refine⟨.g i,.mk k a t l,.mk k a t l,.inr (send h),.inl ?_,inv.rs hi⟩;rw[bP];simp only[jo,aRc,du];refine nL H hs ?_;refine a7 (show mI (tok ts i).al=some v from w) ?_;refine cf (show ¬(tok ts i).ah=6 fromλhk=>h ⟨lC (by unfold kd;omega),hk⟩) ?_;rfl
theorem Nr (H:Tk ts e) {i0:Nat} (D:∀s,Lt ts i0 s->PC ts e e' s):∀(N:Nat) (s:JS) (n m:ae),s.Ok ts->i0<=s.pos->(∀i,s=.g i->ts.length - i<N/\n=m/\Inv ts i0 i n)->(∀j,s=.d j->i0<j/\zJ m=false)->
  ∃s' u z,S9 (aG 5 (pS ts e s).fT (pS ts e s).fI (pS ts e s).ay (pS ts e s).ax [] n.ah n.aE n.al n.af) u (pS ts e s')/\
   J9 (cj (qS ts e' s).aq (qS ts e' s).bF (qS ts e' s).ay (qS ts e' s).ax [] m.ah m.aE m.al m.af) z (qS ts e' s')/\Rs ts true 1 (.g i0) s' u z
 | N,.b j,n,m,hs,hp,_,_=>by
  refine⟨.b j,n,m,.inr ?_,?_,Rs.b hs hp⟩
  ·rw[aG,As (show ¬(pS ts e (.b j)).fI<((pS ts e (.b j)).fT.length:Int) fromλh=>by have h:(ts.length:Int)<ts.length:=h;omega)]
  ·rw[cj];rw[du];refine bm (aF (w:=[38,38]) H hs rfl) ?_;rfl
 | N,.d j,n,m,hs,hp,_,hd=>by
  refine⟨.d j,n,m,.inr ?_,?_,⟨hs,hp,λi h=>aUZ,λW h=>by cases h;exact⟨⟨i0,rfl⟩,(hd j rfl).1,Of _,λ_=>(hd j rfl).2⟩⟩⟩
  ·rw[aG,As (show ¬(pS ts e (.d j)).fI<((pS ts e (.d j)).fT.length:Int) fromλh=>by have h:(ts.length:Int)<ts.length:=h;omega)]
  ·rw[cj];rw[du];refine bm (aF (w:=[38,38]) H hs rfl) ?_;rfl
 | 0,.g i,n,m,_,_,h,_=>by have:=(h i rfl).1;omega
 | N+1,.g i,n,m,hs,hp,hinv,_=>by
  obtain⟨X,rfl,inv⟩:=hinv i rfl;have hi:i<=ts.length:=hs;have hL:=H.len;have I:=inv.lt;have J:=inv.wt;obtain⟨k,a,t,l⟩:=n
  have next:∀(o p:Int) (c:JS) (x y:ae),o≠7->o≠4->o≠8->i<ts.length->Rs ts true 1 (.g (i+1)) c x y->(∀r,c=.g r->ts.length - r<N/\ae.mk o p [] [.mk k a t l,x]=.mk o p [] [.mk k a t l,y]/\Inv ts i0 r (.mk o p [] [.mk k a t l,x]))/\(∀j,c=.d j->i0<j/\zJ (.mk o p [] [.mk k a t l,y])=false)/\i0<=c.pos:=λo p c x y E K L f h=>by
   refine⟨λr h2=>?_,λj hj=>⟨?_,DV E K L⟩,by have:i+1<=c.pos:=h.le;omega⟩
   ·obtain⟨k1,q1,Y,M,Z,_⟩:=h.good r h2;cases q1;subst M;refine⟨by omega,rfl,⟨by omega,?_,ra E,λhh=>by omega⟩⟩;rw[fD,gv,cy];simp only[An];omega
   ·have q:i+1<j:=(h.dm j hj).2.1;omega
  have B:i<ts.length->(pS ts e (.g i)).fI<((pS ts e (.g i)).fT.length:Int):=λh=>by show(i:Int)<(ts.length:Int);omega
  have send:¬(i<ts.length/\kd ts i=6)->aG 5 (pS ts e (.g i)).fT (pS ts e (.g i)).fI (pS ts e (.g i)).ay (pS ts e (.g i)).ax [] k a t l=some (.inl ((pS ts e (.g i)).fT,(pS ts e (.g i)).fI,(pS ts e (.g i)).ay,(pS ts e (.g i)).ax,[],k,a,t,l)):=λhh=>by
   rw[aG];by_cases f:i<ts.length
   ·rw[At (B f)];refine(gA (fJ f)).trans ?_;refine cf (show ¬(tok ts i).ah=6 fromλh=>hh ⟨f,h⟩) ?_;rfl
   ·rw[As (show ¬(pS ts e (.g i)).fI<((pS ts e (.g i)).fT.length:Int) fromλh=>by have h:(i:Int)<(ts.length:Int):=h;omega)]
  obtain⟨v,F,o2,O⟩:=Ve (tx ts i);cases hw:tw ts i [38,38]with
  | true=>
   have f:=cd hw
   have C:kd ts i=6:=by
    have A:=hw;rw[<-aM H aUF aUF]at A;unfold aT at A;rw[No,aRi]at A;exact A.1
   obtain⟨c,x,y,P,g2,G⟩:=(D _ (Lt.g (show i0<i+1 by omega) f)).bin 6 aUF aUF;obtain⟨Q,n2,R⟩:=next 11 0 c x y aUF aUF aUF f G
   obtain⟨s',u,z,S,f2,T⟩:=Nr H D N c _ _ G.ok R Q n2;refine⟨s',u,z,?_,?_,T⟩
   ·have key:aG 5 (pS ts e (.g i)).fT (pS ts e (.g i)).fI (pS ts e (.g i)).ay (pS ts e (.g i)).ax [] k a t l=aG 5 (pS ts e c).fT (pS ts e c).fI (pS ts e c).ay (pS ts e c).ax [] 11 0 [] [.mk k a t l,x]:=by
      rw[aG,At (B f)];refine(gA (fJ f)).trans ?_;refine nG (show(tok ts i).ah=6 from C) ?_;refine(gA (fJ f)).trans ?_;refine a7 (show lV (tok ts i).al=some v from F) ?_;refine(gA (a:=((pS ts e (.g i)).fT,(pS ts e (.g i)).fI,(pS ts e (.g i)).ay,(pS ts e (.g i)).ax,false)) (As aUF)).trans ?_;refine cf are ?_;refine(gA (a:=((pS ts e (.g (i+1))).fT,(pS ts e (.g (i+1))).fI,(pS ts e (.g (i+1))).ay,(pS ts e (.g (i+1))).ax,true)) ?_).trans ?_
      ·refine nG rfl ?_;refine a7 (ck H hw) ?_;rfl
      refine nG rfl ?_;refine a7 P ?_;rfl
    rw[show aG 5 (pS ts e (.g i)).fT (pS ts e (.g i)).fI (pS ts e (.g i)).ay (pS ts e (.g i)).ax [] (ae.mk k a t l).ah (ae.mk k a t l).aE (ae.mk k a t l).al (ae.mk k a t l).af=_ from key];exact S
   ·have key:cj (qS ts e' (.g i)).aq (qS ts e' (.g i)).bF (qS ts e' (.g i)).ay (qS ts e' (.g i)).ax [] k a t l=cj (qS ts e' c).aq (qS ts e' c).bF (qS ts e' c).ay (qS ts e' c).ax [] 11 0 [] [.mk k a t l,y]:=by
      rw[cj];rw[du];refine dC (bL H hw) ?_;refine a7 g2 ?_;rfl
    rw[show cj (qS ts e' (.g i)).aq (qS ts e' (.g i)).bF (qS ts e' (.g i)).ay (qS ts e' (.g i)).ax [] (ae.mk k a t l).ah (ae.mk k a t l).aE (ae.mk k a t l).al (ae.mk k a t l).af=_ from key];exact f2
  | false=>
   have fI:J9 (cj (qS ts e' (.g i)).aq (qS ts e' (.g i)).bF (qS ts e' (.g i)).ay (qS ts e' (.g i)).ax [] (ae.mk k a t l).ah (ae.mk k a t l).aE (ae.mk k a t l).al (ae.mk k a t l).af) (.mk k a t l) (qS ts e' (.g i)):=by
    show cj (qS ts e' (.g i)).aq (qS ts e' (.g i)).bF (qS ts e' (.g i)).ay (qS ts e' (.g i)).ax [] k a t l=_;rw[cj];rw[du];refine bm (aF (w:=[38,38]) H hs hw) ?_;rfl
   by_cases h:i<ts.length/\kd ts i=6
   ·obtain⟨f,C⟩:=h;refine⟨.g i,.mk k a t l,.mk k a t l,.inl ?_,fI,inv.rs hi⟩
    ·rw[aG,At (B f)];refine(gA (fJ f)).trans ?_;refine nG (show(tok ts i).ah=6 from C) ?_;refine(gA (fJ f)).trans ?_;refine a7 (show lV (tok ts i).al=some v from F) ?_;refine(gA (a:=((pS ts e (.g i)).fT,(pS ts e (.g i)).fI,(pS ts e (.g i)).ay,(pS ts e (.g i)).ax,false)) (As aUF)).trans ?_;refine cf are ?_;refine(gA (a:=((pS ts e (.g i)).fT,(pS ts e (.g i)).fI,(pS ts e (.g i)).ay,(pS ts e (.g i)).ax,false)) ?_).trans ?_
     ·refine nG rfl ?_;rw[jm];refine a7 (aZ (w:=[38,38]) H hs hw) ?_;rfl
     refine cf are ?_;refine(gA (a:=false) ?_).trans ?_
     ·rcases O with rfl | ⟨h1,h2,h3⟩
      ·rw[As aUF]
      ·obtain⟨U,V,v2,v3,v4⟩:=Np h1 h2;rw[At (show v>0 by omega),V,sb,an.2 (show U≠5 by omega)]
     refine cf are ?_;rfl
   ·exact⟨.g i,.mk k a t l,.mk k a t l,.inr (send h),fI,inv.rs hi⟩
theorem Tx (H:Tk ts e) {i0:Nat} (D:∀s,Lt ts i0 s->PC ts e e' s):∀(N:Nat) (s:JS) (n m:ae),s.Ok ts->i0<=s.pos->(∀i,s=.g i->ts.length - i<N/\n=m/\Inv ts i0 i n)->(∀j,s=.d j->i0<j/\zJ m=false)->
  ∃s' u z,S9 (aG 4 (pS ts e s).fT (pS ts e s).fI (pS ts e s).ay (pS ts e s).ax [] n.ah n.aE n.al n.af) u (pS ts e s')/\
   J9 (cw (qS ts e' s).aq (qS ts e' s).bF (qS ts e' s).ay (qS ts e' s).ax [] m.ah m.aE m.al m.af) z (qS ts e' s')/\Rs ts true 1 (.g i0) s' u z
 | N,.b j,n,m,hs,hp,_,_=>by
  refine⟨.b j,n,m,.inr ?_,?_,Rs.b hs hp⟩
  ·rw[aG,As (show ¬(pS ts e (.b j)).fI<((pS ts e (.b j)).fT.length:Int) fromλh=>by have h:(ts.length:Int)<ts.length:=h;omega)]
  ·rw[cw];rw[du];refine bm (aF (w:=[124,124]) H hs rfl) ?_;rfl
 | N,.d j,n,m,hs,hp,_,hd=>by
  refine⟨.d j,n,m,.inr ?_,?_,⟨hs,hp,λi h=>aUZ,λW h=>by cases h;exact⟨⟨i0,rfl⟩,(hd j rfl).1,Of _,λ_=>(hd j rfl).2⟩⟩⟩
  ·rw[aG,As (show ¬(pS ts e (.d j)).fI<((pS ts e (.d j)).fT.length:Int) fromλh=>by have h:(ts.length:Int)<ts.length:=h;omega)]
  ·rw[cw];rw[du];refine bm (aF (w:=[124,124]) H hs rfl) ?_;rfl
 | 0,.g i,n,m,_,_,h,_=>by have:=(h i rfl).1;omega
 | N+1,.g i,n,m,hs,hp,hinv,_=>by
  obtain⟨X,rfl,inv⟩:=hinv i rfl;have hi:i<=ts.length:=hs;have hL:=H.len;have I:=inv.lt;have J:=inv.wt;obtain⟨k,a,t,l⟩:=n
  have next:∀(o p:Int) (c:JS) (x y:ae),o≠7->o≠4->o≠8->i<ts.length->Rs ts true 1 (.g (i+1)) c x y->(∀r,c=.g r->ts.length - r<N/\ae.mk o p [] [.mk k a t l,x]=.mk o p [] [.mk k a t l,y]/\Inv ts i0 r (.mk o p [] [.mk k a t l,x]))/\(∀j,c=.d j->i0<j/\zJ (.mk o p [] [.mk k a t l,y])=false)/\i0<=c.pos:=λo p c x y E K L f h=>by
   refine⟨λr h2=>?_,λj hj=>⟨?_,DV E K L⟩,by have:i+1<=c.pos:=h.le;omega⟩
   ·obtain⟨k1,q1,Y,M,Z,_⟩:=h.good r h2;cases q1;subst M;refine⟨by omega,rfl,⟨by omega,?_,ra E,λhh=>by omega⟩⟩;rw[fD,gv,cy];simp only[An];omega
   ·have q:i+1<j:=(h.dm j hj).2.1;omega
  have B:i<ts.length->(pS ts e (.g i)).fI<((pS ts e (.g i)).fT.length:Int):=λh=>by show(i:Int)<(ts.length:Int);omega
  have send:¬(i<ts.length/\kd ts i=6)->aG 4 (pS ts e (.g i)).fT (pS ts e (.g i)).fI (pS ts e (.g i)).ay (pS ts e (.g i)).ax [] k a t l=some (.inl ((pS ts e (.g i)).fT,(pS ts e (.g i)).fI,(pS ts e (.g i)).ay,(pS ts e (.g i)).ax,[],k,a,t,l)):=λhh=>by
   rw[aG];by_cases f:i<ts.length
   ·rw[At (B f)];refine(gA (fJ f)).trans ?_;refine cf (show ¬(tok ts i).ah=6 fromλh=>hh ⟨f,h⟩) ?_;rfl
   ·rw[As (show ¬(pS ts e (.g i)).fI<((pS ts e (.g i)).fT.length:Int) fromλh=>by have h:(i:Int)<(ts.length:Int):=h;omega)]
  obtain⟨v,F,o2,O⟩:=Ve (tx ts i);cases hw:tw ts i [124,124]with
  | true=>
   have f:=cd hw
   have C:kd ts i=6:=by
    have A:=hw;rw[<-aM H aUF aUF]at A;unfold aT at A;rw[No,aRi]at A;exact A.1
   obtain⟨c,x,y,P,g2,G⟩:=(D _ (Lt.g (show i0<i+1 by omega) f)).bin 5 aUF aUF;obtain⟨Q,n2,R⟩:=next 12 0 c x y aUF aUF aUF f G
   obtain⟨s',u,z,S,f2,T⟩:=Tx H D N c _ _ G.ok R Q n2;refine⟨s',u,z,?_,?_,T⟩
   ·have key:aG 4 (pS ts e (.g i)).fT (pS ts e (.g i)).fI (pS ts e (.g i)).ay (pS ts e (.g i)).ax [] k a t l=aG 4 (pS ts e c).fT (pS ts e c).fI (pS ts e c).ay (pS ts e c).ax [] 12 0 [] [.mk k a t l,x]:=by
      rw[aG,At (B f)];refine(gA (fJ f)).trans ?_;refine nG (show(tok ts i).ah=6 from C) ?_;refine(gA (fJ f)).trans ?_;refine a7 (show lV (tok ts i).al=some v from F) ?_;refine(gA (a:=((pS ts e (.g (i+1))).fT,(pS ts e (.g (i+1))).fI,(pS ts e (.g (i+1))).ay,(pS ts e (.g (i+1))).ax,true)) ?_).trans ?_
      ·refine nG rfl ?_;refine a7 (ck H hw) ?_;rfl
      refine nG rfl ?_;refine a7 P ?_;rfl
    rw[show aG 4 (pS ts e (.g i)).fT (pS ts e (.g i)).fI (pS ts e (.g i)).ay (pS ts e (.g i)).ax [] (ae.mk k a t l).ah (ae.mk k a t l).aE (ae.mk k a t l).al (ae.mk k a t l).af=_ from key];exact S
   ·have key:cw (qS ts e' (.g i)).aq (qS ts e' (.g i)).bF (qS ts e' (.g i)).ay (qS ts e' (.g i)).ax [] k a t l=cw (qS ts e' c).aq (qS ts e' c).bF (qS ts e' c).ay (qS ts e' c).ax [] 12 0 [] [.mk k a t l,y]:=by
      rw[cw];rw[du];refine dC (bL H hw) ?_;refine a7 g2 ?_;rfl
    rw[show cw (qS ts e' (.g i)).aq (qS ts e' (.g i)).bF (qS ts e' (.g i)).ay (qS ts e' (.g i)).ax [] (ae.mk k a t l).ah (ae.mk k a t l).aE (ae.mk k a t l).al (ae.mk k a t l).af=_ from key];exact f2
  | false=>
   have fI:J9 (cw (qS ts e' (.g i)).aq (qS ts e' (.g i)).bF (qS ts e' (.g i)).ay (qS ts e' (.g i)).ax [] (ae.mk k a t l).ah (ae.mk k a t l).aE (ae.mk k a t l).al (ae.mk k a t l).af) (.mk k a t l) (qS ts e' (.g i)):=by
    show cw (qS ts e' (.g i)).aq (qS ts e' (.g i)).bF (qS ts e' (.g i)).ay (qS ts e' (.g i)).ax [] k a t l=_;rw[cw];rw[du];refine bm (aF (w:=[124,124]) H hs hw) ?_;rfl
   by_cases h:i<ts.length/\kd ts i=6
   ·obtain⟨f,C⟩:=h;refine⟨.g i,.mk k a t l,.mk k a t l,.inl ?_,fI,inv.rs hi⟩
    ·rw[aG,At (B f)];refine(gA (fJ f)).trans ?_;refine nG (show(tok ts i).ah=6 from C) ?_;refine(gA (fJ f)).trans ?_;refine a7 (show lV (tok ts i).al=some v from F) ?_;refine(gA (a:=((pS ts e (.g i)).fT,(pS ts e (.g i)).fI,(pS ts e (.g i)).ay,(pS ts e (.g i)).ax,false)) ?_).trans ?_
     ·refine nG rfl ?_;rw[jm];refine a7 (aZ (w:=[124,124]) H hs hw) ?_;rfl
     refine cf are ?_;refine(gA (a:=((pS ts e (.g i)).fT,(pS ts e (.g i)).fI,(pS ts e (.g i)).ay,(pS ts e (.g i)).ax,false)) (As aUF)).trans ?_;refine cf are ?_;refine(gA (a:=false) ?_).trans ?_
     ·rcases O with rfl | ⟨h1,h2,h3⟩
      ·rw[As aUF]
      ·obtain⟨U,V,v2,v3,v4⟩:=Np h1 h2;rw[At (show v>0 by omega),V,sb,an.2 (show U≠4 by omega)]
     refine cf are ?_;rfl
   ·exact⟨.g i,.mk k a t l,.mk k a t l,.inr (send h),fI,inv.rs hi⟩
theorem Q1 (H:Tk ts e) {i:Nat} (hi:i<=ts.length) (o:∀s,Lt ts i s->PC ts e e' s):∀k b:Nat,b+k=11->4<=b->C1 ts e e' true 1 (.g i) (λp=>bI p b) (awY b)
 | 0,b,h,_=>by
  obtain rfl:b=11:=h;obtain⟨s',n,m,q,g2,c⟩:=akQ (e':=e') H hi o;refine⟨s',n,m,?_,?_,c⟩
  ·show bI (pS ts e (.g i)) 11=_;rw[bI,At rfl];refine a7 q ?_;rfl
  ·show bA (qS ts e' (.g i)) 11=_;rw[bA,At aUF];refine a7 g2 ?_;rfl
 | k+1,b,h,A=>by
  obtain⟨a,n,m,q,g2,c⟩:=Q1 H hi o k (b+1) aUE aUE;have q:bI (pS ts e (.g i)) ((b+1:Nat):Int)=some (n,pS ts e a):=q
  have w:∀v,a=.g v->ts.length - v<ts.length+1/\n=m/\Inv ts i v n:=λv h1=>by
   subst h1;obtain⟨q1,x⟩:=c.inv;exact⟨by omega,q1,x⟩
  have y:∀j,a=.d j->i<j/\zJ m=false:=λj hj=>by
   obtain⟨_,x,_,B⟩:=c.dm j hj;exact⟨x,B rfl⟩
  have eS:∀(s':JS) (l:ae),S9 (aG (b:Int) (pS ts e a).fT (pS ts e a).fI (pS ts e a).ay (pS ts e a).ax [] n.ah n.aE n.al n.af) l (pS ts e s')->bI (pS ts e (.g i)) (b:Int)=some (l,pS ts e s'):=λs' l f=>by
   rw[bI,As aUE,ca aUE];refine a7 q ?_;exact f.run
  match b,A with
  | 4,_=>
   have g2:dT (qS ts e' (.g i))=some (m,qS ts e' a):=g2;obtain⟨s',l,r,t,f2,u⟩:=Tx (e':=e') H o _ a n m c.ok c.le w y;refine⟨s',l,r,eS _ _ t,?_,u⟩;show ff (qS ts e' (.g i))=_;rw[ff];refine a7 g2 ?_;exact f2.run
  | 5,_=>
   have g2:bA (qS ts e' (.g i)) 6=some (m,qS ts e' a):=g2;obtain⟨s',l,r,t,f2,u⟩:=Nr (e':=e') H o _ a n m c.ok c.le w y;refine⟨s',l,r,eS _ _ t,?_,u⟩;show dT (qS ts e' (.g i))=_;rw[dT];refine a7 g2 ?_;exact f2.run
  | z+6,_=>
   have g2:bA (qS ts e' (.g i)) ((z+6+1:Nat):Int)=some (m,qS ts e' a):=g2;obtain⟨s',l,r,t,f2,u⟩:=Nq (e':=e') H o (z+6) aUE aUE _ a n m c.ok c.le w y;refine⟨s',l,r,eS _ _ t,?_,u⟩;show bA (qS ts e' (.g i)) ((z+6:Nat):Int)=_;rw[bA,As aUE,ca aUE];refine a7 g2 ?_;exact f2.run
end
section
variable {ts cu:List ai}{e e2:Int}
theorem pM {i:Nat} (h:i<=4010):aP.mk ts (bq ((i:Int)+1)) e (-1)=P1 ts e (i+1):=by
 show aP.mk ts (bq ((i:Int)+1)) e (-1)=aP.mk ts ((i+1:Nat):Int) e (-1);rw[ca aUE]
theorem aMA:lV ([41]:av)=some 0:=by
 obtain⟨v,h1,_,d⟩:=Ve ([41]:av);rcases d with rfl | ⟨a,b,c⟩
 ·exact h1
 ·exfalso;have:v=1\/v=2\/v=3\/v=4\/v=5\/v=6\/v=7\/v=8\/v=9\/v=10\/v=11\/v=12\/v=13\/v=14\/v=15:=by omega
  rcases this with rfl | rfl | rfl | rfl | rfl | rfl | rfl | rfl | rfl | rfl | rfl | rfl | rfl | rfl | rfl<;>exact absurd c aUF
theorem Rl.aMB {β:Type} {B:β->Prop} {G:β->β->Prop} {r r':β} {y:Option β} (hy:y=some r') (h:G r r'):Rl B G (some r) y:=by rw[hy];exact Rl.ret h
end
section
variable {ts cu:List ai}{e e2:Int}
theorem aFV (H:Tk ts e) (c:Tk cu e2) (S:Sh ts cu) {i o:Nat} (hi:i<=ts.length) (ho:i+o<=ts.length+1) (b:o<=10) (k:Int) (w:av) (hw:k≠6\/(w≠[41]/\w≠[59]/\w≠[])) (a:k≠0:=by decide):
  bp (P1 ts e i) (o:Int) k w=some (aT ts (i+o) k w,P1 ts e i)/\bp (P1 cu e2 (i+1)) (o:Int) k w=some (aT ts (i+o) k w,P1 cu e2 (i+1)):=by
 have l:=S.len;refine⟨sAt H (.g i) hi o b k a w,(sAt c (.g (i+1)) (show i+1<=cu.length by omega) o b k a w).trans ?_⟩
 suffices aT cu (i+o+1) k w=aT ts (i+o) k w by
  show some (aT cu (i+1+o) k w,_)=_;rw[show i+1+o=i+o+1 by omega,this];rfl
 by_cases h:i+o<ts.length
 ·unfold aT;rw[(S.tok _ h).1,(S.tok _ h).2.2]
 ·have z:kd ts (i+o)=0:=by unfold kd;rw[uM h]
  have d:(kd ts (i+o)==k)=false:=by rw[z];exact an.2 (λq=>a q.symm)
  unfold aT;rw[d,aSj]
  have y:kd cu (i+o+1)=6/\(tx cu (i+o+1)=[41]\/tx cu (i+o+1)=[59]):=by
   rcases(show i+o=ts.length\/i+o=ts.length+1 by omega)with q | q
   ·rw[q];exact⟨S.k1,.inl S.t1⟩
   ·rw[q];exact⟨S.k2,.inr S.t2⟩
  rcases hw with hw | ⟨w1,f,j⟩
  ·rw[y.1,an.2 (λq=>hw q.symm),aSj]
  ·rw[an.2 j];rcases y.2 with q | q
   ·rw[q,an.2 (λq=>w1 q.symm)];simp
   ·rw[q,an.2 (λq=>f q.symm)];simp
theorem ak2 {a b:Int} (h:b<=a):uW a b=some b:=by
 unfold uW;split<;>first | rfl | (congr 1;omega)
end
theorem ab6 {ts cu:List ai} {e e2:Int} (H:Tk ts e) (f:Tk cu e2) (S:Sh ts cu):HF ts cu e e2 (Qe ts) aY aY:=by
 have all:=aLg (λa r=>Mo ts cu e e2 (Qe ts) gW a r) (λCd h9 NM tt NI Lo o=>MoL ts cu e e2 (Qe ts) pjL (λa b c d=>dF a b c d NI Lo) Cd h9 NM tt o) (λa r=>Mo ts cu e e2 (Qe ts) aY a r) (λa r=>Mo ts cu e e2 (Qe ts) eP a r) (λa r=>Mo ts cu e e2 (Qe ts) cW a r) (λa u r=>Mo ts cu e e2 (Qe ts) (λp=>bI p u) a r) (λu l y1 I J m k n s P o=>MoL ts cu e e2 (Qc ts) pjC (λa b c d=>aG u a b c d m k n s P) l y1 I J o) (λa r=>Mo ts cu e e2 (Qe ts) dy a r) (λa r=>Mo ts cu e e2 (Qe ts) iZ a r) (λa u r=>Mo ts cu e e2 (Qe ts) (λp=>dM p u) a r) (λu l y1 I J m k n s P o=>MoL ts cu e e2 (Qc ts) pjC (λa b c d=>aW u a b c d m k n s P) l y1 I J o) (λa u r=>Mo ts cu e e2 (Qe ts) (λp=>dx p u) a r) (λl y1 I J m o=>MoL ts cu e e2 (Qe ts) pjA (λa b c d=>di a b c d m) l y1 I J o) (λa r=>Mo ts cu e e2 (Qe ts) aH a r) (λa r=>Mo ts cu e e2 (Qe ts) bJ a r) (λl y1 I J m P o=>MoL ts cu e e2 (Qe ts) pjB (λa b c d=>cJ a b c d m P) l y1 I J o) (λa r=>Mo ts cu e e2 (Qs) bf a r) (λa r=>Mo ts cu e e2 (Qe ts) lW a r) (λa r=>Mo ts cu e e2 (Qe ts) kn a r) (λa r=>Mo ts cu e e2 (Qe ts) jG a r) (λa r=>Mo ts cu e e2 (Qe ts) ll a r) ?_ ?_ ?_ ?_ ?_ ?_ ?_ ?_ ?_ ?_ ?_ ?_ ?_ ?_ ?_ ?_ ?_ ?_ ?_ ?_ ?_;exact all.2.2.1;intro C h0;have hL:∀m l,HL ts cu e e2 (Qe ts) pjL (λa b c d=>dF a b c d m l) (λa b c d=>C a b c d m l):=λm l a b c d o q=>h0 a b c d m l o q;clear h0;refine HF.mk (λp z=>?_) (λi hi=>?_);rotate_left;rw[gW];rcases ja (w:=[93]) H f S hi (.inr aUF)with⟨h1,h2,B,G⟩ | ⟨h1,h2⟩;exact Rl.tT h1 h2 (Rl.ret (Gs.of (j:=i+1) ⟨by omega,rb G aUF⟩ B));refine Rl.tF h1 h2 (Rl.bind ((hL [] []).g hi) ?_ ?_);rintro(_ | _) hq<;>exact Bq.ret hq;rintro(_ | _) (_ | _) ho<;>exact Rl.ret ho;intro C D h0 h1 l y1 I J m P;have hL:∀m l,HL ts cu e e2 (Qe ts) pjL (λa b c d=>dF a b c d m l) (λa b c d=>C a b c d m l):=λm l a b c d o q=>h0 a b c d m l o q;have E:HF ts cu e e2 (Qe ts) aY D:=h1;clear h0 h1;revert l y1 I J;refine HL.mk (λl y1 I J z=>?_) (λi hi=>?_);rw[As z];exact Bq.ret z;try dsimp only
 rw[dF];refine Rl.ite aRW (λ_=>?_) (λq=>absurd aUF q);refine Rl.bind (E.g hi) ?_ ?_;rotate_left;rintro _ _ ho;obtain⟨j,v,⟨j1,j2⟩,j3,rfl,rfl⟩:=ho.out;refine Rl.bind (A:=λt=>¬t.2.2.2.1<0) (GA:=λt K=>∃(k:Nat) (l:List ae),t=(ts,(k:Int),e,-1,l)/\K=(cu,((k+1:Nat):Int),e2,-1,l)/\i<k/\k<=ts.length) ?_ ?_ ?_;rcases ja (w:=[61,62]) H f S j3 (.inr aUF)with⟨h1,h2,B,G⟩ | ⟨h1,h2⟩;refine Rl.tT h1 h2 (Rl.bind (E.g (i:=j+1) B) ?_ ?_);rotate_left;rintro _ _ ho;obtain⟨k,v2,⟨k1,k2⟩,k3,rfl,rfl⟩:=ho.out;exact Rl.one λl2 _=>Rl.ret ⟨k,l2,rfl,rfl,by omega,k3⟩;exact Rl.tF h1 h2 (Rl.ret ⟨j,_,rfl,rfl,j1,j3⟩);rotate_left;rintro _ _ ⟨k,l,rfl,rfl,k1,k2⟩;refine Rl.one λl2 _=>?_;rcases ja (w:=[44]) H f S k2 (.inr aUF)with⟨h1,h2,B,G⟩ | ⟨h1,h2⟩;exact Rl.tT h1 h2 (((hL m l2).g (i:=k+1) B).mono (λ_ _ h=>h.mono (λq hq=>⟨by have:=hq.1;omega,hq.2⟩)));refine Rl.tF h1 h2 (Rl.bind (ig H f S k2 [93]) ?_ ?_);rotate_left;rintro _ _ ⟨rfl,rfl,B,G⟩;exact Rl.ret (Gs.of (j:=k+1) ⟨by omega,rb G aUF⟩ B);intro C D h0 h1;have E:HF ts cu e e2 (Qe ts) aY C:=h0;have hD:HF ts cu e e2 (Qe ts) eP D:=h1;clear h0 h1;refine HF.mk (λp z=>?_) (λi hi=>?_);rotate_left;have hl:=H.len;rw[aY];refine Rl.bind (hD.g hi) ?_ ?_;rotate_left;rintro _ _ ho;obtain⟨j,v,⟨j1,j2⟩,j3,rfl,rfl⟩:=ho.out;obtain⟨R,a2⟩:=Jd H f S j3 6 [61] (.inr (.inr aUF));refine Rl.two R a2 ?_;refine Rl.ite aRW (λhc=>?_) (λ_=>Rl.ret (Gs.of ⟨j1,j2⟩ j3));have hc:aT ts j 6 [61]=true:=hc;have GJ:j<ts.length:=lC (by unfold aT at hc;rw[No,aRi]at hc;rw[hc.1];decide);refine Rl.one λb _=>?_;refine Rl.ite aRW (λ_=>?_) (λ_=>Rl.bad (Bq.bind (B5 H j3) aUU));dsimp only;rw[pN aUE,pN aUE];obtain⟨b1,b2⟩:=Jd H f S (i:=j+1) GJ 6 [38] (.inr (.inr aUF));refine Rl.two b1 b2 ?_;refine Rl.ite aRW (λhd=>?_) (λ_=>?_);have hd:aT ts (j+1) 6 [38]=true:=hd;have ib:j+1<ts.length:=lC (by unfold aT at hd;rw[No,aRi]at hd;rw[hd.1];decide);refine Rl.ite aRW (λ_=>?_) (λ_=>Rl.bad (Bq.bind (B5 H (i:=j+1) GJ) aUU));refine Rl.ite ?_ (λ_=>?_) (λ_=>Rl.bad (Bq.bind (B5 H (i:=j+1) GJ) aUU));show(j:Int)=bq ((i:Int)+1)↔((j+1:Nat):Int)=bq (((i+1:Nat):Int)+1);rw[ca aUE,ca aUE];omega;dsimp only;rw[pN aUE,pN aUE];refine Rl.bind (TZ H f S (i:=j+1+1) ib) ?_ ?_;rotate_left;rintro _ _ ⟨rfl,rfl,k4,k5⟩;exact Rl.ret (Gs.of (j:=j+1+1+1) ⟨by omega,DY k5 aUF aUF⟩ k4);refine Rl.bind (E.g (i:=j+1) GJ) ?_ ?_;rotate_left;rintro _ _ ho;obtain⟨k,v,⟨k1,k2⟩,k3,rfl,rfl⟩:=ho.out;exact Rl.ret (Gs.of ⟨by omega,k2⟩ k3);intro C D g2 h0 h1 h2;have E:HF ts cu e e2 (Qe ts) aY C:=h0;have hD:HF ts cu e e2 (Qe ts) eP D:=h1;have hQ:HF ts cu e e2 (Qe ts) cW g2:=h2;clear h0 h1 h2;refine HF.mk (λp z=>?_) (λi hi=>?_);rotate_left;rw[eP];refine Rl.bind (hQ.g hi) ?_ ?_;rotate_left;rintro _ _ ho;obtain⟨j,v,⟨j1,j2⟩,j3,rfl,rfl⟩:=ho.out;rcases ja (w:=[63]) H f S j3 (.inr aUF)with⟨h1,h2,B,G⟩ | ⟨h1,h2⟩;refine Rl.tT h1 h2 (Rl.bind (E.g (i:=j+1) B) ?_ ?_);rotate_left;rintro _ _ ho;obtain⟨k,v,⟨k1,k2⟩,k3,rfl,rfl⟩:=ho.out;refine Rl.bind (ig H f S k3 [58]) ?_ ?_;rotate_left;rintro _ _ ⟨rfl,rfl,k4,k5⟩;refine Rl.bind (hD.g (i:=k+1) k4) ?_ ?_;rotate_left;rintro _ _ ho;obtain⟨l,v,⟨l1,l2⟩,l3,rfl,rfl⟩:=ho.out;exact Rl.ret (Gs.of ⟨by omega,l2⟩ l3);exact Rl.tF h1 h2 (Rl.ret (Gs.of ⟨j1,j2⟩ j3));intro C D h0 h1;have hQ:HF ts cu e e2 (Qe ts) cW C:=h0;have hB:∀u,HF ts cu e e2 (Qe ts) (λp=>bI p u) (λp=>D p u):=λu a r q=>h1 a u r q;clear h0 h1;refine HF.mk (λp z=>?_) (λi hi=>?_);rotate_left;rw[cW];refine Rl.bind ((hB 4).g hi) ?_ ?_;rotate_left;rintro _ _ ho;obtain⟨j,v,⟨j1,j2⟩,j3,rfl,rfl⟩:=ho.out;rcases ja (w:=[63,63]) H f S j3 (.inr aUF)with⟨h1,h2,B,G⟩ | ⟨h1,h2⟩;refine Rl.tT h1 h2 (Rl.bind (hQ.g (i:=j+1) B) ?_ ?_);rotate_left;rintro _ _ ho;obtain⟨k,v,⟨k1,k2⟩,k3,rfl,rfl⟩:=ho.out;exact Rl.ret (Gs.of ⟨by omega,k2⟩ k3);exact Rl.tF h1 h2 (Rl.ret (Gs.of ⟨j1,j2⟩ j3));intro C D g2 h0 h1 h2 a R;have hB:∀u,HF ts cu e e2 (Qe ts) (λp=>bI p u) (λp=>C p u):=λu a r q=>h0 a u r q;have hL:∀u m k n s l,HL ts cu e e2 (Qc ts) pjC (λa b c d=>aG u a b c d m k n s l) (λa b c d=>D u a b c d m k n s l):=λu m k n s l a b c d o q=>h1 u a b c d m k n s l o q;have hU:HF ts cu e e2 (Qe ts) dy g2:=h2;clear h0 h1 h2;revert a;refine HF.mk (λp z=>?_) (λi hi=>?_);rotate_left;rw[bI];refine Rl.ite aRW (λ_=>?_) (λ_=>?_);refine Rl.bind (hU.g hi) ?_ ?_;rotate_left;exact aTE;refine Rl.bind ((hB _).g hi) ?_ ?_;rotate_left;rintro _ _ ho;obtain⟨j,v,⟨j1,j2⟩,j3,rfl,rfl⟩:=ho.out;refine Rl.bind ((hL _ _ _ _ _ _).g j3) ?_ ?_;rintro(_ | _) hq<;>exact Bq.ret hq;rintro(_ | _) (_ | _) ho<;>exact Rl.ret (ho.mono (λq hq=>⟨by have:=hq.1;omega,hq.2 j2⟩));intro C D h0 h1 R l y1 I J m k n s P;have hB:∀u,HF ts cu e e2 (Qe ts) (λp=>bI p u) (λp=>C p u):=λu a r q=>h0 a u r q;have hL:∀u m k n s l,HL ts cu e e2 (Qc ts) pjC (λa b c d=>aG u a b c d m k n s l) (λa b c d=>D u a b c d m k n s l):=λu m k n s l a b c d o q=>h1 u a b c d m k n s l o q;clear h0 h1;revert l y1 I J;refine HL.mk (λl y1 I J z=>?_) (λi hi=>?_);refine Bq.ite (Bq.any λ_=>Bq.ite (Bq.any λ_=>Bq.any λv=>Bq.bind (A:=λt=>¬t.2.2.2.1<0) ?_ ?_) (Bq.ret z)) (Bq.ret z);refine Bq.ite ?_ (Bq.ret z);refine Bq.bind (oS z) ?_;exact aUb;rintro⟨_,_,_,_,_⟩ hq;refine Bq.ite ?_ ?_;rotate_left;refine Bq.bind (A:=λt=>¬t.2.2.2.1<0) ?_ ?_;refine Bq.ite ?_ (Bq.ret hq);refine Bq.bind (oS hq) ?_;exact aUb;rintro⟨_,_,_,_,_⟩ hq;refine Bq.ite ?_ ?_;rotate_left;refine Bq.any λ_=>Bq.ite ?_ (Bq.ret hq);rotate_left;try dsimp only
 have hl:=H.len;have zK:=S.len;rw[aG];by_cases bg:i<ts.length;obtain⟨q1,_,L⟩:=S.tok i bg;have q1:(tok cu (i+1)).ah=(tok ts i).ah:=q1;have L:(tok cu (i+1)).al=(tok ts i).al:=L;refine Rl.ite (by constructor<;>intro _<;>omega) (λ_=>?_) (λq=>absurd (show(i:Int)<ts.length by omega) q);refine Rl.two (fJ bg) (fJ aUE) ?_;refine Rl.ite (by rw[q1]) (λ_=>?_) (λ_=>Rl.ret (Gs.of ⟨Of _,id⟩ hi));refine Rl.two (fJ bg) (fJ aUE) ?_;dsimp only;rw[L];refine Rl.one λv _=>?_;refine Rl.bind (A:=λ_=>False) (GA:=λt K=>∃(b:Bool) (k:Nat),t=(ts,(k:Int),e,-1,b)/\K=(cu,((k+1:Nat):Int),e2,-1,b)/\k<=ts.length/\(b=true->i+1=k)/\(b=false->i=k)) ?_ (λ_ q=>q.elim) ?_;refine Rl.ite aRW (λ_=>?_) (λ_=>Rl.ret ⟨false,i,rfl,rfl,hi,by simp,by simp⟩);rcases ja (w:=[124,124]) H f S hi (.inr aUF)with⟨h1,h2,B,G⟩ | ⟨h1,h2⟩;exact Rl.two h1 h2 (Rl.ret ⟨true,i+1,rfl,rfl,B,by simp,by simp⟩);exact Rl.two h1 h2 (Rl.ret ⟨false,i,rfl,rfl,hi,by simp,by simp⟩);rintro _ _ ⟨b,k,rfl,rfl,k1,k2,k3⟩;refine Rl.ite aRW (λz=>?_) (λz=>?_);obtain rfl:=k2 z;refine Rl.bind ((hB 5).g (i:=i+1) k1) ?_ ?_;rotate_left;exact aTx;obtain rfl:=k3 (by simpa using z);refine Rl.bind (A:=λ_=>False) (GA:=λt K=>∃(b:Bool) (k:Nat),t=(ts,(k:Int),e,-1,b)/\K=(cu,((k+1:Nat):Int),e2,-1,b)/\k<=ts.length/\(b=true->i+1=k)/\(b=false->i=k)) ?_ (λ_ q=>q.elim) ?_;refine Rl.ite aRW (λ_=>?_) (λ_=>Rl.ret ⟨false,i,rfl,rfl,hi,by simp,by simp⟩);rcases ja (w:=[38,38]) H f S hi (.inr aUF)with⟨h1,h2,B,G⟩ | ⟨h1,h2⟩;exact Rl.two h1 h2 (Rl.ret ⟨true,i+1,rfl,rfl,B,by simp,by simp⟩);exact Rl.two h1 h2 (Rl.ret ⟨false,i,rfl,rfl,hi,by simp,by simp⟩);rintro _ _ ⟨b,k,rfl,rfl,k1,k2,k3⟩;refine Rl.ite aRW (λz=>?_) (λz=>?_);obtain rfl:=k2 z;refine Rl.bind ((hB 6).g (i:=i+1) k1) ?_ ?_;rotate_left;exact aTx;obtain rfl:=k3 (by simpa using z);refine Rl.one λb _=>?_;refine Rl.ite aRW (λ_=>?_) (λ_=>Rl.ret (Gs.of ⟨Of _,id⟩ hi));dsimp only;rw[pM aUE,pM aUE];refine Rl.bind ((hB _).g (i:=i+1) aUE) ?_ ?_;rotate_left;exact aTx;obtain rfl:i=ts.length:=by omega
 rw[As aUE,At aUE,fJ aUE,sb,At (show(tok cu (ts.length+1)).ah=6 from S.k1),sb,show(tok cu (ts.length+1)).al=[41]from S.t1,aMA,sb];have f2:∀w:av,w≠[]->w≠[41]->az (aP.mk cu ((ts.length+1:Nat):Int) e2 (-1)) w=some (false,P1 cu e2 (ts.length+1)):=λw hn hw=>aZ f (s:=.g (ts.length+1)) (show ts.length+1<=cu.length by omega) (S.aw4 hw) hn;have c1:∀(u:Int) (w:av),w≠[]->w≠[41]->(if R=u then az (aP.mk cu ((ts.length+1:Nat):Int) e2 (-1)) w>>=λx=>some (x.2.fT,x.2.fI,x.2.ay,x.2.ax,x.1)else some (cu,((ts.length+1:Nat):Int),e2,-1,false))=some (cu,((ts.length+1:Nat):Int),e2,(-1:Int),false):=λu w hn hw=>by split<;>first | rfl | (rw[f2 w hn hw];rfl)
 refine Rl.aMB (r':=.inr (ae.mk k n s P,P1 cu e2 (ts.length+1))) ?_ (Gs.of (Q:=Qc ts ts.length) (v:=ae.mk k n s P) ⟨Of _,id⟩ hi);refine(gA (c1 4 [124,124] aUF aUF)).trans ?_;dsimp only;rw[As aUF];refine(gA (c1 5 [38,38] aUF aUF)).trans ?_;dsimp only;rw[As aUF,As aUF,sb,As aUF];rfl;intro C D h0 h1;have hU:HF ts cu e e2 (Qe ts) dy C:=h0;have hP:HF ts cu e e2 (Qe ts) iZ D:=h1;clear h0 h1;refine HF.mk (λp z=>?_) (λi hi=>?_);rotate_left;rw[dy];rcases ja (w:=[33]) H f S hi (.inr aUF)with⟨h1,h2,B,G⟩ | ⟨h1,h2⟩;refine Rl.tT h1 h2 (Rl.bind (hU.g (i:=i+1) B) ?_ ?_);rotate_left;rintro _ _ ho;obtain⟨j,v,⟨j1,j2⟩,j3,rfl,rfl⟩:=ho.out;exact Rl.ret (Gs.of ⟨by omega,j2⟩ j3);refine Rl.tF h1 h2 ?_;rcases ja (w:=[45]) H f S hi (.inr aUF)with⟨h1,h2,B,G⟩ | ⟨h1,h2⟩;refine Rl.tT h1 h2 (Rl.bind (hU.g (i:=i+1) B) ?_ ?_);rotate_left;rintro _ _ ho;obtain⟨j,v,⟨j1,j2⟩,j3,rfl,rfl⟩:=ho.out;exact Rl.ret (Gs.of ⟨by omega,j2⟩ j3);refine Rl.tF h1 h2 (Rl.bind (hP.g hi) ?_ ?_);rotate_left;exact aTE;intro C h0;have hC:∀u,HF ts cu e e2 (Qe ts) (λp=>dM p u) (λp=>C p u):=λu a r q=>h0 a u r q;clear h0;refine HF.mk (λp z=>?_) (λi hi=>?_);rotate_left;rw[iZ];refine Rl.bind ((hC true).g hi) ?_ ?_;rotate_left;exact aTE;intro C D h0 h1 a R;have hL:∀u m k n s l,HL ts cu e e2 (Qc ts) pjC (λa b c d=>aW u a b c d m k n s l) (λa b c d=>C u a b c d m k n s l):=λu m k n s l a b c d o q=>h0 u a b c d m k n s l o q;have hM:HF ts cu e e2 (Qe ts) aH D:=h1;clear h0 h1;revert a;refine HF.mk (λp z=>?_) (λi hi=>?_);rotate_left;rw[dM];refine Rl.bind (hM.g hi) ?_ ?_;rotate_left;rintro _ _ ho;obtain⟨j,v,⟨j1,j2⟩,j3,rfl,rfl⟩:=ho.out;refine Rl.bind ((hL _ _ _ _ _ _).g j3) ?_ ?_;rintro(_ | _) hq<;>exact Bq.ret hq;rintro(_ | _) (_ | _) ho<;>exact Rl.ret (ho.mono (λq hq=>⟨by have:=hq.1;omega,hq.2 j2⟩));intro C D g2 h0 h1 h2 R l y1 I J m k n s P;have E:HF ts cu e e2 (Qe ts) aY C:=h0;have hL:∀u m k n s l,HL ts cu e e2 (Qc ts) pjC (λa b c d=>aW u a b c d m k n s l) (λa b c d=>D u a b c d m k n s l):=λu m k n s l a b c d o q=>h1 u a b c d m k n s l o q;have M:∀u,HF ts cu e e2 (Qe ts) (λp=>dx p u) (λp=>g2 p u):=λu a r q=>h2 a u r q;clear h0 h1 h2;revert l y1 I J;refine HL.mk (λl y1 I J z=>?_) (λi hi=>?_);rw[As z];exact Bq.ret z;try dsimp only
 rw[aW];refine Rl.ite aRW (λ_=>?_) (λq=>absurd aUF q);rcases ja (w:=[91]) H f S hi (.inr aUF)with⟨h1,h2,B,G⟩ | ⟨h1,h2⟩;refine Rl.tT h1 h2 ?_;refine Rl.ite aRW (λ_=>?_) (λ_=>?_);refine Rl.one λb _=>?_;refine Rl.ite aRW (λ_=>?_) (λ_=>?_);rcases ja (w:=[93]) H f S (i:=i+1) B (.inr aUF)with⟨D,g2,g3,g4⟩ | ⟨D,g2⟩;refine Rl.tT D g2 ?_;refine Rl.bind (ig H f S (i:=i+1+1) g3 [61]) ?_ ?_;rotate_left;rintro _ _ ⟨rfl,rfl,k3,k4⟩;refine Rl.bind (E.g (i:=i+1+1+1) k3) ?_ ?_;rotate_left;rintro _ _ ho;obtain⟨j,v,⟨j1,j2⟩,j3,rfl,rfl⟩:=ho.out;exact Rl.ret (Gs.of ⟨by omega,λ_=>j2⟩ j3);refine Rl.tF D g2 ?_;refine Rl.bind (E.g (i:=i+1) B) ?_ ?_;rotate_left;rintro _ _ ho;obtain⟨j,v,⟨j1,j2⟩,j3,rfl,rfl⟩:=ho.out;refine Rl.bind (ig H f S j3 [93]) ?_ ?_;rotate_left;exact aTM;refine Rl.bind (E.g (i:=i+1) B) ?_ ?_;rotate_left;rintro _ _ ho;obtain⟨j,v,⟨j1,j2⟩,j3,rfl,rfl⟩:=ho.out;refine Rl.bind (ig H f S j3 [93]) ?_ ?_;rotate_left;exact aTM;refine Rl.bind (E.g (i:=i+1) B) ?_ ?_;rotate_left;rintro _ _ ho;obtain⟨j,v,⟨j1,j2⟩,j3,rfl,rfl⟩:=ho.out;refine Rl.bind (ig H f S j3 [93]) ?_ ?_;rotate_left;exact aTM;refine Rl.tF h1 h2 ?_;rcases ja (w:=[45,62]) H f S hi (.inr aUF)with⟨h1,h2,B,G⟩ | ⟨h1,h2⟩;refine Rl.tT h1 h2 ?_;refine Rl.bind (B6 H f S (i:=i+1) B 3) ?_ ?_;rotate_left;rintro _ _ ⟨rfl,rfl,k3,k4⟩;obtain⟨b1,b2⟩:=Jd H f S (i:=i+1+1) k3 6 [40] (.inr (.inr aUF));refine Rl.two b1 b2 ?_;refine Rl.ite aRW (λ_=>?_) (λ_=>?_);refine Rl.bind ((M _).g (i:=i+1+1) k3) ?_ ?_;rotate_left;exact aTx;exact((hL _ _ _ _ _ _).g (i:=i+1+1) k3).mono (λ_ _ h=>h.mono (λq hq=>⟨by have:=hq.1;omega,λ_=>hq.2 (DY k4 aUF aUF)⟩));refine Rl.tF h1 h2 ?_;obtain⟨b1,b2⟩:=Jd H f S hi 6 [40] (.inr (.inr aUF));refine Rl.two b1 b2 ?_;refine Rl.ite aRW (λ_=>?_) (λ_=>Rl.ret (Gs.of ⟨Of _,id⟩ hi));refine Rl.bind ((M _).g hi) ?_ ?_;rotate_left;exact aTx;intro C h0 a R;have M:∀m,HL ts cu e e2 (Qe ts) pjA (λa b c d=>di a b c d m) (λa b c d=>C a b c d m):=λm a b c d o q=>h0 a b c d m o q;clear h0;revert a;refine HF.mk (λp z=>?_) (λi hi=>?_);rotate_left;rw[dx];refine Rl.bind (ig H f S hi [40]) ?_ ?_;rotate_left;rintro _ _ ⟨rfl,rfl,B,G⟩;by_cases bg:i+1<ts.length;rcases ja (w:=[41]) H f S (i:=i+1) B (.inl bg)with⟨h1,h2,h5,h6⟩ | ⟨h1,h2⟩;exact Rl.tT h1 h2 (Rl.ret (Gs.of (j:=i+1+1) ⟨by omega,rb h6 aUF⟩ h5));refine Rl.tF h1 h2 (Rl.bind ((M R).g (i:=i+1) B) ?_ ?_);rintro(_ | _) hq<;>exact Bq.ret hq;rintro(_ | _) (_ | _) ho<;>exact Rl.ret (ho.mono (λq hq=>⟨by have:=hq.1;omega,hq.2⟩));have hn:i+1=ts.length:=by omega
 refine Rl.bad ?_;rw[hn,aov H [41]];refine Bq.bind (A:=λo=>o=(false,P1 ts e ts.length)) (λr q=>by cases q;rfl) ?_;rintro _ rfl;dsimp only;rw[As are];refine Bq.bind (A:=λo=>rX (pjA o).2) (λo q=>?_) ?_;rcases(M R).g (Of _) o q with h | ⟨o',_,ho⟩;exact h;obtain⟨j,v,⟨j1,_⟩,j2,_⟩:=ho.out;omega;rintro(_ | _) hq<;>exact Bq.ret hq;intro C D h0 h1 l y1 I J m;have E:HF ts cu e e2 (Qe ts) aY C:=h0;have M:∀m,HL ts cu e e2 (Qe ts) pjA (λa b c d=>di a b c d m) (λa b c d=>D a b c d m):=λm a b c d o q=>h1 a b c d m o q;clear h0 h1;revert l y1 I J;refine HL.mk (λl y1 I J z=>?_) (λi hi=>?_);rw[As z];exact Bq.ret z;try dsimp only
 rw[di];refine Rl.ite aRW (λ_=>?_) (λq=>absurd aUF q);refine Rl.bind (E.g hi) ?_ ?_;rotate_left;rintro _ _ ho;obtain⟨j,v,⟨j1,j2⟩,j3,rfl,rfl⟩:=ho.out;refine Rl.one λl2 _=>?_;rcases ja (w:=[44]) H f S j3 (.inr aUF)with⟨h1,h2,B,G⟩ | ⟨h1,h2⟩;exact Rl.tT h1 h2 (((M l2).g (i:=j+1) B).mono (λ_ _ h=>h.mono (λq hq=>⟨by have:=hq.1;omega,hq.2⟩)));refine Rl.tF h1 h2 (Rl.bind (ig H f S j3 [41]) ?_ ?_);rotate_left;rintro _ _ ⟨rfl,rfl,B,G⟩;exact Rl.ret (Gs.of (j:=j+1) ⟨by omega,rb G aUF⟩ B);intro C D g2 g3 h0 h1 h2 B;have fb:HF ts cu e e2 (Qe ts) gW C:=h0;have E:HF ts cu e e2 (Qe ts) aY D:=h1;have M:∀u,HF ts cu e e2 (Qe ts) (λp=>dx p u) (λp=>g2 p u):=λu a r q=>h2 a u r q;have F:HF ts cu e e2 (Qe ts) bJ g3:=B;clear h0 h1 h2 B;refine HF.mk (λp z=>?_) (λi hi=>?_);refine Bq.ite ?_ ?_;rotate_left;refine Bq.any λ_=>Bq.ite (Bq.ret z) (Bq.ite (Bq.ret z) (Bq.ite ?_ ?_));rotate_left;refine Bq.bind (oS z) ?_;rintro⟨_,p⟩ z;refine Bq.ite ?_ ?_;rotate_left;refine Bq.bind (oS z) ?_;rintro⟨_,p⟩ z;refine Bq.ite ?_ ?_;rotate_left;refine Bq.bind (oS z) ?_;rintro⟨_,p⟩ z;refine Bq.ite ?_ ?_;rotate_left;refine Bq.bind (oS z) ?_;rintro⟨_,p⟩ z;refine Bq.ite ?_ ?_;rotate_left;refine Bq.bind (oS z) ?_;rintro⟨_,p⟩ z;refine Bq.ite ?_ ?_;rotate_left;refine Bq.bind (oS z) ?_;rintro⟨_,p⟩ z;refine Bq.ite ?_ ?_;rotate_left;refine Bq.bind (oS z) ?_;rintro⟨_,p⟩ z;refine Bq.ite ?_ ?_;rotate_left;refine Bq.bind (A:=λo=>match o with | .inr r=>rX r.2 | .inl x=>¬x.2.2.2.1<0) ?_ ?_;rotate_left;rintro(⟨_,_,_,y,_⟩ | ⟨_,_⟩) hq;have hq:¬y<0:=hq;rotate_left;exact Bq.ret hq;rw[aH];have hl:=H.len;have zK:=S.len;by_cases bg:i<ts.length;obtain⟨q1,q2,L⟩:=S.tok i bg;have q1:(tok cu (i+1)).ah=(tok ts i).ah:=q1;have L:(tok cu (i+1)).al=(tok ts i).al:=L;rw[As (show ¬(P1 ts e i).fI>=((P1 ts e i).fT.length:Int) by show ¬(i:Int)>=(ts.length:Int);omega),As (show ¬(P1 cu e2 (i+1)).fI>=((P1 cu e2 (i+1)).fT.length:Int) by show ¬((i+1:Nat):Int)>=(cu.length:Int);omega)];refine Rl.two (a:=tok ts i) (b:=tok cu (i+1)) (fJ bg) (fJ (ts:=cu) (i:=i+1) aUE) ?_;refine Rl.ite (by rw[q1]) (λc=>?_) (λ_=>?_);try dsimp only
 rw[pN aUE,pN aUE,q2];exact Rl.ret (Gs.of (j:=i+1) ⟨by omega,DY c aUF aUF⟩ bg);refine Rl.ite (by rw[q1]) (λc=>?_) (λ_=>?_);try dsimp only
 rw[pN aUE,pN aUE,L];exact Rl.ret (Gs.of (j:=i+1) ⟨by omega,DY c aUF aUF⟩ bg);refine Rl.ite (by rw[q1]) (λc=>?_) (λ_=>?_);refine Rl.bind (TZ H f S (i:=i) hi) ?_ ?_;rotate_left;rintro _ _ ⟨rfl,rfl,ih,iQ⟩;exact Rl.ret (Gs.of (j:=i+1) ⟨by omega,(DY iQ aUF aUF)⟩ ih);rcases ja (w:=[110,117,108,108]) H f S (i:=i) hi (.inr aUF)with⟨T,U,fc,fe⟩ | ⟨T,U⟩;refine Rl.tT T U ?_;exact Rl.ret (Gs.of (j:=i+1) ⟨by omega,(rb fe aUF)⟩ fc);refine Rl.tF T U ?_;rcases ja (w:=[102,97,108,115,101]) H f S (i:=i) hi (.inr aUF)with⟨V,W,fi,fj⟩ | ⟨V,W⟩;refine Rl.tT V W ?_;exact Rl.ret (Gs.of (j:=i+1) ⟨by omega,(rb fj aUF)⟩ fi);refine Rl.tF V W ?_;rcases ja (w:=[116,114,117,101]) H f S (i:=i) hi (.inr aUF)with⟨X,Y,fk,fo⟩ | ⟨X,Y⟩;refine Rl.tT X Y ?_;exact Rl.ret (Gs.of (j:=i+1) ⟨by omega,(rb fo aUF)⟩ fk);refine Rl.tF X Y ?_;rcases ja (w:=[91]) H f S (i:=i) hi (.inr aUF)with⟨Z,aa,fx,p3⟩ | ⟨Z,aa⟩;refine Rl.tT Z aa ?_;refine Rl.bind (fb.g (i:=i+1) fx) ?_ ?_;rotate_left;rintro _ _ iR;obtain⟨i2,qX,⟨q0,i3⟩,i4,rfl,rfl⟩:=iR.out;exact Rl.ret (Gs.of (j:=i2) ⟨by omega,i3⟩ i4);refine Rl.tF Z aa ?_;rcases ja (w:=[40]) H f S (i:=i) hi (.inr aUF)with⟨ad,ag,fz,p4⟩ | ⟨ad,ag⟩;refine Rl.tT ad ag ?_;refine Rl.bind (E.g (i:=i+1) fz) ?_ ?_;rotate_left;rintro _ _ i5;obtain⟨fV,q4,⟨q5,q6⟩,i6,rfl,rfl⟩:=i5.out;refine Rl.bind (ig H f S (i:=fV) i6 [41]) ?_ ?_;rotate_left;rintro _ _ ⟨rfl,rfl,i7,i9⟩;exact Rl.ret (Gs.of (j:=fV+1) ⟨by omega,(rb i9 aUF)⟩ i7);refine Rl.tF ad ag ?_;rcases ja (w:=[110,101,119]) H f S (i:=i) hi (.inr aUF)with⟨a3,a4,eE,p5⟩ | ⟨a3,a4⟩;refine Rl.tT a3 a4 ?_;rcases ja (w:=[115,116,97,116,105,99]) H f S (i:=i+1) eE (.inr aUF)with⟨a5,a6,f1,p6⟩ | ⟨a5,a6⟩;refine Rl.tT a5 a6 ?_;refine Rl.bind ((M _).g (i:=i+1+1) f1) ?_ ?_;rotate_left;rintro _ _ jb;obtain⟨jf,q7,⟨q8,jP⟩,jS,rfl,rfl⟩:=jb.out;exact Rl.ret (Gs.of (j:=jf) ⟨by omega,jP⟩ jS);refine Rl.tF a5 a6 ?_;refine Rl.bind (B6 H f S (i:=i+1) eE 3) ?_ ?_;rotate_left;rintro _ _ ⟨rfl,rfl,j0,q9⟩;refine Rl.bind ((M _).g (i:=i+1+1) j0) ?_ ?_;rotate_left;rintro _ _ ka;obtain⟨kb,rh,⟨ri,kc⟩,kh,rfl,rfl⟩:=ka.out;exact Rl.ret (Gs.of (j:=kb) ⟨by omega,kc⟩ kh);refine Rl.tF a3 a4 ?_;rcases ja (w:=[102,117,110,99,116,105,111,110]) H f S (i:=i) hi (.inr aUF)with⟨a8,a9,f3,p7⟩ | ⟨a8,a9⟩;refine Rl.tT a8 a9 ?_;refine Rl.bind (RW H f S 24 _ (i:=i+1) f3) ?_ ?_;rotate_left;rintro _ _ kk;obtain⟨eK,ry,⟨rD,rO⟩,f4,rfl,rfl⟩:=kk.out;rcases ja (w:=[117,115,101]) H f S (i:=eK) f4 (.inr aUF)with⟨bj,bo,f5,p8⟩ | ⟨bj,bo⟩;refine Rl.tT bj bo ?_;refine Rl.bind (RW H f S 25 _ (i:=eK+1) f5) ?_ ?_;rotate_left;rintro _ _ ko;obtain⟨kp,rQ,⟨rR,rT⟩,kq,rfl,rfl⟩:=ko.out;refine Rl.bind (F.g (i:=kp) kq) ?_ ?_;rotate_left;rintro _ _ ks;obtain⟨kz,rU,⟨rV,kA⟩,kF,rfl,rfl⟩:=ks.out;refine Rl.one λ_ _=>?_;exact Rl.ret (Gs.of (j:=kz) ⟨by omega,kA⟩ kF);refine Rl.tF bj bo ?_;refine Rl.bind (F.g (i:=eK) f4) ?_ ?_;rotate_left;rintro _ _ kH;obtain⟨kM,rW,⟨r2,kS⟩,kT,rfl,rfl⟩:=kH.out;refine Rl.one λ_ _=>?_;exact Rl.ret (Gs.of (j:=kM) ⟨by omega,kS⟩ kT);refine Rl.tF a8 a9 ?_;refine Rl.bind (A:=λo=>match o with | .inr r=>rX r.2 | .inl x=>¬x.2.2.2.1<0) (GA:=λo o'=>(∃(k:Nat) (s:av),o=.inl (ts,(k:Int),e,-1,s)/\o'=.inl (cu,((k+1:Nat):Int),e2,-1,s)/\i<k/\k<=ts.length)\/∃r r',o=.inr r/\o'=.inr r'/\Gs ts cu e e2 (Qe ts i) r r') ?_ ?_ ?_;rcases ja (w:=[115,116,97,116,105,99]) H f S (i:=i) hi (.inr aUF)with⟨br,bs,f6,qa⟩ | ⟨br,bs⟩;refine Rl.tT br bs ?_;exact Rl.ret (.inl ⟨i+1,_,rfl,rfl,by omega,f6⟩);refine Rl.tF br bs ?_;refine Rl.bind (B6 H f S (i:=i) hi 3) ?_ ?_;rotate_left;rintro _ _ ⟨rfl,rfl,eL,r3⟩;obtain⟨k6,la⟩:=Jd H f S (i:=i+1) eL 6 [40] (.inr (.inr aUF));refine Rl.two k6 la ?_;refine Rl.ite aRW (λbt=>?_) (λ_=>?_);have bt:aT ts (i+1) 6 [40]=true:=bt;have r4:i+1<ts.length:=lC (by unfold aT at bt;rw[No,aRi]at bt;rw[bt.1];decide);refine Rl.bind ((M _).g (i:=i+1) eL) ?_ ?_;rotate_left;rintro _ _ lb;obtain⟨lf,r5,⟨r6,lk⟩,lp,rfl,rfl⟩:=lb.out;exact Rl.ret (.inr ⟨_,_,rfl,rfl,Gs.of (j:=lf) ⟨by omega,lk⟩ lp⟩);exact Rl.ret (.inl ⟨i+1,_,rfl,rfl,by omega,eL⟩);rintro(⟨_,_,_,y,_⟩ | ⟨_,_⟩) hq;have hq:¬y<0:=hq;rotate_left;exact Bq.ret hq;rintro _ _ (⟨x,s,rfl,rfl,x1,x2⟩ | ⟨r,r',rfl,rfl,hr⟩);refine Rl.bind (ig H f S (i:=x) x2 [58,58]) ?_ ?_;rotate_left;rintro _ _ ⟨rfl,rfl,lu,r7⟩;refine Rl.one λ_ _=>?_;refine Rl.bind (B6 H f S (i:=x+1) lu 3) ?_ ?_;rotate_left;rintro _ _ ⟨rfl,rfl,lv,r8⟩;refine Rl.one λ_ _=>?_;refine Rl.bind ((M _).g (i:=x+1+1) lv) ?_ ?_;rotate_left;rintro _ _ lx;obtain⟨ly,r9,⟨sa,lQ⟩,lR,rfl,rfl⟩:=lx.out;exact Rl.ret (Gs.of (j:=ly) ⟨by omega,lQ⟩ lR);exact Rl.ret hr;refine Rl.bad ?_;rw[At (show(P1 ts e i).fI>=((P1 ts e i).fT.length:Int) by show(i:Int)>=(ts.length:Int);omega)];refine Bq.bind (B5 H hi) ?_;exact aUb;intro C h0;have F:∀m l,HL ts cu e e2 (Qe ts) pjB (λa b c d=>cJ a b c d m l) (λa b c d=>C a b c d m l):=λm l a b c d o q=>h0 a b c d m l o q;clear h0;refine HF.mk (λp z=>?_) (λi hi=>?_);refine Bq.bind (DZ z) ?_;intro q hq;refine Bq.bind ((F _ _).b hq) ?_;exact aUa;rw[bJ];refine Rl.bind (ig H f S hi [123]) ?_ ?_;intro q hq;refine Bq.bind ((F _ _).b hq) ?_;exact aUa;rintro _ _ ⟨rfl,rfl,k3,k4⟩;refine Rl.bind ((F _ _).g (i:=i+1) k3) ?_ ?_;exact aUa;rintro⟨t,i1,e1,b1,x,l⟩ ⟨K,lY,l4,l5,x',l'⟩ ho;obtain⟨j,j1,j2,j3,j4,j5⟩:=ho;exact Rl.ret (r:=(ae.mk 48 0 [] l,aP.mk t i1 e1 b1)) (r':=(ae.mk 48 0 [] l',aP.mk K lY l4 l5)) ⟨j,⟨by have:=j1.1;omega,j1.2⟩,j2,j3,j4,congrArg (ae.mk 48 0 []) j5⟩;intro C D h0 h1 l y1 I J m P;have F:∀m l,HL ts cu e e2 (Qe ts) pjB (λa b c d=>cJ a b c d m l) (λa b c d=>C a b c d m l):=λm l a b c d o q=>h0 a b c d m l o q;have hS:HF ts cu e e2 (Qs) bf D:=h1;clear h0 h1;revert l y1 I J;refine HL.mk (λl y1 I J z=>?_) (λi hi=>?_);rw[As z];exact Bq.ret z;try dsimp only
 rw[cJ];refine Rl.ite aRW (λ_=>?_) (λq=>absurd aUF q);rcases ja (w:=[125]) H f S hi (.inr aUF)with⟨h1,h2,B,G⟩ | ⟨h1,h2⟩;refine Rl.tT h1 h2 ?_;exact Rl.ret (Gs.of (Q:=Qe ts i) (j:=i+1) ⟨by omega,rb G aUF⟩ B);refine Rl.tF h1 h2 ?_;rcases ja (w:=[59]) H f S hi (.inr aUF)with⟨h1,h2,B,G⟩ | ⟨h1,h2⟩;refine Rl.tT h1 h2 ?_;exact((F _ _).g (i:=i+1) B).mono (λ_ _ h=>h.mono (λq hq=>⟨by have:=hq.1;omega,hq.2⟩));refine Rl.tF h1 h2 (Rl.bind (hS.g hi) ?_ ?_);rotate_left;rintro _ _ ho;obtain⟨j,v,j1,j3,rfl,rfl⟩:=ho.out;have j1:i<j:=j1;exact Rl.one λl2 _=>((F _ _).g j3).mono (λ_ _ h=>h.mono (λq hq=>⟨by have:=hq.1;omega,hq.2⟩));intro C D g2 g3 g4 g5 g6 h0 h1 h2 B G h5 h6;have E:HF ts cu e e2 (Qe ts) aY C:=h0;have hC:∀u,HF ts cu e e2 (Qe ts) (λp=>dM p u) (λp=>D p u):=λu a r q=>h1 a u r q;have F:HF ts cu e e2 (Qe ts) bJ g2:=h2;have hT:HF ts cu e e2 (Qe ts) lW g3:=B;have f7:HF ts cu e e2 (Qe ts) kn g4:=G;have hP:HF ts cu e e2 (Qe ts) jG g5:=h5;have ew:HF ts cu e e2 (Qe ts) ll g6:=h6;clear h0 h1 h2 B G h5 h6;refine HF.mk (λp z=>?_) (λi hi=>?_);refine Bq.bind (bAt z) ?_;rintro⟨_,p⟩ z;refine Bq.ite ?_ ?_;rotate_left;refine Bq.bind (bAt z) ?_;rintro⟨_,p⟩ z;refine Bq.ite ?_ ?_;rotate_left;refine Bq.bind (oS z) ?_;rintro⟨_,p⟩ z;refine Bq.ite ?_ ?_;rotate_left;refine Bq.bind (oS z) ?_;rintro⟨_,p⟩ z;refine Bq.ite ?_ ?_;rotate_left;refine Bq.bind (oS z) ?_;rintro⟨_,p⟩ z;refine Bq.ite ?_ ?_;rotate_left;refine Bq.bind (oS z) ?_;rintro⟨_,p⟩ z;refine Bq.ite ?_ ?_;rotate_left;refine Bq.bind (oS z) ?_;rintro⟨_,p⟩ z;refine Bq.ite ?_ ?_;rotate_left;refine Bq.bind (oS z) ?_;rintro⟨_,p⟩ z;refine Bq.ite ?_ ?_;rotate_left;refine Bq.bind (oS z) ?_;rintro⟨_,p⟩ z;refine Bq.ite ?_ ?_;rotate_left;refine Bq.bind (oS z) ?_;rintro⟨_,p⟩ z;refine Bq.ite ?_ ?_;rotate_left;refine Bq.bind (oS z) ?_;rintro⟨_,p⟩ z;refine Bq.ite ?_ ?_;rotate_left;refine Bq.bind (oS z) ?_;rintro⟨_,p⟩ z;refine Bq.ite ?_ ?_;rotate_left;refine Bq.bind (oS z) ?_;rintro⟨_,p⟩ z;refine Bq.ite ?_ ?_;rotate_left;refine Bq.bind (oS z) ?_;rintro⟨_,p⟩ z;refine Bq.ite ?_ ?_;rotate_left;refine Bq.bind (A:=λt=>¬t.2.2.2.1<0) ?_ ?_;rotate_left;rotate_left;rw[bf];have hl:=H.len;have zK:=S.len;obtain⟨l6,l7⟩:=Jd H f S (i:=i) hi 1 [] (.inr (.inl aUF));refine Rl.two l6 l7 ?_;refine Rl.ite aRW (λbw=>?_) (λ_=>?_);have bw:aT ts (i) 1 []=true:=bw;have e3:i<ts.length:=lC (by unfold aT at bw;rw[No,aRi]at bw;rw[bw.1];decide);obtain⟨q1,q2,L⟩:=S.tok i e3;have L:(tok cu (i+1)).al=(tok ts i).al:=L;have w1:bq (bq ((P1 ts e i).fI+1) - 1)=(i:Int):=Ew aUE;have w2:bq (bq ((P1 cu e2 (i+1)).fI+1) - 1)=((i+1:Nat):Int):=Ew aUE;try dsimp only
 rw[w1,w2];refine Rl.two (a:=tok ts i) (b:=tok cu (i+1)) (fJ e3) (fJ (ts:=cu) (i:=i+1) aUE) ?_;try dsimp only
 rw[L,pN aUE,pN aUE];exact Rl.ret (Gs.of (j:=i+1) (show _<_ by omega) e3);obtain⟨l8,l9⟩:=Jd H f S (i:=i) hi 6 [123] (.inr (.inr aUF));refine Rl.two l8 l9 ?_;refine Rl.ite aRW (λbB=>?_) (λ_=>?_);have bB:aT ts (i) 6 [123]=true:=bB;have sc:i<ts.length:=lC (by unfold aT at bB;rw[No,aRi]at bB;rw[bB.1];decide);refine Rl.bind (F.g (i:=i) hi) ?_ ?_;rotate_left;rintro _ _ me;obtain⟨mf,sd,⟨sg,sj⟩,mi,rfl,rfl⟩:=me.out;exact Rl.ret (Gs.of (j:=mf) (show _<_ by omega) mi);rcases ja (w:=[105,102]) H f S (i:=i) hi (.inr aUF)with⟨b0,b3,f8,qc⟩ | ⟨b0,b3⟩;refine Rl.tT b0 b3 ?_;refine Rl.bind (ew.g (i:=i+1) f8) ?_ ?_;rotate_left;rintro _ _ ml;obtain⟨mw,sk,⟨sq,sr⟩,mx,rfl,rfl⟩:=ml.out;exact Rl.ret (Gs.of (j:=mw) (show _<_ by omega) mx);refine Rl.tF b0 b3 ?_;rcases ja (w:=[119,104,105,108,101]) H f S (i:=i) hi (.inr aUF)with⟨b4,b5,f9,qf⟩ | ⟨b4,b5⟩;refine Rl.tT b4 b5 ?_;refine Rl.bind (hP.g (i:=i+1) f9) ?_ ?_;rotate_left;rintro _ _ mA;obtain⟨mB,ss,⟨su,sv⟩,mT,rfl,rfl⟩:=mA.out;refine Rl.bind (F.g (i:=mB) mT) ?_ ?_;rotate_left;rintro _ _ mX;obtain⟨m0,sy,⟨sA,sH⟩,m1,rfl,rfl⟩:=mX.out;exact Rl.ret (Gs.of (j:=m0) (show _<_ by omega) m1);refine Rl.tF b4 b5 ?_;rcases ja (w:=[102,111,114,101,97,99,104]) H f S (i:=i) hi (.inr aUF)with⟨b6,b7,ga,qo⟩ | ⟨b6,b7⟩;refine Rl.tT b6 b7 ?_;refine Rl.bind (f7.g (i:=i+1) ga) ?_ ?_;rotate_left;rintro _ _ m2;obtain⟨m3,sI,⟨sJ,sK⟩,m4,rfl,rfl⟩:=m2.out;exact Rl.ret (Gs.of (j:=m3) (show _<_ by omega) m4);refine Rl.tF b6 b7 ?_;rcases ja (w:=[116,114,121]) H f S (i:=i) hi (.inr aUF)with⟨b9,ch,gb,qp⟩ | ⟨b9,ch⟩;refine Rl.tT b9 ch ?_;refine Rl.bind (hT.g (i:=i+1) gb) ?_ ?_;rotate_left;rintro _ _ m5;obtain⟨m6,sL,⟨sX,sY⟩,m7,rfl,rfl⟩:=m5.out;exact Rl.ret (Gs.of (j:=m6) (show _<_ by omega) m7);refine Rl.tF b9 ch ?_;rcases ja (w:=[101,99,104,111]) H f S (i:=i) hi (.inr aUF)with⟨cq,cv,gi,qu⟩ | ⟨cq,cv⟩;refine Rl.tT cq cv ?_;refine Rl.bind (E.g (i:=i+1) gi) ?_ ?_;rotate_left;rintro _ _ m8;obtain⟨gj,sZ,⟨s0,s1⟩,m9,rfl,rfl⟩:=m8.out;refine Rl.bind (ig H f S (i:=gj) m9 [59]) ?_ ?_;rotate_left;rintro _ _ ⟨rfl,rfl,na,s3⟩;exact Rl.ret (Gs.of (j:=gj+1) (show _<_ by omega) na);refine Rl.tF cq cv ?_;rcases ja (w:=[98,114,101,97,107]) H f S (i:=i) hi (.inr aUF)with⟨cV,c0,gO,qw⟩ | ⟨cV,c0⟩;refine Rl.tT cV c0 ?_;refine Rl.bind (ig H f S (i:=i+1) gO [59]) ?_ ?_;rotate_left;rintro _ _ ⟨rfl,rfl,nc,s4⟩;exact Rl.ret (Gs.of (j:=i+1+1) (show _<_ by omega) nc);refine Rl.tF cV c0 ?_;rcases ja (w:=[99,111,110,116,105,110,117,101]) H f S (i:=i) hi (.inr aUF)with⟨c3,c4,g7,qx⟩ | ⟨c3,c4⟩;refine Rl.tT c3 c4 ?_;refine Rl.bind (ig H f S (i:=i+1) g7 [59]) ?_ ?_;rotate_left;rintro _ _ ⟨rfl,rfl,nf,s5⟩;exact Rl.ret (Gs.of (j:=i+1+1) (show _<_ by omega) nf);refine Rl.tF c3 c4 ?_;rcases ja (w:=[114,101,116,117,114,110]) H f S (i:=i) hi (.inr aUF)with⟨c5,ds,dv,qy⟩ | ⟨c5,ds⟩;refine Rl.tT c5 ds ?_;obtain⟨ni,nj⟩:=Jd H f S (i:=i+1) dv 6 [59] (.inr (.inr aUF));refine Rl.two ni nj ?_;refine Rl.ite aRW (λdJ=>?_) (λ_=>?_);have dJ:aT ts (i+1) 6 [59]=true:=dJ;have s6:i+1<ts.length:=lC (by unfold aT at dJ;rw[No,aRi]at dJ;rw[dJ.1];decide);refine Rl.bind (ig H f S (i:=i+1) dv [59]) ?_ ?_;rotate_left;rintro _ _ ⟨rfl,rfl,nk,s7⟩;exact Rl.ret (Gs.of (j:=i+1+1) (show _<_ by omega) nk);refine Rl.bind (E.g (i:=i+1) dv) ?_ ?_;rotate_left;rintro _ _ nm;obtain⟨g8,s8,⟨ta,tc⟩,nn,rfl,rfl⟩:=nm.out;refine Rl.bind (ig H f S (i:=g8) nn [59]) ?_ ?_;rotate_left;rintro _ _ ⟨rfl,rfl,np,td⟩;exact Rl.ret (Gs.of (j:=g8+1) (show _<_ by omega) np);refine Rl.tF c5 ds ?_;rcases ja (w:=[103,108,111,98,97,108]) H f S (i:=i) hi (.inr aUF)with⟨dP,d0,g9,qB⟩ | ⟨dP,d0⟩;refine Rl.tT dP d0 ?_;refine Rl.bind (B6 H f S (i:=i+1) g9 2) ?_ ?_;rotate_left;rintro _ _ ⟨rfl,rfl,nq,te⟩;refine Rl.bind (ig H f S (i:=i+1+1) nq [59]) ?_ ?_;rotate_left;rintro _ _ ⟨rfl,rfl,ns,ti⟩;exact Rl.ret (Gs.of (j:=i+1+1+1) (show _<_ by omega) ns);refine Rl.tF dP d0 ?_;rcases ja (w:=[117,110,115,101,116]) H f S (i:=i) hi (.inr aUF)with⟨d3,d4,ha,qC⟩ | ⟨d3,d4⟩;refine Rl.tT d3 d4 ?_;refine Rl.bind (ig H f S (i:=i+1) ha [40]) ?_ ?_;rotate_left;rintro _ _ ⟨rfl,rfl,ny,tp⟩;refine Rl.bind ((hC _).g (i:=i+1+1) ny) ?_ ?_;rotate_left;rintro _ _ nA;obtain⟨ey,tu,⟨tv,tz⟩,hk,rfl,rfl⟩:=nA.out;refine Rl.one λ_ _=>?_;refine Rl.ite aRW (λ_=>?_) (λ_=>?_);refine Rl.bind (ig H f S (i:=ey) hk [41]) ?_ ?_;rotate_left;rintro _ _ ⟨rfl,rfl,nC,tA⟩;refine Rl.bind (ig H f S (i:=ey+1) nC [59]) ?_ ?_;rotate_left;rintro _ _ ⟨rfl,rfl,nF,tB⟩;exact Rl.ret (Gs.of (j:=ey+1+1) (show _<_ by omega) nF);exact Rl.bad (Bq.bind (B5 H (i:=ey) hk) aUU);refine Rl.tF d3 d4 ?_;rcases ja (w:=[116,104,114,111,119]) H f S (i:=i) hi (.inr aUF)with⟨d5,d6,ht,qD⟩ | ⟨d5,d6⟩;refine Rl.tT d5 d6 ?_;refine Rl.bind (E.g (i:=i+1) ht) ?_ ?_;rotate_left;rintro _ _ nN;obtain⟨hz,tD,⟨tE,tJ⟩,nO,rfl,rfl⟩:=nN.out;refine Rl.bind (ig H f S (i:=hz) nO [59]) ?_ ?_;rotate_left;rintro _ _ ⟨rfl,rfl,n0,tK⟩;exact Rl.ret (Gs.of (j:=hz+1) (show _<_ by omega) n0);refine Rl.tF d5 d6 ?_;rcases ja (w:=[121,105,101,108,100]) H f S (i:=i) hi (.inr aUF)with⟨d7,d8,hF,qE⟩ | ⟨d7,d8⟩;refine Rl.tT d7 d8 ?_;refine Rl.bind (E.g (i:=i+1) hF) ?_ ?_;rotate_left;rintro _ _ n1;obtain⟨hG,tL,⟨tM,tN⟩,n3,rfl,rfl⟩:=n1.out;refine Rl.bind (ig H f S (i:=hG) n3 [59]) ?_ ?_;rotate_left;rintro _ _ ⟨rfl,rfl,n4,tZ⟩;exact Rl.ret (Gs.of (j:=hG+1) (show _<_ by omega) n4);refine Rl.tF d7 d8 ?_;refine Rl.bind (A:=λt=>False) (GA:=λt K=>∃b:Bool,t=(ts,(i:Int),e,-1,b)/\K=(cu,((i+1:Nat):Int),e2,-1,b)/\(b=true->i+2<ts.length)) ?_ (λ_ q=>q.elim) ?_;obtain⟨R,a2⟩:=Jd H f S hi 2 [] (.inr (.inl aUF));refine Rl.two R a2 ?_;refine Rl.ite aRW (λc=>?_) (λ_=>Rl.ret ⟨false,rfl,rfl,by simp⟩);have c:aT ts i 2 []=true:=c;have cl:i<ts.length:=lC aVd;obtain⟨b1,b2⟩:=aFV (o:=1) H f S hi aUE aUF 6 [61] (.inr aUF);refine Rl.two b1 b2 ?_;refine Rl.ite aRW (λc=>?_) (λ_=>Rl.ret ⟨false,rfl,rfl,by simp⟩);have c:aT ts (i+1) 6 [61]=true:=c;have cl:i+1<ts.length:=lC aVd;obtain⟨d1,d2⟩:=aFV (o:=2) H f S hi aUE aUF 3 [121,105,101,108,100] (.inl aUF);refine Rl.two d1 d2 ?_;refine Rl.ret ⟨_,rfl,rfl,λc=>?_⟩;have c:aT ts (i+2) 3 [121,105,101,108,100]=true:=c;exact lC aVd;rintro _ _ ⟨b,rfl,rfl,hy⟩;refine Rl.ite aRW (λc=>?_) (λ_=>?_);have c2:=hy c;refine Rl.bind (TZ H f S (i:=i) hi) ?_ ?_;rotate_left;rintro _ _ ⟨rfl,rfl,t3,t4⟩;have w1:bq ((P1 ts e (i+1)).fI+2)=((i+1+2:Nat):Int):=kj (x:=((i+1:Nat):Int)+2) aUE aUE;have w2:bq ((P1 cu e2 (i+1+1)).fI+2)=((i+1+1+2:Nat):Int):=kj (x:=((i+1+1:Nat):Int)+2) aUE aUE;try dsimp only
 rw[w1,w2];refine Rl.two (ak2 (show((i+1+2:Nat):Int)<=(ts.length:Int) by omega)) (ak2 (show((i+1+1+2:Nat):Int)<=(cu.length:Int) by omega)) ?_;refine Rl.bind (E.g (i:=i+3) (show i+3<=ts.length by omega)) ?_ ?_;rotate_left;rintro _ _ n5;obtain⟨hH,t5,⟨t6,t7⟩,n6,rfl,rfl⟩:=n5.out;refine Rl.bind (ig H f S (i:=hH) n6 [59]) ?_ ?_;rotate_left;rintro _ _ ⟨rfl,rfl,n9,t8⟩;exact Rl.ret (Gs.of (j:=hH+1) (show _<_ by omega) n9);rcases ja (w:=[105,110,99,108,117,100,101]) H f S (i:=i) hi (.inr aUF)with⟨d9,ea,eJ,qF⟩ | ⟨d9,ea⟩;refine Rl.tT d9 ea ?_;obtain⟨oi,oj⟩:=Jd H f S (i:=i+1) eJ 5 [] (.inr (.inl aUF));refine Rl.two oi oj ?_;refine Rl.ite aRW (λeb=>?_) (λ_=>?_);have eb:aT ts (i+1) 5 []=true:=eb;have e4:i+1<ts.length:=lC (by unfold aT at eb;rw[No,aRi]at eb;rw[eb.1];decide);obtain⟨q1,q2,L⟩:=S.tok (i+1) e4;have L:(tok cu (i+1+1)).al=(tok ts (i+1)).al:=L;have w1:bq (bq ((P1 ts e (i+1)).fI+1) - 1)=((i+1:Nat):Int):=Ew aUE;have w2:bq (bq ((P1 cu e2 (i+1+1)).fI+1) - 1)=((i+1+1:Nat):Int):=Ew aUE;try dsimp only
 rw[w1,w2];refine Rl.two (a:=tok ts (i+1)) (b:=tok cu (i+1+1)) (fJ e4) (fJ (ts:=cu) (i:=i+1+1) aUE) ?_;try dsimp only
 rw[L,pN aUE,pN aUE];refine Rl.bind (ig H f S (i:=i+1+1) e4 [59]) ?_ ?_;rotate_left;rintro _ _ ⟨rfl,rfl,om,t9⟩;exact Rl.ret (Gs.of (j:=i+1+1+1) (show _<_ by omega) om);exact Rl.bad (Bq.bind (B5 H (i:=i+1) eJ) aUU);refine Rl.tF d9 ea ?_;refine Rl.bind (E.g (i:=i) hi) ?_ ?_;rotate_left;rintro _ _ oo;obtain⟨hI,ub,⟨uh,uq⟩,oq,rfl,rfl⟩:=oo.out;refine Rl.bind (ig H f S (i:=hI) oq [59]) ?_ ?_;rotate_left;rintro _ _ ⟨rfl,rfl,ot,uu⟩;exact Rl.ret (Gs.of (j:=hI+1) (show _<_ by omega) ot);intro C h0;have F:HF ts cu e e2 (Qe ts) bJ C:=h0;clear h0;refine HF.mk (λp z=>?_) (λi hi=>?_);refine Bq.bind (F.b z) ?_;rintro⟨_,_⟩ hq;refine Bq.bind (A:=λt=>¬t.2.2.2.1<0) ?_ ?_;rotate_left;rotate_left;rw[lW];refine Rl.bind (F.g (i:=i) hi) ?_ ?_;rotate_left;rintro _ _ ow;obtain⟨N,uv,⟨uw,oz⟩,hJ,rfl,rfl⟩:=ow.out;refine Rl.bind (A:=λt=>¬t.2.2.2.1<0) (GA:=λt K=>∃(k:Nat) (l:List ae),t=(ts,(k:Int),e,-1,l)/\K=(cu,((k+1:Nat):Int),e2,-1,l)/\i<k/\k<=ts.length/\fnd ts k) ?_ ?_ ?_;rcases ja (w:=[99,97,116,99,104]) H f S (i:=N) hJ (.inr aUF)with⟨ec,ef,hN,qQ⟩ | ⟨ec,ef⟩;refine Rl.tT ec ef ?_;refine Rl.bind (ig H f S (i:=N+1) hN [40]) ?_ ?_;rotate_left;rintro _ _ ⟨rfl,rfl,oA,ux⟩;refine Rl.bind (B6 H f S (i:=N+1+1) oA 3) ?_ ?_;rotate_left;rintro _ _ ⟨rfl,rfl,oB,uy⟩;refine Rl.bind (TZ H f S (i:=N+1+1+1) oB) ?_ ?_;rotate_left;rintro _ _ ⟨rfl,rfl,oC,uz⟩;refine Rl.bind (ig H f S (i:=N+1+1+1+1) oC [41]) ?_ ?_;rotate_left;rintro _ _ ⟨rfl,rfl,oD,uA⟩;refine Rl.bind (F.g (i:=N+1+1+1+1+1) oD) ?_ ?_;rotate_left;rintro _ _ oH;obtain⟨oJ,uB,⟨uG,oK⟩,oL,rfl,rfl⟩:=oH.out;refine Rl.one λ_ _=>?_;exact Rl.ret ⟨oJ,_,rfl,rfl,by omega,oL,oK⟩;refine Rl.tF ec ef ?_;exact Rl.ret ⟨N,_,rfl,rfl,by omega,hJ,oz⟩;rotate_left;rintro _ _ ⟨eA,uH,rfl,rfl,uI,e5,oN⟩;rcases ja (w:=[102,105,110,97,108,108,121]) H f S (i:=eA) e5 (.inr aUF)with⟨ei,ej,hO,qR⟩ | ⟨ei,ej⟩;refine Rl.tT ei ej ?_;refine Rl.bind (F.g (i:=eA+1) hO) ?_ ?_;rotate_left;rintro _ _ oO;obtain⟨hR,uN,⟨uP,oP⟩,hV,rfl,rfl⟩:=oO.out;refine Rl.one λ_ _=>?_;refine Rl.ite aRW (λ_=>?_) (λ_=>?_);exact Rl.bad (Bq.bind (B5 H (i:=hR) hV) aUU);exact Rl.ret (Gs.of (j:=hR) ⟨by omega,oP⟩ hV);refine Rl.tF ei ej ?_;refine Rl.ite aRW (λ_=>?_) (λ_=>?_);exact Rl.bad (Bq.bind (B5 H (i:=eA) e5) aUU);exact Rl.ret (Gs.of (j:=eA) ⟨by omega,oN⟩ e5);intro C D h0 h1;have E:HF ts cu e e2 (Qe ts) aY C:=h0;have F:HF ts cu e e2 (Qe ts) bJ D:=h1;clear h0 h1;refine HF.mk (λp z=>?_) (λi hi=>?_);refine Bq.bind (DZ z) ?_;intro _ hq;refine Bq.bind (E.b hq) ?_;rintro⟨_,_⟩ hq;refine Bq.bind (DZ hq) ?_;intro _ hq;refine Bq.bind (aou hq) ?_;rintro⟨_,_⟩ hq;refine Bq.any λ_=>Bq.bind (A:=λt=>¬t.2.2.2.1<0) ?_ ?_;rotate_left;rotate_left;rw[kn];refine Rl.bind (ig H f S (i:=i) hi [40]) ?_ ?_;rotate_left;rintro _ _ ⟨rfl,rfl,oT,uQ⟩;refine Rl.bind (E.g (i:=i+1) oT) ?_ ?_;rotate_left;rintro _ _ oV;obtain⟨O,uS,⟨uV,uZ⟩,oX,rfl,rfl⟩:=oV.out;refine Rl.bind (ig H f S (i:=O) oX [97,115]) ?_ ?_;rotate_left;rintro _ _ ⟨rfl,rfl,o0,u1⟩;refine Rl.bind (TZ H f S (i:=O+1) o0) ?_ ?_;rotate_left;rintro _ _ ⟨rfl,rfl,hW,o1⟩;refine Rl.one λ_ _=>?_;refine Rl.bind (A:=λt=>¬t.2.2.2.1<0) (GA:=λt K=>∃(k:Nat) (l:List ae),t=(ts,(k:Int),e,-1,l)/\K=(cu,((k+1:Nat):Int),e2,-1,l)/\i<k/\k<=ts.length/\fnd ts k) ?_ ?_ ?_;rcases ja (w:=[61,62]) H f S (i:=O+1+1) hW (.inr aUF)with⟨ek,et,hX,qW⟩ | ⟨ek,et⟩;refine Rl.tT ek et ?_;refine Rl.bind (TZ H f S (i:=O+1+1+1) hX) ?_ ?_;rotate_left;rintro _ _ ⟨rfl,rfl,o2,o3⟩;refine Rl.one λ_ _=>?_;exact Rl.ret ⟨O+1+1+1+1,_,rfl,rfl,by omega,o2,(DY o3 aUF aUF)⟩;refine Rl.tF ek et ?_;exact Rl.ret ⟨O+1+1,_,rfl,rfl,by omega,hW,(DY o1 aUF aUF)⟩;rotate_left;rintro _ _ ⟨hY,u2,rfl,rfl,u3,o4,u4⟩;refine Rl.bind (ig H f S (i:=hY) o4 [41]) ?_ ?_;rotate_left;rintro _ _ ⟨rfl,rfl,o5,u5⟩;refine Rl.bind (F.g (i:=hY+1) o5) ?_ ?_;rotate_left;rintro _ _ o6;obtain⟨o7,u6,⟨u7,o8⟩,pb,rfl,rfl⟩:=o6.out;refine Rl.one λ_ _=>?_;exact Rl.ret (Gs.of (j:=o7) ⟨by omega,o8⟩ pb);intro C h0;have E:HF ts cu e e2 (Qe ts) aY C:=h0;clear h0;refine HF.mk (λp z=>?_) (λi hi=>?_);rotate_left;rw[jG];refine Rl.bind (ig H f S (i:=i) hi [40]) ?_ ?_;rotate_left;rintro _ _ ⟨rfl,rfl,pe,vd⟩;refine Rl.bind (E.g (i:=i+1) pe) ?_ ?_;rotate_left;rintro _ _ ph;obtain⟨j2,vf,⟨vl,vp⟩,pj,rfl,rfl⟩:=ph.out;refine Rl.bind (ig H f S (i:=j2) pj [41]) ?_ ?_;rotate_left;rintro _ _ ⟨rfl,rfl,pr,ps⟩;exact Rl.ret (Gs.of (j:=j2+1) ⟨by omega,(rb ps aUF)⟩ pr);intro C D g2 h0 h1 h2;have F:HF ts cu e e2 (Qe ts) bJ C:=h0;have hP:HF ts cu e e2 (Qe ts) jG D:=h1;have ew:HF ts cu e e2 (Qe ts) ll g2:=h2;clear h0 h1 h2;refine HF.mk (λp z=>?_) (λi hi=>?_);refine Bq.bind (hP.b z) ?_;rintro⟨_,_⟩ hq;refine Bq.bind (A:=λt=>¬t.2.2.2.1<0) ?_ ?_;refine Bq.bind (F.b hq) ?_;exact aUb;rotate_left;rw[ll];refine Rl.bind (hP.g (i:=i) hi) ?_ ?_;rotate_left;rintro _ _ px;obtain⟨j4,vq,⟨vr,vv⟩,py,rfl,rfl⟩:=px.out;refine Rl.bind (A:=λt=>¬t.2.2.2.1<0) (GA:=λt K=>∃(k:Nat) (l:List ae),t=(ts,(k:Int),e,-1,l)/\K=(cu,((k+1:Nat):Int),e2,-1,l)/\i<k/\k<=ts.length/\fnd ts k) ?_ ?_ ?_;refine Rl.bind (F.g (i:=j4) py) ?_ ?_;rotate_left;rintro _ _ pz;obtain⟨j5,vw,⟨vx,pB⟩,pE,rfl,rfl⟩:=pz.out;exact Rl.ret ⟨j5,_,rfl,rfl,by omega,pE,pB⟩;rotate_left;rintro _ _ ⟨j6,vA,rfl,rfl,vB,h7,pF⟩;rcases ja (w:=[101,108,115,101]) H f S (i:=j6) h7 (.inr aUF)with⟨e6,e7,h8,vC⟩ | ⟨e6,e7⟩;refine Rl.tT e6 e7 ?_;rcases ja (w:=[105,102]) H f S (i:=j6+1) h8 (.inr aUF)with⟨e8,fa,pG,vD⟩ | ⟨e8,fa⟩;refine Rl.tT e8 fa ?_;refine Rl.bind (ew.g (i:=j6+1+1) pG) ?_ ?_;rotate_left;rintro _ _ pH;obtain⟨j9,vG,⟨vJ,pJ⟩,pK,rfl,rfl⟩:=pH.out;refine Rl.one λ_ _=>?_;exact Rl.ret (Gs.of (j:=j9) ⟨by omega,pJ⟩ pK);refine Rl.tF e8 fa ?_;refine Rl.bind (F.g (i:=j6+1) h8) ?_ ?_;rotate_left;rintro _ _ pU;obtain⟨p0,vL,⟨vM,p1⟩,p2,rfl,rfl⟩:=pU.out;refine Rl.one λ_ _=>?_;exact Rl.ret (Gs.of (j:=p0) ⟨by omega,p1⟩ p2);refine Rl.tF e6 e7 ?_;exact Rl.ret (Gs.of (j:=j6) ⟨by omega,pF⟩ h7);all_goals (repeat' first | exact Bq.ret aUL | exact(hL _ _).b aUL | exact(M _).b aUL | exact(hL _ _ _ _ _ _).b aUL | exact(F _ _).b aUL | refine Bq.ite ?_ ?_ | (refine Bq.bind (oS aUL) ?_;rintro⟨_,_⟩ _) | (refine Bq.bind (bAt aUL) ?_;rintro⟨_,_⟩ _) | (refine Bq.bind (DZ aUL) ?_;intro _ _) | (refine Bq.bind (Y9 aUL) ?_;rintro⟨_,_⟩ _) | (refine Bq.bind (aou aUL) ?_;rintro⟨_,_⟩ _) | (refine Bq.bind (Lm aUL) ?_;rintro⟨_,_⟩ _) | (refine Bq.bind (Jb aUL) ?_;rintro⟨_,_⟩ _) | (refine Bq.bind ((hL _ _).b aUL) ?_;rintro(_ | _) _) | (refine Bq.bind (E.b aUL) ?_;rintro⟨_,_⟩ _) | (refine Bq.bind ((M _).b aUL) ?_;rintro(_ | _) _) | (refine Bq.bind ((hC _).b aUL) ?_;rintro⟨_,_⟩ _) | (refine Bq.bind (hU.b aUL) ?_;rintro⟨_,_⟩ _) | (refine Bq.bind (hP.b aUL) ?_;rintro⟨_,_⟩ _) | (refine Bq.bind (hQ.b aUL) ?_;rintro⟨_,_⟩ _) | (refine Bq.bind ((hB _).b aUL) ?_;rintro⟨_,_⟩ _) | (refine Bq.bind (hD.b aUL) ?_;rintro⟨_,_⟩ _) | (refine Bq.bind ((hL _ _ _ _ _ _).b aUL) ?_;rintro(_ | _) _) | (refine Bq.bind (hM.b aUL) ?_;rintro⟨_,_⟩ _) | (refine Bq.bind ((M _).b aUL) ?_;rintro⟨_,_⟩ _) | (refine Bq.bind ((F _ _).b aUL) ?_;rintro⟨_,_,_,_,_,_⟩ _) | (refine Bq.bind (F.b aUL) ?_;rintro⟨_,_⟩ _) | (refine Bq.bind (ew.b aUL) ?_;rintro⟨_,_⟩ _) | (refine Bq.bind (fb.b aUL) ?_;rintro⟨_,_⟩ _) | (refine Bq.bind (hT.b aUL) ?_;rintro⟨_,_⟩ _) | (refine Bq.bind (f7.b aUL) ?_;rintro⟨_,_⟩ _) | (refine Bq.bind (A:=λt:(List ai)×Int×Int×Int×_=>¬t.2.2.2.1<0) ?_ ?_) | (refine Bq.any ?_;intro _) | (rintro⟨_,_,_,_,_⟩ _) | (rintro⟨_,_⟩ _) | (intro _ _))
def gx (s:av) (o:Option Int):Option Int:=match o with | some n=>if Lib.itoa n=s/\(-1000000000:Int)<=n/\n<=1000000000 then some n else none | none=>none
def Ty (c:UInt8):Bool:=isLet c||decide (c.toNat=95)
def AS:av->Nat
 | []=>0
 | c::r=>if(Ty c||nv c)=true then AS r+1 else 0
def uo:av->Nat
 | []=>0
 | c::r=>if Ty c=true then AS r+1 else 0
def sf:av->Nat
 | []=>0
 | c::r=>if nv c=true then sf r+1 else 0
theorem Tz:∀s:av,AS s<=s.length
 | []=>Of _
 | c::r=>by
  have:=Tz r;rw[AS];split
  ·simp only[so];omega
  ·exact aRV _
theorem TA:∀s:av,uo s<=s.length
 | []=>Of _
 | c::r=>by
  have:=Tz r;rw[uo];split
  ·simp only[so];omega
  ·exact aRV _
theorem TB:∀s:av,sf s<=s.length
 | []=>Of _
 | c::r=>by
  have:=TB r;rw[sf];split
  ·simp only[so];omega
  ·exact aRV _
theorem H6 {a b:Nat} (h:a=b):(some ((a:Nat):Int))=some ((b:Nat):Int):=by rw[h]
theorem aF6 (s:av) (hs:s.length<=100000):∀(f i:Nat),s.length<=i+f->0<i->i<=s.length->c6 s (i:Int)=some ((i+AS (s.drop i):Nat):Int)
 | f,i,h,h0,hi=>by
  rw[c6];by_cases hc:i<s.length
  ·obtain⟨g,rfl⟩:∃g,f=g+1:=⟨f - 1,by omega⟩;have a:=aF6 s hs g (i+1) aUE aUE aUE;rw[At aUE,jE hc,sb,Qh,sb,ca aUE,drop_cons hc,AS,Ty];generalize s.getD i 0=c;cases d:isLet c
   ·rw[As aUG,sb];by_cases b:c.toNat=95
    ·rw[At aUE,a,At (by simp [b])];exact H6 aUE
    ·rw[As aUE,At aUE,sb,Em,sb];cases hd:nv c
     ·rw[As aUG,As (by simp [b])];rfl
     ·rw[At rfl,a,At aUG];exact H6 aUE
   ·rw[At rfl,a,At aUG];exact H6 aUE
  ·rw[As aUE,aRd aUE];rfl
theorem iNl (s:av) (hs:s.length<=100000):er s=some ((uo s:Nat):Int):=by
 have key:c6 s 0=some ((uo s:Nat):Int):=by
  rw[c6];cases s with
  | nil=>rw[As aUG];rfl
  | cons c r=>
   have a:=aF6 (c::r) hs r.length 1 aUR aUE aUG;rw[At aUR,show lz (c::r) 0=some c from jE (i:=0) aUG,sb,Qh,sb,show bq ((0:Int)+1)=((1:Nat):Int)from ca (i:=0) aUE,uo,Ty];cases d:isLet c
   ·rw[As aUG,sb];by_cases b:c.toNat=95
    ·rw[At aUE,a,At (by simp [b])];exact H6 (by rw[aSC,aRk];omega)
    ·rw[As aUE,As aUE,As (by simp [b])];rfl
   ·rw[At rfl,a,At aUG];exact H6 (by rw[aSC,aRk];omega)
 rw[er,key,sb]
theorem iDr (s:av) (hs:s.length<=100000):∀(f i:Nat),s.length<=i+f->i<=s.length->fY s (i:Int)=some ((i+sf (s.drop i):Nat):Int)
 | f,i,h,hi=>by
  rw[fY];by_cases hc:i<s.length
  ·obtain⟨g,rfl⟩:∃g,f=g+1:=⟨f - 1,by omega⟩;have a:=iDr s hs g (i+1) aUE aUE;rw[At aUE,jE hc,sb,Em,sb,ca aUE,drop_cons hc,sf];cases hd:nv (s.getD i 0)
   ·rw[As aUG,As aUG];rfl
   ·rw[At rfl,a,At rfl];exact H6 aUE
  ·rw[As aUE,aRd aUE];rfl
theorem Vp (s:av) (a j:Nat):(s.drop a).getD j 0=s.getD (a+j) 0:=by
 rw[aRb,aRb,aSs]
theorem rP {s:av} {a j:Nat} (h:a+j<s.length):lz (s.drop a) (j:Int)=some (s.getD (a+j) 0):=by
 rw[jE aVs,Vp]
def yq:List av:=[[61,61,61],[33,61,61],[60,61,62],[61,61],[33,61],[60,61],[62,61],[61,62],[45,62],[58,58],[38,38],[124,124],[63,63],[43],[45],[42],[47],[37],[46],[61],[33],[60],[62],[40],[41],[91],[93],[123],[125],[44],[59],[63],[58],[38]]
def fm (l:List av) (r:av):Option av:=l.find? λm=>Lib.hasPrefix r m
theorem I4 {s:av} {a:Nat} (h:a<s.length) (c:UInt8):Lib.hasPrefix (s.drop a) [c]=(c==s.getD a 0):=by
 rw[drop_cons h];show([c].isPrefixOf (s.getD a 0::s.drop (a+1)))=_;simp [List.isPrefixOf]
theorem ahf {s m:av} (h:fm yq s=some m):yq.contains m=true/\1<=m.length/\m.length<=s.length/\m≠[]:=by
 have h1:=List.mem_of_find?_eq_some h;have h2:Lib.hasPrefix s m=true:=List.find?_some (p:=λm=>Lib.hasPrefix s m) h;have a:∀m∈yq,1<=m.length/\m≠[]:=by decide
 have b:m <+: s:=aSM.1 h2;exact⟨by simpa using h1,(a m h1).1,b.length_le,(a m h1).2⟩
structure TKL (l:List ai) (a:Nat):Prop where
 len:l.length<=a
 at0:∀t∈l,0<=t.bF
 txt:∀t∈l,t.al.length<=4000
 nam:∀t∈l,t.ah=3->nmW t.al=true
 mrk:∀t∈l,t.ah=6->zm.contains t.al=true
theorem TKL.mono {l:List ai} {a b:Nat} (h:TKL l a) (c:a<=b):TKL l b:=⟨by have:=h.len;omega,h.at0,h.txt,h.nam,h.mrk⟩
theorem iB {s:av} {a:Nat} (h:a<=s.length):jQ s (a:Int)=some (s.drop a):=by unfold jQ;rw[At ⟨by omega,by omega⟩,aSF]
theorem FD {s:av} {a:Nat} (h:a<=s.length):sto s (a:Int)=some (s.take a):=by unfold sto;rw[At ⟨by omega,by omega⟩,aSF]
theorem adK {s:av} {a b:Nat} (h:a<=b) (h2:b<=s.length):By s (a:Int) (b:Int)=some ((s.drop a).take (b - a)):=by
 unfold By;rw[At ⟨by omega,by omega,by omega⟩,aSF,aSF,List.drop_take]
theorem adL {s:av} {a:Nat} (h:a<s.length):0<uo (s.drop a)↔Ty (s.getD a 0)=true:=by
 rw[drop_cons h,uo];by_cases q:Ty (s.getD a 0)=true
 ·rw[At q];exact⟨λ_=>q,λ_=>Nat.succ_pos _⟩
 ·rw[As q];exact⟨λb=>absurd b (aTi 0),λb=>absurd b q⟩
theorem adM {s:av} {a:Nat} (h:a<s.length) (hd:nv (s.getD a 0)=true):0<sf (s.drop a):=by
 rw[drop_cons h,sf,At hd];omega
theorem adN {s:av} {a n:Nat} (h:a<s.length) (hd:Ty (s.getD a 0)=true) (b:0<n):nmW ((s.drop a).take n)=true:=by
 obtain⟨m,rfl⟩:∃m,n=m+1:=⟨n - 1,by omega⟩;rw[drop_cons h,List.take_succ_cons,nmW,ltr];unfold Ty isLet at hd;simp only[aRZ,aSx]at hd ⊢;omega
theorem wm (s d:av):m66 s d=some (Lib.hasPrefix s d):=rfl
theorem yz {s:av} (hs:s.length<=4000) {k:Nat} (a:k<=s.length) (h2:k<s.length->Lib.occAt s [60,63] k=true):∀(f j:Nat),j+f=k->(∀p,j<=p->p<k->Lib.occAt s [60,63] p=false)->sF s (j:Int)=some (k:Int)
 | 0,j,e,_=>by
  obtain rfl:j=k:=by omega
  rw[sF];by_cases hc:j<s.length
  ·rw[At aUE,aqo aUG aUG a aUE,sb,h2 hc,At rfl]
  ·rw[As aUE]
 | f+1,j,e,h=>by
  rw[sF,At aUE,aqo aUG aUG aUE aUE,sb,h j aUE aUE,As aUG,ca aUE];exact yz hs a h2 f (j+1) aUE (λp I4 b=>h p aUE b)
theorem Kl {s:av} {l:List ai}:dI s s (s.length:Int) 0 l=some (s,(s.length:Int),0,l):=by
 rw[dI,At rfl,As aUE,sb]
theorem pt {s:av} {l:List ai} {a:Nat} (b:a<s.length) {x:bG} (h:bn (.mk s (a:Int) l 0)=some x):dI s s (a:Int) 0 l=dI s x.fS x.bF x.ee x.cb:=by
 rw[dI,At rfl,At aUE,sb];show(bn (.mk s (a:Int) l 0)>>=_)=_;rw[h,sb]
theorem yr {s:av} {a z:Nat} {O:List ai} {c:Int} (b:O.length<=50000) (k n:Int) (x:av) (d:a+z<=1000000):
  dc (.mk s (a:Int) O c) k n x (z:Int)=some (.mk s ((a+z:Nat):Int) (O++[.mk k n x (a:Int)]) c):=by
 unfold dc;rw[iz aUQ,sb];show some (bG.mk s (bq ((a:Int)+(z:Int))) _ c)=_;rw[kj (x:=(a:Int)+(z:Int)) (n:=a+z) aUE aUE]
theorem aF7 {s:av} {a:Nat} {O:List ai} (b:O.length<=50000) (hs:s.length<=50000) (c:a<=s.length):∀(f k:Nat),34<=k+f->k<=34->
  ku (.mk s (a:Int) O 0) (s.drop a) (k:Int)=some (match fm (yq.drop k) (s.drop a)with | some m=>.inr (.mk s ((a+m.length:Nat):Int) (O++[.mk 6 0 m (a:Int)]) 0) | none=>.inl ())
 | f,k,h,i=>by
  rw[ku];by_cases hc:k<34
  ·obtain⟨g,rfl⟩:∃g,f=g+1:=⟨f - 1,by omega⟩;have d:=aF7 b hs c g (k+1) aUE aUE;have e:idx ([[61,61,61],[33,61,61],[60,61,62],[61,61],[33,61],[60,61],[62,61],[61,62],[45,62],[58,58],[38,38],[124,124],[63,63],[43],[45],[42],[47],[37],[46],[61],[33],[60],[62],[40],[41],[91],[93],[123],[125],[44],[59],[63],[58],[38]]:List av) (k:Int)=some (yq[k]'hc):=dj (l:=yq) hc
   have hm:(yq[k]'hc).length<=10:=by
    have:∀m∈yq,m.length<=10:=by decide
    exact this _ (aRr hc)
   rw[At aUQ,e,sb,m66,sb,ca aUE,aRl (l:=yq) hc,fm,List.find?_cons];cases hp:Lib.hasPrefix (s.drop a) (yq[k]'hc)
   ·rw[As aUG,d];rfl
   ·rw[At rfl,yr b _ _ _ aUE,sb]
  ·obtain rfl:k=34:=by omega
   rw[As aUG];rfl
theorem Rq {s:av} {a:Nat} {O:List ai} (b:O.length<=50000) (hs:s.length<=50000) (c:a<=s.length):
  mQ (.mk s (a:Int) O 0) (s.drop a)=some (match fm yq (s.drop a)with | some m=>(.mk s ((a+m.length:Nat):Int) (O++[.mk 6 0 m (a:Int)]) 0) | none=>.mk s (a:Int) O 2):=by
 unfold mQ;have e:=aF7 b hs c 34 0 aUE aUE;rw[show((0:Nat):Int)=0 from rfl,aRk]at e;rw[e,sb];cases fm yq (s.drop a)<;>rfl
def VF:av:=[10,41,59]
def sh (t:ai):ai:=⟨t.ah,t.aE,t.al,t.bF+1⟩
theorem Ns:∀(u q:av),AS (u++10::q)=AS u
 | [],q=>by show(if(Ty 10||nv 10)=true then AS q+1 else 0)=0;rw[As aUF]
 | c::r,q=>by show(if(Ty c||nv c)=true then AS (r++10::q)+1 else 0)=(if(Ty c||nv c)=true then AS r+1 else 0);rw[Ns r q]
theorem Nt (u q:av):uo (u++10::q)=uo u:=by
 cases u with
 | nil=>show(if Ty 10=true then AS q+1 else 0)=0;rw[As aUF]
 | cons c r=>show(if Ty c=true then AS (r++10::q)+1 else 0)=(if Ty c=true then AS r+1 else 0);rw[Ns r q]
theorem Nu:∀(u q:av),sf (u++10::q)=sf u
 | [],q=>by show(if nv 10=true then sf q+1 else 0)=0;rw[As aUF]
 | c::r,q=>by show(if nv c=true then sf (r++10::q)+1 else 0)=(if nv c=true then sf r+1 else 0);rw[Nu r q]
theorem TC:∀(m u q:av),(∀c∈m,c≠10)->m.isPrefixOf (u++10::q)=m.isPrefixOf u
 | [],u,q,_=>by simp [List.isPrefixOf]
 | c::m,[],q,h=>by
  have:(c==(10:UInt8))=false:=an.2 (h c (List.mem_cons_self ..));simp [List.isPrefixOf,this]
 | c::m,d::u,q,h=>by
  simp only[aRw,List.isPrefixOf];rw[TC m u q (λx hx=>h x (aRG _ hx))]
theorem adO (m u q:av) (h:∀c∈m,c≠10):Lib.hasPrefix (u++10::q) m=Lib.hasPrefix u m:=TC m u q h
theorem adP (u q:av):∀l:List av,(∀m∈l,∀c∈m,c≠10)->fm l (u++10::q)=fm l u
 | [],_=>rfl
 | m::l,h=>by
  have a:=adP u q l (λx hx=>h x (aRG _ hx));unfold fm at a ⊢;rw[List.find?_cons,List.find?_cons,adO m u q (h m (List.mem_cons_self ..)),a]
def Bh (s s2:av) (a:Nat):Prop:=s2.drop (a+1)=s.drop a++VF
theorem Bh.len {s s2:av} {a:Nat} (h:Bh s s2 a) (b:a<=s.length):s2.length=s.length+4:=by
 have:=congrArg List.length h;rw[It,aRI,aRI]at this;have e:VF.length=3:=rfl;omega
theorem Bh.up {s s2:av} {a b:Nat} (h:Bh s s2 a) (c:a<=b) (d:b<=s.length):Bh s s2 b:=by
 have e:s2.drop (b+1)=(s2.drop (a+1)).drop (b - a):=by rw[aSt];congr 1;omega
 have e2:s.drop b=(s.drop a).drop (b - a):=by rw[aSt];congr 1;omega
 unfold Bh at h ⊢;rw[e,h,e2,List.drop_append_of_le_length aVs]
theorem Bh.at {s s2:av} {a:Nat} (h:Bh s s2 a) (b:a<s.length):s2.getD (a+1) 0=s.getD a 0:=by
 have l:=h.len aUE;have c:=drop_cons b;have e2:=drop_cons (s:=s2) (i:=a+1) aUE;unfold Bh at h;rw[h,c,aRw]at e2;exact(List.cons.inj e2).1.symm
theorem Bh.hp {s s2:av} {a:Nat} (h:Bh s s2 a) (m:av) (hm:∀c∈m,c≠10):Lib.hasPrefix (s2.drop (a+1)) m=Lib.hasPrefix (s.drop a) m:=by
 unfold Bh at h;rw[h];exact adO m _ _ hm
theorem Bh.take {s s2:av} {a n:Nat} (h:Bh s s2 a) (b:a+n<=s.length):(s2.drop (a+1)).take n=(s.drop a).take n:=by
 unfold Bh at h;rw[h,List.take_append_of_le_length aVs]
theorem Km {s s2:av} {a:Nat} {O m:List ai} (n:O.length<=50000) (o:m.length<=50000) (hs:s2.length<=50000) (e:Bh s s2 a) (p:a<=s.length):∀(f j:Nat) (l:av),s.length<=a+j+f->1<=j->l.length<=j->
  cc (.mk s (a:Int) O 0) (s.drop a) l (j:Int)=some (.inl ())\/
  (∃(q:av) (b:Nat),a<b/\b<=s.length/\q.length<=400/\cc (.mk s (a:Int) O 0) (s.drop a) l (j:Int)=some (.inr (.mk s (b:Int) (O++[.mk 5 0 q (a:Int)]) 0))/\cc (.mk s2 ((a+1:Nat):Int) m 0) (s2.drop (a+1)) l (j:Int)=some (.inr (.mk s2 ((b+1:Nat):Int) (m++[.mk 5 0 q ((a+1:Nat):Int)]) 0)))
 | f,j,l,h,h1,B=>by
  have sl:=e.len p;have d:=cc.eq_1 (.mk s (a:Int) O 0) (s.drop a) l (j:Int);have S0:=cc.eq_1 (.mk s2 ((a+1:Nat):Int) m 0) (s2.drop (a+1)) l (j:Int);have w:(s.drop a).length=s.length - a:=aRI;have x:(s2.drop (a+1)).length=s2.length - (a+1):=aRI;by_cases hc:a+j<s.length
  ·obtain⟨g,rfl⟩:∃g,f=g+1:=⟨f - 1,by omega⟩;have one:∀c:UInt8,cD 1 l ([c]:List UInt8)=some (l++[c]):=λc=>iz aUQ;have i:=λc:UInt8=>Km (a:=a) n o hs e p g (j+1) (l++[c]) aUE aUE aUO;have t:bq ((j:Int)+1)=((j+1:Nat):Int):=kj aUE aUE;have u:bq (((j+1:Nat):Int)+1)=((j+2:Nat):Int):=kj aUE aUE
   have r:s2.getD (a+1+j) 0=s.getD (a+j) 0:=by
    have:=(e.up (b:=a+j) aUE aUE).at hc;rw[<-this];congr 1;omega
   rw[At aUE,rP (s:=s2) (a:=a+1) aUE,sb,t,r]at S0;rw[At aUE,rP hc,sb,t]at d;by_cases y:(s.getD (a+j) 0).toNat=39
   ·rw[At aUE]at S0 d;by_cases hL:(l.length:Int)>400
    ·rw[At hL]at d;exact .inl d
    ·rw[As hL]at S0 d;rw[yr n 5 0 l aUE,sb]at d;rw[yr o 5 0 l aUE,sb,show a+1+(j+1)=a+(j+1)+1 by omega]at S0;exact .inr ⟨l,a+(j+1),by omega,by omega,by omega,d,S0⟩
   ·rw[As aUE,sb]at S0 d;by_cases z:(s.getD (a+j) 0).toNat=92
    ·rw[At aUE]at S0 d;by_cases v:a+(j+1)<s.length
     ·have k:=λc:UInt8=>Km (a:=a) n o hs e p g (j+2) (l++[c]) aUE aUE aUO
      have Jd:s2.getD (a+1+(j+1)) 0=s.getD (a+(j+1)) 0:=by
       have:=(e.up (b:=a+(j+1)) aUE aUE).at v;rw[<-this];congr 1;omega
      rw[At aUE,rP (s:=s2) (a:=a+1) aUE,sb,u,Jd]at S0;rw[At aUE,rP v,sb,u]at d;by_cases k1:(s.getD (a+(j+1)) 0).toNat=39
      ·rw[At aUE,sb,one,sb]at S0 d;rw[S0,d];exact k _
      ·rw[As aUE,sb]at S0 d;by_cases k2:(s.getD (a+(j+1)) 0).toNat=92
       ·rw[At aUE,sb,one,sb]at S0 d;rw[S0,d];exact k _
       ·rw[As aUE,sb,one,sb]at S0 d;rw[S0,d];exact i _
     ·rw[As aUE,sb,one,sb]at d
      have A:cc (.mk s (a:Int) O 0) (s.drop a) (l++[s.getD (a+j) 0]) ((j+1:Nat):Int)=some (.inl ()):=by
       rw[cc,As aUE]
      rw[d];exact .inl A
    ·rw[As aUE,sb,one,sb]at S0 d;rw[S0,d];exact i _
  ·rw[As aUE]at d;exact .inl d
def TG (t:ai):Prop:=t.al.length<=4000/\(t.ah=3->nmW t.al=true)/\(t.ah=6->zm.contains t.al=true)
theorem TG.of {k n a:Int} {x:av} (hx:x.length<=4000) (b:k=3->nmW x=true) (c:k=6->zm.contains x=true):TG ⟨k,n,x,a⟩:=⟨hx,b,c⟩
theorem ahg {s s2:av} (V:s.length<=4000) (hs:s2.length<=50000) {a:Nat} (p:a<s.length) (d:Bh s s2 a) {l l2:List ai} (e:l.length<=50000) (f:l2.length<=50000) (hw:(s.getD a 0).toNat≠32/\(s.getD a 0).toNat≠9/\(s.getD a 0).toNat≠10/\(s.getD a 0).toNat≠13)
  (y:Lib.hasPrefix (s.drop a) [63,62]=false) (z:Lib.hasPrefix (s.drop a) [47,47]=false):
  (∃(t:ai) (b:Nat),a<b/\b<=s.length/\(t.bF=(a:Int)/\TG t)/\bn (.mk s (a:Int) l 0)=some (.mk s (b:Int) (l++[t]) 0)/\bn (.mk s2 ((a+1:Nat):Int) l2 0)=some (.mk s2 ((b+1:Nat):Int) (l2++[sh t]) 0))\/
  (∃(k:Int),k≠0/\bn (.mk s (a:Int) l 0)=some (.mk s (a:Int) l k)):=by
 have sl:=d.len aUE;have hlen:(s.drop a).length=s.length - a:=aRI;have A:(s2.drop (a+1)).length=s2.length - (a+1):=aRI;have B:jQ s (a:Int)=some (s.drop a):=iB aUE;have e2:lz (s.drop a) 0=some (s.getD a 0):=rP (j:=0) aUE;have C:jQ s2 ((a+1:Nat):Int)=some (s2.drop (a+1)):=iB aUE;have f2:lz (s2.drop (a+1)) 0=some (s.getD a 0):=by rw[<-d.at p];exact rP (j:=0) aUE
 have D:=(s.getD a 0).toNat_lt;have c:=bn.eq_1 (.mk s (a:Int) l 0);have S0:=bn.eq_1 (.mk s2 ((a+1:Nat):Int) l2 0);replace c:bn (.mk s (a:Int) l 0)=(jQ s (a:Int)>>=_):=c;replace S0:bn (.mk s2 ((a+1:Nat):Int) l2 0)=(jQ s2 ((a+1:Nat):Int)>>=_):=S0;rw[B,sb,e2,sb,As aUE,As aUE,As aUE,sb,As aVa,wm,sb,y,As aUG,wm,sb,z,As aUG]at c;rw[C,sb,f2,sb,As aUE,As aUE,As aUE,sb,As aVa,wm,sb,d.hp _ aUF,y,As aUG,wm,sb,d.hp _ aUF,z,As aUG]at S0;by_cases E:(s.getD a 0).toNat=36
 ·have g:=d.up (b:=a+1) aUE aUE;have r:=TA (s.drop (a+1));rw[aRI]at r
  have F:jQ (s.drop a) 1=some (s.drop (a+1)):=by
   have:=iB (s:=s.drop a) (a:=1) aUE;rw[aSt]at this;exact this
  have G:jQ (s2.drop (a+1)) 1=some (s2.drop (a+1+1)):=by
   have:=iB (s:=s2.drop (a+1)) (a:=1) aUE;rw[aSt]at this;exact this
  have u:uo (s2.drop (a+1+1))=uo (s.drop (a+1)):=by
   have h:s2.drop (a+1+1)=s.drop (a+1)++VF:=g;rw[h];exact Nt _ _
  rw[At aUE,F,sb,iNl _ aVs,sb,sb]at c;rw[At aUE,G,sb,iNl _ aVs,sb,sb,u]at S0;have tk:=λn r=>g.take (n:=n) r;generalize uo (s.drop (a+1))=n at*;by_cases H:n=0
  ·subst H;rw[At aUE,sb]at c;exact .inr ⟨2,by decide,c⟩
  ·have I:bq (1+(n:Int))=((1+n:Nat):Int):=kj aUE aUE
   have J:By (s.drop a) 1 ((1+n:Nat):Int)=some ((s.drop (a+1)).take n):=by
    have:=adK (s:=s.drop a) (a:=1) (b:=1+n) aUE aUE;rw[aSt,aSv]at this;exact this
   have K:By (s2.drop (a+1)) 1 ((1+n:Nat):Int)=some ((s.drop (a+1)).take n):=by
    have:=adK (s:=s2.drop (a+1)) (a:=1) (b:=1+n) aUE aUE;rw[aSt,aSv,tk n aUE]at this;exact this
   rw[As aUE,sb,I]at c S0;replace c:_=(By (s.drop a) 1 ((1+n:Nat):Int)>>=_):=c;replace S0:_=(By (s2.drop (a+1)) 1 ((1+n:Nat):Int)>>=_):=S0;rw[J,sb,yr e _ _ _ aUE,sb]at c;rw[K,sb,yr f _ _ _ aUE,sb]at S0;refine .inl ⟨⟨2,0,(s.drop (a+1)).take n,(a:Int)⟩,a+1+n,by omega,by omega,⟨rfl,TG.of (by rw[aSX,aRI];omega) (λq=>absurd q aUF) (λq=>absurd q aUF)⟩,?_,?_⟩
   ·rw[c,show a+(1+n)=a+1+n by omega]
   ·rw[S0,show a+1+(1+n)=a+1+n+1 by omega];rfl
 rw[As aUE]at c S0;have r:=TA (s.drop a)
 have u:uo (s2.drop (a+1))=uo (s.drop a):=by
  have h:s2.drop (a+1)=s.drop a++VF:=d;rw[h];exact Nt _ _
 rw[iNl _ aUE,sb]at c;rw[iNl _ aUE,sb,u]at S0;by_cases i:0<uo (s.drop a)
 ·rw[At aUE,sb,sb,FD aUE,sb,yr e _ _ _ aUE,sb]at c;rw[At aUE,sb,sb,FD aUE,sb,yr f _ _ _ aUE,sb,d.take aUE]at S0;refine .inl ⟨⟨3,0,(s.drop a).take (uo (s.drop a)),(a:Int)⟩,a+uo (s.drop a),by omega,by omega,⟨rfl,TG.of (by rw[aSX];omega) (λ_=>adN p ((adL p).1 i) i) (λq=>absurd q aUF)⟩,c,?_⟩;rw[S0,show a+1+uo (s.drop a)=a+uo (s.drop a)+1 by omega];rfl
 rw[As aUE,Em,sb,sb]at c S0;by_cases hd:nv (s.getD a 0)=true
 ·have L:=adM p hd;have w:=TB (s.drop a)
  have nd:sf (s2.drop (a+1))=sf (s.drop a):=by
   have h:s2.drop (a+1)=s.drop a++VF:=d;rw[h];exact Nu _ _
  have M:fY (s.drop a) 0=some ((sf (s.drop a):Nat):Int):=by
   have:=iDr (s.drop a) aUE (s.drop a).length 0 aUE aUE;rw[aRf,aRk]at this;exact this
  have N:fY (s2.drop (a+1)) 0=some ((sf (s.drop a):Nat):Int):=by
   have:=iDr (s2.drop (a+1)) aUE (s2.drop (a+1)).length 0 aUE aUE;rw[aRf,aRk,nd]at this;exact this
  rw[At hd,M,sb,FD w,sb]at c;rw[At hd,N,sb,FD aUE,sb,d.take aUE]at S0
  have x:∃v b,m69 ((s.drop a).take (sf (s.drop a)))=some (v,b):=by
   rw[m69,m98];generalize pw _ _ _=o;cases o<;>exact⟨_,_,rfl⟩
  obtain⟨v,b,ev⟩:=x;rw[ev,sb]at c S0;cases b with
  | false=>exact .inr ⟨4,by decide,c⟩
  | true=>
   replace c:_=(dc (.mk s (a:Int) l 0) 4 v [] ((sf (s.drop a):Nat):Int)>>=_):=c;replace S0:_=(dc (.mk s2 ((a+1:Nat):Int) l2 0) 4 v [] ((sf (s.drop a):Nat):Int)>>=_):=S0;rw[yr e _ _ _ aUE,sb]at c;rw[yr f _ _ _ aUE,sb]at S0;refine .inl ⟨⟨4,v,[],(a:Int)⟩,a+sf (s.drop a),by omega,by omega,⟨rfl,TG.of aUF (λq=>absurd q aUF) (λq=>absurd q aUF)⟩,c,?_⟩;rw[S0,show a+1+sf (s.drop a)=a+sf (s.drop a)+1 by omega];rfl
 rw[As hd]at c S0;by_cases O:(s.getD a 0).toNat=39
 ·rw[At aUE,pq]at c S0;rcases Km (a:=a) e f hs d aUE s.length 1 [] aUE aUE aUG with P | ⟨q,b,q1,Q,W,R,S⟩
  ·replace c:_=((cc (.mk s (a:Int) l 0) (s.drop a) [] ((1:Nat):Int)>>=_)>>=_):=c;rw[P,sb,sb]at c;exact .inr ⟨3,by decide,c⟩
  ·replace c:_=((cc (.mk s (a:Int) l 0) (s.drop a) [] ((1:Nat):Int)>>=_)>>=_):=c;replace S0:_=((cc (.mk s2 ((a+1:Nat):Int) l2 0) (s2.drop (a+1)) [] ((1:Nat):Int)>>=_)>>=_):=S0;rw[R,sb,sb]at c;rw[S,sb,sb]at S0;exact .inl ⟨⟨5,0,q,(a:Int)⟩,b,q1,Q,⟨rfl,TG.of aUE (λq=>absurd q aUF) (λq=>absurd q aUF)⟩,c,S0⟩
 rw[As aUE]at c S0
 have T:fm yq (s2.drop (a+1))=fm yq (s.drop a):=by
  have h:s2.drop (a+1)=s.drop a++VF:=d;rw[h];exact adP _ _ _ aUF
 rw[Rq e aUE aUE,sb]at c;rw[Rq f aUE aUE,sb,T]at S0;cases hf:fm yq (s.drop a)with
 | none=>
  rw[hf]at c;exact .inr ⟨2,by decide,c⟩
 | some m=>
  obtain⟨U,X,Y,Z⟩:=ahf hf;rw[hf]at c S0;refine .inl ⟨⟨6,0,m,(a:Int)⟩,a+m.length,by omega,by omega,⟨rfl,TG.of aUE (λq=>absurd q aUF) (λ_=>U)⟩,c,?_⟩;rw[S0];show some (bG.mk s2 ((a+1+m.length:Nat):Int) _ 0)=_;rw[show a+1+m.length=a+m.length+1 by omega];rfl
theorem E3 {s:av} (hs:s.length<=50000) {a:Nat} {c:UInt8} {r:av} (hd:s.drop a=c::r) (hc:c=40\/c=41\/c=59) (hf:fm yq (c::r)=some [c]) (hp:Lib.hasPrefix (c::r) [63,62]=false) (hq:Lib.hasPrefix (c::r) [47,47]=false) {l:List ai} (d:l.length<=50000):
  bn (.mk s (a:Int) l 0)=some (.mk s ((a+1:Nat):Int) (l++[.mk 6 0 [c] (a:Int)]) 0):=by
 have f:a<s.length:=by
  have:=congrArg List.length hd;rw[aRI,so]at this;omega
 have b:=bn.eq_1 (.mk s (a:Int) l 0);replace b:bn (.mk s (a:Int) l 0)=(jQ s (a:Int)>>=_):=b;have e2:lz (c::r) 0=some c:=jE (i:=0) (Nat.succ_pos _);have hv:c.toNat=40\/c.toNat=41\/c.toNat=59:=by rcases hc with rfl | rfl | rfl<;>decide
 have hlen:(c::r).length=s.length - a:=by rw[<-hd,aRI]
 have e:uo (c::r)=0:=by rcases hc with rfl | rfl | rfl<;>rfl
 have hg:nv c=false:=by rcases hc with rfl | rfl | rfl<;>rfl
 rw[iB aUE,sb,hd,e2,sb,As aUE,As aUE,As aUE,sb,As aVa,wm,sb,hp,As aUG,wm,sb,hq,As aUG,As aUE,iNl _ aUE,e,sb,As aUE,Em,sb,sb,hg,As aUF,As aUE]at b;rw[b,<-hd,Rq d hs aUE,hd,hf,sb];rfl
theorem ug {s:av} (hs:s.length<=50000) {a:Nat} (d:a<s.length) (hx:(s.getD a 0).toNat=32\/(s.getD a 0).toNat=9\/(s.getD a 0).toNat=10\/(s.getD a 0).toNat=13) (l:List ai):
  bn (.mk s (a:Int) l 0)=some (.mk s ((a+1:Nat):Int) l 0):=by
 have b:=(s.getD a 0).toNat_lt
 have c:(if((s.getD a 0).toNat:Int)=32 then some true else if((s.getD a 0).toNat:Int)=9 then some true else if((s.getD a 0).toNat:Int)=10 then some true else some (((s.getD a 0).toNat:Int)==13):Option Bool)=some true:=by
  split
  ·rfl
  ·split
   ·rfl
   ·split
    ·rfl
    ·rw[show(((s.getD a 0).toNat:Int)==13)=true by rw[aRi];omega]
 have eI:=bn.eq_1 (.mk s (a:Int) l 0);replace eI:bn (.mk s (a:Int) l 0)=(jQ s (a:Int)>>=_):=eI;rw[iB aUE,sb,show lz (s.drop a) 0=some (s.getD a 0)from rP (j:=0) aUE,sb,c,sb,At rfl]at eI;dsimp only at eI;rw[ca aUE]at eI;exact eI
def Ed (l:List ai):Prop:=∃x t,l=x++[t]/\(t.ah=1\/(t.ah=6/\t.al=[59]))
def PA (s:av) (l:List ai):Prop:=∀t∈l,(0<=t.bF/\t.bF<=(s.length:Int))/\TG t
theorem PA.app {s:av} {l x:List ai} (h:PA s l) (hx:PA s x):PA s (l++x):=λt a=>(aRp.1 a).elim (h t) (hx t)
theorem PA.one {s:av} {t:ai} {a:Nat} (h:t.bF=(a:Int)/\TG t) (c:a<=s.length):PA s [t]:=λd b=>by rw[aSR]at b;subst b;exact⟨by have:=h.1;omega,h.2⟩
theorem tg1 {s:av} (hs:s.length<=4000) (k:Nat) (l:av) (a:Nat) (b:l.length<=s.length):(ai.mk 1 0 (l.take k) (a:Int)).bF=(a:Int)/\TG (ai.mk 1 0 (l.take k) (a:Int)):=⟨rfl,TG.of (by rw[aSX];omega) (λq=>absurd q aUF) (λq=>absurd q aUF)⟩
theorem tg6 (a:Nat):(ai.mk 6 0 [59] (a:Int)).bF=(a:Int)/\TG (ai.mk 6 0 [59] (a:Int)):=⟨rfl,TG.of aUF (λq=>absurd q aUF) (λ_=>rfl)⟩
theorem tg3 (a:Nat):(ai.mk 3 0 [101,99,104,111] (a:Int)).bF=(a:Int)/\TG (ai.mk 3 0 [101,99,104,111] (a:Int)):=⟨rfl,TG.of aUF (λ_=>rfl) (λq=>absurd q aUF)⟩
theorem PA.nil {s:av}:PA s []:=λt a=>by cases a
theorem Kn {s s2:av} {a:Nat} (h:Bh s s2 a) (j:Nat) (hj:a+j<=s.length):Lib.occAt (s2.drop (a+1)) [60,63] j=Lib.occAt (s.drop a) [60,63] j:=by
 have:=(h.up (b:=a+j) aUE hj).hp [60,63] aUF;unfold Lib.hasPrefix at this;unfold Lib.occAt;rw[aSt,aSt,show a+1+j=a+j+1 by omega];exact this
theorem Dk {s s2:av} (w:s.length<=4000) (hs:s2.length<=50000) {a:Nat} (j:a<=s.length) (g:Bh s s2 a) {l l2:List ai} (E:l.length<=49990) (F:l2.length<=49990):
  ∃(b:Nat) (x:List ai),a<=b/\b<=s.length/\x.length<=2/\PA s x/\b8 (.mk s (a:Int) l 0)=some (.mk s (b:Int) (l++x) 0)/\
   ((b=s.length/\(x=[]\/∃t,x=[t]/\t.ah=1))\/(x.length+a<b/\b8 (.mk s2 ((a+1:Nat):Int) l2 0)=some (.mk s2 ((b+1:Nat):Int) (l2++x.map sh) 0))):=by
 have sl:=g.len j;have hlen:(s.drop a).length=s.length - a:=aRI;have z:(s2.drop (a+1)).length=s2.length - (a+1):=aRI;have e2:m64 (s.drop a) [60,63]=some (Lib.index (s.drop a) [60,63]):=by unfold m64;rw[At aUE]
 have f2:m64 (s2.drop (a+1)) [60,63]=some (Lib.index (s2.drop (a+1)) [60,63]):=by unfold m64;rw[At aUE]
 have c:=b8.eq_1 (.mk s (a:Int) l 0);have d:=b8.eq_1 (.mk s2 ((a+1:Nat):Int) l2 0);replace c:b8 (.mk s (a:Int) l 0)=(jQ s (a:Int)>>=_):=c;replace d:b8 (.mk s2 ((a+1:Nat):Int) l2 0)=(jQ s2 ((a+1:Nat):Int)>>=_):=d;rw[iB aUE,sb,e2,sb]at c;rw[iB aUE,sb,f2,sb]at d;rcases Lib.index_spec (s.drop a) [60,63]with⟨m,_⟩ | ⟨i,m,G,y,A⟩
 ·rw[m,At aUF,sb]at c;by_cases o:a=s.length
  ·subst o;rw[As (by rw[hlen];omega),sb]at c;dsimp only at c;rw[At rfl]at c;exact⟨s.length,[],Of _,Of _,by simp,PA.nil,by rw[c,aRz],.inl ⟨rfl,.inl rfl⟩⟩
  ·rw[At aUE,FD aUE,sb,hlen,yr aUE _ _ _ aUE,sb,sb]at c;dsimp only at c;rw[At aUE]at c;refine⟨s.length,[.mk 1 0 ((s.drop a).take (s.length - a)) (a:Int)],j,Of _,by simp,PA.one (tg1 w _ _ a aUE) j,?_,.inl ⟨rfl,.inr ⟨_,rfl,rfl⟩⟩⟩;rw[c,show a+(s.length - a)=s.length by omega]
 ·have B:=Lib.index_room (s.drop a) [60,63] aUE;simp only[so,An]at B;have hi:a+i+2<=s.length:=by omega
  have j1:Lib.index (s2.drop (a+1)) [60,63]=(i:Int):=by
   rcases Lib.index_spec (s2.drop (a+1)) [60,63]with⟨_,k2⟩ | ⟨k,k1,k2,k3,k4⟩
   ·have:=k2 i aUE;rw[Kn g i aUE,y]at this;cases this
   ·have h1:¬k<i:=λq=>by
     have:=A k q;rw[Kn g k aUE,this]at k3;cases k3
    have h2:¬i<k:=λq=>by
     have:=k4 i q;rw[Kn g i aUE,y]at this;cases this
    rw[k1,show k=i by omega]
  rw[m,As aUE,sb]at c;rw[j1,As aUE,sb]at d;have p:=g.up (b:=a+i) aUE aUE
  have r:Lib.hasPrefix (s2.drop (a+1+i)) [60,63,61]=Lib.hasPrefix (s.drop (a+i)) [60,63,61]:=by
   have:=p.hp [60,63,61] aUF;rw[show a+1+i=a+i+1 by omega];exact this
  obtain⟨e,C,h,c,d,H⟩:∃e:List ai,e.length<=1/\PA s e/\b8 (.mk s (a:Int) l 0)=(if((a+i:Nat):Int)=(s.length:Int)then
    some (bG.mk s ((a+i:Nat):Int) (l++e) 0)
   else
    jQ s ((a+i:Nat):Int)>>=λu=>
    m66 u [60,63,61]>>=λv=>
    (if v=true then
     dc (bG.mk s ((a+i:Nat):Int) (l++e) 0) 3 0 [101,99,104,111] ((3:Nat):Int)>>=λf=>
     some f
    else
     some (bG.mk s (bq (((a+i:Nat):Int)+2)) (l++e) 0)))/\
   b8 (.mk s2 ((a+1:Nat):Int) l2 0)=(if((a+1+i:Nat):Int)=(s2.length:Int)then
    some (bG.mk s2 ((a+1+i:Nat):Int) (l2++e.map sh) 0)
   else
    jQ s2 ((a+1+i:Nat):Int)>>=λu=>
    m66 u [60,63,61]>>=λv=>
    (if v=true then
     dc (bG.mk s2 ((a+1+i:Nat):Int) (l2++e.map sh) 0) 3 0 [101,99,104,111] ((3:Nat):Int)>>=λf=>
     some f
    else
     some (bG.mk s2 (bq (((a+1+i:Nat):Int)+2)) (l2++e.map sh) 0)))/\e.length<=i:=by
   by_cases o:i=0
   ·subst o;rw[As aUE,sb]at c d;exact⟨[],by simp,PA.nil,by rw[aRz];exact c,by rw[aRX,aRz];exact d,Of _⟩
   ·rw[At aUE,FD aUE,sb,yr aUE _ _ _ aUE,sb,sb]at c;rw[At aUE,FD aUE,sb,yr aUE _ _ _ aUE,sb,sb,g.take aUE]at d;exact⟨[.mk 1 0 ((s.drop a).take i) (a:Int)],by simp,PA.one (tg1 w _ _ a aUE) j,c,d,by simp only[so,An];omega⟩
  rw[As aUE,iB aUE,sb,wm,sb]at c;rw[As aUE,iB aUE,sb,wm,sb,r]at d;cases hp:Lib.hasPrefix (s.drop (a+i)) [60,63,61]
  ·rw[hp,As aUF,kj (n:=a+i+2) aUE aUE]at c;rw[hp,As aUF,kj (n:=a+i+2+1) aUE aUE]at d;exact⟨a+i+2,e,by omega,hi,by omega,h,c,.inr ⟨by omega,d⟩⟩
  ·have D:a+i+3<=s.length:=by
    have:=(aSM.1 (show[60,63,61].isPrefixOf (s.drop (a+i))=true from hp)).length_le;rw[aRI]at this;simp only[so,An]at this;omega
   rw[hp,At rfl,yr aVj _ _ _ aUE,sb]at c;rw[hp,At rfl,yr (by rw[It,aSp];omega) _ _ _ aUE,sb]at d;refine⟨a+i+3,e++[.mk 3 0 [101,99,104,111] ((a+i:Nat):Int)],by omega,D,by rw[It];simp only[so,An];omega,h.app (PA.one (tg3 _) aUE),by rw[c,aRm],.inr ⟨by rw[It];simp only[so,An];omega,?_⟩⟩;rw[d,aRm,aSE,show a+1+i+3=a+i+3+1 by omega];congr 5;unfold sh;congr 1;show((a+1+i:Nat):Int)=((a+i:Nat):Int)+1;omega
theorem Rr {s s2:av} (hs:s2.length<=50000) (l l2:List ai) (q c:Int):∀(f j:Nat),s.length<=j+f->j<=s.length->Bh s s2 j->∃b:Nat,j<=b/\b<=s.length/\eT (.mk s q l 0) (j:Int)=some (.mk s (b:Int) l 0)/\eT (.mk s2 c l2 0) ((j+1:Nat):Int)=some (.mk s2 ((b+1:Nat):Int) l2 0)
 | f,j,h,hj,a=>by
  have sl:=a.len hj;rw[eT.eq_1 (.mk s q l 0) (j:Int),eT.eq_1 (.mk s2 c l2 0) ((j+1:Nat):Int)];dsimp only;by_cases hc:j<s.length
  ·obtain⟨g,rfl⟩:∃g,f=g+1:=⟨f - 1,by omega⟩;rw[At aUE,At aUE,jE hc,jE (s:=s2) (i:=j+1) aUE,sb,sb,a.at hc];by_cases n:(s.getD j 0).toNat=10
   ·rw[At aUE,At aUE,sb,sb];exact⟨j,Of _,hj,rfl,rfl⟩
   ·rw[As aUE,As aUE,iB aUE,iB aUE,sb,sb,wm,wm,sb,sb,a.hp _ aUF];cases hp:Lib.hasPrefix (s.drop j) [63,62]
    ·rw[As aUF,As aUF,sb,sb,ca aUE,ca aUE];obtain⟨b,o,d,k,m⟩:=Rr hs l l2 q c g (j+1) aUE aUE (a.up aUE aUE);exact⟨b,by omega,d,k,m⟩
    ·rw[At rfl,At rfl,sb,sb];exact⟨j,Of _,hj,rfl,rfl⟩
  ·obtain rfl:j=s.length:=by omega
   have e:s2.getD (s.length+1) 0=10:=by
    have h1:s2.drop (s.length+1)=s.drop s.length++VF:=a;rw[List.drop_length,aRe,drop_cons (s:=s2) (i:=s.length+1) aUE]at h1;exact(List.cons.inj h1).1
   rw[As aUE,sb,At aUE,jE (s:=s2) (i:=s.length+1) aUE,sb,e,At aUF,sb];exact⟨s.length,Of _,Of _,rfl,rfl⟩
def L3 (s s2:av) (a:Nat) (l:List ai) (c:ai):Prop:=
 ∃(p:Nat) (k:Int) (b:List ai),dI s s (a:Int) 0 l=some (s,(p:Int),k,b)/\p<=s.length/\(PA s b/\b.length<=s.length)/\
  (k=0->Ed b\/dI s2 s2 ((a+1:Nat):Int) 0 (c::l.map sh)=some (s2,(s2.length:Int),0,c::b.map sh++[.mk 6 0 [41] ((s.length+2:Nat):Int),.mk 6 0 [59] ((s.length+3:Nat):Int)]))
theorem L3.step {s s2:av} {a b:Nat} {l d:List ai} {c:ai} (e:a<s.length) (n:s2.length=s.length+4) (h1:bn (.mk s (a:Int) l 0)=some (.mk s (b:Int) d 0)) (h2:bn (.mk s2 ((a+1:Nat):Int) (c::l.map sh) 0)=some (.mk s2 ((b+1:Nat):Int) (c::d.map sh) 0)) (h:L3 s s2 b d c):L3 s s2 a l c:=by
 obtain⟨p,k,f,g,e2,i,j⟩:=h;refine⟨p,k,f,(pt e h1).trans g,e2,i,λm=>?_⟩;rcases j m with q | q
 ·exact .inl q
 ·exact .inr ((pt (s:=s2) aUE h2).trans q)
theorem L3.aOk {s s2:av} (hs:s2.length<=50000) (d:Bh s s2 s.length) {l:List ai} {b:ai} (hp:PA s l) (m:l.length<=49900) (f:l.length<=s.length):L3 s s2 s.length l b:=by
 have sl:=d.len (Of _);refine⟨s.length,0,l,Kl,Of _,⟨hp,f⟩,λ_=>.inr ?_⟩
 have c:s2.drop (s.length+1)=[10,41,59]:=by
  have:s2.drop (s.length+1)=s.drop s.length++VF:=d;rw[List.drop_length,aRe]at this;exact this
 have e:s2.drop (s.length+1+1)=[41,59]:=by rw[<-aSt,c];rfl
 have g:s2.drop (s.length+1+1+1)=[59]:=by rw[<-aSt,e];rfl
 have h:s2.getD (s.length+1) 0=10:=by
  rw[drop_cons (s:=s2) (i:=s.length+1) aUE]at c;exact(List.cons.inj c).1
 have j:(b::l.map sh).length<=49950:=by rw[so,aSp];omega
 have t1:=ug (s:=s2) hs (a:=s.length+1) aUE (by rw[h];exact .inr (.inr (.inl rfl))) (b::l.map sh);have t2:=E3 (s:=s2) hs e (.inr (.inl rfl)) aUF aUF aUF (l:=b::l.map sh) aUE;have k:=E3 (s:=s2) hs g (.inr (.inr rfl)) aUF aUF aUF (l:=(b::l.map sh)++[.mk 6 0 [41] ((s.length+1+1:Nat):Int)]) (by rw[It];simp only[so,An];simp only[so]at j;omega);rw[pt aUE t1];show dI s2 s2 ((s.length+1+1:Nat):Int) 0 (b::l.map sh)=_;rw[pt aUE t2];show dI s2 s2 ((s.length+1+1+1:Nat):Int) 0 ((b::l.map sh)++[.mk 6 0 [41] ((s.length+1+1:Nat):Int)])=_;rw[pt aUE k];have:((s.length+1+1+1+1:Nat):Int)=(s2.length:Int):=by omega
 show dI s2 s2 ((s.length+1+1+1+1:Nat):Int) 0 _=_;rw[this,Kl];simp;omega
theorem ac5 {s s2:av} (n:s.length<=4000) (hs:s2.length<=49900) (c:ai):∀m a:Nat,a<=s.length->s.length - a=m->Bh s s2 a->∀l:List ai,l.length<=a->PA s l->L3 s s2 a l c:=by
 intro m;induction m using Nat.strongRecOn with
 | _ m M=>
  intro a u hm e l N hp;have sl:=e.len u;have o:s2.length<=50000:=by omega
  by_cases hc:a<s.length
  ·have v:=λ(b:Nat) (G:a<b) (H:b<=s.length) (B:List ai) (h1:B.length<=b) (h2:PA s B)=>M (s.length - b) aUE b H rfl (e.up aUE H) B h1 h2;have I:(c::l.map sh).length<=49901:=by rw[so,aSp];omega
   have mp:∀x:List ai,(c::l.map sh)++x.map sh=c::(l++x).map sh:=λx=>by rw[aSE];rfl
   by_cases hw:(s.getD a 0).toNat≠32/\(s.getD a 0).toNat≠9/\(s.getD a 0).toNat≠10/\(s.getD a 0).toNat≠13
   ·have O:=(s.getD a 0).toNat_lt;cases f:Lib.hasPrefix (s.drop a) [63,62]
    ·cases hq:Lib.hasPrefix (s.drop a) [47,47]
     ·rcases ahg n o hc e (l:=l) (l2:=c::l.map sh) aUE aUE hw f hq with⟨t,b,q1,C,P,Q,D⟩ | ⟨k,q1,C⟩
      ·have D:bn (.mk s2 ((a+1:Nat):Int) (c::l.map sh) 0)=some (.mk s2 ((b+1:Nat):Int) (c::(l++[t]).map sh) 0):=by rw[D,<-mp [t]];rfl
       exact L3.step hc sl Q D (v b q1 C _ (by rw[It];simp only[so,An];omega) (hp.app (PA.one P u)))
      ·refine⟨a,k,l,?_,u,⟨hp,by omega⟩,λq=>absurd q q1⟩;rw[pt hc C,dI,As q1,sb]
     ·obtain⟨b,b1,R,p,S⟩:=Rr o l (c::l.map sh) (a:Int) ((a+1:Nat):Int) s.length a aUE u e
      have E:a<b:=by
       rcases aSf a b with q | q
       ·exact q
       ·exfalso;obtain rfl:b=a:=by omega
        have T:(s.getD b 0)=47:=by
         rw[drop_cons hc]at hq;have:[47,47].isPrefixOf (s.getD b 0::s.drop (b+1))=true:=hq;simp only[List.isPrefixOf,No,aRi]at this;exact this.1.symm
        rw[eT]at p;dsimp only at p;rw[At aUE,jE hc,sb,As aUE,iB aUE,sb,wm,sb,f,As aUF,sb,ca aUE]at p;obtain⟨U,c1,c2,V,c4⟩:=Rr o l (c::l.map sh) (b:Int) ((b+1:Nat):Int) s.length (b+1) aUE aUE (e.up aUE aUE);dsimp only at p;rw[V]at p;have:=congrArg bG.bF (aRO p);have:(U:Int)=(b:Int):=this;omega
      have eI:=bn.eq_1 (.mk s (a:Int) l 0);replace eI:bn (.mk s (a:Int) l 0)=(jQ s (a:Int)>>=_):=eI;rw[iB aUE,sb,show lz (s.drop a) 0=some (s.getD a 0)from rP (j:=0) aUE,sb,As aUE,As aUE,As aUE,sb,As aVa,wm,sb,f,As aUF,wm,sb,hq,At rfl]at eI;have d:=bn.eq_1 (.mk s2 ((a+1:Nat):Int) (c::l.map sh) 0);replace d:bn (.mk s2 ((a+1:Nat):Int) (c::l.map sh) 0)=(jQ s2 ((a+1:Nat):Int)>>=_):=d;rw[iB aUE,sb,show lz (s2.drop (a+1)) 0=some (s.getD a 0)from by rw[<-e.at hc];exact rP (j:=0) aUE,sb,As aUE,As aUE,As aUE,sb,As aVa,wm,sb,e.hp _ aUF,f,As aUF,wm,sb,e.hp _ aUF,hq,At rfl]at d;exact L3.step hc sl (eI.trans p) (d.trans S) (v b E R _ aUE hp)
    ·have h2:a+2<=s.length:=by
      have:=(aSM.1 (show[63,62].isPrefixOf (s.drop a)=true from f)).length_le;rw[aRI]at this;simp only[so,An]at this;omega
     have W:dc (.mk s (a:Int) l 0) 6 0 [59] 2=some (.mk s ((a+2:Nat):Int) (l++[.mk 6 0 [59] (a:Int)]) 0):=yr (z:=2) aUE 6 0 [59] aUE;have X:dc (.mk s2 ((a+1:Nat):Int) (c::l.map sh) 0) 6 0 [59] 2=some (.mk s2 ((a+1+2:Nat):Int) ((c::l.map sh)++[.mk 6 0 [59] ((a+1:Nat):Int)]) 0):=yr (z:=2) aUE 6 0 [59] aUE;have l1:(l++[ai.mk 6 0 [59] (a:Int)]).length<=a+1:=by rw[It];simp only[so,An];omega
     have F:PA s (l++[ai.mk 6 0 [59] (a:Int)]):=hp.app (PA.one (tg6 a) u);have eI:=bn.eq_1 (.mk s (a:Int) l 0);replace eI:bn (.mk s (a:Int) l 0)=(jQ s (a:Int)>>=_):=eI;rw[iB aUE,sb,show lz (s.drop a) 0=some (s.getD a 0)from rP (j:=0) aUE,sb,As aUE,As aUE,As aUE,sb,As aVa,wm,sb,f,At rfl,W,sb]at eI;have d:=bn.eq_1 (.mk s2 ((a+1:Nat):Int) (c::l.map sh) 0);replace d:bn (.mk s2 ((a+1:Nat):Int) (c::l.map sh) 0)=(jQ s2 ((a+1:Nat):Int)>>=_):=d;rw[iB aUE,sb,show lz (s2.drop (a+1)) 0=some (s.getD a 0)from by rw[<-e.at hc];exact rP (j:=0) aUE,sb,As aUE,As aUE,As aUE,sb,As aVa,wm,sb,e.hp _ aUF,f,At rfl,X,sb]at d;dsimp only at eI d
     have ending:∀(b:Nat) (x:List ai),b=s.length->(x=[]\/∃t,x=[t]/\t.ah=1)->PA s x->bn (.mk s (a:Int) l 0)=some (.mk s (b:Int) (l++[ai.mk 6 0 [59] (a:Int)]++x) 0)->L3 s s2 a l c:=λb x G hx Y h=>by
      subst G
      refine⟨s.length,0,_,(pt hc h).trans Kl,Of _,⟨F.app Y,by
       have:x.length<=1:=by rcases hx with rfl | ⟨t,rfl,_⟩<;>simp
       rw[It];omega⟩,λ_=>.inl ?_⟩
      rcases hx with rfl | ⟨t,rfl,Z⟩
      ·exact⟨l,_,by rw[aRz],.inr ⟨rfl,rfl⟩⟩
      ·exact⟨_,t,rfl,.inl Z⟩
     by_cases J:a+2<s.length
     ·have Jd:s2.getD (a+1+2) 0=s.getD (a+2) 0:=by
       have:=(e.up (b:=a+2) aUE aUE).at J;rw[<-this]
      rw[At aUE,jE J,sb,sb]at eI;rw[At aUE,jE (s:=s2) (i:=a+1+2) aUE,sb,sb,Jd]at d;by_cases Kt:(s.getD (a+2) 0).toNat=10
      ·rw[At aVa,ca aUE]at eI d;obtain⟨b,x,K,A,L,r,w,y⟩:=Dk n o (a:=a+2+1) aUE (e.up aUE aUE) (l:=l++[ai.mk 6 0 [59] (a:Int)]) (l2:=(c::l.map sh)++[.mk 6 0 [59] ((a+1:Nat):Int)]) aUE (by rw[It];simp only[so,An,aSp]at I ⊢;omega);rw[w,sb]at eI;rcases y with⟨y1,g⟩ | ⟨y1,g⟩
       ·exact ending b x y1 g r eI
       ·replace d:_=(b8 (.mk s2 ((a+2+1+1:Nat):Int) ((c::l.map sh)++[.mk 6 0 [59] ((a+1:Nat):Int)]) 0)>>=_):=d;rw[g,sb]at d;refine L3.step hc sl eI ?_ (v b aUE A _ aVj (F.app r));rw[d];show some (bG.mk s2 _ ((c::l.map sh)++[ai.mk 6 0 [59] (a:Int)].map sh++x.map sh) 0)=_;rw[aRm,<-aSE,mp,aRm]
      ·rw[As aVa]at eI d;obtain⟨b,x,K,A,L,r,w,y⟩:=Dk n o (a:=a+2) aUE (e.up aUE aUE) (l:=l++[ai.mk 6 0 [59] (a:Int)]) (l2:=(c::l.map sh)++[.mk 6 0 [59] ((a+1:Nat):Int)]) aUE (by rw[It];simp only[so,An,aSp]at I ⊢;omega);rw[w,sb]at eI;rcases y with⟨y1,g⟩ | ⟨y1,g⟩
       ·exact ending b x y1 g r eI
       ·replace d:_=(b8 (.mk s2 ((a+2+1:Nat):Int) ((c::l.map sh)++[.mk 6 0 [59] ((a+1:Nat):Int)]) 0)>>=_):=d;rw[g,sb]at d;refine L3.step hc sl eI ?_ (v b aUE A _ aVj (F.app r));rw[d];show some (bG.mk s2 _ ((c::l.map sh)++[ai.mk 6 0 [59] (a:Int)].map sh++x.map sh) 0)=_;rw[aRm,<-aSE,mp,aRm]
     ·have aa:a+2=s.length:=by omega
      rw[As aUE,sb,As aUF]at eI;obtain⟨b,x,K,A,L,r,w,y⟩:=Dk n o (a:=a+2) aUE (e.up aUE aUE) (l:=l++[ai.mk 6 0 [59] (a:Int)]) (l2:=[]) aUE aUG;rw[w,sb]at eI;rcases y with⟨y1,g⟩ | ⟨y1,g⟩
      ·exact ending b x y1 g r eI
      ·omega
   ·have hx:(s.getD a 0).toNat=32\/(s.getD a 0).toNat=9\/(s.getD a 0).toNat=10\/(s.getD a 0).toNat=13:=by omega
    exact L3.step hc sl (ug aUE hc hx l) (ug o aUE (by rw[e.at hc];exact hx) _) (v (a+1) aUE aUE l aUE hp)
  ·obtain rfl:a=s.length:=by omega
   exact L3.aOk o e hp aUE N
theorem Dd (s:av):∃ts k p,mr s=some (ts,k,p)/\(0<=p/\p<=(s.length:Int))/\PA s ts/\(k=0->p=0/\∀e:Int,0<=e->Tk ts e):=by
 unfold mr;rw[sb];by_cases j:(s.length:Int)>4000
 ·rw[At j,sb];exact⟨_,_,_,rfl,by omega,PA.nil,λq=>absurd q aUF⟩
 ·rw[As j,sb,sb];have g:Bh s ([0]++s++VF) 0:=rfl;have w:([0]++s++VF:av).length=s.length+4:=g.len (aRV _);obtain⟨b,x,y,m,z,n,f,r⟩:=Dk (s:=s) (s2:=[0]++s++VF) aUE aUE (aRV _) g (l:=[]) (l2:=[]) aUG aUG;replace f:b8 (.mk s 0 [] 0)=some (.mk s (b:Int) x 0):=by rw[aRe]at f;exact f
  rw[f,sb]
  have key:∃(p:Nat) (k:Int) (d:List ai),dI s s (b:Int) 0 x=some (s,(p:Int),k,d)/\p<=s.length/\PA s d/\d.length<=4000:=by
   by_cases o:b=s.length
   ·subst o;exact⟨s.length,0,x,Kl,Of _,n,by omega⟩
   ·have hx:x.length<=b:=by
     rcases r with⟨q,_⟩ | ⟨q,_⟩
     ·exact absurd q o
     ·omega
    obtain⟨p,k,d,h,e2,a,_⟩:=ac5 (s:=s) (s2:=[0]++s++VF) aUE aUE ⟨0,0,[],0⟩ _ b m rfl (g.up (aRV _) m) x hx n;exact⟨p,k,d,h,e2,a.1,by have:=a.2;omega⟩
  obtain⟨A,u,d,h,e2,a,v⟩:=key;show ∃ts k p,(dI s s (b:Int) 0 x>>=_)=some (ts,k,p)/\_;rw[h,sb];dsimp only;by_cases i:u=0
  ·rw[At i];exact⟨_,_,_,rfl,by omega,a,λ_=>⟨rfl,λe he=>⟨v,he,λt c=>(a t c).1.1,λt c=>(a t c).2.1,λt c=>(a t c).2.2.1,λt c=>(a t c).2.2.2⟩⟩⟩
  ·rw[As i];exact⟨_,_,_,rfl,by omega,PA.nil,λq=>absurd q i⟩
end Go.Am
