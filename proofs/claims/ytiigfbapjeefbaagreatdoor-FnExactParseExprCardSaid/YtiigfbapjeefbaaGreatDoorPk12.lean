/- Texts of the proof, joined and shortened. -/
import Derived.Test.YtiigfbapjeefbaaGreatDoorPk11
set_option linter.unusedVariables false
set_option linter.unusedSimpArgs false
set_option maxRecDepth 10000
namespace Go.Am
open Go Go.RowKit Go.Proofs
theorem adP (t:aB):∃v:Int,j4 t=some v/\lN t=some v/\(v=0\/(1<=v/\v<=15/\iI v=some t)):=by
 have go:∀(k:Nat) (y:Int),1<=y->y+k=16->∃o,mw t y=some o/\mq t y=some o/\(o=.inl ()\/∃v,o=.inr v/\1<=v/\v<=15/\iI v=some t):=by
  intro k
  induction k with
  | zero=>
   intro y h1 h2
   rw [mw,mq,if_neg aKK,if_neg aKK]
   exact ⟨_,rfl,rfl,.inl rfl⟩
  | succ k ih=>
   intro y h1 h2
   obtain ⟨x,e1,e2,_⟩:=sOp y h1 aKK
   rw [mw,mq,if_pos aKK,if_pos aKK,e1,sb,e2,sb]
   by_cases hx:x=t
   ·rw [if_pos hx,if_pos hx]
    exact ⟨_,rfl,rfl,.inr ⟨y,rfl,h1,by omega,by rw [e1,hx]⟩⟩
   ·rw [if_neg hx,if_neg hx,wW aKK aKK]
    exact ih (y+1) aKK aKK
 obtain ⟨o,h1,h2,h3⟩:=go 15 1 aKK aKK
 unfold j4 lN
 rw [h1,h2,sb]
 rcases h3 with rfl | ⟨v,rfl,h3⟩
 ·exact ⟨0,rfl,rfl,.inl rfl⟩
 ·exact ⟨v,rfl,rfl,.inr h3⟩
theorem Kd {v:Int} (h1:1<=v) (h2:v<=15):∃k,ld v=some k/\ky v=some k/\6<=k/\k<=10:=by
 obtain ⟨_,_,_,k,q1,q2,q3,q4⟩:=sOp v h1 h2
 exact ⟨k,q1,q2,q3,q4⟩
theorem alx {v:Int} (h1:1<=v) (h2:v<=15):iI v≠some [61]:=by
 obtain ⟨n,rfl⟩:∃n:Nat,v=(n:Int):=⟨v.toNat,by omega⟩
 have:n=1\/n=2\/n=3\/n=4\/n=5\/n=6\/n=7\/n=8\/n=9\/n=10\/n=11\/n=12\/n=13\/n=14\/n=15:=by omega
 rcases this with rfl | rfl | rfl | rfl | rfl | rfl | rfl | rfl | rfl | rfl | rfl | rfl | rfl | rfl | rfl<;>(unfold iI;intro h;revert h;decide)
def J9 (x:Option ((List af)×Int×Int×Bool×(List ae)×Int×Int×aB×(List ae))) (n:ae) (p:ai):Prop:=x=some (p.ar,p.bM,p.az,p.ay,[],n.aj,n.aP,n.aq,n.ah)
theorem J9.run {x:Option ((List af)×Int×Int×Bool×(List ae)×Int×Int×aB×(List ae))} {n:ae} {p:ai} (h:J9 x n p):(x>>=λ(BW,BX,BY,BZ,D2,B1,B2,B3,xY)=>some ((ae.mk B1 B2 B3 xY),(ai.mk BW BX BY BZ)))=some (n,p):=by
 cases n
 rw [h];rfl
section
variable {ts:List af} {e e':Int}
theorem Rs.PN {v:Bool} {D i:Nat} {s':JS} {k m:Int} {t t':aB} {l l':List ae} (hk:k≠7) (h4:k≠4) (h8:k≠8) (wi:s'.Ok ts) (hle:i<=s'.pos) (hD:1<=D) (DB:∀j,s'=.d j->i<j)
  (hg:∀i',s'=.g i'->i+1<i'/\t=t'/\l=l'/\(t.length:Int)+(wl l:Int)+8192+16384*(i:Int)<=16384*(i':Int)):Rs ts v D (.g i) s' (.mk k m t l) (.mk k m t' l'):=
 ⟨wi,hle,λi' h=>by
  obtain ⟨h1,rfl,rfl,h2⟩:=hg i' h
  exact ⟨i,rfl,by omega,rfl,by rw [lR];omega,qh hk,λ_ hh=>by omega⟩,λj hj=>⟨⟨i,rfl⟩,DB j hj,hD,λ_=>CR hk h4 h8⟩⟩
theorem agf (H:Tk ts e) {i:Nat} (hi:i<=ts.length) (IH:∀s,Lt ts i s->PC ts e e' s):C1 ts e e' true 1 (.g i) ff cn:=by
 have hs:(JS.g i).Ok ts:=hi
 have wrap:∀(a:Int) (s':JS) (n m:ae),i<ts.length->Rs ts true 1 (.g (i+1)) s' n m->Rs ts true 1 (.g i) s' (.mk 9 a [] [n]) (.mk 9 a [] [m]):=λa s' n m bg h=>by
  refine Rs.PN aKL aKL aKL h.ok (by have:i+1<=s'.pos:=h.le;omega) (No _) (λj hj=>?_) (λi' h'=>?_)
  ·have q:i+1<j:=(h.dm j hj).2.1
   omega
  ·obtain ⟨k,q1,q2,q3,q4,_⟩:=h.good i' h'
   cases q1
   subst q3
   refine ⟨by omega,rfl,rfl,?_⟩
   rw [df]
   simp only [At]
   omega
 cases h1:tw ts i [33] with
 | true=>
  have bg:=cw h1
  obtain ⟨s',n,m,g1,g2,g3⟩:=(IH _ (Lt.g (aHP i) bg)).un
  refine ⟨s',_,_,?_,?_,wrap 1 s' n m bg g3⟩
  ·rw [ff]
   refine dH (c8 H h1) ?_
   refine aX g1 ?_
   rfl
  ·rw [cn]
   refine dH (bU H h1) ?_
   refine aX g2 ?_
   rfl
 | false=>
  cases h2:tw ts i [45] with
  | true=>
   have bg:=cw h2
   obtain ⟨s',n,m,g1,g2,g3⟩:=(IH _ (Lt.g (aHP i) bg)).un
   refine ⟨s',_,_,?_,?_,wrap 2 s' n m bg g3⟩
   ·rw [ff]
    refine aG (ax (w:=[33]) H hs h1) ?_
    refine dH (c8 H h2) ?_
    refine aX g1 ?_
    rfl
   ·rw [cn]
    refine aG (au (w:=[33]) H hs h1) ?_
    refine dH (bU H h2) ?_
    refine aX g2 ?_
    rfl
  | false=>
   obtain ⟨s',n,m,g1,g2,g3⟩:=Ke (e':=e') H hi IH true
   refine ⟨s',n,m,?_,?_,g3⟩
   ·rw [ff]
    refine aG (ax (w:=[33]) H hs h1) ?_
    refine aG (ax (w:=[45]) H hs h2) ?_
    rw [mV]
    refine (eg (a:=(n,pS ts e s')) ?_).trans rfl
    exact (eg g1).trans rfl
   ·rw [cn]
    refine aG (au (w:=[33]) H hs h1) ?_
    refine aG (au (w:=[45]) H hs h2) ?_
    refine aX g2 ?_
    rfl
theorem eq6 (H:Tk ts e) {j:Nat} (h:tw ts j [61]=true):kd ts j=6:=by
 rw [<-aM H aKL aKL] at h
 unfold aT at h
 rw [As,beq_iff_eq] at h
 exact h.1
theorem Kf (H:Tk ts e) {i0:Nat} (IH:∀s,Lt ts i0 s->PC ts e e' s) (lv:Nat) (h6:6<=lv) (h10:lv<=10):∀(N:Nat) (s:JS) (n m:ae),s.Ok ts->i0<=s.pos->(∀i,s=.g i->ts.length - i<N/\n=m/\Inv ts i0 i n)->(∀j,s=.d j->i0<j/\xz m=false)->
  ∃s' n' m',S9 (aJ (lv:Int) (pS ts e s).fT (pS ts e s).fI (pS ts e s).az (pS ts e s).ay [] n.aj n.aP n.aq n.ah) n' (pS ts e s')/\
   I9 (bD (lv:Int) (qS ts e' s).ar (qS ts e' s).bM (qS ts e' s).az (qS ts e' s).ay [] m.aj m.aP m.aq m.ah) m' (qS ts e' s')/\Rs ts true 1 (.g i0) s' n' m'
 | N,.b j,n,m,hs,hp,_,_=>by
  refine ⟨.b j,n,m,.inr ?_,.inr ?_,Rs.b hs hp⟩
  ·rw [aJ,if_neg (show ¬(pS ts e (.b j)).fI<((pS ts e (.b j)).fT.length:Int) from λh=>by have h:(ts.length:Int)<ts.length:=h;omega)]
  ·rw [bD];simp only [jC,if_true]
 | N,.d j,n,m,hs,hp,_,hd=>by
  refine ⟨.d j,n,m,.inr ?_,.inl ?_,⟨hs,hp,λi h=>aLh,λj' h=>by cases h;exact ⟨⟨i0,rfl⟩,(hd j rfl).1,No _,λ_=>(hd j rfl).2⟩⟩⟩
  ·rw [aJ,if_neg (show ¬(pS ts e (.d j)).fI<((pS ts e (.d j)).fT.length:Int) from λh=>by have h:(ts.length:Int)<ts.length:=h;omega)]
  ·obtain ⟨v,o1,o2,o3⟩:=adP (tx ts j)
   have hv:v=0:=by
    rcases o3 with h | ⟨h1,h2,h3⟩
    ·exact h
    ·rw [(PO hs.2).2] at h3
     exact (alx h1 h2 h3).elim
   subst hv
   rw [bD]
   simp only [Nn,if_false,dO]
   refine (eg (b8 H _ hs)).trans ?_
   refine aX (show lN (tok ts j).aq=some 0 from o2) ?_
   refine nH (show (tok ts j).aj=6 from eq6 H hs.2) ?_
   refine nH rfl ?_
   rw [Rg]
 | 0,.g i,n,m,_,_,h,_=>by have:=(h i rfl).1;omega
 | N+1,.g i,n,m,hs,hp,hinv,_=>by
  obtain ⟨hN,rfl,inv⟩:=hinv i rfl
  have hi:i<=ts.length:=hs
  have hL:=H.len
  have adQ:=inv.lt
  have hwt:=inv.wt
  obtain ⟨k,a,t,l⟩:=n
  have next:∀(k' a':Int) (s1:JS) (x y:ae),k'≠7->k'≠4->k'≠8->i<ts.length->Rs ts true 1 (.g (i+1)) s1 x y->(∀i2,s1=.g i2->ts.length - i2<N/\ae.mk k' a' [] [.mk k a t l,x]=.mk k' a' [] [.mk k a t l,y]/\Inv ts i0 i2 (.mk k' a' [] [.mk k a t l,x]))/\(∀j,s1=.d j->i0<j/\xz (.mk k' a' [] [.mk k a t l,y])=false)/\i0<=s1.pos:=λk' a' s1 x y h7 h4 h8 bg h=>by
   refine ⟨λi2 h2=>?_,λj hj=>⟨?_,CR h7 h4 h8⟩,by have:i+1<=s1.pos:=h.le;omega⟩
   ·obtain ⟨k1,q1,q2,q3,q4,_⟩:=h.good i2 h2
    cases q1
    subst q3
    refine ⟨by omega,rfl,⟨by omega,?_,qh h7,λhh=>by omega⟩⟩
    rw [lR,ja,df]
    simp only [At]
    omega
   ·have q:i+1<j:=(h.dm j hj).2.1
    omega
  have CS:i<ts.length->(pS ts e (.g i)).fI<((pS ts e (.g i)).fT.length:Int):=λh=>by show (i:Int)<(ts.length:Int);omega
  have send:¬(i<ts.length/\kd ts i=6)->aJ (lv:Int) (pS ts e (.g i)).fT (pS ts e (.g i)).fI (pS ts e (.g i)).az (pS ts e (.g i)).ay [] k a t l=some (.inl ((pS ts e (.g i)).fT,(pS ts e (.g i)).fI,(pS ts e (.g i)).az,(pS ts e (.g i)).ay,[],k,a,t,l)):=λhh=>by
   rw [aJ]
   by_cases bg:i<ts.length
   ·rw [if_pos (CS bg)]
    refine (eg (ji bg)).trans ?_
    refine ca (show ¬(tok ts i).aj=6 from λh=>hh ⟨bg,h⟩) ?_
    rfl
   ·rw [if_neg (show ¬(pS ts e (.g i)).fI<((pS ts e (.g i)).fT.length:Int) from λh=>by have h:(i:Int)<(ts.length:Int):=h;omega)]
  obtain ⟨v,o1,o2,o3⟩:=adP (tx ts i)
  by_cases h:i<ts.length/\kd ts i=6
  ·obtain ⟨bg,k6⟩:=h
   have fu:(JS.g (i+1)).Ok ts:=bg
   by_cases hop:v≠0/\ky v=some (lv:Int)
   ·have o4:=o3.resolve_left hop.1
    obtain ⟨lk,v1,v2,v3,v4⟩:=Kd o4.1 o4.2.1
    have hlk:lk=(lv:Int):=aIv (v2.symm.trans hop.2)
    subst hlk
    obtain ⟨s1,x,y,g1,g2,g3⟩:=(IH _ (Lt.g (show i0<i+1 by omega) bg)).bin (lv+1) aKK aKK
    obtain ⟨n1,n2,n3⟩:=next 10 v s1 x y aKL aKL aKL bg g3
    obtain ⟨s',n',m',f1,f2,f3⟩:=Kf H IH lv h6 h10 N s1 _ _ g3.ok n3 n1 n2
    have ib:bm (qS ts e' (.g (i+1))) ((lv+1:Nat):Int)=some (y,qS ts e' s1):=by
     match lv,h6 with
     | z+6,_=>exact g2
    refine ⟨s',n',m',?_,?_,f3⟩
    ·have key:aJ (lv:Int) (pS ts e (.g i)).fT (pS ts e (.g i)).fI (pS ts e (.g i)).az (pS ts e (.g i)).ay [] k a t l=aJ (lv:Int) (pS ts e s1).fT (pS ts e s1).fI (pS ts e s1).az (pS ts e s1).ay [] 10 v [] [.mk k a t l,x]:=by
      rw [aJ,if_pos (CS bg)]
      refine (eg (ji bg)).trans ?_
      refine nH (show (tok ts i).aj=6 from k6) ?_
      refine (eg (ji bg)).trans ?_
      refine aX (show j4 (tok ts i).aq=some v from o1) ?_
      refine (eg (a:=((pS ts e (.g i)).fT,(pS ts e (.g i)).fI,(pS ts e (.g i)).az,(pS ts e (.g i)).ay,false)) (if_neg aKK)).trans ?_
      refine ca aHI ?_
      refine (eg (a:=((pS ts e (.g i)).fT,(pS ts e (.g i)).fI,(pS ts e (.g i)).az,(pS ts e (.g i)).ay,false)) (if_neg aKK)).trans ?_
      refine ca aHI ?_
      refine (eg (a:=true) ?_).trans ?_
      ·rw [if_pos (show v>0 by omega),v1,sb,beq_self_eq_true]
      refine nH rfl ?_
      rw [tO H hi,bQ aKK]
      refine aX g1 ?_
      rfl
     rw [show aJ (lv:Int) (pS ts e (.g i)).fT (pS ts e (.g i)).fI (pS ts e (.g i)).az (pS ts e (.g i)).ay [] (ae.mk k a t l).aj (ae.mk k a t l).aP (ae.mk k a t l).aq (ae.mk k a t l).ah=_ from key]
     exact f1
    ·have key:bD (lv:Int) (qS ts e' (.g i)).ar (qS ts e' (.g i)).bM (qS ts e' (.g i)).az (qS ts e' (.g i)).ay [] k a t l=bD (lv:Int) (qS ts e' s1).ar (qS ts e' s1).bM (qS ts e' s1).az (qS ts e' s1).ay [] 10 v [] [.mk k a t l,y]:=by
      rw [bD]
      simp only [kj,if_false,dO]
      refine (eg (b8 H _ hs)).trans ?_
      refine aX (show lN (tok ts i).aq=some v from o2) ?_
      refine nH (show (tok ts i).aj=6 from k6) ?_
      refine ca hop.1 ?_
      refine aX hop.2 ?_
      refine nH rfl ?_
      rw [se H hi,bQ aKK]
      refine aX ib ?_
      rfl
     rw [show bD (lv:Int) (qS ts e' (.g i)).ar (qS ts e' (.g i)).bM (qS ts e' (.g i)).az (qS ts e' (.g i)).ay [] (ae.mk k a t l).aj (ae.mk k a t l).aP (ae.mk k a t l).aq (ae.mk k a t l).ah=_ from key]
     exact f2
   ·refine ⟨.g i,.mk k a t l,.mk k a t l,.inl ?_,.inl ?_,inv.rs hi⟩
    ·rw [aJ,if_pos (CS bg)]
     refine (eg (ji bg)).trans ?_
     refine nH (show (tok ts i).aj=6 from k6) ?_
     refine (eg (ji bg)).trans ?_
     refine aX (show j4 (tok ts i).aq=some v from o1) ?_
     refine (eg (a:=((pS ts e (.g i)).fT,(pS ts e (.g i)).fI,(pS ts e (.g i)).az,(pS ts e (.g i)).ay,false)) (if_neg aKK)).trans ?_
     refine ca aHI ?_
     refine (eg (a:=((pS ts e (.g i)).fT,(pS ts e (.g i)).fI,(pS ts e (.g i)).az,(pS ts e (.g i)).ay,false)) (if_neg aKK)).trans ?_
     refine ca aHI ?_
     refine (eg (a:=false) ?_).trans ?_
     ·rcases o3 with rfl | ⟨h1,h2,h3⟩
      ·rw [if_neg aKL]
      ·obtain ⟨lk,v1,v2,v3,v4⟩:=Kd h1 h2
       rw [if_pos (show v>0 by omega),v1,sb,beq_eq_false_iff_ne.2 (λhh=>hop ⟨by omega,by rw [v2,hh]⟩)]
     refine ca aHI ?_
     rfl
    ·rw [bD]
     simp only [kj,if_false,dO]
     refine (eg (b8 H _ hs)).trans ?_
     refine aX (show lN (tok ts i).aq=some v from o2) ?_
     refine nH (show (tok ts i).aj=6 from k6) ?_
     by_cases hv:v=0
     ·refine nH hv ?_
      rfl
     ·refine ca hv ?_
      have o4:=o3.resolve_left hv
      obtain ⟨lk,v1,v2,v3,v4⟩:=Kd o4.1 o4.2.1
      refine aX v2 ?_
      refine ca (show ¬lk=(lv:Int) from λhh=>hop ⟨hv,by rw [v2,hh]⟩) ?_
      rfl
  ·refine ⟨.g i,.mk k a t l,.mk k a t l,.inr (send h),.inl ?_,inv.rs hi⟩
   rw [bD]
   simp only [kj,if_false,dO]
   refine (eg (b8 H _ hs)).trans ?_
   refine aX (show lN (tok ts i).aq=some v from o2) ?_
   refine ca (show ¬(tok ts i).aj=6 from λhk=>h ⟨tP (by unfold kd;omega),hk⟩) ?_
   rfl
theorem Kg (H:Tk ts e) {i0:Nat} (IH:∀s,Lt ts i0 s->PC ts e e' s):∀(N:Nat) (s:JS) (n m:ae),s.Ok ts->i0<=s.pos->(∀i,s=.g i->ts.length - i<N/\n=m/\Inv ts i0 i n)->(∀j,s=.d j->i0<j/\xz m=false)->
  ∃s' n' m',S9 (aJ 5 (pS ts e s).fT (pS ts e s).fI (pS ts e s).az (pS ts e s).ay [] n.aj n.aP n.aq n.ah) n' (pS ts e s')/\
   J9 (bR (qS ts e' s).ar (qS ts e' s).bM (qS ts e' s).az (qS ts e' s).ay [] m.aj m.aP m.aq m.ah) m' (qS ts e' s')/\Rs ts true 1 (.g i0) s' n' m'
 | N,.b j,n,m,hs,hp,_,_=>by
  refine ⟨.b j,n,m,.inr ?_,?_,Rs.b hs hp⟩
  ·rw [aJ,if_neg (show ¬(pS ts e (.b j)).fI<((pS ts e (.b j)).fT.length:Int) from λh=>by have h:(ts.length:Int)<ts.length:=h;omega)]
  ·rw [bR];rw [dO];refine aG (au (w:=[38,38]) H hs rfl) ?_;rfl
 | N,.d j,n,m,hs,hp,_,hd=>by
  refine ⟨.d j,n,m,.inr ?_,?_,⟨hs,hp,λi h=>aLh,λj' h=>by cases h;exact ⟨⟨i0,rfl⟩,(hd j rfl).1,No _,λ_=>(hd j rfl).2⟩⟩⟩
  ·rw [aJ,if_neg (show ¬(pS ts e (.d j)).fI<((pS ts e (.d j)).fT.length:Int) from λh=>by have h:(ts.length:Int)<ts.length:=h;omega)]
  ·rw [bR];rw [dO];refine aG (au (w:=[38,38]) H hs rfl) ?_;rfl
 | 0,.g i,n,m,_,_,h,_=>by have:=(h i rfl).1;omega
 | N+1,.g i,n,m,hs,hp,hinv,_=>by
  obtain ⟨hN,rfl,inv⟩:=hinv i rfl
  have hi:i<=ts.length:=hs
  have hL:=H.len
  have adQ:=inv.lt
  have hwt:=inv.wt
  obtain ⟨k,a,t,l⟩:=n
  have next:∀(k' a':Int) (s1:JS) (x y:ae),k'≠7->k'≠4->k'≠8->i<ts.length->Rs ts true 1 (.g (i+1)) s1 x y->(∀i2,s1=.g i2->ts.length - i2<N/\ae.mk k' a' [] [.mk k a t l,x]=.mk k' a' [] [.mk k a t l,y]/\Inv ts i0 i2 (.mk k' a' [] [.mk k a t l,x]))/\(∀j,s1=.d j->i0<j/\xz (.mk k' a' [] [.mk k a t l,y])=false)/\i0<=s1.pos:=λk' a' s1 x y h7 h4 h8 bg h=>by
   refine ⟨λi2 h2=>?_,λj hj=>⟨?_,CR h7 h4 h8⟩,by have:i+1<=s1.pos:=h.le;omega⟩
   ·obtain ⟨k1,q1,q2,q3,q4,_⟩:=h.good i2 h2
    cases q1
    subst q3
    refine ⟨by omega,rfl,⟨by omega,?_,qh h7,λhh=>by omega⟩⟩
    rw [lR,ja,df]
    simp only [At]
    omega
   ·have q:i+1<j:=(h.dm j hj).2.1
    omega
  have CS:i<ts.length->(pS ts e (.g i)).fI<((pS ts e (.g i)).fT.length:Int):=λh=>by show (i:Int)<(ts.length:Int);omega
  have send:¬(i<ts.length/\kd ts i=6)->aJ 5 (pS ts e (.g i)).fT (pS ts e (.g i)).fI (pS ts e (.g i)).az (pS ts e (.g i)).ay [] k a t l=some (.inl ((pS ts e (.g i)).fT,(pS ts e (.g i)).fI,(pS ts e (.g i)).az,(pS ts e (.g i)).ay,[],k,a,t,l)):=λhh=>by
   rw [aJ]
   by_cases bg:i<ts.length
   ·rw [if_pos (CS bg)]
    refine (eg (ji bg)).trans ?_
    refine ca (show ¬(tok ts i).aj=6 from λh=>hh ⟨bg,h⟩) ?_
    rfl
   ·rw [if_neg (show ¬(pS ts e (.g i)).fI<((pS ts e (.g i)).fT.length:Int) from λh=>by have h:(i:Int)<(ts.length:Int):=h;omega)]
  obtain ⟨v,o1,o2,o3⟩:=adP (tx ts i)
  cases hw:tw ts i [38,38] with
  | true=>
   have bg:=cw hw
   have k6:kd ts i=6:=by
    have hw2:=hw
    rw [<-aM H aKL aKL] at hw2
    unfold aT at hw2
    rw [As,beq_iff_eq] at hw2
    exact hw2.1
   obtain ⟨s1,x,y,g1,g2,g3⟩:=(IH _ (Lt.g (show i0<i+1 by omega) bg)).bin 6 aKL aKL
   obtain ⟨n1,n2,n3⟩:=next 11 0 s1 x y aKL aKL aKL bg g3
   obtain ⟨s',n',m',f1,f2,f3⟩:=Kg H IH N s1 _ _ g3.ok n3 n1 n2
   refine ⟨s',n',m',?_,?_,f3⟩
   ·have key:aJ 5 (pS ts e (.g i)).fT (pS ts e (.g i)).fI (pS ts e (.g i)).az (pS ts e (.g i)).ay [] k a t l=aJ 5 (pS ts e s1).fT (pS ts e s1).fI (pS ts e s1).az (pS ts e s1).ay [] 11 0 [] [.mk k a t l,x]:=by
      rw [aJ,if_pos (CS bg)]
      refine (eg (ji bg)).trans ?_
      refine nH (show (tok ts i).aj=6 from k6) ?_
      refine (eg (ji bg)).trans ?_
      refine aX (show j4 (tok ts i).aq=some v from o1) ?_
      refine (eg (a:=((pS ts e (.g i)).fT,(pS ts e (.g i)).fI,(pS ts e (.g i)).az,(pS ts e (.g i)).ay,false)) (if_neg aKL)).trans ?_
      refine ca aHI ?_
      refine (eg (a:=((pS ts e (.g (i+1))).fT,(pS ts e (.g (i+1))).fI,(pS ts e (.g (i+1))).az,(pS ts e (.g (i+1))).ay,true)) ?_).trans ?_
      ·refine nH rfl ?_
       refine aX (c8 H hw) ?_
       rfl
      refine nH rfl ?_
      refine aX g1 ?_
      rfl
    rw [show aJ 5 (pS ts e (.g i)).fT (pS ts e (.g i)).fI (pS ts e (.g i)).az (pS ts e (.g i)).ay [] (ae.mk k a t l).aj (ae.mk k a t l).aP (ae.mk k a t l).aq (ae.mk k a t l).ah=_ from key]
    exact f1
   ·have key:bR (qS ts e' (.g i)).ar (qS ts e' (.g i)).bM (qS ts e' (.g i)).az (qS ts e' (.g i)).ay [] k a t l=bR (qS ts e' s1).ar (qS ts e' s1).bM (qS ts e' s1).az (qS ts e' s1).ay [] 11 0 [] [.mk k a t l,y]:=by
      rw [bR]
      rw [dO]
      refine dH (bU H hw) ?_
      refine aX g2 ?_
      rfl
    rw [show bR (qS ts e' (.g i)).ar (qS ts e' (.g i)).bM (qS ts e' (.g i)).az (qS ts e' (.g i)).ay [] (ae.mk k a t l).aj (ae.mk k a t l).aP (ae.mk k a t l).aq (ae.mk k a t l).ah=_ from key]
    exact f2
  | false=>
   have fI:J9 (bR (qS ts e' (.g i)).ar (qS ts e' (.g i)).bM (qS ts e' (.g i)).az (qS ts e' (.g i)).ay [] (ae.mk k a t l).aj (ae.mk k a t l).aP (ae.mk k a t l).aq (ae.mk k a t l).ah) (.mk k a t l) (qS ts e' (.g i)):=by
    show bR (qS ts e' (.g i)).ar (qS ts e' (.g i)).bM (qS ts e' (.g i)).az (qS ts e' (.g i)).ay [] k a t l=_
    rw [bR]
    rw [dO]
    refine aG (au (w:=[38,38]) H hs hw) ?_
    rfl
   by_cases h:i<ts.length/\kd ts i=6
   ·obtain ⟨bg,k6⟩:=h
    refine ⟨.g i,.mk k a t l,.mk k a t l,.inl ?_,fI,inv.rs hi⟩
    ·rw [aJ,if_pos (CS bg)]
     refine (eg (ji bg)).trans ?_
     refine nH (show (tok ts i).aj=6 from k6) ?_
     refine (eg (ji bg)).trans ?_
     refine aX (show j4 (tok ts i).aq=some v from o1) ?_
     refine (eg (a:=((pS ts e (.g i)).fT,(pS ts e (.g i)).fI,(pS ts e (.g i)).az,(pS ts e (.g i)).ay,false)) (if_neg aKL)).trans ?_
     refine ca aHI ?_
     refine (eg (a:=((pS ts e (.g i)).fT,(pS ts e (.g i)).fI,(pS ts e (.g i)).az,(pS ts e (.g i)).ay,false)) ?_).trans ?_
     ·refine nH rfl ?_
      rw [oS]
      refine aX (ax (w:=[38,38]) H hs hw) ?_
      rfl
     refine ca aHI ?_
     refine (eg (a:=false) ?_).trans ?_
     ·rcases o3 with rfl | ⟨h1,h2,h3⟩
      ·rw [if_neg aKL]
      ·obtain ⟨lk,v1,v2,v3,v4⟩:=Kd h1 h2
       rw [if_pos (show v>0 by omega),v1,sb,beq_eq_false_iff_ne.2 (show lk≠5 by omega)]
     refine ca aHI ?_
     rfl
   ·exact ⟨.g i,.mk k a t l,.mk k a t l,.inr (send h),fI,inv.rs hi⟩
theorem PQ (H:Tk ts e) {i0:Nat} (IH:∀s,Lt ts i0 s->PC ts e e' s):∀(N:Nat) (s:JS) (n m:ae),s.Ok ts->i0<=s.pos->(∀i,s=.g i->ts.length - i<N/\n=m/\Inv ts i0 i n)->(∀j,s=.d j->i0<j/\xz m=false)->
  ∃s' n' m',S9 (aJ 4 (pS ts e s).fT (pS ts e s).fI (pS ts e s).az (pS ts e s).ay [] n.aj n.aP n.aq n.ah) n' (pS ts e s')/\
   J9 (bX (qS ts e' s).ar (qS ts e' s).bM (qS ts e' s).az (qS ts e' s).ay [] m.aj m.aP m.aq m.ah) m' (qS ts e' s')/\Rs ts true 1 (.g i0) s' n' m'
 | N,.b j,n,m,hs,hp,_,_=>by
  refine ⟨.b j,n,m,.inr ?_,?_,Rs.b hs hp⟩
  ·rw [aJ,if_neg (show ¬(pS ts e (.b j)).fI<((pS ts e (.b j)).fT.length:Int) from λh=>by have h:(ts.length:Int)<ts.length:=h;omega)]
  ·rw [bX];rw [dO];refine aG (au (w:=[124,124]) H hs rfl) ?_;rfl
 | N,.d j,n,m,hs,hp,_,hd=>by
  refine ⟨.d j,n,m,.inr ?_,?_,⟨hs,hp,λi h=>aLh,λj' h=>by cases h;exact ⟨⟨i0,rfl⟩,(hd j rfl).1,No _,λ_=>(hd j rfl).2⟩⟩⟩
  ·rw [aJ,if_neg (show ¬(pS ts e (.d j)).fI<((pS ts e (.d j)).fT.length:Int) from λh=>by have h:(ts.length:Int)<ts.length:=h;omega)]
  ·rw [bX];rw [dO];refine aG (au (w:=[124,124]) H hs rfl) ?_;rfl
 | 0,.g i,n,m,_,_,h,_=>by have:=(h i rfl).1;omega
 | N+1,.g i,n,m,hs,hp,hinv,_=>by
  obtain ⟨hN,rfl,inv⟩:=hinv i rfl
  have hi:i<=ts.length:=hs
  have hL:=H.len
  have adQ:=inv.lt
  have hwt:=inv.wt
  obtain ⟨k,a,t,l⟩:=n
  have next:∀(k' a':Int) (s1:JS) (x y:ae),k'≠7->k'≠4->k'≠8->i<ts.length->Rs ts true 1 (.g (i+1)) s1 x y->(∀i2,s1=.g i2->ts.length - i2<N/\ae.mk k' a' [] [.mk k a t l,x]=.mk k' a' [] [.mk k a t l,y]/\Inv ts i0 i2 (.mk k' a' [] [.mk k a t l,x]))/\(∀j,s1=.d j->i0<j/\xz (.mk k' a' [] [.mk k a t l,y])=false)/\i0<=s1.pos:=λk' a' s1 x y h7 h4 h8 bg h=>by
   refine ⟨λi2 h2=>?_,λj hj=>⟨?_,CR h7 h4 h8⟩,by have:i+1<=s1.pos:=h.le;omega⟩
   ·obtain ⟨k1,q1,q2,q3,q4,_⟩:=h.good i2 h2
    cases q1
    subst q3
    refine ⟨by omega,rfl,⟨by omega,?_,qh h7,λhh=>by omega⟩⟩
    rw [lR,ja,df]
    simp only [At]
    omega
   ·have q:i+1<j:=(h.dm j hj).2.1
    omega
  have CS:i<ts.length->(pS ts e (.g i)).fI<((pS ts e (.g i)).fT.length:Int):=λh=>by show (i:Int)<(ts.length:Int);omega
  have send:¬(i<ts.length/\kd ts i=6)->aJ 4 (pS ts e (.g i)).fT (pS ts e (.g i)).fI (pS ts e (.g i)).az (pS ts e (.g i)).ay [] k a t l=some (.inl ((pS ts e (.g i)).fT,(pS ts e (.g i)).fI,(pS ts e (.g i)).az,(pS ts e (.g i)).ay,[],k,a,t,l)):=λhh=>by
   rw [aJ]
   by_cases bg:i<ts.length
   ·rw [if_pos (CS bg)]
    refine (eg (ji bg)).trans ?_
    refine ca (show ¬(tok ts i).aj=6 from λh=>hh ⟨bg,h⟩) ?_
    rfl
   ·rw [if_neg (show ¬(pS ts e (.g i)).fI<((pS ts e (.g i)).fT.length:Int) from λh=>by have h:(i:Int)<(ts.length:Int):=h;omega)]
  obtain ⟨v,o1,o2,o3⟩:=adP (tx ts i)
  cases hw:tw ts i [124,124] with
  | true=>
   have bg:=cw hw
   have k6:kd ts i=6:=by
    have hw2:=hw
    rw [<-aM H aKL aKL] at hw2
    unfold aT at hw2
    rw [As,beq_iff_eq] at hw2
    exact hw2.1
   obtain ⟨s1,x,y,g1,g2,g3⟩:=(IH _ (Lt.g (show i0<i+1 by omega) bg)).bin 5 aKL aKL
   obtain ⟨n1,n2,n3⟩:=next 12 0 s1 x y aKL aKL aKL bg g3
   obtain ⟨s',n',m',f1,f2,f3⟩:=PQ H IH N s1 _ _ g3.ok n3 n1 n2
   refine ⟨s',n',m',?_,?_,f3⟩
   ·have key:aJ 4 (pS ts e (.g i)).fT (pS ts e (.g i)).fI (pS ts e (.g i)).az (pS ts e (.g i)).ay [] k a t l=aJ 4 (pS ts e s1).fT (pS ts e s1).fI (pS ts e s1).az (pS ts e s1).ay [] 12 0 [] [.mk k a t l,x]:=by
      rw [aJ,if_pos (CS bg)]
      refine (eg (ji bg)).trans ?_
      refine nH (show (tok ts i).aj=6 from k6) ?_
      refine (eg (ji bg)).trans ?_
      refine aX (show j4 (tok ts i).aq=some v from o1) ?_
      refine (eg (a:=((pS ts e (.g (i+1))).fT,(pS ts e (.g (i+1))).fI,(pS ts e (.g (i+1))).az,(pS ts e (.g (i+1))).ay,true)) ?_).trans ?_
      ·refine nH rfl ?_
       refine aX (c8 H hw) ?_
       rfl
      refine nH rfl ?_
      refine aX g1 ?_
      rfl
    rw [show aJ 4 (pS ts e (.g i)).fT (pS ts e (.g i)).fI (pS ts e (.g i)).az (pS ts e (.g i)).ay [] (ae.mk k a t l).aj (ae.mk k a t l).aP (ae.mk k a t l).aq (ae.mk k a t l).ah=_ from key]
    exact f1
   ·have key:bX (qS ts e' (.g i)).ar (qS ts e' (.g i)).bM (qS ts e' (.g i)).az (qS ts e' (.g i)).ay [] k a t l=bX (qS ts e' s1).ar (qS ts e' s1).bM (qS ts e' s1).az (qS ts e' s1).ay [] 12 0 [] [.mk k a t l,y]:=by
      rw [bX]
      rw [dO]
      refine dH (bU H hw) ?_
      refine aX g2 ?_
      rfl
    rw [show bX (qS ts e' (.g i)).ar (qS ts e' (.g i)).bM (qS ts e' (.g i)).az (qS ts e' (.g i)).ay [] (ae.mk k a t l).aj (ae.mk k a t l).aP (ae.mk k a t l).aq (ae.mk k a t l).ah=_ from key]
    exact f2
  | false=>
   have fI:J9 (bX (qS ts e' (.g i)).ar (qS ts e' (.g i)).bM (qS ts e' (.g i)).az (qS ts e' (.g i)).ay [] (ae.mk k a t l).aj (ae.mk k a t l).aP (ae.mk k a t l).aq (ae.mk k a t l).ah) (.mk k a t l) (qS ts e' (.g i)):=by
    show bX (qS ts e' (.g i)).ar (qS ts e' (.g i)).bM (qS ts e' (.g i)).az (qS ts e' (.g i)).ay [] k a t l=_
    rw [bX]
    rw [dO]
    refine aG (au (w:=[124,124]) H hs hw) ?_
    rfl
   by_cases h:i<ts.length/\kd ts i=6
   ·obtain ⟨bg,k6⟩:=h
    refine ⟨.g i,.mk k a t l,.mk k a t l,.inl ?_,fI,inv.rs hi⟩
    ·rw [aJ,if_pos (CS bg)]
     refine (eg (ji bg)).trans ?_
     refine nH (show (tok ts i).aj=6 from k6) ?_
     refine (eg (ji bg)).trans ?_
     refine aX (show j4 (tok ts i).aq=some v from o1) ?_
     refine (eg (a:=((pS ts e (.g i)).fT,(pS ts e (.g i)).fI,(pS ts e (.g i)).az,(pS ts e (.g i)).ay,false)) ?_).trans ?_
     ·refine nH rfl ?_
      rw [oS]
      refine aX (ax (w:=[124,124]) H hs hw) ?_
      rfl
     refine ca aHI ?_
     refine (eg (a:=((pS ts e (.g i)).fT,(pS ts e (.g i)).fI,(pS ts e (.g i)).az,(pS ts e (.g i)).ay,false)) (if_neg aKL)).trans ?_
     refine ca aHI ?_
     refine (eg (a:=false) ?_).trans ?_
     ·rcases o3 with rfl | ⟨h1,h2,h3⟩
      ·rw [if_neg aKL]
      ·obtain ⟨lk,v1,v2,v3,v4⟩:=Kd h1 h2
       rw [if_pos (show v>0 by omega),v1,sb,beq_eq_false_iff_ne.2 (show lk≠4 by omega)]
     refine ca aHI ?_
     rfl
   ·exact ⟨.g i,.mk k a t l,.mk k a t l,.inr (send h),fI,inv.rs hi⟩
theorem Np (H:Tk ts e) {i:Nat} (hi:i<=ts.length) (IH:∀s,Lt ts i s->PC ts e e' s):∀k lv:Nat,lv+k=11->4<=lv->C1 ts e e' true 1 (.g i) (λp=>cj p lv) (aAS lv)
 | 0,lv,h,_=>by
  obtain rfl:lv=11:=h
  obtain ⟨s',n,m,g1,g2,g3⟩:=agf (e':=e') H hi IH
  refine ⟨s',n,m,?_,?_,g3⟩
  ·show cj (pS ts e (.g i)) 11=_
   rw [cj,if_pos rfl]
   refine aX g1 ?_
   rfl
  ·show bm (qS ts e' (.g i)) 11=_
   rw [bm,if_pos aKL]
   refine aX g2 ?_
   rfl
 | k+1,lv,h,h4=>by
  obtain ⟨s1,n,m,g1,g2,g3⟩:=Np H hi IH k (lv+1) aKK aKK
  have g1:cj (pS ts e (.g i)) ((lv+1:Nat):Int)=some (n,pS ts e s1):=g1
  have A1:∀i1,s1=.g i1->ts.length - i1<ts.length+1/\n=m/\Inv ts i i1 n:=λi1 h1=>by
   subst h1
   obtain ⟨q1,q2⟩:=g3.inv
   exact ⟨by omega,q1,q2⟩
  have A2:∀j,s1=.d j->i<j/\xz m=false:=λj hj=>by
   obtain ⟨_,q2,_,q4⟩:=g3.dm j hj
   exact ⟨q2,q4 rfl⟩
  have eS:∀(s':JS) (n':ae),S9 (aJ (lv:Int) (pS ts e s1).fT (pS ts e s1).fI (pS ts e s1).az (pS ts e s1).ay [] n.aj n.aP n.aq n.ah) n' (pS ts e s')->cj (pS ts e (.g i)) (lv:Int)=some (n',pS ts e s'):=λs' n' f=>by
   rw [cj,if_neg aKK,bQ aKK]
   refine aX g1 ?_
   exact f.run
  match lv,h4 with
  | 4,_=>
   have g2:dG (qS ts e' (.g i))=some (m,qS ts e' s1):=g2
   obtain ⟨s',n',m',f1,f2,f3⟩:=PQ (e':=e') H IH _ s1 n m g3.ok g3.le A1 A2
   refine ⟨s',n',m',eS _ _ f1,?_,f3⟩
   show eG (qS ts e' (.g i))=_
   rw [eG]
   refine aX g2 ?_
   exact f2.run
  | 5,_=>
   have g2:bm (qS ts e' (.g i)) 6=some (m,qS ts e' s1):=g2
   obtain ⟨s',n',m',f1,f2,f3⟩:=Kg (e':=e') H IH _ s1 n m g3.ok g3.le A1 A2
   refine ⟨s',n',m',eS _ _ f1,?_,f3⟩
   show dG (qS ts e' (.g i))=_
   rw [dG]
   refine aX g2 ?_
   exact f2.run
  | z+6,_=>
   have g2:bm (qS ts e' (.g i)) ((z+6+1:Nat):Int)=some (m,qS ts e' s1):=g2
   obtain ⟨s',n',m',f1,f2,f3⟩:=Kf (e':=e') H IH (z+6) aKK aKK _ s1 n m g3.ok g3.le A1 A2
   refine ⟨s',n',m',eS _ _ f1,?_,f3⟩
   show bm (qS ts e' (.g i)) ((z+6:Nat):Int)=_
   rw [bm,if_neg aKK,bQ aKK]
   refine aX g2 ?_
   exact f2.run
end
set_option maxRecDepth 10000
section
variable {ts:List af} {e e':Int}
theorem PR (H:Tk ts e) {i:Nat} (hi:i<=ts.length) (IH:∀s,Lt ts i s->PC ts e e' s):C1 ts e e' true 1 (.g i) eH bW:=by
 obtain ⟨s1,n,m,g1,g2,g3⟩:=Np (e':=e') H hi IH 7 4 rfl aKL
 have g1:cj (pS ts e (.g i)) 4=some (n,pS ts e s1):=g1
 have g2:eG (qS ts e' (.g i))=some (m,qS ts e' s1):=g2
 rcases Kh (ts:=ts) s1 [63,63] with h | ⟨i1,rfl,h⟩
 ·refine ⟨s1,n,m,?_,?_,g3⟩
  ·rw [eH]
   refine aX g1 ?_
   refine aG (ax (w:=[63,63]) H g3.ok h) ?_
   rfl
  ·rw [bW]
   refine aX g2 ?_
   refine aG (au (w:=[63,63]) H g3.ok h) ?_
   rfl
 ·have bg:=cw h
  have hle:i<=i1:=g3.le
  obtain ⟨s2,x,y,f1,f2,f3⟩:=(IH _ (Lt.g (show i<i1+1 by omega) bg)).aFu
  have El:i1+1<=s2.pos:=f3.le
  refine ⟨s2,.mk 13 0 [] [n,x],.mk 13 0 [] [m,y],?_,?_,Rs.PN aKL aKL aKL f3.ok aKK (No _) (λj hj=>?_) (λi' h'=>?_)⟩
  ·rw [eH]
   refine aX g1 ?_
   refine dH (c8 H h) ?_
   refine aX f1 ?_
   rfl
  ·rw [bW]
   refine aX g2 ?_
   refine dH (bU H h) ?_
   refine aX f2 ?_
   rfl
  ·have q:i1+1<j:=(f3.dm j hj).2.1
   omega
  ·obtain ⟨k,q1,q2,q3,q4,_⟩:=f3.good i' h'
   cases q1
   obtain ⟨k,q5,q6,q7,q8,_⟩:=g3.good i1 rfl
   cases q5
   subst q3;subst q7
   refine ⟨by omega,rfl,rfl,?_⟩
   rw [ja,df]
   simp only [At]
   omega
theorem PS (H:Tk ts e) {i:Nat} (hi:i<=ts.length) (IH:∀s,Lt ts i s->PC ts e e' s):C1 ts e e' true 1 (.g i) iU dn:=by
 obtain ⟨s1,n,m,g1,g2,g3⟩:=PR (e':=e') H hi IH
 rcases Kh (ts:=ts) s1 [63] with h | ⟨i1,rfl,h⟩
 ·refine ⟨s1,n,m,?_,?_,g3⟩
  ·rw [iU]
   refine aX g1 ?_
   refine aG (ax (w:=[63]) H g3.ok h) ?_
   rfl
  ·rw [dn]
   refine aX g2 ?_
   refine aG (au (w:=[63]) H g3.ok h) ?_
   rfl
 ·have bg:=cw h
  have hle:i<=i1:=g3.le
  obtain ⟨s2,x,y,f1,f2,f3⟩:=(IH _ (Lt.g (show i<i1+1 by omega) bg)).expr
  have El:i1+1<=s2.pos:=f3.le
  obtain ⟨s3,z,z',h1,h2,h3⟩:=(IH _ (Lt.w (i:=i) f3.ok aKK [58])).cond
  have aFv:=h3.le
  have aHA:=iy (ts:=ts) s2 [58]
  refine ⟨s3,.mk 14 0 [] [n,x,z],.mk 14 0 [] [m,y,z'],?_,?_,Rs.PN aKL aKL aKL h3.ok aKK (No _) (λj hj=>?_) (λi' h'=>?_)⟩
  ·rw [iU]
   refine aX g1 ?_
   refine dH (c8 H h) ?_
   refine aX f1 ?_
   refine aX (er H _ f3.ok [58]) ?_
   refine aX h1 ?_
   rfl
  ·rw [dn]
   refine aX g2 ?_
   refine dH (bU H h) ?_
   refine aX f2 ?_
   refine aX (fL H _ f3.ok [58]) ?_
   refine aX h2 ?_
   rfl
  ·have q:=(h3.dm j hj).2.1
   omega
  ·obtain ⟨k,q1,q2,q3,q4,_⟩:=h3.good i' h'
   obtain ⟨k1,q9,q10,_⟩:=gv q1
   obtain ⟨k2,r1,r2,r3,r4,_⟩:=f3.good k1 q9
   cases r1
   obtain ⟨k3,q5,q6,q7,q8,_⟩:=g3.good i1 rfl
   cases q5
   subst q3;subst q7;subst r3
   refine ⟨by omega,rfl,rfl,?_⟩
   rw [ja,ja,df]
   simp only [At]
   omega
theorem aFw (H:Tk ts e) {i:Nat} (h:tw ts i [38]=true):∃m,aH (qS ts e' (.g i))=some (m,qS ts e' (.b i)):=by
 have hi:i<=ts.length:=aIn (cw h)
 have hs:(JS.g i).Ok ts:=hi
 have fu:(JS.b i).Ok ts:=hi
 obtain ⟨k4,k5,k2,_⟩:=kX h
 have Ki:lF ts i=false:=yo h aKL aKL aKL
 have hn:wa ts 3 i=false:=by
  have h6:=h
  rw [<-aM H aKL aKL] at h6
  unfold aT at h6
  rw [As,beq_iff_eq] at h6
  exact aFx (by rw [h6.1];decide)
 refine ⟨.mk 21 0 ([]++[58,58]++[]) [],?_⟩
 rw [aH]
 refine (eg (b8 H _ hs)).trans ?_
 refine ca qg ?_
 refine aX (tm H hi) ?_
 refine ca (show ¬lF ts i=true by rw [Ki];exact aHI) ?_
 refine ca k2 ?_
 refine aG (au H hs (w:=[91]) (aw h aKL)) ?_
 refine aG (au H hs (w:=[40]) (aw h aKL)) ?_
 refine aG (au H hs (w:=[110,101,119]) (aw h aKL)) ?_
 refine aG (au H hs (w:=[102,117,110,99,116,105,111,110]) (aw h aKL)) ?_
 refine (eg (a:=(([]:aB),qS ts e' (.b i))) ?_).trans ?_
 ·unfold cy
  refine aG (au H hs (aw h aKL)) ?_
  refine aX (Nq H hi hn (.inr rfl)) ?_
  rfl
 refine (eg (a:=(Sum.inl ((qS ts e' (.b i)).ar,(qS ts e' (.b i)).bM,(qS ts e' (.b i)).az,(qS ts e' (.b i)).ay):((List af)×Int×Int×Bool) ⊕ (ae×ai))) ?_).trans ?_
 ·refine ca (show ¬([]:aB)=[115,116,97,116,105,99] by decide) ?_
  refine aG ((eV (e':=e') H (.b i) fu [40]).trans (by rw [show tw ts (JS.b i).pos [40]=false from aw h aKL])) ?_
  rfl
 refine aX (fL H _ fu [58,58]) ?_
 refine aX (qL (a:=[]) (b:=[58,58]) aKL) ?_
 refine aX (tQ H _ fu rfl 3 (.inr rfl)) ?_
 refine aX (qL (a:=[]++[58,58]) (b:=[]) aKL) ?_
 refine aX (G4 H fu) ?_
 rfl
theorem aFy (H:Tk ts e) {i:Nat} (h:tw ts i [38]=true):∃m,aU (qS ts e' (.g i))=some (m,qS ts e' (.b i)):=by
 have hi:i<=ts.length:=aIn (cw h)
 have hs:(JS.g i).Ok ts:=hi
 have hb:(JS.b i).Ok ts:=hi
 obtain ⟨m,h1⟩:=aFw (e':=e') H h
 have h2:bV (qS ts e' (.g i)) false=some (m,qS ts e' (.b i)):=by
  rw [bV]
  refine aX h1 ?_
  refine I9.run (x:=_) (.inr ?_)
  rw [aF]
  simp only [jC,if_true]
 have h3:cn (qS ts e' (.g i))=some (m,qS ts e' (.b i)):=by
  rw [cn]
  refine aG (au (w:=[33]) H hs (aw h aKL)) ?_
  refine aG (au (w:=[45]) H hs (aw h aKL)) ?_
  refine aX h2 ?_
  rfl
 have h4:∀k lv:Nat,lv+k=11->bm (qS ts e' (.g i)) lv=some (m,qS ts e' (.b i)):=by
  intro k
  induction k with
  | zero=>
   intro lv hl
   obtain rfl:lv=11:=hl
   rw [bm,if_pos aKL]
   refine aX h3 ?_
   rfl
  | succ k ih=>
   intro lv hl
   rw [bm,if_neg aKK,bQ aKK]
   refine aX (ih (lv+1) aKK) ?_
   refine I9.run (x:=_) (.inr ?_)
   rw [bD]
   simp only [jC,if_true]
 have h5:dG (qS ts e' (.g i))=some (m,qS ts e' (.b i)):=by
  rw [dG]
  refine aX (h4 5 6 rfl) ?_
  refine J9.run (x:=_) ?_
  rw [bR,dO]
  refine aG (au (w:=[38,38]) H hb rfl) ?_
  rfl
 have h6:eG (qS ts e' (.g i))=some (m,qS ts e' (.b i)):=by
  rw [eG]
  refine aX h5 ?_
  refine J9.run (x:=_) ?_
  rw [bX,dO]
  refine aG (au (w:=[124,124]) H hb rfl) ?_
  rfl
 have h7:bW (qS ts e' (.g i))=some (m,qS ts e' (.b i)):=by
  rw [bW]
  refine aX h6 ?_
  refine aG (au (w:=[63,63]) H hb rfl) ?_
  rfl
 have h8:dn (qS ts e' (.g i))=some (m,qS ts e' (.b i)):=by
  rw [dn]
  refine aX h7 ?_
  refine aG (au (w:=[63]) H hb rfl) ?_
  rfl
 refine ⟨m,?_⟩
 rw [aU]
 refine aX h8 ?_
 refine nH (show (qS ts e' (.b i)).ay=true from rfl) ?_
 rfl
theorem Rs.aly {v:Bool} {D:Nat} {s s':JS} {n m:ae} (h:Rs ts v D s s' n m) (hD:1<=D):Rs ts false 2 s s' n m:=
 ⟨h.ok,h.le,λi' h'=>by
  obtain ⟨i,q1,q2,q3,q4,q5,_⟩:=h.good i' h'
  exact ⟨i,q1,q2,q3,q4,q5,λhh=>by cases hh⟩,λj hj=>by
  obtain ⟨q1,q2,q3,q4⟩:=h.dm j hj
  exact ⟨q1,q2,by omega,λhh=>by omega⟩⟩
theorem G5 (H:Tk ts e) {i:Nat} (hi:i<=ts.length) (IH:∀s,Lt ts i s->PC ts e e' s):C1 ts e e' false 2 (.g i) bp aU:=by
 have hL:=H.len
 obtain ⟨s1,n,m,g1,g2,g3⟩:=PS (e':=e') H hi IH
 have back:aS ts s1 0 6 [61]=false->bp (pS ts e (.g i))=some (n,pS ts e s1):=λha=>by
  rw [bp]
  refine aX g1 ?_
  refine aG ((eJ H _ g3.ok 6 [61] aKL).trans (by rw [ha])) ?_
  rfl
 match s1,g1,g2,g3,back with
 | .b j,g1,g2,g3,back=>
  refine ⟨.b j,n,m,back rfl,?_,g3.aly (No _)⟩
  rw [aU]
  refine aX g2 ?_
  refine nH (show (qS ts e' (.b j)).ay=true from rfl) ?_
  rfl
 | .d j,g1,g2,g3,back=>
  refine ⟨.d j,n,m,back rfl,?_,g3.aly (No _)⟩
  rw [aU]
  refine aX g2 ?_
  refine ca (show ¬(qS ts e' (.d j)).ay=true by rw [Nn];exact id) ?_
  refine dH ((eV (e':=e') H (.d j) g3.ok [61]).trans (by rw [show tw ts (JS.d j).pos [61]=true from g3.ok.2])) ?_
  refine aG ((oX m).trans (by rw [(g3.dm j rfl).2.2.2 rfl])) ?_
  rfl
 | .g i1,g1,g2,g3,back=>
  have Sf:i1<=ts.length:=g3.ok
  have hle:i<=i1:=g3.le
  obtain ⟨k0,q0,qlt,JG,hwt,EC,hva⟩:=g3.good i1 rfl
  cases q0
  subst JG
  have isE:aW (qS ts e' (.g i1)) 0 [61]=some (tw ts i1 [61],qS ts e' (.g i1)):=eV (e':=e') H (.g i1) g3.ok [61]
  cases h:tw ts i1 [61] with
  | false=>
   refine ⟨.g i1,n,n,back ((aM H aKL aKL).trans h),?_,g3.aly (No _)⟩
   rw [aU]
   refine aX g2 ?_
   refine ca qg ?_
   refine aG (isE.trans (by rw [h])) ?_
   rfl
  | true=>
   have bg:=cw h
   have atE:bE (pS ts e (.g i1)) 0 6 [61]=some (true,pS ts e (.g i1)):=(eJ H _ g3.ok 6 [61] aKL).trans (by rw [show aS ts (.g i1) 0 6 [61]=true from (aM H aKL aKL).trans h])
   cases ZM:uu n with
   | false=>
    refine ⟨.d i1,.mk 0 0 [] [],n,?_,?_,⟨⟨bg,h⟩,hle,λi' h'=>(by cases h'),λj hj=>by cases hj;exact ⟨⟨i,rfl⟩,qlt,by decide,λhh=>(by cases hh)⟩⟩⟩
    ·rw [bp]
     refine aX g1 ?_
     refine dH atE ?_
     refine aG ((oW n).trans (by rw [ZM])) ?_
     refine aX (sf H (.g i1) g3.ok) ?_
     rfl
    ·rw [aU]
     refine aX g2 ?_
     refine ca qg ?_
     refine dH (isE.trans (by rw [h])) ?_
     refine aG ((oX n).trans (by rw [EC,ZM])) ?_
     rfl
   | true=>
    have nI:(JS.g (i1+1)).Ok ts:=bg
    have atA:bE (pS ts e (.g (i1+1))) 0 6 [38]=some (tw ts (i1+1) [38],pS ts e (.g (i1+1))):=(eJ H _ nI 6 [38] aKL).trans (by rw [show aS ts (.g (i1+1)) 0 6 [38]=tw ts (i1+1) [38] from aM H aKL aKL])
    have Eh:(bq ((qS ts e' (.g i1)).bM+1)=bq ((qS ts e' (.g i)).bM+2))↔i1=i+1:=by
     show (bq ((i1:Int)+1)=bq ((i:Int)+2))↔_
     rw [bQ aKK,wW aKK aKK]
     omega
    cases ha:tw ts (i1+1) [38] with
    | false=>
     obtain ⟨s2,x,y,f1,f2,f3⟩:=(IH _ (Lt.g (show i<i1+1 by omega) bg)).expr
     have El:i1+1<=s2.pos:=f3.le
     refine ⟨s2,.mk 15 0 [] [n,x],.mk 15 0 [] [n,y],?_,?_,Rs.PN aKL aKL aKL f3.ok aKK aKL (λj hj=>?_) (λi' h'=>?_)⟩
     ·rw [bp]
      refine aX g1 ?_
      refine dH atE ?_
      refine dH ((oW n).trans (by rw [ZM])) ?_
      rw [tO H Sf]
      refine aG (atA.trans (by rw [ha])) ?_
      refine aX f1 ?_
      rfl
     ·rw [aU]
      refine aX g2 ?_
      refine ca qg ?_
      refine dH (isE.trans (by rw [h])) ?_
      refine dH ((oX n).trans (by rw [EC,ZM])) ?_
      by_cases hal:i1=i+1
      ·refine nH (Eh.2 hal) ?_
       refine aX (ji (show i<ts.length by omega)) ?_
       by_cases xP:kd ts i=2
       ·refine nH (show (tok ts i).aj=2 from xP) ?_
        rw [se H Sf]
        refine aG (au (w:=[38]) H nI ha) ?_
        refine aX f2 ?_
        rfl
       ·refine ca (show ¬(tok ts i).aj=2 from xP) ?_
        rw [se H Sf]
        refine aX f2 ?_
        rfl
      ·refine ca (λhh=>hal (Eh.1 hh)) ?_
       rw [se H Sf]
       refine aX f2 ?_
       rfl
     ·have q:i1+1<j:=(f3.dm j hj).2.1
      omega
     ·obtain ⟨k,q1,q2,q3,q4,_⟩:=f3.good i' h'
      cases q1
      subst q3
      refine ⟨by omega,rfl,rfl,?_⟩
      rw [ja,df]
      simp only [At]
      omega
    | true=>
     have xc:=cw ha
     have K2:(JS.g (i1+1+1)).Ok ts:=xc
     by_cases hal:n.aj=4/\i1=i+1
     ·have xP:kd ts i=2:=by
       have:=hva rfl hal.2
       rw [hal.1] at this
       have this:=this.symm
       rw [show ((4:Int)==4)=true from rfl,beq_iff_eq] at this
       exact this
      have hn2:=mh H (.g (i1+1+1)) 2
      have El:=@tn ts (.g (i1+1+1)) 2
      have El:i1+1+1<=(nS ts (.g (i1+1+1)) 2).pos:=El
      refine ⟨nS ts (.g (i1+1+1)) 2,.mk 17 0 n.aq [.mk 4 0 (nT ts (.g (i1+1+1)) 2) []],.mk 17 0 n.aq [.mk 4 0 (nT ts (.g (i1+1+1)) 2) []],?_,?_,Rs.node aKL (Ab K2 aKL) (Fl _ _) aKK (λi' h'=>?_)⟩
      ·rw [bp]
       refine aX g1 ?_
       refine dH atE ?_
       refine dH ((oW n).trans (by rw [ZM])) ?_
       rw [tO H Sf]
       refine dH (atA.trans (by rw [ha])) ?_
       refine nH hal.1 ?_
       refine nH (show (pS ts e (.g i1)).fI=bq ((pS ts e (.g i)).fI+1) from by show (i1:Int)=bq ((i:Int)+1);rw [bQ aKK,hal.2]) ?_
       rw [tO H nI]
       refine aX (Nr H _ K2) ?_
       rfl
      ·rw [aU]
       refine aX g2 ?_
       refine ca qg ?_
       refine dH (isE.trans (by rw [h])) ?_
       refine dH ((oX n).trans (by rw [EC,ZM])) ?_
       refine nH (Eh.2 hal.2) ?_
       refine aX (ji (show i<ts.length by omega)) ?_
       refine nH (show (tok ts i).aj=2 from xP) ?_
       rw [se H Sf]
       refine dH (bU H ha) ?_
       refine aX (Ns H _ K2 rfl) ?_
       rfl
      ·obtain ⟨k,q1,q2,_⟩:=rl h'
       cases q1
       refine ⟨by omega,rfl,rfl,?_⟩
       have:=zR n
       rw [df,lR,mi]
       omega
     ·obtain ⟨y,f2⟩:=aFy (e':=e') H ha
      refine ⟨.b (i1+1),.mk 0 0 [] [],.mk 15 0 [] [n,y],?_,?_,Rs.b bg aKK⟩
      ·rw [bp]
       refine aX g1 ?_
       refine dH atE ?_
       refine dH ((oW n).trans (by rw [ZM])) ?_
       rw [tO H Sf]
       refine dH (atA.trans (by rw [ha])) ?_
       by_cases hk:n.aj=4
       ·refine nH hk ?_
        refine ca (show ¬(pS ts e (.g i1)).fI=bq ((pS ts e (.g i)).fI+1) from λhh=>by
         have hh:(i1:Int)=bq ((i:Int)+1):=hh
         rw [bQ aKK] at hh
         exact hal ⟨hk,by omega⟩) ?_
        refine aX (sf H _ nI) ?_
        rfl
       ·refine ca hk ?_
        refine aX (sf H _ nI) ?_
        rfl
      ·rw [aU]
       refine aX g2 ?_
       refine ca qg ?_
       refine dH (isE.trans (by rw [h])) ?_
       refine dH ((oX n).trans (by rw [EC,ZM])) ?_
       by_cases adR:i1=i+1
       ·refine nH (Eh.2 adR) ?_
        refine aX (ji (show i<ts.length by omega)) ?_
        have xP:¬kd ts i=2:=λxP=>hal ⟨by
         have:=hva rfl adR
         rw [xP,show ((2:Int)==2)=true from rfl,beq_iff_eq] at this
         exact this,adR⟩
        refine ca (show ¬(tok ts i).aj=2 from xP) ?_
        rw [se H Sf]
        refine aX f2 ?_
        rfl
       ·refine ca (λhh=>adR (Eh.1 hh)) ?_
        rw [se H Sf]
        refine aX f2 ?_
        rfl
end
set_option maxRecDepth 10000
section
variable {ts:List af} {e e':Int}
theorem comma (s:JS) (c:aB) (hc:(([44]:aB)==c)=false):(∃i,s=.g i/\tw ts i [44]=true/\tw ts i c=false)\/(tS ts s [44]=false/\∃i,s=.g i/\tw ts i c=true)\/(tS ts s [44]=false/\tS ts s c=false):=by
 rcases Kh (ts:=ts) s [44] with h | ⟨i,rfl,h⟩
 ·rcases Kh (ts:=ts) s c with h2 | ⟨i,rfl,h2⟩
  ·exact .inr (.inr ⟨h,h2⟩)
  ·exact .inr (.inl ⟨h,i,rfl,h2⟩)
 ·exact .inl ⟨i,rfl,h,aw h hc⟩
theorem Fm (H:Tk ts e) {i0:Nat} (IH:∀s,Lt ts i0 s->PC ts e e' s):∀(N:Nat) (i:Nat) (l m:List ae),ts.length - i<N->i0<i->i<=ts.length->l.length+ts.length<=10000+i->m.length+ts.length<=10000+i->
  ∃s' x y,S5 (dT (pS ts e (.g i)).fT (pS ts e (.g i)).fI (pS ts e (.g i)).az (pS ts e (.g i)).ay l) (l++x) (pS ts e s')/\
   I5 (cF (qS ts e' (.g i)).ar (qS ts e' (.g i)).bM (qS ts e' (.g i)).az (qS ts e' (.g i)).ay m) (m++y) (qS ts e' s')/\
   s'.Ok ts/\s'.nd=true/\i<=s'.pos/\x.length+i<=s'.pos+1/\y.length+i<=s'.pos+1/\(∀i',s'=.g i'->i<i'/\x=y/\(wl x:Int)+16384*(i:Int)<=16384*(i':Int))
 | 0,i,l,m,h,_,_,_,_=>by omega
 | N+1,i,l,m,hN,h0,hi,hl,hm=>by
  have hL:=H.len
  have hs:(JS.g i).Ok ts:=hi
  obtain ⟨s1,n,n',g1,g2,g3⟩:=(IH _ (Lt.g h0 hi)).expr
  have hle:i<=s1.pos:=g3.le
  have eS:dT (pS ts e (.g i)).fT (pS ts e (.g i)).fI (pS ts e (.g i)).az (pS ts e (.g i)).ay l=
    (aE (pS ts e s1) [44]>>=λ(qn,v53)=>(if qn=true then dT v53.fT v53.fI v53.az v53.ay (l++[n]) else aR v53 [41]>>=λKW=>some (.inr (l++[n],KW)))):=by
   rw [dT]
   simp only [mj,if_true,oS]
   refine aX g1 ?_
   refine aX (jh _ aKK) ?_
   rfl
  have eI:cF (qS ts e' (.g i)).ar (qS ts e' (.g i)).bM (qS ts e' (.g i)).az (qS ts e' (.g i)).ay m=
    (av (qS ts e' s1) [41]>>=λ(v46,wE)=>(if v46=true then some (.inr (m++[n'],wE)) else aK wE [44]>>=λqn=>cF qn.ar qn.bM qn.az qn.ay (m++[n']))):=by
   rw [cF]
   simp only [kj,if_false,dO]
   refine aX g2 ?_
   refine aX (jh _ aKK) ?_
   rfl
  rcases comma (ts:=ts) s1 [41] aKL with ⟨i2,rfl,h,h2⟩ | ⟨h,i2,rfl,h2⟩ | ⟨h,h2⟩
  ·have bg:=cw h
   obtain ⟨k,q1,q2,q3,q4,_⟩:=g3.good i2 rfl
   cases q1
   subst q3
   have nI:(JS.g i2).Ok ts:=g3.ok
   obtain ⟨s',x,y,f1,f2,f3,f4,f5,f6,f7,f8⟩:=Fm H IH N (i2+1) (l++[n]) (m++[n]) aKK aKK aKK aKY aKY
   rw [aIe] at f1 f2
   have eS2:dT (pS ts e (.g i)).fT (pS ts e (.g i)).fI (pS ts e (.g i)).az (pS ts e (.g i)).ay l=dT (pS ts e (.g (i2+1))).fT (pS ts e (.g (i2+1))).fI (pS ts e (.g (i2+1))).az (pS ts e (.g (i2+1))).ay (l++[n]):=by
    rw [eS]
    refine dH (c8 H h) ?_
    rfl
   have eI2:cF (qS ts e' (.g i)).ar (qS ts e' (.g i)).bM (qS ts e' (.g i)).az (qS ts e' (.g i)).ay m=cF (qS ts e' (.g (i2+1))).ar (qS ts e' (.g (i2+1))).bM (qS ts e' (.g (i2+1))).az (qS ts e' (.g (i2+1))).ay (m++[n]):=by
    rw [eI]
    refine aG (au (w:=[41]) H nI h2) ?_
    refine aX (CT H h) ?_
    rfl
   refine ⟨s',_,_,by rw [eS2];exact f1,by rw [eI2];exact f2,f3,f4,by omega,?_,?_,λi' rf=>?_⟩
   ·simp only [aHK,an,At];omega
   ·simp only [aHK,an,At];omega
   ·obtain ⟨r1,r2,r3⟩:=f8 i' rf
    subst r2
    refine ⟨by omega,rfl,?_⟩
    rw [ki,df]
    omega
  ·have bg:=cw h2
   obtain ⟨k,q1,q2,q3,q4,_⟩:=g3.good i2 rfl
   cases q1
   subst q3
   have nI:(JS.g i2).Ok ts:=g3.ok
   refine ⟨.g (i2+1),[n],[n],.inl ?_,.inl ?_,bg,rfl,by show i<=i2+1;omega,?_,?_,λi' rf=>?_⟩
   ·rw [eS]
    refine aG (ax (w:=[44]) H nI h) ?_
    refine aX (zn H h2) ?_
    rfl
   ·rw [eI]
    refine dH (bU H h2) ?_
    rfl
   ·show 1+i<=i2+1+1;omega
   ·show 1+i<=i2+1+1;omega
   ·cases rf
    refine ⟨by omega,rfl,?_⟩
    rw [df]
    omega
  ·refine ⟨K3 s1,[n],[n'],.inl ?_,.inr ?_,zo g3.ok,CU _,by rw [qM];exact hle,?_,?_,λi' rf=>(Kj rf).elim⟩
   ·rw [eS]
    refine aG (ax (w:=[44]) H g3.ok h) ?_
    refine aX ((er H _ g3.ok [41]).trans (by rw [jI h2])) ?_
    rfl
   ·rw [eI]
    refine aG (au (w:=[41]) H g3.ok h2) ?_
    refine aX ((fL H _ g3.ok [44]).trans (by rw [jI h])) ?_
    rw [cF]
    simp only [CV,if_true]
   ·rw [qM];show 1+i<=s1.pos+1;omega
   ·rw [qM];show 1+i<=s1.pos+1;omega
theorem adS (H:Tk ts e) {i:Nat} (hi:i<=ts.length) (IH:∀s,Lt ts i s->PC ts e e' s) (a:List ae) (ha:a.length<=100):
  ∃s' l m,dS (pS ts e (.g i)) a=some (l,pS ts e s')/\cV (qS ts e' (.g i))=some (m,qS ts e' s')/\RL ts a (.g i) s' l m:=by
 have hL:=H.len
 have hs:(JS.g i).Ok ts:=hi
 have hb:(JS.b i).Ok ts:=hi
 cases h:tw ts i [40] with
 | false=>
  refine ⟨.b i,a,[],?_,?_,⟨hi,rfl,No i,by show a.length+i<=a.length+i+1;omega,by show 0+i<=i+1;omega,λi' h'=>(by cases h')⟩⟩
  ·rw [dS]
   refine aX ((er H _ hs [40]).trans (by rw [aAT h])) ?_
   refine aG (ax (w:=[41]) H hb rfl) ?_
   refine S5.run (x:=_) (.inr ?_)
   rw [dT]
   simp only [rm H,if_false]
  ·rw [cV]
   refine aX ((fL H _ hs [40]).trans (by rw [aAT h])) ?_
   refine aG (au (w:=[41]) H hb rfl) ?_
   refine I5.run (x:=_) (.inr ?_)
   rw [cF]
   simp only [jC,if_true]
 | true=>
  have bg:=cw h
  have fu:(JS.g (i+1)).Ok ts:=bg
  cases h2:tw ts (i+1) [41] with
  | true=>
   have xc:=cw h2
   refine ⟨.g (i+1+1),a,[],?_,?_,⟨xc,rfl,by show i<=i+1+1;omega,by show a.length+i<=a.length+(i+1+1)+1;omega,by show 0+i<=i+1+1+1;omega,λi' h'=>?_⟩⟩
   ·rw [dS]
    refine aX (zn H h) ?_
    refine dH (c8 H h2) ?_
    rfl
   ·rw [cV]
    refine aX (CT H h) ?_
    refine dH (bU H h2) ?_
    rfl
   ·cases h'
    exact ⟨i,rfl,by omega,by simp,by rw [mi];omega⟩
  | false=>
   obtain ⟨s',x,y,f1,f2,f3,f4,f5,f6,f7,f8⟩:=Fm H IH _ (i+1) a [] (aHP _) (aHP i) bg aKK aKT
   refine ⟨s',a++x,[]++y,?_,?_,⟨f3,f4,by show i<=s'.pos;omega,?_,?_,λi' h'=>?_⟩⟩
   ·rw [dS]
    refine aX (zn H h) ?_
    refine aG (ax (w:=[41]) H fu h2) ?_
    exact f1.run
   ·rw [cV]
    refine aX (CT H h) ?_
    refine aG (au (w:=[41]) H fu h2) ?_
    exact f2.run
   ·simp only [aHK];show a.length+x.length+i<=a.length+s'.pos+1;omega
   ·simp only [aIg];show y.length+i<=s'.pos+1;omega
   ·obtain ⟨r1,r2,r3⟩:=f8 i' h'
    subst r2
    exact ⟨i,rfl,by omega,rfl,by simp only [aIg];omega⟩
def S10 (x:Option (((List af)×Int×Int×Int×(List ae)×(List ae)) ⊕ (ae×aA))) (l:List ae) (p:aA):Prop:=x=some (.inr (.mk 5 0 [] l,p))\/x=some (.inl (p.fT,p.fI,p.az,p.ay,[],l))
def I10 (x:Option (((List af)×Int×Int×Bool×(List ae)×(List ae)) ⊕ (ae×ai))) (l:List ae) (p:ai):Prop:=x=some (.inr (.mk 5 0 [] l,p))\/x=some (.inl (p.ar,p.bM,p.az,p.ay,[],l))
theorem S10.run {x:Option (((List af)×Int×Int×Int×(List ae)×(List ae)) ⊕ (ae×aA))} {l:List ae} {p:aA} (h:S10 x l p):(x>>=λo=>match o with
  | .inr r=>some r
  | .inl (l5,y6,y7,y8,l9,D1)=>some ((ae.mk 5 0 [] D1),(aA.mk l5 y6 y7 y8)))=some (.mk 5 0 [] l,p):=by
 rcases h with h | h<;>rw [h]<;>rfl
theorem I10.run {x:Option (((List af)×Int×Int×Bool×(List ae)×(List ae)) ⊕ (ae×ai))} {l:List ae} {p:ai} (h:I10 x l p):(x>>=λo=>match o with
  | .inr r=>some r
  | .inl (l5,y6,y7,y8,l9,D1)=>some ((ae.mk 5 0 [] D1),(ai.mk l5 y6 y7 y8)))=some (.mk 5 0 [] l,p):=by
 rcases h with h | h<;>rw [h]<;>rfl
theorem Fo (H:Tk ts e) {i0:Nat} (IH:∀s,Lt ts i0 s->PC ts e e' s) (E0:C1 ts e e' false 2 (.g i0) bp aU):∀(N:Nat) (i:Nat) (l m:List ae),ts.length - i<N->i0<=i->i<=ts.length->l.length+ts.length<=10000+i->m.length+ts.length<=10000+i->
  ∃s' x y,S10 (eF (pS ts e (.g i)).fT (pS ts e (.g i)).fI (pS ts e (.g i)).az (pS ts e (.g i)).ay [] l) (l++x) (pS ts e s')/\
   I10 (cW (qS ts e' (.g i)).ar (qS ts e' (.g i)).bM (qS ts e' (.g i)).az (qS ts e' (.g i)).ay [] m) (m++y) (qS ts e' s')/\
   s'.Ok ts/\s'.nd=true/\i<=s'.pos/\(∀i',s'=.g i'->i+1<i'/\x=y/\(wl x:Int)+16384*(i:Int)+8192<=16384*(i':Int))
 | 0,i,l,m,h,_,_,_,_=>by omega
 | N+1,i,l,m,hN,h0,hi,hl,hm=>by
  have hL:=H.len
  have hs:(JS.g i).Ok ts:=hi
  have hE:C1 ts e e' false 2 (.g i) bp aU:=by
   rcases Nat.eq_or_lt_of_le h0 with h | h
   ·rw [<-h];exact E0
   ·exact (IH _ (Lt.g h hi)).expr
  obtain ⟨s0,n,n',g1,g2,g3⟩:=hE
  have hle:i<=s0.pos:=g3.le
  obtain ⟨s1,c,c',e1,e2,ZN,adT,vr⟩:∃(s1:JS) (c c':List ae),
    (aE (pS ts e s0) [61,62]>>=λ(N9,A4)=>(if N9=true then bp A4>>=λ(FV,E6)=>db 56 ([n]:List ae) [FV]>>=λl73=>some (E6.fT,E6.fI,E6.az,E6.ay,l73) else some (A4.fT,A4.fI,A4.az,A4.ay,([n]:List ae))))=some ((pS ts e s1).fT,(pS ts e s1).fI,(pS ts e s1).az,(pS ts e s1).ay,c)/\
    (av (qS ts e' s0) [61,62]>>=λ(N9,A4)=>(if N9=true then aU A4>>=λ(FV,E6)=>db 56 ([n']:List ae) [FV]>>=λl73=>some (E6.ar,E6.bM,E6.az,E6.ay,l73) else some (A4.ar,A4.bM,A4.az,A4.ay,([n']:List ae))))=some ((qS ts e' s1).ar,(qS ts e' s1).bM,(qS ts e' s1).az,(qS ts e' s1).ay,c')/\
    s1.Ok ts/\i<=s1.pos/\(∀i2,s1=.g i2->i<i2/\c=c'/\(wl c:Int)+16384*(i:Int)+8191<=16384*(i2:Int)):=by
   rcases Kh (ts:=ts) s0 [61,62] with h | ⟨i1,rfl,h⟩
   ·refine ⟨s0,[n],[n'],?_,?_,g3.ok,hle,λi2 h2=>?_⟩
    ·refine aG (ax (w:=[61,62]) H g3.ok h) ?_
     rfl
    ·refine aG (au (w:=[61,62]) H g3.ok h) ?_
     rfl
    ·obtain ⟨k,q1,q2,q3,q4,_⟩:=g3.good i2 h2
     cases q1
     subst q3
     exact ⟨q2,rfl,by rw [df];omega⟩
   ·have bg:=cw h
    have hle:i<=i1:=hle
    obtain ⟨s1,x,x',f1,f2,f3⟩:=(IH _ (Lt.g (show i0<i1+1 by omega) bg)).expr
    have adT:i1+1<=s1.pos:=f3.le
    refine ⟨s1,[n,x],[n',x'],?_,?_,f3.ok,by omega,λi2 h2=>?_⟩
    ·refine dH (c8 H h) ?_
     refine aX f1 ?_
     refine aX (jh (l:=[n]) _ aKN) ?_
     rfl
    ·refine dH (bU H h) ?_
     refine aX f2 ?_
     refine aX (jh (l:=[n']) _ aKN) ?_
     rfl
    ·obtain ⟨k,q1,q2,q3,q4,_⟩:=f3.good i2 h2
     cases q1
     obtain ⟨k,q5,q6,q7,q8,_⟩:=g3.good i1 rfl
     cases q5
     subst q3;subst q7
     exact ⟨by omega,rfl,by rw [ja,df];omega⟩
  have eS:eF (pS ts e (.g i)).fT (pS ts e (.g i)).fI (pS ts e (.g i)).az (pS ts e (.g i)).ay [] l=
    (aE (pS ts e s1) [44]>>=λ(v80,AY)=>(if v80=true then eF AY.fT AY.fI AY.az AY.ay [] (l++[.mk 6 0 [] c]) else aR AY [93]>>=λO9=>some (.inr ((ae.mk 5 0 [] (l++[.mk 6 0 [] c])),O9)))):=by
   rw [eF]
   simp only [mj,if_true,oS]
   refine aX g1 ?_
   refine aX e1 ?_
   refine aX (jh _ aKK) ?_
   rfl
  have eI:cW (qS ts e' (.g i)).ar (qS ts e' (.g i)).bM (qS ts e' (.g i)).az (qS ts e' (.g i)).ay [] m=
    (av (qS ts e' s1) [93]>>=λ(v80,AY)=>(if v80=true then some (.inr ((ae.mk 5 0 [] (m++[.mk 6 0 [] c'])),AY)) else aK AY [44]>>=λO9=>cW O9.ar O9.bM O9.az O9.ay [] (m++[.mk 6 0 [] c']))):=by
   rw [cW]
   simp only [kj,if_false,dO]
   refine aX g2 ?_
   refine aX e2 ?_
   refine aX (jh _ aKK) ?_
   rfl
  have hit:∀z:List ae,wl [ae.mk 6 0 [] z]=1+wl z:=λz=>by rw [df,lR];simp
  rcases comma (ts:=ts) s1 [93] aKL with ⟨i2,rfl,h,h2⟩ | ⟨h,i2,rfl,h2⟩ | ⟨h,h2⟩
  ·have bg:=cw h
   obtain ⟨q2,q3,q4⟩:=vr i2 rfl
   subst q3
   have nI:(JS.g i2).Ok ts:=ZN
   obtain ⟨s',x,y,f1,f2,f3,f4,f5,f8⟩:=Fo H IH E0 N (i2+1) (l++[.mk 6 0 [] c]) (m++[.mk 6 0 [] c]) aKK aKK aKK aKY aKY
   rw [aIe] at f1 f2
   have eS2:eF (pS ts e (.g i)).fT (pS ts e (.g i)).fI (pS ts e (.g i)).az (pS ts e (.g i)).ay [] l=eF (pS ts e (.g (i2+1))).fT (pS ts e (.g (i2+1))).fI (pS ts e (.g (i2+1))).az (pS ts e (.g (i2+1))).ay [] (l++[.mk 6 0 [] c]):=by
    rw [eS]
    refine dH (c8 H h) ?_
    rfl
   have eI2:cW (qS ts e' (.g i)).ar (qS ts e' (.g i)).bM (qS ts e' (.g i)).az (qS ts e' (.g i)).ay [] m=cW (qS ts e' (.g (i2+1))).ar (qS ts e' (.g (i2+1))).bM (qS ts e' (.g (i2+1))).az (qS ts e' (.g (i2+1))).ay [] (m++[.mk 6 0 [] c]):=by
    rw [eI]
    refine aG (au (w:=[93]) H nI h2) ?_
    refine aX (CT H h) ?_
    rfl
   refine ⟨s',_,_,by rw [eS2];exact f1,by rw [eI2];exact f2,f3,f4,by omega,λi' rf=>?_⟩
   obtain ⟨r1,r2,r3⟩:=f8 i' rf
   subst r2
   refine ⟨by omega,rfl,?_⟩
   rw [ki,hit]
   omega
  ·have bg:=cw h2
   obtain ⟨q2,q3,q4⟩:=vr i2 rfl
   subst q3
   have nI:(JS.g i2).Ok ts:=ZN
   refine ⟨.g (i2+1),[.mk 6 0 [] c],[.mk 6 0 [] c],.inl ?_,.inl ?_,bg,rfl,by show i<=i2+1;omega,λi' rf=>?_⟩
   ·rw [eS]
    refine aG (ax (w:=[44]) H nI h) ?_
    refine aX (zn H h2) ?_
    rfl
   ·rw [eI]
    refine dH (bU H h2) ?_
    rfl
   ·cases rf
    refine ⟨by omega,rfl,?_⟩
    rw [hit]
    omega
  ·refine ⟨K3 s1,[.mk 6 0 [] c],[.mk 6 0 [] c'],.inl ?_,.inr ?_,zo ZN,CU _,by rw [qM];exact adT,λi' rf=>(Kj rf).elim⟩
   ·rw [eS]
    refine aG (ax (w:=[44]) H ZN h) ?_
    refine aX ((er H _ ZN [93]).trans (by rw [jI h2])) ?_
    rfl
   ·rw [eI]
    refine aG (au (w:=[93]) H ZN h2) ?_
    refine aX ((fL H _ ZN [44]).trans (by rw [jI h])) ?_
    rw [cW]
    simp only [CV,if_true]
theorem adU (H:Tk ts e) {i:Nat} (hi:i<=ts.length) (IH:∀s,Lt ts i s->PC ts e e' s):C1 ts e e' false 0 (.g i) iT gr:=by
 have hL:=H.len
 have hs:(JS.g i).Ok ts:=hi
 cases h:tw ts i [93] with
 | true=>
  have bg:=cw h
  refine ⟨.g (i+1),.mk 5 0 [] [],.mk 5 0 [] [],?_,?_,⟨bg,aIK i,λi' h'=>(by cases h';exact ⟨i,rfl,aHP i,rfl,by rw [lR,mi];simp only [At];omega,qh aKL,λhh=>by cases hh⟩),λj hj=>(by cases hj)⟩⟩
  ·rw [iT]
   refine dH (c8 H h) ?_
   rfl
  ·rw [gr]
   refine dH (bU H h) ?_
   rfl
 | false=>
  obtain ⟨s',x,y,f1,f2,f3,f4,f5,f8⟩:=Fo H IH (G5 H hi IH) _ i [] [] (aHP _) (No i) hi aKT aKT
  refine ⟨s',.mk 5 0 [] ([]++x),.mk 5 0 [] ([]++y),?_,?_,Rs.node aKL f3 f4 f5 (λi' h'=>?_)⟩
  ·rw [iT]
   refine aG (ax (w:=[93]) H hs h) ?_
   exact f1.run
  ·rw [gr]
   refine aG (au (w:=[93]) H hs h) ?_
   exact f2.run
  ·obtain ⟨r1,r2,r3⟩:=f8 i' h'
   subst r2
   simp only [aIg,At]
   exact ⟨by omega,trivial,trivial,by omega⟩
def S11 (x:Option ((List af)×Int×Int×Int×(List ae)×(List ae))) (l:List ae) (p:aA):Prop:=x=some (p.fT,p.fI,p.az,p.ay,[],l)
def I11 (x:Option ((List af)×Int×Int×Bool×(List ae)×(List ae))) (l:List ae) (p:ai):Prop:=x=some (p.ar,p.bM,p.az,p.ay,[],l)
theorem xj (H:Tk ts e) {i0:Nat} (IH:∀s,Lt ts i0 s->PC ts e e' s):∀(N:Nat) (s:JS) (l m:List ae),s.Ok ts->s.nd=true->i0<=s.pos->(∀i,s=.g i->ts.length - i<N/\i0<i)->l.length+ts.length<=10000+s.pos->m.length+ts.length<=10000+s.pos->
  ∃s' x y,S11 (dj (pS ts e s).fT (pS ts e s).fI (pS ts e s).az (pS ts e s).ay [] l) (l++x) (pS ts e s')/\I11 (ck (qS ts e' s).ar (qS ts e' s).bM (qS ts e' s).az (qS ts e' s).ay [] m) (m++y) (qS ts e' s')/\
   s'.Ok ts/\s'.nd=true/\i0<=s'.pos/\(∀i',s'=.g i'->∃i,s=.g i/\i<i'/\x=y/\(wl x:Int)+16384*(i:Int)+8192<=16384*(i':Int))
 | N,.d j,l,m,_,hd,_,_,_,_=>by cases hd
 | N,.b j,l,m,hs,_,hp,_,_,_=>by
  refine ⟨.b j,[],[],?_,?_,hs,rfl,hp,λi' h=>by cases h⟩
  ·rw [dj];simp only [rm H,if_false,aII];rfl
  ·rw [ck];simp only [jC,if_true,aII];rfl
 | 0,.g i,_,_,_,_,_,h,_,_=>by have:=(h i rfl).1;omega
 | N+1,.g i,l,m,hs,_,hp,hN,hl,hm=>by
  have hL:=H.len
  obtain ⟨hN,h0⟩:=hN i rfl
  have hi:i<=ts.length:=hs
  have hl:l.length+ts.length<=10000+i:=hl
  have hm:m.length+ts.length<=10000+i:=hm
  cases h1:tw ts i [125] with
  | true=>
   have bg:=cw h1
   refine ⟨.g (i+1),[],[],?_,?_,bg,rfl,by show i0<=i+1;omega,λi' h=>?_⟩
   ·show _=_
    rw [dj]
    simp only [mj,if_true,oS,aII]
    refine dH (c8 H h1) ?_
    rfl
   ·show _=_
    rw [ck]
    simp only [kj,if_false,dO,aII]
    refine dH (bU H h1) ?_
    rfl
   ·cases h
    exact ⟨i,rfl,aHP i,rfl,by rw [mi];omega⟩
  | false=>
   cases h2:tw ts i [59] with
   | true=>
    have bg:=cw h2
    obtain ⟨s',x,y,f1,f2,f3,f4,f5,f6⟩:=xj H IH N (.g (i+1)) l m bg rfl (by show i0<=i+1;omega) (λk hk=>by cases hk;omega) (by show l.length+ts.length<=10000+(i+1);omega) (by show m.length+ts.length<=10000+(i+1);omega)
    refine ⟨s',x,y,?_,?_,f3,f4,f5,λi' h=>?_⟩
    ·refine Eq.trans ?_ f1
     rw [dj]
     simp only [mj,if_true,oS]
     refine aG (ax (w:=[125]) H hs h1) ?_
     refine dH (c8 H h2) ?_
     rfl
    ·refine Eq.trans ?_ f2
     rw [ck]
     simp only [kj,if_false,dO]
     refine aG (au (w:=[125]) H hs h1) ?_
     refine dH (bU H h2) ?_
     rfl
    ·obtain ⟨k,q1,q2,q3,q4⟩:=f6 i' h
     cases q1
     exact ⟨i,rfl,by omega,q3,by omega⟩
   | false=>
    obtain ⟨s1,n,n',g1,g2,g3⟩:=(IH _ (Lt.g h0 hi)).stmt
    have hle:i<=s1.pos:=g3.le
    have l1:=Lt.rs (i:=i) g3 (λk hk=>by cases hk;exact No i)
    have Rv:∀k,s1=.g k->i<k:=l1.lt
    have aGA:l.length+1+ts.length<=10000+s1.pos+1:=by omega
    by_cases hg:∃k,s1=.g k
    ·obtain ⟨k,rfl⟩:=hg
     obtain ⟨k1,q1,q2,q3,q4,_⟩:=g3.good k rfl
     cases q1
     subst q3
     obtain ⟨s',x,y,f1,f2,f3,f4,f5,f6⟩:=xj H IH N (.g k) (l++[n]) (m++[n]) g3.ok rfl (by show i0<=k;omega) (λk' hk=>by cases hk;have q:k<=ts.length:=g3.ok;omega) (by simp only [aHK,an,At];show _<=10000+k;omega) (by simp only [aHK,an,At];show _<=10000+k;omega)
     rw [aIe] at f1 f2
     refine ⟨s',[n]++x,[n]++y,?_,?_,f3,f4,f5,λi' h=>?_⟩
     ·refine Eq.trans ?_ f1
      rw [dj]
      simp only [mj,if_true,oS]
      refine aG (ax (w:=[125]) H hs h1) ?_
      refine aG (ax (w:=[59]) H hs h2) ?_
      refine aX g1 ?_
      refine aX (jh _ aKK) ?_
      rfl
     ·refine Eq.trans ?_ f2
      rw [ck]
      simp only [kj,if_false,dO]
      refine aG (au (w:=[125]) H hs h1) ?_
      refine aG (au (w:=[59]) H hs h2) ?_
      refine aX g2 ?_
      refine aX (jh _ aKK) ?_
      rfl
     ·obtain ⟨k',r1,r2,r3,r4⟩:=f6 i' h
      cases r1
      subst r3
      refine ⟨i,rfl,by omega,rfl,?_⟩
      rw [ki,df]
      omega
    ·have hb:∃j,s1=.b j:=(Kk l1.nd).resolve_left hg
     obtain ⟨j,rfl⟩:=hb
     refine ⟨.b j,[n],[n'],?_,?_,g3.ok,rfl,by show i0<=j;have hle:i<=j:=hle;omega,λi' h=>by cases h⟩
     ·show _=_
      rw [dj]
      simp only [mj,if_true,oS]
      refine aG (ax (w:=[125]) H hs h1) ?_
      refine aG (ax (w:=[59]) H hs h2) ?_
      refine aX g1 ?_
      refine aX (jh _ aKK) ?_
      rw [dj]
      simp only [rm H,if_false]
     ·show _=_
      rw [ck]
      simp only [kj,if_false,dO]
      refine aG (au (w:=[125]) H hs h1) ?_
      refine aG (au (w:=[59]) H hs h2) ?_
      refine aX g2 ?_
      refine aX (jh _ aKK) ?_
      rw [ck]
      simp only [jC,if_true]
theorem Kl (H:Tk ts e) {i:Nat} (hi:i<=ts.length) (IH:∀s,Lt ts i s->PC ts e e' s):C1 ts e e' false 0 (.g i) cO bL:=by
 have hL:=H.len
 have hs:(JS.g i).Ok ts:=hi
 have l1:=Lt.w (i:=i) hs (No i) [123]
 have hp:=iy (ts:=ts) (.g i) [123]
 have hp:i<=(wS ts (.g i) [123]).pos:=hp
 have ho:=okp l1.ok
 obtain ⟨s',x,y,f1,f2,f3,f4,f5,f6⟩:=xj H IH (ts.length+1) (wS ts (.g i) [123]) [] [] l1.ok l1.nd hp (λk hk=>⟨by omega,l1.lt k hk⟩) aKT aKT
 refine ⟨s',.mk 48 0 [] ([]++x),.mk 48 0 [] ([]++y),?_,?_,Rs.node aKL f3 f4 f5 (λi' h'=>?_)⟩
 ·rw [cO]
  refine aX (er H _ hs [123]) ?_
  refine aX f1 ?_
  rfl
 ·rw [bL]
  refine aX (fL H _ hs [123]) ?_
  refine aX f2 ?_
  rfl
 ·obtain ⟨k,q1,q2,q3,q4⟩:=f6 i' h'
  obtain ⟨k1,q5,q6,_⟩:=gv q1
  cases q5
  subst q3
  simp only [aIg,At]
  exact ⟨by omega,trivial,trivial,by omega⟩
end
set_option maxRecDepth 10000
set_option maxHeartbeats 400000
section
variable {ts:List af} {e e':Int}
theorem Km (H:Tk ts e) {i0:Nat} (IH:∀s,Lt ts i0 s->PC ts e e' s) (s:JS) (hs:s.Ok ts) (hp:i0<=s.pos):∃s' n m,mW (pS ts e s)=some (n,pS ts e s')/\gq (qS ts e' s)=some (m,qS ts e' s')/\s'.Ok ts/\s'.nd=true/\s.pos<=s'.pos/\
  (∀i',s'=.g i'->∃i,s=.g i/\i+2<i'/\n=m/\(wt n:Int)+8192+16384*(i:Int)+32768<=16384*(i':Int)):=by
 have l1:=Lt.w (i:=i0) hs hp [40]
 have p1:=iy (ts:=ts) s [40]
 obtain ⟨s1,n,m,g1,g2,g3⟩:=(IH _ l1).expr
 have p2:=g3.le
 have p3:=iy (ts:=ts) s1 [41]
 refine ⟨wS ts s1 [41],n,m,?_,?_,lT g3.ok _,pB _ _,by omega,λi' h=>?_⟩
 ·rw [mW]
  refine aX (er H _ hs [40]) ?_
  refine aX g1 ?_
  refine aX (er H _ g3.ok [41]) ?_
  rfl
 ·rw [gq]
  refine aX (fL H _ hs [40]) ?_
  refine aX g2 ?_
  refine aX (fL H _ g3.ok [41]) ?_
  rfl
 ·obtain ⟨k,q1,q2,_⟩:=gv h
  obtain ⟨k1,q3,q4,q5,q6,_⟩:=g3.good k q1
  obtain ⟨k2,q7,q8,_⟩:=gv q3
  subst q5
  exact ⟨k2,q7,by omega,rfl,by omega⟩
theorem agh (H:Tk ts e) {i0:Nat} (IH:∀s,Lt ts i0 s->PC ts e e' s):∀(N i:Nat),ts.length - i<N->i0<=i->tw ts i [105,102]=true->
  ∃s' n m,nU (pS ts e (.g (i+1)))=some (n,pS ts e s')/\fP (qS ts e' (.g i))=some (m,qS ts e' s')/\Rs ts false 0 (.g i) s' n m
 | 0,i,h,_,_=>by omega
 | N+1,i,hN,h0,h=>by
  have bg:=cw h
  have fu:(JS.g (i+1)).Ok ts:=bg
  obtain ⟨s1,c,c',g1,g2,ZN,nd1,p1,vr⟩:=Km H IH (.g (i+1)) fu (by show i0<=i+1;omega)
  have p1:i+1<=s1.pos:=p1
  have l1:Lt ts i0 s1:=⟨ZN,nd1,λk hk=>by
   obtain ⟨k1,q1,q2,_⟩:=vr k hk
   cases q1
   omega⟩
  obtain ⟨s2,b,b',f1,f2,f3⟩:=(IH _ l1).block
  have p2:=f3.le
  have l2:Lt ts i0 s2:=Lt.rs f3 (λk hk=>aIn (l1.lt k hk))
  have Ac:∀i2,s2=.g i2->i+3<i2/\c=c'/\b=b'/\(wt c:Int)+(wt b:Int)+16384*(i:Int)+49152<=16384*(i2:Int):=λi2 h2=>by
   obtain ⟨k,q1,q2,q3,q4,_⟩:=f3.good i2 h2
   obtain ⟨k1,q5,q6,q7,q8⟩:=vr k q1
   cases q5
   exact ⟨by omega,q7,q3,by omega⟩
  have eS:nU (pS ts e (.g (i+1)))=(aE (pS ts e s2) [101,108,115,101]>>=λ(acv,QW)=>
    (if acv=true then
    aE QW [105,102]>>=λ(acw,QX)=>
    (if acw=true then
    nU QX>>=λ(QY,acx)=>
    db 56 [c,b] [(ae.mk 48 0 [] ([QY]:List ae))]>>=λX3=>
    some ((ae.mk 34 0 [] X3),acx)
    else
    cO QX>>=λ(GF,acy)=>
    db 56 [c,b] [GF]>>=λX4=>
    some ((ae.mk 34 0 [] X4),acy))
    else
    some ((ae.mk 34 0 [] [c,b]),QW))):=by
   rw [nU]
   refine aX g1 ?_
   refine (eg (a:=((pS ts e s2).fT,(pS ts e s2).fI,(pS ts e s2).az,(pS ts e s2).ay,[c,b])) ?_).trans ?_
   ·refine aX f1 ?_
    rfl
   rfl
  have eI:fP (qS ts e' (.g i))=(av (qS ts e' s2) [101,108,115,101]>>=λ(wJ,FW)=>
    (if wJ=true then
    aW FW 0 [105,102]>>=λ(Gq,FX)=>
    (if Gq=true then
    fP FX>>=λ(za,abq)=>
    db 56 [c',b'] [(ae.mk 48 0 [] ([za]:List ae))]>>=λVz=>
    some ((ae.mk 34 0 [] Vz),abq)
    else
    bL FX>>=λ(Gr,LB)=>
    db 56 [c',b'] [Gr]>>=λVA=>
    some ((ae.mk 34 0 [] VA),LB))
    else
    some ((ae.mk 34 0 [] [c',b']),FW))):=by
   rw [fP]
   refine aX (CT H h) ?_
   refine aX g2 ?_
   refine (eg (a:=((qS ts e' s2).ar,(qS ts e' s2).bM,(qS ts e' s2).az,(qS ts e' s2).ay,[c',b'])) ?_).trans ?_
   ·refine aX f2 ?_
    rfl
   rfl
  rw [eS,eI]
  rcases Kh (ts:=ts) s2 [101,108,115,101] with he | ⟨i2,rfl,he⟩
  ·refine ⟨s2,.mk 34 0 [] [c,b],.mk 34 0 [] [c',b'],?_,?_,Rs.node aKL f3.ok l2.nd aKK (λi' h'=>?_)⟩
   ·refine aG (ax (w:=[101,108,115,101]) H f3.ok he) ?_
    rfl
   ·refine aG (au (w:=[101,108,115,101]) H f3.ok he) ?_
    rfl
   ·obtain ⟨r1,r2,r3,r4⟩:=Ac i' h'
    subst r2;subst r3
    refine ⟨by omega,rfl,rfl,?_⟩
    rw [ja,df]
    simp only [At]
    omega
  ·obtain ⟨r1,r2,r3,r4⟩:=Ac i2 rfl
   subst r2;subst r3
   have xc:=cw he
   have K2:(JS.g (i2+1)).Ok ts:=xc
   cases hf:tw ts (i2+1) [105,102] with
   | true=>
    obtain ⟨s3,n,m,h1,h2,h3⟩:=agh H IH N (i2+1) aKK aKK hf
    have l3:Lt ts i0 s3:=Lt.rs h3 (λk hk=>by cases hk;omega)
    have p3:i2+1<=s3.pos:=h3.le
    refine ⟨s3,.mk 34 0 [] ([c,b]++[.mk 48 0 [] [n]]),.mk 34 0 [] ([c,b]++[.mk 48 0 [] [m]]),?_,?_,Rs.node aKL h3.ok l3.nd aKK (λi' h'=>?_)⟩
    ·refine dH (c8 H he) ?_
     refine dH (c8 H hf) ?_
     refine aX h1 ?_
     refine aX (jh (l:=[c,b]) _ aKN) ?_
     rfl
    ·refine dH (bU H he) ?_
     refine dH ((eV (e':=e') H (.g (i2+1)) K2 [105,102]).trans (by rw [show tw ts (JS.g (i2+1)).pos [105,102]=true from hf])) ?_
     refine aX h2 ?_
     refine aX (jh (l:=[c,b]) _ aKN) ?_
     rfl
    ·obtain ⟨k,q1,q2,q3,q4,_⟩:=h3.good i' h'
     cases q1
     subst q3
     refine ⟨by omega,rfl,rfl,?_⟩
     rw [ki,ja,df,df,lR,df]
     simp only [At]
     omega
   | false=>
    obtain ⟨s3,n,m,h1,h2,h3⟩:=(IH _ (Lt.g (show i0<i2+1 by omega) xc)).block
    have l3:Lt ts i0 s3:=Lt.rs h3 (λk hk=>by cases hk;omega)
    have p3:i2+1<=s3.pos:=h3.le
    refine ⟨s3,.mk 34 0 [] ([c,b]++[n]),.mk 34 0 [] ([c,b]++[m]),?_,?_,Rs.node aKL h3.ok l3.nd aKK (λi' h'=>?_)⟩
    ·refine dH (c8 H he) ?_
     refine aG (ax (w:=[105,102]) H K2 hf) ?_
     refine aX h1 ?_
     refine aX (jh (l:=[c,b]) _ aKN) ?_
     rfl
    ·refine dH (bU H he) ?_
     refine aG ((eV (e':=e') H (.g (i2+1)) K2 [105,102]).trans (by rw [show tw ts (JS.g (i2+1)).pos [105,102]=false from hf])) ?_
     refine aX h2 ?_
     refine aX (jh (l:=[c,b]) _ aKN) ?_
     rfl
    ·obtain ⟨k,q1,q2,q3,q4,_⟩:=h3.good i' h'
     cases q1
     subst q3
     refine ⟨by omega,rfl,rfl,?_⟩
     rw [ki,ja,df,df]
     simp only [At]
     omega
theorem ZO (n a x:ae):db 56 ([n]++[a]) [x]=some ([n]++([a]++[x])):=km (b:=56) (l:=[n]++[a]) (m:=[x]) (by show (2+1)*56<=140737488355328;omega)
theorem PT (n x:ae) (l:List ae) (h:l.length<=2):db 56 ([n]++l) [x]=some ([n]++l++[x]):=jh _ (by rw [aHK];simp only [an,At];omega)
theorem Nt (H:Tk ts e) {i:Nat} (bg:i<ts.length) (IH:∀s,Lt ts i s->PC ts e e' s):∃s' n m,mX (pS ts e (.g (i+1)))=some (n,pS ts e s')/\kn (qS ts e' (.g (i+1)))=some (m,qS ts e' s')/\Rs ts false 0 (.g i) s' n m:=by
 have hL:=H.len
 have fu:(JS.g (i+1)).Ok ts:=bg
 have l1:=Lt.w (i:=i) fu (aIK i) [40]
 have p1:=iy (ts:=ts) (.g (i+1)) [40]
 have p1:i+1<=(wS ts (.g (i+1)) [40]).pos:=p1
 obtain ⟨s1,n,m,g1,g2,g3⟩:=(IH _ l1).expr
 have p2:=g3.le
 have o2:=lT g3.ok [97,115]
 have p3:=iy (ts:=ts) s1 [97,115]
 have d2:=pB (ts:=ts) s1 [97,115]
 have o3:=Ab o2 (k:=2) aKL
 have p4:=tn (ts:=ts) (wS ts s1 [97,115]) 2
 have d3:=Fl (ts:=ts) (wS ts s1 [97,115]) 2
 have t1:=mh H (wS ts s1 [97,115]) 2
 have agi:∀i3,nS ts (wS ts s1 [97,115]) 2=.g i3->i+4<i3/\n=m/\(wt n:Int)+16384*(i:Int)+65536<=16384*(i3:Int):=λi3 h3=>by
  obtain ⟨k,q1,q2,_⟩:=rl h3
  obtain ⟨k1,q3,q4,_⟩:=gv q1
  obtain ⟨k2,q5,q6,q7,q8,_⟩:=g3.good k1 q3
  obtain ⟨k3,q9,q10,_⟩:=gv q5
  cases q9
  exact ⟨by omega,q7,by omega⟩
 obtain ⟨s4,lv,e1,e2,o4,p5,d4,aAU,aAV⟩:∃(s4:JS) (lv:List ae),
   (aE (pS ts e (nS ts (wS ts s1 [97,115]) 2)) [61,62]>>=λ(Q0,ug)=>(if Q0=true then gG ug>>=λ(B5,w9)=>db 56 ([n]++[.mk 4 0 (nT ts (wS ts s1 [97,115]) 2) []]) [B5]>>=λMA=>some (w9.fT,w9.fI,w9.az,w9.ay,MA) else some (ug.fT,ug.fI,ug.az,ug.ay,([n]++[.mk 4 0 (nT ts (wS ts s1 [97,115]) 2) []]))))=some ((pS ts e s4).fT,(pS ts e s4).fI,(pS ts e s4).az,(pS ts e s4).ay,[n]++lv)/\
   (av (qS ts e' (nS ts (wS ts s1 [97,115]) 2)) [61,62]>>=λ(Q0,ug)=>(if Q0=true then cm ug>>=λ(B5,w9)=>db 56 ([m]++[.mk 4 0 (nT ts (wS ts s1 [97,115]) 2) []]) [B5]>>=λMA=>some (w9.ar,w9.bM,w9.az,w9.ay,MA) else some (ug.ar,ug.bM,ug.az,ug.ay,([m]++[.mk 4 0 (nT ts (wS ts s1 [97,115]) 2) []]))))=some ((qS ts e' s4).ar,(qS ts e' s4).bM,(qS ts e' s4).az,(qS ts e' s4).ay,[m]++lv)/\
   s4.Ok ts/\i<=s4.pos/\s4.nd=true/\lv.length<=2/\(∀i4,s4=.g i4->i+4<i4/\n=m/\(wt n:Int)+(wl lv:Int)+16384*(i:Int)+60000<=16384*(i4:Int)):=by
  generalize K2:nS ts (wS ts s1 [97,115]) 2=s3 at*
  generalize ht3:nT ts (wS ts s1 [97,115]) 2=t3 at*
  have hw:wl [ae.mk 4 0 t3 []]<=4001:=by rw [df,lR,mi];omega
  rcases Kh (ts:=ts) s3 [61,62] with h | ⟨i3,rfl,h⟩
  ·refine ⟨s3,[.mk 4 0 t3 []],?_,?_,o3,by omega,d3,by simp,λi4 h4=>?_⟩
   ·refine aG (ax (w:=[61,62]) H o3 h) ?_
    rfl
   ·refine aG (au (w:=[61,62]) H o3 h) ?_
    rfl
   ·obtain ⟨q1,q2,q3⟩:=agi i4 h4
    exact ⟨q1,q2,by omega⟩
  ·have aFz:=cw h
   have hs4:(JS.g (i3+1)).Ok ts:=aFz
   have t2:=mh H (.g (i3+1)) 2
   have p6:=@tn ts (.g (i3+1)) 2
   have p6:i3+1<=(nS ts (.g (i3+1)) 2).pos:=p6
   have p4':(wS ts s1 [97,115]).pos<=i3:=p4
   have hw2:wl [ae.mk 4 0 (nT ts (.g (i3+1)) 2) []]<=4001:=by rw [df,lR,mi];omega
   refine ⟨nS ts (.g (i3+1)) 2,[.mk 4 0 t3 []]++[.mk 4 0 (nT ts (.g (i3+1)) 2) []],?_,?_,Ab hs4 aKL,by omega,Fl _ _,by simp,λi4 h4=>?_⟩
   ·refine dH (c8 H h) ?_
    refine aX (Nr H _ hs4) ?_
    refine aX (ZO _ _ _) ?_
    rfl
   ·refine dH (bU H h) ?_
    refine aX (Ns H _ hs4 rfl) ?_
    refine aX (ZO _ _ _) ?_
    rfl
   ·obtain ⟨k,q1,q2,_⟩:=rl h4
    cases q1
    obtain ⟨q1,q2,q3⟩:=agi i3 rfl
    refine ⟨by omega,q2,?_⟩
    rw [ki]
    omega
 have o5:=lT o4 [41]
 have p7:=iy (ts:=ts) s4 [41]
 have l5:=Lt.w (i:=i) o4 p5 [41]
 obtain ⟨s5,b,b',h1,h2,h3⟩:=(IH _ l5).block
 have p8:=h3.le
 have l6:Lt ts i s5:=Lt.rs h3 (λk hk=>aIn (l5.lt k hk))
 refine ⟨s5,.mk 36 0 [] ([n]++lv++[b]),.mk 36 0 [] ([m]++lv++[b']),?_,?_,Rs.node aKL h3.ok l6.nd aKK (λi' h'=>?_)⟩
 ·rw [mX]
  refine aX (er H _ fu [40]) ?_
  refine aX g1 ?_
  refine aX (er H _ g3.ok [97,115]) ?_
  refine aX (Nr H _ o2) ?_
  refine aX (jh (l:=[n]) _ aKN) ?_
  refine aX e1 ?_
  refine aX (er H _ o4 [41]) ?_
  refine aX h1 ?_
  refine aX (PT _ _ _ aAU) ?_
  rfl
 ·rw [kn]
  refine aX (fL H _ fu [40]) ?_
  refine aX g2 ?_
  refine aX (fL H _ g3.ok [97,115]) ?_
  refine aX (Ns H _ o2 d2) ?_
  refine aX (jh (l:=[m]) _ aKN) ?_
  refine aX e2 ?_
  refine aX (fL H _ o4 [41]) ?_
  refine aX h2 ?_
  refine aX (PT _ _ _ aAU) ?_
  rfl
 ·obtain ⟨k,q1,q2,q3,q4,_⟩:=h3.good i' h'
  obtain ⟨k1,q5,q6,_⟩:=gv q1
  obtain ⟨q7,q8,q9⟩:=aAV k1 q5
  subst q3;subst q8
  refine ⟨by omega,rfl,rfl,?_⟩
  rw [ki,ki,df,df]
  simp only [At]
  omega
theorem alz (H:Tk ts e) {i:Nat} (bg:i<ts.length) (IH:∀s,Lt ts i s->PC ts e e' s):∃s' n m,nV (pS ts e (.g (i+1)))=some (n,pS ts e s')/\gC (qS ts e' (.g (i+1)))=some (m,qS ts e' s')/\Rs ts false 0 (.g i) s' n m:=by
 have hL:=H.len
 have fu:(JS.g (i+1)).Ok ts:=bg
 obtain ⟨s1,b,b',g1,g2,g3⟩:=(IH _ (Lt.g (aHP i) bg)).block
 have p1:i+1<=s1.pos:=g3.le
 have l1:Lt ts i s1:=Lt.rs g3 (λk hk=>by cases hk;omega)
 have vr:∀i1,s1=.g i1->i+1<i1/\b=b'/\(wt b:Int)+16384*(i:Int)+24576<=16384*(i1:Int):=λi1 h1=>by
  obtain ⟨k,q1,q2,q3,q4,_⟩:=g3.good i1 h1
  cases q1
  exact ⟨by omega,q3,by omega⟩
 obtain ⟨s2,c,c',e1,e2,o2,d2,p2,l2,l2',Ac⟩:∃(s2:JS) (c c':List ae),
   (aE (pS ts e s1) [99,97,116,99,104]>>=λ(acz,AB)=>
    (if acz=true then
    aR AB [40]>>=λacA=>
    dw acA 3>>=λ(Q1,acB)=>
    gG acB>>=λ(Q2,acC)=>
    aR acC [41]>>=λacD=>
    cO acD>>=λ(Q3,D4)=>
    db 56 ([b]:List ae) [(ae.mk 44 0 Q1 ([Q2,Q3]:List ae))]>>=λX9=>
    some (D4.fT,D4.fI,D4.az,D4.ay,X9)
    else
    some (AB.fT,AB.fI,AB.az,AB.ay,([b]:List ae))))=some ((pS ts e s2).fT,(pS ts e s2).fI,(pS ts e s2).az,(pS ts e s2).ay,[b]++c)/\
   (av (qS ts e' s1) [99,97,116,99,104]>>=λ(LO,vV)=>
    (if LO=true then
    aK vV [40]>>=λIh=>
    bT Ih 3>>=λ(QG,abr)=>
    cm abr>>=λ(pW,abt)=>
    must (1*56<=140737488355328)>>=λ_=>
    aK abt [41]>>=λabu=>
    bL abu>>=λ(Gt,DW)=>
    db 56 [pW] [Gt]>>=λLP=>
    db 56 ([b']:List ae) [(ae.mk 44 0 QG LP)]>>=λVG=>
    some (DW.ar,DW.bM,DW.az,DW.ay,VG)
    else
    some (vV.ar,vV.bM,vV.az,vV.ay,([b']:List ae))))=some ((qS ts e' s2).ar,(qS ts e' s2).bM,(qS ts e' s2).az,(qS ts e' s2).ay,[b']++c')/\
   s2.Ok ts/\s2.nd=true/\i+1<=s2.pos/\c.length=c'.length/\c.length<=1/\(∀i2,s2=.g i2->i+1<i2/\b=b'/\c=c'/\(wt b:Int)+(wl c:Int)+16384*(i:Int)+24576<=16384*(i2:Int)):=by
  rcases Kh (ts:=ts) s1 [99,97,116,99,104] with h | ⟨i1,rfl,h⟩
  ·refine ⟨s1,[],[],?_,?_,g3.ok,l1.nd,p1,rfl,by simp,λi2 h2=>?_⟩
   ·refine aG (ax (w:=[99,97,116,99,104]) H g3.ok h) ?_
    rfl
   ·refine aG (au (w:=[99,97,116,99,104]) H g3.ok h) ?_
    rfl
   ·obtain ⟨q1,q2,q3⟩:=vr i2 h2
    exact ⟨q1,q2,rfl,by rw [mi];omega⟩
  ·have zp:=cw h
   have nI:(JS.g (i1+1)).Ok ts:=zp
   have p1:i+1<=i1:=p1
   have a1:=lT nI [40]
   have a2:=@iy ts (.g (i1+1)) [40]
   have a2:i1+1<=(wS ts (.g (i1+1)) [40]).pos:=a2
   have a3:=Ab a1 (k:=3) aKL
   have a4:=tn (ts:=ts) (wS ts (.g (i1+1)) [40]) 3
   have a5:=Ab a3 (k:=2) aKL
   have a6:=tn (ts:=ts) (nS ts (wS ts (.g (i1+1)) [40]) 3) 2
   have t1:=mh H (wS ts (.g (i1+1)) [40]) 3
   have t2:=mh H (nS ts (wS ts (.g (i1+1)) [40]) 3) 2
   have a8:=iy (ts:=ts) (nS ts (nS ts (wS ts (.g (i1+1)) [40]) 3) 2) [41]
   have l3:=Lt.w (i:=i) a5 aKK [41]
   obtain ⟨s2,x,x',f1,f2,f3⟩:=(IH _ l3).block
   have a9:=f3.le
   have l4:Lt ts i s2:=Lt.rs f3 (λk hk=>aIn (l3.lt k hk))
   refine ⟨s2,[.mk 44 0 (nT ts (wS ts (.g (i1+1)) [40]) 3) [.mk 4 0 (nT ts (nS ts (wS ts (.g (i1+1)) [40]) 3) 2) [],x]],[.mk 44 0 (nT ts (wS ts (.g (i1+1)) [40]) 3) ([.mk 4 0 (nT ts (nS ts (wS ts (.g (i1+1)) [40]) 3) 2) []]++[x'])],?_,?_,f3.ok,l4.nd,by omega,rfl,by simp,λi2 h2=>?_⟩
   ·refine dH (c8 H h) ?_
    refine aX (er H _ nI [40]) ?_
    refine aX (vt H _ a1 3) ?_
    refine aX (Nr H _ a3) ?_
    refine aX (er H _ a5 [41]) ?_
    refine aX f1 ?_
    refine aX (jh (l:=[b]) _ aKN) ?_
    rfl
   ·refine dH (bU H h) ?_
    refine aX (fL H _ nI [40]) ?_
    refine aX (tQ H _ a1 (pB _ _) 3 (.inr rfl)) ?_
    refine aX (Ns H _ a3 (Fl _ _)) ?_
    refine (eg (a:=()) (if_pos aKL)).trans ?_
    refine aX (fL H _ a5 [41]) ?_
    refine aX f2 ?_
    refine aX (jh (l:=[_]) _ aKN) ?_
    refine aX (jh (l:=[b']) _ aKN) ?_
    rfl
   ·obtain ⟨k,q1,q2,q3,q4,_⟩:=f3.good i2 h2
    obtain ⟨k1,q5,q6,_⟩:=gv q1
    obtain ⟨k2,q7,q8,_⟩:=rl q5
    obtain ⟨k3,q9,q10,_⟩:=rl q7
    obtain ⟨k4,q11,q12,_⟩:=gv q9
    cases q11
    obtain ⟨r1,r2,r3⟩:=vr i1 rfl
    subst q3
    refine ⟨by omega,r2,rfl,?_⟩
    rw [df,lR,ja,df,lR,mi]
    omega
 have fin:∀(s':JS) (l l':List ae),s'.Ok ts->s'.nd=true->i<=s'.pos->(∀i',s'=.g i'->i+1<i'/\l=l'/\(wl l:Int)+8192+16384*(i:Int)<=16384*(i':Int))->Rs ts false 0 (.g i) s' (.mk 43 0 [] l) (.mk 43 0 [] l'):=λs' l l' a1 a2 a3 a4=>
  Rs.node aKL a1 a2 a3 (λi' h'=>by
   obtain ⟨q1,q2,q3⟩:=a4 i' h'
   exact ⟨q1,rfl,q2,by simp only [At];omega⟩)
 rcases Kh (ts:=ts) s2 [102,105,110,97,108,108,121] with h | ⟨i2,rfl,h⟩
 ·by_cases hl:c.length=0
  ·have hc:c=[]:=aJf.1 hl
   have hc':c'=[]:=aJf.1 aKK
   subst hc;subst hc'
   refine ⟨K3 s2,.mk 0 0 [] [],.mk 43 0 [] ([b']++[]),?_,?_,⟨zo o2,by rw [qM];show i<=s2.pos;omega,λi' h'=>(Kj h').elim,λj hj=>by have:=CU s2;rw [hj] at this;cases this⟩⟩
   ·rw [nV]
    refine aX g1 ?_
    refine aX e1 ?_
    refine aG (ax (w:=[102,105,110,97,108,108,121]) H o2 h) ?_
    refine nH (show (([b]++[]).length:Int)=1 from rfl) ?_
    refine aX (sf H _ o2) ?_
    rfl
   ·rw [gC]
    refine aX g2 ?_
    refine aX e2 ?_
    refine aG (au (w:=[102,105,110,97,108,108,121]) H o2 h) ?_
    refine nH (show (([b']++[]).length:Int)=1 from rfl) ?_
    rw [PU]
  ·refine ⟨s2,.mk 43 0 [] ([b]++c),.mk 43 0 [] ([b']++c'),?_,?_,fin s2 _ _ o2 d2 aKK (λi' h'=>?_)⟩
   ·rw [nV]
    refine aX g1 ?_
    refine aX e1 ?_
    refine aG (ax (w:=[102,105,110,97,108,108,121]) H o2 h) ?_
    refine ca (show ¬(([b]++c).length:Int)=1 by simp only [aHK,an,At];omega) ?_
    rfl
   ·rw [gC]
    refine aX g2 ?_
    refine aX e2 ?_
    refine aG (au (w:=[102,105,110,97,108,108,121]) H o2 h) ?_
    refine ca (show ¬(([b']++c').length:Int)=1 by simp only [aHK,an,At];omega) ?_
    rfl
   ·obtain ⟨r1,r2,r3,r4⟩:=Ac i' h'
    subst r2;subst r3
    refine ⟨by omega,rfl,?_⟩
    rw [ki,df]
    omega
 ·have xc:=cw h
  have K2:(JS.g (i2+1)).Ok ts:=xc
  have p2:i+1<=i2:=p2
  obtain ⟨s3,x,x',f1,f2,f3⟩:=(IH _ (Lt.g (show i<i2+1 by omega) xc)).block
  have p3:i2+1<=s3.pos:=f3.le
  have l3:Lt ts i s3:=Lt.rs f3 (λk hk=>by cases hk;omega)
  refine ⟨s3,.mk 43 0 [] ([b]++c++[.mk 45 0 [] [x]]),.mk 43 0 [] ([b']++c'++[.mk 45 0 [] [x']]),?_,?_,fin s3 _ _ f3.ok l3.nd aKK (λi' h'=>?_)⟩
  ·rw [nV]
   refine aX g1 ?_
   refine aX e1 ?_
   refine dH (c8 H h) ?_
   refine aX f1 ?_
   refine aX (PT _ _ _ aKK) ?_
   refine ca (show ¬(([b]++c++[ae.mk 45 0 [] [x]]).length:Int)=1 by simp only [aHK,an,At];omega) ?_
   rfl
  ·rw [gC]
   refine aX g2 ?_
   refine aX e2 ?_
   refine dH (bU H h) ?_
   refine aX f2 ?_
   refine aX (PT _ _ _ aKK) ?_
   refine ca (show ¬(([b']++c'++[ae.mk 45 0 [] [x']]).length:Int)=1 by simp only [aHK,an,At];omega) ?_
   rfl
  ·obtain ⟨k,q1,q2,q3,q4,_⟩:=f3.good i' h'
   cases q1
   obtain ⟨r1,r2,r3,r4⟩:=Ac i2 rfl
   subst r2;subst r3;subst q3
   refine ⟨by omega,rfl,?_⟩
   rw [ki,ki,df,df,lR,df]
   simp only [At]
   omega
end
end Go.Am
