/- Texts of the proof, joined and shortened. -/
import Derived.Test.YtiigfbapjeefbaaGreatDoorPk9
set_option linter.unusedVariables false
set_option linter.unusedSimpArgs false
set_option maxRecDepth 10000
namespace Go.Am
open Go Go.RowKit Go.Proofs
def wl (l:List ae):Nat:=l.length+FI l
theorem aer (l m:List ae):FI (l++m)=FI l+FI m:=by
 induction l with
 | nil=>simp [FI]
 | cons x r a=>simp only[aRw,FI];omega
theorem fO (l m:List ae):wl (l++m)=wl l+wl m:=by unfold wl;rw[aer,It];omega
theorem cy (x:ae):wl [x]=1+wt x:=rfl
theorem fD (k m:Int) (t:av) (l:List ae):wt (.mk k m t l)=t.length+wl l:=by rw[DO];unfold wl;simp only[ae.mG,ae.kU];omega
theorem ep:wl []=0:=rfl
theorem gv (x:ae) (l:List ae):wl (x::l)=1+wt x+wl l:=by unfold wl;simp only[so,FI];omega
theorem aol (l:List ae):l.length<=wl l:=by unfold wl;omega
section
variable {ts:List ai}{e e':Int}
theorem kg {i:Nat}:((pS ts e (.g i)).ax<0)=True:=by
 show((-1:Int)<0)=True;exact eq_true aUF
theorem qh (H:Tk ts e) {i:Nat}:((pS ts e (.b i)).ax<0)=False:=by
 have:=O7 H i;exact eq_false (show ¬pl ts e i<0 by omega)
theorem jo {i:Nat}:((qS ts e' (.g i)).ax=true)=False:=eq_false (show ¬false=true by decide)
theorem jq {i:Nat}:((qS ts e' (.b i)).ax=true)=True:=eq_true rfl
theorem O8 {i:Nat}:((qS ts e' (.d i)).ax=true)=False:=eq_false (show ¬false=true by decide)
structure Rs (ts:List ai) (v:Bool) (D:Nat) (s s':JS) (n m:ae):Prop where
 ok:s'.Ok ts
 le:s.pos<=s'.pos
 good:∀i',s'=.g i'->∃i,s=.g i/\i<i'/\n=m/\(wt n:Int)+8192+16384*(i:Int)<=16384*(i':Int)/\zJ n=wv n/\(v=true->i'=i+1->(n.ah==4)=(kd ts i==2))
 dm:∀j,s'=.d j->(∃i,s=.g i)/\s.pos<j/\1<=D/\(D=1->zJ m=false)
structure RL (ts:List ai) (a:List ae) (s s':JS) (l m:List ae):Prop where
 ok:s'.Ok ts
 nd:s'.nd=true
 le:s.pos<=s'.pos
 len:l.length+s.pos<=a.length+s'.pos+1
 lem:m.length+s.pos<=s'.pos+1
 good:∀i',s'=.g i'->∃i,s=.g i/\i+1<i'/\l=a++m/\(wl m:Int)+16384*(i:Int)+16384<=16384*(i':Int)
theorem okp {s:JS} (h:s.Ok ts):s.pos<=ts.length:=by
 cases s with
 | g i=>exact h
 | b i=>exact h
 | d i=>exact aRL h.1
theorem gq (s:JS) (w:av):s.pos<=(wS ts s w).pos:=by
 cases s with
 | g i=>
  rw[DP];cases tw ts i w with
  | true=>exact aSd i
  | false=>exact Of i
 | b i=>exact Of i
 | d i=>exact Of i
theorem my (s:JS) (k:Int):s.pos<=(nS ts s k).pos:=by
 cases s with
 | g i=>
  rw[Lj];cases vu ts k i with
  | true=>exact aSd i
  | false=>exact Of i
 | b i=>exact Of i
 | d i=>exact Of i
theorem ft {s:JS} {w:av} {k:Nat} (h:wS ts s w=.g k):∃i,s=.g i/\k=i+1/\tw ts i w=true:=by
 cases s with
 | g i=>
  rw[DP]at h;cases a:tw ts i w with
  | true=>rw[a]at h;cases h;exact⟨i,rfl,rfl,a⟩
  | false=>rw[a]at h;cases h
 | b i=>cases h
 | d i=>cases h
theorem lM {s:JS} {c:Int} {k:Nat} (h:nS ts s c=.g k):∃i,s=.g i/\k=i+1/\vu ts c i=true:=by
 cases s with
 | g i=>
  rw[Lj]at h;cases a:vu ts c i with
  | true=>rw[a]at h;cases h;exact⟨i,rfl,rfl,a⟩
  | false=>rw[a]at h;cases h
 | b i=>cases h
 | d i=>cases h
theorem sw (s:JS):(ND s).pos=s.pos:=by cases s<;>rfl
theorem DQ (s:JS):(ND s).nd=true:=by cases s<;>rfl
theorem Bl {s:JS} (h:s.Ok ts):(ND s).Ok ts:=by
 cases s with
 | g i=>exact h
 | b i=>exact h
 | d i=>exact aRL h.1
theorem Lk {s:JS} {k:Nat} (h:ND s=.g k):False:=by cases s<;>cases h
theorem ajO {s:JS}:∃j,ND s=.b j:=by cases s<;>exact⟨_,rfl⟩
theorem DS (s:JS):((qS ts e' (ND s)).ax=true)=True:=by
 obtain⟨j,h⟩:=@ajO s;rw[h,jq]
theorem Aa {s:JS} (hd:s.nd=true):(∃i,s=.g i)\/∃j,s=.b j:=by
 cases s with
 | g i=>exact .inl ⟨i,rfl⟩
 | b j=>exact .inr ⟨j,rfl⟩
 | d j=>cases hd
def S5 (x:Option (((List ai)×Int×Int×Int×(List ae)) ⊕ ((List ae)×aP))) (l:List ae) (p:aP):Prop:=x=some (.inr (l,p))\/x=some (.inl (p.fT,p.fI,p.ay,p.ax,l))
def I5 (x:Option (((List ai)×Int×Int×Bool×(List ae)) ⊕ ((List ae)×ak))) (l:List ae) (p:ak):Prop:=x=some (.inr (l,p))\/x=some (.inl (p.aq,p.bF,p.ay,p.ax,l))
theorem S5.run {x:Option (((List ai)×Int×Int×Int×(List ae)) ⊕ ((List ae)×aP))} {l:List ae} {p:aP} (h:S5 x l p):(x>>=λo=>match o with
  | .inr r=>some r
  | .inl (a,b,c,d,yz)=>some (yz,(aP.mk a b c d)))=some (l,p):=by
 rcases h with h | h<;>rw[h]<;>rfl
theorem I5.run {x:Option (((List ai)×Int×Int×Bool×(List ae)) ⊕ ((List ae)×ak))} {l:List ae} {p:ak} (h:I5 x l p):(x>>=λo=>match o with
  | .inr r=>some r
  | .inl (a,b,c,d,yz)=>some (yz,(ak.mk a b c d)))=some (l,p):=by
 rcases h with h | h<;>rw[h]<;>rfl
theorem fq {l:List ae} (x:ae) (h:l.length<=20000):cD 56 l [x]=some (l++[x]):=iz aUQ
theorem DT (H:Tk ts e) (k:Int):∀(N:Nat) (i:Nat) (l m:List ae),ts.length - i<N->i<=ts.length->l.length<=10000->m.length<=10000->l.length+ts.length<=10000+i->m.length+ts.length<=10000+i->
  ∃s' x,S5 (bu k (pS ts e (.g i)).fT (pS ts e (.g i)).fI (pS ts e (.g i)).ay (pS ts e (.g i)).ax l) (l++x) (pS ts e s')/\
   I5 (cz k (qS ts e' (.g i)).aq (qS ts e' (.g i)).bF (qS ts e' (.g i)).ay (qS ts e' (.g i)).ax m) (m++x) (qS ts e' s')/\
   s'.Ok ts/\s'.nd=true/\i<=s'.pos/\x.length+i<=s'.pos+1/\(∀o,s'=.g o->i<o/\(wl x:Int)+16384*(i:Int)<=16384*(o:Int))
 | 0,i,l,m,h,_,_,_,_,_=>by omega
 | N+1,i,l,m,M,hi,O,hm,P,C=>by
  have hL:=H.len;have r:(JS.g i).Ok ts:=hi
  obtain⟨a,num,u,v,I4,w,D,e2⟩:∃(a:JS) (num:Int),a.Ok ts/\a.nd=true/\i<=a.pos/\(∃b,a=.g b/\i<=b)/\
    (az (pS ts e (.g i)) [38]>>=λ(E,j)=>(if E=true then some (j.fT,j.fI,j.ay,j.ax,(1:Int))else some (j.fT,j.fI,j.ay,j.ax,0)))=some ((pS ts e a).fT,(pS ts e a).fI,(pS ts e a).ay,(pS ts e a).ax,num)/\
    (ar (qS ts e' (.g i)) [38]>>=λ(y,n)=>(if y=true then some (n.aq,n.bF,n.ay,n.ax,(1:Int))else some (n.aq,n.bF,n.ay,n.ax,0)))=some ((qS ts e' a).aq,(qS ts e' a).bF,(qS ts e' a).ay,(qS ts e' a).ax,num):=by
   rcases I6 (ts:=ts) (.g i) [38]with h | ⟨b,h1,h⟩
   ·exact⟨.g i,0,hi,rfl,Of _,⟨i,rfl,Of _⟩,by rw[aZ H r h];rfl,by rw[aF H r h];rfl⟩
   ·cases h1;exact⟨.g (i+1),1,cd h,rfl,aSd _,⟨i+1,rfl,aSd _⟩,by rw[ck H h];rfl,by rw[bL H h];rfl⟩
  obtain⟨b,rfl,Q⟩:=w;have p:(nS ts (.g b) 2).Ok ts:=qY u aUF;have F:=@tI ts (.g b) 2;have R:b<=(nS ts (.g b) 2).pos:=my (.g b) 2;have hx:=jr H (.g b) 2;generalize d:nS ts (.g b) 2=s2 at*;generalize s:nT ts (.g b) 2=t at*
  have eS:bu k (pS ts e (.g i)).fT (pS ts e (.g i)).fI (pS ts e (.g i)).ay (pS ts e (.g i)).ax l=
    (az (pS ts e s2) [44]>>=λ(q,f)=>(if q=true then bu k f.fT f.fI f.ay f.ax (l++[.mk k num t []])else aQ f [41]>>=λG=>some (.inr (l++[.mk k num t []],G)))):=by
   rw[bu];simp only[kg,aRj,jm,D,sb,nu H _ u 2,s,d];rw[fq _ aUE,sb]
  have eI:cz k (qS ts e' (.g i)).aq (qS ts e' (.g i)).bF (qS ts e' (.g i)).ay (qS ts e' (.g i)).ax m=
    (ar (qS ts e' s2) [41]>>=λ(z,A)=>(if z=true then some (.inr (m++[.mk k num t []],A))else aO A [44]>>=λq=>cz k q.aq q.bF q.ay q.ax (m++[.mk k num t []]))):=by
   rw[cz];simp only[jo,aRc,du,e2,sb,nM H _ u v 2 (.inl rfl),s,d];rw[fq _ aUE,sb]
  rw[eS,eI];have I:wl [ae.mk k num t []]<=4001:=by rw[cy,fD,ep];omega
  have B:∀c,s2=.g c->b<c:=λc h=>by
   rw[<-d]at h;obtain⟨i0,h1,h2,_⟩:=lM h;cases h1;omega
  rcases I6 (ts:=ts) s2 [44]with h | ⟨c,rfl,h⟩
  ·rw[aZ H p h,sb];simp only[atX,aRc];rw[dW H _ p [41],sb];rcases I6 (ts:=ts) s2 [41]with h2 | ⟨c,rfl,h2⟩
   ·rw[aF H p h2,sb];simp only[atX,aRc];rw[eY H _ p [44],sb,kD h,kD h2];refine⟨ND s2,[.mk k num t []],.inl rfl,.inr ?_,Bl p,DQ _,by rw[sw];omega,?_,λo h=>(Lk h).elim⟩
    ·rw[cz];simp only[DS,aRj]
    ·rw[sw];simp only[so,An];omega
   ·have:=B c rfl;simp only[bL H h2,sb,aRj,DP,h2,aRY];refine⟨.g (c+1),[.mk k num t []],.inl rfl,.inl rfl,cd h2,rfl,by show i<=c+1;omega,?_,λo h=>?_⟩
    ·simp only[so,An];show 0+1+i<=c+1+1;omega
    ·cases h;omega
  ·have:=B c rfl;have S:=cd h;simp only[ck H h,aF H p (show tS ts (.g c) [41]=false from dK h aUF),sb,aRj,atX,aRc,eY H _ p [44],DP,h,aRY];obtain⟨s',x,h1,h2,J,K,T,U,L⟩:=DT H k N (c+1) (l++[.mk k num t []]) (m++[.mk k num t []]) aUE aUE aUO aUO aUO aUO;rw[aRm]at h1 h2;refine⟨s',_,h1,h2,J,K,by omega,?_,λo h=>?_⟩
   ·simp only[It,so,An];omega
   ·obtain⟨q1,V⟩:=L o h;rw[fO];omega
theorem Bm (H:Tk ts e) (k:Int) (B:k=24\/k=25) (a:List ae) (D:a.length<=5000) (s:JS) (hs:s.Ok ts) (hd:s.nd=true) (hu:k=25->∀i,s=.g i->tw ts i [40]=true->tw ts (i+1) [41]=false):
  ∃s' l m,de (pS ts e s) k a=some (l,pS ts e s')/\gf (qS ts e' s) k=some (m,qS ts e' s')/\RL ts a s s' l m:=by
 have hL:=H.len;have d:=kE hs [40];have I4:=gq (ts:=ts) s [40];have t:=mH (ts:=ts) s [40];unfold de gf;rw[dW H s hs [40],sb,eY H s hs [40],sb]
 have go:∀c:JS,c=wS ts s [40]->tS ts c [41]=false->∃s' l m,
   ((bu k (pS ts e c).fT (pS ts e c).fI (pS ts e c).ay (pS ts e c).ax a)>>=λf=>match f with
    | .inr r=>some r
    | .inl (n,u,v,w,yz)=>some (yz,(aP.mk n u v w)))=some (l,pS ts e s')/\
   ((cz k (qS ts e' c).aq (qS ts e' c).bF (qS ts e' c).ay (qS ts e' c).ax [])>>=λf=>match f with
    | .inr r=>some r
    | .inl (n,u,v,w,yz)=>some (yz,(ak.mk n u v w)))=some (m,qS ts e' s')/\RL ts a s s' l m:=by
  intro c h1 hf;subst h1;rcases Aa t with⟨i,hi⟩ | ⟨j,hj⟩
  ·obtain⟨i0,h0,o,p⟩:=ft hi;subst h0;subst o;rw[hi]at d ⊢;have d:i0+1<=ts.length:=d;obtain⟨s',x,h1,h2,y,C,E,F,z⟩:=DT (e':=e') H k _ (i0+1) a [] (aRh _) d aUE aUG aUE aUP;refine⟨s',_,_,h1.run,h2.run,y,C,by show i0<=_;omega,?_,?_,λq A=>⟨i0,rfl,?_,rfl,?_⟩⟩
   ·simp only[It];show _+i0<=_;omega
   ·simp only[aRe];show _+i0<=_;omega
   ·have:=(z q A).1;omega
   ·have:=(z q A).2;simp only[aRe];omega
  ·rw[hj]at d I4 ⊢;refine⟨.b j,a,[],?_,?_,d,rfl,I4,?_,?_,λq h=>by cases h⟩
   ·rw[bu];simp only[qh H,aRc,sb,jm]
   ·rw[cz];simp only[jq,aRj,sb,du]
   ·have:s.pos<=j:=I4;show a.length+s.pos<=a.length+j+1;omega
   ·have:s.pos<=j:=I4;show 0+s.pos<=j+1;omega
 rcases I6 (ts:=ts) (wS ts s [40]) [41]with h | ⟨i,hi,h⟩
 ·obtain⟨s',l,m,h1,h2,y⟩:=go _ rfl h;refine⟨s',l,m,?_,?_,y⟩
  ·rw[<-h1];split
   ·rw[aZ H d h,sb];rfl
   ·rfl
  ·rw[<-h2,aF H d h,sb];rfl
 ·obtain⟨i0,h0,o,p⟩:=ft hi;subst h0;subst o;rcases B with rfl | rfl
  ·rw[At rfl,hi];simp only[ck H h,bL H h,sb,aRj];refine⟨.g (i0+1+1),a,[],rfl,rfl,cd h,rfl,by show i0<=i0+1+1;omega,?_,?_,λq h=>?_⟩
   ·show a.length+i0<=a.length+(i0+1+1)+1;omega
   ·show 0+i0<=i0+1+1+1;omega
   ·cases h;exact⟨i0,rfl,by omega,by simp,by rw[ep];omega⟩
  ·have:=hu rfl i0 rfl p;rw[this]at h;cases h
end
def C1 (ts:List ai) (e e':Int) (v:Bool) (D:Nat) (s:JS) (fs:aP->Option (ae×aP)) (a:ak->Option (ae×ak)):Prop:=
 ∃s' n m,fs (pS ts e s)=some (n,pS ts e s')/\a (qS ts e' s)=some (m,qS ts e' s')/\Rs ts v D s s' n m
def awY (a:Nat) (q:ak):Option (ae×ak):=match a with
 | 4=>ff q
 | 5=>dT q
 | n=>bA q n
structure PC (ts:List ai) (e e':Int) (s:JS):Prop where
 awZ:C1 ts e e' true 0 s aH aK
 chain:∀u:Bool,C1 ts e e' true 1 s (λp=>dM p u) (λq=>cm q (!u))
 un:C1 ts e e' true 1 s dy cH
 bin:∀lv:Nat,4<=lv->lv<=11->C1 ts e e' true 1 s (λp=>bI p lv) (awY lv)
 O9:C1 ts e e' true 1 s cW cp
 cond:C1 ts e e' true 1 s eP dE
 expr:C1 ts e e' false 2 s aY bb
 list:C1 ts e e' false 0 s gW gX
 args:∀a:List ae,a.length<=100->∃s' l m,dx (pS ts e s) a=some (l,pS ts e s')/\df (qS ts e' s)=some (m,qS ts e' s')/\RL ts a s s' l m
 block:C1 ts e e' false 0 s bJ bC
 stmt:C1 ts e e' false 0 s bf aV
section
variable {ts:List ai}{e e':Int}
theorem Rs.bad {v:Bool} {D:Nat} {j:Nat} {n m:ae} (hj:j<=ts.length):Rs ts v D (.b j) (.b j) n m:=⟨hj,Of _,λi h=>aUZ,λi h=>aUZ⟩
theorem C1.bad {v:Bool} {D:Nat} {j:Nat} {fs:aP->Option (ae×aP)} {a:ak->Option (ae×ak)} (hj:j<=ts.length) (n m:ae) (h1:fs (pS ts e (.b j))=some (n,pS ts e (.b j))) (h2:a (qS ts e' (.b j))=some (m,qS ts e' (.b j))):C1 ts e e' v D (.b j) fs a:=
 ⟨_,n,m,h1,h2,Rs.bad hj⟩
section
variable {j:Nat}(H:Tk ts e)(hj:(JS.b j).Ok ts)
include H hj
theorem YV:∃n,aH (pS ts e (.b j))=some (n,pS ts e (.b j)):=by
 rw[aH,At (show(pS ts e (.b j)).fI>=((pS ts e (.b j)).fT.length:Int)from Int.le_refl _),qZ H _ hj,sb];exact aUj
theorem YW:∃n,aK (qS ts e' (.b j))=some (n,qS ts e' (.b j)):=by
 rw[aK,qi H _ hj,sb];exact aUj
theorem RT (u:Bool):∃n,dM (pS ts e (.b j)) u=some (n,pS ts e (.b j)):=by
 obtain⟨n,h⟩:=YV H hj;rw[dM,h,sb];dsimp only;rw[aW];simp only[qh H,aRc,sb,jm];exact aUj
theorem RU (u:Bool):∃n,cm (qS ts e' (.b j)) u=some (n,qS ts e' (.b j)):=by
 obtain⟨n,h⟩:=YW (e':=e') H hj;rw[cm,h,sb];dsimp only;rw[aJ];simp only[jq,aRj,sb,du];exact aUj
theorem aw0:∃n,dy (pS ts e (.b j))=some (n,pS ts e (.b j)):=by
 obtain⟨n,h⟩:=RT H hj true;rw[dy];simp only[aZ H hj (w:=[33]) rfl,aZ H hj (w:=[45]) rfl,sb,atX,aRc];rw[iZ,h];exact aUj
theorem aw1:∃n,cH (qS ts e' (.b j))=some (n,qS ts e' (.b j)):=by
 obtain⟨n,h⟩:=RU (e':=e') H hj false;rw[cH];simp only[aF (e':=e') H hj (w:=[33]) rfl,aF (e':=e') H hj (w:=[45]) rfl,sb,atX,aRc];rw[h];exact aUj
theorem YX:∀k a:Nat,a+k=11->∃n,bI (pS ts e (.b j)) a=some (n,pS ts e (.b j))
 | 0,a,h=>by
  obtain rfl:a=11:=h;obtain⟨n,h⟩:=aw0 H hj;rw[bI,At (show((11:Nat):Int)=11 from rfl),h];exact aUj
 | k+1,a,h=>by
  obtain⟨n,h1⟩:=YX k (a+1) aUE;rw[bI,As aUE,ca aUE,h1,sb];dsimp only;rw[aG,As (show ¬(pS ts e (.b j)).fI<((pS ts e (.b j)).fT.length:Int) fromλh=>by have h:(ts.length:Int)<ts.length:=h;omega)];exact aUj
theorem YY:∀k a:Nat,a+k=11->∃n,bA (qS ts e' (.b j)) a=some (n,qS ts e' (.b j))
 | 0,a,h=>by
  obtain rfl:a=11:=h;obtain⟨n,h⟩:=aw1 (e':=e') H hj;rw[bA,At aUF,h];exact aUj
 | k+1,a,h=>by
  obtain⟨n,h1⟩:=YY k (a+1) aUE;rw[bA,As aUE,ca aUE,h1,sb];dsimp only;rw[bP];simp only[jq,aRj,sb,du];exact aUj
theorem aw2:∃n,dT (qS ts e' (.b j))=some (n,qS ts e' (.b j)):=by
 obtain⟨n,h⟩:=YY (e':=e') H hj 5 6 rfl;have h:bA (qS ts e' (.b j)) 6=some (n,qS ts e' (.b j)):=h;rw[dT,h,sb];dsimp only;rw[cj];simp only[du,aF (e':=e') H hj (w:=[38,38]) rfl,sb,atX,aRc];exact aUj
theorem bOr:∃n,ff (qS ts e' (.b j))=some (n,qS ts e' (.b j)):=by
 obtain⟨n,h⟩:=aw2 (e':=e') H hj;rw[ff,h,sb];dsimp only;rw[cw];simp only[du,aF (e':=e') H hj (w:=[124,124]) rfl,sb,atX,aRc];exact aUj
theorem YZ:∃n,cW (pS ts e (.b j))=some (n,pS ts e (.b j)):=by
 obtain⟨n,h⟩:=YX H hj 7 4 rfl;have h:bI (pS ts e (.b j)) 4=some (n,pS ts e (.b j)):=h;rw[cW,h,sb];simp only[aZ H hj (w:=[63,63]) rfl,sb,atX,aRc];exact aUj
theorem Y0:∃n,cp (qS ts e' (.b j))=some (n,qS ts e' (.b j)):=by
 obtain⟨n,h⟩:=bOr (e':=e') H hj;rw[cp,h,sb];simp only[aF (e':=e') H hj (w:=[63,63]) rfl,sb,atX,aRc];exact aUj
theorem Y1:∃n,eP (pS ts e (.b j))=some (n,pS ts e (.b j)):=by
 obtain⟨n,h⟩:=YZ H hj;rw[eP,h,sb];simp only[aZ H hj (w:=[63]) rfl,sb,atX,aRc];exact aUj
theorem Y2:∃n,dE (qS ts e' (.b j))=some (n,qS ts e' (.b j)):=by
 obtain⟨n,h⟩:=Y0 (e':=e') H hj;rw[dE,h,sb];simp only[aF (e':=e') H hj (w:=[63]) rfl,sb,atX,aRc];exact aUj
theorem Pa:∃n,aY (pS ts e (.b j))=some (n,pS ts e (.b j)):=by
 obtain⟨n,h⟩:=Y1 H hj;rw[aY,h,sb];simp only[dz H _ hj 6 [61] aUF,sb,show aS ts (.b j) 0 6 [61]=false from rfl,atX,aRc];exact aUj
theorem aom:∃n,bb (qS ts e' (.b j))=some (n,qS ts e' (.b j)):=by
 obtain⟨n,h⟩:=Y2 (e':=e') H hj;rw[bb,h,sb];simp only[jq,aRj];exact aUj
theorem aon:∃n,gW (pS ts e (.b j))=some (n,pS ts e (.b j)):=by
 rw[gW];simp only[aZ H hj (w:=[93]) rfl,sb,atX,aRc];rw[dF];simp only[qh H,aRc,sb,jm];exact aUj
theorem aoo:∃n,gX (qS ts e' (.b j))=some (n,qS ts e' (.b j)):=by
 rw[gX];simp only[aF (e':=e') H hj (w:=[93]) rfl,sb,atX,aRc];rw[dh];simp only[jq,aRj,sb,du];exact aUj
theorem Y3 (a:List ae):dx (pS ts e (.b j)) a=some (a,pS ts e (.b j)):=by
 rw[dx];simp only[dW H _ hj [40],show wS ts (.b j) [40]=.b j from rfl,aZ H hj (w:=[41]) rfl,sb,atX,aRc];rw[di];simp only[qh H,aRc,sb,jm]
theorem I7:df (qS ts e' (.b j))=some ([],qS ts e' (.b j)):=by
 rw[df];simp only[eY (e':=e') H _ hj [40],show wS ts (.b j) [40]=.b j from rfl,aF (e':=e') H hj (w:=[41]) rfl,sb,atX,aRc];rw[cZ];simp only[jq,aRj,sb,du]
theorem RV:∃n,bJ (pS ts e (.b j))=some (n,pS ts e (.b j)):=by
 rw[bJ];simp only[dW H _ hj [123],show wS ts (.b j) [123]=.b j from rfl,sb];rw[cJ];simp only[qh H,aRc,sb,jm];exact aUj
theorem aes:∃n,bC (qS ts e' (.b j))=some (n,qS ts e' (.b j)):=by
 rw[bC];simp only[eY (e':=e') H _ hj [123],show wS ts (.b j) [123]=.b j from rfl,sb];rw[cK];simp only[jq,aRj,sb,du];exact aUj
theorem aop:∃n,bf (pS ts e (.b j))=some (n,pS ts e (.b j)):=by
 obtain⟨n,h⟩:=Pa H hj;have c:∀w:av,w≠[]->az (pS ts e (.b j)) w=some (false,pS ts e (.b j)):=λw hw=>aZ H hj rfl hw;refine⟨.mk 33 0 [] [n],?_⟩;rw[bf];refine bm (dz H _ hj 1 [] aUF) ?_;refine bm (dz H _ hj 6 [123] aUF) ?_;refine bm (c [105,102] aUF) ?_;refine bm (c [119,104,105,108,101] aUF) ?_;refine bm (c [102,111,114,101,97,99,104] aUF) ?_;refine bm (c [116,114,121] aUF) ?_;refine bm (c [101,99,104,111] aUF) ?_;refine bm (c [98,114,101,97,107] aUF) ?_;refine bm (c [99,111,110,116,105,110,117,101] aUF) ?_;refine bm (c [114,101,116,117,114,110] aUF) ?_;refine bm (c [103,108,111,98,97,108] aUF) ?_;refine bm (c [117,110,115,101,116] aUF) ?_;refine bm (c [116,104,114,111,119] aUF) ?_;refine bm (c [121,105,101,108,100] aUF) ?_;refine(gA (a:=((pS ts e (.b j)).fT,(pS ts e (.b j)).fI,(pS ts e (.b j)).ay,(pS ts e (.b j)).ax,false)) ?_).trans ?_
 ·refine bm (dz H _ hj 2 [] aUF) ?_;rfl
 refine cf are ?_;refine bm (c [105,110,99,108,117,100,101] aUF) ?_;refine a7 h ?_;refine a7 (dW H _ hj [59]) ?_;rfl
theorem aoq:∃n,aV (qS ts e' (.b j))=some (n,qS ts e' (.b j)):=by
 rw[aV];simp only[qi (e':=e') H _ hj,sb,jq,aRj];exact aUj
theorem Y4:PC ts e e' (.b j):=by
 have c:j<=ts.length:=hj;refine⟨?_,λu=>?_,?_,λd f g=>?_,?_,?_,?_,?_,λa l=>?_,?_,?_⟩
 ·obtain⟨n,h⟩:=YV H hj;obtain⟨m,h2⟩:=YW (e':=e') H hj;exact C1.bad c n m h h2
 ·obtain⟨n,h⟩:=RT H hj u;obtain⟨m,h2⟩:=RU (e':=e') H hj (!u);exact C1.bad c n m h h2
 ·obtain⟨n,h⟩:=aw0 H hj;obtain⟨m,h2⟩:=aw1 (e':=e') H hj;exact C1.bad c n m h h2
 ·obtain⟨n,h⟩:=YX H hj (11 - d) d aUE
  match d,f with
  | 4,_=>obtain⟨m,h2⟩:=bOr (e':=e') H hj;exact C1.bad c n m h h2
  | 5,_=>obtain⟨m,h2⟩:=aw2 (e':=e') H hj;exact C1.bad c n m h h2
  | k+6,_=>obtain⟨m,h2⟩:=YY (e':=e') H hj (11 - (k+6)) (k+6) aUE;exact C1.bad c n m h h2
 ·obtain⟨n,h⟩:=YZ H hj;obtain⟨m,h2⟩:=Y0 (e':=e') H hj;exact C1.bad c n m h h2
 ·obtain⟨n,h⟩:=Y1 H hj;obtain⟨m,h2⟩:=Y2 (e':=e') H hj;exact C1.bad c n m h h2
 ·obtain⟨n,h⟩:=Pa H hj;obtain⟨m,h2⟩:=aom (e':=e') H hj;exact C1.bad c n m h h2
 ·obtain⟨n,h⟩:=aon H hj;obtain⟨m,h2⟩:=aoo (e':=e') H hj;exact C1.bad c n m h h2
 ·exact⟨_,_,_,Y3 H hj a,I7 H hj,c,rfl,Of _,by omega,by show 0+j<=j+1;omega,λi h=>by cases h⟩
 ·obtain⟨n,h⟩:=RV H hj;obtain⟨m,h2⟩:=aes (e':=e') H hj;exact C1.bad c n m h h2
 ·obtain⟨n,h⟩:=aop H hj;obtain⟨m,h2⟩:=aoq (e':=e') H hj;exact C1.bad c n m h h2
end
end
theorem ra {k m:Int} {t:av} {l:List ae} (h:k≠7):zJ (.mk k m t l)=wv (.mk k m t l):=by
 unfold zJ wv;rw[As (λhh=>h hh.1),As (λhh=>h hh.1)]
theorem DV {k m:Int} {t:av} {l:List ae} (a:k≠7) (b:k≠4) (c:k≠8):zJ (.mk k m t l)=false:=by
 unfold zJ;rw[As (λhh=>a hh.1),an.2 b,an.2 c];rfl
theorem aor {m:Int} {t:av} {a b:ae}:zJ (.mk 7 m t [a,b])=zJ a:=by
 unfold zJ;rw[At ⟨rfl,by simp⟩];cases a;rfl
theorem aos {m:Int} {t:av} {a b:ae}:wv (.mk 7 m t [a,b])=wv a:=by
 unfold wv;rw[At ⟨rfl,by simp⟩];cases a;rfl
theorem sx {a b:av} (h:a.length+b.length<=100000):bx a b=some (a++b):=At aUE
section
variable {ts:List ai}{e e':Int}
theorem aw3 {i:Nat} {w:av} (h:tw ts i w=true):wS ts (.g i) w=.g (i+1):=by rw[DP,h];rfl
theorem aot {i:Nat} {w:av} (h:tw ts i w=false):wS ts (.g i) w=.b i:=by rw[DP,h];rfl
theorem I8 {i:Nat} {k:Int} (h:vu ts k i=true):nS ts (.g i) k=.g (i+1):=by rw[Lj,h];rfl
theorem Y6 {i:Nat} {k:Int} (h:vu ts k i=false):nS ts (.g i) k=.b i:=by rw[Lj,h];rfl
theorem Ja {i:Nat} {k:Int} (h:vu ts k i=true):nT ts (.g i) k=tx ts i:=by rw[Y7,h];rfl
theorem aet {i:Nat} {k:Int} (h:vu ts k i=false):nT ts (.g i) k=[]:=by rw[Y7,h];rfl
theorem tb (H:Tk ts e) {i:Nat} {w:av} (h:tw ts i w=true) (hw:w≠[]:=by decide):aQ (pS ts e (.g i)) w=some (pS ts e (.g (i+1))):=by
 rw[dW H (.g i) (aRL (cd h)) w hw,aw3 h]
theorem DW (H:Tk ts e) {i:Nat} {w:av} (h:tw ts i w=true):aO (qS ts e' (.g i)) w=some (qS ts e' (.g (i+1))):=by
 rw[eY H (.g i) (aRL (cd h)) w (.inr rfl),aw3 h]
theorem DX (H:Tk ts e) {i:Nat} (hi:i<=ts.length) {k:Int} (h:vu ts k i=false) (a:k≠0:=by decide):bT (pS ts e (.g i)) k=some ([],pS ts e (.b i)):=by
 rw[nu H (.g i) hi k a,aet h,Y6 h]
theorem Pb (H:Tk ts e) {i:Nat} (hi:i<=ts.length) {k:Int} (h:vu ts k i=false) (a:k=2\/k=3):bE (qS ts e' (.g i)) k=some ([],qS ts e' (.b i)):=by
 rw[nM H (.g i) hi rfl k a,aet h,Y6 h]
structure Lt (ts:List ai) (i:Nat) (s:JS):Prop where
 ok:s.Ok ts
 nd:s.nd=true
 lt:∀k,s=.g k->i<k
theorem Lt.w {i:Nat} {s:JS} (hs:s.Ok ts) (hp:i<=s.pos) (w:av):Lt ts i (wS ts s w):=
 ⟨kE hs w,mH s w,λk h=>by obtain⟨a,rfl,rfl,_⟩:=ft h;have:i<=a:=hp;omega⟩
theorem Lt.n {i:Nat} {s:JS} (hs:s.Ok ts) (hp:i<=s.pos) {c:Int} (hc:c≠0):Lt ts i (nS ts s c):=
 ⟨qY hs hc,tI s c,λk h=>by obtain⟨a,rfl,rfl,_⟩:=lM h;have:i<=a:=hp;omega⟩
theorem Lt.g {i k:Nat} (h:i<k) (a:k<=ts.length):Lt ts i (.g k):=⟨a,rfl,λb h'=>by cases h';exact h⟩
theorem Lt.b {i j:Nat} (hj:j<=ts.length):Lt ts i (.b j):=⟨hj,rfl,λa h'=>by cases h'⟩
theorem Lt.r {i:Nat} {s s':JS} {a l m:List ae} (h:RL ts a s s' l m) (b:∀k,s=.g k->i<=k):Lt ts i s':=⟨h.ok,h.nd,λk c=>by obtain⟨d,h1,h2,_⟩:=h.good k c;have:=b _ h1;omega⟩
theorem Lt.rs {i:Nat} {v:Bool} {s s':JS} {n m:ae} (h:Rs ts v 0 s s' n m) (a:∀k,s=.g k->i<=k):Lt ts i s':=⟨h.ok,by
 cases s' with
 | d j=>have:=(h.dm j rfl).2.2.1;omega
 | _=>rfl,λk b=>by obtain⟨c,h1,h2,_⟩:=h.good k b;have:=a _ h1;omega⟩
theorem Lt.fl {i:Nat} {s:JS} (hs:s.Ok ts):Lt ts i (ND s):=⟨Bl hs,DQ s,λk h=>(Lk h).elim⟩
theorem Rs.leaf {v:Bool} {D i:Nat} {k m:Int} {t:av} (a:k≠7) (hi:i<ts.length) (b:t.length<=4000) (hv:(k==4)=(kd ts i==2)):Rs ts v D (.g i) (.g (i+1)) (.mk k m t []) (.mk k m t []):=
 ⟨hi,aSd i,λc h=>by cases h;exact⟨i,rfl,aRh i,rfl,by rw[fD,ep];omega,ra a,λ_ _=>hv⟩,λj h=>by cases h⟩
theorem Rs.up {v c:Bool} {D i a:Nat} {s':JS} {n m:ae} (h:Rs ts v D (.g a) s' n m) (hi:i<a):Rs ts c D (.g i) s' n m:=
 ⟨h.ok,by have:a<=s'.pos:=h.le;show i<=s'.pos;omega,λd h'=>by
  obtain⟨o,h1,h2,e,p,f,q⟩:=h.good d h';cases h1;exact⟨i,rfl,by omega,e,by omega,f,λ_ hh=>by omega⟩,λj hj=>by
  obtain⟨_,b,k,l⟩:=h.dm j hj;have b:a<j:=b;exact⟨⟨i,rfl⟩,by show i<j;omega,k,l⟩⟩
theorem Rs.want {v b:Bool} {D c i a:Nat} {s':JS} {n m:ae} (h:Rs ts v D (.g a) s' n m) (hi:i<a) (w:av):Rs ts b c (.g i) (wS ts s' w) n m:=
 ⟨kE h.ok w,by have:a<=s'.pos:=h.le;have:=gq (ts:=ts) s' w;show i<=_;omega,λk h'=>by
  obtain⟨d,h1,h2,_⟩:=ft h';obtain⟨l,q1,o,e,p,f,q⟩:=h.good d h1;cases q1;exact⟨i,rfl,by omega,e,by omega,f,λ_ hh=>by omega⟩,λj hj=>by
  have:=mH (ts:=ts) s' w;rw[hj]at this;cases this⟩
theorem Rs.node {v:Bool} {D i:Nat} {s':JS} {k m:Int} {t c:av} {l d:List ae} (e:k≠7) (f:s'.Ok ts) (a:s'.nd=true) (hle:i<=s'.pos)
  (hg:∀b,s'=.g b->i+1<b/\t=c/\l=d/\(t.length:Int)+(wl l:Int)+8192+16384*(i:Int)<=16384*(b:Int)):Rs ts v D (.g i) s' (.mk k m t l) (.mk k m c d):=
 ⟨f,hle,λb h=>by
  obtain⟨h1,rfl,rfl,h2⟩:=hg b h;exact⟨i,rfl,by omega,rfl,by rw[fD];omega,ra e,λ_ hh=>by omega⟩,λj hj=>by rw[hj]at a;cases a⟩
theorem wQ {i:Nat} (a:kd ts i≠6) (b:kd ts i≠3) (w:av):tw ts i w=false:=by
 unfold tw;rw[an.2 a,an.2 b];rfl
theorem lB {i:Nat} {w:av} (h:tw ts i w=true):kd ts i≠4/\kd ts i≠5/\kd ts i≠2/\kd ts i≠1:=by have:=(G2 h).1;omega
def kx (ts:List ai) (i:Nat):Bool:=kd ts i==4||(kd ts i==5||(tw ts i [116,114,117,101]||(tw ts i [102,97,108,115,101]||tw ts i [110,117,108,108])))
theorem uK (H:Tk ts e) {i:Nat} (hi:i<=ts.length):((if(tok ts i).ah=4 then
 some ((qS ts e' (.g i)).aq,(qS ts e' (.g i)).bF,(qS ts e' (.g i)).ay,(qS ts e' (.g i)).ax,true)
 else
 (if(tok ts i).ah=5 then
 some ((qS ts e' (.g i)).aq,(qS ts e' (.g i)).bF,(qS ts e' (.g i)).ay,(qS ts e' (.g i)).ax,true)
 else
 ba (qS ts e' (.g i)) 0 [116,114,117,101]>>=λ(h,a)=>
 (if h=true then
 some (a.aq,a.bF,a.ay,a.ax,true)
 else
 ba a 0 [102,97,108,115,101]>>=λ(k,b)=>
 (if k=true then
 some (b.aq,b.bF,b.ay,b.ax,true)
 else
 ba b 0 [110,117,108,108]>>=λ(j,d)=>
 some (d.aq,d.bF,d.ay,d.ax,j))))):Option ((List ai)×Int×Int×Bool×Bool))=
  some ((qS ts e' (.g i)).aq,(qS ts e' (.g i)).bF,(qS ts e' (.g i)).ay,(qS ts e' (.g i)).ax,kx ts i):=by
 have hs:(JS.g i).Ok ts:=hi;have is:=λw=>fF (e':=e') H _ hs w;have is:∀w,ba (qS ts e' (.g i)) 0 w=some (tw ts i w,qS ts e' (.g i)):=is;unfold kx kd;by_cases c:(tok ts i).ah=4
 ·rw[At c,c];rfl
 by_cases f:(tok ts i).ah=5
 ·rw[As c,At f,f];rfl
 rw[As c,As f,an.2 c,an.2 f,aRy,aRy];cases h1:tw ts i [116,114,117,101]with
 | true=>refine dC ((is _).trans aVt) ?_;rfl
 | false=>
  refine bm ((is _).trans aVt) ?_;cases h2:tw ts i [102,97,108,115,101]with
  | true=>refine dC ((is _).trans (by rw[h2])) ?_;rfl
  | false=>
   refine bm ((is _).trans (by rw[h2])) ?_;refine a7 (is _) ?_;rfl
theorem qg {i:Nat}:¬(qS ts e' (.g i)).ax=true:=by rw[jo];exact id
theorem aew (H:Tk ts e) {i:Nat} (h0:tw ts i [40]=true) (h1:tw ts (i+1) [41]=true) (a:List ae) (h:a.length<=5000):
  ∃l,de (pS ts e (.g i)) 25 a=some (l,pS ts e (.b (i+1)))/\l.length<=a.length+1:=by
 have hs:(JS.g i).Ok ts:=aRL (cd h0);have c:(JS.g (i+1)).Ok ts:=aRL (cd h1);have d:(JS.b (i+1)).Ok ts:=aRL (cd h1)
 have f:vu ts 2 (i+1)=false:=by
  unfold vu;rw[an.2 (lB h1).2.2.1];rfl
 refine⟨a++[.mk 25 0 [] []],?_,by simp⟩;unfold de;refine a7 (tb H h0) ?_;refine(gA (a:=(Sum.inl ((pS ts e (.g (i+1))).fT,(pS ts e (.g (i+1))).fI,(pS ts e (.g (i+1))).ay,(pS ts e (.g (i+1))).ax):((List ai)×Int×Int×Int) ⊕ ((List ae)×aP))) rfl).trans ?_;refine S5.run (x:=bu 25 (pS ts e (.g (i+1))).fT (pS ts e (.g (i+1))).fI (pS ts e (.g (i+1))).ay (pS ts e (.g (i+1))).ax a) (.inl ?_);rw[bu];simp only[kg,aRj];refine(gA (a:=((pS ts e (.g (i+1))).fT,(pS ts e (.g (i+1))).fI,(pS ts e (.g (i+1))).ay,(pS ts e (.g (i+1))).ax,(0:Int))) ?_).trans ?_
 ·refine bm (aZ (w:=[38]) H c (dK h1 aUF)) ?_;rfl
 refine a7 (DX H c f) ?_;refine a7 (fq _ aUE) ?_;refine bm (aZ (w:=[44]) H d rfl) ?_;refine a7 (dW H _ d [41]) ?_;rfl
theorem nE (H:Tk ts e) {i:Nat} {a:av} (hs:(JS.g i).Ok ts) (hw:tw ts i a=true) (w:av) {β:Type} {F:Bool×aP->Option β} {r A B:Option β} {c:Prop} {d:Decidable c} (k:B=r) (hd:(a==w)=false:=by decide) (b:w≠[]:=by decide) (q:F (false,pS ts e (.g i))=@ite _ c d A B:=by rfl) (hc:¬c:=by exact are):(az (pS ts e (.g i)) w>>=F)=r:=bm (aZ H (s:=.g i) hs (dK hw hd) b) k q hc
theorem nI (H:Tk ts e) {i:Nat} {a:av} (hs:(JS.g i).Ok ts) (hw:tw ts i a=true) (w:av) {β:Type} {F:Bool×ak->Option β} {r A B:Option β} {c:Prop} {d:Decidable c} (k:B=r) (hd:(a==w)=false:=by decide) (q:F (false,qS ts e' (.g i))=@ite _ c d A B:=by rfl) (hc:¬c:=by exact are):(ar (qS ts e' (.g i)) w>>=F)=r:=bm (aF H (s:=.g i) hs (dK hw hd) (.inr rfl)) k q hc
theorem Ll (H:Tk ts e) {i:Nat} {a:av} (hs:(JS.g i).Ok ts) (hw:tw ts i a=true) (w v:av) {β:Type} {F f:Bool×aP->Option β} {r A B h:Option β} {c b:Prop} {d:Decidable c} {j:Decidable b} (k:B=r) (l:F (false,pS ts e (.g i))=@ite _ b j h (az (pS ts e (.g i)) v>>=f):=by rfl) (q:f (false,pS ts e (.g i))=@ite _ c d A B:=by rfl) (h2:¬b:=by exact are) (hc:¬c:=by exact are) (hd:((a==w)||(a==v)||(w==[])||(v==[]))=false:=by decide):(az (pS ts e (.g i)) w>>=F)=r:=by
 simp only[aSB]at hd;exact nE H hs hw w (nE H hs hw v k hd.1.1.2 (by simpa using hd.2) q hc) hd.1.1.1 (by simpa using hd.1.2) l h2
theorem B4 (H:Tk ts e) {i:Nat} {a:av} (hs:(JS.g i).Ok ts) (hw:tw ts i a=true) (w v w' b:av) {β:Type} {F m n o:Bool×aP->Option β} {r A B p s t:Option β} {c f h j:Prop} {d:Decidable c} {u:Decidable f} {x:Decidable h} {y:Decidable j} (k:B=r) (z:F (false,pS ts e (.g i))=@ite _ f u p (az (pS ts e (.g i)) v>>=m):=by rfl) (C:m (false,pS ts e (.g i))=@ite _ h x s (az (pS ts e (.g i)) w'>>=n):=by rfl) (D:n (false,pS ts e (.g i))=@ite _ j y t (az (pS ts e (.g i)) b>>=o):=by rfl) (q:o (false,pS ts e (.g i))=@ite _ c d A B:=by rfl) (h2:¬f:=by exact are) (E:¬h:=by exact are) (G:¬j:=by exact are) (hc:¬c:=by exact are) (hd:((a==w)||(a==v)||(w==[])||(v==[]))=false:=by decide) (l:((a==w')||(a==b)||(w'==[])||(b==[]))=false:=by decide):(az (pS ts e (.g i)) w>>=F)=r:=
 Ll H hs hw w v (Ll H hs hw w' b k D q G hc l) z C h2 E hd
theorem TY (H:Tk ts e) {i:Nat} {a:av} (hs:(JS.g i).Ok ts) (hw:tw ts i a=true) (w v:av) {β:Type} {F f:Bool×ak->Option β} {r A B h:Option β} {c b:Prop} {d:Decidable c} {j:Decidable b} (k:B=r) (l:F (false,qS ts e' (.g i))=@ite _ b j h (ar (qS ts e' (.g i)) v>>=f):=by rfl) (q:f (false,qS ts e' (.g i))=@ite _ c d A B:=by rfl) (h2:¬b:=by exact are) (hc:¬c:=by exact are) (hd:((a==w)||(a==v))=false:=by decide):(ar (qS ts e' (.g i)) w>>=F)=r:=by
 simp only[aSB]at hd;exact nI H hs hw w (nI H hs hw v k hd.2 q hc) hd.1 l h2
theorem Vv (H:Tk ts e) {i:Nat} {a:av} (hs:(JS.g i).Ok ts) (hw:tw ts i a=true) (w v w' b:av) {β:Type} {F m n o:Bool×ak->Option β} {r A B p s t:Option β} {c f h j:Prop} {d:Decidable c} {u:Decidable f} {x:Decidable h} {y:Decidable j} (k:B=r) (z:F (false,qS ts e' (.g i))=@ite _ f u p (ar (qS ts e' (.g i)) v>>=m):=by rfl) (C:m (false,qS ts e' (.g i))=@ite _ h x s (ar (qS ts e' (.g i)) w'>>=n):=by rfl) (D:n (false,qS ts e' (.g i))=@ite _ j y t (ar (qS ts e' (.g i)) b>>=o):=by rfl) (q:o (false,qS ts e' (.g i))=@ite _ c d A B:=by rfl) (h2:¬f:=by exact are) (E:¬h:=by exact are) (G:¬j:=by exact are) (hc:¬c:=by exact are) (hd:((a==w)||(a==v))=false:=by decide) (l:((a==w')||(a==b))=false:=by decide):(ar (qS ts e' (.g i)) w>>=F)=r:=
 TY H hs hw w v (TY H hs hw w' b k D q G hc l) z C h2 E hd
theorem nL (H:Tk ts e) {s:JS} (hs:s.Ok ts) {β:Type} {F:ai×ak->Option β} {r:Option β} (k:F (tok ts s.pos,qS ts e' s)=r):(cC (qS ts e' s) 0>>=F)=r:=(gA (qi H s hs)).trans k
end
def P1 (ts:List ai) (e:Int) (i:Nat):aP:=⟨ts,(i:Int),e,-1⟩
def rX (p:aP):Prop:=¬p.ax<0
def Bq {β:Type} (B:β->Prop) (x:Option β):Prop:=∀r,x=some r->B r
def Rl {β:Type} (B:β->Prop) (G:β->β->Prop) (x y:Option β):Prop:=∀r,x=some r->B r\/∃r',y=some r'/\G r r'
section
variable {α β:Type}{A:α->Prop}{GA:α->α->Prop}{B:β->Prop}{G:β->β->Prop}
theorem Bq.ret {r:β} (h:B r):Bq B (some r):=λr' e=>by cases e;exact h
theorem Bq.bind {x:Option α} {K:α->Option β} (h:Bq A x) (k:∀r,A r->Bq B (K r)):Bq B (x>>=K):=λr e=>by
 cases hx:x with
 | none=>rw[hx]at e;cases e
 | some a=>rw[hx]at e;exact k a (h a hx) r e
theorem Bq.any {x:Option α} {K:α->Option β} (k:∀r,Bq B (K r)):Bq B (x>>=K):=Bq.bind (A:=λ_=>True) (λ_ _=>trivial) (λr _=>k r)
theorem Bq.ite {c:Prop} {i:Decidable c} {x y:Option β} (h1:Bq B x) (h2:Bq B y):Bq B (@ite _ c i x y):=by split<;>assumption
theorem Rl.ret {r r':β} (h:G r r'):Rl B G (some r) (some r'):=λq e=>by cases e;exact .inr ⟨_,rfl,h⟩
theorem Rl.bad {x y:Option β} (h:Bq B x):Rl B G x y:=λr e=>.inl (h r e)
theorem Rl.bind {x y:Option α} {K L:α->Option β} (h:Rl A GA x y) (c:∀r,A r->Bq B (K r)) (k:∀r r',GA r r'->Rl B G (K r) (L r')):Rl B G (x>>=K) (y>>=L):=λr e=>by
 cases hx:x with
 | none=>rw[hx]at e;cases e
 | some a=>
  rw[hx]at e;rcases h a hx with q | ⟨b,q1,d⟩
  ·exact .inl (c a q r e)
  ·rw[q1];exact k a b d r e
theorem Rl.two {x y:Option α} {K L:α->Option β} {a b:α} (hx:x=some a) (hy:y=some b) (k:Rl B G (K a) (L b)):Rl B G (x>>=K) (y>>=L):=by rw[hx,hy];exact k
theorem Rl.one {x:Option α} {K L:α->Option β} (k:∀a,x=some a->Rl B G (K a) (L a)):Rl B G (x>>=K) (x>>=L):=by
 cases hx:x with
 | none=>intro r e;cases e
 | some a=>exact k a hx
theorem Rl.ite {c d:Prop} {i:Decidable c} {j:Decidable d} {x y x' a:Option β} (hc:c↔d) (h1:c->Rl B G x x') (h2:¬c->Rl B G y a):Rl B G (@ite _ c i x y) (@ite _ d j x' a):=by
 by_cases h:c
 ·rw[At h,At (hc.1 h)];exact h1 h
 ·rw[As h,As (λq=>h (hc.2 q))];exact h2 h
end
structure Sh (ts cu:List ai):Prop where
 len:cu.length=ts.length+3
 tok:∀i,i<ts.length->kd cu (i+1)=kd ts i/\(Am.tok cu (i+1)).aE=(Am.tok ts i).aE/\tx cu (i+1)=tx ts i
 k0:kd cu 0=6
 t0:tx cu 0=[40]
 k1:kd cu (ts.length+1)=6
 t1:tx cu (ts.length+1)=[41]
 k2:kd cu (ts.length+2)=6
 t2:tx cu (ts.length+2)=[59]
def fnd (ts:List ai) (j:Nat):Prop:=∃k,j=k+1/\kd ts k≠1/\¬(kd ts k=6/\tx ts k=[59])
def Gs (ts cu:List ai) (e e2:Int) (Q:Nat->Prop) {α:Type} (r r':α×aP):Prop:=∃j,Q j/\j<=ts.length/\r.2=P1 ts e j/\r'.2=P1 cu e2 (j+1)/\r'.1=r.1
section
variable {ts cu:List ai}{e e2:Int}
theorem rb {i:Nat} {w:av} (h:tw ts i w=true) (hw:w≠[59]):fnd ts (i+1):=⟨i,rfl,by have:=(G2 h).1;omega,λq=>hw ((G2 h).2.symm.trans q.2)⟩
theorem DY {i:Nat} {k:Int} (h:kd ts i=k) (h1:k≠1) (a:k≠6):fnd ts (i+1):=⟨i,rfl,by omega,λq=>a (h.symm.trans q.1)⟩
theorem Sh.tw (S:Sh ts cu) {i:Nat} (hi:i<ts.length) (w:av):Am.tw cu (i+1) w=Am.tw ts i w:=by
 unfold Am.tw;rw[(S.tok i hi).1,(S.tok i hi).2.2]
theorem Sh.aw4 (S:Sh ts cu) {w:av} (hw:w≠[41]):Am.tw cu (ts.length+1) w=false:=by
 unfold Am.tw;rw[S.t1,an.2 (λq=>hw q.symm),aRF]
theorem Y8 (w:av):tw ts ts.length w=false:=by
 cases h:tw ts ts.length w with
 | false=>rfl
 | true=>exact absurd (cd h) (aTi _)
theorem Sh.twE (S:Sh ts cu) {i:Nat} (hi:i<=ts.length) {w:av} (hw:i<ts.length\/w≠[41]):Am.tw cu (i+1) w=Am.tw ts i w:=by
 by_cases h:i<ts.length
 ·exact S.tw h w
 ·obtain rfl:i=ts.length:=by omega
  rw[Y8,S.aw4 (hw.resolve_left h)]
theorem aex {p:aP} {a k:Int} {w:av} {r:Bool×aP} (h:bp p a k w=some r):r.2=p:=by
 have:Bq (λr:Bool×aP=>r.2=p) (bp p a k w):=by
  unfold bp;exact Bq.ite (Bq.any λ_=>Bq.ite (Bq.ite (Bq.ret rfl) (Bq.any λ_=>Bq.ret rfl)) (Bq.ret rfl)) (Bq.ret rfl)
 exact this r h
theorem bAt {p:aP} {a k:Int} {w:av} (h:rX p):Bq (λr=>rX r.2) (bp p a k w):=λr q=>by show rX r.2;rw[aex q];exact h
theorem oS {p:aP} {w:av} (h:rX p):Bq (λr=>rX r.2) (az p w):=by
 unfold az;refine Bq.bind (bAt h) ?_;rintro⟨v,q⟩ hq;refine Bq.ite (Bq.ret hq) (Bq.bind (bAt hq) ?_);exact aTZ
theorem Lm {p:aP} (h:rX p):Bq (λr=>rX r.2) (cR p):=by
 unfold cR;rw[As h];exact Bq.ret h
theorem DZ {p:aP} {w:av} (h:rX p):Bq rX (aQ p w):=by
 unfold aQ;refine Bq.bind (oS h) ?_;rintro⟨v,q⟩ hq;refine Bq.ite (Bq.ret hq) (Bq.bind (Lm hq) ?_);rintro⟨v,q⟩ hq;exact Bq.ret hq
theorem Y9 {p:aP} {k:Int} (h:rX p):Bq (λr=>rX r.2) (bT p k):=by
 unfold bT;refine Bq.bind (bAt h) ?_;rintro⟨v,q⟩ hq;refine Bq.ite (Bq.any λ_=>Bq.any λ_=>Bq.ite (Bq.any λ_=>Bq.ret hq) (Bq.bind (Lm hq) ?_)) (Bq.bind (Lm hq) ?_)
 ·rintro⟨v,q⟩ hq;exact Bq.ret hq
 ·rintro⟨v,q⟩ hq;exact Bq.ret hq
theorem aou {p:aP} (h:rX p):Bq (λr=>rX r.2) (fu p):=by
 unfold fu;refine Bq.bind (Y9 h) ?_;rintro⟨v,q⟩ hq;exact Bq.ret hq
theorem Jb {p:aP} {k:Int} {l:List ae} (h:rX p):Bq (λr=>rX r.2) (de p k l):=by
 unfold de;refine Bq.bind (DZ h) ?_;intro q hq;refine Bq.bind (A:=λo=>match o with | .inr r=>rX r.2 | .inl x=>¬x.2.2.2<0) ?_ ?_
 ·refine Bq.ite (Bq.bind (oS hq) ?_) (Bq.ret hq);exact aTZ
 ·rintro(⟨t,i,e,b⟩ | ⟨l,q⟩) hq
  ·have hq:¬b<0:=hq;dsimp only;rw[bu,As hq];exact Bq.ret hq
  ·exact Bq.ret hq
theorem ja (H:Tk ts e) (b:Tk cu e2) (S:Sh ts cu) {i:Nat} (hi:i<=ts.length) {w:av} (hw:i<ts.length\/w≠[41]) (a:w≠[]:=by decide):
  (az (P1 ts e i) w=some (true,P1 ts e (i+1))/\az (P1 cu e2 (i+1)) w=some (true,P1 cu e2 (i+1+1))/\i<ts.length/\tw ts i w=true)\/
  (az (P1 ts e i) w=some (false,P1 ts e i)/\az (P1 cu e2 (i+1)) w=some (false,P1 cu e2 (i+1))):=by
 have h2:=S.twE hi hw;have c:=S.len;cases h:tw ts i w with
 | true=>exact .inl ⟨ck H h a,ck b (h2.trans h) a,cd h,rfl⟩
 | false=>exact .inr ⟨aZ H (s:=.g i) hi h a,aZ b (s:=.g (i+1)) (show i+1<=cu.length by omega) (h2.trans h) a⟩
theorem aov (H:Tk ts e) (w:av) (a:w≠[]:=by decide):az (P1 ts e ts.length) w=some (false,P1 ts e ts.length):=aZ H (s:=.g ts.length) (Of _) (Y8 w) a
theorem ig (H:Tk ts e) (d:Tk cu e2) (S:Sh ts cu) {i:Nat} (hi:i<=ts.length) (w:av) (a:w≠[]:=by decide):
  Rl rX (λq f=>q=P1 ts e (i+1)/\f=P1 cu e2 (i+1+1)/\i<ts.length/\tw ts i w=true) (aQ (P1 ts e i) w) (aQ (P1 cu e2 (i+1)) w):=by
 cases h:tw ts i w with
 | true=>
  have c:=cd h;have hx:aQ (P1 ts e i) w=some (P1 ts e (i+1)):=tb H h a;have hy:aQ (P1 cu e2 (i+1)) w=some (P1 cu e2 (i+1+1)):=tb d ((S.tw c w).trans h) a;rw[hx,hy];exact Rl.ret ⟨rfl,rfl,c,rfl⟩
 | false=>
  have hx:aQ (P1 ts e i) w=some (pS ts e (.b i)):=(dW H (.g i) hi w a).trans (by rw[aot h]);rw[hx];refine Rl.bad (Bq.ret ?_);have:=O7 H i;show ¬pl ts e i<0;omega
theorem B5 (H:Tk ts e) {i:Nat} (hi:i<=ts.length):Bq (λr=>rX r.2) (cR (P1 ts e i)):=by
 have hx:cR (P1 ts e i)=some (.mk 0 0 [] [],pS ts e (.b i)):=qZ H (.g i) hi;rw[hx];refine Bq.ret ?_;have:=O7 H i;show ¬pl ts e i<0;omega
theorem B6 (H:Tk ts e) (d:Tk cu e2) (S:Sh ts cu) {i:Nat} (hi:i<=ts.length) (k:Int) (a:k≠0:=by decide):
  Rl (λr=>rX r.2) (λr r'=>r=(tx ts i,P1 ts e (i+1))/\r'=(tx ts i,P1 cu e2 (i+1+1))/\i<ts.length/\kd ts i=k) (bT (P1 ts e i) k) (bT (P1 cu e2 (i+1)) k):=by
 cases h:vu ts k i with
 | true=>
  have c:=Jc a h;have f:=S.len;have hx:bT (P1 ts e i) k=some (tx ts i,P1 ts e (i+1)):=(nu H (.g i) hi k a).trans (by rw[Ja h,I8 h];rfl);have h2:vu cu k (i+1)=true:=by unfold vu at h ⊢;rw[(S.tok i c).1,(S.tok i c).2.2];exact h
  have hy:bT (P1 cu e2 (i+1)) k=some (tx ts i,P1 cu e2 (i+1+1)):=(nu d (.g (i+1)) (show i+1<=cu.length by omega) k a).trans (by rw[Ja h2,I8 h2,(S.tok i c).2.2];rfl);rw[hx,hy];refine Rl.ret ⟨rfl,rfl,c,?_⟩;unfold vu at h;rw[No,aRi]at h;exact h.1
 | false=>
  have hx:bT (P1 ts e i) k=some ([],pS ts e (.b i)):=DX H hi h a;rw[hx];refine Rl.bad (Bq.ret ?_);have:=O7 H i;show ¬pl ts e i<0;omega
theorem TZ (H:Tk ts e) (a:Tk cu e2) (S:Sh ts cu) {i:Nat} (hi:i<=ts.length):
  Rl (λr=>rX r.2) (λr r'=>r=(.mk 4 0 (tx ts i) [],P1 ts e (i+1))/\r'=(.mk 4 0 (tx ts i) [],P1 cu e2 (i+1+1))/\i<ts.length/\kd ts i=2) (fu (P1 ts e i)) (fu (P1 cu e2 (i+1))):=by
 unfold fu;refine Rl.bind (B6 H a S hi 2) ?_ ?_
 ·rintro⟨v,q⟩ hq;exact Bq.ret hq
 ·rintro _ _ ⟨rfl,rfl,h1,h2⟩;exact Rl.ret ⟨rfl,rfl,h1,h2⟩
theorem Jd (H:Tk ts e) (c:Tk cu e2) (S:Sh ts cu) {i:Nat} (hi:i<=ts.length) (k:Int) (w:av) (hw:i<ts.length\/k≠6\/(w≠[41]/\w≠[])) (a:k≠0:=by decide):
  bp (P1 ts e i) 0 k w=some (aT ts i k w,P1 ts e i)/\bp (P1 cu e2 (i+1)) 0 k w=some (aT ts i k w,P1 cu e2 (i+1)):=by
 have d:=S.len;refine⟨dz H (.g i) hi k w a,(dz c (.g (i+1)) (show i+1<=cu.length by omega) k w a).trans ?_⟩
 suffices aT cu (i+1) k w=aT ts i k w by
  show some (aT cu (i+1) k w,_)=_;rw[this];rfl
 by_cases h:i<ts.length
 ·unfold aT;rw[(S.tok i h).1,(S.tok i h).2.2]
 ·obtain rfl:i=ts.length:=by omega
  have z:kd ts ts.length=0:=by unfold kd;rw[uM (aTi _)]
  unfold aT;rw[S.k1,S.t1,z,an.2 (λq=>a q.symm)];rcases hw with hw | hw | ⟨hw,b⟩
  ·exact absurd hw h
  ·rw[an.2 (λq=>hw q.symm)];rfl
  ·rw[an.2 b,an.2 (λq=>hw q.symm)];simp
end
def Mo (ts cu:List ai) (e e2:Int) (Q:Nat->Nat->Prop) {α:Type} (f:aP->Option (α×aP)) (a:aP) (r:α×aP):Prop:=
 (rX a->rX r.2)/\∀i:Nat,a=P1 ts e i->i<=ts.length->rX r.2\/∃r',f (P1 cu e2 (i+1))=some r'/\Gs ts cu e e2 (Q i) r r'
def HF (ts cu:List ai) (e e2:Int) (Q:Nat->Nat->Prop) {α:Type} (f g:aP->Option (α×aP)):Prop:=∀a r,g a=some r->Mo ts cu e e2 Q f a r
def MoL (ts cu:List ai) (e e2:Int) (Q:Nat->Nat->Prop) {α ω:Type} (a:ω->α×aP) (f:List ai->Int->Int->Int->Option ω) (l:List ai) (y1 d b:Int) (o:ω):Prop:=
 (¬b<0->rX (a o).2)/\∀i:Nat,l=ts->y1=(i:Int)->d=e->b= -1->i<=ts.length->rX (a o).2\/∃c,f cu ((i+1:Nat):Int) e2 (-1)=some c/\Gs ts cu e e2 (Q i) (a o) (a c)
def HL (ts cu:List ai) (e e2:Int) (Q:Nat->Nat->Prop) {α ω:Type} (c:ω->α×aP) (f g:List ai->Int->Int->Int->Option ω):Prop:=∀l y1 a b o,g l y1 a b=some o->MoL ts cu e e2 Q c f l y1 a b o
def Qe (ts:List ai) (i j:Nat):Prop:=i<j/\fnd ts j
def Qs (i j:Nat):Prop:=i<j
def Qc (ts:List ai) (i j:Nat):Prop:=i<=j/\(fnd ts i->fnd ts j)
def pjL:((List ai)×Int×Int×Int×(List ae)×(List ae)) ⊕ (ae×aP)->ae×aP | .inr r=>r | .inl (t,i,e,b,_,l)=>(.mk 5 0 [] l,⟨t,i,e,b⟩)
def pjC:((List ai)×Int×Int×Int×(List ae)×Int×Int×av×(List ae)) ⊕ (ae×aP)->ae×aP | .inr r=>r | .inl (t,i,e,b,_,k,m,s,l)=>(.mk k m s l,⟨t,i,e,b⟩)
def pjA:((List ai)×Int×Int×Int×(List ae)) ⊕ ((List ae)×aP)->(List ae)×aP | .inr r=>r | .inl (t,i,e,b,l)=>(l,⟨t,i,e,b⟩)
def pjB:(List ai)×Int×Int×Int×(List ae)×(List ae)->(List ae)×aP | (t,i,e,b,_,l)=>(l,⟨t,i,e,b⟩)
section
variable {ts cu:List ai}{e e2:Int}{Q:Nat->Nat->Prop}{α ω:Type}
theorem HF.b {f g:aP->Option (α×aP)} (h:HF ts cu e e2 Q f g) {p:aP} (hp:rX p):Bq (λr=>rX r.2) (g p):=λr q=>(h p r q).1 hp
theorem HF.g {f g:aP->Option (α×aP)} (h:HF ts cu e e2 Q f g) {i:Nat} (hi:i<=ts.length):Rl (λr=>rX r.2) (Gs ts cu e e2 (Q i)) (g (P1 ts e i)) (f (P1 cu e2 (i+1))):=λr q=>(h _ r q).2 i rfl hi
theorem HL.b {a:ω->α×aP} {f g:List ai->Int->Int->Int->Option ω} (h:HL ts cu e e2 Q a f g) {l:List ai} {y1 d c:Int} (hp:¬c<0):Bq (λo=>rX (a o).2) (g l y1 d c):=λr q=>(h _ _ _ _ r q).1 hp
theorem HL.g {a:ω->α×aP} {f g:List ai->Int->Int->Int->Option ω} (h:HL ts cu e e2 Q a f g) {i:Nat} (hi:i<=ts.length):Rl (λo=>rX (a o).2) (λo b=>Gs ts cu e e2 (Q i) (a o) (a b)) (g ts (i:Int) e (-1)) (f cu ((i+1:Nat):Int) e2 (-1)):=λr q=>(h _ _ _ _ r q).2 i rfl rfl rfl rfl hi
theorem HF.mk {f g:aP->Option (α×aP)} (b:∀p,rX p->Bq (λr=>rX r.2) (g p)) (hg:∀i:Nat,i<=ts.length->Rl (λr=>rX r.2) (Gs ts cu e e2 (Q i)) (g (P1 ts e i)) (f (P1 cu e2 (i+1)))):HF ts cu e e2 Q f g:=λa r q=>⟨λh=>b a h r q,λi c hi=>by subst c;exact hg i hi r q⟩
theorem HL.mk {a:ω->α×aP} {f g:List ai->Int->Int->Int->Option ω} (d:∀l y1 c b,¬b<0->Bq (λo=>rX (a o).2) (g l y1 c b)) (hg:∀i:Nat,i<=ts.length->Rl (λo=>rX (a o).2) (λo j=>Gs ts cu e e2 (Q i) (a o) (a j)) (g ts (i:Int) e (-1)) (f cu ((i+1:Nat):Int) e2 (-1))):HL ts cu e e2 Q a f g:=λl y1 c b o q=>⟨λh=>d l y1 c b h o q,λi h1 h2 k m hi=>by subst h1;subst h2;subst k;subst m;exact hg i hi o q⟩
theorem Rl.mono {β:Type} {B:β->Prop} {G a:β->β->Prop} {x y:Option β} (h:Rl B G x y) (hm:∀r r',G r r'->a r r'):Rl B a x y:=λr q=>(h r q).imp id (λ⟨r',q1,b⟩=>⟨r',q1,hm r r' b⟩)
theorem Gs.mono {Q a:Nat->Prop} {r r':α×aP} (h:Gs ts cu e e2 Q r r') (hm:∀j,Q j->a j):Gs ts cu e e2 a r r':=by
 obtain⟨j,h1,h2⟩:=h;exact⟨j,hm j h1,h2⟩
theorem Gs.of {Q:Nat->Prop} {v:α} {j:Nat} (h1:Q j) (h2:j<=ts.length):Gs ts cu e e2 Q (v,P1 ts e j) (v,P1 cu e2 (j+1)):=⟨j,h1,h2,rfl,rfl,rfl⟩
theorem Gs.out {Q:Nat->Prop} {r r':α×aP} (h:Gs ts cu e e2 Q r r'):∃j v,Q j/\j<=ts.length/\r=(v,P1 ts e j)/\r'=(v,P1 cu e2 (j+1)):=by
 obtain⟨j,h1,h2,a,b,c⟩:=h;exact⟨j,r.1,h1,h2,by rw[<-a],by rw[<-c,<-b]⟩
theorem Rl.tT {α β:Type} {B:β->Prop} {G:β->β->Prop} {x y:Option α} {K L:α->Option β} {a b:α} {X e Y f:Option β} {c d:Prop} {i:Decidable c} {j:Decidable d} (hx:x=some a) (hy:y=some b) (k:Rl B G X Y) (g:K a=@_root_.ite _ c i X e:=by rfl) (h:L b=@_root_.ite _ d j Y f:=by rfl) (hc:c:=by rfl) (hd:d:=by rfl):Rl B G (x>>=K) (y>>=L):=
 Rl.two hx hy (by rw[g,h,At hc,At hd];exact k)
theorem Rl.tF {α β:Type} {B:β->Prop} {G:β->β->Prop} {x y:Option α} {K L:α->Option β} {a b:α} {X e Y f:Option β} {c d:Prop} {i:Decidable c} {j:Decidable d} (hx:x=some a) (hy:y=some b) (k:Rl B G e f) (g:K a=@_root_.ite _ c i X e:=by rfl) (h:L b=@_root_.ite _ d j Y f:=by rfl) (hc:¬c:=by exact are) (hd:¬d:=by exact are):Rl B G (x>>=K) (y>>=L):=
 Rl.two hx hy (by rw[g,h,As hc,As hd];exact k)
theorem pN {i:Nat} (h:i<=4010):aP.mk (P1 ts e i).fT (bq ((P1 ts e i).fI+1)) (P1 ts e i).ay (P1 ts e i).ax=P1 ts e (i+1):=by
 show aP.mk ts (bq ((i:Int)+1)) e (-1)=aP.mk ts ((i+1:Nat):Int) e (-1);rw[ca aUE]
end
section
variable {ts cu:List ai}{e e2:Int}
theorem Pd (H:Tk ts e) (k:Int) (l:List ae):Bq (λo=>rX (pjA o).2) (bu k ts (ts.length:Int) e (-1) l):=by
 rw[bu,At aUF];have h0:az (aP.mk ts (ts.length:Int) e (-1)) [38]=some (false,P1 ts e ts.length):=aov H [38];rw[h0];refine Bq.bind (A:=λt=>t=(ts,(ts.length:Int),e,-1,0)) (λr q=>by cases q;rfl) ?_;rintro _ rfl
 have h1:Bq (λr=>rX r.2) (bT (P1 ts e ts.length) 2):=by
  rw[DX H (Of _) (i:=ts.length) (k:=2) (e:=e) (by
   have z:kd ts ts.length=0:=by unfold kd;rw[uM (aTi _)]
   unfold vu;rw[z];rfl)|> (λq=>(show bT (P1 ts e ts.length) 2=_ from q))]
  refine Bq.ret ?_;have:=O7 H ts.length;show ¬pl ts e ts.length<0;omega
 refine Bq.bind h1 ?_;rintro⟨v,q⟩ hq
 have loop:∀(p:aP) (l:List ae),rX p->Bq (λo=>rX (pjA o).2) (bu k p.fT p.fI p.ay p.ax l):=λp l hp=>by
  rw[bu,As hp];exact Bq.ret hp
 refine Bq.any λ_=>Bq.bind (oS hq) ?_;rintro⟨v,q⟩ hq;refine Bq.ite (loop _ _ hq) (Bq.bind (DZ hq) ?_);intro q hq;exact Bq.ret hq
theorem Ln (H:Tk ts e) (r:Tk cu e2) (S:Sh ts cu) (k:Int):∀s f u x y o,bu k s f u x y=some o->MoL ts cu e e2 (Qe ts) pjA (λa b c d=>bu k a b c d y) s f u x o:=by
 refine bu.partial_correctness k (motive:=λs f u x y o=>MoL ts cu e e2 (Qe ts) pjA (λa b c d=>bu k a b c d y) s f u x o) ?_;intro g hg l y1 z B m;have n:∀m,HL ts cu e e2 (Qe ts) pjA (λa b c d=>bu k a b c d m) (λa b c d=>g a b c d m):=λm l y1 z B o q=>hg l y1 z B m o q;revert l y1 z B;refine HL.mk (λl y1 z B D=>?_) (λi hi=>?_);rw[As D];exact Bq.ret D;dsimp only;rw[bu];refine Rl.ite aRW (λ_=>?_) (λq=>absurd aUF q);refine Rl.bind (A:=λt=>¬t.2.2.2.1<0) (GA:=λt E=>∃(j:Nat) (v:Int),t=(ts,(j:Int),e,-1,v)/\E=(cu,((j+1:Nat):Int),e2,-1,v)/\i<=j/\j<=ts.length) ?_ ?_ ?_;rcases ja (w:=[38]) H r S hi (.inr aUF)with⟨h1,h2,p,C⟩ | ⟨h1,h2⟩;exact Rl.tT h1 h2 (Rl.ret ⟨i+1,_,rfl,rfl,by omega,p⟩);exact Rl.tF h1 h2 (Rl.ret ⟨i,_,rfl,rfl,by omega,hi⟩);rotate_left;rintro _ _ ⟨j,v,rfl,rfl,j1,j2⟩;refine Rl.bind (B6 H r S j2 2) ?_ ?_;rotate_left;rintro _ _ ⟨rfl,rfl,j3,F⟩;refine Rl.one λl2 _=>?_;rcases ja (w:=[44]) H r S (i:=j+1) j3 (.inr aUF)with⟨h1,h2,p,C⟩ | ⟨h1,h2⟩;refine Rl.tT h1 h2 ?_;exact((n l2).g (i:=j+1+1) p).mono (λ_ _ h=>h.mono (λq hq=>⟨by have:=hq.1;omega,hq.2⟩));refine Rl.tF h1 h2 ?_;refine Rl.bind (ig H r S (i:=j+1) j3 [41]) ?_ ?_;rotate_left;rintro _ _ ⟨rfl,rfl,p,C⟩;exact Rl.ret (Gs.of (j:=j+1+1) ⟨by omega,rb C aUF⟩ p);all_goals (repeat' first | exact Bq.ret aUL | exact(n _).b aUL | refine Bq.ite ?_ ?_ | (refine Bq.bind (oS aUL) ?_;rintro⟨_,_⟩ _) | (refine Bq.bind (bAt aUL) ?_;rintro⟨_,_⟩ _) | (refine Bq.bind (DZ aUL) ?_;intro _ _) | (refine Bq.bind (Y9 aUL) ?_;rintro⟨_,_⟩ _) | (refine Bq.bind (aou aUL) ?_;rintro⟨_,_⟩ _) | (refine Bq.bind (Lm aUL) ?_;rintro⟨_,_⟩ _) | (refine Bq.bind (Jb aUL) ?_;rintro⟨_,_⟩ _) | (refine Bq.bind ((n _).b aUL) ?_;rintro(_ | _) _) | (refine Bq.bind (A:=λt:(List ai)×Int×Int×Int×_=>¬t.2.2.2.1<0) ?_ ?_) | (refine Bq.any ?_;intro _) | (rintro⟨_,_,_,_,_⟩ _) | (rintro⟨_,_⟩ _) | (intro _ _))
theorem RW (H:Tk ts e) (f:Tk cu e2) (S:Sh ts cu) (k:Int) (l:List ae) {i:Nat} (hi:i<=ts.length):Rl (λr=>rX r.2) (Gs ts cu e e2 (Qe ts i)) (de (P1 ts e i) k l) (de (P1 cu e2 (i+1)) k l):=by
 have p:HL ts cu e e2 (Qe ts) pjA (λa b c d=>bu k a b c d l) (λa b c d=>bu k a b c d l):=λa b c d o q=>Ln H f S k a b c d l o q;unfold de;refine Rl.bind (ig H f S hi [40]) ?_ ?_
 ·intro q hq
  exact(show Bq (λr=>rX r.2) (de q k l)from Jb hq)|>(λz=>(by
   unfold de at z;refine Bq.bind (A:=λo=>match o with | .inr r=>rX r.2 | .inl x=>¬x.2.2.2<0) ?_ ?_
   ·refine Bq.ite (Bq.bind (oS hq) ?_) (Bq.ret hq);exact aTZ
   ·rintro(⟨t,i,e,b⟩ | ⟨l,q⟩) hq
    ·have hq:¬b<0:=hq;dsimp only;rw[bu,As hq];exact Bq.ret hq
    ·exact Bq.ret hq))
 ·rintro _ _ ⟨rfl,rfl,h,C⟩;by_cases m:i+1<ts.length\/k≠24
  ·refine Rl.bind (A:=λ_=>False) (GA:=λo n=>(∃j,o=.inl (ts,(j:Int),e,-1)/\n=.inl (cu,((j+1:Nat):Int),e2,-1)/\i<j/\j<=ts.length)\/∃r r',o=.inr r/\n=.inr r'/\Gs ts cu e e2 (Qe ts i) r r') ?_ (λ_ q=>q.elim) ?_
   ·refine Rl.ite aRW (λs=>?_) (λ_=>Rl.ret (.inl ⟨i+1,rfl,rfl,by omega,h⟩));rcases ja (w:=[41]) H f S (i:=i+1) h (.inl (m.resolve_right (λq=>q s)))with⟨h1,h2,u,v⟩ | ⟨h1,h2⟩
    ·exact Rl.tT h1 h2 (Rl.ret (.inr ⟨_,_,rfl,rfl,Gs.of (j:=i+1+1) ⟨by omega,rb v aUF⟩ u⟩))
    ·exact Rl.tF h1 h2 (Rl.ret (.inl ⟨i+1,rfl,rfl,by omega,h⟩))
   ·rintro _ _ (⟨j,rfl,rfl,j1,j2⟩ | ⟨r,r',rfl,rfl,y⟩)
    ·refine Rl.bind (p.g j2) ?_ ?_
     ·rintro(_ | _) hq<;>exact Bq.ret hq
     ·rintro(_ | _) (_ | _) ho<;>exact Rl.ret (ho.mono (λq hq=>⟨by have:=hq.1;omega,hq.2⟩))
    ·exact Rl.ret y
  ·obtain rfl:k=24:=Classical.not_not.1 (λq=>m (.inr q))
   have B:i+1=ts.length:=by
    have:¬i+1<ts.length:=λq=>m (.inl q);omega
   refine Rl.bad ?_;rw[At rfl,B,aov H [41]];refine Bq.bind (A:=λo=>o=.inl (ts,(ts.length:Int),e,-1)) (λr q=>by cases q;rfl) ?_;rintro _ rfl;refine Bq.bind (Pd H 24 l) ?_;rintro(_ | _) hq<;>exact Bq.ret hq
end
section
variable {ts:List ai}{e e':Int}
theorem lN {i:Nat} (h:i<ts.length):¬(pS ts e (.g i)).fI>=((pS ts e (.g i)).fT.length:Int):=λhh=>by
 have hh:(i:Int)>=(ts.length:Int):=hh;omega
theorem Ac {i:Nat} {w:av} (h:tw ts i w=true) (h1:(w==([116,114,117,101]:av))=false) (h2:(w==([102,97,108,115,101]:av))=false) (a:(w==([110,117,108,108]:av))=false):kx ts i=false:=by
 obtain⟨k4,b,k2,_⟩:=lB h;unfold kx;rw[an.2 k4,an.2 b,dK h h1,dK h h2,dK h a];rfl
theorem aG5 {i:Nat} {k:Int} (a:kd ts i≠k):vu ts k i=false:=by unfold vu;rw[an.2 a];rfl
theorem T1 (H:Tk ts e) {i:Nat} (hi:i<=ts.length) (d:∀s,Lt ts i s->PC ts e e' s) (hw:tw ts i [110,117,108,108]=true):C1 ts e e' true 0 (.g i) aH aK:=by
 have hs:(JS.g i).Ok ts:=hi;have b:=cd hw;obtain⟨k4,c,k2,_⟩:=lB hw;refine⟨.g (i+1),.mk 3 0 [] [],.mk 3 0 [] [],?_,?_,Rs.leaf aUF b aUG (by rw[an.2 k2];rfl)⟩
 ·rw[aH];refine cf (lN b) ?_;refine(gA (fJ b)).trans ?_;refine cf k4 ?_;refine cf c ?_;refine cf k2 ?_;refine dC (ck H hw) ?_;rfl
 ·rw[aK];refine nL H hs ?_;refine cf qg ?_;refine a7 (uK H hi) ?_;refine nG (show kx ts i=true by unfold kx;simp [hw]) ?_;refine(gA (a:=(ae.mk 3 0 [] [],qS ts e' (.g (i+1)))) ?_).trans rfl;unfold bU;rw[du];refine nL H hs ?_;refine cf k4 ?_;refine cf c ?_;refine dC (bL H hw) ?_;rfl
theorem Pe (H:Tk ts e) {i:Nat} (hi:i<=ts.length) (d:∀s,Lt ts i s->PC ts e e' s) (hw:tw ts i [102,97,108,115,101]=true):C1 ts e e' true 0 (.g i) aH aK:=by
 have hs:(JS.g i).Ok ts:=hi;have b:=cd hw;obtain⟨k4,c,k2,_⟩:=lB hw;refine⟨.g (i+1),.mk 3 1 [] [],.mk 3 1 [] [],?_,?_,Rs.leaf aUF b aUG (by rw[an.2 k2];rfl)⟩
 ·rw[aH];refine cf (lN b) ?_;refine(gA (fJ b)).trans ?_;refine cf k4 ?_;refine cf c ?_;refine cf k2 ?_;refine nE H hs hw [110,117,108,108] ?_;refine dC (ck H hw) ?_;rfl
 ·rw[aK];refine nL H hs ?_;refine cf qg ?_;refine a7 (uK H hi) ?_;refine nG (show kx ts i=true by unfold kx;simp [hw]) ?_;refine(gA (a:=(ae.mk 3 1 [] [],qS ts e' (.g (i+1)))) ?_).trans rfl;unfold bU;rw[du];refine nL H hs ?_;refine cf k4 ?_;refine cf c ?_;refine nI H hs hw [110,117,108,108] ?_;refine dC (bL H hw) ?_;rfl
theorem T2 (H:Tk ts e) {i:Nat} (hi:i<=ts.length) (d:∀s,Lt ts i s->PC ts e e' s) (hw:tw ts i [116,114,117,101]=true):C1 ts e e' true 0 (.g i) aH aK:=by
 have hs:(JS.g i).Ok ts:=hi;have b:=cd hw;obtain⟨k4,c,k2,_⟩:=lB hw;refine⟨.g (i+1),.mk 3 2 [] [],.mk 3 2 [] [],?_,?_,Rs.leaf aUF b aUG (by rw[an.2 k2];rfl)⟩
 ·rw[aH];refine cf (lN b) ?_;refine(gA (fJ b)).trans ?_;refine cf k4 ?_;refine cf c ?_;refine cf k2 ?_;refine Ll H hs hw [110,117,108,108] [102,97,108,115,101] ?_;refine dC (ck H hw) ?_;rfl
 ·rw[aK];refine nL H hs ?_;refine cf qg ?_;refine a7 (uK H hi) ?_;refine nG (show kx ts i=true by unfold kx;simp [hw]) ?_;refine(gA (a:=(ae.mk 3 2 [] [],qS ts e' (.g (i+1)))) ?_).trans rfl;unfold bU;rw[du];refine nL H hs ?_;refine cf k4 ?_;refine cf c ?_;refine TY H hs hw [110,117,108,108] [102,97,108,115,101] ?_;refine dC (bL H hw) ?_;rfl
theorem T3 (H:Tk ts e) {i:Nat} (hi:i<=ts.length) (b:∀s,Lt ts i s->PC ts e e' s) (hw:tw ts i [91]=true):C1 ts e e' true 0 (.g i) aH aK:=by
 have hs:(JS.g i).Ok ts:=hi;have a:=cd hw;obtain⟨k4,c,k2,_⟩:=lB hw;obtain⟨s',n,m,h1,h2,d⟩:=(b _ (Lt.g (aRh i) a)).list;refine⟨s',n,m,?_,?_,d.up (aRh i)⟩
 ·rw[aH];refine cf (lN a) ?_;refine(gA (fJ a)).trans ?_;refine cf k4 ?_;refine cf c ?_;refine cf k2 ?_;refine Ll H hs hw [110,117,108,108] [102,97,108,115,101] ?_;refine nE H hs hw [116,114,117,101] ?_;refine dC (ck H hw) ?_;refine a7 h1 ?_;rfl
 ·rw[aK];refine nL H hs ?_;refine cf qg ?_;refine a7 (uK H hi) ?_;refine cf (show ¬kx ts i=true by rw[Ac hw aUF aUF aUF];exact are) ?_;refine cf k2 ?_;refine dC (bL H hw) ?_;refine a7 h2 ?_;rfl
theorem Zb (H:Tk ts e) {i:Nat} (hi:i<=ts.length) (c:∀s,Lt ts i s->PC ts e e' s) (hw:tw ts i [40]=true):C1 ts e e' true 0 (.g i) aH aK:=by
 have hs:(JS.g i).Ok ts:=hi;have a:=cd hw;obtain⟨k4,d,k2,_⟩:=lB hw;obtain⟨s',n,m,h1,h2,b⟩:=(c _ (Lt.g (aRh i) a)).expr;refine⟨wS ts s' [41],n,m,?_,?_,b.want (aRh i) [41]⟩
 ·rw[aH];refine cf (lN a) ?_;refine(gA (fJ a)).trans ?_;refine cf k4 ?_;refine cf d ?_;refine cf k2 ?_;refine B4 H hs hw [110,117,108,108] [102,97,108,115,101] [116,114,117,101] [91] ?_;refine dC (ck H hw) ?_;refine a7 h1 ?_;refine a7 (dW H _ b.ok [41]) ?_;rfl
 ·rw[aK];refine nL H hs ?_;refine cf qg ?_;refine a7 (uK H hi) ?_;refine cf (show ¬kx ts i=true by rw[Ac hw aUF aUF aUF];exact are) ?_;refine cf k2 ?_;refine nI H hs hw [91] ?_;refine dC (bL H hw) ?_;refine a7 h2 ?_;refine a7 (eY H _ b.ok [41]) ?_;rfl
theorem Zc (H:Tk ts e) {i:Nat} (hi:i<=ts.length) (r:∀s,Lt ts i s->PC ts e e' s) (hw:tw ts i [110,101,119]=true):C1 ts e e' true 0 (.g i) aH aK:=by
 have hs:(JS.g i).Ok ts:=hi;have h:=cd hw;obtain⟨k4,t,k2,_⟩:=lB hw;have j:(JS.g (i+1)).Ok ts:=h;rcases I6 (ts:=ts) (.g (i+1)) [115,116,97,116,105,99]with f | ⟨z,h0,f⟩
 ·have hL:=Lt.n (c:=3) j (i:=i+1) (Of _) aUF;obtain⟨s2,l,m,h1,h2,b⟩:=(r (nS ts (.g (i+1)) 3) ⟨hL.ok,hL.nd,λk u=>by have:=hL.lt k u;omega⟩).args [] aUG;have hx:=jr H (.g (i+1)) 3;refine⟨s2,.mk 22 0 (nT ts (.g (i+1)) 3) l,.mk 22 0 (nT ts (.g (i+1)) 3) m,?_,?_,Rs.node aUF b.ok b.nd ?_ ?_⟩
  ·rw[aH];refine cf (lN h) ?_;refine(gA (fJ h)).trans ?_;refine cf k4 ?_;refine cf t ?_;refine cf k2 ?_;refine B4 H hs hw [110,117,108,108] [102,97,108,115,101] [116,114,117,101] [91] ?_;refine nE H hs hw [40] ?_;refine dC (ck H hw) ?_;refine bm (aZ H j f) ?_;refine a7 (nu H _ j 3) ?_;refine a7 h1 ?_;rfl
  ·rw[aK];refine nL H hs ?_;refine cf qg ?_;refine a7 (uK H hi) ?_;refine cf (show ¬kx ts i=true by rw[Ac hw aUF aUF aUF];exact are) ?_;refine cf k2 ?_;refine TY H hs hw [91] [40] ?_;refine dC (bL H hw) ?_;refine(gA (a:=(nT ts (.g (i+1)) 3,qS ts e' (nS ts (.g (i+1)) 3))) ?_).trans ?_
   ·unfold cQ;refine bm (aF H j f) ?_;refine a7 (nM H _ j rfl 3 (.inr rfl)) ?_;rfl
   refine a7 h2 ?_;rfl
  ·have:=b.le;have q:=@my ts (.g (i+1)) 3;have q:i+1<=(nS ts (.g (i+1)) 3).pos:=q;omega
  ·intro o p;obtain⟨k,q1,v,d,w⟩:=b.good o p;obtain⟨k1,x,A,_⟩:=lM q1;cases x;refine⟨by omega,rfl,d,?_⟩;rw[aRe]at d;rw[d];omega
 ·cases h0;have y:=cd f;obtain⟨s2,l,m,h1,h2,b⟩:=(r (.g (i+1+1)) (Lt.g aUE y)).args [] aUG;refine⟨s2,.mk 22 0 [115,116,97,116,105,99] l,.mk 22 0 [115,116,97,116,105,99] m,?_,?_,Rs.node aUF b.ok b.nd ?_ ?_⟩
  ·rw[aH];refine cf (lN h) ?_;refine(gA (fJ h)).trans ?_;refine cf k4 ?_;refine cf t ?_;refine cf k2 ?_;refine B4 H hs hw [110,117,108,108] [102,97,108,115,101] [116,114,117,101] [91] ?_;refine nE H hs hw [40] ?_;refine dC (ck H hw) ?_;refine dC (ck H f) ?_;refine a7 h1 ?_;rfl
  ·rw[aK];refine nL H hs ?_;refine cf qg ?_;refine a7 (uK H hi) ?_;refine cf (show ¬kx ts i=true by rw[Ac hw aUF aUF aUF];exact are) ?_;refine cf k2 ?_;refine TY H hs hw [91] [40] ?_;refine dC (bL H hw) ?_;refine(gA (a:=(([115,116,97,116,105,99]:av),qS ts e' (.g (i+1+1)))) ?_).trans ?_
   ·unfold cQ;refine dC (bL H f) ?_;rfl
   refine a7 h2 ?_;rfl
  ·have:=b.le;have:i+1+1<=s2.pos:=this;omega
  ·intro o p;obtain⟨k,q1,v,d,w⟩:=b.good o p;cases q1;refine⟨by omega,rfl,d,?_⟩;rw[aRe]at d;rw[d];simp only[so,An];omega
theorem Zd (H:Tk ts e) {i:Nat} (hi:i<=ts.length) (J:∀s,Lt ts i s->PC ts e e' s) (hw:tw ts i [102,117,110,99,116,105,111,110]=true):C1 ts e e' true 0 (.g i) aH aK:=by
 have hs:(JS.g i).Ok ts:=hi;have p:=cd hw;obtain⟨k4,B,k2,_⟩:=lB hw;have hL:=H.len;have O:(JS.g (i+1)).Ok ts:=p;obtain⟨u,l,m,h1,h2,f⟩:=Bm (e':=e') H 24 (.inl rfl) [] aUG (.g (i+1)) O rfl (λh=>by cases h);have hlen:=f.len;have P:=f.lem;have I4:=okp f.ok;have C:i+1<=u.pos:=f.le;have q:eD (qS ts e' (.g (i+1)))=some (m,qS ts e' u):=by unfold eD;rw[h2,sb]
 simp only[An]at hlen;have K:Lt ts i u:=Lt.r f (λk j=>by cases j;omega);rcases I6 (ts:=ts) u [117,115,101]with hu | ⟨c,rfl,hu⟩
 ·obtain⟨s2,n,n2,v,g2,d⟩:=(J u K).block;have l2:=Lt.rs (i:=i) d (λk j=>aRL (K.lt k j));refine⟨s2,.mk 23 0 [] (l++[n]),.mk 23 0 [] (m++[n2]),?_,?_,Rs.node aUF d.ok l2.nd ?_ ?_⟩
  ·rw[aH];refine cf (lN p) ?_;refine(gA (fJ p)).trans ?_;refine cf k4 ?_;refine cf B ?_;refine cf k2 ?_;refine B4 H hs hw [110,117,108,108] [102,97,108,115,101] [116,114,117,101] [91] ?_;refine Ll H hs hw [40] [110,101,119] ?_;refine dC (ck H hw) ?_;refine a7 h1 ?_;refine bm (aZ H f.ok hu) ?_;refine a7 v ?_;refine a7 (fq _ aUE) ?_;rfl
  ·rw[aK];refine nL H hs ?_;refine cf qg ?_;refine a7 (uK H hi) ?_;refine cf (show ¬kx ts i=true by rw[Ac hw aUF aUF aUF];exact are) ?_;refine cf k2 ?_;refine TY H hs hw [91] [40] ?_;refine nI H hs hw [110,101,119] ?_;refine dC (bL H hw) ?_;refine a7 q ?_;refine bm (aF H f.ok hu) ?_;refine a7 g2 ?_;refine a7 (fq _ aUE) ?_;rfl
  ·have:=d.le;omega
  ·intro y D;obtain⟨k,q1,Q,E,R,_⟩:=d.good y D;obtain⟨k1,F,S,z,T⟩:=f.good k q1;cases F;rw[aRe]at z;subst z;subst E;refine⟨by omega,rfl,rfl,?_⟩;rw[fO,cy];simp only[An];omega
 ·have U:=cd hu;have t:(JS.g (c+1)).Ok ts:=U;have T4:i+1<=c:=C;have step1:ar (qS ts e' (.g c)) [117,115,101]=some (true,qS ts e' (.g (c+1))):=bL H hu;cases o:(tw ts (c+1) [40]&&tw ts (c+1+1) [41])with
  | true=>
   rw[No]at o;obtain⟨V,v,g2⟩:=aew H o.1 o.2 l aUE;have W:=cd o.2;have L:(JS.b (c+1+1)).Ok ts:=aRL W;obtain⟨n,d⟩:=RV H L;refine⟨.b (c+1+1),.mk 23 0 [] (V++[n]),.mk 23 0 [] m,?_,?_,Rs.node aUF L rfl (by show i<=c+1+1;omega) (λy h=>by cases h)⟩
   ·rw[aH];refine cf (lN p) ?_;refine(gA (fJ p)).trans ?_;refine cf k4 ?_;refine cf B ?_;refine cf k2 ?_;refine B4 H hs hw [110,117,108,108] [102,97,108,115,101] [116,114,117,101] [91] ?_;refine Ll H hs hw [40] [110,101,119] ?_;refine dC (ck H hw) ?_;refine a7 h1 ?_;refine dC (ck H hu) ?_;refine a7 v ?_;refine a7 d ?_;refine a7 (fq _ aUE) ?_;rfl
   ·rw[aK];refine nL H hs ?_;refine cf qg ?_;refine a7 (uK H hi) ?_;refine cf (show ¬kx ts i=true by rw[Ac hw aUF aUF aUF];exact are) ?_;refine cf k2 ?_;refine TY H hs hw [91] [40] ?_;refine nI H hs hw [110,101,119] ?_;refine dC (bL H hw) ?_;refine a7 q ?_;refine dC step1 ?_;refine(gA (a:=((qS ts e' (.g (c+1))).aq,(qS ts e' (.g (c+1))).bF,(qS ts e' (.g (c+1))).ay,(qS ts e' (.g (c+1))).ax,true)) ?_).trans ?_
    ·refine dC ((fF (e':=e') H (.g (c+1)) t [40]).trans (by rw[show tw ts (JS.g (c+1)).pos [40]=true from o.1])) ?_;refine a7 ((aez (e':=e') H (.g (c+1)) t [41]).trans (by rw[show tw ts ((JS.g (c+1)).pos+1) [41]=true from o.2])) ?_;rfl
    refine nG rfl ?_
    have:ak.mk (qS ts e' (.g (c+1))).aq (bq ((qS ts e' (.g (c+1))).bF+1)) (qS ts e' (.g (c+1))).ay true=qS ts e' (.b (c+1+1)):=by
     show ak.mk ts (bq (((c+1:Nat):Int)+1)) e' true=_;rw[ca aUE];rfl
    rw[this]
  | false=>
   have w:tw ts (c+1) [40]=true->tw ts (c+1+1) [41]=false:=λh=>by rw[h,aSn]at o;exact o
   obtain⟨G,l2,M,v,g2,d⟩:=Bm (e':=e') H 25 (.inr rfl) l aUE (.g (c+1)) t rfl (λ_ k j=>by cases j;exact w);have N:Lt ts i G:=Lt.r d (λk j=>by cases j;omega);obtain⟨X,n,n2,Y,f2,A⟩:=(J G N).block;have Z:=Lt.rs (i:=i) A (λk j=>aRL (N.lt k j));have aa:=okp d.ok;have ad:c+1<=G.pos:=d.le;have ag:=d.len;have a1:=d.lem;refine⟨X,.mk 23 0 [] (l2++[n]),.mk 23 0 [] (m++M++[n2]),?_,?_,Rs.node aUF A.ok Z.nd ?_ ?_⟩
   ·rw[aH];refine cf (lN p) ?_;refine(gA (fJ p)).trans ?_;refine cf k4 ?_;refine cf B ?_;refine cf k2 ?_;refine B4 H hs hw [110,117,108,108] [102,97,108,115,101] [116,114,117,101] [91] ?_;refine Ll H hs hw [40] [110,101,119] ?_;refine dC (ck H hw) ?_;refine a7 h1 ?_;refine dC (ck H hu) ?_;refine a7 v ?_;refine a7 Y ?_;refine a7 (fq _ aUE) ?_;rfl
   ·rw[aK];refine nL H hs ?_;refine cf qg ?_;refine a7 (uK H hi) ?_;refine cf (show ¬kx ts i=true by rw[Ac hw aUF aUF aUF];exact are) ?_;refine cf k2 ?_;refine TY H hs hw [91] [40] ?_;refine nI H hs hw [110,101,119] ?_;refine dC (bL H hw) ?_;refine a7 q ?_;refine dC step1 ?_;refine(gA (a:=((qS ts e' (.g (c+1))).aq,(qS ts e' (.g (c+1))).bF,(qS ts e' (.g (c+1))).ay,(qS ts e' (.g (c+1))).ax,false)) ?_).trans ?_
    ·cases I:tw ts (c+1) [40]with
     | false=>
      refine bm ((fF (e':=e') H (.g (c+1)) t [40]).trans (by rw[show tw ts (JS.g (c+1)).pos [40]=false from I])) ?_;rfl
     | true=>
      refine dC ((fF (e':=e') H (.g (c+1)) t [40]).trans (by rw[show tw ts (JS.g (c+1)).pos [40]=true from I])) ?_;refine a7 ((aez (e':=e') H (.g (c+1)) t [41]).trans (by rw[show tw ts ((JS.g (c+1)).pos+1) [41]=false from w I])) ?_;rfl
    refine cf are ?_;refine a7 g2 ?_;refine a7 (iz (b:=56) (l:=m) (m:=M) aUE) ?_;refine a7 f2 ?_;refine a7 (fq _ aVj) ?_;rfl
   ·have:=A.le;omega
   ·intro y D;obtain⟨k,q1,Q,E,R,_⟩:=A.good y D;obtain⟨k1,F,S,z,T⟩:=d.good k q1;cases F;obtain⟨k2,q9,a2,x,a3⟩:=f.good c rfl;cases q9;rw[aRe]at x;subst x;subst E;subst z;refine⟨by omega,rfl,rfl,?_⟩;rw[fO,fO,cy];simp only[An];omega
end
section
variable {ts:List ai}{e e':Int}
theorem G3 (H:Tk ts e) {i:Nat} (h:∀s,Lt ts i s->PC ts e e' s) (a:JS) (hs:a.Ok ts) (hd:a.nd=true) (r:i<=a.pos):
  ∃s' l m,dx (pS ts e (nS ts (wS ts a [58,58]) 3)) []=some (l,pS ts e s')/\df (qS ts e' (nS ts (wS ts a [58,58]) 3))=some (m,qS ts e' s')/\s'.Ok ts/\s'.nd=true/\i<=s'.pos/\
   ∀b,s'=.g b->∃i0,a=.g i0/\i0+2<b/\l=m/\(wl l:Int)+16384*(i0:Int)+32768<=16384*(b:Int):=by
 have h1:=kE hs [58,58];have t:=gq (ts:=ts) a [58,58];have u:=my (ts:=ts) (wS ts a [58,58]) 3;have hL:=Lt.n (ts:=ts) (c:=3) (i:=i) h1 aUE aUF;obtain⟨s',l,m,j,g2,d⟩:=(h _ hL).args [] aUG;refine⟨s',l,m,j,g2,d.ok,d.nd,by have:=d.le;omega,λb o=>?_⟩;obtain⟨k,q1,v,f,w⟩:=d.good b o;obtain⟨k1,p,x,_⟩:=lM q1;obtain⟨k2,q,y,_⟩:=ft p;rw[aRe]at f;subst f;exact⟨k2,q,by omega,rfl,by omega⟩
theorem Lp (H:Tk ts e) {i:Nat} (hi:i<=ts.length) (f:∀s,Lt ts i s->PC ts e e' s) (hw:tw ts i [115,116,97,116,105,99]=true):C1 ts e e' true 0 (.g i) aH aK:=by
 have hs:(JS.g i).Ok ts:=hi;have d:=cd hw;obtain⟨k4,h,k2,_⟩:=lB hw;have c:(JS.g (i+1)).Ok ts:=d;obtain⟨s',l,m,j,g2,k,n,o,p⟩:=G3 H f (.g (i+1)) c rfl (aSd i);refine⟨s',.mk 21 0 ([115,116,97,116,105,99]++[58,58]++nT ts (wS ts (.g (i+1)) [58,58]) 3) l,.mk 21 0 ([115,116,97,116,105,99]++[58,58]++nT ts (wS ts (.g (i+1)) [58,58]) 3) m,?_,?_,Rs.node aUF k n ?_ ?_⟩
 ·rw[aH];refine cf (lN d) ?_;refine(gA (fJ d)).trans ?_;refine cf k4 ?_;refine cf h ?_;refine cf k2 ?_;refine B4 H hs hw [110,117,108,108] [102,97,108,115,101] [116,114,117,101] [91] ?_;refine Ll H hs hw [40] [110,101,119] ?_;refine nE H hs hw [102,117,110,99,116,105,111,110] ?_;refine(gA (a:=(Sum.inl ((pS ts e (.g (i+1))).fT,(pS ts e (.g (i+1))).fI,(pS ts e (.g (i+1))).ay,(pS ts e (.g (i+1))).ax,([115,116,97,116,105,99]:av)):((List ai)×Int×Int×Int×av) ⊕ (ae×aP))) ?_).trans ?_
  ·refine dC (ck H hw) ?_;rfl
  refine a7 (dW H _ c [58,58]) ?_;refine a7 (sx (a:=([115,116,97,116,105,99]:av)) (b:=[58,58]) aVe) ?_;refine a7 (nu H _ (kE c _) 3) ?_;refine a7 (sx aUY) ?_;refine a7 j ?_;rfl
 ·rw[aK];refine nL H hs ?_;refine cf qg ?_;refine a7 (uK H hi) ?_;refine cf (show ¬kx ts i=true by rw[Ac hw aUF aUF aUF];exact are) ?_;refine cf k2 ?_;refine Vv H hs hw [91] [40] [110,101,119] [102,117,110,99,116,105,111,110] ?_;refine(gA (a:=(([115,116,97,116,105,99]:av),qS ts e' (.g (i+1)))) ?_).trans ?_
  ·unfold cQ;refine dC (bL H hw) ?_;rfl
  refine(gA (a:=(Sum.inl ((qS ts e' (.g (i+1))).aq,(qS ts e' (.g (i+1))).bF,(qS ts e' (.g (i+1))).ay,(qS ts e' (.g (i+1))).ax):((List ai)×Int×Int×Bool) ⊕ (ae×ak))) ?_).trans ?_
  ·refine nG rfl ?_;rfl
  refine a7 (eY H _ c [58,58]) ?_;refine a7 (sx (a:=([115,116,97,116,105,99]:av)) (b:=[58,58]) aVe) ?_;refine a7 (nM H _ (kE c _) (mH _ _) 3 (.inr rfl)) ?_;refine a7 (sx aUY) ?_;refine a7 g2 ?_;rfl
 ·exact o
 ·intro q r;obtain⟨i0,q1,u,t,v⟩:=p q r;cases q1;refine⟨by omega,rfl,t,?_⟩;have:=(show([115,116,97,116,105,99]:av).length<=4000 by decide);have:=jr H (wS ts (.g (i+1)) [58,58]) 3;simp only[It,so,An];omega
theorem T5 (H:Tk ts e) {i:Nat} (hi:i<=ts.length) (F:∀s,Lt ts i s->PC ts e e' s) (k4:¬kd ts i=4) (y:¬kd ts i=5) (k2:¬kd ts i=2) (z:tw ts i [110,117,108,108]=false) (f2:tw ts i [102,97,108,115,101]=false) (A:tw ts i [116,114,117,101]=false) (o:tw ts i [91]=false) (n:tw ts i [40]=false) (p:tw ts i [110,101,119]=false) (q:tw ts i [102,117,110,99,116,105,111,110]=false) (j:tw ts i [115,116,97,116,105,99]=false):C1 ts e e' true 0 (.g i) aH aK:=by
 have hs:(JS.g i).Ok ts:=hi;have C:kx ts i=false:=by unfold kx;rw[an.2 k4,an.2 y,z,f2,A];rfl
 cases f:vu ts 3 i with
 | true=>
  have d:=Jc aUF f;have c:(JS.g (i+1)).Ok ts:=d;have hx:=uO H i
  have t:¬tx ts i=([115,116,97,116,105,99]:av):=λhh=>by
   unfold vu at f;rw[No,aRi]at f;unfold tw at j;rw[f.1,hh]at j;exact absurd j aUF
  have u:cQ (qS ts e' (.g i))=some (tx ts i,qS ts e' (.g (i+1))):=by
   unfold cQ;refine bm (aF H hs j) ?_;refine a7 ((nM H (.g i) hs rfl 3 (.inr rfl)).trans (by rw[Ja f,I8 f])) ?_;rfl
  have v:bT (pS ts e (.g i)) 3=some (tx ts i,pS ts e (.g (i+1))):=by rw[nu H (.g i) hs 3,Ja f,I8 f]
  cases hp:tw ts (i+1) [40]with
  | true=>
   obtain⟨s',l,m,D,g2,r⟩:=(F (.g (i+1)) (Lt.g (aRh i) d)).args [] aUG;refine⟨s',.mk 18 0 (tx ts i) l,.mk 18 0 (tx ts i) m,?_,?_,Rs.node aUF r.ok r.nd ?_ ?_⟩
   ·rw[aH];refine cf (lN d) ?_;refine(gA (fJ d)).trans ?_;refine cf k4 ?_;refine cf y ?_;refine cf k2 ?_;refine bm (aZ H hs (w:=[110,117,108,108]) z) ?_;refine bm (aZ H hs (w:=[102,97,108,115,101]) f2) ?_;refine bm (aZ H hs (w:=[116,114,117,101]) A) ?_;refine bm (aZ H hs (w:=[91]) o) ?_;refine bm (aZ H hs (w:=[40]) n) ?_;refine bm (aZ H hs (w:=[110,101,119]) p) ?_;refine bm (aZ H hs (w:=[102,117,110,99,116,105,111,110]) q) ?_;refine(gA (a:=(Sum.inr (ae.mk 18 0 (tx ts i) l,pS ts e s'):((List ai)×Int×Int×Int×av) ⊕ (ae×aP))) ?_).trans ?_
    ·refine bm (aZ H hs j) ?_;refine a7 v ?_;refine dC ((dz H _ c 6 [40] aUF).trans (by rw[show aS ts (.g (i+1)) 0 6 [40]=true from(aM H aUF aUF).trans hp])) ?_;refine a7 D ?_;rfl
    rfl
   ·rw[aK];refine nL H hs ?_;refine cf qg ?_;refine a7 (uK H hi) ?_;refine cf (show ¬kx ts i=true by rw[C];exact are) ?_;refine cf k2 ?_;refine bm (aF H hs (w:=[91]) o) ?_;refine bm (aF H hs (w:=[40]) n) ?_;refine bm (aF H hs (w:=[110,101,119]) p) ?_;refine bm (aF H hs (w:=[102,117,110,99,116,105,111,110]) q) ?_;refine a7 u ?_;refine(gA (a:=(Sum.inr (ae.mk 18 0 (tx ts i) m,qS ts e' s'):((List ai)×Int×Int×Bool) ⊕ (ae×ak))) ?_).trans ?_
    ·refine cf t ?_;refine dC ((fF (e':=e') H (.g (i+1)) c [40]).trans (by rw[show tw ts (JS.g (i+1)).pos [40]=true from hp])) ?_;refine a7 g2 ?_;rfl
    rfl
   ·have:=r.le;have:i+1<=s'.pos:=this;omega
   ·intro x E;obtain⟨k,q1,G,B,I⟩:=r.good x E;cases q1;rw[aRe]at B;subst B;exact⟨by omega,rfl,rfl,by omega⟩
  | false=>
   obtain⟨s',l,m,D,g2,r,J,K,L⟩:=G3 H F (.g (i+1)) c rfl (aSd i);refine⟨s',.mk 21 0 (tx ts i++[58,58]++nT ts (wS ts (.g (i+1)) [58,58]) 3) l,.mk 21 0 (tx ts i++[58,58]++nT ts (wS ts (.g (i+1)) [58,58]) 3) m,?_,?_,Rs.node aUF r J ?_ ?_⟩
   ·rw[aH];refine cf (lN d) ?_;refine(gA (fJ d)).trans ?_;refine cf k4 ?_;refine cf y ?_;refine cf k2 ?_;refine bm (aZ H hs (w:=[110,117,108,108]) z) ?_;refine bm (aZ H hs (w:=[102,97,108,115,101]) f2) ?_;refine bm (aZ H hs (w:=[116,114,117,101]) A) ?_;refine bm (aZ H hs (w:=[91]) o) ?_;refine bm (aZ H hs (w:=[40]) n) ?_;refine bm (aZ H hs (w:=[110,101,119]) p) ?_;refine bm (aZ H hs (w:=[102,117,110,99,116,105,111,110]) q) ?_;refine(gA (a:=(Sum.inl ((pS ts e (.g (i+1))).fT,(pS ts e (.g (i+1))).fI,(pS ts e (.g (i+1))).ay,(pS ts e (.g (i+1))).ax,(tx ts i)):((List ai)×Int×Int×Int×av) ⊕ (ae×aP))) ?_).trans ?_
    ·refine bm (aZ H hs j) ?_;refine a7 v ?_;refine bm ((dz H _ c 6 [40] aUF).trans (by rw[show aS ts (.g (i+1)) 0 6 [40]=false from(aM H aUF aUF).trans hp])) ?_;rfl
    refine a7 (dW H _ c [58,58]) ?_;refine a7 (sx (a:=(tx ts i)) (b:=[58,58]) (by have:=hx;simp only[so,An];omega)) ?_;refine a7 (nu H _ (kE c _) 3) ?_;refine a7 (sx aVf) ?_;refine a7 D ?_;rfl
   ·rw[aK];refine nL H hs ?_;refine cf qg ?_;refine a7 (uK H hi) ?_;refine cf (show ¬kx ts i=true by rw[C];exact are) ?_;refine cf k2 ?_;refine bm (aF H hs (w:=[91]) o) ?_;refine bm (aF H hs (w:=[40]) n) ?_;refine bm (aF H hs (w:=[110,101,119]) p) ?_;refine bm (aF H hs (w:=[102,117,110,99,116,105,111,110]) q) ?_;refine(gA (a:=((tx ts i),qS ts e' (.g (i+1)))) ?_).trans ?_
    ·exact u
    refine(gA (a:=(Sum.inl ((qS ts e' (.g (i+1))).aq,(qS ts e' (.g (i+1))).bF,(qS ts e' (.g (i+1))).ay,(qS ts e' (.g (i+1))).ax):((List ai)×Int×Int×Bool) ⊕ (ae×ak))) ?_).trans ?_
    ·refine cf t ?_;refine bm ((fF (e':=e') H (.g (i+1)) c [40]).trans (by rw[show tw ts (JS.g (i+1)).pos [40]=false from hp])) ?_;rfl
    refine a7 (eY H _ c [58,58]) ?_;refine a7 (sx (a:=(tx ts i)) (b:=[58,58]) (by have:=hx;simp only[so,An];omega)) ?_;refine a7 (nM H _ (kE c _) (mH _ _) 3 (.inr rfl)) ?_;refine a7 (sx aVf) ?_;refine a7 g2 ?_;rfl
   ·exact K
   ·intro x E;obtain⟨i0,q1,G,B,I⟩:=L x E;cases q1;refine⟨by omega,rfl,B,?_⟩;have:=hx;have:=jr H (wS ts (.g (i+1)) [58,58]) 3;simp only[It,so,An];omega
 | false=>
  have c:(JS.b i).Ok ts:=hi;refine⟨.b i,if i<ts.length then .mk 21 0 ([]++[58,58]++[]) []else .mk 0 0 [] [],.mk 21 0 ([]++[58,58]++[]) [],?_,?_,⟨hi,Of i,λx h=>aUZ,λx h=>aUZ⟩⟩
  ·by_cases d:i<ts.length
   ·rw[At d];rw[aH];refine cf (lN d) ?_;refine(gA (fJ d)).trans ?_;refine cf k4 ?_;refine cf y ?_;refine cf k2 ?_;refine bm (aZ H hs (w:=[110,117,108,108]) z) ?_;refine bm (aZ H hs (w:=[102,97,108,115,101]) f2) ?_;refine bm (aZ H hs (w:=[116,114,117,101]) A) ?_;refine bm (aZ H hs (w:=[91]) o) ?_;refine bm (aZ H hs (w:=[40]) n) ?_;refine bm (aZ H hs (w:=[110,101,119]) p) ?_;refine bm (aZ H hs (w:=[102,117,110,99,116,105,111,110]) q) ?_;refine(gA (a:=(Sum.inl ((pS ts e (.b i)).fT,(pS ts e (.b i)).fI,(pS ts e (.b i)).ay,(pS ts e (.b i)).ax,[]):((List ai)×Int×Int×Int×av) ⊕ (ae×aP))) ?_).trans ?_
    ·refine bm (aZ H hs j) ?_;refine a7 (DX H hi f) ?_;refine bm (dz H _ c 6 [40] aUF) ?_;rfl
    refine a7 (dW H _ c [58,58]) ?_;refine a7 (sx (a:=[]) (b:=[58,58]) aUF) ?_;refine a7 (nu H _ c 3) ?_;refine a7 (sx (a:=[]++[58,58]) (b:=[]) aUF) ?_;refine a7 (Y3 H c []) ?_;rfl
   ·rw[As d,aH];refine nG (show(pS ts e (.g i)).fI>=((pS ts e (.g i)).fT.length:Int)from by show(i:Int)>=(ts.length:Int);omega) ?_;refine a7 (qZ H _ hs) ?_;rfl
  ·rw[aK];refine nL H hs ?_;refine cf qg ?_;refine a7 (uK H hi) ?_;refine cf (show ¬kx ts i=true by rw[C];exact are) ?_;refine cf k2 ?_;refine bm (aF H hs (w:=[91]) o) ?_;refine bm (aF H hs (w:=[40]) n) ?_;refine bm (aF H hs (w:=[110,101,119]) p) ?_;refine bm (aF H hs (w:=[102,117,110,99,116,105,111,110]) q) ?_;refine(gA (a:=(([]:av),qS ts e' (.b i))) ?_).trans ?_
   ·unfold cQ;refine bm (aF H hs j) ?_;refine a7 (Pb H hi f (.inr rfl)) ?_;rfl
   refine(gA (a:=(Sum.inl ((qS ts e' (.b i)).aq,(qS ts e' (.b i)).bF,(qS ts e' (.b i)).ay,(qS ts e' (.b i)).ax):((List ai)×Int×Int×Bool) ⊕ (ae×ak))) ?_).trans ?_
   ·refine cf (show ¬([]:av)=[115,116,97,116,105,99] by decide) ?_;refine bm ((fF (e':=e') H (.b i) c [40]).trans (by rw[show tw ts (JS.b i).pos [40]=false from n])) ?_;rfl
   refine a7 (eY H _ c [58,58]) ?_;refine a7 (sx (a:=[]) (b:=[58,58]) aUF) ?_;refine a7 (nM H _ c rfl 3 (.inr rfl)) ?_;refine a7 (sx (a:=[]++[58,58]) (b:=[]) aUF) ?_;refine a7 (I7 H c) ?_;rfl
theorem RZ (H:Tk ts e) {i:Nat} (hi:i<=ts.length) (b:∀s,Lt ts i s->PC ts e e' s):C1 ts e e' true 0 (.g i) aH aK:=by
 have hs:(JS.g i).Ok ts:=hi;have f:∀{k m:Int} {t:av},kd ts i≠0->t.length<=4000->k≠7->(k==4)=(kd ts i==2)->Rs ts true 0 (.g i) (.g (i+1)) (.mk k m t []) (.mk k m t []):=λh0 x y hv=>Rs.leaf y (lC h0) x hv;by_cases k4:kd ts i=4
 ·have c:i<ts.length:=lC aUE;refine⟨.g (i+1),.mk 1 (tok ts i).aE [] [],.mk 1 (tok ts i).aE [] [],?_,?_,f aUE aUG aUF (by rw[k4];rfl)⟩
  ·rw[aH];refine cf (lN c) ?_;refine(gA (fJ c)).trans ?_;refine nG k4 ?_;rw[re H hi]
  ·rw[aK];refine nL H hs ?_;refine cf qg ?_;refine a7 (uK H hi) ?_;refine nG (show kx ts i=true by unfold kx;rw[k4];rfl) ?_;refine(gA (a:=(ae.mk 1 (tok ts i).aE [] [],qS ts e' (.g (i+1)))) ?_).trans rfl;unfold bU;rw[du];refine nL H hs ?_;refine nG k4 ?_;rw[qv H hi];rfl
 by_cases d:kd ts i=5
 ·have c:i<ts.length:=lC aUE;refine⟨.g (i+1),.mk 2 0 (tx ts i) [],.mk 2 0 (tx ts i) [],?_,?_,f aUE (uO H i) aUF (by rw[d];rfl)⟩
  ·rw[aH];refine cf (lN c) ?_;refine(gA (fJ c)).trans ?_;refine cf k4 ?_;refine nG d ?_;rw[re H hi];rfl
  ·rw[aK];refine nL H hs ?_;refine cf qg ?_;refine a7 (uK H hi) ?_;refine nG (show kx ts i=true by unfold kx;rw[d];rfl) ?_;refine(gA (a:=(ae.mk 2 0 (tx ts i) [],qS ts e' (.g (i+1)))) ?_).trans rfl;unfold bU;rw[du];refine nL H hs ?_;refine cf k4 ?_;refine nG d ?_;rw[qv H hi];rfl
 by_cases k2:kd ts i=2
 ·have c:i<ts.length:=lC aUE;have j:∀w,tw ts i w=false:=wQ aUE aUE;refine⟨nS ts (.g i) 2,.mk 4 0 (nT ts (.g i) 2) [],.mk 4 0 (nT ts (.g i) 2) [],?_,?_,?_⟩
  ·rw[aH];refine cf (lN c) ?_;refine(gA (fJ c)).trans ?_;refine cf k4 ?_;refine cf d ?_;refine nG k2 ?_;refine a7 (Pf H _ hs) ?_;rfl
  ·rw[aK];refine nL H hs ?_;refine cf qg ?_;refine a7 (uK H hi) ?_;refine cf (show ¬kx ts i=true by unfold kx;rw[k2,j,j,j];decide) ?_;refine nG k2 ?_;rw[du];refine a7 (Pg H _ hs rfl) ?_;rfl
  ·cases l:vu ts 2 i with
   | true=>rw[I8 l,Ja l];exact f aUE (uO H i) aUF (by rw[k2];rfl)
   | false=>rw[Y6 l];exact⟨hi,Of i,λz h=>aUZ,λz h=>aUZ⟩
 cases n:tw ts i [110,117,108,108]with
 | true=>exact T1 H hi b n
 | false=>
 cases f2:tw ts i [102,97,108,115,101]with
 | true=>exact Pe H hi b f2
 | false=>
 cases o:tw ts i [116,114,117,101]with
 | true=>exact T2 H hi b o
 | false=>
 cases p:tw ts i [91]with
 | true=>exact T3 H hi b p
 | false=>
 cases q:tw ts i [40]with
 | true=>exact Zb H hi b q
 | false=>
 cases r:tw ts i [110,101,119]with
 | true=>exact Zc H hi b r
 | false=>
 cases u:tw ts i [102,117,110,99,116,105,111,110]with
 | true=>exact Zd H hi b u
 | false=>
 cases v:tw ts i [115,116,97,116,105,99]with
 | true=>exact Lp H hi b v
 | false=>
 exact T5 H hi b k4 d k2 n f2 o p q r u v
end
def S9 (x:Option (((List ai)×Int×Int×Int×(List ae)×Int×Int×av×(List ae)) ⊕ (ae×aP))) (n:ae) (p:aP):Prop:=x=some (.inr (n,p))\/x=some (.inl (p.fT,p.fI,p.ay,p.ax,[],n.ah,n.aE,n.al,n.af))
def I9 (x:Option (((List ai)×Int×Int×Bool×(List ae)×Int×Int×av×(List ae)) ⊕ (ae×ak))) (n:ae) (p:ak):Prop:=x=some (.inr (n,p))\/x=some (.inl (p.aq,p.bF,p.ay,p.ax,[],n.ah,n.aE,n.al,n.af))
theorem S9.run {x:Option (((List ai)×Int×Int×Int×(List ae)×Int×Int×av×(List ae)) ⊕ (ae×aP))} {n:ae} {p:aP} (h:S9 x n p):(x>>=λo=>match o with
  | .inr r=>some r
  | .inl (a,b,c,d,e,f,g,i,j)=>some ((ae.mk f g i j),(aP.mk a b c d)))=some (n,p):=by
 cases n;rcases h with h | h<;>rw[h]<;>rfl
theorem I9.run {x:Option (((List ai)×Int×Int×Bool×(List ae)×Int×Int×av×(List ae)) ⊕ (ae×ak))} {n:ae} {p:ak} (h:I9 x n p):(x>>=λo=>match o with
  | .inr r=>some r
  | .inl (a,b,c,d,e,f,g,i,j)=>some ((ae.mk f g i j),(ak.mk a b c d)))=some (n,p):=by
 cases n;rcases h with h | h<;>rw[h]<;>rfl
section
variable {ts:List ai}{e e':Int}
theorem Ze (H:Tk ts e) {i:Nat} (h:i<=ts.length):ak.mk (qS ts e' (.g i)).aq (bq ((qS ts e' (.g i)).bF+2)) (qS ts e' (.g i)).ay (qS ts e' (.g i)).ax=qS ts e' (.g (i+2)):=by
 have:=H.len;show ak.mk ts (bq ((i:Int)+2)) e' false=⟨ts,((i+2:Nat):Int),e',false⟩;rw[wW aUE aUE];rfl
def wR (ts:List ai) (i:Nat) (n:ae) (u:Bool):Bool:=tw ts i [91]&&(tw ts (i+1) [93]&&(zJ n&&u))
theorem D0 (H:Tk ts e) {i:Nat} (hi:i<=ts.length) (u:Bool) (k m:Int) (t:av) (l:List ae):((
 ba (qS ts e' (.g i)) 0 [91]>>=λ(h,b)=>
 (if h=true then
 ba b 1 [93]>>=λ(j,a)=>
 (if j=true then
 fP (ae.mk k m t l)>>=λn=>
 (if n=true then
 some (a.aq,a.bF,a.ay,a.ax,(!(!u)))
 else
 some (a.aq,a.bF,a.ay,a.ax,false))
 else
 some (a.aq,a.bF,a.ay,a.ax,false))
 else
 some (b.aq,b.bF,b.ay,b.ax,false))
 :Option ((List ai)×Int×Int×Bool×Bool))=some ((qS ts e' (.g i)).aq,(qS ts e' (.g i)).bF,(qS ts e' (.g i)).ay,(qS ts e' (.g i)).ax,wR ts i (.mk k m t l) u)):=by
 have hs:(JS.g i).Ok ts:=hi;have c:∀w,ba (qS ts e' (.g i)) 0 w=some (tw ts i w,qS ts e' (.g i)):=λw=>fF (e':=e') H _ hs w;have d:∀w,ba (qS ts e' (.g i)) 1 w=some (tw ts (i+1) w,qS ts e' (.g i)):=λw=>aez (e':=e') H _ hs w;unfold wR;cases h1:tw ts i [91]with
 | false=>refine bm ((c _).trans aVt) ?_;rfl
 | true=>
  refine dC ((c _).trans aVt) ?_;cases h2:tw ts (i+1) [93]with
  | false=>refine bm ((d _).trans (by rw[h2])) ?_;rfl
  | true=>
   refine dC ((d _).trans (by rw[h2])) ?_;cases f:zJ (.mk k m t l)with
   | false=>refine bm ((qj _).trans (by rw[f])) ?_;rfl
   | true=>refine dC ((qj _).trans (by rw[f])) ?_;rw[Bool.not_not];rfl
structure Inv (ts:List ai) (i0 i:Nat) (n:ae):Prop where
 lt:i0<i
 wt:(wt n:Int)+8192+16384*(i0:Int)<=16384*(i:Int)
 tg:zJ n=wv n
 va:i=i0+1->(n.ah==4)=(kd ts i0==2)
theorem Rs.inv {D i0 i:Nat} {n m:ae} (h:Rs ts true D (.g i0) (.g i) n m):n=m/\Inv ts i0 i n:=by
 obtain⟨k,h1,h2,a,b,c,d⟩:=h.good i rfl;cases h1;exact⟨a,h2,b,c,d rfl⟩
theorem Inv.rs {i0 i D:Nat} {n:ae} (h:Inv ts i0 i n) (hi:i<=ts.length):Rs ts true D (.g i0) (.g i) n n:=
 ⟨hi,aRL h.lt,λa h'=>by cases h';exact⟨i0,rfl,h.lt,rfl,h.wt,h.tg,λ_=>h.va⟩,λj hj=>by cases hj⟩
theorem Rs.b {v:Bool} {D i0 j:Nat} {n m:ae} (hj:j<=ts.length) (h:i0<=j):Rs ts v D (.g i0) (.b j) n m:=⟨hj,h,λi h=>aUZ,λi h=>aUZ⟩
theorem rf (H:Tk ts e) {i0:Nat} (E:∀s,Lt ts i0 s->PC ts e e' s) (u:Bool):∀(N:Nat) (s:JS) (n m:ae),s.Ok ts->s.nd=true->i0<=s.pos->(∀i,s=.g i->ts.length - i<N/\n=m/\Inv ts i0 i n)->
  ∃s' B C,S9 (aW u (pS ts e s).fT (pS ts e s).fI (pS ts e s).ay (pS ts e s).ax [] n.ah n.aE n.al n.af) B (pS ts e s')/\
   I9 (aJ (!u) (qS ts e' s).aq (qS ts e' s).bF (qS ts e' s).ay (qS ts e' s).ax [] m.ah m.aE m.al m.af) C (qS ts e' s')/\Rs ts true 1 (.g i0) s' B C
 | N,.d j,n,m,_,hd,_,_=>by cases hd
 | N,.b j,n,m,hs,_,hp,_=>by
  refine⟨.b j,n,m,.inr ?_,.inr ?_,Rs.b hs hp⟩
  ·rw[aW];simp only[qh H,aRc]
  ·rw[aJ];simp only[jq,aRj]
 | 0,.g i,n,m,_,_,_,h=>by have:=(h i rfl).1;omega
 | N+1,.g i,n,m,hs,_,hp,hinv=>by
  obtain⟨hN,rfl,inv⟩:=hinv i rfl;have hi:i<=ts.length:=hs;have hL:=H.len;have aa:=inv.lt;obtain⟨k,a,t,l⟩:=n;have mk:∀(r:Nat) (Y Z:Int) (R:av) (S:List ae),i0+1<r->zJ (.mk Y Z R S)=wv (.mk Y Z R S)->(R.length:Int)+(wl S:Int)+8192+16384*(i0:Int)<=16384*(r:Int)->Inv ts i0 r (.mk Y Z R S):=λr Y Z R S h1 h2 h3=>⟨by omega,by rw[fD];omega,h2,λhh=>by omega⟩;have a1:=inv.wt;cases o:tw ts i [91]with
  | true=>
   have O:=cd o;have P:(JS.g (i+1)).Ok ts:=O;cases hq:wR ts i (.mk k a t l) u with
   | true=>
    unfold wR at hq;simp only[No]at hq;obtain⟨_,v,Q,hu⟩:=hq;have hq:wR ts i (.mk k a t l) u=true:=by unfold wR;rw[o,v,Q,hu];rfl
    have Bo:=cd v;have z:(JS.g (i+1+1)).Ok ts:=Bo;have l2:=Lt.w (i:=i0) z (show i0<=i+1+1 by omega) [61];obtain⟨s',x,y,D,g2,f⟩:=(E _ l2).expr;have hle:i0<=s'.pos:=by have:=f.le;have q:=@gq ts (.g (i+1+1)) [61];have q:i+1+1<=(wS ts (.g (i+1+1)) [61]).pos:=q;omega
    refine⟨s',.mk 16 0 [] [.mk k a t l,x],.mk 16 0 [] [.mk k a t l,y],.inl ?_,.inl ?_,⟨f.ok,hle,λi' h=>?_,λj hj=>?_⟩⟩
    ·rw[aW];simp only[kg,aRj];refine dC (ck H o) ?_;refine nG hu ?_;refine dC ((qk _).trans (congrArg some (show wv (.mk k a t l)=true by rw[<-inv.tg];exact Q))) ?_;refine dC (ck H v) ?_;refine a7 (dW H _ z [61]) ?_;refine a7 D ?_;rfl
    ·rw[aJ];simp only[jo,aRc];refine a7 (D0 H hi u k a t l) ?_;refine nG hq ?_;rw[Ze H hi];refine a7 (eY H (.g (i+2)) z [61] (.inr rfl)) ?_;refine a7 g2 ?_;rfl
    ·obtain⟨k1,q1,G,F,T,q5,_⟩:=f.good i' h;obtain⟨k2,U,q7,_⟩:=ft q1;cases U;subst F;refine⟨i0,rfl,by omega,rfl,?_,ra aUF,λ_ hh=>by omega⟩;rw[fD,gv,cy];simp only[An];omega
    ·obtain⟨⟨k1,q1⟩,G,F,T⟩:=f.dm j hj;obtain⟨k2,U,q7,_⟩:=ft q1;cases U;rw[q1]at G;have G:k1<j:=G;exact⟨⟨i0,rfl⟩,by show i0<j;omega,Of _,λ_=>DV aUF aUF aUF⟩
   | false=>
    obtain⟨c,x,y,D,g2,f⟩:=(E _ (Lt.g (show i0<i+1 by omega) O)).expr;have z:=kE f.ok [93];have hle:i0<=(wS ts c [93]).pos:=by have:=f.le;have q:=@gq ts c [93];have:i+1<=c.pos:=this;omega
    obtain⟨s',B,C,I,f2,J⟩:=rf H E u N (wS ts c [93]) (.mk 7 0 [] [.mk k a t l,x]) (.mk 7 0 [] [.mk k a t l,y]) z (mH _ _) hle (λr h2=>by
     obtain⟨i1,q1,G,F⟩:=ft h2;obtain⟨k1,T,q5,U,q7,q8,_⟩:=f.good i1 q1;cases T;subst U;have:=cd F;refine⟨by omega,rfl,mk _ _ _ _ _ aUE (by rw[aor,aos];exact inv.tg) ?_⟩;rw[gv,cy];simp only[An];omega)
    refine⟨s',B,C,?_,?_,J⟩
    ·have key:aW u (pS ts e (.g i)).fT (pS ts e (.g i)).fI (pS ts e (.g i)).ay (pS ts e (.g i)).ax [] k a t l=
       aW u (pS ts e (wS ts c [93])).fT (pS ts e (wS ts c [93])).fI (pS ts e (wS ts c [93])).ay (pS ts e (wS ts c [93])).ax [] 7 0 [] [.mk k a t l,x]:=by
      rw[aW];simp only[kg,aRj];refine dC (ck H o) ?_;cases u with
      | false=>
       refine cf are ?_;refine a7 D ?_;refine a7 (dW H _ f.ok [93]) ?_;rfl
      | true=>
       refine nG rfl ?_;cases Q:wv (.mk k a t l)with
       | false=>
        refine bm ((qk _).trans (congrArg some Q)) ?_;refine a7 D ?_;refine a7 (dW H _ f.ok [93]) ?_;rfl
       | true=>
        refine dC ((qk _).trans (congrArg some Q)) ?_
        have v:tw ts (i+1) [93]=false:=by
         unfold wR at hq;rw[o,inv.tg,Q,aSn,aRE,aRE]at hq;exact hq
        refine bm (aZ (w:=[93]) H P v) ?_;refine a7 D ?_;refine a7 (dW H _ f.ok [93]) ?_;rfl
     rw[show aW u (pS ts e (.g i)).fT (pS ts e (.g i)).fI (pS ts e (.g i)).ay (pS ts e (.g i)).ax [] (ae.mk k a t l).ah (ae.mk k a t l).aE (ae.mk k a t l).al (ae.mk k a t l).af=_ from key];exact I
    ·have key:aJ (!u) (qS ts e' (.g i)).aq (qS ts e' (.g i)).bF (qS ts e' (.g i)).ay (qS ts e' (.g i)).ax [] k a t l=
       aJ (!u) (qS ts e' (wS ts c [93])).aq (qS ts e' (wS ts c [93])).bF (qS ts e' (wS ts c [93])).ay (qS ts e' (wS ts c [93])).ax [] 7 0 [] [.mk k a t l,y]:=by
      rw[aJ];simp only[jo,aRc];refine a7 (D0 H hi u k a t l) ?_;refine cf (show ¬wR ts i (.mk k a t l) u=true by rw[hq];exact are) ?_;rw[du];refine dC (bL H o) ?_;refine a7 g2 ?_;refine a7 (eY H _ f.ok [93]) ?_;rfl
     rw[show aJ (!u) (qS ts e' (.g i)).aq (qS ts e' (.g i)).bF (qS ts e' (.g i)).ay (qS ts e' (.g i)).ax [] (ae.mk k a t l).ah (ae.mk k a t l).aE (ae.mk k a t l).al (ae.mk k a t l).af=_ from key];exact f2
  | false=>
   have hq:wR ts i (.mk k a t l) u=false:=by unfold wR;rw[o];rfl
   have A:¬wR ts i (.mk k a t l) u=true:=by rw[hq];exact are
   cases hc:tw ts i [45,62]with
   | true=>
    have O:=cd hc;have P:(JS.g (i+1)).Ok ts:=O;have hx:=jr H (.g (i+1)) 3;cases K:vu ts 3 (i+1)with
    | false=>
     have oz:(JS.b (i+1)).Ok ts:=O;refine⟨.b (i+1),.mk 8 0 [] [.mk k a t l],if tw ts (i+1) [40]=true then .mk 20 0 [] [.mk k a t l]else .mk 8 0 [] [.mk k a t l],.inr ?_,.inr ?_,Rs.b O aUE⟩
     ·rw[aW];simp only[kg,aRj];refine bm (aZ (w:=[91]) H hs o) ?_;refine dC (ck H hc) ?_;refine a7 (DX H P K) ?_;refine bm (dz H _ oz 6 [40] aUF) ?_;rw[aW];simp only[qh H,aRc];rfl
     ·rw[aJ];simp only[jo,aRc];refine a7 (D0 H hi u k a t l) ?_;refine cf A ?_;rw[du];refine bm (aF (w:=[91]) H hs o) ?_;refine dC (bL H hc) ?_;refine a7 (Pb H P K (.inr rfl)) ?_;cases p:tw ts (i+1) [40]with
      | true=>
       refine dC ((fF (e':=e') H (.b (i+1)) oz [40]).trans (by rw[show tw ts (JS.b (i+1)).pos [40]=true from p])) ?_;refine a7 (I7 H oz) ?_;refine a7 (iz (b:=56) (l:=[ae.mk k a t l]) (m:=[]) aUG) ?_;rw[aJ];simp only[jq,aRj];rfl
      | false=>
       refine bm ((fF (e':=e') H (.b (i+1)) oz [40]).trans (by rw[show tw ts (JS.b (i+1)).pos [40]=false from p])) ?_;rw[aJ];simp only[jq,aRj,atX,aRc];rfl
    | true=>
     have Bo:=Jc aUF K;have z:(JS.g (i+1+1)).Ok ts:=Bo;have a2:=uO H (i+1);have V:bT (pS ts e (.g (i+1))) 3=some (tx ts (i+1),pS ts e (.g (i+1+1))):=by rw[nu H (.g (i+1)) P 3,Ja K,I8 K]
     have W:bE (qS ts e' (.g (i+1))) 3=some (tx ts (i+1),qS ts e' (.g (i+1+1))):=by rw[nM H (.g (i+1)) P rfl 3 (.inr rfl),Ja K,I8 K]
     cases p:tw ts (i+1+1) [40]with
     | true=>
      obtain⟨c,X,L,D,g2,f⟩:=(E _ (Lt.g (show i0<i+1+1 by omega) Bo)).args [.mk k a t l] aUG;have ad:=f.lem;have ag:=okp f.ok;have hle:i0<=c.pos:=by have:i+1+1<=c.pos:=f.le;omega
      obtain⟨s',B,C,I,f2,J⟩:=rf H E u N c (.mk 20 0 (tx ts (i+1)) X) (.mk 20 0 (tx ts (i+1)) ([.mk k a t l]++L)) f.ok f.nd hle (λr h2=>by
       obtain⟨k1,q1,G,F,T⟩:=f.good r h2;cases q1;subst F;refine⟨by omega,rfl,mk _ _ _ _ _ aUE (ra aUF) ?_⟩;rw[fO,cy];omega)
      refine⟨s',B,C,?_,?_,J⟩
      ·have key:aW u (pS ts e (.g i)).fT (pS ts e (.g i)).fI (pS ts e (.g i)).ay (pS ts e (.g i)).ax [] k a t l=aW u (pS ts e c).fT (pS ts e c).fI (pS ts e c).ay (pS ts e c).ax [] 20 0 (tx ts (i+1)) X:=by
        rw[aW];simp only[kg,aRj];refine bm (aZ (w:=[91]) H hs o) ?_;refine dC (ck H hc) ?_;refine a7 V ?_;refine dC ((dz H _ z 6 [40] aUF).trans (by rw[show aS ts (.g (i+1+1)) 0 6 [40]=true from(aM H aUF aUF).trans p])) ?_;refine a7 D ?_;rfl
       rw[show aW u (pS ts e (.g i)).fT (pS ts e (.g i)).fI (pS ts e (.g i)).ay (pS ts e (.g i)).ax [] (ae.mk k a t l).ah (ae.mk k a t l).aE (ae.mk k a t l).al (ae.mk k a t l).af=_ from key];exact I
      ·have key:aJ (!u) (qS ts e' (.g i)).aq (qS ts e' (.g i)).bF (qS ts e' (.g i)).ay (qS ts e' (.g i)).ax [] k a t l=aJ (!u) (qS ts e' c).aq (qS ts e' c).bF (qS ts e' c).ay (qS ts e' c).ax [] 20 0 (tx ts (i+1)) ([.mk k a t l]++L):=by
        rw[aJ];simp only[jo,aRc];refine a7 (D0 H hi u k a t l) ?_;refine cf A ?_;rw[du];refine bm (aF (w:=[91]) H hs o) ?_;refine dC (bL H hc) ?_;refine a7 W ?_;refine dC ((fF (e':=e') H (.g (i+1+1)) z [40]).trans (by rw[show tw ts (JS.g (i+1+1)).pos [40]=true from p])) ?_;refine a7 g2 ?_;refine a7 (iz (b:=56) (l:=[ae.mk k a t l]) (m:=L) aUQ) ?_;rfl
       rw[show aJ (!u) (qS ts e' (.g i)).aq (qS ts e' (.g i)).bF (qS ts e' (.g i)).ay (qS ts e' (.g i)).ax [] (ae.mk k a t l).ah (ae.mk k a t l).aE (ae.mk k a t l).al (ae.mk k a t l).af=_ from key];exact f2
     | false=>
      obtain⟨s',B,C,I,f2,J⟩:=rf H E u N (.g (i+1+1)) (.mk 8 0 (tx ts (i+1)) [.mk k a t l]) (.mk 8 0 (tx ts (i+1)) [.mk k a t l]) z rfl (by show i0<=i+1+1;omega) (λr h2=>by
       cases h2;refine⟨by omega,rfl,mk _ _ _ _ _ aUE (ra aUF) ?_⟩;rw[cy];omega)
      refine⟨s',B,C,?_,?_,J⟩
      ·have key:aW u (pS ts e (.g i)).fT (pS ts e (.g i)).fI (pS ts e (.g i)).ay (pS ts e (.g i)).ax [] k a t l=aW u (pS ts e (.g (i+1+1))).fT (pS ts e (.g (i+1+1))).fI (pS ts e (.g (i+1+1))).ay (pS ts e (.g (i+1+1))).ax [] 8 0 (tx ts (i+1)) [.mk k a t l]:=by
        rw[aW];simp only[kg,aRj];refine bm (aZ (w:=[91]) H hs o) ?_;refine dC (ck H hc) ?_;refine a7 V ?_;refine bm ((dz H _ z 6 [40] aUF).trans (by rw[show aS ts (.g (i+1+1)) 0 6 [40]=false from(aM H aUF aUF).trans p])) ?_;rfl
       rw[show aW u (pS ts e (.g i)).fT (pS ts e (.g i)).fI (pS ts e (.g i)).ay (pS ts e (.g i)).ax [] (ae.mk k a t l).ah (ae.mk k a t l).aE (ae.mk k a t l).al (ae.mk k a t l).af=_ from key];exact I
      ·have key:aJ (!u) (qS ts e' (.g i)).aq (qS ts e' (.g i)).bF (qS ts e' (.g i)).ay (qS ts e' (.g i)).ax [] k a t l=aJ (!u) (qS ts e' (.g (i+1+1))).aq (qS ts e' (.g (i+1+1))).bF (qS ts e' (.g (i+1+1))).ay (qS ts e' (.g (i+1+1))).ax [] 8 0 (tx ts (i+1)) [.mk k a t l]:=by
        rw[aJ];simp only[jo,aRc];refine a7 (D0 H hi u k a t l) ?_;refine cf A ?_;rw[du];refine bm (aF (w:=[91]) H hs o) ?_;refine dC (bL H hc) ?_;refine a7 W ?_;refine bm ((fF (e':=e') H (.g (i+1+1)) z [40]).trans (by rw[show tw ts (JS.g (i+1+1)).pos [40]=false from p])) ?_;rfl
       rw[show aJ (!u) (qS ts e' (.g i)).aq (qS ts e' (.g i)).bF (qS ts e' (.g i)).ay (qS ts e' (.g i)).ax [] (ae.mk k a t l).ah (ae.mk k a t l).aE (ae.mk k a t l).al (ae.mk k a t l).af=_ from key];exact f2
   | false=>
    cases p:tw ts i [40]with
    | true=>
     obtain⟨c,X,L,D,g2,f⟩:=(E _ (Lt.g aa hi)).args [.mk k a t l] aUG;have ad:=f.lem;have ag:=okp f.ok;have hle:i0<=c.pos:=by have:i<=c.pos:=f.le;omega
     obtain⟨s',B,C,I,f2,J⟩:=rf H E u N c (.mk 19 0 [] X) (.mk 19 0 [] ([.mk k a t l]++L)) f.ok f.nd hle (λr h2=>by
      obtain⟨k1,q1,G,F,T⟩:=f.good r h2;cases q1;subst F;have M:=okp f.ok;rw[h2]at M;have M:r<=ts.length:=M;refine⟨by omega,rfl,mk _ _ _ _ _ aUE (ra aUF) ?_⟩;rw[fO,cy];simp only[An];have a3:=cd p;omega)
     refine⟨s',B,C,?_,?_,J⟩
     ·have key:aW u (pS ts e (.g i)).fT (pS ts e (.g i)).fI (pS ts e (.g i)).ay (pS ts e (.g i)).ax [] k a t l=aW u (pS ts e c).fT (pS ts e c).fI (pS ts e c).ay (pS ts e c).ax [] 19 0 [] X:=by
       rw[aW];simp only[kg,aRj];refine bm (aZ (w:=[91]) H hs o) ?_;refine bm (aZ (w:=[45,62]) H hs hc) ?_;refine dC ((dz H _ hs 6 [40] aUF).trans (by rw[show aS ts (.g i) 0 6 [40]=true from(aM H aUF aUF).trans p])) ?_;refine a7 D ?_;rfl
      rw[show aW u (pS ts e (.g i)).fT (pS ts e (.g i)).fI (pS ts e (.g i)).ay (pS ts e (.g i)).ax [] (ae.mk k a t l).ah (ae.mk k a t l).aE (ae.mk k a t l).al (ae.mk k a t l).af=_ from key];exact I
     ·have key:aJ (!u) (qS ts e' (.g i)).aq (qS ts e' (.g i)).bF (qS ts e' (.g i)).ay (qS ts e' (.g i)).ax [] k a t l=aJ (!u) (qS ts e' c).aq (qS ts e' c).bF (qS ts e' c).ay (qS ts e' c).ax [] 19 0 [] ([.mk k a t l]++L):=by
       rw[aJ];simp only[jo,aRc];refine a7 (D0 H hi u k a t l) ?_;refine cf A ?_;rw[du];refine bm (aF (w:=[91]) H hs o) ?_;refine bm (aF (w:=[45,62]) H hs hc) ?_;refine dC ((fF (e':=e') H (.g i) hs [40]).trans (by rw[show tw ts (JS.g i).pos [40]=true from p])) ?_;refine a7 g2 ?_;refine a7 (iz (b:=56) (l:=[ae.mk k a t l]) (m:=L) aUQ) ?_;rfl
      rw[show aJ (!u) (qS ts e' (.g i)).aq (qS ts e' (.g i)).bF (qS ts e' (.g i)).ay (qS ts e' (.g i)).ax [] (ae.mk k a t l).ah (ae.mk k a t l).aE (ae.mk k a t l).al (ae.mk k a t l).af=_ from key];exact f2
    | false=>
     refine⟨.g i,.mk k a t l,.mk k a t l,.inl ?_,.inl ?_,inv.rs hi⟩
     ·rw[aW];simp only[kg,aRj];refine bm (aZ (w:=[91]) H hs o) ?_;refine bm (aZ (w:=[45,62]) H hs hc) ?_;refine bm ((dz H _ hs 6 [40] aUF).trans (by rw[show aS ts (.g i) 0 6 [40]=false from(aM H aUF aUF).trans p])) ?_;rfl
     ·rw[aJ];simp only[jo,aRc];refine a7 (D0 H hi u k a t l) ?_;refine cf A ?_;rw[du];refine bm (aF (w:=[91]) H hs o) ?_;refine bm (aF (w:=[45,62]) H hs hc) ?_;refine bm ((fF (e':=e') H (.g i) hs [40]).trans (by rw[show tw ts (JS.g i).pos [40]=false from p])) ?_;rfl
theorem Lr (H:Tk ts e) {i:Nat} (hi:i<=ts.length) (c:∀s,Lt ts i s->PC ts e e' s) (u:Bool):C1 ts e e' true 1 (.g i) (λp=>dM p u) (λq=>cm q (!u)):=by
 obtain⟨b,n,m,f,g2,a⟩:=RZ H hi c
 have hd:b.nd=true:=by
  cases b with
  | d j=>have:=(a.dm j rfl).2.2.1;omega
  | _=>rfl
 obtain⟨s',h,k,l,f2,o⟩:=rf H c u (ts.length+1) b n m a.ok hd a.le (λt h1=>by
  subst h1;obtain⟨q1,r⟩:=a.inv;exact⟨by omega,q1,r⟩)
 refine⟨s',h,k,?_,?_,o⟩
 ·show dM (pS ts e (.g i)) u=_;rw[dM];refine a7 f ?_;exact l.run
 ·show cm (qS ts e' (.g i)) (!u)=_;rw[cm];refine a7 g2 ?_;exact f2.run
end
end Go.Am
