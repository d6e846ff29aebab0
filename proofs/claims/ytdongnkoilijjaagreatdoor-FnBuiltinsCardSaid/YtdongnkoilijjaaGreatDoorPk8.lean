/- Texts of the proof, joined and shortened. -/
import Derived.Test.YtdongnkoilijjaaGreatDoorPk7
set_option linter.unusedVariables false
set_option linter.unusedSimpArgs false
namespace Go.Am
open Go Go.RowKit Go.Proofs
theorem iV {α β:Type} {x:Option α} {f:α->Option β} (h:∃a,x=some a) (hf:∀a,∃r,f a=some r):∃r,(x>>=f)=some r:=by
 obtain⟨a,rfl⟩:=h;exact hf a
theorem fW {α:Type} {c:Prop} [Decidable c] {x y:Option α} (h1:c->∃r,x=some r) (h2:¬c->∃r,y=some r):∃r,(if c then x else y)=some r:=by
 split
 ·exact h1 ‹_›
 ·exact h2 ‹_›
theorem af.eta (e:af):af.mk e.aS e.bE=e:=by cases e;rfl
theorem ae.eta (v:ae):ae.mk v.aD v.aY v.bz v.cj v.aj=v:=by cases v;rfl
theorem aL.eta (k:aL):aL.mk k.bh k.aY k.bz=k:=rfl
inductive Sm:ae->Prop
 | mk {k n:Int} {s:aB} {x:Int} {l:List af} (h:l.length<=2000000) (hl:∀e∈l,Sm e.bE):Sm (.mk k n s x l)
theorem Sm.len {v:ae} (h:Sm v):v.aj.length<=2000000:=by cases h;assumption
theorem Sm.item {v:ae} (h:Sm v):∀e∈v.aj,Sm e.bE:=by cases h;assumption
theorem Sm.of {v:ae} (h:v.aj.length<=2000000) (a:∀e∈v.aj,Sm e.bE):Sm v:=by
 cases v;exact .mk h a
theorem Ef {v:ae} (h:Sm v):Ik v=some v:=by
 induction h with
 | mk f hi c=>
  rename_i k n s x l
  have go:∀m i:Nat,i<=l.length->l.length - i=m->ru (.mk k n s x l) (l.take i) (i:Int)=some l:=by
   intro m;induction m with
   | zero=>
    intro i h1 h2;have:i=l.length:=by omega
    rw[ru,ae.cQ,so aeP,this,acI]
   | succ m a=>
    intro i h1 h2;have b:i<l.length:=by omega
    have d:idx l (i:Int)=some l[i]:=a7 b
    rw[ru,ae.cQ,An aeP,d,sb,c _ (abu b),sb,
     ca (by rw[ach];simp only[abp,abr];omega),sb,af.eta,aci b,bJ aeP]
    exact a (i+1) aeP aeP
  have e:=go l.length 0 aeP aeP;rw[Ik];replace e:ru (.mk k n s x l) [] 0=some l:=e;rw[e];rfl
def vk (k:aL):Bool:=
 if k.bh=true then(if k.aY=0 then(if(k.bz.length:Int)<=400 then !(QA (sp k.bz)).2 else false)else false)
 else(if decide ((-1000000000:Int)<=k.aY/\k.aY<=1000000000)=true then(k.bz==([]:aB))else false)
theorem QB (k:aL):m23 k=some (vk k):=by
 unfold m23 vk;split
 ·rw[QC,sb];show(if k.aY=0 then _ else _)=_;split
  ·split<;>rfl
  ·rfl
 ·rw[pM,sb];split<;>rfl
theorem QD (s:aB):Og s (-1000000000) 1000000000=some (QA (sp s)):=by
 unfold Og;rw[UP];cases sp s<;>rfl
theorem QE (k:aL):Sp k=some (vk k):=by
 unfold Sp vk;split
 ·unfold LD;rw[QD,sb];show(if k.aY=0 then _ else _)=_;split
  ·split<;>rfl
  ·rfl
 ·split
  ·rename_i h;unfold Dx;rw[h];by_cases h1:(-1000000000:Int)<=k.aY
   ·rw[An h1,sb];by_cases h2:k.aY<=1000000000
    ·rw[An aeU,acd h2];rfl
    ·rw[so aeU,abV h2]
   ·rw[so h1,sb,so aeU]
  ·rename_i h;split
   ·rw[beq_eq_false_iff_ne.2 h]
   ·rfl
def At (l:List af) (k:aL) (r:Int):Prop:=
 (r= -1/\∀e∈l,e.aS≠k)\/∃j,∃h:j<l.length,r=(j:Int)/\l[j].aS=k/\∀i,∀hi:i<j,(l[i]'aeP).aS≠k
theorem At.uniq {l:List af} {k:aL} {r:Int} {j:Nat} (h:At l k r) (hj:j<l.length) (he:l[j].aS=k) (hf:∀i,∀hi:i<j,(l[i]'aeP).aS≠k):r=(j:Int):=by
 rcases h with⟨_,h⟩ | ⟨i,hi,e,h1,h2⟩
 ·exact absurd he (h _ (abu hj))
 ·rcases Nat.lt_trichotomy i j with a | a | a
  ·exact absurd h1 (hf i a)
  ·rw[e,a]
  ·exact absurd he (h2 j a)
theorem QF (v:ae) (k:aL) (c:v.aD=4) (g:v.aj.length<=4000000):∀m i:Nat,i<=v.aj.length->v.aj.length - i=m->
  (∀j,∀hj:j<i,∀d:j<v.aj.length,v.aj[j].aS≠k)->∃r,pj v k (i:Int)=some r/\((r=.inl ()/\∀e∈v.aj,e.aS≠k)\/∃q,r=.inr q/\At v.aj k q):=by
 intro m;induction m with
 | zero=>
  intro i h1 h2 a;rw[pj,An c,so aeP];refine⟨_,rfl,.inl ⟨rfl,λe he=>?_⟩⟩;obtain⟨j,hj,rfl⟩:=abQ.1 he;exact a j aeP hj
 | succ m b=>
  intro i h1 h2 a;have f:i<v.aj.length:=by omega
  rw[pj,An c,An aeP,a7 f,sb];by_cases he:v.aj[i].aS=k
  ·rw[An he];exact⟨_,rfl,.inr ⟨_,rfl,.inr ⟨i,f,rfl,he,λj hj=>a j hj aeP⟩⟩⟩
  ·rw[so he,bJ aeP];refine b (i+1) aeP aeP (λj hj d=>?_);rcases abU j i with h4 | h4
   ·exact a j h4 d
   ·obtain rfl:j=i:=by omega
    exact he
theorem JQ (v:ae) (k:aL) (a:v.aD=4) (b:v.aj.length<=4000000):∃r,DB v k=some r/\At v.aj k r:=by
 obtain⟨r,e,h⟩:=QF v k a b v.aj.length 0 aeP aeP (λj hj=>absurd hj (abR _));replace e:pj v k 0=some r:=e;unfold DB;rw[e,sb];rcases h with⟨rfl,h⟩ | ⟨q,rfl,h⟩
 ·exact⟨_,rfl,.inl ⟨rfl,h⟩⟩
 ·exact⟨_,rfl,h⟩
theorem MK (v:ae) (k:aL) (a:¬v.aD=4):DB v k=some (-1):=by
 unfold DB;rw[pj,so a];rfl
theorem Cf (v:ae) (k:aL) (b:v.aj.length<=4000000):∃r,DB v k=some r/\ -1<=r/\r<v.aj.length:=by
 by_cases a:v.aD=4
 ·obtain⟨r,e,h⟩:=JQ v k a b;refine⟨r,e,?_⟩;rcases h with⟨rfl,_⟩ | ⟨j,hj,rfl,_⟩<;>omega
 ·exact⟨_,MK v k a,by omega,by omega⟩
theorem QG (v:ae) (k:aL) (f:v.aj.length<=4000000):∀m i:Nat,i<=v.aj.length->v.aj.length - i=m->
  (∀j,∀hj:j<i,∀c:j<v.aj.length,v.aj[j].aS≠k)->∃r,rm v k (i:Int)=some r/\((r=.inl ()/\∀e∈v.aj,e.aS≠k)\/∃q,r=.inr q/\At v.aj k q):=by
 intro m;induction m with
 | zero=>
  intro i h1 h2 a;rw[rm,so aeP];refine⟨_,rfl,.inl ⟨rfl,λe he=>?_⟩⟩;obtain⟨j,hj,rfl⟩:=abQ.1 he;exact a j aeP hj
 | succ m b=>
  intro i h1 h2 a;have d:i<v.aj.length:=by omega
  rw[rm,An aeP,a7 d,sb];by_cases he:v.aj[i].aS=k
  ·rw[An he];exact⟨_,rfl,.inr ⟨_,rfl,.inr ⟨i,d,rfl,he,λj hj=>a j hj aeP⟩⟩⟩
  ·rw[so he,bJ aeP];refine b (i+1) aeP aeP (λj hj c=>?_);rcases abU j i with h4 | h4
   ·exact a j h4 c
   ·obtain rfl:j=i:=by omega
    exact he
theorem QH (v:ae) (k:aL) (a:v.aD=4) (b:v.aj.length<=4000000):∃r,N9 v k=some r/\At v.aj k r:=by
 obtain⟨r,e,h⟩:=QG v k b v.aj.length 0 aeP aeP (λj hj=>absurd hj (abR _));replace e:rm v k 0=some r:=e;unfold N9;rw[An a,e,sb];rcases h with⟨rfl,h⟩ | ⟨q,rfl,h⟩
 ·exact⟨_,rfl,.inl ⟨rfl,h⟩⟩
 ·exact⟨_,rfl,h⟩
theorem QI (a b:Int):S9 a b=some (if b>a then b else a):=by unfold S9;split<;>rfl
theorem Eg (a b:Int):LA a b=some (if b>a then b else a):=by unfold LA;split<;>rfl
theorem JR {l:List af} {k:aL} {i:Nat} (h:At l k (i:Int)) (hi:i<l.length):∀j,∀hj:j<i,(l[j]'aeP).aS≠k:=by
 rcases h with⟨h,_⟩ | ⟨j,hj,e,h1,h2⟩
 ·omega
 ·obtain rfl:i=j:=by omega
  exact h2
mutual
def ae.wt:ae->Nat | .mk _ _ _ _ l=>1+af.uS l
def af.wt:af->Nat | .mk _ v=>v.wt
def af.uS:List af->Nat | []=>0 | x::r=>x.wt+af.uS r
end
theorem ae.iC (v:ae):v.wt=1+af.uS v.aj:=by cases v;simp [ae.wt]
theorem af.iC (e:af):e.wt=e.bE.wt:=by cases e;simp [af.wt]
theorem jd (v:ae):1<=v.wt:=by rw[v.iC];omega
theorem kR:af.uS []=0:=by simp [af.uS]
theorem eR (x:af) (r:List af):af.uS (x::r)=x.bE.wt+af.uS r:=by rw[<-x.iC];simp [af.uS]
theorem sR:∀a b:List af,af.uS (a++b)=af.uS a+af.uS b
 | [],b=>by rw[acj,kR,abx]
 | x::r,b=>by rw[acz,eR,eR,sR r b];omega
theorem A2:∀(l:List af) (e:af),e∈l->e.bE.wt<=af.uS l
 | x::r,e,h=>by
  rw[eR];rcases abE.1 h with rfl | h
  ·omega
  ·have:=A2 r e h;omega
theorem vV:∀l:List af,l.length<=af.uS l
 | []=>by simp
 | x::r=>by rw[eR];have:=vV r;have:=jd x.bE;simp only[abp];omega
theorem FG:∀(l:List af) (i:Nat) (e:af),af.uS (l.set i e)<=af.uS l+e.bE.wt
 | [],i,e=>by simp [kR]
 | x::r,0,e=>by rw[acY,eR,eR];omega
 | x::r,i+1,e=>by rw[acZ,eR,eR];have:=FG r i e;omega
theorem Sm.Oo:∀(n:Nat),n<=2000000->∀v:ae,v.wt<=n->Sm v
 | 0,_,v,h=>by have:=jd v;omega
 | n+1,a,v,h=>by
  rw[v.iC]at h;refine Sm.of (by have:=vV v.aj;omega) (λe he=>Sm.Oo n aeP e.bE ?_);have:=A2 _ e he;omega
theorem FH {v:ae} (h:v.wt<=2000000):Sm v:=Sm.Oo _ (abn _) v h
theorem je {v:ae}:v.aj.length<v.wt:=by rw[v.iC];have:=vV v.aj;omega
theorem iW {v:ae} {e:af} (he:e∈v.aj):e.bE.wt<v.wt:=by rw[v.iC];have:=A2 _ e he;omega
mutual
def ae.kw:ae->Nat | .mk k _ _ _ l=>if k=4 then 1+af.yZ l else 1
def af.kw:af->Nat | .mk _ v=>v.kw
def af.yZ:List af->Nat | []=>0 | x::r=>x.kw+af.yZ r
end
theorem ae.nK (v:ae):v.kw=if v.aD=4 then 1+af.yZ v.aj else 1:=by cases v;unfold ae.kw;rfl
theorem af.nK (e:af):e.kw=e.bE.kw:=by cases e;simp [af.kw]
theorem oh:af.yZ []=0:=by simp [af.yZ]
theorem pN (x:af) (r:List af):af.yZ (x::r)=x.bE.kw+af.yZ r:=by rw[<-x.nK];simp [af.yZ]
theorem JS (n:Nat) (a:∀v:ae,v.wt<=n->v.kw<=v.wt):∀l:List af,af.uS l<=n->af.yZ l<=af.uS l
 | [],_=>by rw[oh];omega
 | x::r,h=>by
  rw[eR]at h;rw[pN,eR];have:=a x.bE aeP;have:=JS n a r aeP;omega
theorem FI:∀(n:Nat) (v:ae),v.wt<=n->v.kw<=v.wt
 | 0,v,h=>by have:=jd v;omega
 | n+1,v,h=>by
  have h':=h;rw[v.iC]at h';rw[v.nK,v.iC];split
  ·have:=JS n (FI n) v.aj aeP;omega
  ·omega
theorem JT (v:ae):v.kw<=v.wt:=FI _ v (abn _)
theorem QJ (v:ae):1<=v.kw:=by rw[v.nK];split<;>omega
theorem Cg {l:List af} {i:Nat} (h:i<l.length):af.yZ (l.drop i)=l[i].bE.kw+af.yZ (l.drop (i+1)):=by rw[aca h,pN]
theorem Eh {x:Int} {n:Nat} (h:x=(n:Int)) (a:n<9000000000000000000):aP x=(n:Int):=by subst h;rw[aP,pO aeP aeP]
theorem ue:∀(n:Nat),n<=2000000->∀v:ae,v.wt<=n->jx v=some (v.kw:Int)
 | 0,_,v,h=>by have:=jd v;omega
 | n+1,f,v,h=>by
  have hlen:=je (v:=v);have b:=JT v;rw[jx,v.nK];by_cases a:v.aD=4
  ·rw[v.nK,An a]at b
   have go:∀m i:Nat,i<=v.aj.length->v.aj.length - i=m->∀y:Nat,y+af.yZ (v.aj.drop i)=1+af.yZ v.aj->gp v (y:Int) (i:Int)=some ((1+af.yZ v.aj:Nat):Int):=by
    intro m;induction m with
    | zero=>
     intro i h1 h2 y hy;rw[gp,so aeP];rw[acC aeP,oh]at hy;rw[<-hy];rfl
    | succ m c=>
     intro i h1 h2 y hy;have d:i<v.aj.length:=by omega
     rw[Cg d]at hy;have g:=iW (abu d);rw[gp,An aeP,a7 d,sb,ue n aeP _ aeP,sb,bJ aeP,Eh (n:=y+v.aj[i].bE.kw) aeP aeP];exact c (i+1) aeP aeP _ aeP
   have e:=go v.aj.length 0 aeP aeP 1 aeR;replace e:gp v 1 0=some ((1+af.yZ v.aj:Nat):Int):=e;rw[An a,An a,e,sb]
  ·rw[so a,so a,sb];rfl
theorem Ch:∀(n:Nat),n<=2000000->∀v:ae,v.wt<=n->∀q:Int,-2000000<=q->q<=2000000->∃r:Nat,Oa v q=some (r:Int)/\r<=v.kw/\((v.kw:Int)<=q->r=v.kw)/\(q<(v.kw:Int)->q<(r:Int))
 | 0,_,v,h=>by have:=jd v;omega
 | n+1,s,v,h=>by
  intro q k l;have hlen:=je (v:=v);have o:=JT v;by_cases b:v.aD=4
  ·have d:v.kw=1+af.yZ v.aj:=by rw[v.nK,An b]
   have go:∀m i:Nat,i<=v.aj.length->v.aj.length - i=m->∀y:Nat,y+af.yZ (v.aj.drop i)<=v.kw->((y:Int)<=q->y+af.yZ (v.aj.drop i)=v.kw)->
     ∃r:Nat,pn v q (y:Int) (i:Int)=some (r:Int)/\r<=v.kw/\((v.kw:Int)<=q->r=v.kw)/\(q<(v.kw:Int)->q<(r:Int)):=by
    intro m;induction m with
    | zero=>
     intro i h1 h2 y hy a;rw[acC aeP,oh]at hy a;rw[pn,An b,so aeP];exact⟨y,rfl,by omega,λh=>by omega,λh=>by omega⟩
    | succ m f=>
     intro i h1 h2 y hy a;have j:i<v.aj.length:=by omega
     have t:=iW (abu j);rw[Cg j]at hy a;rw[pn,An b,An aeP];by_cases c:(y:Int)<=q
     ·have p:aP (q - (y:Int))=q - y:=by rw[aP,pO aeP aeP]
      obtain⟨r,e,u,g2,w⟩:=Ch n aeP v.aj[i].bE aeP (q - y) aeP aeP;rw[An c,a7 j,sb,p,e,sb,bJ aeP,Eh (n:=y+r) aeP aeP];exact f (i+1) aeP aeP _ aeP (λh=>by omega)
     ·rw[so c];exact⟨y,rfl,by omega,λh=>by omega,λh=>by omega⟩
   obtain⟨r,e,g⟩:=go v.aj.length 0 aeP aeP 1 aeU (λ_=>by simp;omega);replace e:pn v q 1 0=some (r:Int):=e;rw[Oa,e,sb];exact⟨r,rfl,g⟩
  ·have d:v.kw=1:=by rw[v.nK,so b]
   rw[Oa,pn,so b,sb];exact⟨1,rfl,by omega,λ_=>by omega,λh=>by omega⟩
mutual
def ae.pg:ae->Bool
 | .mk k n s x l=>(decide (k=3)||s==[])&&(decide (k=4)||(decide (x=0)&&l.isEmpty))&&
   (if k=0 then n==0 else if k=1 then(decide (n=0)||n==1)else if k=2 then decide (-1000000000<=n/\n<=1000000000)else if k=3 then(decide (n=0)&&decide ((s.length:Int)<=400))
    else if k=6\/k=7\/k=8 then decide (0<=n/\n<=255)else if k=4 then decide (n=0)&&decide (0<=x/\x<=1000000001)&&af.pP l x []else false)
def af.QK:af->Bool | .mk _ v=>v.pg
def af.pP:List af->Int->List aL->Bool
 | [],_,_=>true
 | e::r,x,seen=>vk e.aS&&(e.aS.bh||decide (e.aS.aY<x))&&!(decide (e.aS∈seen))&&e.QK&&af.pP r x (seen++[e.aS])
end
theorem ML (e:af):e.QK=e.bE.pg:=by cases e;simp [af.QK]
theorem xk (x:Int) (s:List aL):af.pP [] x s=true:=by simp [af.pP]
theorem zA (e:af) (r:List af) (x:Int) (s:List aL):af.pP (e::r) x s=(vk e.aS&&(e.aS.bh||decide (e.aS.aY<x))&&!(decide (e.aS∈s))&&e.bE.pg&&af.pP r x (s++[e.aS])):=by
 rw[<-ML];simp [af.pP]
theorem lq (k n:Int) (s:aB) (x:Int) (l:List af):(ae.mk k n s x l).pg=((decide (k=3)||s==[])&&(decide (k=4)||(decide (x=0)&&l.isEmpty))&&
   (if k=0 then n==0 else if k=1 then(decide (n=0)||n==1)else if k=2 then decide (-1000000000<=n/\n<=1000000000)else if k=3 then(decide (n=0)&&decide ((s.length:Int)<=400))
    else if k=6\/k=7\/k=8 then decide (0<=n/\n<=255)else if k=4 then decide (n=0)&&decide (0<=x/\x<=1000000001)&&af.pP l x []else false)):=by simp [ae.pg]
def VL (x:Int) (l:List af):Prop:=(∀e∈l,vk e.aS=true/\(e.aS.bh=true\/e.aS.aY<x)/\e.bE.pg=true)/\(l.map (·.aS)).Nodup
theorem Ci:∀(l:List af) (x:Int) (s:List aL),af.pP l x s=true↔VL x l/\∀e∈l,e.aS∉s
 | [],x,s=>by rw[xk];simp [VL]
 | e::r,x,s=>by
  rw[zA];simp only[Is,acr,abW,abH,decide_eq_false_iff_not,Ci r x (s++[e.aS]),VL,abE,forall_eq_or_imp,abF,adk,aby,acb,abN,not_or,not_exists,not_and];constructor
  ·rintro⟨⟨⟨⟨c,d⟩,f⟩,g⟩,⟨i,j⟩,k⟩;exact⟨⟨⟨⟨c,d,g⟩,i⟩,λx m he=>(k x m).2.1 he,j⟩,f,λa b=>(k a b).1⟩
  ·rintro⟨⟨⟨⟨c,d,g⟩,i⟩,n,j⟩,f,o⟩;exact⟨⟨⟨⟨c,d⟩,f⟩,g⟩,⟨i,j⟩,λa b=>⟨o a b,λh=>n a b h,List.not_mem_nil⟩⟩
theorem vW {v:ae} (a:v.aD=4):v.pg=true↔v.bz=[]/\v.aY=0/\(0<=v.cj/\v.cj<=1000000001)/\VL v.cj v.aj:=by
 cases v with
 | mk k n s x l=>
  simp only[ae.nL]at a;subst a;rw[lq];simp [Ci];intro _;rw[and_assoc]
theorem zB {κ β:Type} [DecidableEq κ]:∀(l:List (κ×β)) (k:κ) (v:β) (c:κ),jV (mm l k v) c=if c=k then some v else jV l c
 | [],k,v,c=>by
  unfold mm jV;by_cases h:c=k
  ·rw[An h,An h]
  ·rw[so h,so h];rfl
 | (a,b)::r,k,v,c=>by
  unfold mm;by_cases d:k=a
  ·rw[An d];subst d;simp only[jV];by_cases h:c=k
   ·rw[An h,An h]
   ·rw[so h,so h];rw[so h]
  ·rw[so d];simp only[jV,zB r k v c];by_cases h:c=a
   ·rw[An h,An h,so (by rw[h];exactλhe=>d he.symm)]
   ·rw[so h,so h]
theorem MM {κ β:Type} [DecidableEq κ] (l:List (κ×β)) (k:κ) (v:β) (a:κ) (z:β):LG (mm l k v) a z=if a=k then v else LG l a z:=by
 unfold LG;rw[zB];split<;>rfl
def uT (b:Bool):(Unit) ⊕ ((Unit) ⊕ Bool):=if b=true then .inl ()else .inr (.inr false)
theorem zC {l:List af} {x:Int} {i:Nat} (h:i<l.length):af.pP (l.drop i) x ((l.take i).map (·.aS))=
  (vk l[i].aS&&(l[i].aS.bh||decide (l[i].aS.aY<x))&&!(decide (l[i].aS∈(l.take i).map (·.aS)))&&l[i].bE.pg&&af.pP (l.drop (i+1)) x ((l.take (i+1)).map (·.aS))):=by
 rw[aca h,zA,<-aci h,acu];rfl
theorem JU {l:List af} {i:Nat} {k:aL} (hi:i<=l.length):k∈(l.take i).map (·.aS)↔∃j,∃h:j<i,(l[j]'aeP).aS=k:=by
 rw[abN];constructor
 ·rintro⟨e,he,rfl⟩;obtain⟨j,hj,rfl⟩:=abQ.1 he;rw[ach]at hj;exact⟨j,by omega,by rw[adr]⟩
 ·rintro⟨j,h,rfl⟩;exact⟨l[j]'aeP,abQ.2 ⟨j,by rw[ach];omega,by rw[adr]⟩,rfl⟩
theorem Cj:∀(n:Nat),n<=2000000->∀v:ae,v.wt<=n->Oc v=some v.pg
 | 0,_,v,h=>by have:=jd v;omega
 | n+1,G,v,h=>by
  have hlen:=je (v:=v);cases v with
  | mk k q s x l=>
   have loop:k=4->pt (.mk k q s x l) 0=some (uT (af.pP l x [])):=λz=>by
    have go:∀m i:Nat,i<=l.length->l.length - i=m->pt (.mk k q s x l) (i:Int)=some (uT (af.pP (l.drop i) x ((l.take i).map (·.aS)))):=by
     intro m;induction m with
     | zero=>
      intro i h1 h2;rw[pt,ae.cQ,so aeP,acC aeP,xk];rfl
     | succ m f=>
      intro i h1 h2;have b:i<l.length:=by omega
      have H:=iW (v:=.mk k q s x l) (e:=l[i]) (abu b);obtain⟨A,B,t⟩:=JQ (.mk k q s x l) l[i].aS z (show l.length<=4000000 by simp only[ae.cQ]at hlen;omega)
      have g:A=(i:Int)↔l[i].aS∉(l.take i).map (·.aS):=by
       rw[JU aeP];constructor
       ·rintro rfl ⟨j,hj,he⟩;exact JR t (show i<l.length from b) j hj he
       ·intro C;exact t.uniq (show i<l.length from b) rfl (λj hj he=>C ⟨j,hj,he⟩)
      rw[pt,ae.cQ,An aeP,a7 b,sb,QB,sb,B,sb,sb,Cj n aeP _ aeP,sb,zC b];have D:=f (i+1) aeP aeP;rw[bJ (by simp only[ae.cQ]at hlen;omega),D];cases E:vk l[i].aS with
      | false=>rfl
      | true=>
       simp only[acO,acL,ae.pQ,g];cases I:l[i].bE.pg with
       | false=>
        simp only[Bool.and_false,ado,acD,adp];repeat (first | rfl | split)
       | true=>
        simp only[acO,acR];cases J:l[i].aS.bh with
        | true=>
         simp only[acO,Bool.true_or,acL];by_cases hm:l[i].aS∈(l.take i).map (·.aS)
         ·rw[so (λh=>h hm),acd hm];rfl
         ·rw[An hm,abV hm];rfl
        | false=>
         simp only[acD,adp,Bool.false_or];by_cases a:l[i].aS.aY<x
         ·rw[so aeP,acd a];by_cases hm:l[i].aS∈(l.take i).map (·.aS)
          ·rw[so (λh=>h hm),acd hm];rfl
          ·rw[An hm,abV hm];rfl
         ·rw[An aeP,abV a];rfl
    exact go l.length 0 aeP aeP
   rw[Oc,lq];simp only[ae.nL,ae.vX,ae.vY,ae.pQ,ae.cQ,pM,sb];by_cases h4:k=4
   ·rw[loop h4];subst h4;by_cases hs:s=[]<;>by_cases o:q=0<;>by_cases a:0<=x/\x<=1000000001<;>cases af.pP l x []<;>simp [hs,o,a,sb,uT]
   ·by_cases c:k=3
    ·subst c;by_cases a:x=0<;>by_cases o:q=0<;>cases l<;>simp [a,o,sb]<;>try rfl
    ·by_cases hs:s=[]
     ·by_cases a:x=0
      ·cases l with
       | cons e r=>simp [c,h4,hs,a,sb]
       | nil=>
        by_cases h0:k=0
        ·subst h0;simp [hs,a,sb]
        ·by_cases h1:k=1
         ·subst h1;by_cases p:q=0
          ·subst p;simp [hs,a,sb]
          ·by_cases q1:q=1
           ·subst q1;simp [hs,a,sb]
           ·have d:¬(0<=q/\q<=1):=by omega
            have F:decide (0<=q/\q<=1)=false:=abV d;have K:decide (q=0)=false:=abV p;simp [hs,a,sb,p,q1,d];try omega
         ·by_cases h2:k=2
          ·subst h2;simp [hs,a,sb]
          ·by_cases u:k=6
           ·subst u;simp [hs,a,sb]
           ·by_cases w:k=7
            ·subst w;simp [hs,a,sb]
            ·by_cases y:k=8
             ·subst y;simp [hs,a,sb]
             ·simp [h0,h1,h2,c,h4,u,w,y,hs,a,sb]
      ·simp [c,h4,hs,a,sb]
     ·simp [c,h4,hs,sb]
theorem mV:∀(n:Nat),n<=2000000->∀v:ae,v.wt<=n->eh v=some v.pg
 | 0,_,v,h=>by have:=jd v;omega
 | n+1,D,v,h=>by
  have hlen:=je (v:=v);cases v with
  | mk k q s x l=>
   have loop:da (.mk k q s x l) [] 0=some (uT (af.pP l x [])):=by
    have go:∀m i:Nat,i<=l.length->l.length - i=m->∀f:List (aL×Bool),(∀k,LG f k false=true↔k∈(l.take i).map (·.aS))->da (.mk k q s x l) f (i:Int)=some (uT (af.pP (l.drop i) x ((l.take i).map (·.aS)))):=by
     intro m;induction m with
     | zero=>
      intro i h1 h2 f p;rw[da,ae.cQ,so aeP,acC aeP,xk];rfl
     | succ m t=>
      intro i h1 h2 f p;have j:i<l.length:=by omega
      have E:=iW (v:=.mk k q s x l) (e:=l[i]) (abu j);rw[da,ae.cQ,An aeP,a7 j,sb,QE,sb,mV n aeP _ aeP,sb,zC j]
      have B:=t (i+1) aeP aeP (mm f l[i].aS true) (λk=>by
       rw[MM,<-aci j,acu,aby,List.map_singleton,acb,<-p k];by_cases o:k=l[i].aS
       ·rw[An o];simp [o]
       ·rw[so o];simp [o])
      rw[bJ (by simp only[ae.cQ]at hlen;omega),B];cases C:vk l[i].aS with
      | false=>rfl
      | true=>
       simp only[acO,acL,ae.pQ,p];by_cases hm:l[i].aS∈(l.take i).map (·.aS)
       ·rw[An hm,acd hm];simp only[Bool.not_true,Bool.and_false,ado];rfl
       ·rw[so hm,abV hm];cases F:l[i].bE.pg with
        | false=>
         simp only[Bool.and_false,ado,acD,adp];repeat (first | rfl | split)
        | true=>
         simp only[acO,acR,Bool.not_false];cases G:l[i].aS.bh with
         | true=>simp only[acO,Bool.true_or,acL]
         | false=>
          simp only[acD,adp,Bool.false_or];by_cases d:l[i].aS.aY<x
          ·rw[so aeP,acd d];rfl
          ·rw[An aeP,abV d];rfl
    exact go l.length 0 aeP aeP [] (λk=>by simp [LG,jV])
   have Ck:∀a b c:Int,Dx a b c=some (decide (b<=a/\a<=c)):=λa b c=>by
    unfold Dx;by_cases h1:b<=a
    ·rw[An aeP];by_cases h2:a<=c
     ·simp [h1,h2]
     ·simp [h2]
    ·rw[so aeP];simp [h1]
   rw[eh,lq];simp only[ae.nL,ae.vX,ae.vY,ae.pQ,ae.cQ,Ck,sb];rw[loop];by_cases h4:k=4
   ·subst h4;by_cases hs:s=[]<;>by_cases u:q=0<;>by_cases d:0<=x/\x<=1000000001<;>cases af.pP l x []<;>simp [hs,u,d,sb,uT]
   ·by_cases g:k=3
    ·subst g;by_cases d:x=0<;>by_cases u:q=0<;>cases l<;>simp [d,u,sb]<;>try rfl
    ·by_cases hs:s=[]
     ·by_cases d:x=0
      ·cases l with
       | cons e r=>simp [g,h4,hs,d,sb]
       | nil=>
        by_cases h0:k=0
        ·subst h0;simp [hs,d,sb]
        ·by_cases h1:k=1
         ·subst h1;by_cases w:q=0
          ·subst w;simp [hs,d,sb]
          ·simp [hs,d,sb,w]
         ·by_cases h2:k=2
          ·subst h2;simp [hs,d,sb]
          ·by_cases y:k=6
           ·subst y;simp [hs,d,sb]
           ·by_cases z:k=7
            ·subst z;simp [hs,d,sb]
            ·by_cases A:k=8
             ·subst A;simp [hs,d,sb]
             ·simp [h0,h1,h2,g,h4,y,z,A,hs,d,sb]
      ·simp [g,h4,hs,d,sb]
     ·simp [g,h4,hs,sb]
inductive Nb:ae->Prop
 | mk {k n:Int} {s:aB} {x:Int} {l:List af} (h0: -1000000000000<=n) (h1:n<=1000000000000) (hi:∀e∈l,Nb e.bE):Nb (.mk k n s x l)
theorem Nb.num {v:ae} (h:Nb v): -1000000000000<=v.aY/\v.aY<=1000000000000:=by cases h;exact⟨by assumption,by assumption⟩
theorem Nb.item {v:ae} (h:Nb v):∀e∈v.aj,Nb e.bE:=by cases h;assumption
theorem A3 (v:ae):∃b,dm v=some b:=by
 unfold dm;by_cases h0:v.aD=0
 ·rw[An h0];exact⟨_,rfl⟩
 rw[so h0];by_cases h1:v.aD=1
 ·rw[An h1,sb];repeat' first | exact⟨_,rfl⟩ | split
 ·rw[so h1,sb];repeat' first | exact⟨_,rfl⟩ | split
theorem FJ (b:Bool):∃n,dt b=some n:=by cases b<;>exact⟨_,rfl⟩
theorem QL (a b:Int):dH a b=some (if a<b then -1 else if a>b then 1 else 0):=by unfold dH;repeat' first | rfl | split
theorem xl (a b:Int):∃n,dH a b=some n:=⟨_,QL a b⟩
theorem JV (a:Int):∃b,db a=some b:=by unfold db;split<;>exact⟨_,rfl⟩
theorem QM (s:aB) (hs:s.length<=10):∀m i:Nat,i<=s.length->s.length - i=m->∀y:Int,∃o,du s y (i:Int)=some o:=by
 intro m;induction m with
 | zero=>intro i h1 h2 y;rw[du,so aeP];exact⟨_,rfl⟩
 | succ m a=>
  intro i h1 h2 y;have c:i<s.length:=by omega
  obtain⟨b,d⟩:=JV ((s.getD i 0).toNat:Int);rw[du,An aeP,dD c,sb,d,sb];split
  ·rw[sb,bJ aeP];exact a (i+1) aeP aeP _
  ·exact⟨_,rfl⟩
theorem JW (s:aB):∃b,hZ s=some b/\(b=true->s.length<=11):=by
 have key:∀t:aB,(t.length<=10->s.length<=11)->∃b,(if(t.length:Int)<1 then some false else if(t.length:Int)>10 then some false else((du t 0 0:Option ((Int) ⊕ Bool))>>=λa=>match a with
   | .inr r=>some r
   | .inl d=>some (decide (d<=1000000000))))=some b/\(b=true->s.length<=11):=λt f=>by
  by_cases h1:(t.length:Int)<1
  ·rw[An h1];exact⟨_,rfl,λh=>by cases h⟩
  rw[so h1];by_cases h2:(t.length:Int)>10
  ·rw[An h2];exact⟨_,rfl,λh=>by cases h⟩
  rw[so h2];obtain⟨o,e⟩:=QM t aeP t.length 0 aeP aeP 0;replace e:du t 0 0=some o:=e;rw[e,sb];cases o<;>exact⟨_,rfl,λ_=>f aeP⟩
 unfold hZ;cases s with
 | nil=>
  rw[An rfl,sb];exact key [] (λ_=>by simp)
 | cons c r=>
  have g:fF (c::r) 0=some c:=dD (s:=c::r) (i:=0) aeR;rw[so aeR,g,sb];by_cases hc:(c.toNat:Int)=45
  ·have j:oO (c::r) 1=some r:=by
    unfold oO;rw[An (by simp only[abp];omega)];rfl
   rw[An hc,j,sb,sb];exact key r (λh=>by simp;omega)
  ·rw[so hc,sb];exact key (c::r) (λh=>by omega)
theorem FK (s:aB) (hs:s.length<=2000000):∀m i:Nat,i<=s.length->s.length - i=m->∀y:Int,0<=y->y<=1000000000->∃o,cr s (i:Int) y=some o/\0<=o/\o<=1000000000:=by
 intro m;induction m with
 | zero=>intro i h1 h2 y a y1;rw[cr,so aeP];exact⟨_,rfl,a,y1⟩
 | succ m b=>
  intro i h1 h2 y a y1;have d:i<s.length:=by omega
  have hc:=(s.getD i 0).toNat_lt;rw[cr,An aeP];simp only[dD d,sb];generalize hg:(s.getD i 0).toNat=g at*
  have c:db (g:Int)=some (decide (48<=g/\g<=57)):=by
   unfold db;by_cases q:(g:Int)>=48
   ·rw[An q];congr 1;simp only[adg];omega
   ·rw[so q,abV aeP]
  rw[c,sb];by_cases hd:48<=g/\g<=57
  ·have hw:aP ((aP (y*10))+(aP (IntKind.u8.wrap ((g:Int) - 48))))=y*10+((g:Int) - 48):=by
    have e:IntKind.u8.wrap ((g:Int) - 48)=(g:Int) - 48:=by rw[IntKind.wrap_u8];omega
    rw[e,aP,aP,aP,pO (x:=y*10) aeP aeP,pO (x:=(g:Int) - 48) aeP aeP,pO aeP aeP]
   have hm:∃q,lz (y*10+((g:Int) - 48)) 1000000000=some q/\0<=q/\q<=1000000000:=by
    unfold lz;split
    ·exact aeN
    ·exact aeN
   obtain⟨q,f,h,q1⟩:=hm;rw[acd hd,An rfl,hw,f,sb,bJ aeP];exact b (i+1) aeP aeP _ h q1
  ·rw[abV hd];exact⟨_,rfl,a,y1⟩
theorem zD (s:aB) (hs:s.length<=2000000):∃n,fm s=some n/\ -1000000000<=n/\n<=1000000000:=by
 unfold fm
 have fin:∀b:Bool,(b=true->1<=s.length)->∃n,(((if b=true then some 1 else some 0:Option (Int))>>=λd=>(cr s d 0:Option (Int))>>=λa=>(if b=true then some (aP (0 - a))else some a)))=some n/\ -1000000000<=n/\n<=1000000000:=λb f=>by
  cases b with
  | true=>
   obtain⟨o,e,g,o1⟩:=FK s hs (s.length - 1) 1 (f rfl) aeP 0 aeQ aeQ;replace e:cr s 1 0=some o:=e;rw[An rfl,sb,e,sb,An rfl];refine⟨_,rfl,?_⟩;rw[aP,pO aeP aeP];omega
  | false=>
   obtain⟨o,e,g,o1⟩:=FK s hs s.length 0 aeP aeP 0 aeQ aeQ;replace e:cr s 0 0=some o:=e;rw[so aeQ,sb,e,sb,so aeQ];exact⟨_,rfl,by omega,by omega⟩
 cases s with
 | nil=>rw[An rfl,sb];exact fin false (λh=>by cases h)
 | cons c r=>
  have j:fF (c::r) 0=some c:=dD (s:=c::r) (i:=0) aeR;rw[so aeR,j,sb,sb];exact fin _ (λ_=>by simp)
theorem xm (v:ae) (h:v.aD=3->v.bz.length<=2000000):∃n,jD v=some n/\((v.aD=2-> -1000000000<=v.aY/\v.aY<=1000000000)-> -1000000000<=n/\n<=1000000000):=by
 unfold jD;by_cases h2:v.aD=2
 ·rw[An h2];exact⟨_,rfl,λh=>h h2⟩
 rw[so h2];by_cases a:v.aD=3
 ·obtain⟨n,e,n0,n1⟩:=zD v.bz (h a);rw[An a,e,sb];exact⟨_,rfl,λ_=>⟨n0,n1⟩⟩
 ·obtain⟨b,e⟩:=A3 v;rw[so a,e,sb];split<;>exact⟨_,rfl,λ_=>by decide⟩
theorem xn (v:ae):∃p,iQ v=some p:=by
 unfold iQ
 have fin:∀b:Bool,(b=true->¬v.aD=3)->∃p,(if b=true then jD v>>=λd=>some (d,(0:Int))else(if v.aD=3 then hZ v.bz>>=λc=>(if c=true then fm v.bz>>=λf=>some (f,(0:Int))else some (0,2))else some (0,2)))=some p:=λb g=>by
  cases b with
  | true=>
   obtain⟨n,e,_⟩:=xm v (λa=>absurd a (g rfl));rw[An rfl,e,sb];exact⟨_,rfl⟩
  | false=>
   rw[so aeQ];by_cases a:v.aD=3
   ·obtain⟨b,e,i⟩:=JW v.bz;rw[An a,e,sb];cases b with
    | true=>
     obtain⟨n,e2,_⟩:=zD v.bz (by have:=i rfl;omega);rw[An rfl,e2,sb];exact⟨_,rfl⟩
    | false=>rw[so aeQ];exact⟨_,rfl⟩
   ·rw[so a];exact⟨_,rfl⟩
 by_cases h0:v.aD=0
 ·rw[An h0,sb];exact fin _ (λ_=>by omega)
 rw[so h0];by_cases h1:v.aD=1
 ·rw[An h1,sb];exact fin _ (λ_=>by omega)
 rw[so h1,sb];exact fin _ (λh=>by have:=eq_of_beq h;omega)
theorem zE {v:ae} (h:Nb v):∃p,gq v=some p:=by
 unfold gq;by_cases h0:v.aD=0
 ·rw[An h0];exact⟨_,rfl⟩
 rw[so h0];by_cases h1:v.aD=1
 ·rw[An h1];split<;>exact⟨_,rfl⟩
 rw[so h1];by_cases h2:v.aD=2
 ·have a:=h.num;have e:cK v.aY=some (Lib.itoa v.aY):=by unfold cK XB;rw[An aeP,sb]
  rw[An h2,e,sb];exact⟨_,rfl⟩
 rw[so h2];split<;>exact⟨_,rfl⟩
theorem FL (v:ae):∃b,eZ v=some b:=by unfold eZ;split<;>exact⟨_,rfl⟩
theorem JX (v u:ae):∃c,(dm v>>=λh=>dt h>>=λe=>dm u>>=λf=>dt f>>=λg=>dH e g>>=λi=>some i)=some c:=by
 obtain⟨a,j⟩:=A3 v;obtain⟨b,e2⟩:=FJ a;obtain⟨c,k⟩:=A3 u;obtain⟨d,l⟩:=FJ c;obtain⟨n,m⟩:=xl b d;rw[j,sb,e2,sb,k,sb,l,sb,m,sb];exact⟨_,rfl⟩
theorem Cl:∀(n:Nat),n<=2000000->∀v:ae,v.wt<=n->Nb v->∀u:ae,u.wt<=2000000->Nb u->∃c,bP v u=some c:=by
 intro n;induction n with
 | zero=>intro _ v hv;have:=jd v;omega
 | succ n C=>
  intro M v hv y u hu f
  have arr:∃c,im v u=some c:=by
   rw[im];by_cases z:(v.aj.length:Int)=(u.aj.length:Int)
   ·rw[An z];have N:=je (v:=v);have D:=je (v:=u)
    have go:∀m i:Nat,i<=v.aj.length->v.aj.length - i=m->∃o,cD v u (i:Int)=some o:=by
     intro m;induction m with
     | zero=>intro i h1 h2;rw[cD,so aeP];exact⟨_,rfl⟩
     | succ m j=>
      intro i h1 h2;have l:i<v.aj.length:=by omega
      have hi:=iW (v:=v) (abu l)
      have key:∃r,N9 u v.aj[i].aS=some r/\(r<0\/∃k:Nat,r=(k:Int)/\k<u.aj.length):=by
       by_cases d:u.aD=4
       ·obtain⟨r,e,E⟩:=QH u v.aj[i].aS d aeP;refine⟨r,e,?_⟩;rcases E with⟨h,_⟩ | ⟨k,F,h,_⟩
        ·exact .inl aeP
        ·exact .inr ⟨k,h,F⟩
       ·exact⟨-1,by rw[N9,so d],.inl aeQ⟩
      obtain⟨r,e,s⟩:=key;rw[cD,An aeP,a7 l,sb,e,sb];rcases s with s | ⟨k,rfl,d⟩
      ·rw[An s];exact⟨_,rfl⟩
      ·have hj:=iW (v:=u) (abu d);obtain⟨c,t⟩:=C aeP v.aj[i].bE aeP (y.item _ (abu l)) u.aj[k].bE aeP (f.item _ (abu d));rw[so aeP,a7 d,sb,t,sb];split
       ·rw[bJ aeP];exact j (i+1) aeP aeP
       ·exact⟨_,rfl⟩
    obtain⟨o,e⟩:=go v.aj.length 0 aeP aeP;replace e:cD v u 0=some o:=e;rw[e,sb];cases o<;>exact⟨_,rfl⟩
   ·obtain⟨c,e⟩:=xl (v.aj.length:Int) (u.aj.length:Int);rw[so z,e,sb];exact⟨_,rfl⟩
  have cs:∀a b:aB,∃c,(nH a b>>=λG=>some G)=some c:=λa b=>⟨_,rfl⟩;obtain⟨p,H⟩:=xn v;obtain⟨q,eq⟩:=xn u;obtain⟨A,w⟩:=zE y;obtain⟨B,x⟩:=zE f;obtain⟨s1,I⟩:=FL v;obtain⟨O,J⟩:=FL u;obtain⟨c,t⟩:=arr;obtain⟨K,P⟩:=p;obtain⟨q1,q2⟩:=q;obtain⟨A,Q⟩:=A;obtain⟨B,R⟩:=B;obtain⟨o1,L⟩:=xl K q1;have bit:=JX v u;have g:∀{c:Prop} [Decidable c] (a b:Bool),∃r,(if c then some a else some b)=some r:=λa b=>by split<;>exact⟨_,rfl⟩
  rw[bP];refine iV (g _ _) λS=>fW (λ_=>cs _ _) λ_=>iV (g _ _) λT=>fW (λ_=>cs _ _) λ_=>fW (λ_=>bit) λ_=>fW (λ_=>bit) λ_=>fW (λ_=>bit) λ_=>fW (λ_=>bit) λ_=>?_;rw[H,sb];dsimp only;rw[eq,sb];dsimp only;refine iV ?_ (λo=>?_)
  ·rw[L,sb]
   repeat' first | exact⟨_,rfl⟩ | split
  ·cases o with
   | inr r=>exact⟨_,rfl⟩
   | inl _=>
    dsimp only;refine iV ?_ (λb=>fW (λ_=>?_) (λ_=>iV (g _ _) λU=>fW (λ_=>?_) (λ_=>?_)))
    ·rw[I,sb,J,sb];exact g _ _
    ·rw[w,sb];dsimp only;rw[x,sb];exact cs _ _
    ·rw[t,sb];exact⟨_,rfl⟩
    ·repeat' first | exact⟨_,rfl⟩ | split
theorem JY (out:List ae) (x:ae) (hc:∀v∈out,∃c,bP v x=some c) (j:out.length<=2000000):∀i,i<=out.length->∃p:Nat,p<=i/\dY out x (i:Int)=some (p:Int)/\
  (∀k,∀a:k<out.length,p<=k->k<i->bP out[k] x=some 1)/\∀hp:p - 1<out.length,0<p->¬bP out[p - 1] x=some 1:=by
 intro i;induction i with
 | zero=>
  intro _;exact⟨0,abn _,by rw[dY,so aeP],λk _ _ h=>absurd h aeP,λ_ h=>absurd h aeP⟩
 | succ i f=>
  intro hi;have d:i<out.length:=by omega
  obtain⟨c,b⟩:=hc out[i] (abu d);have hw:aP (((i+1:Nat):Int) - 1)=(i:Int):=by rw[aP,pO aeP aeP];omega
  rw[dY,An aeP,hw,a7 d,sb,b,sb];by_cases h1:c=1
  ·rw[An h1];obtain⟨p,q1,q2,q3,q4⟩:=f aeP;refine⟨p,by omega,q2,λk a h2 e=>?_,q4⟩;by_cases g:k=i
   ·subst g;rw[b,h1]
   ·exact q3 k a h2 aeP
  ·rw[so h1];refine⟨i+1,abn _,rfl,λk a h2 e=>absurd e aeP,λhp _ h=>?_⟩;have:out[i+1 - 1]=out[i]:=by congr 1
   rw[this,b]at h;exact h1 (abP h)
theorem MN {l:List ae} (h:l.length<=2000000) (hg:∀v∈l,v.wt<=2000000/\Nb v):∃s,iD l=some s/\s.Perm l:=by
 have go:∀m i:Nat,i+m=l.length->∀out:List ae,out.Perm (l.take i)->∃s,dn l out (i:Int)=some s/\s.Perm l:=by
  intro m;induction m with
  | zero=>
   intro i hi out hp;obtain rfl:i=l.length:=by omega
   rw[acI]at hp;exact⟨out,by rw[dn,so aeP],hp⟩
  | succ m a=>
   intro i hi out hp;have b:i<l.length:=by omega
   have c:=hg _ (abu b);have d:∀v∈out,v∈l:=λv hv=>adl (hp.mem_iff.1 hv);have f:out.length=i:=by rw[hp.length_eq,ach];omega
   obtain⟨p,q1,q2,q3,q4⟩:=JY out l[i] (λv hv=>Cl 2000000 (abn _) v (hg v (d v hv)).1 (hg v (d v hv)).2 _ c.1 c.2) aeP out.length (abn _);have g:Ik l[i]=some l[i]:=Ef (FH aeP)
   have eI:sP out (p:Int) ([l[i]]:List ae)=some (out.take p++[l[i]]++out.drop p):=by
    unfold sP;rw[An ⟨by omega,by omega,rfl,by omega⟩,acq]
   rw[dn,An aeP,a7 b,sb,q2,sb,g,sb,eI,sb,sb,bJ aeP];refine a (i+1) aeP _ ?_
   have h1:(out.take p++[l[i]]++out.drop p).Perm (out++[l[i]]):=by
    rw[abS];refine(List.Perm.append_left (out.take p) (List.perm_append_comm (l₁:=[l[i]]) (l₂:=out.drop p))).trans ?_;rw[<-abS,List.take_append_drop]
   refine h1.trans ?_;rw[<-aci b];exact hp.append_right _
 obtain⟨s,e,h1⟩:=go l.length 0 aeP [] aeR;replace e:dn l [] 0=some s:=e;unfold iD;rw[e,sb];exact⟨s,rfl,h1⟩
theorem jo {n:Int} (h0: -1000000000000<=n) (h1:n<=1000000000000):(Lib.itoa n).length<=14:=by
 unfold Lib.itoa;split
 ·simp only[abp];rw[Lib.decDigits_length];have:=om 12 n.natAbs afa;omega
 ·rw[Lib.decDigits_length];have:=om 12 n.toNat afa;omega
theorem Cm (s:aB) (lo hi:Int):∃n b,Og s lo hi=some (n,b)/\(b=true->lo<=n/\n<=hi)/\(b=false->n=0):=by
 unfold Og;cases h:pw s lo hi with
 | none=>exact⟨0,false,rfl,λh=>(Bool.noConfusion h),λ_=>rfl⟩
 | some n=>
  refine⟨n,true,rfl,λ_=>?_,λh=>Bool.noConfusion h⟩;unfold pw at h;split at h
  ·cases h
  ·split at h
   ·split at h
    ·rename_i h1;cases h;exact h1.2
    ·cases h
   ·cases h
theorem QO {n:Int} (h0: -9223372036854775808<=n) (h1:n<=9223372036854775807):XB n=some (Lib.itoa n):=An ⟨h0,h1⟩
theorem dE {a b:aB} (h:a.length+b.length<=4611686018427387904):ja a b=some (a++b):=An h
mutual
def ae.plain:ae->Bool | .mk k _ _ _ l=>if k=4 then af.jW l else decide (0<=k/\k<=3)
def af.JZ:af->Bool | .mk _ v=>v.plain
def af.jW:List af->Bool | []=>true | x::r=>x.JZ&&af.jW r
end
theorem nM (v:ae):v.plain=if v.aD=4 then af.jW v.aj else decide (0<=v.aD/\v.aD<=3):=by cases v;unfold ae.plain;rfl
theorem uU (x:af) (r:List af):af.jW (x::r)=(x.bE.plain&&af.jW r):=by cases x;simp [af.jW,af.JZ]
theorem Ei:af.jW []=true:=by simp [af.jW]
theorem rF:∀(l:List af),af.jW l=true->∀e∈l,e.bE.plain=true
 | x::r,h,e,he=>by
  rw[uU,Is]at h;rcases abE.1 he with rfl | he
  ·exact h.1
  ·exact rF r h.2 e he
theorem Cn {l:List af} {i:Nat} (h:i<l.length):af.jW (l.drop i)=(l[i].bE.plain&&af.jW (l.drop (i+1))):=by rw[aca h,uU]
theorem Ck (a b c:Int):Dx a b c=some (decide (b<=a/\a<=c)):=by
 unfold Dx;by_cases h1:b<=a
 ·rw[An aeP];by_cases h2:a<=c
  ·simp [h1,h2]
  ·simp [h2]
 ·rw[so aeP];simp [h1]
theorem xo:∀(n:Nat),n<=2000000->∀v:ae,v.wt<=n->iw v=some v.plain
 | 0,_,v,h=>by have:=jd v;omega
 | n+1,d,v,h=>by
  have hlen:=je (v:=v)
  have loop:fh v 0=some (uT (af.jW v.aj)):=by
   have go:∀m i:Nat,i<=v.aj.length->v.aj.length - i=m->fh v (i:Int)=some (uT (af.jW (v.aj.drop i))):=by
    intro m;induction m with
    | zero=>
     intro i h1 h2;rw[fh,so aeP,acC aeP,Ei];rfl
    | succ m b=>
     intro i h1 h2;have c:i<v.aj.length:=by omega
     have e:=iW (abu c);rw[fh,An aeP,a7 c,sb,xo n aeP _ aeP,sb,bJ aeP,b (i+1) aeP aeP,Cn c];cases v.aj[i].bE.plain<;>rfl
   exact go v.aj.length 0 aeP aeP
  rw[iw,nM,loop,Ck];by_cases a:v.aD=4
  ·rw[An a,An a];cases af.jW v.aj<;>rfl
  ·rw[so a,so a];rfl
def Ej (k:aL):ae:=if k.bh=true then .mk 3 0 k.bz 0 []else .mk 2 k.aY [] 0 []
def UW (s:aB):aB:=[115,58]++Lib.itoa (s.length:Int)++[58]++s++[59]
def oq (k:aL):aB:=if k.bh=true then UW k.bz else[105,58]++Lib.itoa k.aY++[59]
mutual
def ae.LN:ae->aB
 | .mk k n s x l=>if k=0 then[78,59]else if k=1 then[98,58]++Lib.itoa n++[59]else if k=2 then[105,58]++Lib.itoa n++[59]else if k=3 then UW s
   else[97,58]++Lib.itoa (l.length:Int)++[58]++Lib.itoa x++[123]++af.vF l++[125]
def af.UX:af->aB | .mk k v=>oq k++v.LN
def af.vF:List af->aB | []=>[] | x::r=>x.UX++af.vF r
end
theorem Co:af.vF []=[]:=by simp [af.vF]
theorem ug (x:af) (r:List af):af.vF (x::r)=oq x.aS++x.bE.LN++af.vF r:=by cases x;simp [af.vF,af.UX]
theorem xp (v:ae):v.LN=if v.aD=0 then[78,59]else if v.aD=1 then[98,58]++Lib.itoa v.aY++[59]else if v.aD=2 then[105,58]++Lib.itoa v.aY++[59]else if v.aD=3 then UW v.bz
   else[97,58]++Lib.itoa (v.aj.length:Int)++[58]++Lib.itoa v.cj++[123]++af.vF v.aj++[125]:=by cases v;unfold ae.LN;rfl
theorem J0 (k:aL):(Ej k).LN=oq k:=by
 unfold Ej oq;split<;>· rw[xp];rfl
theorem xq {v:ae} (h:v.pg=true) (hp:v.plain=true):(v.aD=4\/(0<=v.aD/\v.aD<=3/\v.aj=[]/\v.cj=0/\ -1000000000<=v.aY/\v.aY<=1000000000/\v.bz.length<=400/\(v.aD≠3->v.bz=[])/\(v.aD=0->v.aY=0)/\(v.aD=3->v.aY=0))):=by
 cases v with
 | mk k n s x l=>
  simp only[ae.nL,ae.vX,ae.vY,ae.pQ,ae.cQ];by_cases h4:k=4
  ·exact .inl h4
  rw[nM]at hp;rw[so (show ¬(ae.mk k n s x l).aD=4 from h4),abH]at hp;simp only[ae.nL]at hp;rw[lq]at h;simp only[Is,acr,abH,ack,List.isEmpty_iff]at h;obtain⟨⟨h1,h2⟩,a⟩:=h;obtain⟨b,c⟩:=h2.resolve_left h4;refine .inr ⟨hp.1,hp.2,c,b,?_⟩;have d:k=0\/k=1\/k=2\/k=3:=by omega
  rcases d with rfl | rfl | rfl | rfl
  ·have hs:=h1.resolve_left aeQ;simp at a;subst a hs;exact⟨by omega,by omega,by simp,λ_=>rfl,λ_=>rfl,λh=>absurd h aeQ⟩
  ·have hs:=h1.resolve_left aeQ;simp at a;subst hs;exact⟨by omega,by omega,by simp,λ_=>rfl,λh=>absurd h aeQ,λh=>absurd h aeQ⟩
  ·have hs:=h1.resolve_left aeQ;simp at a;subst hs;exact⟨by omega,by omega,by simp,λ_=>rfl,λh=>absurd h aeQ,λh=>absurd h aeQ⟩
  ·simp at a;exact⟨by omega,by omega,by omega,λh=>absurd rfl h,λh=>absurd h aeQ,λ_=>a.1⟩
theorem zF {k:aL} (h:vk k=true):(k.bh=true/\k.aY=0/\k.bz.length<=400/\(QA (sp k.bz)).2=false)\/(k.bh=false/\ -1000000000<=k.aY/\k.aY<=1000000000/\k.bz=[]):=by
 unfold vk at h;split at h
 ·rename_i b;split at h
  ·rename_i a;split at h
   ·rename_i c;exact .inl ⟨b,a,by omega,by simpa using h⟩
   ·cases h
  ·cases h
 ·rename_i b;split at h
  ·rename_i a;have a:=adt a;exact .inr ⟨by simpa using b,a.1,a.2,by simpa using h⟩
  ·cases h
theorem FM {s:aB} (h:s.length<=400):(UW s).length<=420:=by
 have:=jo (n:=(s.length:Int)) aeP aeP;unfold UW;simp only[abt,abp,abr];omega
theorem uV {k:aL} (h:vk k=true):(oq k).length<=420:=by
 unfold oq;rcases zF h with⟨h1,_,h2,_⟩ | ⟨h1,h2,a,_⟩
 ·rw[An h1];exact FM h2
 ·have:=jo (n:=k.aY) aeP aeP;rw[so (by rw[h1];decide)];simp only[abt,abp,abr];omega
theorem vZ:∀(n:Nat),n<=2000000->∀v:ae,v.wt<=n->v.pg=true->v.plain=true->v.LN.length+420<=840*v.wt
 | 0,_,v,h,_,_=>by have:=jd v;omega
 | n+1,o,v,h,hv,hp=>by
  have hw:=jd v;have hlen:=je (v:=v);rw[xp];rcases xq hv hp with a | ⟨p,q,s,t,n0,n1,hs,_⟩
  ·obtain⟨u,e2,⟨w,x⟩,⟨b,y⟩⟩:=(vW a).1 hv;rw[nM,An a]at hp;have pl:=rF _ hp
   have d:∀l:List af,(∀e∈l,e.bE.wt<=n/\vk e.aS=true/\e.bE.pg=true/\e.bE.plain=true)->(af.vF l).length<=840*af.uS l:=by
    intro l;induction l with
    | nil=>intro _;rw[Co];simp
    | cons e r f=>
     intro c;obtain⟨g,i,j,k⟩:=c e aeR;have h1:=uV i;have h2:=vZ n aeP e.bE g j k;have m:=f (λe he=>c e (abz _ he));rw[ug,eR];simp only[abt];omega
   have h1:=d v.aj (λe he=>⟨by have:=iW he;omega,(b e he).1,(b e he).2.2,pl e he⟩);have h2:=jo (n:=(v.aj.length:Int)) aeP aeP;have m:=jo (n:=v.cj) aeP aeP;rw[so aeP,so aeP,so aeP,so aeP,v.iC];simp only[abt,abp,abr];omega
  ·have h1:=jo (n:=v.aY) aeP aeP;have h2:=FM hs;split
   ·simp;omega
   split
   ·simp only[abt,abp,abr];omega
   split
   ·simp only[abt,abp,abr];omega
   split
   ·omega
   ·omega
theorem uh {n:Int} (h0: -1000000000000<=n) (h1:n<=1000000000000):cK n=some (Lib.itoa n):=by
 unfold cK;rw[QO aeP aeP,sb]
theorem J1 (k:aL):gP k=some (Ej k):=by unfold gP Ej;split<;>rfl
theorem UY (k:aL):(Ej k).wt=1:=by unfold Ej;split<;>(rw[ae.iC];rfl)
theorem UZ (k:aL):(Ej k).kw=1:=by unfold Ej;split<;>(rw[ae.nK];rfl)
theorem J2 {k:aL} (h:vk k=true):(Ej k).pg=true/\(Ej k).plain=true:=by
 unfold Ej;rcases zF h with⟨h1,_,h2,_⟩ | ⟨h1,h2,a,_⟩
 ·rw[An h1,lq,nM];simp;omega
 ·rw[so (by rw[h1];decide),lq,nM];simp;omega
theorem Ek:∀(n:Nat),n<=2000000->∀v:ae,v.wt<=n->v.pg=true->v.plain=true->∀b:aB,b.length+v.LN.length<=1000000000000->cO b v=some (b++v.LN)
 | 0,_,v,h,_,_=>by have:=jd v;omega
 | n+1,r,v,h,hv,hp=>by
  intro b c;have hw:=jd v;have hlen:=je (v:=v);have k:=vZ _ r v h hv hp;rcases xq hv hp with l | ⟨y,z,A,B,n0,n1,hs,_⟩
  ·obtain⟨C,e2,⟨D,E⟩,⟨s,F⟩⟩:=(vW l).1 hv;have o:=hp;rw[nM,An l]at o;have pl:=rF _ o
   have go:∀m i:Nat,i<=v.aj.length->v.aj.length - i=m->∀b:aB,b.length+(af.vF (v.aj.drop i)).length<=1000000000000->cR v b (i:Int)=some (b++af.vF (v.aj.drop i)):=by
    intro m;induction m with
    | zero=>
     intro i h1 h2 b c;rw[cR,so aeP,acC aeP,Co,acG]
    | succ m j=>
     intro i h1 h2 b c;have a:i<v.aj.length:=by omega
     have G:=iW (abu a);obtain⟨p,H,q⟩:=s _ (abu a);obtain⟨t,u⟩:=J2 p;have I:=uV p;have w:=jd v.aj[i].bE;have J:=vZ n aeP v.aj[i].bE aeP q (pl _ (abu a));rw[aca a,ug]at c;simp only[abt]at c;rw[cR,An aeP,a7 a,sb,J1,sb];cases n with
     | zero=>omega
     | succ n=>
      rw[Ek (n+1) aeP (Ej v.aj[i].aS) (by rw[UY];omega) t u b (by rw[J0];omega),sb,J0,
       Ek (n+1) aeP v.aj[i].bE aeP q (pl _ (abu a)) (b++oq v.aj[i].aS) (by rw[abt];omega),sb,bJ aeP,
       j (i+1) aeP aeP _ (by simp only[abt];omega),aca a,ug]
      simp
   have h2:=jo (n:=(v.aj.length:Int)) aeP aeP;have K:=jo (n:=v.cj) aeP aeP;have x:=v.iC;have hd:v.aj.drop 0=v.aj:=rfl;rw[xp,so aeP,so aeP,so aeP,so aeP]at c k;simp only[abt,abp,abr]at c k
   have e:=go v.aj.length 0 aeP aeP (b++([97,58]++Lib.itoa (v.aj.length:Int)++[58]++Lib.itoa v.cj++[123])) (by
    rw[hd];simp only[abt,abp,abr];omega)
   replace e:cR v (b++([97,58]++Lib.itoa (v.aj.length:Int)++[58]++Lib.itoa v.cj++[123])) 0=some ((b++([97,58]++Lib.itoa (v.aj.length:Int)++[58]++Lib.itoa v.cj++[123]))++af.vF v.aj):=e
   rw[cO,so aeP,so aeP,so aeP,so aeP,uh aeP aeP,sb,
    dE aeT,sb,dE aeW,sb,uh aeP aeP,sb,
    dE aeW,sb,dE aeW,sb,
    ca aeW,sb,e,sb,ca aeW,sb,xp,
    so aeP,so aeP,so aeP,so aeP]
   simp
  ·have h1:=jo (n:=v.aY) aeP aeP;have h2:=jo (n:=(v.bz.length:Int)) aeP aeP;rw[cO,xp];by_cases d:v.aD=0
   ·rw[An d,An d,ca aeT,sb]
   rw[so d,so d];by_cases f:v.aD=1
   ·rw[An f,An f,uh aeP aeP,sb,dE aeT,sb,dE aeW,sb,
     ca aeW,sb]
   rw[so f,so f];by_cases g:v.aD=2
   ·rw[An g,An g,uh aeP aeP,sb,dE aeT,sb,dE aeW,sb,
     ca aeW,sb]
   rw[so g,so g,An aeP,An aeP,uh aeP aeP,sb,dE aeT,sb,dE aeW,sb,
    dE aeW,sb,dE aeW,sb,
    ca aeW,sb]
   rfl
theorem ot {v:ae} (h:v.wt<=2000000):eV v=some (if(decide (v.kw<=200)&&v.pg)&&v.plain then(v.LN,true)else([],false)):=by
 unfold eV
 have e:gL v=some (decide (v.kw<=200)&&v.pg):=by
  unfold gL;rw[ue _ (abn _) v h,sb,mV _ (abn _) v h];by_cases h:v.kw<=200
  ·rw[An aeP,sb,acd h];rfl
  ·rw[so aeP,abV h];rfl
 rw[e,sb];cases h1:(decide (v.kw<=200)&&v.pg)with
 | false=>rfl
 | true=>
  simp only[Is]at h1;rw[An rfl,xo _ (abn _) v h,sb];cases h2:v.plain with
  | false=>rfl
  | true=>rw[An rfl,Ek _ (abn _) v h h1.2 h2 [] (by have:=vZ _ (abn _) v h h1.2 h2;simp only[abr];omega),sb];rfl
def Rd (s:aB) (a:Nat) (b:Bool) (r:aq) (q:Nat):Prop:=r.fS=s/\∃c:Nat,r.lE=(c:Int)/\a<=c/\c<=s.length/\(r.fX=false->b=false/\a+q<=c)
theorem Rd.bad {s:aB} {a:Nat} {b:Bool} (h:a<=s.length) (q:Nat):Rd s a b (.mk s (a:Int) true) q:=⟨rfl,a,rfl,abn _,h,λh=>Bool.noConfusion h⟩
theorem wa {s d:aB} {a:Nat} {b:Bool} (h:a<=s.length) (hs:s.length<=1000000000000):∃r,bK (.mk s (a:Int) b) d=some r/\Rd s a b r d.length:=by
 unfold bK;have e:oO s (a:Int)=some (s.drop a):=by unfold oO;rw[An ⟨by omega,by omega⟩,acq]
 show ∃r,(oO s (a:Int)>>=_)=some r/\_;rw[e,sb];unfold YV;rw[sb];by_cases hp:Lib.hasPrefix (s.drop a) d=true
 ·have f:d <+: s.drop a:=List.isPrefixOf_iff_prefix.1 hp;have g:=f.length_le;rw[adx]at g;rw[An hp];by_cases hd:d.length=0
  ·exact⟨_,rfl,rfl,a,by show aP ((a:Int)+(d.length:Int))=_;rw[hd];exact Eh aeR aeP,abn _,h,λc=>⟨c,by omega⟩⟩
  ·exact⟨_,rfl,rfl,a+d.length,Eh aeR aeP,by omega,by omega,λc=>⟨c,by omega⟩⟩
 ·rw[so hp];exact⟨_,rfl,Rd.bad h _⟩
theorem ui {s:aB} {a:Nat} {b:Bool} (c:Int) (h:a<=s.length) (hs:s.length<=1000000000000):∃d r,bI (.mk s (a:Int) b) c=some (d,r)/\Rd s a b r 1:=by
 have f:=Eh (x:=(a:Int)+20) (n:=a+20) aeP aeP
 have go:∀m j:Nat,j<=20->20 - j=m->a+j<=s.length+20->∃o,bx (.mk s (a:Int) b) c ((a+j:Nat):Int)=some o/\(o=.inl ()\/∃d r,o=.inr (d,r)/\Rd s a b r 1):=by
  intro m;induction m with
  | zero=>
   intro j h1 h2 i;rw[bx];show ∃o,(if((a+j:Nat):Int)<(s.length:Int)then(if((a+j:Nat):Int)<aP ((a:Int)+20)then _ else _)else _)=some o/\_;rw[f];split
   ·rw[so aeP];exact⟨_,rfl,.inl rfl⟩
   ·exact⟨_,rfl,.inl rfl⟩
  | succ m g=>
   intro j h1 h2 i;rw[bx];show ∃o,(if((a+j:Nat):Int)<(s.length:Int)then(if((a+j:Nat):Int)<aP ((a:Int)+20)then _ else _)else _)=some o/\_;rw[f];split
   ·rename_i q;rw[An aeP,dD (show a+j<s.length by omega),sb];split
    ·have e:pG s (a:Int) ((a+j:Nat):Int)=some ((s.take (a+j)).drop a):=by unfold pG;rw[An ⟨by omega,by omega,by omega⟩];rfl
     show ∃o,(pG s (a:Int) ((a+j:Nat):Int)>>=_)=some o/\_;rw[e,sb,bJ aeP];exact⟨_,rfl,.inr ⟨_,_,rfl,rfl,a+j+1,rfl,by omega,by omega,λk=>⟨k,by omega⟩⟩⟩
    ·rw[bJ aeP];exact g (j+1) aeP aeP aeP
   ·exact⟨_,rfl,.inl rfl⟩
 obtain⟨o,e,l⟩:=go 20 0 aeP aeP aeP;replace e:bx (.mk s (a:Int) b) c (a:Int)=some o:=e;unfold bI;show ∃d r,(bx (.mk s (a:Int) b) c (a:Int)>>=_)=some (d,r)/\_;rw[e,sb];rcases l with rfl | ⟨d,r,rfl,p⟩
 ·exact⟨_,_,rfl,Rd.bad h _⟩
 ·exact⟨_,_,rfl,p⟩
theorem zG (s:aB):∃n b,fY s=some (n,b)/\0<=n/\n<=1000000000000:=by
 obtain⟨n,b,e,h1,h2⟩:=Cm s 0 1000000000000;unfold fY;rw[e,sb];refine⟨n,b,rfl,?_⟩;cases b with
 | true=>exact h1 rfl
 | false=>rw[h2 rfl];omega
theorem zH {s:aB} {a:Nat} {b:Bool} (h:a<=s.length) (hs:s.length<=1000000000000):∃n r,cm (.mk s (a:Int) b)=some (n,r)/\0<=n/\n<=1000000000000/\Rd s a b r 1:=by
 obtain⟨d,r,e,l⟩:=ui (b:=b) 58 h hs;obtain⟨n,g,e2,h0,h1⟩:=zG d;obtain⟨r1,f,i,j,k,m⟩:=l;unfold cm;rw[e,sb];show ∃n r,(fY d>>=_)=some (n,r)/\_;rw[e2,sb];show ∃o p,(if r.fX=true then _ else _)=some (o,p)/\_;by_cases c:r.fX=true
 ·rw[An c];exact⟨_,_,rfl,h0,h1,r1,f,i,j,k,λc=>Bool.noConfusion c⟩
 ·rw[so c];exact⟨_,_,rfl,h0,h1,r1,f,i,j,k,λ_=>m (by simpa using c)⟩
theorem xr (s:aB):∃n b,LD s=some (n,b):=by
 obtain⟨n,b,e,_⟩:=Cm s (-1000000000) 1000000000;unfold LD;rw[e,sb];exact⟨n,b,rfl⟩
theorem Hu (v:ae):∃k b,kI v=some (k,b):=by
 have c:∃k,jH v.bz=some k:=by
  obtain⟨n,b,e⟩:=xr v.bz;unfold jH;rw[e,sb];cases b with
  | true=>exact⟨_,rfl⟩
  | false=>exact⟨_,rfl⟩
 obtain⟨k,d⟩:=c;unfold kI;split
 ·exact⟨_,_,rfl⟩
 ·have tail:∀a:Bool,∃k b,(if a=true then some ((aL.mk false v.aY []),true)else(if v.aD=3 then jH v.bz>>=λf=>some (f,true)else some ((aL.mk false 0 []),false)))=some (k,b):=λa=>by
   split
   ·exact⟨_,_,rfl⟩
   split
   ·rw[d,sb];exact⟨_,_,rfl⟩
   ·exact⟨_,_,rfl⟩
  split
  ·rw[sb];exact tail _
  ·rw[sb];exact tail _
def Rv (s:aB) (a:Nat) (b:Bool) (v:ae) (r:aq):Prop:=Rd s a b r v.wt
theorem wb (k n:Int) (s:aB) (x:Int):(ae.mk k n s x []).wt=1:=by rw[ae.iC];rfl
theorem Hv {s:aB} {d:Nat} (hd:d<=1000) (hs:s.length<=1000000000000) (hv:∀(a:Nat) (b:Bool),a<=s.length->∃v r,aX (.mk s (a:Int) b) ((d+1:Nat):Int)=some (v,r)/\Rv s a b v r) (n:Nat) (U:n<=200) (x:Int):
  ∀m i:Nat,i<=n->n - i=m->∀(p:Nat) (b:Bool) (l:List af),p<=s.length->l.length=i->∃o,aZ (d:Int) (n:Int) x s (p:Int) b l (i:Int)=some o/\
   ((∃(c:Nat) (b':Bool) (g:List af),o=.inl (s,(c:Int),b',g)/\p<=c/\c<=s.length/\(b'=false->b=false/\af.uS g+p<=af.uS l+c))\/∃v r,o=.inr (v,r)/\r.fX=true/\Rd s p b r 0):=by
 intro m;induction m with
 | zero=>
  intro i h1 h2 p b l hp A;rw[aZ,so aeP];exact⟨_,rfl,.inl ⟨p,b,l,rfl,abn _,hp,λh=>⟨h,abn _⟩⟩⟩
 | succ m t=>
  intro i h1 h2 p b l hp A;rw[aZ,An aeP];cases b with
  | true=>rw[An rfl];exact⟨_,rfl,.inl ⟨p,true,l,rfl,abn _,hp,λh=>Bool.noConfusion h⟩⟩
  | false=>
   obtain⟨B,r1,D,s1,u,w,E,w1,V⟩:=hv p false hp;obtain⟨k,C,F⟩:=Hu B;rw[so aeQ,Eh (x:=(d:Int)+1) (n:=d+1) aeP aeP,D,sb];show ∃o,(kI B>>=_)=some o/\_;rw[F,sb];show ∃o,(if C=true then _ else _)=some o/\_;cases C with
   | false=>
    rw[so aeQ];exact⟨_,rfl,.inr ⟨_,_,rfl,rfl,s1,u,w,E,w1,λh=>Bool.noConfusion h⟩⟩
   | true=>
    have G:r1=.mk s (u:Int) r1.fX:=by cases r1;simp only at s1 w;subst s1 w;rfl
    obtain⟨f,j,e2,H,I,J,W,K,g2⟩:=hv u r1.fX w1;rw[An rfl,G,e2,sb];show ∃o,(eE 96 l [af.mk k f]>>=_)=some o/\_;rw[ca aeT,sb,bJ aeP];show ∃o,aZ (d:Int) (n:Int) x j.fS j.lE j.fX (l++[af.mk k f]) ((i+1:Nat):Int)=some o/\_;rw[H,J];obtain⟨o,L,M⟩:=t (i+1) aeP aeP I j.fX (l++[af.mk k f]) K (by rw[abt,A];rfl);refine⟨o,L,?_⟩;rcases M with⟨c,b',g,rfl,y,z,N⟩ | ⟨v,r,rfl,y,z⟩
    ·refine .inl ⟨c,b',g,rfl,by omega,z,λq=>?_⟩;obtain⟨O,P⟩:=N q;obtain⟨X,Y⟩:=g2 O;rw[sR,eR,kR]at P;have e:(af.mk k f).bE.wt=f.wt:=rfl;exact⟨rfl,by omega⟩
    ·obtain⟨Q,R,S,Z,T,z6⟩:=z;exact .inr ⟨v,r,rfl,y,Q,R,S,by omega,T,λq=>by rw[y]at q;cases q⟩
theorem Hw {s:aB} {d:Nat} (hd:d<=1000) (hs:s.length<=1000000000000) (hv:∀(a:Nat) (b:Bool),a<=s.length->∃v r,aX (.mk s (a:Int) b) ((d+1:Nat):Int)=some (v,r)/\Rv s a b v r)
  {a:Nat} {b:Bool} (C:a<=s.length):∃v r,dQ (.mk s (a:Int) b) (d:Int)=some (v,r)/\Rv s a b v r:=by
 obtain⟨n,r1,D,n0,n1,s1,E,t,u1,w1,F⟩:=zH (b:=b) C hs;have G:r1=.mk s (E:Int) r1.fX:=by cases r1;simp only at s1 t;subst s1 t;rfl
 obtain⟨q,e,e2,H,i,I,u2,u,g2⟩:=ui (b:=r1.fX) 123 w1 hs;obtain⟨x,w,J,_,_⟩:=zG q;rw[<-G]at e2;rw[dQ,D,sb];show ∃v r,(bI r1 123>>=_)=some (v,r)/\_;rw[e2,sb];show ∃v r,(fY q>>=_)=some (v,r)/\_;rw[J,sb];obtain⟨N,rfl⟩:∃N:Nat,n=(N:Int):=⟨n.toNat,by omega⟩
 have tail:∀j:Bool,(j=false->N<=200/\e.fX=false)->∃v r,((aZ (d:Int) (N:Int) x e.fS e.lE j ([]:List af) 0:Option ((aB×Int×Bool×(List af)) ⊕ (ae×aq)))>>=λm=>match m with
  | .inr r=>some r
  | .inl (f,g,c,y)=>
   (if c=true then
    some ((ae.mk 4 0 [] x y),(aq.mk f g c))
   else
    bK (aq.mk f g c) [125]>>=λK=>
    some ((ae.mk 4 0 [] x y),K)))=some (v,r)/\Rv s a b v r:=λj L=>by
  rw[H,I];have z:∀l:List af,Rv s a b (ae.mk 4 0 [] x l) (.mk s (i:Int) true):=λl=>⟨rfl,i,rfl,by omega,u,λh=>Bool.noConfusion h⟩;cases j with
  | true=>
   rw[aZ];split
   ·rw[An rfl,sb];exact⟨_,_,rfl,z _⟩
   ·rw[sb];exact⟨_,_,rfl,z _⟩
  | false=>
   obtain⟨k,M⟩:=L rfl;obtain⟨O,h6⟩:=g2 M;obtain⟨P,h8⟩:=F O;obtain⟨o,p,Q⟩:=Hv hd hs hv N k x N 0 aeP aeP i false [] u rfl;replace p:aZ (d:Int) (N:Int) x s (i:Int) false [] 0=some o:=p;rw[p,sb];rcases Q with⟨R,b',l',rfl,A,B,S⟩ | ⟨v,r,rfl,A,T,U,V,z4,W,z6⟩
   ·show ∃v r,(if b'=true then _ else _)=some (v,r)/\_;cases b' with
    | true=>rw[An rfl];exact⟨_,_,rfl,rfl,R,rfl,by omega,B,λh=>Bool.noConfusion h⟩
    | false=>
     obtain⟨_,X⟩:=S rfl;obtain⟨r3,Y,Z,p3,t3,u3,w3,g3⟩:=wa (d:=[125]) (b:=false) B hs;rw[so aeQ,Y,sb];refine⟨_,_,rfl,Z,p3,t3,by omega,w3,λh=>⟨P,?_⟩⟩;have:=(g3 h).2;rw[kR]at X;rw[ae.iC,ae.cQ];simp only[abp,abr]at this;omega
   ·exact⟨_,_,rfl,T,U,V,by omega,W,λh=>by rw[A]at h;cases h⟩
 show ∃v r,((if w=true then(if(N:Int)>200 then some true else some e.fX)else some true:Option Bool)>>=_)=some (v,r)/\_;cases w with
 | false=>rw[so aeQ,sb];exact tail true (λh=>Bool.noConfusion h)
 | true=>
  rw[An rfl];by_cases k:(N:Int)>200
  ·rw[An k,sb];exact tail true (λh=>Bool.noConfusion h)
  ·rw[so k,sb];exact tail e.fX (λh=>⟨by omega,h⟩)
theorem Hy {s:aB} (hs:s.length<=1000000000000):∀(k d:Nat),d+k=202->∀(a:Nat) (b:Bool),a<=s.length->∃v r,aX (.mk s (a:Int) b) (d:Int)=some (v,r)/\Rv s a b v r:=by
 intro k;induction k with
 | zero=>
  intro d hd a b l;rw[aX];show ∃v r,(if(a:Int)>=(s.length:Int)then _ else _)=some (v,r)/\_;split
  ·exact⟨_,_,rfl,Rd.bad l _⟩
  ·rw[An aeP];exact⟨_,_,rfl,Rd.bad l _⟩
 | succ k E=>
  intro d hd a b l;rw[aX];show ∃v r,(if(a:Int)>=(s.length:Int)then _ else _)=some (v,r)/\_;split
  ·exact⟨_,_,rfl,Rd.bad l _⟩
  rename_i bm;split
  ·exact⟨_,_,rfl,Rd.bad l _⟩
  show ∃v r,(fF s (a:Int)>>=_)=some (v,r)/\_;rw[dD (show a<s.length by omega),sb];generalize s.getD a 0=c;split
  ·obtain⟨r1,F,s1,t,y,G,w1,A⟩:=wa (d:=[78,59]) (b:=b) l hs;rw[F,sb];refine⟨_,_,rfl,s1,t,y,G,w1,λh=>⟨(A h).1,?_⟩⟩;have:=(A h).2;rw[wb];simp only[abp,abr]at this;omega
  ·obtain⟨r1,F,s1,t,y,G,w1,A⟩:=wa (d:=[c,58]) (b:=b) l hs;have O:r1=.mk s (t:Int) r1.fX:=by cases r1;simp only at s1 y;subst s1 y;rfl
   rw[F,sb];by_cases u:r1.fX=true
   ·rw[An u];exact⟨_,_,rfl,s1,t,y,G,w1,λh=>by rw[u]at h;cases h⟩
   rw[so u];have u:r1.fX=false:=by simpa using u
   obtain⟨H,P⟩:=A u;simp only[abp,abr]at P;rw[O,u];have bad:∀(v:ae) (q:Nat),a<=q->q<=s.length->Rv s a b v (.mk s (q:Int) true):=λv q h1 h2=>⟨rfl,q,rfl,h1,h2,λh=>Bool.noConfusion h⟩
   have L:∃v r,((if(c.toNat:Int)=115 then
       cm (.mk s (t:Int) false)>>=λ(I,f)=>
       (if f.fX=true then
        some ((ae.mk 0 0 [] 0 []),(aq.mk f.fS f.lE true))
       else
        (if I>(aP ((f.fS.length:Int) - f.lE))then
         some ((ae.mk 0 0 [] 0 []),(aq.mk f.fS f.lE true))
        else
         (
          pG f.fS f.lE (aP (f.lE+I))>>=λQ=>
          some Q
          :Option (aB))>>=λR=>
         bK (aq.mk f.fS (aP (f.lE+I)) f.fX) [59]>>=λS=>
         some ((ae.mk 3 0 R 0 []),S)))
      else
       (if(c.toNat:Int)=97 then
        dQ (.mk s (t:Int) false) (d:Int)>>=λ(T,U)=>
        some (T,U)
       else
        some ((ae.mk 0 0 [] 0 []),(aq.mk s (t:Int) true))):Option (ae×aq))=some (v,r))/\Rv s a b v r:=by
    split
    ·obtain⟨n,m,J,n0,n1,B,i,C,V,x,M⟩:=zH (b:=false) w1 hs;obtain⟨N,rfl⟩:∃N:Nat,n=(N:Int):=⟨n.toNat,by omega⟩;rw[J,sb];show ∃v r,(if m.fX=true then _ else _)=some (v,r)/\_;by_cases j:m.fX=true
     ·rw[An j,B,C];exact⟨_,_,rfl,bad _ _ aeP x⟩
     rw[so j,B,C];have j:m.fX=false:=by simpa using j
     have W:aP ((s.length:Int) - (i:Int))=(s.length:Int) - (i:Int):=by rw[aP,pO aeP aeP]
     rw[W];split
     ·exact⟨_,_,rfl,bad _ _ aeP x⟩
     ·rename_i hN;have X:aP ((i:Int)+(N:Int))=((i+N:Nat):Int):=Eh aeR aeP;have Y:pG s (i:Int) ((i+N:Nat):Int)=some ((s.take (i+N)).drop i):=by unfold pG;rw[An ⟨by omega,by omega,by omega⟩];rfl
      obtain⟨r4,K,Z,p4,t4,u4,w4,g4⟩:=wa (s:=s) (a:=i+N) (d:=[59]) (b:=m.fX) aeP hs;rw[X,Y,sb,sb,K,sb];refine⟨_,_,rfl,Z,p4,t4,by omega,w4,λh=>⟨H,?_⟩⟩;have:=(g4 h).2;rw[wb];omega
    ·split
     ·obtain⟨v,r,e,he⟩:=Hw (d:=d) aeP hs (λa b l=>E (d+1) aeP a b l) (b:=false) w1;obtain⟨s5,p5,t5,u5,w5,g5⟩:=he;rw[e,sb];exact⟨_,_,rfl,s5,p5,t5,by omega,w5,λh=>⟨H,by have:=(g5 h).2;omega⟩⟩
     ·exact⟨_,_,rfl,bad _ _ aeP w1⟩
   have D:∃v r,(bI (.mk s (t:Int) false) 59>>=λ(qR,o)=>
      LD qR>>=λ(p,z)=>
      (if o.fX=true then
       (if(c.toNat:Int)=98 then
        some ((ae.mk 1 p [] 0 []),(aq.mk o.fS o.lE true))
       else
        some ((ae.mk 2 p [] 0 []),(aq.mk o.fS o.lE true)))
      else
       (if(c.toNat:Int)=98 then
        some ((ae.mk 1 p [] 0 []),(aq.mk o.fS o.lE (!z)))
       else
        some ((ae.mk 2 p [] 0 []),(aq.mk o.fS o.lE (!z))))))=some (v,r)/\Rv s a b v r:=by
    obtain⟨q,m,J,B,i,C,V,x,M⟩:=ui (b:=false) 59 w1 hs;obtain⟨n,X5,K⟩:=xr q;rw[J,sb];show ∃v r,(LD q>>=_)=some (v,r)/\_;rw[K,sb];show ∃v r,(if m.fX=true then _ else _)=some (v,r)/\_;rw[B,C];have fin:∀(k:Int) (g:Bool),m.fX=false->Rv s a b (.mk k n [] 0 []) (.mk s (i:Int) g):=λk g h=>⟨rfl,i,rfl,by omega,x,λ_=>⟨H,by rw[wb];have:=(M h).2;omega⟩⟩;by_cases j:m.fX=true
    ·rw[An j];split
     ·exact⟨_,_,rfl,bad _ _ aeP x⟩
     ·exact⟨_,_,rfl,bad _ _ aeP x⟩
    ·rw[so j];have j:m.fX=false:=by simpa using j
     split
     ·exact⟨_,_,rfl,fin _ _ j⟩
     ·exact⟨_,_,rfl,fin _ _ j⟩
   split
   ·rename_i w;rw[sb];show ∃v r,(if((c.toNat:Int)==98)=true then _ else _)=some (v,r)/\_;simp only[An w]at D;split
    ·exact D
    ·exact L
   ·rename_i w;rw[sb];show ∃v r,(if((c.toNat:Int)==105)=true then _ else _)=some (v,r)/\_;simp only[so w]at D;split
    ·exact D
    ·exact L
theorem Hz {s:aB} (hs:s.length<=2000000):∃v b,fN s=some (v,b)/\v.wt<=2000000/\(b=true->eV v=some (s,true)):=by
 obtain⟨v,r,e,s1,k,l,m,w1,j⟩:=Hy (s:=s) aeP 202 0 rfl 0 false (abY _);replace e:aX (.mk s 0 false) 0=some (v,r):=e;unfold fN;rw[e,sb];show ∃d b,(if r.fX=true then _ else _)=some (d,b)/\_;have c:(ae.mk 0 0 [] 0 []).wt<=2000000:=by rw[wb];omega
 by_cases a:r.fX=true
 ·rw[An a];exact⟨_,_,rfl,c,λh=>Bool.noConfusion h⟩
 rw[so a];have a:r.fX=false:=by simpa using a
 have hw:v.wt<=2000000:=by have:=(j a).2;omega
 split
 ·obtain⟨g,hg⟩:∃g,g=(if(decide (v.kw<=200)&&v.pg)&&v.plain then(v.LN,true)else(([]:aB),false)):=⟨_,rfl⟩;have e2:=ot hw;rw[<-hg]at e2;obtain⟨t,f⟩:=g;rw[e2,sb];show ∃d b,(if f=true then _ else _)=some (d,b)/\_;cases f with
  | false=>rw[so aeQ];exact⟨_,_,rfl,c,λh=>Bool.noConfusion h⟩
  | true=>
   rw[An rfl];by_cases i:t=s
   ·rw[An i];exact⟨_,_,rfl,hw,λ_=>by rw[e2,i]⟩
   ·rw[so i];exact⟨_,_,rfl,c,λh=>Bool.noConfusion h⟩
 ·exact⟨_,_,rfl,c,λh=>Bool.noConfusion h⟩
set_option maxRecDepth 20000
structure Ok1 (v:ae):Prop where
 ar:v.aD=4\/v.aj=[]
 n0: -1000000000<=v.aY
 n1:v.aY<=1000000000
 st:v.bz.length<=400
theorem sS {v:ae} (h:v.pg=true):Ok1 v:=by
 cases v with
 | mk k n s x l=>
  rw[lq]at h;simp only[Is,acr,abH,ack,List.isEmpty_iff]at h;obtain⟨⟨h1,h2⟩,a⟩:=h;have c:k≠3->s=[]:=λd=>h1.resolve_left d;have e:k=4\/l=[]:=h2.imp id (λh=>h.2)
  have fin:(-1000000000<=n/\n<=1000000000/\s.length<=400):=by
   by_cases b:k=3
   ·subst b;simp at a;exact⟨by omega,by omega,by omega⟩
   ·rw[c b];refine(λ(h: -1000000000<=n/\n<=1000000000)=>⟨h.1,h.2,by simp⟩) ?_
    repeat' (first | (split at a))
    all_goals (simp at a<;>omega)
  exact⟨e,fin.1,fin.2.1,fin.2.2⟩
theorem pR {v:ae} (h:v.pg=true):∀e∈v.aj,e.bE.pg=true/\vk e.aS=true:=λe he=>by
 by_cases a:v.aD=4
 ·obtain⟨_,_,_,hv,_⟩:=(vW a).1 h;exact⟨(hv e he).2.2,(hv e he).1⟩
 ·rw[(sS h).ar.resolve_left a]at he;cases he
theorem FO:∀l:List af,(∀e∈l,e.bE.wt=e.bE.kw)->af.uS l=af.yZ l
 | [],_=>by rw[kR,oh]
 | e::r,h=>by rw[eR,pN,h e (acF ..),FO r (λx a=>h x (abz _ a))]
theorem J3:∀(n:Nat) (v:ae),v.wt<=n->v.pg=true->v.wt=v.kw
 | 0,v,h,_=>by have:=jd v;omega
 | n+1,v,h,hv=>by
  rw[v.iC,v.nK];by_cases a:v.aD=4
  ·rw[An a,FO _ (λe he=>J3 n _ (by have:=iW he;omega) (pR hv e he).1)]
  ·rw[so a,(sS hv).ar.resolve_left a,kR]
theorem J4:∀(n:Nat) (v:ae),v.wt<=n->v.pg=true->Nb v
 | 0,v,h,_=>by have:=jd v;omega
 | n+1,v,h,hv=>by
  have h1:=sS hv;have hi:∀e∈v.aj,Nb e.bE:=λe he=>J4 n _ (by have:=iW he;omega) (pR hv e he).1;have a:=h1.n0;have b:=h1.n1;cases v with
  | mk k m s x l=>
   simp only[ae.vX]at a b;exact .mk aeP aeP hi
structure Ov (v:ae):Prop where
 ok:v.pg=true
 kw:v.kw<=200
theorem Ov.wt {v:ae} (h:Ov v):v.wt<=200:=by rw[J3 _ v (abn _) h.ok];exact h.kw
theorem Ov.nb {v:ae} (h:Ov v):Nb v:=J4 _ v (abn _) h.ok
theorem Ov.item {v:ae} (h:Ov v):∀e∈v.aj,Ov e.bE:=λe he=>by
 refine⟨(pR h.ok e he).1,?_⟩;have:=iW he;have:=h.wt;have:=JT e.bE;omega
theorem QS {v:ae} (hv:v.wt<=2000000):gL v=some (decide (v.kw<=200)&&v.pg):=by
 unfold gL;rw[ue _ (abn _) v hv,sb,mV _ (abn _) v hv];by_cases h:v.kw<=200
 ·rw[An aeP,sb,acd h];rfl
 ·rw[so aeP,abV h];rfl
theorem U2 {v:ae} (hv:v.wt<=2000000):m22 v=some (decide (v.kw<=200)&&v.pg):=by
 unfold m22;obtain⟨r,e,h1,h2,a⟩:=Ch _ (abn _) v hv 200 aeQ aeQ;rw[e,sb,Cj _ (abn _) v hv];by_cases h:v.kw<=200
 ·rw[An aeP,sb,acd h];rfl
 ·rw[so aeP,abV h];rfl
theorem FP {v:ae} (h:v.pg=true):∃s c,gq v=some (s,c)/\s.length<=400/\(c=0\/c=1):=by
 have h1:=sS h;have e:=h1.n0;have f:=h1.n1;unfold gq;by_cases a:v.aD=0
 ·rw[An a];exact⟨_,_,rfl,by simp,.inl rfl⟩
 rw[so a];by_cases b:v.aD=1
 ·rw[An b];split<;>exact⟨_,_,rfl,by simp,.inl rfl⟩
 rw[so b];by_cases d:v.aD=2
 ·rw[An d,uh aeP aeP,sb];exact⟨_,_,rfl,by have:=jo (n:=v.aY) aeP aeP;omega,.inl rfl⟩
 rw[so d];split
 ·exact⟨_,_,rfl,h1.st,.inl rfl⟩
 ·exact⟨_,_,rfl,by simp,.inr rfl⟩
theorem QT {v:ae} (h:v.pg=true):∃n,jD v=some n/\ -1000000000<=n/\n<=1000000000:=by
 have h1:=sS h;obtain⟨n,e,a⟩:=xm v (λ_=>by have:=h1.st;omega);exact⟨n,e,a (λ_=>⟨h1.n0,h1.n1⟩)⟩
theorem FQ (v:ae) (h:v.wt<=2000000):∀(f k:Nat) (l:List ae),v.aj.length<=k+f->k<=v.aj.length->l=(v.aj.take k).map (·.bE)->fO v l (k:Int)=some (v.aj.map (·.bE))
 | f,k,l,hf,c,a=>by
  have hw:=je (v:=v);rw[fO];by_cases hc:k<v.aj.length
  ·obtain⟨g,rfl⟩:∃g,f=g+1:=⟨f - 1,by omega⟩;have hi:=iW (v:=v) (abu hc);have d:l.length=k:=by rw[a,abT,ach];omega
   have b:Ik v.aj[k].bE=some v.aj[k].bE:=Ef (FH aeP);rw[An aeP,a7 hc,sb,b,sb,ca aeT,sb,bJ aeP];exact FQ v h g (k+1) _ aeP aeP (by rw[a,<-aci hc,acu];rfl)
  ·obtain rfl:k=v.aj.length:=by omega
   rw[so aeP,a,acI]
def qL (v:ae):List ae:=if v.aD=4 then v.aj.map (·.bE)else[]
theorem A4 {v:ae} (h:v.wt<=2000000):gU v=some (qL v):=by
 unfold gU qL;by_cases a:v.aD=4
 ·have e:=FQ v h v.aj.length 0 [] aeP aeP rfl;replace e:fO v [] 0=_:=e;rw[An a,An a,e,sb]
 ·rw[so a,so a,sb]
theorem FR (v:ae) (h:v.wt<=2000000):∀(f k:Nat) (l:List aL),v.aj.length<=k+f->k<=v.aj.length->l=(v.aj.take k).map (·.aS)->ie v l (k:Int)=some (v.aj.map (·.aS))
 | f,k,l,hf,b,a=>by
  have hw:=je (v:=v);rw[ie];by_cases hc:k<v.aj.length
  ·obtain⟨g,rfl⟩:∃g,f=g+1:=⟨f - 1,by omega⟩;have c:l.length=k:=by rw[a,abT,ach];omega
   rw[An aeP,a7 hc,sb,ca aeT,sb,bJ aeP];exact FR v h g (k+1) _ aeP aeP (by rw[a,<-aci hc,acu];rfl)
  ·obtain rfl:k=v.aj.length:=by omega
   rw[so aeP,a,acI]
def keys (v:ae):List aL:=if v.aD=4 then v.aj.map (·.aS)else[]
theorem keys_eq {v:ae} (h:v.wt<=2000000):lR v=some (keys v):=by
 unfold lR keys;by_cases a:v.aD=4
 ·have e:=FR v h v.aj.length 0 [] aeP aeP rfl;replace e:ie v [] 0=_:=e;rw[An a,An a,e,sb]
 ·rw[so a,so a,sb]
def zI:List ae->Nat->List af
 | [],_=>[]
 | v::r,i=>.mk (.mk false (i:Int) []) v::zI r (i+1)
theorem FT:∀(a b:List ae) (i:Nat),zI (a++b) i=zI a i++zI b (i+a.length)
 | [],b,i=>rfl
 | v::a,b,i=>by
  rw[acz,zI,zI,FT a b (i+1),acz,abp,show i+1+a.length=i+(a.length+1) by omega]
theorem FU:∀(l:List ae) (i:Nat),(zI l i).length=l.length
 | [],_=>rfl
 | v::r,i=>by rw[zI,abp,abp,FU r]
theorem FV (l:List ae) (h:l.length<=2000000) (hs:∀v∈l,v.wt<=2000000):∀(f k:Nat) (o:List af),l.length<=k+f->k<=l.length->o=zI (l.take k) 0->gu l o (k:Int)=some (zI l 0)
 | f,k,o,hf,c,a=>by
  rw[gu];by_cases hc:k<l.length
  ·obtain⟨g,rfl⟩:∃g,f=g+1:=⟨f - 1,by omega⟩;have d:o.length=k:=by rw[a,FU,ach];omega
   have b:Ik l[k]=some l[k]:=Ef (FH (hs _ (abu hc)));rw[An aeP,a7 hc,sb,b,sb,ca aeT,sb,bJ aeP];refine FV l h hs g (k+1) _ aeP aeP ?_;rw[a,<-aci hc,FT,abx,ach,Nat.min_eq_left aeP];rfl
  ·obtain rfl:k=l.length:=by omega
   rw[so aeP,a,acI]
theorem FW {l:List ae} (h:l.length<=2000000) (hs:∀v∈l,v.wt<=2000000):fp l=some (.mk 4 0 [] (l.length:Int) (zI l 0)):=by
 have e:=FV l h hs l.length 0 [] aeP aeP rfl;replace e:gu l [] 0=_:=e;unfold fp;rw[e,sb]
def uj (l:List ae):Nat:=(l.map (·.kw)).sum
theorem J5:∀(l:List ae) (i:Nat),af.yZ (zI l i)=uj l
 | [],_=>by rw[zI,oh];rfl
 | v::r,i=>by rw[zI,pN,J5 r];rfl
theorem A5:∀(l:List ae) (i:Nat) (e:af),e∈zI l i->∃j:Nat,i<=j/\j<i+l.length/\e.aS=.mk false (j:Int) []/\e.bE∈l
 | v::r,i,e,h=>by
  rcases abE.1 h with rfl | h
  ·exact⟨i,abn _,by simp,rfl,acF ..⟩
  ·obtain⟨j,h1,h2,a,h4⟩:=A5 r (i+1) e h;exact⟨j,by omega,by rw[abp];omega,a,abz _ h4⟩
theorem zJ:∀(l:List ae) (i:Nat),((zI l i).map (·.aS)).Nodup
 | [],_=>by rw[zI];simp
 | v::r,i=>by
  rw[zI,abF,adk];refine⟨λh=>?_,zJ r (i+1)⟩;obtain⟨e,he,a⟩:=abN.1 h;obtain⟨j,h1,_,b,_⟩:=A5 r (i+1) e he;rw[b]at a;injection a with _ a;omega
theorem QU {n:Int} (h0: -1000000000<=n) (h1:n<=1000000000):vk (.mk false n [])=true:=by
 unfold vk;simp [h0,h1]
theorem FX {l:List ae} (h:∀v∈l,v.pg=true) (b:uj l<=199) (c:l.length<=1000):Ov (.mk 4 0 [] (l.length:Int) (zI l 0)):=by
 refine⟨(vW (v:=.mk 4 0 [] (l.length:Int) (zI l 0)) rfl).2 ⟨rfl,rfl,?_,λe he=>?_,zJ l 0⟩,?_⟩
 ·show(0:Int)<=(l.length:Int)/\(l.length:Int)<=1000000001;omega
 ·obtain⟨j,_,h2,a,h4⟩:=A5 l 0 e he;refine⟨by rw[a];exact QU aeP aeP,.inr ?_,h _ h4⟩;rw[a];show(j:Int)<(l.length:Int);omega
 ·rw[ae.nK,ae.nL,An rfl,ae.cQ,J5];omega
theorem FY:∀l:List af,af.yZ l=uj (l.map (·.bE))
 | []=>by rw[oh];rfl
 | e::r=>by rw[pN,FY r];rfl
theorem sT:∀l:List ae,l.length<=uj l
 | []=>abn _
 | v::r=>by
  have:=sT r;have:=QJ v;show r.length+1<=v.kw+uj r;omega
theorem xu:∀l:List ae,(∀v∈l,v.kw=1)->uj l=l.length
 | [],_=>rfl
 | v::r,h=>by
  show v.kw+uj r=r.length+1;rw[h v (acF ..),xu r (λx a=>h x (abz _ a))];omega
theorem HA {a b:List ae} (h:a.Perm b):uj a=uj b:=(h.map _).sum_nat
theorem A6 {v:ae} (h:Ov v):(∀x∈qL v,x.pg=true)/\uj (qL v)<=199:=by
 unfold qL;by_cases a:v.aD=4
 ·rw[An a];refine⟨λx b=>?_,?_⟩
  ·obtain⟨e,he,rfl⟩:=abN.1 b;exact(pR h.ok e he).1
  ·have:=h.kw;rw[v.nK,An a,FY]at this;omega
 ·rw[so a];exact⟨λ_ h=>(by cases h),abY _⟩
theorem MO {v:ae} (h:Ov v):(∀k∈keys v,vk k=true)/\(keys v).length<=199:=by
 unfold keys;by_cases a:v.aD=4
 ·rw[An a];refine⟨λx b=>?_,?_⟩
  ·obtain⟨e,he,rfl⟩:=abN.1 b;exact(pR h.ok e he).2
  ·have:=je (v:=v);have:=h.wt;rw[abT];omega
 ·rw[so a];exact⟨λ_ h=>(by cases h),abY _⟩
set_option maxRecDepth 20000
theorem Cp {α:Type} {b:Nat} {a:List α} (h:a.length*b<=140737488355328):eE b [] a=some a:=by
 rw[ca (by rw[abr,abx];exact h),acj]
theorem J6 {L:aB->Int->Option aB} (a:aB) (e:UInt8->aB) (he:∀c,(e c).length<=6) (d:a.length<=2000000)
  (hs:∀(acc:aB) (k:Nat),k<a.length->acc.length<=20000000->L acc (k:Int)=L (acc++e (a.getD k 0)) ((k+1:Nat):Int)) (b:∀acc,L acc (a.length:Int)=some acc):
  ∀(f k:Nat) (acc:aB),a.length<=k+f->k<=a.length->acc.length<=6*k->L acc (k:Int)=some (acc++(a.drop k).flatMap e)
 | f,k,acc,hf,h,i=>by
  by_cases hc:k<a.length
  ·obtain⟨g,rfl⟩:∃g,f=g+1:=⟨f - 1,by omega⟩;have j:=he (a.getD k 0);rw[hs acc k hc aeP,J6 a e he d hs b g (k+1) _ aeP aeP (by rw[abt];omega),aca hc,ade,abS];congr 3;rw[abv,abm hc];rfl
  ·have:k=a.length:=by omega
   subst this;rw[b,adz,List.flatMap_nil,acG]
theorem HB {L:aB->Int->Option aB} (a:aB) (e:UInt8->aB) (he:∀c,(e c).length<=6) (b:a.length<=2000000)
  (hs:∀(acc:aB) (k:Nat),k<a.length->acc.length<=20000000->L acc (k:Int)=L (acc++e (a.getD k 0)) ((k+1:Nat):Int)) (d:∀acc,L acc (a.length:Int)=some acc):L [] 0=some (a.flatMap e):=by
 have:=J6 a e he b hs d a.length 0 [] aeP aeP aeR
 rwa [acN,acj]at this
theorem sU (e:UInt8->aB) (he:∀c,(e c).length<=6):∀a:aB,(a.flatMap e).length<=6*a.length
 | []=>by simp
 | c::a=>by
  have:=sU e he a;have:=he c;rw[ade,abt,abp];omega
def eH (c:UInt8):aB:=(fU c).getD []
theorem A7 (c:UInt8):(eH c).length<=6:=by
 unfold eH fU;repeat (split;· simp)
 simp
theorem U3 (c:UInt8):fU c=some (eH c):=by
 unfold eH fU;repeat (split;· rfl)
 rfl
theorem aac (c:UInt8):∃e,jS (c.toNat:Int)=some e/\((e=[]/\eH c=[c])\/(e≠[]/\eH c=e/\e.length<=6)):=by
 unfold eH fU jS;repeat (split;· exact⟨_,rfl,.inr ⟨by simp,rfl,by simp⟩⟩)
 exact⟨_,rfl,.inl ⟨rfl,rfl⟩⟩
theorem MQ (a:aB) (d:a.length<=2000000):iy a=some (a.flatMap eH)/\iz a=some (a.flatMap eH):=by
 unfold iy iz
 rw[HB (L:=dB a) a eH A7 d (λacc k b f=>?_) (λacc=>by rw[dB,so aeP]),
  HB (L:=eF a) a eH A7 d (λacc k b f=>?_) (λacc=>by rw[eF,so aeP]),sb]
 ·exact aez
 ·have:=A7 (a.getD k 0);rw[eF,An aeP,dD b,sb,U3,sb,dE aeP,sb,bJ aeP]
 ·obtain⟨e,g,e2⟩:=aac (a.getD k 0);rw[dB,An aeP,dD b,sb,g,sb,bJ aeP];rcases e2 with⟨e2,c⟩ | ⟨e2,c,h⟩
  ·rw[An e2,sb,ca aeU,sb,c]
  ·rw[so e2,ca aeP,sb,c]
def Ou (n:Nat):Bool:=match dj (IntKind.u8.wrap ((n:Int).tdiv 16)),dj ((n:Int).tmod 16),kD (aP (n:Int))with
 | some a,some b,some [x,y]=>decide (a=(x.toNat:Int))&&decide (b=(y.toNat:Int))
 | _,_,_=>false
theorem MR:∀n:Fin 256,Ou n.val=true:=by decide +kernel
theorem xw (c:UInt8):∃x y:UInt8,dj (IntKind.u8.wrap ((c.toNat:Int).tdiv 16))=some (x.toNat:Int)/\dj ((c.toNat:Int).tmod 16)=some (y.toNat:Int)/\kD (aP (c.toNat:Int))=some [x,y]:=by
 have h:=MR ⟨c.toNat,c.toNat_lt⟩;unfold Ou at h;dsimp only at h;split at h
 ·rename_i a b x y d e2 e;rw[Is,decide_eq_true_iff,decide_eq_true_iff]at h;exact⟨x,y,by rw[d,h.1],by rw[e2,h.2],e⟩
 ·cases h
def vG (c:UInt8):aB:=(kD (aP (c.toNat:Int))).getD []
theorem wc (x:UInt8):UInt8.ofNat ((x.toNat:Int)).toNat=x:=by simp
def plI (c:Int):Option Bool:=fT c>>=λa=>(if a=true then some true else db c>>=λb=>(if b=true then some true else(if c=45 then some true else(if c=95 then some true else(if c=46 then some true else some (c==126))))))
def scI (c:Int):Option Bool:=(if c<32 then some true else(if c>126 then some true else pF [92,39,34,60,62,38] c>>=λa=>some (decide (a>=0))))
def U4 (n:Nat):Bool:=(plI (n:Int)).getD false
def U5 (n:Nat):Bool:=(scI (n:Int)).getD false
theorem J7:∀n:Fin 256,plI (n.val:Int)=some (U4 n.val)/\mz (n.val:Int)=some (U4 n.val):=by decide +kernel
theorem J8:∀n:Fin 256,scI (n.val:Int)=some (U5 n.val)/\oa (n.val:Int)=some (!U5 n.val):=by decide +kernel
def eU (c:UInt8):aB:=if U4 c.toNat=true then[c]else 37::vG c
def eJ (c:UInt8):aB:=if U5 c.toNat=true then 92::120::vG c else[c]
theorem Cq (c:UInt8):(vG c).length=2:=by
 obtain⟨x,y,_,_,e⟩:=xw c;unfold vG;rw[e];rfl
theorem El (c:UInt8):(eU c).length<=6:=by unfold eU;split<;>simp [Cq]
theorem Em (c:UInt8):(eJ c).length<=6:=by unfold eJ;split<;>simp [Cq]
theorem Cr {s:aB} {k:Nat} (a:k<s.length):pG s (k:Int) ((k+1:Nat):Int)=some [s.getD k 0]:=by
 unfold pG;rw[An ⟨by omega,by omega,by omega⟩];congr 1;rw[acq,acq,abv,abm a];refine List.ext_getElem? λj=>?_;rw[acf,aco];cases j with
 | zero=>simp [a]
 | succ j=>rw[so aeP];rfl
theorem QV (a:aB) (f:a.length<=2000000):jj a=some (a.flatMap eU)/\jk a=some (a.flatMap eU):=by
 unfold jj jk
 rw[HB (L:=dU a) a eU El f (λacc k b h=>?_) (λacc=>by rw[dU,so aeP]),
  HB (L:=dV a) a eU El f (λacc k b h=>?_) (λacc=>by rw[dV,so aeP]),sb]
 ·exact aez
 ·rw[dV,An aeP,dD b,sb,bJ aeP];generalize hc:a.getD k 0=c;obtain⟨x,y,_,_,d⟩:=xw c;have e:vG c=[x,y]:=by unfold vG;rw[d];rfl
  rw[(J7 ⟨c.toNat,c.toNat_lt⟩).2,sb];unfold eU;cases U4 c.toNat
  ·rw[so aeR,so aeR,dE aeU,sb,sb,d,sb,dE aeU,sb,e,abS];rfl
  ·rw[An rfl,An rfl,Cr b,sb,hc,dE aeU,sb]
 ·rw[dU,An aeP,dD b,sb,bJ aeP];generalize hc:a.getD k 0=c;obtain⟨x,y,i,e2,d⟩:=xw c;have e:vG c=[x,y]:=by unfold vG;rw[d];rfl
  have g:=(J7 ⟨c.toNat,c.toNat_lt⟩).1;unfold plI at g;rw[g,sb];unfold eU;cases U4 c.toNat
  ·rw[so aeR,so aeR,i,sb,e2,sb,wc,wc,ca aeU,sb,e]
  ·rw[An rfl,An rfl,ca aeU,sb]
theorem U6 (a:aB) (f:a.length<=2000000):gC a=some (a.flatMap eJ)/\gD a=some (a.flatMap eJ):=by
 unfold gC gD
 rw[HB (L:=cU a) a eJ Em f (λacc k b h=>?_) (λacc=>by rw[cU,so aeP]),
  HB (L:=cV a) a eJ Em f (λacc k b h=>?_) (λacc=>by rw[cV,so aeP]),sb]
 ·exact aez
 ·rw[cV,An aeP,dD b,sb,bJ aeP];generalize hc:a.getD k 0=c;obtain⟨x,y,_,_,d⟩:=xw c;have e:vG c=[x,y]:=by unfold vG;rw[d];rfl
  rw[(J8 ⟨c.toNat,c.toNat_lt⟩).2,sb];unfold eJ;cases U5 c.toNat
  ·rw[Bool.not_false,An rfl,so aeR,Cr b,sb,hc,dE aeU,sb]
  ·rw[Bool.not_true,so aeR,An rfl,dE aeU,sb,sb,d,sb,dE aeU,sb,e,abS];rfl
 ·rw[cU,An aeP,dD b,sb,bJ aeP];generalize hc:a.getD k 0=c;obtain⟨x,y,i,e2,d⟩:=xw c;have e:vG c=[x,y]:=by unfold vG;rw[d];rfl
  have g:=(J8 ⟨c.toNat,c.toNat_lt⟩).1;unfold scI at g;rw[g,sb];unfold eJ;cases U5 c.toNat
  ·rw[so aeR,so aeR,ca aeU,sb]
  ·rw[An rfl,An rfl,i,sb,e2,sb,wc,wc,ca aeU,sb,e]
def QW (f:Int) (s:aB):aB:=if f=1 then s.flatMap eH else if f=2 then s.flatMap eU else if f=3 then s.flatMap eJ else s
theorem MS (f:Int) (s:aB):(QW f s).length<=6*s.length:=by
 unfold QW;split
 ·exact sU _ A7 s
 split
 ·exact sU _ El s
 split
 ·exact sU _ Em s
 omega
theorem J9 (f:Int) (s:aB) (a:s.length<=2000000):iS f s=some (QW f s)/\jT f s=some (QW f s):=by
 obtain⟨c,d⟩:=MQ s a;obtain⟨e,g⟩:=QV s a;obtain⟨h,i⟩:=U6 s a;unfold iS jT QW;rw[c,d,e,g,h,i];simp only[sb];by_cases h1:f=1
 ·simp only[An h1];exact⟨trivial,trivial⟩
 by_cases h2:f=2
 ·simp only[so h1,An h2];exact⟨trivial,trivial⟩
 by_cases b:f=3
 ·simp only[so h1,so h2,An b];exact⟨trivial,trivial⟩
 ·simp only[so h1,so h2,so b];exact⟨trivial,trivial⟩
structure OB (o:av):Prop where
 hd:o.ak.length<=2000000
 bs:o.ah.length<=2000000
 st:o.bc.length<=2000000
 tx:∀b∈o.ah,b.bh.length<=2000000
def vH (o:av):Nat:=o.bc.length+(o.ah.map (·.bh.length)).sum
theorem QX {l:List az} (h:∀b∈l,b.bh.length<=2000000):(l.map (·.bh.length)).sum<=2000000*l.length:=by
 induction l with
 | nil=>simp
 | cons b l a=>
  have h1:=a λx c=>h x (abz _ c);have h2:=h b (acF ..);simp only[abF,acS,abp];omega
theorem MT {l:List az} {b:az} (h:b∈l):b.bh.length<=(l.map (·.bh.length)).sum:=by
 induction l with
 | nil=>cases h
 | cons x l a=>
  rw[abF,acS];rcases abE.1 h with rfl | h
  ·omega
  ·have:=a h;omega
theorem En {o:av} (h:OB o) {L:Int->Int->Option Int} (hs:∀(y:Int) (k:Nat) (a:k<o.ah.length),L y (k:Int)=L (aP (y+(o.ah[k].bh.length:Int))) ((k+1:Nat):Int)) (he:∀y,L y (o.ah.length:Int)=some y):
  ∀(f k n:Nat),o.ah.length<=k+f->k<=o.ah.length->n<=2000000*(k+1)->L (n:Int) (k:Int)=some ((n+((o.ah.drop k).map (·.bh.length)).sum:Nat):Int)
 | f,k,n,hf,a,c=>by
  have d:=h.bs;by_cases hc:k<o.ah.length
  ·obtain⟨g,rfl⟩:∃g,f=g+1:=⟨f - 1,by omega⟩;have e:=h.tx _ (abu hc);have b:aP ((n:Int)+(o.ah[k].bh.length:Int))=((n+o.ah[k].bh.length:Nat):Int):=Ka aeP aeP;rw[hs _ k hc,b,En h hs he g (k+1) _ aeP aeP aeP,aca hc,abF,acS,acQ]
  ·have:k=o.ah.length:=by omega
   subst this;rw[he,adz];simp
theorem Kb {o:av} (h:OB o):hB o=some (vH o:Int)/\iT o=some (vH o:Int):=by
 have c:=h.bs;have hs:=h.st;unfold hB iT vH;have b:=En h (L:=dZ o) (λy k a=>by rw[dZ,An aeP,a7 a,sb,bJ aeP]) (λy=>by rw[dZ,so aeP]) o.ah.length 0 o.bc.length aeP aeP aeP;have e2:=En h (L:=fK o) (λy k a=>by rw[fK,An aeP,a7 a,sb,bJ aeP]) (λy=>by rw[fK,so aeP]) o.ah.length 0 o.bc.length aeP aeP aeP;rw[acN,show((0:Nat):Int)=0 from rfl]at b e2;rw[b,e2,sb];exact⟨rfl,rfl⟩
theorem k6 {o:av} (h:OB o):bQ o=some o/\gM o=some o:=by
 have h1:=h.hd;have h2:=h.bs;unfold bQ gM sW sZ;rw[Cp aeP,Cp aeP];exact aez
def xx (o:av) (t:aB):av×Bool:=
 if vH o+t.length>3000 then(o,false)
 else if o.ah.length=0 then(⟨o.bc++t,o.ak,o.ah⟩,true)
 else(⟨o.bc,o.ak,o.ah.set (o.ah.length - 1) ⟨(o.ah.getD (o.ah.length - 1) default).dk,(o.ah.getD (o.ah.length - 1) default).bh++t⟩⟩,true)
theorem A8 {o:av} (h:OB o) {t:aB} (q:t.length<=20000000):pS o t=some (xx o t)/\kW o t=some (xx o t):=by
 have r:=h.bs;have s:=h.st;have hs:=QX h.tx;obtain⟨f,g⟩:=k6 h;obtain⟨i,j⟩:=Kb h;have k:vH o<=2000000+2000000*o.ah.length:=by unfold vH;omega
 have l:aP ((vH o:Int)+(t.length:Int))=((vH o+t.length:Nat):Int):=Ka aeP aeP;have e2:aP (3000 - (vH o:Int))=3000 - (vH o:Int):=by rw[aP,pO aeP aeP]
 have m:aP ((o.ah.length:Int) - 1)=(o.ah.length:Int) - 1:=by rw[aP,pO aeP aeP]
 unfold pS kW xx;rw[f,g,sb,sb,i,j,sb,sb,l,e2,m];by_cases q1:vH o+t.length>3000
 ·have a:((vH o+t.length:Nat):Int)>3000:=by omega
  have b:(t.length:Int)>3000 - (vH o:Int):=by omega
  rw[An a,An b,An q1];exact⟨rfl,rfl⟩
 have a:¬((vH o+t.length:Nat):Int)>3000:=by omega
 have b:¬(t.length:Int)>3000 - (vH o:Int):=by omega
 rw[so a,so b,so q1];by_cases q2:o.ah.length=0
 ·have c:¬(o.ah.length:Int) - 1>=0:=by omega
  have d:(o.ah.length:Int)=0:=by omega
  rw[so c,An d,An q2,dE aeP,sb];exact⟨rfl,rfl⟩
 ·have n:(o.ah.length:Int) - 1=((o.ah.length - 1:Nat):Int):=by omega
  have e:o.ah.length - 1<o.ah.length:=by omega
  have u:=h.tx _ (abu e);have p:o.ah.getD (o.ah.length - 1) default=o.ah[o.ah.length - 1]:=by rw[abv,abm e];rfl
  have c:(o.ah.length:Int) - 1>=0:=by omega
  have d:¬(o.ah.length:Int)=0:=by omega
  rw[An c,so d,so q2,n,a7 e,acq,p];simp only[sb];rw[dE aeP];exact aez
def uk (o:av):av×Int:=
 if o.ah.length=0 then(o,1)
 else
  let b:=o.ah.getD (o.ah.length - 1) default
  let r:=xx (av.mk o.bc o.ak (o.ah.take (o.ah.length - 1))) (QW b.dk b.bh)
  (r.1,if r.2=true then 0 else 2)
theorem Kc {o:av} (h:OB o) (h0:0<o.ah.length):gv o=some (uk o)/\eW o=some (uk o):=by
 have c:=h.bs;obtain⟨d,e⟩:=k6 h;have f:aP ((o.ah.length:Int) - 1)=((o.ah.length - 1:Nat):Int):=by rw[aP,pO aeP aeP];omega
 have a:o.ah.length - 1<o.ah.length:=by omega
 have g:=h.tx _ (abu a)
 have i:LI o.ah ((o.ah.length - 1:Nat):Int)=some (o.ah.take (o.ah.length - 1)):=by
  unfold LI;rw[An ⟨by omega,by omega⟩];rfl
 unfold gv eW dJ gY;have j:¬((o.ah.length - 1:Nat):Int)<0:=by omega
 have k:¬(o.ah.length:Int)=0:=by omega
 simp only[d,e,f,sb,so j,so k,i,acO,a7 a];obtain⟨s1,l⟩:=J9 (o.ah[o.ah.length - 1]).dk _ g;have p:=MS (o.ah[o.ah.length - 1]).dk (o.ah[o.ah.length - 1]).bh;have m:OB (av.mk o.bc o.ak (o.ah.take (o.ah.length - 1))):=⟨h.hd,by show(o.ah.take _).length<=_;rw[ach];omega,h.st,λb c=>h.tx b (adl c)⟩;obtain⟨q1,q2⟩:=A8 m (t:=QW (o.ah[o.ah.length - 1]).dk (o.ah[o.ah.length - 1]).bh) aeP;simp only[s1,l,q1,q2,sb];have n:¬o.ah.length=0:=by omega
 unfold uk;simp only[so n,abv,abm a,acP];generalize xx _ _=r;obtain⟨q,b⟩:=r;cases b<;>exact⟨rfl,rfl⟩
set_option maxRecDepth 20000
def mW (c:Nat->Bool) (k n:Nat):Bool:=(List.range' k (n - k)).all c
theorem ta {c:Nat->Bool} {k n:Nat}:mW c k n=true↔∀i,k<=i->i<n->c i=true:=by
 unfold mW;rw[abw];constructor
 ·intro h i h1 h2;exact h i (List.mem_range'_1.2 ⟨h1,by omega⟩)
 ·intro h i hi;have:=List.mem_range'_1.1 hi;exact h i this.1 aeP
theorem Kd {c:Nat->Bool} {n:Nat}:mW c n n=true:=by unfold mW;simp
theorem HC {c:Nat->Bool} {k n:Nat} (h:k<n):mW c k n=(c k&&mW c (k+1) n):=by
 unfold mW;rw[show n - k=(n - (k+1))+1 by omega,List.range'_succ,acK]
theorem Cs {R:Type} {L:Int->Option R} (c:Nat->Bool) (n:Nat) (T F:R)
  (hs:∀k,k<n->L (k:Int)=if c k=true then L ((k+1:Nat):Int)else some F)
  (he:L (n:Int)=some T):∀(f k:Nat),n<=k+f->k<=n->L (k:Int)=some (if mW c k n=true then T else F)
 | f,k,hf,a=>by
  by_cases hc:k<n
  ·obtain⟨g,rfl⟩:∃g,f=g+1:=⟨f - 1,by omega⟩;rw[HC hc,hs k hc];cases c k
   ·rw[so aeR,ado,so aeR]
   ·rw[An rfl,acL];exact Cs c n T F hs he g (k+1) aeP aeP
  ·have:k=n:=by omega
   subst this;rw[he,An Kd]
theorem kJ {R:Type} {L:Int->Option R} (c:Nat->Bool) (n:Nat) (T F:R)
  (hs:∀k,k<n->L (k:Int)=if c k=true then L ((k+1:Nat):Int)else some F)
  (he:L (n:Int)=some T):L 0=some (if mW c 0 n=true then T else F):=Cs c n T F hs he n 0 aeP (abY _)
def X7 (c:Int):Option Bool:=fT c>>=λa=>(if a=true then some true else db c>>=λb=>(if b=true then some true else(if c=45 then some true else some false)))
def nmS (c:Int):Option Bool:=ia c>>=λa=>(if a=true then(if c=95 then some false else some true)else iR c>>=λb=>(if b=true then(if c=95 then some false else some true)else(if c=45 then(if c=95 then some false else some true)else some false)))
def SJ (n:Nat):Bool:=(X7 (n:Int)).getD false
theorem Ke:∀n:Fin 256,X7 (n.val:Int)=some (SJ n.val)/\nmS (n.val:Int)=some (SJ n.val):=by decide +kernel
theorem MU {β:Type} {c:Int} {b:Bool} (h:X7 c=some b) (x y:Option β):
  (fT c>>=λa=>(if a=true then x else db c>>=λb=>(if b=true then x else(if c=45 then x else y))))=if b=true then x else y:=by
 unfold X7 at h;cases f:fT c with
 | none=>rw[f]at h;cases h
 | some a=>
  rw[f,sb]at h;rw[sb];cases a with
  | true=>rw[An rfl]at h;cases h;rfl
  | false=>
   rw[so aeR]at h;rw[so aeR];cases e2:db c with
   | none=>rw[e2]at h;cases h
   | some d=>
    rw[e2,sb]at h;rw[sb];cases d with
    | true=>rw[An rfl]at h;cases h;rfl
    | false=>
     rw[so aeR]at h;rw[so aeR];by_cases e:c=45
     ·rw[An e]at h;cases h;rw[An e];rfl
     ·rw[so e]at h;cases h;rw[so e];rfl
theorem Kf {β:Type} {c:Int} {b:Bool} (h:nmS c=some b) (x y:Option β):
  (ia c>>=λa=>(if a=true then(if c=95 then y else x)else iR c>>=λb=>(if b=true then(if c=95 then y else x)else(if c=45 then(if c=95 then y else x)else y))))=if b=true then x else y:=by
 unfold nmS at h
 have fin:(if c=95 then some false else some true)=some b->(if c=95 then y else x)=if b=true then x else y:=λh=>by
  by_cases e:c=95
  ·rw[An e]at h;cases h;rw[An e];rfl
  ·rw[so e]at h;cases h;rw[so e];rfl
 cases g:ia c with
 | none=>rw[g]at h;cases h
 | some a=>
  rw[g,sb]at h;rw[sb];cases a with
  | true=>rw[An rfl]at h;rw[An rfl];exact fin h
  | false=>
   rw[so aeR]at h;rw[so aeR];cases e2:iR c with
   | none=>rw[e2]at h;cases h
   | some d=>
    rw[e2,sb]at h;rw[sb];cases d with
    | true=>rw[An rfl]at h;rw[An rfl];exact fin h
    | false=>
     rw[so aeR]at h;rw[so aeR];by_cases f:c=45
     ·rw[An f]at h;rw[An f];exact fin h
     ·rw[so f]at h;cases h;rw[so f];rfl
def pT (s:aB):Bool:=mW (λk=>SJ (s.getD k 0).toNat) 0 s.length&&decide (1<=s.length/\s.length<=20)
theorem ub (c:UInt8):c.toNat<256:=c.toNat_lt
theorem A9 {s:aB} (hs:s.length<=2000000):iE s=some (pT s)/\jE s=some (pT s):=by
 unfold iE jE pT
 rw[kJ (L:=de s) (λk=>SJ (s.getD k 0).toNat) s.length (.inl ()) (.inr false) (λk a=>?_) (by rw[de,so aeP]),
  kJ (L:=eu s) (λk=>SJ (s.getD k 0).toNat) s.length (.inl ()) (.inr false) (λk a=>?_) (by rw[eu,so aeP])]
 ·have b:wx (s.length:Int) 1 20=some (decide (1<=s.length/\s.length<=20)):=by rw[pM];congr 1;simp only[adg];omega
  have e2:Dx (s.length:Int) 1 20=some (decide (1<=s.length/\s.length<=20)):=by rw[Ck];congr 1;simp only[adg];omega
  cases mW (λk=>SJ (s.getD k 0).toNat) 0 s.length
  ·exact aez
  ·simp only[sb,acO,b,e2,acL];exact⟨trivial,trivial⟩
 ·rw[eu,An aeP];simp only[dD a,sb,bJ (show k<9223372036854775807 by omega)];exact Kf (Ke ⟨_,ub (s.getD k 0)⟩).2 _ _
 ·rw[de,An aeP];simp only[dD a,sb,bJ (show k<9223372036854775807 by omega)];exact MU (Ke ⟨_,ub (s.getD k 0)⟩).1 _ _
def xy (s:aB):Bool:=mW (λk=>decide (32<=(s.getD k 0).toNat/\(s.getD k 0).toNat<=126)) 0 s.length&&decide (s.length<=60)
theorem Ep {s:aB} (hs:s.length<=2000000):hC s=some (xy s)/\iU s=some (xy s):=by
 unfold hC iU xy
 rw[kJ (L:=ed s) (λk=>decide (32<=(s.getD k 0).toNat/\(s.getD k 0).toNat<=126)) s.length (.inl ()) (.inr false) (λk a=>?_) (by rw[ed,so aeP]),
  kJ (L:=fM s) (λk=>decide (32<=(s.getD k 0).toNat/\(s.getD k 0).toNat<=126)) s.length (.inl ()) (.inr false) (λk a=>?_) (by rw[fM,so aeP])]
 ·have b:decide ((s.length:Int)<=60)=decide (s.length<=60):=by simp only[adg];omega
  rw[b];cases mW (λk=>decide (32<=(s.getD k 0).toNat/\(s.getD k 0).toNat<=126)) 0 s.length
  ·exact aez
  ·simp only[sb,acO,acL];exact⟨trivial,trivial⟩
 ·have c:=ub (s.getD k 0);rw[fM,An aeP,dD a,sb,bJ aeP,aP,pO aeP aeP,pM,sb];simp only[abH];by_cases q:32<=(s.getD k 0).toNat/\(s.getD k 0).toNat<=126
  ·rw[An aeP,An q]
  ·rw[so aeP,so q]
 ·have c:=ub (s.getD k 0);rw[ed,An aeP];simp only[dD a,sb,bJ (show k<9223372036854775807 by omega),abH];by_cases q1:(s.getD k 0).toNat<32
  ·rw[An aeP,so aeP]
  rw[so aeP];by_cases q2:(s.getD k 0).toNat>126
  ·rw[An aeP,so aeP]
  ·rw[so aeP,An aeP]
structure WO (o:av):Prop where
 tt:vH o<=3000
 bu:o.ah.length<=5
 he:o.ak.length<=8
 nm:∀h∈o.ak,h.dI.length<=2000/\h.mR.length<=2000
theorem WO.ob {o:av} (h:WO o):OB o:=by
 have h1:=h.tt;have h2:=h.bu;have c:=h.he;unfold vH at h1;refine⟨by omega,by omega,by omega,λb a=>?_⟩;have:=MT a;omega
structure OK (o:av):Prop where
 nd:(o.ak.map (·.dI)).Nodup
 hv:∀h∈o.ak,pT h.dI=true/\xy h.mR=true
 bf:∀b∈o.ah,0<=b.dk/\b.dk<=3
def SK (l:List ay) (i:Nat):Bool:=mW (λk=>!decide ((l.getD k default).dI=(l.getD i default).dI)) 0 i&&(pT (l.getD i default).dI&&xy (l.getD i default).mR)
def HD (o:av):Bool:=mW (SK o.ak) 0 o.ak.length&&mW (λi=>decide (0<=(o.ah.getD i default).dk/\(o.ah.getD i default).dk<=3)) 0 o.ah.length
theorem getD_at {α:Type} {l:List α} {i:Nat} {d:α} (h:i<l.length):l.getD i d=l[i]:=by rw[abv,abm h];rfl
theorem Ct (o:av):HD o=true↔OK o:=by
 unfold HD;rw[Is,ta,ta];constructor
 ·rintro⟨h1,h2⟩
  have d:∀i (hi:i<o.ak.length),(∀k (a:k<i),(o.ak[k]'aeP).dI≠o.ak[i].dI)/\pT o.ak[i].dI=true/\xy o.ak[i].mR=true:=λi hi=>by
   have:=h1 i (abY _) hi;unfold SK at this;rw[Is,Is,ta,getD_at hi]at this;refine⟨λk a he=>?_,this.2⟩;have q:=this.1 k (abY _) a;rw[getD_at aeP,he]at q;simp at q
  refine⟨?_,λh hh=>?_,λb e=>?_⟩
  ·refine List.pairwise_iff_getElem.2 λi j hi hj c=>?_;rw[acy,acy];rw[abT]at hi hj;exact(d j hj).1 i c
  ·obtain⟨i,hi,rfl⟩:=abQ.1 hh;exact(d i hi).2
  ·obtain⟨i,hi,rfl⟩:=abQ.1 e;have:=h2 i (abY _) hi;rw[getD_at hi,abH]at this;exact this
 ·intro h;refine⟨λi _ hi=>?_,λi _ hi=>?_⟩
  ·unfold SK;rw[Is,Is,ta,getD_at hi];refine⟨λk _ a=>?_,h.hv _ (abu hi)⟩;rw[getD_at aeP];have q:=List.pairwise_iff_getElem.1 h.nd k i (by rw[abT];omega) (by rw[abT];omega) a;rw[acy,acy]at q;simp [q]
  ·rw[getD_at hi,abH];exact h.bf _ (abu hi)
theorem Cv {o:av} (h:WO o):gS o=some (HD o):=by
 have h1:=h.tt;have h2:=h.bu;have d:=h.he;unfold gS HD
 rw[(Kb h.ob).2,sb,so aeP,so aeP,so aeP,
  kJ (L:=fe o) (SK o.ak) o.ak.length (.inl ()) (.inr false) (λi hi=>?_) (by rw[fe,so aeP])]
 ·have a:dX o 0=some (if mW (λi=>decide (0<=(o.ah.getD i default).dk/\(o.ah.getD i default).dk<=3)) 0 o.ah.length=true then .inl ()else .inr false):=by
   refine kJ (L:=dX o) _ o.ah.length (.inl ()) (.inr false) (λi hi=>?_) (by rw[dX,so aeP]);rw[dX,An aeP,a7 hi,sb,pM,sb,bJ aeP,getD_at hi]
  cases mW (SK o.ak) 0 o.ak.length
  ·rfl
  ·rw[An rfl,sb,a];generalize mW _ 0 o.ah.length=b;cases b<;>rfl
 ·rw[fe,An aeP];have e:=h.nm _ (abu hi)
  have c:dW o (i:Int) 0=some (if mW (λk=>!decide ((o.ak.getD k default).dI=(o.ak.getD i default).dI)) 0 i=true then .inl ()else .inr (.inr (.inr false))):=by
   refine kJ (L:=dW o (i:Int)) _ i (.inl ()) (.inr (.inr (.inr false))) (λk f=>?_) (by rw[dW,so aeP]);rw[dW,An aeP,a7 (show k<o.ak.length by omega),sb,a7 hi,sb,bJ aeP,getD_at aeP,getD_at hi];by_cases q:o.ak[k].dI=o.ak[i].dI
   ·rw[An q,so (by simp [q])]
   ·rw[so q,An (by simp [q])]
  unfold SK;rw[c,getD_at hi];generalize mW _ 0 i=b;cases b with
  | false=>rfl
  | true=>
   rw[An rfl,sb];dsimp only;rw[a7 hi,sb,(A9 aeP).2,sb];cases pT o.ak[i].dI with
   | false=>rfl
   | true=>
    rw[An rfl,sb,(Ep aeP).2,sb];cases xy o.ak[i].mR with
    | false=>rfl
    | true=>rw[An rfl,sb,bJ aeP];rfl
theorem Kg {o:av} (n:Nat):vH ⟨o.bc,o.ak,o.ah.take n⟩<=vH o:=by
 unfold vH
 have:∀(l:List az) (n:Nat),((l.take n).map (·.bh.length)).sum<=(l.map (·.bh.length)).sum:=by
  intro l;induction l with
  | nil=>simp
  | cons b l a=>intro n;cases n with | zero=>simp | succ n=>simp only[List.take_succ_cons,abF,acS];have:=a n;omega
 have:=this o.ah n;simp only[Nat.add_le_add_iff_left];exact this
theorem FZ {o:av} (h:WO o) (n:Nat):WO ⟨o.bc,o.ak,o.ah.take n⟩:=by
 have h1:=h.tt;have h2:=h.bu;have a:=h.he;have h4:=h.nm;refine⟨acg (Kg n) h1,?_,a,h4⟩;show(o.ah.take n).length<=5;rw[ach];omega
theorem Ga {o:av} (h:OK o) (n:Nat):OK ⟨o.bc,o.ak,o.ah.take n⟩:=⟨h.nd,h.hv,λb a=>h.bf b (adl a)⟩
theorem MV (l:List az) (i:Nat) (b:az):∀(h:i<l.length),((l.set i b).map (·.bh.length)).sum+l[i].bh.length=(l.map (·.bh.length)).sum+b.bh.length:=by
 induction l generalizing i with
 | nil=>intro h;simp at h
 | cons x l a=>
  intro h;cases i with
  | zero=>simp only[acY,abF,acS,List.getElem_cons_zero];omega
  | succ i=>
   have:=a i afb;simp only[acZ,abF,acS,List.getElem_cons_succ];omega
theorem Ba {o:av} (h:WO o) (t:aB):WO (xx o t).1:=by
 have h1:=h.tt;have h2:=h.bu;have a:=h.he;have h4:=h.nm;unfold xx;by_cases q1:vH o+t.length>3000
 ·rw[An q1];exact h
 rw[so q1];by_cases q2:o.ah.length=0
 ·rw[An q2];refine⟨?_,h2,a,h4⟩;unfold vH at q1 ⊢;show(o.bc++t).length+(o.ah.map (·.bh.length)).sum<=3000;rw[abt];omega
 ·rw[so q2];have b:o.ah.length - 1<o.ah.length:=by omega
  refine⟨?_,by simpa using h2,a,h4⟩;unfold vH at q1 ⊢;rw[getD_at b];have:=MV o.ah (o.ah.length - 1) ⟨o.ah[o.ah.length - 1].dk,o.ah[o.ah.length - 1].bh++t⟩ b;rw[abt]at this;show o.bc.length+((o.ah.set (o.ah.length - 1) ⟨o.ah[o.ah.length - 1].dk,o.ah[o.ah.length - 1].bh++t⟩).map (·.bh.length)).sum<=3000;omega
theorem MW {o:av} (h:OK o) (t:aB):OK (xx o t).1:=by
 unfold xx;by_cases q1:vH o+t.length>3000
 ·rw[An q1];exact h
 rw[so q1];by_cases q2:o.ah.length=0
 ·rw[An q2];exact⟨h.nd,h.hv,h.bf⟩
 ·rw[so q2];have c:o.ah.length - 1<o.ah.length:=by omega
  refine⟨h.nd,h.hv,λb a=>?_⟩;rcases acV a with a | rfl
  ·exact h.bf b a
  ·have q:=h.bf _ (abu c);rw[getD_at c];exact q
theorem MX (o:av) (t:aB):(xx o t).1.ak=o.ak:=by
 unfold xx
 repeat' (first | rfl | split)
theorem Gb {o:av} (h:WO o):WO (uk o).1:=by
 unfold uk;split
 ·exact h
 ·exact Ba (FZ h _) _
theorem MY {o:av} (h:OK o):OK (uk o).1:=by
 unfold uk;split
 ·exact h
 ·exact MW (Ga h _) _
theorem MZ (o:av):(uk o).1.ak=o.ak:=by
 unfold uk;split
 ·rfl
 ·exact MX _ _
theorem Kh {o:av} (h:WO o):∃b,dJ o=some (⟨o.bc,o.ak,o.ah.take (o.ah.length - 1)⟩,b):=by
 have g:=h.bu;obtain⟨e,i⟩:=k6 h.ob;unfold dJ;rw[e,sb];by_cases h0:o.ah.length=0
 ·have d:aP ((o.ah.length:Int) - 1)= -1:=by rw[aP,pO aeP aeP];omega
  have en:o.ah=[]:=acv h0;rw[d,An aeQ];refine⟨false,?_⟩;congr 2;cases o with
  | mk a b c=>
   have en:c=[]:=en;subst en;rfl
 ·have d:aP ((o.ah.length:Int) - 1)=((o.ah.length - 1:Nat):Int):=by rw[aP,pO aeP aeP];omega
  have f:LI o.ah ((o.ah.length - 1:Nat):Int)=some (o.ah.take (o.ah.length - 1)):=by
   unfold LI;rw[An ⟨by omega,by omega⟩];rfl
  rw[d,so aeP,f,sb];exact⟨true,rfl⟩
theorem Ki {o:av} (h:WO o):gv o=some (uk o)/\eW o=some (uk o):=by
 have e:=h.bu;by_cases h0:o.ah.length=0
 ·obtain⟨a,b⟩:=k6 h.ob;have c:aP ((o.ah.length:Int) - 1)= -1:=by rw[aP,pO aeP aeP];omega
  unfold gv eW dJ gY uk;have d:(o.ah.length:Int)=0:=by omega
  simp only[a,b,c,sb,An h0,An d,show(-1:Int)<0 from by decide,acO,so Bool.false_ne_true];exact⟨trivial,trivial⟩
 ·exact Kc h.ob aeP
theorem start_eq {o:av} (h:WO o) (f:Int):∃c b,hI o f=some (c,b)/\fL o f=some (c,b)/\WO c/\(OK o->OK c)/\c.ak=o.ak:=by
 have h1:=h.tt;have h2:=h.bu;have d:=h.he;obtain⟨e,i⟩:=k6 h.ob;unfold hI fL;rw[e,i,sb,sb,Ck,pM,sb];by_cases q:0<=f/\f<=3
 ·rw[acd q,An rfl];by_cases q2:(o.ah.length:Int)>=5
  ·rw[An q2];exact⟨o,false,rfl,rfl,h,id,rfl⟩
  ·rw[so q2,ca aeT,sb];refine⟨_,_,rfl,rfl,⟨?_,?_,d,h.nm⟩,λg=>⟨g.nd,g.hv,λb a=>?_⟩,rfl⟩
   ·unfold vH at h1 ⊢;show o.bc.length+((o.ah++[_]).map _).sum<=3000;rw[acu,List.sum_append];simpa using h1
   ·show(o.ah++[_]).length<=5;rw[abt];simp;omega
   ·rcases aby.1 a with a | a
    ·exact g.bf b a
    ·rw[acb]at a;subst a;exact q
 ·rw[abV q,so aeR];exact⟨o,false,rfl,rfl,h,id,rfl⟩
theorem QY (l:List ay) (s:aB) (c:l.length<=2000000):∃r,jX l s=some (r,s)/\((r= -1/\∀h∈l,h.dI≠s)\/∃k:Nat,∃d:k<l.length,r=(k:Int)/\l[k].dI=s):=by
 have go:∀(f k:Nat),l.length<=k+f->k<=l.length->(∀j (hj:j<l.length),j<k->l[j].dI≠s)->
   (cM l s (k:Int)=some (.inl s)/\∀h∈l,h.dI≠s)\/∃i:Nat,∃hi:i<l.length,cM l s (k:Int)=some (.inr ((i:Int),s))/\l[i].dI=s:=by
  intro f;induction f with
  | zero=>
   intro k h1 h2 a;obtain rfl:k=l.length:=by omega
   refine .inl ⟨by rw[cM,so aeP],λh hh=>?_⟩;obtain⟨j,hj,rfl⟩:=abQ.1 hh;exact a j hj hj
  | succ f b=>
   intro k h1 h2 a;by_cases hc:k<l.length
   ·by_cases he:l[k].dI=s
    ·refine .inr ⟨k,hc,?_,he⟩;rw[cM,An aeP,a7 hc,sb];unfold gH;rw[sb];dsimp only;rw[An (by rw[he];exact beq_self_eq_true _)]
    ·have:=b (k+1) aeP aeP (λj hj h=>by
      by_cases e:j=k
      ·subst e;exact he
      ·exact a j hj aeP)
     rw[cM,An aeP,a7 hc,sb];unfold gH;rw[sb];dsimp only;rw[so (by rw[ack];exact he),bJ aeP];exact this
   ·exact b k aeP h2 a
 unfold jX;rcases go l.length 0 aeP (abY _) (λ_ _ h=>absurd h (abR _))with⟨e,h⟩ | ⟨i,hi,e,h⟩
 ·replace e:cM l s 0=_:=e;rw[e];exact⟨-1,rfl,.inl ⟨rfl,h⟩⟩
 ·replace e:cM l s 0=_:=e;rw[e];exact⟨(i:Int),rfl,.inr ⟨i,hi,rfl,h⟩⟩
theorem HE {s:aB} (h:pT s=true):s.length<=20:=by
 unfold pT at h;rw[Is,abH]at h;exact h.2.2
theorem Kj {s:aB} (h:xy s=true):s.length<=60:=by
 unfold xy at h;rw[Is,abH]at h;exact h.2
theorem HF (l:List ay) (k:Nat) (a:k<l.length) (v:aB):(l.set k ⟨l[k].dI,v⟩).map (·.dI)=l.map (·.dI):=by
 refine List.ext_getElem aeR λi h1 h2=>?_;rw[acy,acy,List.getElem_set];split
 ·rename_i e;subst e;rfl
 ·rfl
theorem Kk {o:av} (h:WO o) (c:o.ak.length<8) {s t:aB} (hs:s.length<=2000) (b:t.length<=2000):WO ⟨o.bc,o.ak++[⟨s,t⟩],o.ah⟩:=by
 refine⟨h.tt,h.bu,by show(o.ak++[_]).length<=8;rw[abt];simp;omega,λx a=>?_⟩;rcases aby.1 a with a | a
 ·exact h.nm x a
 ·rw[acb]at a;subst a;exact⟨hs,b⟩
theorem Kl {o:av} (h:WO o) (k:Nat) (b:k<o.ak.length) {t:aB} (c:t.length<=2000):WO ⟨o.bc,o.ak.set k ⟨o.ak[k].dI,t⟩,o.ah⟩:=by
 refine⟨h.tt,h.bu,by simpa using h.he,λx a=>?_⟩;rcases acV a with a | rfl
 ·exact h.nm x a
 ·exact⟨(h.nm _ (abu b)).1,c⟩
theorem M0 {o:av} (h:WO o) {s t:aB} (hs:s.length<=2000000) (j:t.length<=2000000):∃e c,jq o s t=some (e,c)/\WO e/\(OK o->OK e):=by
 have u:=h.he;obtain⟨l,v⟩:=k6 h.ob;obtain⟨r,m,n⟩:=QY o.ak s aeP;unfold jq;rw[l,sb,m,sb];dsimp only;rw[(A9 hs).1,(Ep j).1];by_cases q1:¬o.bc=[]
 ·rw[so q1];exact⟨_,_,rfl,h,id⟩
 rw[An (ads.1 q1),sb];cases q2:pT s with
 | false=>rw[so aeR];exact⟨_,_,rfl,h,id⟩
 | true=>
 rw[An rfl,sb];cases q3:xy t with
 | false=>rw[so aeR];exact⟨_,_,rfl,h,id⟩
 | true=>
 have n1:=HE q2;have n2:=Kj q3;rw[An rfl];rcases n with⟨rfl,p⟩ | ⟨k,f,rfl,w⟩
 ·rw[An aeQ,sb];by_cases q4:(o.ak.length:Int)>=8
  ·rw[acd q4,An rfl];exact⟨_,_,rfl,h,id⟩
  ·rw[abV q4,so aeR,An aeQ,ca aeT,sb];refine⟨_,_,rfl,Kk h aeP aeP aeP,λg=>⟨?_,λx d=>?_,g.bf⟩⟩
   ·show((o.ak++[_]).map _).Nodup;rw[acu,List.nodup_append];refine⟨g.nd,by simp,λa q b i=>?_⟩;simp only[abF,acw,acb]at i;subst i;obtain⟨x,d,rfl⟩:=abN.1 q;exact p x d
   ·rcases aby.1 d with d | d
    ·exact g.hv x d
    ·rw[acb]at d;subst d;exact⟨q2,q3⟩
 ·have e2:¬((k:Int)<0):=by omega
  rw[so e2,sb,so aeR,so e2,a7 f,sb,acq];refine⟨_,_,rfl,Kl h k f aeP,λg=>⟨?_,λx d=>?_,g.bf⟩⟩
  ·show((o.ak.set k _).map _).Nodup;rw[HF];exact g.nd
  ·rcases acV d with d | rfl
   ·exact g.hv x d
   ·exact⟨(g.hv _ (abu f)).1,q3⟩
end Go.Am
