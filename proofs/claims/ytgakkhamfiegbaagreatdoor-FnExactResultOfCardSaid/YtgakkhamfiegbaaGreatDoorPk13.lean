/- Texts of the proof, joined and shortened. -/
import Derived.Test.YtgakkhamfiegbaaGreatDoorPk12
set_option linter.unusedVariables false
set_option linter.unusedSimpArgs false
namespace Go.Am
open Go Go.RowKit Go.Proofs
theorem SE (v:ai):gu v=some (zv v):=zero_eq v
theorem KT {κ β:Type} [DecidableEq κ]:∀(l:List (κ×β)) (k:κ) (v:β),mU l k=none->(lx l k v).length=l.length+1
 | [],k,v,_=>rfl
 | (a,b)::r,k,v,h=>by
  unfold mU at h;unfold lx;by_cases e:k=a
  ·rw[an e]at h;cases h
  ·rw[mg e]at h ⊢;simp [KT r k v h]
def Ci (t:bH) (k:Nat):Prop:=∀i,k<=i->∀h:i<t.ak.length,KV t.aE t.ak[i]/\(t.ak[i].bS=true->∀e∈lv (t.ak.take i),e.aN≠t.ak[i].aN)
theorem Ci.step {t:bH} {k:Nat} (h:k<t.ak.length):Ci t k↔(KV t.aE t.ak[k]/\(t.ak[k].bS=true->∀e∈lv (t.ak.take k),e.aN≠t.ak[k].aN))/\Ci t (k+1):=by
 constructor
 ·exactλq=>⟨q k (abF _) h,λi hi hl=>q i ajo hl⟩
 ·rintro⟨q1,q2⟩ i hi hl;by_cases e:i=k
  ·subst e;exact q1
  ·exact q2 i ajo hl
def Mp (l:List (bV×Bool)) (L:List af):Prop:=(∀k,mU l k=if ∃e∈L,e.aN=k then some true else none)/\l.length=L.length
theorem WZ (a:bH) (hl:a.ak.length<=2000000):∀(f i:Nat) (l:List (bV×Bool)),a.ak.length<=i+f->i<=a.ak.length->Mp l (lv (a.ak.take i))->
  (Ci a i->∃b,cF a l (i:Int)=some (.inl b)/\b.length=(lv a.ak).length)/\(¬Ci a i->cF a l (i:Int)=some (.inr false))
 | f,i,l,hf,hi,hm=>by
  rw[cF];by_cases hc:i<a.ak.length
  ·obtain⟨g,rfl⟩:∃g,f=g+1:=⟨f - 1,by omega⟩;rw[Ci.step hc];have p:=λb h=>WZ a hl g (i+1) b ajo ajo h;rw[Ot hc]at p;rw[an ajo,ba hc,sb];generalize hs:a.ak[i]=s at p ⊢;rw[SF,sb,SE,bm ajo];by_cases n:vk s.aN=true
   case neg=>rw[mg n];exact⟨λh=>absurd h.1.1.1 n,λ_=>rfl⟩
   rw[an n]
   have bad:∀x:Option ((List (bV×Bool)) ⊕ Bool),x=some (.inr false)->¬(KV a.aE s/\(s.bS=true->∀e∈lv (a.ak.take i),e.aN≠s.aN))->((KV a.aE s/\(s.bS=true->∀e∈lv (a.ak.take i),e.aN≠s.aN))/\Ci a (i+1)->∃b,x=some (.inl b)/\b.length=(lv a.ak).length)/\(¬((KV a.aE s/\(s.bS=true->∀e∈lv (a.ak.take i),e.aN≠s.aN))/\Ci a (i+1))->x=some (.inr false)):=
    λx c r=>⟨λh=>absurd h.1 r,λ_=>c⟩
   have u:∀x:Option ((List (bV×Bool)) ⊕ Bool),(KV a.aE s/\(s.bS=true->∀e∈lv (a.ak.take i),e.aN≠s.aN))->((Ci a (i+1)->∃b,x=some (.inl b)/\b.length=(lv a.ak).length)/\(¬Ci a (i+1)->x=some (.inr false)))->((KV a.aE s/\(s.bS=true->∀e∈lv (a.ak.take i),e.aN≠s.aN))/\Ci a (i+1)->∃b,x=some (.inl b)/\b.length=(lv a.ak).length)/\(¬((KV a.aE s/\(s.bS=true->∀e∈lv (a.ak.take i),e.aN≠s.aN))/\Ci a (i+1))->x=some (.inr false)):=
    λx hg c=>⟨λh=>c.1 h.2,λh=>c.2 (λq=>h ⟨hg,q⟩)⟩
   have live:∀(q:s.aN.bO=true\/s.aN.bb<a.aE),s.bS=true->∀x:Option ((List (bV×Bool)) ⊕ Bool),x=(if(Ju l s.aN false)=true then some (.inr false)else cF a (lx l s.aN true) ((i+1:Nat):Int))->((KV a.aE s/\(s.bS=true->∀e∈lv (a.ak.take i),e.aN≠s.aN))/\Ci a (i+1)->∃b,x=some (.inl b)/\b.length=(lv a.ak).length)/\(¬((KV a.aE s/\(s.bS=true->∀e∈lv (a.ak.take i),e.aN≠s.aN))/\Ci a (i+1))->x=some (.inr false)):=λq h3 x c=>by
    have e:Ju l s.aN false=decide (∃e∈lv (a.ak.take i),e.aN=s.aN):=by
     unfold Ju;rw[hm.1];by_cases h:∃e∈lv (a.ak.take i),e.aN=s.aN
     ·rw[an h,afU h];rfl
     ·rw[mg h,afV h];rfl
    rw[e]at c;by_cases h:∃e∈lv (a.ak.take i),e.aN=s.aN
    ·rw[afU h,an rfl]at c;obtain⟨m,d,j⟩:=h;exact bad x c (λq=>q.2 h3 m d j)
    ·rw[afV h,mg ajq]at c;refine u x ⟨⟨n,q,.inl h3⟩,λ_ e he h'=>h ⟨e,he,h'⟩⟩ ?_;rw[c];refine p _ ?_;rw[an h3];refine⟨λk=>?_,?_⟩
     ·rw[A0,hm.1];by_cases t:k=s.aN
      ·rw[an t,an ⟨slE s,by simp,t.symm⟩]
      ·rw[mg t];by_cases h':∃e∈lv (a.ak.take i),e.aN=k
       ·obtain⟨m,d,j⟩:=h';rw[an ⟨m,d,j⟩,an ⟨m,ahK _ d,j⟩]
       ·rw[mg h',mg];rintro⟨m,d,j⟩;rcases afY.1 d with d | d
        ·exact h' ⟨m,d,j⟩
        ·obtain rfl:=ahy.1 d;exact t j.symm
     ·rw[KT _ _ _ (by rw[hm.1,mg h]),hm.2];simp
   have dead:∀(q:s.aN.bO=true\/s.aN.bb<a.aE),¬s.bS=true->∀x:Option ((List (bV×Bool)) ⊕ Bool),x=(some (zv s.av)>>=λv=>if v=true then cF a l ((i+1:Nat):Int)else some (.inr false))->((KV a.aE s/\(s.bS=true->∀e∈lv (a.ak.take i),e.aN≠s.aN))/\Ci a (i+1)->∃b,x=some (.inl b)/\b.length=(lv a.ak).length)/\(¬((KV a.aE s/\(s.bS=true->∀e∈lv (a.ak.take i),e.aN≠s.aN))/\Ci a (i+1))->x=some (.inr false)):=λq h3 x c=>by
    rw[sb]at c;by_cases h:zv s.av=true
    ·rw[an h]at c;refine u x ⟨⟨n,q,.inr h⟩,λh'=>absurd h' h3⟩ ?_;rw[c];refine p _ ?_;rw[mg h3,agB];exact hm
    ·rw[mg h]at c;exact bad x c (λq=>by rcases q.1.2.2 with q | q;exact h3 q;exact h q)
   by_cases o:s.aN.bO=true
   ·rw[an o];by_cases h3:s.bS=true
    ·simp only[an h3];exact live (.inl o) h3 _ rfl
    ·simp only[mg h3];exact dead (.inl o) h3 _ rfl
   ·rw[mg o];by_cases r:s.aN.bb>=a.aE
    ·rw[an r];exact bad _ rfl (λq=>by rcases q.1.2.1 with q | q;exact o q;omega)
    ·rw[mg r];by_cases h3:s.bS=true
     ·simp only[an h3];exact live (.inr ajo) h3 _ rfl
     ·simp only[mg h3];exact dead (.inr ajo) h3 _ rfl
  ·have:i=a.ak.length:=by omega
   subst this;rw[mg ajo];rw[ahb]at hm;exact⟨λ_=>⟨l,rfl,hm.2⟩,λh=>absurd (λi h1 h2=>by omega) h⟩
def Cf (t:bH) (k:Nat):Prop:=∀i,k<=i->∀h:i<t.ak.length,t.ak[i].aN=bV.mk false (i:Int) []/\t.ak[i].di= -1
theorem W0 (a:bH) (hl:a.ak.length<=2000000):∀(f i:Nat),a.ak.length<=i+f->i<=a.ak.length->(Cf a i->jR a (i:Int)=some (.inl ()))/\(¬Cf a i->jR a (i:Int)=some (.inr (.inr false)))
 | f,i,hf,hi=>by
  rw[jR];by_cases hc:i<a.ak.length
  ·obtain⟨g,rfl⟩:∃g,f=g+1:=⟨f - 1,by omega⟩;have d:=W0 a hl g (i+1) ajo ajo;rw[an ajo,ba hc,sb,bm ajo];by_cases c:a.ak[i].aN=bV.mk false (i:Int) []/\a.ak[i].di= -1
   ·rw[an c.1,an c.2];refine⟨λh=>d.1 (λj hj=>h j ajo),λh=>d.2 (λq=>h (λj hj k=>?_))⟩;by_cases e:j=i
    ·subst e;exact c
    ·exact q j ajo k
   ·refine⟨λh=>absurd (h i (abF _) hc) c,λ_=>?_⟩;by_cases b:a.ak[i].aN=bV.mk false (i:Int) []
    ·rw[an b,mg (λq=>c ⟨b,q⟩)]
    ·rw[mg b]
  ·rw[mg ajo];exact aje
def Ch (t:bH) (k:Nat):Prop:=∀i,k<=i->∀h:i<t.ak.length,t.ak[i].di=WW t.aG.length t.ak i
theorem W1 (a:bH) (hl:a.ak.length<=2000000) (b:0<a.aG.length) (d:a.aG.length<=1024) (k:∀s∈a.ak,KB s.aN):∀(f i:Nat),a.ak.length<=i+f->i<=a.ak.length->
  (Ch a i->jS a (tK a.aG.length (a.ak.take i)) (i:Int)=some (.inl (tK a.aG.length a.ak)))/\(¬Ch a i->jS a (tK a.aG.length (a.ak.take i)) (i:Int)=some (.inr false))
 | f,i,hf,hi=>by
  rw[jS];by_cases hc:i<a.ak.length
  ·obtain⟨g,rfl⟩:∃g,f=g+1:=⟨f - 1,by omega⟩;have l:=W1 a hl b d k g (i+1) ajo ajo;have kb:=k _ (afQ hc);obtain⟨_,m,_,_⟩:=Oo kb;obtain⟨n,_⟩:=M9 b d kb;rw[an ajo,ba hc,sb,bm ajo,m,sb,n,sb,Na (Sy b _),sb,afT,<-xe hc,<-DV hc];by_cases c:a.ak[i].di=WW a.aG.length a.ak i
   ·rw[an c,sb];refine⟨λh=>l.1 (λj hj=>h j ajo),λh=>l.2 (λq=>h (λj hj o=>?_))⟩;by_cases e:j=i
    ·subst e;exact c
    ·exact q j ajo o
   ·rw[mg c];exact⟨λh=>absurd (h i (abF _) hc) c,λ_=>rfl⟩
  ·have:i=a.ak.length:=by omega
   subst this;rw[mg ajo,ahb];exact aje
theorem KU (a b:List Int) (hl:a.length=b.length) (d:a.length<=2000000):∀(f i:Nat),a.length<=i+f->i<=a.length->
  (a.drop i=b.drop i->oG a b (i:Int)=some (.inl ()))/\(¬a.drop i=b.drop i->oG a b (i:Int)=some (.inr false))
 | f,i,hf,hi=>by
  rw[oG];by_cases hc:i<a.length
  ·obtain⟨g,rfl⟩:∃g,f=g+1:=⟨f - 1,by omega⟩;have c:=KU a b hl d g (i+1) ajo ajo;rw[an ajo,ba hc,ba ajo,sb,sb,bm ajo];rw[agl hc,agl (show i<b.length by omega)];by_cases e:a[i]=b[i]
   ·rw[an e,e];exact⟨λh=>c.1 (ahS h).2,λh=>c.2 (λq=>h (by rw[q]))⟩
   ·rw[mg e];exact⟨λh=>absurd (ahS h).1 e,λ_=>rfl⟩
  ·rw[mg ajo];exact⟨λ_=>rfl,λh=>absurd (by rw[ahr ajo,ahr ajo]) h⟩
theorem SG (a b:List Int) (hl:a.length=b.length) (c:a.length<=2000000):wO a b=some (decide (a=b)):=by
 have:=KU a b hl c a.length 0 ajo ajo;rw[afZ,afZ,show((0:Nat):Int)=0 from rfl]at this;unfold wO;rw[an ajo];by_cases e:a=b
 ·rw[this.1 e,afU e];rfl
 ·rw[this.2 e,afV e];rfl
theorem Ci.kv {t:bH} (h:Ci t 0):∀s∈t.ak,KV t.aE s:=λs hs=>by
 obtain⟨i,hi,rfl⟩:=agr.1 hs;exact(h i (agt _) hi).1
theorem Ci.dis {t:bH} (h:Ci t 0):SD t.ak:=by
 unfold SD;rw[aha];intro i j hi hj a l1 b;refine(h j (agt _) hj).2 b (slE t.ak[i]) (SA.2 ⟨t.ak[i],?_,l1,rfl⟩);rw[agr];exact⟨i,by simp;omega,by simp⟩
theorem Ci.of {t:bH} (h1:∀s∈t.ak,KV t.aE s) (h2:SD t.ak):Ci t 0:=λi _ hi=>⟨h1 _ (afQ hi),λhl e he=>by
 obtain⟨s,hs,q1,rfl⟩:=SA.1 he;obtain⟨j,hj,rfl⟩:=agr.1 hs;have a:j<i:=by simp at hj;omega
 rw[ahT]at q1 ⊢;exact aha.1 h2 j i ajo hi a q1 hl⟩
theorem aeE {t:bH} (hb:TB t):(VT t->lN t=some true)/\(¬VT t->lN t=some false):=by
 have o:=hb.sl;have w:=hb.hl;have pos:∀{x:Option Bool},VT t->x=some true->(VT t->x=some true)/\(¬VT t->x=some false):=λh p=>⟨λ_=>p,λq=>absurd h q⟩;have neg:∀{x:Option Bool},¬VT t->x=some false->(VT t->x=some true)/\(¬VT t->x=some false):=λh p=>⟨λq=>absurd q h,λ_=>p⟩;have f:∀a b c:Int,LC a b c=some (decide (b<=a/\a<=c)):=λa b c=>pS a b c;have l1:=WZ t o t.ak.length 0 [] ajo ajo ⟨λk=>by rw[ahj,mg (by rintro⟨e,he,_⟩;simp [lv]at he)];rfl,by simp [lv]⟩;have r:=W0 t o t.ak.length 0 ajo ajo;rw[show((0:Nat):Int)=0 from rfl]at l1 r;unfold lN;by_cases q1:0<=t.aE/\t.aE<=1000000001
 case neg=>rw[f,sb,afV q1];exact neg (λh=>q1 h.nx) rfl
 rw[f,sb,afU q1,an rfl];by_cases q2:Ci t 0
 case neg=>rw[l1.2 q2];exact neg (λh=>q2 (Ci.of h.vc.kv h.vc.dis)) rfl
 obtain⟨z,s,e2⟩:=l1.1 q2;rw[s,sb];dsimp only;rw[e2];by_cases q3:t.aZ=((lv t.ak).length:Int)
 case neg=>rw[mg q3];exact neg (λh=>q3 h.ct) rfl
 rw[an q3];by_cases q4:t.bZ=true
 ·rw[an q4,sb];dsimp only
  have sz:VT t->Pw t.aG.length/\t.ak.length<=t.aG.length:=λh=>by
   have h:=h.sz;unfold H1 at h;rw[an q4]at h;exact h
  by_cases u:t.aG.length<8
  ·rw[an ajo];exact neg (λh=>by have:=(sz h).1.bd;omega) rfl
  rw[mg ajo];by_cases g:t.aG.length>1024
  ·rw[an ajo];exact neg (λh=>by have:=(sz h).1.bd;omega) rfl
  rw[mg ajo];by_cases d:bits .and .i64 (t.aG.length:Int) (ah ((t.aG.length:Int) - 1))=0
  case neg=>rw[mg d];exact neg (λh=>d (SC (sz h).1)) rfl
  rw[an d];have hp:Pw t.aG.length:=WY ⟨t.aG.length,by omega⟩ (by show 8<=t.aG.length;omega) d;by_cases A:t.ak.length>t.aG.length
  ·rw[an ajo];exact neg (λh=>by have:=(sz h).2;omega) rfl
  rw[mg ajo,M8 _ ajo,sb];have v:=W1 t o ajo ajo hb.kb t.ak.length 0 ajo ajo;rw[ahj,Ij,show((0:Nat):Int)=0 from rfl]at v
  have j:VT t->Ch t 0/\tK t.aG.length t.ak=t.aG:=λh=>by
   refine⟨λi _ hi=>?_,h.hd.symm⟩;obtain⟨⟨_,_,_,q⟩,_⟩:=h.cs i (agt _) hi;rw[an q4]at q;exact q
  by_cases l:Ch t 0
  case neg=>rw[v.2 l];exact neg (λh=>l (j h).1) rfl
  rw[v.1 l,sb];dsimp only;rw[SG _ _ (by rw[mQ]) (by rw[mQ];omega),sb];by_cases m:tK t.aG.length t.ak=t.aG
  ·rw[afU m];refine pos ?_ rfl;have:=VT.hashed (n:=t.aG.length) (L:=t.ak) (nx:=t.aE) (c:=t.aZ) q1 hp ajo (λi hi=>l i (agt _) hi) q2.kv q2.dis q3;rw[m]at this;rw[<-q4]at this;exact this
  ·rw[afV m];exact neg (λh=>m (j h).2) rfl
 ·rw[mg q4]
  have sz:VT t->t.aG.length=0/\(t.ak.length:Int)<=t.aE:=λh=>by
   have h:=h.sz;unfold H1 at h;rw[mg q4]at h;exact h
  by_cases u:(t.aG.length:Int)>0
  ·rw[an u];exact neg (λh=>by have:=(sz h).1;omega) rfl
  have em:ph t.aE 1024=some (if 1024<t.aE then 1024 else t.aE):=by
   unfold ph;split<;>rfl
  rw[mg u,em,sb];by_cases g:(t.ak.length:Int)>(if 1024<t.aE then 1024 else t.aE)
  ·rw[an g];refine neg (λh=>?_) rfl;have h1:=(sz h).2;have h2:=h.sl;split at g<;>omega
  rw[mg g];by_cases d:Cf t 0
  ·rw[r.1 d];refine pos ?_ rfl;have h1:t.ak.length<=1024/\(t.ak.length:Int)<=t.aE:=by split at g<;>omega
   have y:t.aG=[]:=agw ajo;have:=VT.flat (L:=t.ak) (nx:=t.aE) (c:=t.aZ) q1 h1.1 h1.2 (λi hi=>d i (agt _) hi) q2.kv q3;have s:t.bZ=false:=by simpa using q4
   rw[<-y,<-s]at this;exact this
  ·rw[r.2 d];refine neg (λh=>d (λi _ hi=>?_)) rfl;obtain⟨⟨_,_,_,q⟩,_⟩:=h.cs i (agt _) hi;rw[mg q4]at q;exact q
end Go.Am
namespace Go.Am
section
variable (ch:Nat->List (Option Nat))
inductive GS:List (Option Nat)->Nat->Prop
 | nil:GS [] 0
 | leaf {r:List (Option Nat)} {m:Nat} (h:GS r m):GS (none::r) (1+m)
 | node {c:Nat} {r:List (Option Nat)} {a m:Nat} (hc:GS (ch c) a) (h:GS r m):GS (some c::r) ((a+1)+m)
def Wt (i n:Nat):Prop:=∃m,n=m+1/\GS ch (ch i) m
def yo (i:Nat):Prop:=∀n,Wt ch i n->200<n
end
section
variable {ch:Nat->List (Option Nat)}
theorem GS.uniq {l:List (Option Nat)} {a b:Nat} (h:GS ch l a) (g:GS ch l b):a=b:=by
 induction h generalizing b with
 | nil=>cases g;rfl
 | leaf h d=>cases g with | leaf g=>rw[d g]
 | node hc h c e=>cases g with | node gc g=>rw[c gc,e g]
theorem Wt.uniq {i a b:Nat} (h:Wt ch i a) (g:Wt ch i b):a=b:=by
 obtain⟨m,rfl,h⟩:=h;obtain⟨k,rfl,g⟩:=g;rw[h.uniq g]
theorem GS.app {l r:List (Option Nat)} {a b:Nat} (h:GS ch l a) (g:GS ch r b):GS ch (l++r) (a+b):=by
 induction h with
 | nil=>rw[so];exact g
 | leaf h c=>rw[ahv];exact .leaf c
 | node hc h d e=>rw[ahv];exact .node hc e
theorem GS.split {r:List (Option Nat)} {m:Nat}:∀{l:List (Option Nat)} {m:Nat},GS ch (l++r) m->∃a b,GS ch l a/\GS ch r b/\m=a+b
 | [],m,h=>⟨0,m,.nil,h,by omega⟩
 | none::l,m,h=>by
  cases h with
  | leaf h=>
   obtain⟨a,b,h1,h2,rfl⟩:=GS.split (m:=m) h;exact⟨_,b,.leaf h1,h2,by omega⟩
 | some c::l,m,h=>by
  cases h with
  | node hc h=>
   obtain⟨a,b,h1,h2,rfl⟩:=GS.split (m:=m) h;exact⟨_,b,.node hc h1,h2,by omega⟩
theorem GS.SH {l:List (Option Nat)} {a:Nat} (h:GS ch l a):GS ch (l++[none]) (a+1):=h.app (.leaf .nil)
theorem GS.node1 {l:List (Option Nat)} {a c n:Nat} (h:GS ch l a) (g:Wt ch c n):GS ch (l++[some c]) (a+n):=by
 obtain⟨m,rfl,g⟩:=g;exact h.app (.node g .nil)
theorem GS.mem {l:List (Option Nat)} {m c:Nat} (h:GS ch l m) (hc:some c∈l):∃n,Wt ch c n/\n<=m:=by
 induction h with
 | nil=>cases hc
 | leaf h a=>
  rcases afW.1 hc with q | q
  ·cases q
  ·obtain⟨n,h1,h2⟩:=a q;exact⟨n,h1,by omega⟩
 | node h1 h2 b d=>
  rcases afW.1 hc with q | q
  ·cases q;exact⟨_,⟨_,rfl,h1⟩,by omega⟩
  ·obtain⟨n,q1,q2⟩:=d q;exact⟨n,q1,by omega⟩
theorem GS.cyc {X:Nat->Prop} (e:∀x,X x->∃c,some c∈ch x/\X c) {l:List (Option Nat)} {m:Nat} (h:GS ch l m):∀c,some c∈l->¬X c:=by
 induction h with
 | nil=>intro c hc;cases hc
 | leaf h f=>
  intro c hc;rcases afW.1 hc with q | q
  ·cases q
  ·exact f c q
 | node h1 h2 a g=>
  intro c hc;rcases afW.1 hc with q | q
  ·cases q;intro i;obtain⟨d,hd,b⟩:=e _ i;exact a d hd b
  ·exact g c q
theorem PM {X:Nat->Prop} (b:∀x,X x->∃c,some c∈ch x/\X c) {i:Nat} (hi:X i):yo ch i:=λn h=>by
 obtain⟨m,rfl,h⟩:=h;obtain⟨c,hc,a⟩:=b i hi;exact absurd a (h.cyc b c hc)
theorem KW {i c:Nat} (hc:some c∈ch i) (h:yo ch c):yo ch i:=λn a=>by
 obtain⟨m,rfl,g⟩:=a;obtain⟨k,h1,h2⟩:=g.mem hc;have:=h k h1;omega
theorem Gr {i a:Nat} {l r:List (Option Nat)} (e:ch i=l++r) (h:GS ch l a) (d:200<=a):yo ch i:=λn b=>by
 obtain⟨m,rfl,g⟩:=b;rw[e]at g;obtain⟨x,y,c,g2,rfl⟩:=GS.split (m:=m) g;have:=h.uniq c;omega
end
end Go.Am
namespace Go.Am
open Go Go.RowKit Go.Proofs
def kd (s:aS):Option Nat:=if s.av.aU=5 then some s.av.bb.toNat else none
def cl (l:List aS):List (Option Nat):=(l.filter (·.bS)).map kd
theorem SJ (a b:List aS):cl (a++b)=cl a++cl b:=by unfold cl;rw[List.filter_append,ahf]
theorem Ou {l:List aS} {k:Nat} (h:k<l.length):cl (l.take (k+1))=cl (l.take k)++(if l[k].bS=true then[kd l[k]]else[]):=by
 rw[<-agT h,SJ];congr 1;unfold cl;by_cases q:l[k].bS=true
 ·simp [q]
 ·simp [q]
theorem KX (l:List aS) (k:Nat):cl l=cl (l.take k)++cl (l.drop k):=by rw[<-SJ,List.take_append_drop]
def bl (h:bD) (i:Nat):aD:=h.aw.getD i default
theorem SK {h:bD} {i:Nat} (hi:i<h.aw.length):h.aw[i]=bl h i:=by
 unfold bl;rw[afP,No hi];rfl
def xW (h:bD) (i:Nat):List (Option Nat):=cl (bl h i).ax.ak
def DX (ch:Nat->List (Option Nat)) (P:List Nat):Prop:=∀k (h:k+1<P.length),some P[k]∈ch P[k+1]
theorem DX.cons {ch:Nat->List (Option Nat)} {P:List Nat} {i c:Nat} (h:DX ch (i::P)) (hc:some c∈ch i):DX ch (c::i::P):=λk hk=>by
 cases k with
 | zero=>exact hc
 | succ k=>exact h k ajQ
theorem Gs {ch:Nat->List (Option Nat)} {P:List Nat} {i c:Nat} (h:DX ch (i::P)) (hc:c∈i::P) (b:some c∈ch i):yo ch c:=by
 obtain⟨q,d,a⟩:=agr.1 hc;refine PM (X:=λx=>∃k,∃hk:k<(i::P).length,k<=q/\(i::P)[k]=x) ?_ ⟨q,d,abF _,a⟩;rintro x ⟨k,hk,e,rfl⟩;cases k with
 | zero=>exact⟨c,b,q,d,abF _,a⟩
 | succ k=>exact⟨_,h k hk,k,by omega,by omega,rfl⟩
def DY (p:Nat->Bool):Nat->Nat
 | 0=>0
 | n+1=>DY p n+(if p n=true then 1 else 0)
theorem A1 {p q:Nat->Bool}:∀{n:Nat},(∀j,j<n->p j=q j)->DY p n=DY q n
 | 0,_=>rfl
 | n+1,h=>by unfold DY;rw[A1 λj hj=>h j ajo,h n ajo]
theorem SL {p q:Nat->Bool}:∀{n:Nat},(∀j,j<n->p j=true->q j=true)->DY p n<=DY q n
 | 0,_=>abF _
 | n+1,h=>by
  have h1:=SL (n:=n) λj hj=>h j ajo;have h2:=h n ajo;unfold DY;by_cases e:p n=true
  ·rw[an e,an (h2 e)];omega
  ·rw[mg e];omega
theorem DZ {p q:Nat->Bool} {i:Nat} (hp:p i=true) (a:q i=false):∀{n:Nat},(∀j,j<n->j≠i->q j=p j)->i<n->DY q n+1=DY p n
 | n+1,h,hi=>by
  unfold DY;by_cases e:i=n
  ·subst e;rw[A1 λj hj=>h j ajo ajo,hp,a];rfl
  ·have:=DZ hp a (n:=n) (λj hj=>h j ajo) ajo;rw[h n ajo (λq=>e q.symm)];omega
theorem D0 {p:Nat->Bool}:∀{n:Nat},DY p n=0->∀j,j<n->p j=false
 | n+1,h,j,hj=>by
  unfold DY at h;by_cases e:j=n
  ·subst e;cases hp:p j
   ·rfl
   ·rw[hp,an rfl]at h;omega
  ·exact D0 (n:=n) ajo j ajo
theorem Ov {p:Nat->Bool}:∀{n:Nat},0<DY p n->∃j,j<n/\p j=true
 | n+1,h=>by
  unfold DY at h;by_cases e:p n=true
  ·exact⟨n,by omega,e⟩
  ·rw[mg e]at h;obtain⟨j,h1,h2⟩:=Ov (n:=n) ajo;exact⟨j,by omega,h2⟩
theorem Nc {p:Nat->Bool}:∀n:Nat,DY p n<=n
 | 0=>abF _
 | n+1=>by have:=Nc (p:=p) n;unfold DY;split<;>omega
theorem Il (a b c:Int):LC a b c=some (decide (b<=a/\a<=c)):=pS a b c
structure HB (h:bD):Prop where
 nb:h.aw.length<=2000000
 tb:∀i,i<h.aw.length->TB (bl h i).ax
 vw:∀i,i<h.aw.length->∀s∈(bl h i).ax.ak,s.av.wt<=2000000
def inB (h:bD) (v:ai):Bool:=decide (0<=v.bb/\v.bb<h.aw.length)&&decide (0<(bl h v.bb.toNat).aZ)
def held (h:bD) (v:ai):Bool:=
 if v.aU=5 then(decide (v.bp=([]:cx))&&(decide (v.aE=0)&&decide (v.aj.length=0)))&&inB h v
 else if v.aU=4 then false else v.PL
theorem Y6 {v:ai} (h:¬v.aU=4):v.kw=1:=by rw[v.Gt,mg h]
theorem Im {h:bD} (k:h.aw.length<=2000000) {v:ai} (hv:v.wt<=2000000):qy h v=some (held h v)/\qz h v=some (held h v):=by
 have g:ah ((h.aw.length:Int) - 1)=(h.aw.length:Int) - 1:=by rw[ah,B4 ajo ajo]
 unfold qy qz qO held;by_cases a:v.aU=5
 ·rw[an a,an a,an a,an a];by_cases q1:v.bp=([]:cx)
  case neg=>rw[mg q1,mg q1,afV q1,sb,mg ajq];exact⟨rfl,rfl⟩
  rw[an q1,an q1,afU q1];by_cases q2:v.aE=0
  case neg=>rw[mg q2,mg q2,afV q2,sb,mg ajq];exact⟨rfl,rfl⟩
  rw[an q2,an q2,afU q2,sb];by_cases q3:v.aj.length=0
  case neg=>
   have c:¬(v.aj.length:Int)=0:=by omega
   have d:¬((v.aj.length:Int)==0)=true:=by simpa using c
   rw[mg c,mg d,afV q3];exact⟨rfl,rfl⟩
  have c:(v.aj.length:Int)=0:=by omega
  have d:((v.aj.length:Int)==0)=true:=by simpa using c
  rw[an c,an d,afU q3,Il,pS,g];unfold inB;by_cases q4:0<=v.bb/\v.bb<h.aw.length
  case neg=>
   have e:¬(0<=v.bb/\v.bb<=(h.aw.length:Int) - 1):=by omega
   rw[afV q4,afV e,sb,mg ajq];exact⟨rfl,rfl⟩
  have e:0<=v.bb/\v.bb<=(h.aw.length:Int) - 1:=by omega
  obtain⟨n,i⟩:∃n:Nat,v.bb=(n:Int):=⟨v.bb.toNat,by omega⟩;have f:n<h.aw.length:=by omega
  have j:idx h.aw v.bb=some (bl h v.bb.toNat):=by rw[i,afT,ba f,SK f]
  rw[afU q4,afU e,sb,an rfl,j,sb];exact ajb
 ·rw[mg a,mg a,mg a];by_cases b:v.aU=4
  ·rw[an b,an b,an b];exact⟨rfl,rfl⟩
  ·rw[mg b,mg b,mg b,YY hv,KY 2000000 (abF _) v hv,Y6 b];exact ajb
def KZ (t:bH):Bool:=(jm t).getD false
theorem Nd {t:bH} (h:TB t):lN t=some (KZ t)/\jm t=some (KZ t)/\(KZ t=true->VT t):=by
 have h1:=aeD h;have h2:=aeE h;unfold KZ;by_cases q:VT t
 ·rw[h1.1 q,h2.1 q];exact⟨rfl,rfl,λ_=>q⟩
 ·rw[h1.2 q,h2.2 q];exact⟨rfl,rfl,λq=>Bool.noConfusion q⟩
def U6 (h:bD) (b:aD) (k:Nat):Bool:=!(b.ax.ak.getD k default).bS||held h (b.ax.ak.getD k default).av
def Gu (b:aD):Bool:=!b.ax.bZ&&(decide (b.ax.aG.length=0)&&(decide (b.ax.ak.length=0)&&(decide (b.ax.aE=0)&&decide (b.ax.aZ=0))))
def Ip (h:bD) (k:Nat):Bool:=
 if(bl h k).aZ=0 then Gu (bl h k)else(decide (1<=(bl h k).aZ/\(bl h k).aZ<=1000000000000)&&KZ (bl h k).ax)&&sg (U6 h (bl h k)) 0 (bl h k).ax.ak.length
theorem acb {l:List aS} {i:Nat} (h:i<l.length):idx l (i:Int)=some (l.getD i default):=by
 rw[ba h,afP,No h];rfl
theorem acd {l:List aS} {i:Nat} (h:i<l.length):l.getD i default∈l:=by
 rw[afP,No h];exact afQ h
theorem K0 {h:bD} {i:Nat} (hi:i<h.aw.length):idx h.aw (i:Int)=some (bl h i):=by rw[ba hi,SK hi]
section
variable {h:bD}(hb:HB h){i:Nat}(hi:i<h.aw.length)
include hb hi
theorem Y7:fO h (bl h i) 0=some (if sg (U6 h (bl h i)) 0 (bl h i).ax.ak.length=true then .inl ()else .inr (.inr false)):=by
 have hs:=(hb.tb i hi).sl;refine vJ (L:=fO h (bl h i)) _ _ _ _ (λk hk=>?_) (by rw[fO,mg ajo]);obtain⟨a,e2⟩:=Im hb.nb (hb.vw i hi _ (acd hk));rw[fO,an ajo,acb hk,sb,bm ajo];unfold U6;by_cases hl:((bl h i).ax.ak.getD k default).bS=true
 ·rw[an hl,hl,a,sb,ahQ,ahG];cases held h ((bl h i).ax.ak.getD k default).av
  ·exact⟨λq=>(Bool.noConfusion q),λ_=>mg ajq⟩
  ·exact⟨λ_=>an rfl,λq=>(Bool.noConfusion q)⟩
 ·rw[mg hl];simp only[ahl]at hl;rw[hl];exact aiW
theorem SM (a b:Bool):fM h a b (bl h i) 0=some (if sg (U6 h (bl h i)) 0 (bl h i).ax.ak.length=true then .inl ((bl h i).aZ,(bl h i).ax.bZ,(bl h i).ax.aG,(bl h i).ax.ak,(bl h i).ax.aE,(bl h i).ax.aZ,(bl h i).aZ,((bl h i).aZ != 0),a,b)else .inr (.inr false)):=by
 have hs:=(hb.tb i hi).sl;refine vJ (L:=fM h a b (bl h i)) _ _ _ _ (λk hk=>?_) (by rw[fM,mg ajo]);obtain⟨c,e2⟩:=Im hb.nb (hb.vw i hi _ (acd hk));rw[fM,an ajo,acb hk,sb,bm ajo];unfold U6;by_cases hl:((bl h i).ax.ak.getD k default).bS=true
 ·rw[an hl,hl,sb,e2,sb,ahQ,ahG];cases held h ((bl h i).ax.ak.getD k default).av
  ·exact⟨λq=>(Bool.noConfusion q),λ_=>mg ajq⟩
  ·exact⟨λ_=>an rfl,λq=>(Bool.noConfusion q)⟩
 ·rw[mg hl];simp only[ahl]at hl;rw[hl];exact aiW
end
theorem U7 (b:aD) (h0:b.aZ=0):qX b=some (Gu b):=by
 unfold qX Gu;rw[an h0];cases b.ax.bZ
 ·rw[mg ajq];by_cases q1:b.ax.aG.length=0
  case neg=>rw[mg ajo,afV q1];rfl
  rw[an ajo,afU q1];by_cases q2:b.ax.ak.length=0
  case neg=>rw[mg ajo,afV q2];rfl
  rw[an ajo,afU q2];by_cases q3:b.ax.aE=0
  case neg=>rw[mg q3,afV q3];rfl
  rw[an q3,afU q3];by_cases q4:b.ax.aZ=0
  ·rw[afU q4,agJ.2 q4];rfl
  ·rw[afV q4,ahn.2 q4];rfl
 ·rw[an rfl];rfl
theorem U8 {h:bD} (hb:HB h):jA h 0=some (if sg (Ip h) 0 h.aw.length=true then .inl ()else .inr false):=by
 have a:=hb.nb;refine vJ (L:=jA h) _ _ _ _ (λk hk=>?_) (by rw[jA,mg ajo]);rw[jA,an ajo,K0 hk,sb,bm ajo,Y7 hb hk,(Nd (hb.tb k hk)).1,Il];unfold Ip;by_cases h0:(bl h k).aZ=0
 ·rw[an h0,an h0];unfold Gu;cases(bl h k).ax.bZ
  ·rw[mg ajq];by_cases q1:(bl h k).ax.aG.length=0
   case neg=>rw[an ajo,afV q1];exact⟨λq=>Bool.noConfusion q,λ_=>rfl⟩
   rw[mg ajo,afU q1];by_cases q2:(bl h k).ax.ak.length=0
   case neg=>rw[an ajo,afV q2];exact⟨λq=>Bool.noConfusion q,λ_=>rfl⟩
   rw[mg ajo,afU q2];by_cases q3:(bl h k).ax.aE=0
   case neg=>rw[mg q3,afV q3];exact⟨λq=>Bool.noConfusion q,λ_=>rfl⟩
   rw[an q3,afU q3];by_cases q4:(bl h k).ax.aZ=0
   ·rw[afU q4,an q4];exact⟨λ_=>rfl,λq=>Bool.noConfusion q⟩
   ·rw[afV q4,mg q4];exact⟨λq=>Bool.noConfusion q,λ_=>rfl⟩
  ·rw[an rfl];exact⟨λq=>Bool.noConfusion q,λ_=>rfl⟩
 ·rw[mg h0,mg h0,sb];cases decide (1<=(bl h k).aZ/\(bl h k).aZ<=1000000000000)
  ·rw[mg ajq];exact⟨λq=>Bool.noConfusion q,λ_=>rfl⟩
  ·rw[an rfl,sb];cases KZ (bl h k).ax
   ·rw[mg ajq];exact⟨λq=>Bool.noConfusion q,λ_=>rfl⟩
   ·rw[an rfl];cases sg (U6 h (bl h k)) 0 (bl h k).ax.ak.length
    ·exact⟨λq=>Bool.noConfusion q,λ_=>rfl⟩
    ·exact aiW
theorem U9 {h:bD} (hb:HB h):jz h 0=some (if sg (Ip h) 0 h.aw.length=true then .inl ()else .inr false):=by
 have b:=hb.nb;refine vJ (L:=jz h) _ _ _ _ (λk hk=>?_) (by rw[jz,mg ajo]);rw[jz,an ajo,K0 hk,sb,bm ajo,(Nd (hb.tb k hk)).2.1,pS];unfold Ip;by_cases h0:(bl h k).aZ=0
 ·rw[an h0,an h0,U7 _ h0,sb];by_cases hf:Gu (bl h k)=true
  ·rw[an hf,an h0,sb,hf];dsimp only
   have a:(bl h k).ax.ak.length=0:=by
    unfold Gu at hf;simp at hf;simp [hf.2.2.1]
   rw[SM hb hk,a,KN];exact aiW
  ·simp only[ahl]at hf;rw[hf,mg ajq];exact⟨λq=>Bool.noConfusion q,λ_=>rfl⟩
 ·rw[mg h0,mg h0,sb,mg h0];cases decide (1<=(bl h k).aZ/\(bl h k).aZ<=1000000000000)
  ·rw[mg ajq];exact⟨λq=>Bool.noConfusion q,λ_=>rfl⟩
  ·rw[an rfl,sb];cases KZ (bl h k).ax
   ·rw[mg ajq];exact⟨λq=>Bool.noConfusion q,λ_=>rfl⟩
   ·rw[an rfl,sb];dsimp only;rw[SM hb hk];cases sg (U6 h (bl h k)) 0 (bl h k).ax.ak.length
    ·exact⟨λq=>Bool.noConfusion q,λ_=>rfl⟩
    ·exact aiW
structure Okb (h:bD):Prop where
 ct:∀i,i<h.aw.length->(bl h i).aZ=0\/0<(bl h i).aZ
 hd:∀i,i<h.aw.length->0<(bl h i).aZ->∀s∈(bl h i).ax.ak,s.bS=true->held h s.av=true
 vt:∀i,i<h.aw.length->0<(bl h i).aZ->VT (bl h i).ax
theorem SN {h:bD} (hb:HB h) (a:sg (Ip h) 0 h.aw.length=true):Okb h:=by
 have key:∀i,i<h.aw.length->Ip h i=true:=λi hi=>xd.1 a i (agt _) hi
 have main:∀i,i<h.aw.length->¬(bl h i).aZ=0->(1<=(bl h i).aZ/\(bl h i).aZ<=1000000000000)/\KZ (bl h i).ax=true/\sg (U6 h (bl h i)) 0 (bl h i).ax.ak.length=true:=λi hi h0=>by
  have:=key i hi;unfold Ip at this;rw[mg h0,As,As,agQ]at this;exact⟨this.1.1,this.1.2,this.2⟩
 refine⟨λi hi=>?_,λi hi hc s hs hl=>?_,λi hi hc=>(Nd (hb.tb i hi)).2.2 (main i hi ajo).2.1⟩
 ·by_cases h0:(bl h i).aZ=0
  ·exact .inl h0
  ·exact .inr (by have:=(main i hi h0).1;omega)
 ·obtain⟨k,hk,rfl⟩:=agr.1 hs;have:=xd.1 (main i hi ajo).2.2 k (agt _) hk;unfold U6 at this;rw[afP,No hk,ahH,hl]at this;simpa using this
noncomputable def uK (h:bD) (k:Nat):Bool:=@decide (0<(bl h k).aZ->∃n,n<=200/\Wt (xW h) k n) (Classical.propDecidable _)
theorem qH {h:bD} {k:Nat}:uK h k=true↔(0<(bl h k).aZ->∃n,n<=200/\Wt (xW h) k n):=by unfold uK;exact @decide_eq_true_iff _ (Classical.propDecidable _)
theorem PN {h:bD} {k:Nat} (hc:0<(bl h k).aZ) (hh:yo (xW h) k):uK h k=false:=by
 rw[<-ahl,qH];intro q;obtain⟨n,h1,h2⟩:=q hc;have:=hh n h2;omega
theorem kQ {w:List Int} {i j:Nat} {v:Int} (hi:i<w.length):(w.set i v).getD j 0=if j=i then v else w.getD j 0:=by
 rw[afP,ahh];by_cases e:i=j
 ·subst e;rw[an rfl,an rfl,an hi];rfl
 ·rw[mg e,mg (λq=>e q.symm),afP]
theorem PO {w:List Int} {i:Nat} (hi:i<w.length):idx w (i:Int)=some (w.getD i 0):=by
 rw[ba hi,afP,No hi];rfl
theorem SO (x:Nat):ph (x:Int) 201=some ((min x 201:Nat):Int):=by
 unfold ph;by_cases h:(201:Int)<x
 ·first | (rw[an h];congr 1;omega) | (rw[mg ajo];congr 1;omega)
 ·first | (rw[mg h];congr 1;omega) | (rw[an ajo];congr 1;omega)
structure Inv (h:bD) (w:List Int) (P:List Nat):Prop where
 len:w.length=h.aw.length
 neg:∀j,j<h.aw.length->w.getD j 0<0->j∈P
 pos:∀j,j<h.aw.length->0<w.getD j 0->w.getD j 0<=201/\(w.getD j 0<=200->Wt (xW h) j (w.getD j 0).toNat)/\(w.getD j 0=201->yo (xW h) j)
def Qr (h:bD) (w:List Int):Nat:=DY (λj=>decide (w.getD j 0=0)) h.aw.length
def Ans (h:bD) (i:Nat) (w:List Int) (P:List Nat) (o:Option (Int×List Int)):Prop:=∃(r:Nat) (w':List Int),o=some ((r:Int),w')/\1<=r/\r<=201/\(r<=200->Wt (xW h) i r)/\(r=201->yo (xW h) i)/\Inv h w' P/\Qr h w'<=Qr h w
section
variable {h:bD}(hb:HB h)(hk:Okb h)
include hb hk
theorem zX {i:Nat} (hi:i<h.aw.length) (hc:0<(bl h i).aZ) {s:aS} (hs:s∈(bl h i).ax.ak) (hl:s.bS=true) (h5:s.av.aU=5):
  ∃c:Nat,s.av.bb=(c:Int)/\c<h.aw.length/\0<(bl h c).aZ/\kd s=some c:=by
 have _:=hb;have:=hk.hd i hi hc s hs hl;unfold held at this;rw[an h5,As]at this;have h2:=this.2;unfold inB at h2;rw[As,agQ,agQ]at h2;refine⟨s.av.bb.toNat,by omega,by omega,h2.2,?_⟩;unfold kd;rw[an h5]
theorem Bv (z:Nat) (t:∀(i:Nat) (w:List Int) (P:List Nat),i<h.aw.length->0<(bl h i).aZ->Inv h w P->DX (xW h) (i::P)->Qr h w<=z->Ans h i w P (dG h (i:Int) w))
  {i:Nat} {P:List Nat} (hi:i<h.aw.length) (hc:0<(bl h i).aZ) (u:DX (xW h) (i::P)):∀(f k n:Nat) (w:List Int),(bl h i).ax.ak.length<=k+f->k<=(bl h i).ax.ak.length->Inv h w (i::P)->Qr h w<=z->
  1<=n->n<=201->(n<=200->GS (xW h) (cl ((bl h i).ax.ak.take k)) (n - 1))->(n=201->yo (xW h) i)->
  ∃(a:Nat) (w':List Int),dC h (bl h i) w (n:Int) (k:Int)=some (w',(a:Int))/\Inv h w' (i::P)/\Qr h w'<=Qr h w/\1<=a/\a<=201/\(a<=200->GS (xW h) (xW h i) (a - 1))/\(a=201->yo (xW h) i)
 | f,k,n,w,hf,G,d,l,v,n2,b,j=>by
  have H:=(hb.tb i hi).sl;rw[dC];by_cases m:k<(bl h i).ax.ak.length
  ·obtain⟨g,rfl⟩:∃g,f=g+1:=⟨f - 1,by omega⟩;have hs:(bl h i).ax.ak[k]∈(bl h i).ax.ak:=afQ m;have ct:=Ou m;have cs:=KX (bl h i).ax.ak (k+1);rw[an ajo,ba m,sb,bm ajo];generalize(bl h i).ax.ak[k]=s at hs ct ⊢;have step:=Bv z t hi hc u g (k+1);rw[ct]at step cs;by_cases hl:s.bS=true
   ·rw[an hl]at step cs ⊢;by_cases h5:s.av.aU=5
    ·obtain⟨c,A,B,C,o⟩:=zX hb hk hi hc hs hl h5;rw[o]at step cs;have x:some c∈xW h i:=by unfold xW;rw[cs];simp
     obtain⟨r,w1,e,r1,I,y,D,E,J⟩:=t c w (i::P) B C d (u.cons x) l;have p:ah ((n:Int)+(r:Int))=((n+r:Nat):Int):=Gv ajo ajo;rw[an h5,A,e,sb];dsimp only;rw[p,SO,sb]
     obtain⟨a,w',q1,q2,q3,q4⟩:=step (min (n+r) 201) w1 ajo ajo E ajo ajo ajo (λhm=>by
      have:=(b ajo).node1 (y ajo);rw[show n - 1+r=min (n+r) 201 - 1 by omega]at this;exact this) (λhm=>by
      by_cases q:n=201
      ·exact j q
      by_cases F:r=201
      ·exact KW x (D F)
      have:=(b ajo).node1 (y ajo);exact Gr cs this ajo)
     exact⟨a,w',q1,q2,by omega,q4⟩
    ·have o:kd s=none:=by unfold kd;rw[mg h5]
     rw[o]at step cs;have p:ah ((n:Int)+1)=((n+1:Nat):Int):=Gv ajo ajo;rw[mg h5,p,SO,sb]
     exact step (min (n+1) 201) w ajo ajo d l ajo ajo (λhm=>by
      have:=(b ajo).SH;rw[show n - 1+1=min (n+1) 201 - 1 by omega]at this;exact this) (λhm=>by
      by_cases q:n=201
      ·exact j q
      have:=(b ajo).SH;exact Gr cs this ajo)
   ·rw[mg hl]at step cs ⊢;rw[agB]at step;exact step n w ajo ajo d l v n2 b j
  ·have e:k=(bl h i).ax.ak.length:=by omega
   subst e;rw[mg ajo];rw[ahb]at b;exact⟨n,w,rfl,d,abF _,v,n2,b,j⟩
theorem Nf:∀(z i:Nat) (w:List Int) (P:List Nat),i<h.aw.length->0<(bl h i).aZ->Inv h w P->DX (xW h) (i::P)->Qr h w<=z->Ans h i w P (dG h (i:Int) w):=by
 intro z;induction z with
 | zero=>
  intro i w P hi hc b f s;have h0:=D0 (p:=λj=>decide (w.getD j 0=0)) (n:=h.aw.length) (by unfold Qr at s;omega) i hi;have h0:¬w.getD i 0=0:=of_decide_eq_false h0;rw[dG,mg ajo,PO (by rw[b.len];exact hi),sb,mg h0];by_cases a:w.getD i 0<0
  ·rw[an a];refine⟨201,w,rfl,by omega,by omega,λq=>by omega,λ_=>?_,b,abF _⟩;have hm:=b.neg i hi a;obtain⟨p,d,rfl⟩:∃p d,P=p::d:=by cases P with | nil=>cases hm | cons p d=>exact⟨p,d,rfl⟩
   exact Gs (λk hk=>f (k+1) ajQ) hm (f 0 ajq)
  ·rw[mg a];obtain⟨v,l,m⟩:=b.pos i hi ajo;exact⟨(w.getD i 0).toNat,w,by congr 2;omega,by omega,by omega,λq=>l ajo,λq=>m ajo,b,abF _⟩
 | succ z x=>
  intro i w P hi hc b f s;have c:i<w.length:=by rw[b.len];exact hi
  rw[dG,mg ajo,PO c,sb];by_cases h0:w.getD i 0=0
  ·rw[an h0,K0 hi,sb,afT]
   have o:Inv h (w.set i (-1)) (i::P):=⟨by rw[agW];exact b.len,λj hj a=>by
     rw[kQ c]at a;by_cases e:j=i
     ·subst e;exact List.mem_cons_self ..
     ·rw[mg e]at a;exact agm _ (b.neg j hj a),λj hj hp=>by
     rw[kQ c]at hp ⊢;by_cases e:j=i
     ·rw[an e]at hp;omega
     ·rw[mg e]at hp ⊢;exact b.pos j hj hp⟩
   have y:Qr h (w.set i (-1))+1=Qr h w:=DZ (i:=i) (p:=λj=>decide (w.getD j 0=0)) (q:=λj=>decide ((w.set i (-1)).getD j 0=0)) (afU h0) (by
     show decide ((w.set i (-1)).getD i 0=0)=false;rw[kQ c,an rfl];rfl) (λj hj e=>by
     show decide ((w.set i (-1)).getD j 0=0)=decide (w.getD j 0=0);rw[kQ c,mg e]) hi
   obtain⟨n,w1,r,q1,q2,q3,q4,t,u⟩:=Bv hb hk z x hi hc f (bl h i).ax.ak.length 0 1 (w.set i (-1)) ajo ajo o ajo ajo ajo (λ_=>by rw[ahj];exact .nil) (λq=>by omega);have g:i<w1.length:=by rw[q1.len];exact hi
   replace r:dC h (bl h i) (w.set i (-1)) 1 0=_:=r;rw[r,sb];dsimp only;rw[PO g,sb];refine⟨n,_,rfl,q3,q4,λq=>⟨n - 1,by omega,t q⟩,u,⟨by rw[agW];exact q1.len,λj hj a=>?_,λj hj hp=>?_⟩,?_⟩
   ·rw[kQ g]at a;by_cases e:j=i
    ·rw[an e]at a;omega
    ·rw[mg e]at a;rcases afW.1 (q1.neg j hj a)with q | q
     ·exact absurd q e
     ·exact q
   ·rw[kQ g]at hp ⊢;by_cases e:j=i
    ·subst e;rw[an rfl,afT];exact⟨by omega,λq=>⟨n - 1,by omega,t ajo⟩,λq=>u ajo⟩
    ·rw[mg e]at hp ⊢;exact q1.pos j hj hp
   ·have:Qr h (w1.set i (n:Int))<=Qr h w1:=SL λj hj hd=>by
     rw[kQ g]at hd;by_cases e:j=i
     ·rw[an e]at hd;have:=of_decide_eq_true hd;omega
     ·rw[mg e]at hd;exact hd
    omega
  ·rw[mg h0];by_cases a:w.getD i 0<0
   ·rw[an a];refine⟨201,w,rfl,by omega,by omega,λq=>by omega,λ_=>?_,b,abF _⟩;have hm:=b.neg i hi a;obtain⟨p,d,rfl⟩:∃p d,P=p::d:=by cases P with | nil=>cases hm | cons p d=>exact⟨p,d,rfl⟩
    exact Gs (λk hk=>f (k+1) ajQ) hm (f 0 ajq)
   ·rw[mg a];obtain⟨v,l,m⟩:=b.pos i hi ajo;exact⟨(w.getD i 0).toNat,w,by congr 2;omega,by omega,by omega,λq=>l ajo,λq=>m ajo,b,abF _⟩
theorem SP:fP h (List.replicate h.aw.length default) 0=some (if sg (uK h) 0 h.aw.length=true then .inl ()else .inr false):=by
 have m:=hb.nb;refine AZ (L:=fP h) (uK h) h.aw.length (.inl ()) (.inr false) (λw _=>Inv h w []) (λw k b a=>?_) (λw a=>by rw[fP,mg ajo]) h.aw.length 0 _ ajo (agt _) ?_
 ·rw[fP,an ajo,K0 b,sb,bm ajo];by_cases hc:0<(bl h k).aZ
  ·obtain⟨r,w',e,r1,n,g,i,l,o⟩:=Nf hb hk _ k w [] b hc a (λj hj=>absurd hj ajq) (abF _);rw[an ajo,e,sb];dsimp only;by_cases c:r<=200
   ·rw[mg ajo];exact⟨λ_=>⟨w',l,rfl⟩,λhf=>by rw[qH.2 λ_=>⟨r,c,g c⟩]at hf;cases hf⟩
   ·rw[an ajo];exact⟨λd=>(by rw[PN hc (i ajo)]at d;cases d),λ_=>rfl⟩
  ·rw[mg ajo];exact⟨λ_=>⟨w,a,rfl⟩,λhf=>by rw[qH.2 λq=>absurd q hc]at hf;cases hf⟩
 ·refine⟨by simp,λj hj f=>?_,λj hj hp=>?_⟩
  ·rw[afP,agU,an hj]at f;exact absurd f ajp
  ·rw[afP,agU,an hj]at hp;exact absurd hp ajp
end
structure SI (h:bD) (w:List Int) (left:Int):Prop where
 len:w.length=h.aw.length
 pos:∀j,j<h.aw.length->0<=w.getD j 0/\w.getD j 0<=200/\(0<w.getD j 0->0<(bl h j).aZ/\Wt (xW h) j (w.getD j 0).toNat)
 left:left=(DY (λj=>decide (0<(bl h j).aZ)&&decide (w.getD j 0=0)) h.aw.length:Nat)
section
variable {h:bD}(hb:HB h)(hk:Okb h)
include hb hk
theorem K1 {w:List Int} {left:Int} (hw:SI h w left) {i:Nat} (hi:i<h.aw.length) (hc:0<(bl h i).aZ):∀(f k n:Nat),(bl h i).ax.ak.length<=k+f->k<=(bl h i).ax.ak.length->n<=1+201*k->
  (0<n->GS (xW h) (cl ((bl h i).ax.ak.take k)) (n - 1))->(n=0->∃c,some c∈xW h i/\c<h.aw.length/\0<(bl h c).aZ/\w.getD c 0=0)->
  ∃a:Nat,dy w (bl h i) (n:Int) (k:Int)=some (a:Int)/\a<=1+201*2000000/\(0<a->GS (xW h) (xW h i) (a - 1))/\(a=0->∃c,some c∈xW h i/\c<h.aw.length/\0<(bl h c).aZ/\w.getD c 0=0)
 | f,k,n,hf,y,z,b,j=>by
  have A:=(hb.tb i hi).sl;rw[dy];by_cases l:k<(bl h i).ax.ak.length
  ·obtain⟨g,rfl⟩:∃g,f=g+1:=⟨f - 1,by omega⟩;rw[an ajo];by_cases h0:0<n
   ·have hs:(bl h i).ax.ak[k]∈(bl h i).ax.ak:=afQ l;have ct:=Ou l;have cs:=KX (bl h i).ax.ak (k+1);rw[an ajo,ba l,sb,bm ajo];generalize(bl h i).ax.ak[k]=s at hs ct ⊢;have step:=K1 hw hi hc g (k+1);rw[ct]at step cs;by_cases hl:s.bS=true
    ·rw[an hl]at step cs ⊢;rw[sb];by_cases h5:s.av.aU=5
     ·obtain⟨c,r,d,t,m⟩:=zX hb hk hi hc hs hl h5;rw[m]at step cs;have u:some c∈xW h i:=by unfold xW;rw[cs];simp
      obtain⟨B,C,v⟩:=hw.pos c d;rw[an h5,sb,r,PO (by rw[hw.len];exact d),sb];by_cases o:w.getD c 0=0
      ·rw[an o];exact step 0 ajo ajo ajo (λq=>absurd q ajo) (λ_=>⟨c,u,d,t,o⟩)
      ·obtain⟨D,x⟩:=v ajo;have p:ah ((n:Int)+w.getD c 0)=((n+(w.getD c 0).toNat:Nat):Int):=by rw[ah,B4 ajo ajo];omega
       rw[mg o,sb,r,PO (by rw[hw.len];exact d),sb,p]
       exact step (n+(w.getD c 0).toNat) ajo ajo ajo (λq=>by
        have:=(b h0).node1 x;rw[show n - 1+(w.getD c 0).toNat=n+(w.getD c 0).toNat - 1 by omega]at this;exact this) (λq=>by omega)
     ·have m:kd s=none:=by unfold kd;rw[mg h5]
      rw[m]at step cs;have p:ah ((n:Int)+1)=((n+1:Nat):Int):=Gv ajo ajo;rw[mg h5,p]
      exact step (n+1) ajo ajo ajo (λq=>by
       have:=(b h0).SH;rw[show n - 1+1=n+1 - 1 by omega]at this;exact this) (λq=>by omega)
    ·rw[mg hl]at step cs ⊢;rw[agB]at step;exact step n ajo ajo ajo b j
   ·rw[mg ajo];exact⟨n,rfl,by omega,λq=>absurd q h0,j⟩
  ·have e:k=(bl h i).ax.ak.length:=by omega
   subst e;rw[mg ajo];rw[ahb]at b;exact⟨n,rfl,by omega,b,j⟩
def Nxt (h:bD) (w w':List Int) (k:Nat):Prop:=∀j,j<k->j<h.aw.length->0<(bl h j).aZ->(∀c,some c∈xW h j->c<h.aw.length->0<w.getD c 0)->0<w'.getD j 0
def Grow (h:bD) (w w':List Int):Prop:=∀j,j<h.aw.length->0<w.getD j 0->0<w'.getD j 0
theorem K2 (b:List Int):∀(f k:Nat) (w:List Int) (left:Int),h.aw.length<=k+f->k<=h.aw.length->SI h w left->Grow h b w->Nxt h b w k->
  (∃w' r,dP h w left (k:Int)=some (.inl (w',r))/\SI h w' r/\Grow h b w'/\Nxt h b w' h.aw.length)\/
  (dP h w left (k:Int)=some (.inr (.inr false))/\∃j,j<h.aw.length/\uK h j=false)
 | f,k,w,left,hf,E,hw,hg,s=>by
  have F:=hb.nb;rw[dP];by_cases d:k<h.aw.length
  ·obtain⟨g,rfl⟩:∃g,f=g+1:=⟨f - 1,by omega⟩;have next:∀w' r,SI h w' r->Grow h b w'->Nxt h b w' (k+1)->_:=λw' r=>K2 b g (k+1) w' r ajo ajo
   have kw:k<w.length:=by rw[hw.len];exact d
   rw[an ajo,K0 d,sb,bm ajo];by_cases h0:(bl h k).aZ=0
   ·rw[an h0,sb];refine next w left hw hg λj hj l o a=>?_
    by_cases e:j=k
    ·subst e;omega
    ·exact s j ajo l o a
   have hc:0<(bl h k).aZ:=(hk.ct k d).resolve_left h0;rw[mg h0,PO kw,sb];by_cases hp:0<w.getD k 0
   ·rw[an hp,sb];refine next w left hw hg λj hj l o a=>?_
    by_cases e:j=k
    ·subst e;exact hp
    ·exact s j ajo l o a
   rw[mg hp,sb];have y:w.getD k 0=0:=by have:=(hw.pos k d).1;omega
   obtain⟨n,t,e2,u,z⟩:=K1 hb hk hw d hc (bl h k).ax.ak.length 0 1 ajo ajo ajo (λ_=>by rw[ahj];exact .nil) (λq=>by omega);replace t:dy w (bl h k) 1 0=_:=t;rw[t,sb];by_cases v:n>200
   ·rw[an ajo,sb];refine .inr ⟨rfl,k,d,?_⟩;rw[<-ahl,qH];intro q;obtain⟨m,G,A⟩:=q hc;have:=A.uniq (show Wt (xW h) k n from⟨n - 1,by omega,u ajo⟩);omega
   rw[mg ajo];by_cases H:n>0
   ·rw[an ajo,sb,sb,afT]
    have I:=DZ (i:=k) (p:=λj=>decide (0<(bl h j).aZ)&&decide (w.getD j 0=0)) (q:=λj=>decide (0<(bl h j).aZ)&&decide ((w.set k (n:Int)).getD j 0=0)) (n:=h.aw.length) (by
      show(decide _&&decide _)=true;rw[afU hc,afU y];rfl) (by
      show(decide _&&decide _)=false;rw[kQ kw,an rfl,afV (show ¬(n:Int)=0 by omega),ahM]) (λj hj e=>by
      show(decide _&&decide _)=(decide _&&decide _);rw[kQ kw,mg e]) d
    have B:=Nc (p:=λj=>decide (0<(bl h j).aZ)&&decide (w.getD j 0=0)) h.aw.length;have hle:=hw.left;have C:ah (left - 1)=left - 1:=by rw[ah,B4 ajo ajo]
    rw[C];dsimp only;refine next (w.set k (n:Int)) (left - 1) ⟨by rw[agW];exact hw.len,λj hj=>?_,by omega⟩ (λj hj hp=>?_) λj hj l o a=>?_
    ·rw[kQ kw];by_cases e:j=k
     ·subst e;rw[an rfl,afT];exact⟨by omega,by omega,λ_=>⟨hc,n - 1,by omega,u ajo⟩⟩
     ·rw[mg e];exact hw.pos j hj
    ·rw[kQ kw];by_cases e:j=k
     ·rw[an e];omega
     ·rw[mg e];exact hg j hj hp
    ·rw[kQ kw];by_cases e:j=k
     ·rw[an e];omega
     ·rw[mg e];exact s j ajo l o a
   ·rw[mg ajo,sb];refine next w left hw hg λj hj l o a=>?_
    by_cases e:j=k
    ·subst e;obtain⟨c,D,x,J,K⟩:=z ajo;have:=hg c x (a c D x);omega
    ·exact s j ajo l o a
  ·have e:k=h.aw.length:=by omega
   subst e;rw[mg ajo];exact .inl ⟨w,left,rfl,hw,hg,s⟩
def Y8 (h:bD) (w:List Int) (r:Nat):Prop:=∀j,j<h.aw.length->0<(bl h j).aZ->∀n,n<=r->Wt (xW h) j n->0<w.getD j 0
theorem Gw:∀(f r:Nat) (w:List Int) (left:Int),201<=r+f->r<=201->SI h w left->Y8 h w r->
  (∃w' b k,dQ h w left (r:Int)=some (.inl b)/\SI h w' b/\(b=0\/(k=201/\Y8 h w' k)))\/(dQ h w left (r:Int)=some (.inr false)/\∃j,j<h.aw.length/\uK h j=false)
 | f,r,w,left,hf,y,hw,hd=>by
  rw[dQ];have hle:=hw.left;by_cases h1:r<=200
  ·obtain⟨g,rfl⟩:∃g,f=g+1:=⟨f - 1,by omega⟩;rw[an ajo];by_cases h2:left>0
   ·rw[an h2];rcases K2 hb hk w h.aw.length 0 w left ajo ajo hw (λj hj q=>q) (λj hj=>absurd hj ajo)with⟨w',b,e,q1,q2,q3⟩ | ⟨e,q⟩
    ·replace e:dP h w left 0=_:=e;rw[e,sb];dsimp only;rw[bm ajo];refine Gw g (r+1) w' b ajo ajo q1 λj hj l n z d=>?_;refine q3 j hj hj l λc hc o=>?_;obtain⟨m,rfl,hm⟩:=d;obtain⟨x,i,A⟩:=hm.mem hc
     have p:0<(bl h c).aZ:=by
      unfold xW cl at hc;obtain⟨s,hs,a⟩:=ags.1 hc;obtain⟨t,u⟩:=List.mem_filter.1 hs;have h5:s.av.aU=5:=ahx λq=>by unfold kd at a;rw[mg q]at a;cases a
      obtain⟨B,_,_,v,d4⟩:=zX hb hk hj l t u h5;rw[d4]at a;cases a;exact v
     exact hd c o p x ajo i
    ·replace e:dP h w left 0=_:=e;rw[e,sb];exact .inr ⟨rfl,q⟩
   ·rw[mg h2];exact .inl ⟨w,left,r,rfl,hw,.inl ajo⟩
  ·rw[mg ajo];exact .inl ⟨w,left,201,rfl,hw,.inr ⟨rfl,by rw[show 201=r by omega];exact hd⟩⟩
theorem K3:∀(f k:Nat),h.aw.length<=k+f->k<=h.aw.length->gv h (DY (λj=>decide (0<(bl h j).aZ)) k:Nat) (k:Int)=some ((DY (λj=>decide (0<(bl h j).aZ)) h.aw.length:Nat):Int)
 | f,k,hf,d=>by
  have _:=hk;have i:=hb.nb;rw[gv];by_cases b:k<h.aw.length
  ·obtain⟨g,rfl⟩:∃g,f=g+1:=⟨f - 1,by omega⟩;have a:=K3 g (k+1) ajo ajo;have c:=Nc (p:=λj=>decide (0<(bl h j).aZ)) k;have es:DY (λj=>decide (0<(bl h j).aZ)) (k+1)=DY (λj=>decide (0<(bl h j).aZ)) k+(if decide (0<(bl h k).aZ)=true then 1 else 0):=rfl;rw[es]at a;rw[an ajo,K0 b,sb];by_cases hc:0<(bl h k).aZ
   ·rw[an (afU hc)]at a;rw[an ajo,bm ajo,bm ajo];exact a
   ·rw[mg (by simpa using hc),agM]at a;rw[mg ajo,bm ajo];exact a
  ·have e:k=h.aw.length:=by omega
   subst e;rw[mg ajo]
theorem SQ:pj h=some (sg (uK h) 0 h.aw.length):=by
 have o:=hb.nb;have b:=K3 hb hk h.aw.length 0 ajo ajo;replace b:gv h 0 0=_:=b;have f:∀j,j<h.aw.length->(List.replicate h.aw.length (default:Int)).getD j 0=0:=λj hj=>by rw[afP,agU,an hj];rfl
 have g:SI h (List.replicate h.aw.length default) ((DY (λj=>decide (0<(bl h j).aZ)) h.aw.length:Nat):Int):=⟨by simp,λj hj=>by rw[f j hj];exact⟨by omega,by omega,λq=>absurd q ajo⟩,by
  congr 1;exact A1 λj hj=>by show _=(decide _&&decide _);rw[f j hj];simp⟩
 have em:(fF 8 (h.aw.length:Int) (h.aw.length:Int):Option (List Int))=some (List.replicate h.aw.length default):=by
  unfold fF;rw[an ⟨by omega,by omega,by omega,by simp only[afT];omega⟩];rfl
 unfold pj;rw[em,sb,b,sb];have i:Y8 h (List.replicate h.aw.length default) 0:=λj hj r n k c=>by obtain⟨m,q,_⟩:=c;omega
 rcases Gw hb hk 201 0 _ _ ajo ajo g i with⟨w',s,t,e,q1,q2⟩ | ⟨e,j,hj,q⟩
 ·replace e:dQ h _ _ 0=_:=e;rw[e,sb];dsimp only;congr 1;rw[ahd,agJ,xd];have hl:=q1.left;constructor
  ·intro h0 j _ hj;have a:=D0 (p:=λj=>decide (0<(bl h j).aZ)&&decide (w'.getD j 0=0)) (n:=h.aw.length) ajo j hj;rw[qH];intro hc;obtain⟨u,v,l⟩:=q1.pos j hj
   have w:¬w'.getD j 0=0:=λq=>by
    have a:(decide _&&decide _)=false:=a;rw[afU hc,afU q]at a;cases a
   exact⟨_,by omega,(l ajo).2⟩
  ·intro d;rcases q2 with q2 | ⟨rfl,q2⟩
   ·exact q2
   ·refine ahx λh0=>?_;obtain⟨j,hj,hp⟩:=Ov (p:=λj=>decide (0<(bl h j).aZ)&&decide (w'.getD j 0=0)) (n:=h.aw.length) ajo;have hp:(decide _&&decide _)=true:=hp;rw[As,agQ,agQ]at hp;obtain⟨n,x,n2⟩:=qH.1 (d j (agt _) hj) hp.1;have:=q2 j hj hp.1 n ajo n2;omega
 ·replace e:dQ h _ _ 0=_:=e;rw[e,sb];dsimp only;congr 1;symm;rw[<-ahl,xd];intro d;rw[d j (agt _) hj]at q;cases q
end
noncomputable def K4 (h:bD):Bool:=sg (Ip h) 0 h.aw.length&&sg (uK h) 0 h.aw.length
theorem Vb {h:bD} (hb:HB h):sT h=some (K4 h)/\sS h=some (K4 h):=by
 have b:=hb.nb;unfold sT sS K4;rw[U8 hb,U9 hb,sb,sb];cases a:sg (Ip h) 0 h.aw.length
 ·exact ajb
 ·have hk:=SN hb a
  have em:(fF 8 (h.aw.length:Int) (h.aw.length:Int):Option (List Int))=some (List.replicate h.aw.length default):=by
   unfold fF;rw[an ⟨by omega,by omega,by omega,by simp only[afT];omega⟩];rfl
  simp only[agu];rw[em,sb,SP hb hk,SQ hb hk,sb,sb];cases sg (uK h) 0 h.aw.length
  ·exact ajb
  ·exact ajb
theorem W2 {α X:Type} (a:List α) {L:List α->Int->X} {fin:X} (hs:∀(k:Nat) (h:k<a.length),L (a.take k) (k:Int)=L (a.take (k+1)) ((k+1:Nat):Int)) (he:L a (a.length:Int)=fin):
  ∀f k:Nat,k<=a.length->a.length<=k+f->L (a.take k) (k:Int)=fin
 | f,k,hk,hf=>by
  by_cases hc:k<a.length
  ·obtain⟨g,rfl⟩:∃g,f=g+1:=⟨f - 1,by omega⟩;rw[hs k hc];exact W2 a hs he g (k+1) ajo ajo
  ·have:k=a.length:=by omega
   subst this;rw[ahb];exact he
theorem cp0 {α X:Type} (a:List α) {L:List α->Int->X} {fin:X} (hs:∀(k:Nat) (h:k<a.length),L (a.take k) (k:Int)=L (a.take (k+1)) ((k+1:Nat):Int)) (he:L a (a.length:Int)=fin):L [] 0=fin:=by
 have:=W2 a hs he a.length 0 (agt _) ajo
 rwa [ahj]at this
theorem Gx {α:Type} {b:Nat} {a:List α} {k:Nat} (h:k<a.length) (hb:a.length*b<=140737488355328):pQ b (a.take k) [a[k]]=some (a.take (k+1)):=by
 have h2:(k+1)*b<=a.length*b:=agb b h;have h3:(a.take k).length=k:=by rw[aht];omega
 rw[sh (by rw[h3];exact agq h2 hb),agT h]
theorem K5:∀(n:Nat),n<=2000000->∀v:ai,v.wt<=n->ml v=some v/\W3 v=some v:=by
 intro n;induction n with
 | zero=>intro _ v hv;have:=qE v;omega
 | succ n a=>
  intro e v hv;have b:=v.kP;have f:=vG v.aj
  have c:jC v [] 0=some v.aj:=by
   refine cp0 v.aj (L:=jC v) (λk hk=>?_) (by rw[jC,mg ajo]);have d:=sf _ _ (afQ hk);rw[jC,an ajo,ba hk,sb,sb,(a ajo _ ajo).1,sb,af.eta,Gx hk ajo,sb,bm ajo]
  have e2:yL v [] [] 0=some ([],v.aj):=by
   refine cp0 v.aj (L:=yL v []) (λk hk=>?_) (by rw[yL,mg ajo]);have d:=sf _ _ (afQ hk);rw[yL,an ajo,ba hk,sb,(a ajo _ ajo).2,sb,af.eta,Gx hk ajo,sb,bm ajo]
  rw[ml,W3,c,e2,sb,sb];exact⟨congrArg some v.eta,congrArg some v.eta⟩
theorem sv {v:ai} (h:v.wt<=2000000):ml v=some v:=(K5 2000000 (abF _) v h).1
theorem iv {v:ai} (h:v.wt<=2000000):W3 v=some v:=(K5 2000000 (abF _) v h).2
theorem Gy {v:ai} (h:v.PL=true) (h4:¬v.aU=4):v.wt=1:=by
 have e:=v.eta;rw[<-e,Ng]at h;simp only[h4,decide_false,ahG,As]at h
 have hl:v.aj=[]:=by
  have:=h.1.2.2;cases b:v.aj with
  | nil=>rfl
  | cons a r=>rw[b]at this;cases this
 rw[v.kP,hl,xD]
section
variable {h:bD}(hb:HB h)(hk:Okb h)
include hb hk
theorem Gz (n:Nat) (u:∀m,m<n->∀c,c<h.aw.length->0<(bl h c).aZ->Wt (xW h) c m->∃t:ai,t.wt<=m/\∀v:ai,v.aU=5->v.bb=(c:Int)->dY h v=some t/\fR h v=some (t,h))
  {i:Nat} (hi:i<h.aw.length) (hc:0<(bl h i).aZ):∀(f k m:Nat) (l:List af),(bl h i).ax.ak.length<=k+f->k<=(bl h i).ax.ak.length->l.length<=k->GS (xW h) (cl ((bl h i).ax.ak.drop k)) m->m<n->
  ∃L:List af,gA h (bl h i) [] l (k:Int)=some ([],L)/\im (bl h i) h.aw l (k:Int)=some (h.aw,L)/\af.za L<=af.za l+m
 | f,k,m,l,hf,B,hl,d,hm=>by
  have C:=(hb.tb i hi).sl;rw[gA,im];by_cases o:k<(bl h i).ax.ak.length
  ·obtain⟨g,rfl⟩:∃g,f=g+1:=⟨f - 1,by omega⟩;have hs:(bl h i).ax.ak[k]∈(bl h i).ax.ak:=afQ o;have j:=hb.vw i hi _ hs;have hd:=hk.hd i hi hc _ hs;rw[agl o]at d;rw[an ajo,an ajo,ba o,sb,sb,bm ajo];generalize(bl h i).ax.ak[k]=s at hs j hd d ⊢;have step:=Gz n u hi hc g (k+1);by_cases e:s.bS=true
   ·have p:cl (s::(bl h i).ax.ak.drop (k+1))=kd s::cl ((bl h i).ax.ak.drop (k+1)):=by
     unfold cl;simp [e]
    rw[p]at d;rw[an e,an e,sb,sb]
    have key:∃(t:ai) (a b:Nat),m=a+b/\GS (xW h) (cl ((bl h i).ax.ak.drop (k+1))) b/\t.wt<=a/\dY h s.av=some t/\fR (bD.mk h.aw) s.av=some (t,h):=by
     by_cases h5:s.av.aU=5
     ·obtain⟨c,w,x,y,q⟩:=zX hb hk hi hc hs e h5;rw[q]at d;cases d with
      | @node _ _ a b z g2=>
       obtain⟨t,t1,t2⟩:=u (a+1) ajo c x y ⟨a,rfl,z⟩;obtain⟨r,A⟩:=t2 s.av h5 w;exact⟨t,a+1,b,rfl,g2,t1,r,A⟩
     ·have q:kd s=none:=by unfold kd;rw[mg h5]
      rw[q]at d;have hh:=hd e;unfold held at hh;rw[mg h5]at hh;by_cases h4:s.av.aU=4
      ·rw[an h4]at hh;cases hh
      rw[mg h4]at hh;cases d with
      | @leaf _ b g2=>
       refine⟨s.av,1,b,rfl,g2,ahY (Gy hh h4),?_,?_⟩
       ·rw[dY,mg ajo,mg h5,iv j,sb]
       ·rw[fR,mg h5]
    obtain⟨t,a,b,rfl,g2,t1,t2,r⟩:=key;rw[t2,r,sb,sb];dsimp only;rw[sh (by simp only[age,agv];omega),sb,sb];obtain⟨L,q1,q2,q3⟩:=step b (l++[af.mk s.aN t]) ajo ajo ajs g2 ajo;refine⟨L,q1,q2,?_⟩;rw[Ow,nS,xD]at q3;have:(af.mk s.aN t).av.wt=t.wt:=rfl;omega
   ·have p:cl (s::(bl h i).ax.ak.drop (k+1))=cl ((bl h i).ax.ak.drop (k+1)):=by
     unfold cl;simp [e]
    rw[p]at d;rw[mg e,mg e];exact step m l ajo ajo ajo d hm
  ·rw[mg ajo,mg ajo];exact⟨l,rfl,rfl,by omega⟩
theorem PS:∀(n:Nat) (c:Nat),c<h.aw.length->0<(bl h c).aZ->Wt (xW h) c n->∃t:ai,t.wt<=n/\∀v:ai,v.aU=5->v.bb=(c:Int)->dY h v=some t/\fR h v=some (t,h):=by
 intro n;induction n using Nat.strongRecOn with
 | ind n b=>
  intro c hc d hw;obtain⟨m,rfl,e⟩:=hw;obtain⟨L,q1,q2,q3⟩:=Gz hb hk (m+1) b hc d (bl h c).ax.ak.length 0 m [] ajo ajo ajq (by rw[afZ];exact e) ajo;replace q1:gA h (bl h c) [] [] 0=_:=q1;replace q2:im (bl h c) h.aw [] 0=_:=q2;refine⟨ai.mk 4 0 [] (bl h c).ax.aE L,?_,λv h5 a=>⟨?_,?_⟩⟩
  ·rw[ai.kP,ai.dh];rw[xD]at q3;omega
  ·rw[dY,mg ajo,an h5,a,K0 hc,sb,q1,sb]
  ·rw[fR,an h5,a,K0 hc,sb,q2,sb]
end
theorem Vc {h:bD} (hb:HB h) {v:ai} (hv:v.wt<=2000000):∃(t:ai) (b:Bool),nU h v=some (t,b)/\nV h v=some (t,b)/\t.wt<=200:=by
 obtain⟨e,e2⟩:=Vb hb;obtain⟨f,g⟩:=Im hb.nb hv;have z:(ai.mk 0 0 [] 0 []).wt<=200:=by rw[ai.kP,ai.dh,xD];omega
 unfold nU nV;rw[e,e2,sb,sb,f,g,sb,sb];cases c:K4 h
 ·exact⟨_,_,rfl,rfl,z⟩
 cases a:held h v
 ·exact⟨_,_,rfl,rfl,z⟩
 simp only[agu];unfold K4 at c;rw[As]at c;have hk:=SN hb c.1;unfold held at a;by_cases h5:v.aU=5
 ·rw[an h5,As]at a;have h2:=a.2;unfold inB at h2;rw[As,agQ,agQ]at h2;have d:v.bb.toNat<h.aw.length:=by omega
  obtain⟨n,i,n2⟩:=qH.1 (xd.1 c.2 v.bb.toNat (agt _) d) h2.2;obtain⟨t,t1,t2⟩:=PS hb hk n v.bb.toNat d h2.2 n2;obtain⟨q1,q2⟩:=t2 v h5 ajo;rw[q1,q2,sb,sb];dsimp only;rw[sv ajo,sb];exact⟨t,true,rfl,rfl,by omega⟩
 ·rw[mg h5]at a;by_cases h4:v.aU=4
  ·rw[an h4]at a;cases a
  rw[mg h4]at a;have hw:=Gy a h4;rw[dY,mg ajo,mg h5,iv hv,fR,mg h5,sb,sb,sb];dsimp only;rw[sv hv,sb];exact⟨v,true,rfl,rfl,by omega⟩
theorem SR:∀(n:Nat),n<=2000000->∀v:ai,v.wt<=n->∃b,lO v=some b/\lP v=some b:=by
 intro n;induction n with
 | zero=>intro _ v hv;have:=qE v;omega
 | succ n e=>
  intro j v hv;have g:=v.kP;have l:=vG v.aj;rw[lO,lP];by_cases h4:v.aU=4
  ·have go:∀(f k:Nat),v.aj.length<=k+f->k<=v.aj.length->(eK v (k:Int)=some (.inl ())/\eL v (k:Int)=some (.inl ()))\/(eK v (k:Int)=some (.inr (.inr false))/\eL v (k:Int)=some (.inr false)):=by
    intro f;induction f with
    | zero=>intro k h1 h2;rw[eK,eL,mg ajo,mg ajo];exact .inl ⟨rfl,rfl⟩
    | succ f c=>
     intro k h1 h2;rw[eK,eL];by_cases d:k<v.aj.length
     ·have m:=sf _ _ (afQ d);obtain⟨b,h,i⟩:=e ajo v.aj[k].av ajo;rw[an ajo,an ajo,ba d,sb,sb,h,i,sb,sb,bm ajo];cases b
      ·exact .inr ⟨rfl,rfl⟩
      ·simp only[agu];exact c (k+1) ajo ajo
     ·rw[mg ajo,mg ajo];exact .inl ⟨rfl,rfl⟩
   rw[an h4,an h4];rcases go v.aj.length 0 ajo ajo with⟨a,e2⟩ | ⟨a,e2⟩
   ·replace a:eK v 0=_:=a;replace e2:eL v 0=_:=e2;rw[a,e2];exact⟨_,rfl,rfl⟩
   ·replace a:eK v 0=_:=a;replace e2:eL v 0=_:=e2;rw[a,e2];exact⟨_,rfl,rfl⟩
  ·rw[mg h4,mg h4,Il,pS];exact⟨_,rfl,rfl⟩
set_option maxRecDepth 20000
theorem sj {a b:cx} (h:a.length+b.length<=4611686018427387904):sQ a b=some (a++b):=an h
theorem K6 {α:Type} {b:Nat} {a:List α} (h:a.length*b<=140737488355328):pQ b [] a=some a:=by
 rw[sh (by rw[agv,so];exact h),agD]
theorem SS {L:cx->Int->Option cx} (a:cx) (e:UInt8->cx) (he:∀c,(e c).length<=6) (d:a.length<=2000000)
  (hs:∀(acc:cx) (k:Nat),k<a.length->acc.length<=20000000->L acc (k:Int)=L (acc++e (a.getD k 0)) ((k+1:Nat):Int)) (b:∀acc,L acc (a.length:Int)=some acc):
  ∀(f k:Nat) (acc:cx),a.length<=k+f->k<=a.length->acc.length<=6*k->L acc (k:Int)=some (acc++(a.drop k).flatMap e)
 | f,k,acc,hf,hk,hl=>by
  by_cases hc:k<a.length
  ·obtain⟨g,rfl⟩:∃g,f=g+1:=⟨f - 1,by omega⟩;have h6:=he (a.getD k 0);rw[hs acc k hc ajo,SS a e he d hs b g (k+1) _ ajo ajo (by rw[agP];omega),agl hc,ahD,agC];congr 3;rw[afP,No hc];rfl
  ·have:k=a.length:=by omega
   subst this;rw[b,ahk,List.flatMap_nil,agB]
theorem PT {L:cx->Int->Option cx} (a:cx) (e:UInt8->cx) (he:∀c,(e c).length<=6) (b:a.length<=2000000)
  (hs:∀(acc:cx) (k:Nat),k<a.length->acc.length<=20000000->L acc (k:Int)=L (acc++e (a.getD k 0)) ((k+1:Nat):Int)) (d:∀acc,L acc (a.length:Int)=some acc):L [] 0=some (a.flatMap e):=by
 have:=SS a e he b hs d a.length 0 [] ajo ajo ajq
 rwa [afZ,agD]at this
theorem zZ (e:UInt8->cx) (he:∀c,(e c).length<=6):∀a:cx,(a.flatMap e).length<=6*a.length
 | []=>by simp
 | c::a=>by
  have:=zZ e he a;have:=he c;rw[ahD,agP,age];omega
def eH (c:UInt8):cx:=(jt c).getD []
theorem Iq (c:UInt8):(eH c).length<=6:=by
 unfold eH jt;repeat (split;· simp)
 simp
theorem ace (c:UInt8):jt c=some (eH c):=by
 unfold eH jt;repeat (split;· rfl)
 rfl
theorem aeF (c:UInt8):∃e,pT (c.toNat:Int)=some e/\((e=[]/\eH c=[c])\/(e≠[]/\eH c=e/\e.length<=6)):=by
 unfold eH jt pT;repeat (split;· exact⟨_,rfl,.inr ⟨by simp,rfl,by simp⟩⟩)
 exact⟨_,rfl,.inl ⟨rfl,rfl⟩⟩
theorem Ve (a:cx) (c:a.length<=2000000):mm a=some (a.flatMap eH)/\mn a=some (a.flatMap eH):=by
 unfold mm mn
 rw[PT (L:=eO a) a eH Iq c (λacc k hk hl=>?_) (λacc=>by rw[eO,mg ajo]),
  PT (L:=gm a) a eH Iq c (λacc k hk hl=>?_) (λacc=>by rw[gm,mg ajo]),sb]
 ·exact ajb
 ·have:=Iq (a.getD k 0);rw[gm,an ajo,pR hk,sb,ace,sb,sj ajo,sb,bm ajo]
 ·obtain⟨e,d,e2⟩:=aeF (a.getD k 0);rw[eO,an ajo,pR hk,sb,d,sb,bm ajo];rcases e2 with⟨e2,b⟩ | ⟨e2,b,f⟩
  ·rw[an e2,sb,sh ajs,sb,b]
  ·rw[mg e2,sh ajo,sb,b]
def W4 (n:Nat):Bool:=match dZ (IntKind.u8.wrap ((n:Int).tdiv 16)),dZ ((n:Int).tmod 16),qI (ah (n:Int))with
 | some a,some b,some [x,y]=>decide (a=(x.toNat:Int))&&decide (b=(y.toNat:Int))
 | _,_,_=>false
theorem Vf:∀n:Fin 256,W4 n.val=true:=by decide +kernel
theorem D2 (c:UInt8):∃x y:UInt8,dZ (IntKind.u8.wrap ((c.toNat:Int).tdiv 16))=some (x.toNat:Int)/\dZ ((c.toNat:Int).tmod 16)=some (y.toNat:Int)/\qI (ah (c.toNat:Int))=some [x,y]:=by
 have h:=Vf ⟨c.toNat,c.toNat_lt⟩;unfold W4 at h;dsimp only at h;split at h
 ·rename_i a b x y d e2 e;rw[As,agQ,agQ]at h;exact⟨x,y,by rw[d,h.1],by rw[e2,h.2],e⟩
 ·cases h
def B8 (c:UInt8):cx:=(qI (ah (c.toNat:Int))).getD []
theorem Cv (x:UInt8):UInt8.ofNat ((x.toNat:Int)).toNat=x:=by simp
def plI (c:Int):Option Bool:=sq c>>=λa=>(if a=true then some true else uj c>>=λb=>(if b=true then some true else(if c=45 then some true else(if c=95 then some true else(if c=46 then some true else some (c==126))))))
def scI (c:Int):Option Bool:=(if c<32 then some true else(if c>126 then some true else xf [92,39,34,60,62,38] c>>=λa=>some (decide (a>=0))))
def plB (n:Nat):Bool:=(plI (n:Int)).getD false
def scB (n:Nat):Bool:=(scI (n:Int)).getD false
theorem SU:∀n:Fin 256,plI (n.val:Int)=some (plB n.val)/\uk (n.val:Int)=some (plB n.val):=by decide +kernel
theorem SV:∀n:Fin 256,scI (n.val:Int)=some (scB n.val)/\vK (n.val:Int)=some (!scB n.val):=by decide +kernel
def eU (c:UInt8):cx:=if plB c.toNat=true then[c]else 37::B8 c
def eJ (c:UInt8):cx:=if scB c.toNat=true then 92::120::B8 c else[c]
theorem K7 (c:UInt8):(B8 c).length=2:=by
 obtain⟨x,y,_,_,e⟩:=D2 c;unfold B8;rw[e];rfl
theorem Nh (c:UInt8):(eU c).length<=6:=by unfold eU;split<;>simp [K7]
theorem Ni (c:UInt8):(eJ c).length<=6:=by unfold eJ;split<;>simp [K7]
theorem K8 {s:cx} {k:Nat} (hk:k<s.length):Pn s (k:Int) ((k+1:Nat):Int)=some [s.getD k 0]:=by
 unfold Pn;rw[an ⟨by omega,by omega,by omega⟩];congr 1;rw[afT,afT,afP,No hk];refine ahE λj=>?_;rw[agZ,ahq];cases j with
 | zero=>simp [hk]
 | succ j=>rw[mg ajo];rfl
theorem Zb (a:cx) (e:a.length<=2000000):nW a=some (a.flatMap eU)/\nX a=some (a.flatMap eU):=by
 unfold nW nX
 rw[PT (L:=fB a) a eU Nh e (λacc k hk hl=>?_) (λacc=>by rw[fB,mg ajo]),
  PT (L:=fC a) a eU Nh e (λacc k hk hl=>?_) (λacc=>by rw[fC,mg ajo]),sb]
 ·exact ajb
 ·rw[fC,an ajo,pR hk,sb,bm ajo];generalize hc:a.getD k 0=c;obtain⟨x,y,_,_,b⟩:=D2 c;have d:B8 c=[x,y]:=by unfold B8;rw[b];rfl
  rw[(SU ⟨c.toNat,c.toNat_lt⟩).2,sb];unfold eU;cases plB c.toNat
  ·rw[mg ajq,mg ajq,sj ajs,sb,sb,b,sb,sj ajs,sb,d,agC];rfl
  ·rw[an rfl,an rfl,K8 hk,sb,hc,sj ajs,sb]
 ·rw[fB,an ajo,pR hk,sb,bm ajo];generalize hc:a.getD k 0=c;obtain⟨x,y,g,e2,b⟩:=D2 c;have d:B8 c=[x,y]:=by unfold B8;rw[b];rfl
  have f:=(SU ⟨c.toNat,c.toNat_lt⟩).1;unfold plI at f;rw[f,sb];unfold eU;cases plB c.toNat
  ·rw[mg ajq,mg ajq,g,sb,e2,sb,Cv,Cv,sh ajs,sb,d]
  ·rw[an rfl,an rfl,sh ajs,sb]
theorem acf (a:cx) (e:a.length<=2000000):kj a=some (a.flatMap eJ)/\kk a=some (a.flatMap eJ):=by
 unfold kj kk
 rw[PT (L:=dJ a) a eJ Ni e (λacc k hk hl=>?_) (λacc=>by rw[dJ,mg ajo]),
  PT (L:=dK a) a eJ Ni e (λacc k hk hl=>?_) (λacc=>by rw[dK,mg ajo]),sb]
 ·exact ajb
 ·rw[dK,an ajo,pR hk,sb,bm ajo];generalize hc:a.getD k 0=c;obtain⟨x,y,_,_,b⟩:=D2 c;have d:B8 c=[x,y]:=by unfold B8;rw[b];rfl
  rw[(SV ⟨c.toNat,c.toNat_lt⟩).2,sb];unfold eJ;cases scB c.toNat
  ·rw[Bool.not_false,an rfl,mg ajq,K8 hk,sb,hc,sj ajs,sb]
  ·rw[ahQ,mg ajq,an rfl,sj ajs,sb,sb,b,sb,sj ajs,sb,d,agC];rfl
 ·rw[dJ,an ajo,pR hk,sb,bm ajo];generalize hc:a.getD k 0=c;obtain⟨x,y,g,e2,b⟩:=D2 c;have d:B8 c=[x,y]:=by unfold B8;rw[b];rfl
  have f:=(SV ⟨c.toNat,c.toNat_lt⟩).1;unfold scI at f;rw[f,sb];unfold eJ;cases scB c.toNat
  ·rw[mg ajq,mg ajq,sh ajs,sb]
  ·rw[an rfl,an rfl,g,sb,e2,sb,Cv,Cv,sh ajs,sb,d]
def Zc (f:Int) (s:cx):cx:=if f=1 then s.flatMap eH else if f=2 then s.flatMap eU else if f=3 then s.flatMap eJ else s
theorem Vg (f:Int) (s:cx):(Zc f s).length<=6*s.length:=by
 unfold Zc;split
 ·exact zZ _ Iq s
 split
 ·exact zZ _ Nh s
 split
 ·exact zZ _ Ni s
 omega
theorem Zd (f:Int) (s:cx) (a:s.length<=2000000):pU f s=some (Zc f s)/\pV f s=some (Zc f s):=by
 obtain⟨b,c⟩:=Ve s a;obtain⟨d,e⟩:=Zb s a;obtain⟨g,h⟩:=acf s a;unfold pU pV Zc;rw[b,c,d,e,g,h];simp only[sb];by_cases h1:f=1
 ·simp only[an h1];exact⟨trivial,trivial⟩
 by_cases h2:f=2
 ·simp only[mg h1,an h2];exact⟨trivial,trivial⟩
 by_cases h3:f=3
 ·simp only[mg h1,mg h2,an h3];exact⟨trivial,trivial⟩
 ·simp only[mg h1,mg h2,mg h3];exact⟨trivial,trivial⟩
structure OB (o:aR):Prop where
 hd:o.az.length<=2000000
 bs:o.ao.length<=2000000
 st:o.cm.length<=2000000
 tx:∀b∈o.ao,b.bO.length<=2000000
def K9 (o:aR):Nat:=o.cm.length+(o.ao.map (·.bO.length)).sum
theorem Ze {l:List aC} (h:∀b∈l,b.bO.length<=2000000):(l.map (·.bO.length)).sum<=2000000*l.length:=by
 induction l with
 | nil=>simp
 | cons b l a=>
  have h1:=a λx c=>h x (agm _ c);have h2:=h b (List.mem_cons_self ..);simp only[afO,ahR,age];omega
theorem Vh {l:List aC} {b:aC} (h:b∈l):b.bO.length<=(l.map (·.bO.length)).sum:=by
 induction l with
 | nil=>cases h
 | cons x l a=>
  rw[afO,ahR];rcases afW.1 h with rfl | h
  ·omega
  ·have:=a h;omega
theorem Nj {o:aR} (h:OB o) {L:Int->Int->Option Int} (hs:∀(y:Int) (k:Nat) (hk:k<o.ao.length),L y (k:Int)=L (ah (y+(o.ao[k].bO.length:Int))) ((k+1:Nat):Int)) (he:∀y,L y (o.ao.length:Int)=some y):
  ∀(f k n:Nat),o.ao.length<=k+f->k<=o.ao.length->n<=2000000*(k+1)->L (n:Int) (k:Int)=some ((n+((o.ao.drop k).map (·.bO.length)).sum:Nat):Int)
 | f,k,n,hf,hk,b=>by
  have hb:=h.bs;by_cases hc:k<o.ao.length
  ·obtain⟨g,rfl⟩:∃g,f=g+1:=⟨f - 1,by omega⟩;have c:=h.tx _ (afQ hc);have a:ah ((n:Int)+(o.ao[k].bO.length:Int))=((n+o.ao[k].bO.length:Nat):Int):=Gv ajo ajo;rw[hs _ k hc,a,Nj h hs he g (k+1) _ ajo ajo ajo,agl hc,afO,ahR,ahv]
  ·have:k=o.ao.length:=by omega
   subst this;rw[he,ahk];simp
theorem Zf {o:aR} (h:OB o):kR o=some (K9 o:Int)/\pW o=some (K9 o:Int):=by
 have hb:=h.bs;have hs:=h.st;unfold kR pW K9;have a:=Nj h (L:=fD o) (λy k hk=>by rw[fD,an ajo,ba hk,sb,bm ajo]) (λy=>by rw[fD,mg ajo]) o.ao.length 0 o.cm.length ajo ajo ajo;have e2:=Nj h (L:=jb o) (λy k hk=>by rw[jb,an ajo,ba hk,sb,bm ajo]) (λy=>by rw[jb,mg ajo]) o.ao.length 0 o.cm.length ajo ajo ajo;rw[afZ,show((0:Nat):Int)=0 from rfl]at a e2;rw[a,e2,sb];exact⟨rfl,rfl⟩
theorem Nk (o:aR):aR.mk o.cm o.az o.ao=o:=rfl
theorem D3 {o:aR} (h:OB o):iq o=some o/\mo o=some o:=by
 have h1:=h.hd;have h2:=h.bs;unfold iq mo Aa Ab;rw[K6 ajo,K6 ajo];exact ajb
def La (o:aR) (t:cx):aR×Bool:=
 if K9 o+t.length>3000 then(o,false)
 else if o.ao.length=0 then(⟨o.cm++t,o.az,o.ao⟩,true)
 else(⟨o.cm,o.az,o.ao.set (o.ao.length - 1) ⟨(o.ao.getD (o.ao.length - 1) default).ir,(o.ao.getD (o.ao.length - 1) default).bO++t⟩⟩,true)
theorem Vi {o:aR} (h:OB o) {t:cx} (n:t.length<=20000000):xg o t=some (La o t)/\xh o t=some (La o t):=by
 have hb:=h.bs;have p:=h.st;have hs:=Ze h.tx;obtain⟨f,g⟩:=D3 h;obtain⟨t1,t2⟩:=Zf h;have i:K9 o<=2000000+2000000*o.ao.length:=by unfold K9;omega
 have j:ah ((K9 o:Int)+(t.length:Int))=((K9 o+t.length:Nat):Int):=Gv ajo ajo;have e2:ah (3000 - (K9 o:Int))=3000 - (K9 o:Int):=by rw[ah,B4 ajo ajo]
 have k:ah ((o.ao.length:Int) - 1)=(o.ao.length:Int) - 1:=by rw[ah,B4 ajo ajo]
 unfold xg xh La;rw[f,g,sb,sb,t1,t2,sb,sb,j,e2,k];by_cases q1:K9 o+t.length>3000
 ·have a:((K9 o+t.length:Nat):Int)>3000:=by omega
  have b:(t.length:Int)>3000 - (K9 o:Int):=by omega
  rw[an a,an b,an q1];exact⟨rfl,rfl⟩
 have a:¬((K9 o+t.length:Nat):Int)>3000:=by omega
 have b:¬(t.length:Int)>3000 - (K9 o:Int):=by omega
 rw[mg a,mg b,mg q1];by_cases q2:o.ao.length=0
 ·have c:¬(o.ao.length:Int) - 1>=0:=by omega
  have d:(o.ao.length:Int)=0:=by omega
  rw[mg c,an d,an q2,sj ajo,sb];exact⟨rfl,rfl⟩
 ·have l:(o.ao.length:Int) - 1=((o.ao.length - 1:Nat):Int):=by omega
  have e:o.ao.length - 1<o.ao.length:=by omega
  have q:=h.tx _ (afQ e);have m:o.ao.getD (o.ao.length - 1) default=o.ao[o.ao.length - 1]:=by rw[afP,No e];rfl
  have c:(o.ao.length:Int) - 1>=0:=by omega
  have d:¬(o.ao.length:Int)=0:=by omega
  rw[an c,mg d,mg q2,l,ba e,afT,m];simp only[sb];rw[sj ajo];exact ajb
theorem Vj {o:aR} (h:OB o) {t:cx}:OB (La o t).1/\(La o t).1.ao.length=o.ao.length/\(La o t).1.az=o.az:=by
 unfold La;by_cases q1:K9 o+t.length>3000
 ·rw[an q1];exact⟨h,rfl,rfl⟩
 rw[mg q1];unfold K9 at q1;by_cases q2:o.ao.length=0
 ·rw[an q2];exact⟨⟨h.hd,h.bs,by show(o.cm++t).length<=_;rw[agP];omega,h.tx⟩,rfl,rfl⟩
 ·rw[mg q2];have a:o.ao.length - 1<o.ao.length:=by omega
  have d:=h.tx _ (afQ a);have c:o.ao.getD (o.ao.length - 1) default=o.ao[o.ao.length - 1]:=by rw[afP,No a];rfl
  refine⟨⟨h.hd,by simpa using h.bs,h.st,λb hb=>?_⟩,by simp,rfl⟩;rcases List.mem_or_eq_of_mem_set hb with hb | rfl
  ·exact h.tx b hb
  ·show(_++t).length<=_;rw[c,agP];by_cases q3:(o.ao[o.ao.length - 1]).bO.length<=3000
   ·omega
   ·exfalso;have:(o.ao[o.ao.length - 1]).bO.length<=(o.ao.map (·.bO.length)).sum:=Vh (afQ a);omega
theorem Zg {o:aR} (h:OB o) (h0:0<o.ao.length):∃(a:aR) (c:Int),nY o=some (a,c)/\nZ o=some (a,c)/\OB a/\a.ao.length=o.ao.length - 1/\a.az=o.az:=by
 have hb:=h.bs;obtain⟨k,l⟩:=D3 h;have m:ah ((o.ao.length:Int) - 1)=((o.ao.length - 1:Nat):Int):=by rw[ah,B4 ajo ajo];omega
 have g:o.ao.length - 1<o.ao.length:=by omega
 have n:=h.tx _ (afQ g)
 have p:WK o.ao ((o.ao.length - 1:Nat):Int)=some (o.ao.take (o.ao.length - 1)):=by
  unfold WK;rw[an ⟨by omega,by omega⟩];rfl
 unfold nY nZ oc oh;have d:¬((o.ao.length - 1:Nat):Int)<0:=by omega
 have e:¬(o.ao.length:Int)=0:=by omega
 simp only[k,l,m,sb,mg d,mg e,p,agu,ba g];obtain⟨s1,q⟩:=Zd (o.ao[o.ao.length - 1]).ir _ n;have hl:=Vg (o.ao[o.ao.length - 1]).ir (o.ao[o.ao.length - 1]).bO;have i:OB (aR.mk o.cm o.az (o.ao.take (o.ao.length - 1))):=⟨h.hd,by show(o.ao.take _).length<=_;rw[aht];omega,h.st,λb hb=>h.tx b (List.mem_of_mem_take hb)⟩;obtain⟨q1,q2⟩:=Vi i (t:=Zc (o.ao[o.ao.length - 1]).ir (o.ao[o.ao.length - 1]).bO) ajo;obtain⟨d,e,f⟩:=Vj i (t:=Zc (o.ao[o.ao.length - 1]).ir (o.ao[o.ao.length - 1]).bO);simp only[s1,q,q1,q2,sb];generalize La _ _=r at d e f ⊢;obtain⟨a,b⟩:=r
 have j:a.ao.length=o.ao.length - 1:=by
  rw[show a.ao.length=_ from e];show(o.ao.take _).length=_;rw[aht];omega
 cases b
 ·exact⟨a,2,rfl,rfl,d,j,f⟩
 ·exact⟨a,0,rfl,rfl,d,j,f⟩
theorem SW:∀(n:Nat) (o:aR),OB o->o.ao.length=n->∃s:cx,jc o.cm o.az o.ao=some (s,o.az,[])/\jd o.cm o.az o.ao=some (s,o.az,[]):=by
 intro n;induction n with
 | zero=>
  intro o h a;have e:o.ao=[]:=agw a;rw[jc,jd,mg ajo,mg ajo,e];exact⟨_,rfl,rfl⟩
 | succ n d=>
  intro o h a;obtain⟨f,c,g,e2,i,j,b⟩:=Zg h ajo;rw[jc,jd,an ajo,an ajo,Nk,g,e2,sb,sb];dsimp only;obtain⟨s,q1,q2⟩:=d f i ajo;rw[b]at q1 q2;rw[b,q1,q2];exact⟨s,rfl,rfl⟩
theorem SX {o:aR} (h:OB o):∃s:cx,pX o=some ⟨s,o.az,[]⟩/\pY o=some ⟨s,o.az,[]⟩:=by
 obtain⟨a,b⟩:=D3 h;obtain⟨s,q1,q2⟩:=SW _ o h rfl;unfold pX pY;simp only[a,b,sb,q1,q2];exact⟨s,rfl,rfl⟩
theorem acg {h:bD} (ok:h.Ok) (c:wj h<=1048576):HB h:=by
 unfold wj at c;have hl:=db (z:=fQ) h.aw
 have key:∀i,i<h.aw.length->fQ (bl h i)<=1048576/\(bl h i).Ok:=λi hi=>by
  have hm:bl h i∈h.aw:=by rw[<-SK hi];exact afQ hi
  have:=cR (z:=fQ) hm;exact⟨by omega,ok.h1 _ hm⟩
 refine⟨by omega,λi hi=>?_,λi hi s hs=>?_⟩
 ·obtain⟨a,b⟩:=key i hi;unfold fQ uG at a;have h2:=db (z:=kr) (bl h i).ax.ak;refine⟨by omega,by omega,λs hs=>((b.h0.h2 s hs).h0).h0,λs hs=>ach ?_⟩;have h3:=cR (z:=kr) hs;have h4:=LL s.av;have h5:kr s=zV s.av:=rfl;omega
 ·obtain⟨a,b⟩:=key i hi;unfold fQ uG at a;have h3:=cR (z:=kr) hs;have h4:=LL s.av;have h5:kr s=zV s.av:=rfl;omega
def zero:ai:=ai.mk 0 0 [] 0 []
theorem Ir:zero.wt<=200:=by unfold zero;rw[ai.kP,ai.dh,xD];omega
section
variable {m:bJ}(hb:HB m.ko)(hg:m.cj.length<=2000000)(hc:m.dB.length<=2000000)(hw:∀v∈m.dB,v.wt<=2000000)(o:aR)
include hb hg hc hw
theorem SY:∀(f k:Nat),m.cj.length<=k+f->k<=m.cj.length->∃t:ai,t.wt<=200/\je m (k:Int)=some (t.aU,t.bb,t.bp,t.aE,t.aj)/\
  (jf m o (k:Int)=some (.inr ⟨m.bR,m.bA,o.cm,o.az,t⟩)\/(jf m o (k:Int)=some (.inl ())/\t=zero))
 | f,k,hf,hk=>by
  have h:ah ((m.dB.length:Int) - 1)=(m.dB.length:Int) - 1:=by rw[ah,B4 ajo ajo]
  rw[je,jf];by_cases i:k<m.cj.length
  ·obtain⟨g,rfl⟩:∃g,f=g+1:=⟨f - 1,by omega⟩;have d:=SY g (k+1) ajo ajo;rw[an ajo,an ajo,ba i,sb,sb,bm ajo];generalize m.cj[k]=x;by_cases h1:x.cu=([115,101,115,115,105,111,110]:cx)
   ·rw[an h1,an h1,sb,Il,pS,h,sb,sb,sb];by_cases h2:0<=x.jF/\x.jF<=(m.dB.length:Int) - 1
    ·obtain⟨c,a⟩:∃c:Nat,x.jF=(c:Int):=⟨x.jF.toNat,by omega⟩;have e:c<m.dB.length:=by omega
     obtain⟨t,b,l1,j,l⟩:=Vc hb (hw _ (afQ e));obtain⟨p,n,q⟩:=SR 2000000 (abF _) t ajo;rw[afU h2,an rfl,an rfl];simp only[sb,a,ba e,l1,j,n,q];cases b
     ·exact⟨zero,Ir,rfl,.inl rfl⟩
     ·cases p
      ·exact⟨zero,Ir,rfl,.inl rfl⟩
      ·exact⟨t,l,rfl,.inl rfl⟩
    ·rw[afV h2,mg ajq,mg ajq];exact d
   ·rw[mg h1,mg h1,sb,mg ajq];exact d
  ·rw[mg ajo,mg ajo];exact⟨zero,Ir,rfl,.inr ⟨rfl,rfl⟩⟩
end
theorem PU {m:bJ} (ok:m.Ok) (c:mi m<=1048576) (d:bJ.Tx m):∃R:cp,mR m=some R/\pZ m=some R/\vI R<=1999999:=by
 unfold mi at c;have hb:=acg ok.h5 ajo;have g:=db (z:=zV) m.dB
 have e:OB m.fq:=by
  unfold oa at c;refine⟨by omega,by omega,by have:=d.t1.t0;omega,λb hb=>?_⟩;have:=(d.t1.t2 b hb).t0;omega
 obtain⟨s,f,f2⟩:=SX e
 obtain⟨t,t1,t2,a⟩:=SY hb (m:=m) ajo ajo (λv hv=>by
  have h3:=cR (z:=zV) hv;have h4:=LL v;omega) ⟨s,m.fq.az,[]⟩ m.cj.length 0 ajo ajo
 rw[show((0:Nat):Int)=0 from rfl]at t2 a;refine⟨⟨m.bR,m.bA,s,m.fq.az,t⟩,?_,?_,?_⟩
 ·unfold mR;simp only[f,sb,t2,ai.eta]
 ·unfold pZ;rw[f2,sb];rcases a with a | ⟨a,rfl⟩
  ·rw[a,sb]
  ·rw[a,sb];rfl
 ·unfold vI zV;unfold oa at c;show m.fq.az.length+(t.wt - 1)<=_;omega
theorem Vk (R:cp):cp.mk R.bR R.bA R.oX R.az R.aW=R:=rfl
theorem Nl (m:bJ) (ok:m.Ok):jL m=some true:=by
 unfold jL;obtain⟨v,e,hv⟩:=Ia ok (y:=1048576) ajo ajo;rw[e,sb];by_cases a:v<0
 ·rw[an a]
 rw[mg a];obtain⟨h1,h2,h3⟩:=hv.resolve_left a;obtain⟨R,r1,f,g⟩:=PU ok ajo h3;have q1:=Ii m ajo;have q2:=DS m ajo;have q3:=Fw R g;obtain⟨k,j,l,n,o,p,q,r,s,t,b,e2,u⟩:=Pu m 1 ajo;obtain⟨h,w,x,c,g2,z,d⟩:=mkResult R 1 ajo;replace b:iV m 1=_:=b;replace c:jZ R 1=_:=c;replace d:ib _ 1=_:=d;have i:¬(k:Int)<0:=by omega
 have n2:¬(h:Int)<0:=by omega
 simp only[q1,r1,f,sb,ai.eta,Vk,q3,q2,b,c,ai.dh,d,i,n2,agu,agG]
theorem Fm (m:bJ) (ok:m.Ok):ACall Tryz.prog 3 [.agg m.lit] [] (λres h=>res=.bool true):=(xi (Nl m ok)).mono (λ_ _ h=>h.1)
end Go.Am
