/- Texts of the proof, joined and shortened. -/
import Derived.Test.YtpokcbjeloeoiaaGreatDoorPk11
import Derived.Lib.AtoiTie
set_option linter.unusedVariables false
set_option linter.unusedSimpArgs false
set_option maxRecDepth 100000
set_option maxHeartbeats 800000
namespace Go.Am
open Go Go.RowKit Go.Proofs
theorem alf {x:ae} (h:cat vE vS x=true):x.ah=44/\∃a b,x.af=[a,b]/\a.ah=4/\vE a=true/\bl vS b=true:=by
 rw[cat,As,As,As,aOm]at h;obtain⟨h1,_,_,h2⟩:=h;refine⟨h1,?_⟩;rcases hk:x.af with _ | ⟨a,_ | ⟨b,_ | ⟨c,r⟩⟩⟩<;>rw[hk]at h2<;>simp at h2;exact⟨a,b,rfl,h2⟩
theorem alg {x:ae} (h:fin vS x=true):x.ah=45/\∃a,x.af=[a]/\bl vS a=true:=by
 rw[fin,As,As,As,aOm]at h;obtain⟨h1,_,_,h2⟩:=h;refine⟨h1,?_⟩;rcases hk:x.af with _ | ⟨a,_ | ⟨b,r⟩⟩<;>rw[hk]at h2<;>simp at h2;exact⟨a,rfl,h2⟩
theorem aGi {x:ae} (h:cat vE vS x=true):cE x:=⟨.inr (.inr (.inr (.inr (.inl h)))),by have:=(alf h).1;omega⟩
theorem aGj {x:ae} (h:fin vS x=true):cE x:=⟨.inr (.inr (.inr (.inr (.inr (.inl h))))),by have:=(alg h).1;omega⟩
theorem aGk {n:ae} (hw:wt n<=134217728) (h:vS n=true):Stp n:=by
 obtain⟨_,_,hg⟩:=alh hw h;have g:∀x∈n.af,wt x<=134217728:=λx hx=>by have:=jj hx;omega
 have no:n.ah≠40->n.ah≠41->n.ah≠36->n.ah≠46->TH n:=λa b c d=>Bw n (by have:=LG hw h;omega);have i:∀x∈n.af,vE x=true->cE x:=λx hx q=>aff (g x hx) q;have j:∀x∈n.af,bl vS x=true->cE x:=λx hx q=>aqN (g x hx) q;unfold gS at hg;simp only[aOO,aOV,aOs,aOZ,aOm]at hg;by_cases h1:n.ah=31\/n.ah=37\/n.ah=38\/n.ah=40\/n.ah=47
 ·rw[An h1]at hg;by_cases t:n.ah=40
  ·exact Gx (afg n aRK) (afh hg)
  ·exact Gx (no t aRK aRK aRK) (afh hg)
 rw[mg h1]at hg;by_cases h2:n.ah=32\/n.ah=33\/n.ah=42
 ·rw[An h2]at hg;refine calm (no aRK aRK aRK aRK) (λx hx=>i x hx ?_);rcases hk:n.af with _ | ⟨a,_ | ⟨b,r⟩⟩<;>rw[hk]at hg hx<;>simp at hg hx;subst hx;exact hg
 rw[mg h2]at hg;by_cases m:n.ah=39
 ·rw[An m]at hg;refine calm (no aRK aRK aRK aRK) (λx hx=>i x hx ?_);rcases hk:n.af with _ | ⟨a,_ | ⟨b,r⟩⟩<;>rw[hk]at hg hx<;>simp at hg hx;subst hx;exact hg
 rw[mg m]at hg;by_cases h4:n.ah=41
 ·rw[An h4]at hg;rcases hk:n.af with _ | ⟨a,_ | ⟨b,r⟩⟩<;>rw[hk]at hg<;>simp at hg;refine calm (afi n aRK hk (g a aSs) hg.2 hg.1) (λx hx=>i x hx ?_);rw[hk]at hx;simp at hx;subst hx;exact hg.2
 rw[mg h4]at hg;by_cases o:n.ah=34
 ·rw[An o]at hg;refine calm (no aRK aRK aRK aRK) (λx hx=>?_);have a1:=i x hx;have f:=j x hx;rcases hk:n.af with _ | ⟨a,_ | ⟨b,_ | ⟨c,_ | ⟨d,r⟩⟩⟩⟩<;>rw[hk]at hg hx<;>simp at hg hx
  ·rcases hx with rfl | rfl
   ·exact a1 hg.1
   ·exact f hg.2
  ·rcases hx with rfl | rfl | rfl
   ·exact a1 hg.1
   ·exact f hg.2.1
   ·exact f hg.2.2
 rw[mg o]at hg;by_cases p:n.ah=35
 ·rw[An p]at hg;refine calm (no aRK aRK aRK aRK) (λx hx=>?_);have a1:=i x hx;have f:=j x hx;rcases hk:n.af with _ | ⟨a,_ | ⟨b,_ | ⟨c,r⟩⟩⟩<;>rw[hk]at hg hx<;>simp at hg hx;rcases hx with rfl | rfl
  ·exact a1 hg.1
  ·exact f hg.2
 rw[mg p]at hg;by_cases k:n.ah=36
 ·rw[An k]at hg;rcases hk:n.af with _ | ⟨a,_ | ⟨b,_ | ⟨c,_ | ⟨d,_ | ⟨e,r⟩⟩⟩⟩⟩<;>rw[hk]at hg<;>simp at hg
  ·refine calm (ali n k (a:=a) (b:=b) (Ab (g b aSs) hg.2.1 hg.2.2.1) (.inl ⟨c,hk,(aqO hg.2.2.2).1⟩)) (λx hx=>?_);have a1:=i x hx;have f:=j x hx;rw[hk]at hx;simp at hx;rcases hx with rfl | rfl | rfl
   ·exact a1 hg.1
   ·exact a1 hg.2.1
   ·exact f hg.2.2.2
  ·refine calm (ali n k (a:=a) (b:=b) (Ab (g b aSs) hg.2.1 hg.2.2.2.1) (.inr ⟨c,d,hk,Ab (g c aSs) hg.2.2.1 hg.2.2.2.2.1,(aqO hg.2.2.2.2.2).1⟩)) (λx hx=>?_);have a1:=i x hx;have f:=j x hx;rw[hk]at hx;simp at hx;rcases hx with rfl | rfl | rfl | rfl
   ·exact a1 hg.1
   ·exact a1 hg.2.1
   ·exact a1 hg.2.2.1
   ·exact f hg.2.2.2.2.2
 rw[mg k]at hg;by_cases l:n.ah=46
 ·rw[An l]at hg;refine calm (aGl n l λa b e=>?_) (λx hx=>i x hx ?_)
  ·rw[e]at hg;simp at hg;exact Ab (g a (by rw[e];simp)) hg.1 hg.2.2
  ·rcases hk:n.af with _ | ⟨a,_ | ⟨b,_ | ⟨c,r⟩⟩⟩<;>rw[hk]at hg hx<;>simp at hg hx
   ·subst hx;exact hg
   ·rcases hx with rfl | rfl
    ·exact hg.1
    ·exact hg.2.1
 rw[mg l]at hg;by_cases s:n.ah=48
 ·rw[An s]at hg;exact calm (no aRK aRK aRK aRK) (λx hx=>aGm (g x hx) (aOl.1 hg x hx))
 rw[mg s]at hg;by_cases h0:n.ah=43
 ·rw[An h0]at hg;refine calm (no aRK aRK aRK aRK) (λx hx=>?_);have f:=j x hx;rcases hk:n.af with _ | ⟨a,_ | ⟨b,_ | ⟨c,_ | ⟨d,r⟩⟩⟩⟩<;>rw[hk]at hg hx<;>simp at hg hx
  ·rcases hx with rfl | rfl
   ·exact f hg.1
   ·rcases hg.2 with q | q
    ·exact aGi q
    ·exact aGj q
  ·rcases hx with rfl | rfl | rfl
   ·exact f hg.1
   ·exact aGi hg.2.1
   ·exact aGj hg.2.2
 rw[mg h0]at hg;cases hg
theorem afj {n:ae} {a:Bool} (hk:n.ah=49\/n.ah=55) (h:fU vS a n.af=true):Stp n:=by
 have q:=UQ h;have b:∀x∈n.af,x.ah<49:=λx hx=>by rcases q x hx with z | z<;>omega
 exact⟨Bw n aRK,λx hx=>by
  rcases q x hx with z | z
  ·exact .inr (.inr (.inr (.inl ⟨by omega,z.2⟩)))
  ·exact .inr (.inl z.2),.inl (by rcases hk with z | z<;>rw[z]<;>rfl),.inr λx hx=>by have:=b x hx;omega,.inr λx hx=>by have:=b x hx;omega⟩
theorem Pf {c:Bool}:∀(l:List ae) (f p:Bool),DV c f p l=true->∀x∈l,52<=x.ah/\x.ah<=55/\Ix x
 | [],_,_,_,x,hx=>by cases hx
 | y::r,f,p,h,x,hx=>by
  rw[DV]at h
  have go:∀a b,DV c a b r=true->(52<=y.ah/\y.ah<=55/\Ix y)->52<=x.ah/\x.ah<=55/\Ix x:=by
   intro a b h1 h2;rcases aOz.1 hx with rfl | hx
   ·exact h2
   ·exact Pf r a b h1 x hx
  by_cases h2:y.ah=52
  ·rw[h2]at h;simp only[aPI,aPY,As]at h;exact go _ _ h.2 ⟨by omega,by omega,.inr (.inr (.inr (.inl ⟨by omega,afh h.1.2.2.2.2⟩)))⟩
  rw[an.2 h2,aPZ]at h;by_cases d:y.ah=53
  ·rw[d]at h;simp only[aPI,aPY,As]at h;exact go _ _ h.2 ⟨by omega,by omega,.inr (.inr (.inr (.inl ⟨by omega,afh h.1.2.2.2⟩)))⟩
  rw[an.2 d,aPZ]at h;by_cases h4:y.ah=54
  ·rw[h4]at h;simp only[aPI,aPY,As]at h;exact go _ _ h.2 ⟨by omega,by omega,.inr (.inr (.inr (.inr (.inr (.inr (.inr (.inl (.inl ⟨h4,h.1.2.2⟩))))))))⟩
  rw[an.2 h4,aPZ]at h;simp only[As,aOm]at h;exact go _ _ h.2 ⟨by omega,by omega,.inr (.inr (.inr (.inr (.inr (.inr (.inr (.inl (.inr ⟨h.1.1,h.1.2.2.2⟩))))))))⟩
theorem aGn {n:ae} (h:vT n=true):(n.ah=49/\fU vS false n.af=true)\/((n.ah=50\/n.ah=51)/\DV (n.ah==50) true false n.af=true):=by
 rw[vT,As,As]at h;obtain⟨_,_,h⟩:=h;by_cases a:n.ah=49
 ·rw[a]at h;exact .inl ⟨a,h⟩
 ·rw[an.2 a,aPZ,As,aOZ,aOm,aOm]at h;exact .inr h
theorem aiN {n:ae} (hw:wt n<=134217728) (h:Ix n):Stp n:=by
 have c:∀x∈n.af,wt x<=134217728:=λx hx=>by have:=jj hx;omega
 rcases h with h | h | h | h | h | h | h | h | h
 ·exact aGo hw h
 ·exact aGk hw h
 ·rw[prK,As,As,As,As,aOm]at h;exact calm (Bw n aRK) (λx hx=>aff (c x hx) (aOl.1 h.2.2.2.2 x hx))
 ·by_cases q:n.ah=24\/n.ah=25
  ·exact Gx (afg n aRK) h.2
  ·exact Gx (Bw n (by have:=h.1;omega)) h.2
 ·obtain⟨h1,a,b,e,h4,he,f⟩:=alf h;refine calm (aGp n h1 e (Ab (c a (by rw[e];simp)) he h4)) (λx hx=>?_);have d:=c x hx;rw[e]at hx;simp at hx;rcases hx with rfl | rfl
  ·exact aff d he
  ·exact aqN d f
 ·obtain⟨h1,a,e,f⟩:=alg h;refine calm (Bw n aRK) (λx hx=>?_);have d:=c x hx;rw[e]at hx;simp at hx;subst hx;exact aqN d f
 ·rcases aGn h with⟨i,hf⟩ | ⟨g,hc⟩
  ·exact afj (.inl i) hf
  ·have q:=Pf _ _ _ hc;exact⟨Bw n aRK,λx hx=>(q x hx).2.2,.inr λx hx=>by have:=q x hx;omega,.inr λx hx=>by have:=q x hx;omega,.inl g⟩
 ·rcases h with⟨h4,h⟩ | ⟨g,h⟩
  ·refine calm (Bw n aRK) (λx hx=>?_);have d:=c x hx;unfold m54 at h;rcases hk:n.af with _ | ⟨a,_ | ⟨b,r⟩⟩<;>rw[hk]at h<;>rw[hk]at hx<;>simp at h hx;subst hx;exact aff d h.2
  ·exact afj (.inr g) h
 ·obtain⟨j,h⟩:=h
  have q:∀x∈n.af,Ix x/\31<=x.ah/\x.ah<=51:=λx hx=>by
   have z:=aOl.1 h x hx;rw[vP,aOZ]at z;rcases z with z | z
   ·exact⟨.inr (.inr (.inr (.inr (.inr (.inr (.inl z)))))),by rcases aGn z with y | y<;>omega⟩
   ·exact⟨.inr (.inl z),by have:=LG (c x hx) z;omega⟩
  exact⟨Bw n aRK,λx hx=>(q x hx).1,.inr λx hx=>by have:=q x hx;omega,.inl j,.inr λx hx=>by have:=q x hx;omega⟩
theorem JG:∀(N:Nat) (n:ae),sz n<N->wt n<=134217728->Ix n->Pg n
 | 0,n,h,_,_=>by omega
 | N+1,n,h,hw,hv=>by
  have q:=aiN hw hv;exact afk n hw (λk hk=>JG N k (by have:=qY hk;omega) (by have:=jj hk;omega) (q.k k hk)) q.t q.c1 q.c2 q.c3
theorem aiO {n:ae} (hw:wt n<=134217728) (h:vZ n=true):Pg n:=by
 rw[vZ,As,As,As,As,aOm]at h;exact JG _ n (aOr _) hw (.inr (.inr (.inr (.inr (.inr (.inr (.inr (.inr ⟨h.1,h.2.2.2.2⟩))))))))
theorem Sd (n:ae) (hw:wt n<=134217728):∃k:Int,k9 n=some k/\lh n=some k/\0<=k/\k<=5:=by
 obtain⟨h1,h2⟩:=C3 n hw;rw[k9,lh,h1,h2,sb,sb];cases o:vZ n with
 | false=>exact⟨5,rfl,rfl,by omega,by omega⟩
 | true=>
  have A:=aiO hw o;have L:(M8 1 6 6:Option (List Bool))=some [false,false,false,false,false,false]:=rfl;rw[An rfl,An rfl,L,sb,A.i,sb];have p:=A.s 1 false false aRK aRK;have q:=A.s 2 false false aRK aRK;have r:=A.s 3 false false aRK aRK;have t:=A.s 4 false false aRK aRK;have u:=A.s 5 false false aRK aRK;generalize Bk 1 n false false=f at*;generalize Bk 2 n false false=d at*;generalize Bk 3 n false false=c at*;generalize Bk 4 n false false=b at*;generalize Bk 5 n false false=a at*;have w1:bm ((1:Int)+1)=2:=bz (i:=1) aRK;have g:bm ((2:Int)+1)=3:=bz (i:=2) aRK;have h:bm ((3:Int)+1)=4:=bz (i:=3) aRK;have j:bm ((4:Int)+1)=5:=bz (i:=4) aRK;have m:bm ((5:Int)+1)=6:=bz (i:=5) aRK;have v:bR n 6=some (.inl ()):=by rw[bR,mg aRL]
  have S5:bR n 5=if a=true then some (.inr 5)else some (.inl ()):=by rw[bR,An aRL,u,sb,m,v]
  have w:bR n 4=if b=true then some (.inr 4)else if a=true then some (.inr 5)else some (.inl ()):=by rw[bR,An aRL,t,sb,j,S5]
  have x:bR n 3=if c=true then some (.inr 3)else if b=true then some (.inr 4)else if a=true then some (.inr 5)else some (.inl ()):=by rw[bR,An aRL,r,sb,h,w]
  have y:bR n 2=if d=true then some (.inr 2)else if c=true then some (.inr 3)else if b=true then some (.inr 4)else if a=true then some (.inr 5)else some (.inl ()):=by rw[bR,An aRL,q,sb,g,x]
  have S1:bR n 1=if f=true then some (.inr 1)else if d=true then some (.inr 2)else if c=true then some (.inr 3)else if b=true then some (.inr 4)else if a=true then some (.inr 5)else some (.inl ()):=by rw[bR,An aRL,p,sb,w1,y]
  rw[S1]
  have I:∀l:List Bool,l=[false,false||f,false||d,false||c,false||b,false||a]->bS l 1=if f=true then some (.inr 1)else if d=true then some (.inr 2)else if c=true then some (.inr 3)else if b=true then some (.inr 4)else if a=true then some (.inr 5)else some (.inl ()):=by
   intro l e;simp only[aOt]at e;have z:bS l 6=some (.inl ()):=by rw[bS,mg aRL]
   have I5:bS l 5=if a=true then some (.inr 5)else some (.inl ()):=by rw[bS,An aRL,show idx l 5=some a by rw[e];rfl,sb,m,z]
   have B:bS l 4=if b=true then some (.inr 4)else if a=true then some (.inr 5)else some (.inl ()):=by rw[bS,An aRL,show idx l 4=some b by rw[e];rfl,sb,j,I5]
   have C:bS l 3=if c=true then some (.inr 3)else if b=true then some (.inr 4)else if a=true then some (.inr 5)else some (.inl ()):=by rw[bS,An aRL,show idx l 3=some c by rw[e];rfl,sb,h,B]
   have D:bS l 2=if d=true then some (.inr 2)else if c=true then some (.inr 3)else if b=true then some (.inr 4)else if a=true then some (.inr 5)else some (.inl ()):=by rw[bS,An aRL,show idx l 2=some d by rw[e];rfl,sb,g,C]
   rw[bS,An aRL,show idx l 1=some f by rw[e];rfl,sb,w1,D]
  rw[I _ rfl];cases f
  ·cases d
   ·cases c
    ·cases b
     ·cases a
      ·exact⟨0,rfl,rfl,by omega,by omega⟩
      ·exact⟨5,rfl,rfl,by omega,by omega⟩
     ·exact⟨4,rfl,rfl,by omega,by omega⟩
    ·exact⟨3,rfl,rfl,by omega,by omega⟩
   ·exact⟨2,rfl,rfl,by omega,by omega⟩
  ·exact⟨1,rfl,rfl,by omega,by omega⟩
theorem afl (s:aE) (hs:s.length<=13):∀(n i v:Nat),i<=s.length->s.length - i=n->v<10 ^ i->
  zB s (v:Int) (i:Int)=some (match Lib.decFrom v (s.drop i)with | some u=>.inl (u:Int) | none=>.inr (0,false))
 | 0,i,v,hi,b,hv=>by
  have e:i=s.length:=by omega
  rw[zB,mg aRK,e,List.drop_length];rfl
 | n+1,i,v,hi,b,hv=>by
  have a:i<s.length:=by omega
  have d:v<10000000000000:=aOE hv (Nat.pow_le_pow_right aRL (show i<=13 by omega));have hc:=(s.getD i 0).toNat_lt;rw[zB,An aRK,fq a,sb,KN,sb,bm,w64 aRK aRK,drop_cons a];by_cases hd:48<=(s.getD i 0).toNat/\(s.getD i 0).toNat<=57
  ·rw[An (by rw[aPm];omega),sb,KO hd];have c:IntKind.u8.wrap (((s.getD i 0).toNat:Int) - 48)=(((s.getD i 0).toNat - 48:Nat):Int):=by rw[IntKind.wrap_u8];omega
   have e2:IntKind.i64.wrap (IntKind.i64.wrap (10*(v:Int))+IntKind.i64.wrap (IntKind.u8.wrap (((s.getD i 0).toNat:Int) - 48)))=((v*10+((s.getD i 0).toNat - 48):Nat):Int):=by
    rw[c,w64 (x:=10*(v:Int)) aRK aRK,w64 (x:=(((s.getD i 0).toNat - 48:Nat):Int)) aRK aRK,w64 aRK aRK];omega
   rw[bm,bm,bm,e2,bz aRK,afl s hs n (i+1) _ aRK aRK (by rw[Nat.pow_succ];omega)]
  ·rw[mg (by rw[aPm];omega),MX hd]
def nbW:Option Nat->Int×Bool
 | some v=>((v:Int),true)
 | none=>(0,false)
theorem aqP (s:aE):m61 s=some (nbW (tM s)):=by
 unfold m61 tM;rw[KN,sb];by_cases h:1<=s.length/\s.length<=13
 ·rw[An (by rw[aPm];omega),An h];have e:=afl s h.2 s.length 0 0 aRK aRK aRN;rw[aOu]at e;replace e:zB s 0 0=_:=e;rw[e,sb];cases hd:Lib.decFrom 0 s with
  | none=>rfl
  | some u=>
   show(if(u:Int)>1000000000000 then some (0,false)else _)=some (nbW (if u<=1000000000000/\Lib.decDigits u=s then some u else none));by_cases h1:(u:Int)>1000000000000
   ·rw[An h1,mg aRK];rfl
   ·rw[mg h1,amU _ aRK aRK,sb,Lib.itoa_nonneg];by_cases h2:Lib.decDigits u=s
    ·rw[An h2,An ⟨by omega,h2⟩];rfl
    ·rw[mg h2,mg (λh=>h2 h.2)];rfl
 ·rw[mg (by rw[aPm];omega),mg h];rfl
def Ph:Option Nat->Option Int
 | some v=>if v<=1000000000 then some (v:Int)else none
 | none=>none
theorem SX {n:Int} (h0: -1000000000<=n) (h1:n<=1000000000):(Lib.itoa n).length<=11:=by
 unfold Lib.itoa;split
 ·simp only[At];rw[Lib.decDigits_length];have:=AU 9 n.natAbs aSf;omega
 ·rw[Lib.decDigits_length];have:=AU 9 n.toNat aSf;omega
theorem Pj {n:Int} (h0:0<=n) (h1:n<=1000000000):(Lib.decDigits n.toNat).length<=10:=by
 rw[Lib.decDigits_length];exact AU 9 n.toNat aSf
def ez (s:aE) (o:Option Int):Option Int:=match o with | some n=>if Lib.itoa n=s/\(-1000000000:Int)<=n/\n<=1000000000 then some n else none | none=>none
theorem afm (s:aE) (a:s.length<=18):pw s (-1000000000) 1000000000=ez s (Lib.atoi s):=by
 unfold pw ez;rw[mg aRK,Lib.atoiAll_short s a];cases Lib.atoi s<;>rfl
theorem aiP (s:aE) (a:11<s.length):pw s (-1000000000) 1000000000=none:=by
 unfold pw;split
 ·rfl
 ·split
  ·rw[mg];intro h;have:=SX h.2.1 h.2.2;rw[h.1]at this;omega
  ·rfl
theorem SY (s:aE) (a:11<s.length):Ph (tM s)=none:=by
 unfold tM;split
 ·cases Lib.decFrom 0 s with
  | none=>rfl
  | some v=>
   show Ph (if v<=1000000000000/\Lib.decDigits v=s then some v else none)=none;by_cases h:v<=1000000000000/\Lib.decDigits v=s
   ·rw[An h];show(if v<=1000000000 then some (v:Int)else none)=none;rw[mg];intro hv;have:=Pj (n:=(v:Int)) aRK aRK;rw[aPD,h.2]at this;omega
   ·rw[mg h];rfl
 ·rfl
theorem aiQ (c:UInt8) (r:aE) (g:(c::r).length<=11) (a:c≠45) (b:c≠43):ez (c::r) (Lib.atoi (c::r))=Ph (tM (c::r)):=by
 have e:Lib.atoi (c::r)=(Lib.decFrom 0 (c::r)).map λ(m:Nat)=>(m:Int):=by
  show(if c==45 then _ else if c==43 then _ else(Lib.decNat (c::r)).map λ(m:Nat)=>(m:Int))=_;rw[mg (by simpa using a),mg (by simpa using b)];rfl
 have f:tM (c::r)=auw (c::r) (Lib.decFrom 0 (c::r)):=by unfold tM;rw[An ⟨by simp,by omega⟩]
 rw[e,f];cases hd:Lib.decFrom 0 (c::r)with
 | none=>rfl
 | some v=>
  show(if Lib.itoa (v:Int)=c::r/\(-1000000000:Int)<=v/\(v:Int)<=1000000000 then some (v:Int)else none)=Ph (if v<=1000000000000/\Lib.decDigits v=c::r then some v else none);rw[Lib.itoa_nonneg];by_cases h2:Lib.decDigits v=c::r
  ·by_cases d:v<=1000000000
   ·rw[An ⟨h2,by omega,by omega⟩,An ⟨by omega,h2⟩];show _=if v<=1000000000 then some (v:Int)else none
    rw[An d]
   ·rw[mg (λh=>d (by have:=h.2.2;omega))];by_cases h4:v<=1000000000000
    ·rw[An ⟨h4,h2⟩];show _=if v<=1000000000 then some (v:Int)else none
     rw[mg d]
    ·rw[mg (λh=>h4 h.1)];rfl
  ·rw[mg (λh=>h2 h.1),mg (λh=>h2 h.2)];rfl
theorem aiR {c:UInt8} {r:aE} (a:c≠45) (b:c≠43):pw (c::r) (-1000000000) 1000000000=Ph (tM (c::r)):=by
 by_cases h:11<(c::r).length
 ·rw[aiP _ h,SY _ h]
 ·rw[afm _ aRK,aiQ c r aRK a b]
set_option maxRecDepth 100000
def Xb (c:UInt8):Bool:=isLet c||decide (c.toNat=95)
def Pk:aE->Nat
 | []=>0
 | c::r=>if(Xb c||ra c)=true then Pk r+1 else 0
def CB:aE->Nat
 | []=>0
 | c::r=>if Xb c=true then Pk r+1 else 0
def wU:aE->Nat
 | []=>0
 | c::r=>if ra c=true then wU r+1 else 0
theorem UR:∀s:aE,Pk s<=s.length
 | []=>Of _
 | c::r=>by
  have:=UR r;rw[Pk];split
  ·simp only[At];omega
  ·exact aPF _
theorem US:∀s:aE,CB s<=s.length
 | []=>Of _
 | c::r=>by
  have:=UR r;rw[CB];split
  ·simp only[At];omega
  ·exact aPF _
theorem UT:∀s:aE,wU s<=s.length
 | []=>Of _
 | c::r=>by
  have:=UT r;rw[wU];split
  ·simp only[At];omega
  ·exact aPF _
theorem zl {a b:Nat} (h:a=b):(some ((a:Nat):Int))=some ((b:Nat):Int):=by rw[h]
theorem aGq (s:aE) (hs:s.length<=100000):∀(f i:Nat),s.length<=i+f->0<i->i<=s.length->da s (i:Int)=some ((i+Pk (s.drop i):Nat):Int)
 | f,i,h,h0,hi=>by
  rw[da];by_cases hc:i<s.length
  ·obtain⟨g,rfl⟩:∃g,f=g+1:=⟨f - 1,by omega⟩;have a:=aGq s hs g (i+1) aRK aRK aRK;rw[An aRK,fq hc,sb,Q6,sb,bz aRK,drop_cons hc,Pk,Xb];generalize s.getD i 0=c;cases d:isLet c
   ·rw[mg aRN,sb];by_cases b:c.toNat=95
    ·rw[An aRK,a,An (by simp [b])];exact zl aRK
    ·rw[mg aRK,An aRK,sb,KM,sb];cases hd:ra c
     ·rw[mg aRN,mg (by simp [b])];rfl
     ·rw[An rfl,a,An aRN];exact zl aRK
   ·rw[An rfl,a,An aRN];exact zl aRK
  ·rw[mg aRK,aOk aRK];rfl
theorem iNl (s:aE) (hs:s.length<=100000):eD s=some ((CB s:Nat):Int):=by
 have key:da s 0=some ((CB s:Nat):Int):=by
  rw[da];cases s with
  | nil=>rw[mg aRN];rfl
  | cons c r=>
   have a:=aGq (c::r) hs r.length 1 aRV aRK aRN;rw[An aRV,show hJ (c::r) 0=some c from fq (i:=0) aRN,sb,Q6,sb,show bm ((0:Int)+1)=((1:Nat):Int)from bz (i:=0) aRK,CB,Xb];cases d:isLet c
   ·rw[mg aRN,sb];by_cases b:c.toNat=95
    ·rw[An aRK,a,An (by simp [b])];exact zl (by rw[aPE,aOu];omega)
    ·rw[mg aRK,mg aRK,mg (by simp [b])];rfl
   ·rw[An rfl,a,An aRN];exact zl (by rw[aPE,aOu];omega)
 rw[eD,key,sb]
theorem aGr (s:aE) (hs:s.length<=100000) (a:Nat):∀(f i:Nat),s.length<=i+f->a<i->i<=s.length->fe s (a:Int) (i:Int)=some ((i+Pk (s.drop i):Nat):Int)
 | f,i,h,h0,hi=>by
  rw[fe];by_cases hc:i<s.length
  ·obtain⟨g,rfl⟩:∃g,f=g+1:=⟨f - 1,by omega⟩;have b:=aGr s hs a g (i+1) aRK aRK aRK;rw[An aRK,fq hc,sb,D5,sb,bz aRK,drop_cons hc,Pk];generalize s.getD i 0=c;show(if(Xb c)=true then _ else _)=_;cases d:Xb c
   ·rw[mg aRN,An aRK,sb,D6,sb];cases hd:ra c
    ·rw[mg aRN,mg aRN];rfl
    ·rw[An rfl,b,An aRN];exact zl aRK
   ·rw[An rfl,b,An aRN];exact zl aRK
  ·rw[mg aRK,aOk aRK];rfl
theorem sNl (s:aE) (hs:s.length<=100000) {a:Nat} (d:a<=s.length):jA s (a:Int)=some ((a+CB (s.drop a):Nat):Int):=by
 have key:fe s (a:Int) (a:Int)=some ((a+CB (s.drop a):Nat):Int):=by
  rw[fe];by_cases hc:a<s.length
  ·have b:=aGr s hs a s.length (a+1) aRK aRK aRK;rw[An aRK,fq hc,sb,D5,sb,bz aRK,drop_cons hc,CB];generalize s.getD a 0=c;show(if(Xb c)=true then _ else _)=_;cases e:Xb c
   ·rw[mg aRN,mg aRK,mg aRN];rfl
   ·rw[An rfl,b,An rfl];exact zl aRK
  ·rw[mg aRK,aOk aRK];rfl
 rw[jA,key,sb]
theorem iDr (s:aE) (hs:s.length<=100000):∀(f i:Nat),s.length<=i+f->i<=s.length->ic s (i:Int)=some ((i+wU (s.drop i):Nat):Int)
 | f,i,h,hi=>by
  rw[ic];by_cases hc:i<s.length
  ·obtain⟨g,rfl⟩:∃g,f=g+1:=⟨f - 1,by omega⟩;have a:=iDr s hs g (i+1) aRK aRK;rw[An aRK,fq hc,sb,KM,sb,bz aRK,drop_cons hc,wU];cases hd:ra (s.getD i 0)
   ·rw[mg aRN,mg aRN];rfl
   ·rw[An rfl,a,An rfl];exact zl aRK
  ·rw[mg aRK,aOk aRK];rfl
theorem sDr (s:aE) (hs:s.length<=100000):∀(f i:Nat),s.length<=i+f->i<=s.length->lu s (i:Int)=some ((i+wU (s.drop i):Nat):Int)
 | f,i,h,hi=>by
  rw[lu];by_cases hc:i<s.length
  ·obtain⟨g,rfl⟩:∃g,f=g+1:=⟨f - 1,by omega⟩;have a:=sDr s hs g (i+1) aRK aRK;rw[An aRK,fq hc,sb,D6,sb,bz aRK,drop_cons hc,wU];cases hd:ra (s.getD i 0)
   ·rw[mg aRN,mg aRN];rfl
   ·rw[An rfl,a,An rfl];exact zl aRK
  ·rw[mg aRK,aOk aRK];rfl
theorem Xc (s:aE) (a j:Nat):(s.drop a).getD j 0=s.getD (a+j) 0:=by
 rw[aOp,aOp,aPy]
theorem Gy {s:aE} {a j:Nat} (h:a+j<s.length):hJ (s.drop a) (j:Int)=some (s.getD (a+j) 0):=by
 rw[fq (by rw[aPk];omega),Xc]
theorem add_eq {s:aE} {a z:Nat} {O:List aj} {c:Int} (b:O.length<=4000) (k n:Int) (x:aE) (d:a+z<=100000):
  dR (.mk s (a:Int) O c) k n x (z:Int)=some (.mk s ((a+z:Nat):Int) (O++[.mk k n x (a:Int)]) c):=by
 unfold dR;rw[kK aRU,sb];show some (bP.mk s (bm ((a:Int)+(z:Int))) _ c)=_;rw[lj (x:=(a:Int)+(z:Int)) (n:=a+z) aRK aRK]
theorem SZ {s:aE} {a:Nat} {O:List aj} (k:O.length<=4000) (hs:s.length<=4000):∀(f j:Nat) (l:aE),s.length<=a+j+f->1<=j->l.length<=j->
  ((dJ s l ((a+j:Nat):Int)=some (.inl ())\/dJ s l ((a+j:Nat):Int)=some (.inr ([],-1)))/\dr (.mk s (a:Int) O 0) (s.drop a) l (j:Int)=some (.inl ()))\/
  (∃(q:aE) (b:Nat),a<b/\b<=s.length/\q.length<=400/\dJ s l ((a+j:Nat):Int)=some (.inr (q,(b:Int)))/\dr (.mk s (a:Int) O 0) (s.drop a) l (j:Int)=some (.inr (.mk s (b:Int) (O++[.mk 5 0 q (a:Int)]) 0)))
 | f,j,l,h,h1,w=>by
  have S0:=dJ.eq_1 s l ((a+j:Nat):Int);have d:=dr.eq_1 (.mk s (a:Int) O 0) (s.drop a) l (j:Int);have o:(s.drop a).length=s.length - a:=aPk;by_cases hc:a+j<s.length
  ·obtain⟨g,rfl⟩:∃g,f=g+1:=⟨f - 1,by omega⟩;have one:∀c:UInt8,cQ 1 l ([c]:List UInt8)=some (l++[c]):=λc=>kK aRU;have e:=λc:UInt8=>SZ (a:=a) k hs g (j+1) (l++[c]) aRK aRK aRY;have w1:bm (((a+j:Nat):Int)+1)=((a+(j+1):Nat):Int):=lj aRK aRK;have p:bm ((j:Int)+1)=((j+1:Nat):Int):=lj aRK aRK;have r:bm (((a+(j+1):Nat):Int)+1)=((a+(j+2):Nat):Int):=lj aRK aRK;have t:bm (((j+1:Nat):Int)+1)=((j+2:Nat):Int):=lj aRK aRK;rw[An aRK,fq hc,sb,w1]at S0;rw[An aRK,Gy hc,sb,p]at d;by_cases u:(s.getD (a+j) 0).toNat=39
   ·rw[An aRK]at S0 d;by_cases m:(l.length:Int)>400
    ·rw[An m]at S0 d;exact .inl ⟨.inr S0,d⟩
    ·rw[mg m]at S0 d;rw[add_eq k 5 0 l aRK,sb]at d;exact .inr ⟨l,a+(j+1),by omega,by omega,by omega,S0,d⟩
   ·rw[mg aRK,sb]at S0 d;by_cases v:(s.getD (a+j) 0).toNat=92
    ·rw[An aRK]at S0 d;by_cases n:a+(j+1)<s.length
     ·have i:=λc:UInt8=>SZ (a:=a) k hs g (j+2) (l++[c]) aRK aRK aRY;rw[An aRK,fq n,sb,r]at S0;rw[An aRK,Gy n,sb,t]at d;by_cases k1:(s.getD (a+(j+1)) 0).toNat=39
      ·rw[An aRK,sb,one,sb]at S0 d;rw[S0,d];exact i _
      ·rw[mg aRK,sb]at S0 d;by_cases x:(s.getD (a+(j+1)) 0).toNat=92
       ·rw[An aRK,sb,one,sb]at S0 d;rw[S0,d];exact i _
       ·rw[mg aRK,sb,one,sb]at S0 d;rw[S0,d];exact e _
     ·rw[mg aRK,sb,one,sb]at S0 d;rw[S0,d];exact e _
    ·rw[mg aRK,sb,one,sb]at S0 d;rw[S0,d];exact e _
  ·rw[mg aRK]at S0 d;exact .inl ⟨.inl S0,d⟩
def Gz:List aE:=[[61,61,61],[33,61,61],[60,61,62],[61,61],[33,61],[60,61],[62,61],[61,62],[45,62],[58,58],[38,38],[124,124],[63,63]]
def CC:aE:=[43,45,42,47,37,46,61,33,60,62,40,41,91,93,123,125,44,59,63,58,38]
def Ac:List aE:=[[61,61,61],[33,61,61],[60,61,62],[61,61],[33,61],[60,61],[62,61],[61,62],[45,62],[58,58],[38,38],[124,124],[63,63],[43],[45],[42],[47],[37],[46],[61],[33],[60],[62],[40],[41],[91],[93],[123],[125],[44],[59],[63],[58],[38]]
theorem afn:Ac=Gz++CC.map (λc=>[c]):=rfl
def fm (l:List aE) (r:aE):Option aE:=l.find? λm=>Lib.hasPrefix r m
theorem aGs {s:aE} (hs:s.length<=4000) {a:Nat} (b:a<=s.length):∀(f k:Nat),13<=k+f->k<=13->
  lY s (a:Int) (k:Int)=some (match fm (Gz.drop k) (s.drop a)with | some m=>.inr m | none=>.inl ())
 | f,k,h,hk=>by
  rw[lY];by_cases hc:k<13
  ·obtain⟨g,rfl⟩:∃g,f=g+1:=⟨f - 1,by omega⟩;have c:=aGs hs b g (k+1) aRK aRK;have e:idx ([[61,61,61],[33,61,61],[60,61,62],[61,61],[33,61],[60,61],[62,61],[61,62],[45,62],[58,58],[38,38],[124,124],[63,63]]:List aE) (k:Int)=some (Gz[k]'hc):=dP (l:=Gz) hc
   have hm:Gz[k]'hc≠[]/\(Gz[k]'hc).length<=10:=by
    have:∀m∈Gz,m≠[]/\m.length<=10:=by decide
    exact this _ (aOD hc)
   rw[An aRU,e,sb,DA hm.1 hm.2 b aRK,sb,bz aRK,aOq (l:=Gz) hc,fm,List.find?_cons];show(if Lib.hasPrefix (s.drop a) (Gz[k]'hc)=true then _ else _)=_;cases hp:Lib.hasPrefix (s.drop a) (Gz[k]'hc)
   ·rw[mg aRN,c];rfl
   ·rw[An rfl,sb]
  ·obtain rfl:k=13:=by omega
   rw[mg aRN];rfl
theorem IG {s:aE} {a:Nat} (h:a<s.length) (c:UInt8):Lib.hasPrefix (s.drop a) [c]=(c==s.getD a 0):=by
 rw[drop_cons h];show([c].isPrefixOf (s.getD a 0::s.drop (a+1)))=_;simp [List.isPrefixOf]
theorem aGt {s:aE} {a:Nat} (b:a<s.length):∀(f k:Nat),21<=k+f->k<=21->
  kl s (a:Int) (k:Int)=some (match fm ((CC.drop k).map λc=>[c]) (s.drop a)with | some m=>.inr m | none=>.inl ())
 | f,k,h,hk=>by
  rw[kl];by_cases hc:k<21
  ·obtain⟨g,rfl⟩:∃g,f=g+1:=⟨f - 1,by omega⟩;have d:=aGt b g (k+1) aRK aRK;have e:hJ [43,45,42,47,37,46,61,33,60,62,40,41,91,93,123,125,44,59,63,58,38] (k:Int)=some (CC.getD k 0):=fq (s:=CC) hc
   have e2:vd [43,45,42,47,37,46,61,33,60,62,40,41,91,93,123,125,44,59,63,58,38] (k:Int) ((k+1:Nat):Int)=some [CC.getD k 0]:=by
    show vd CC (k:Int) ((k+1:Nat):Int)=_;rw[vd,An ⟨by omega,by omega,by show((k+1:Nat):Int)<=(21:Nat);omega⟩];rw[show((k+1:Nat):Int).toNat=k+1 from rfl,show((k:Nat):Int).toNat=k from rfl,aQk,drop_cons (s:=CC) hc,show k+1 - k=1 by omega];rfl
   rw[An aRU,fq b,sb,e,sb,bz aRK,e2,sb,drop_cons (s:=CC) hc,aOC,fm,List.find?_cons,IG b];by_cases hp:(s.getD a 0).toNat=(CC.getD k 0).toNat
   ·rw[An aRK,show(CC.getD k 0==s.getD a 0)=true by rw[aOm];exact UInt8.toNat_inj.1 hp.symm]
   ·rw[mg aRK,d,show(CC.getD k 0==s.getD a 0)=false by rw[an];intro q;exact hp (by rw[q])];rfl
  ·obtain rfl:k=21:=by omega
   rw[mg aRN];rfl
theorem aGu {s:aE} (hs:s.length<=4000) {a:Nat} (d:a<s.length):qs s (a:Int)=some ((fm Ac (s.drop a)).getD []):=by
 unfold qs;have b:=aGs hs (a:=a) aRK 13 0 aRK aRK;have e2:=aGt (s:=s) d 21 0 aRK aRK;rw[show((0:Nat):Int)=0 from rfl,aOu]at b e2;rw[b,sb,afn];unfold fm at e2 ⊢;rw[List.find?_append];cases Gz.find? (λm=>Lib.hasPrefix (s.drop a) m)with
 | some m=>rfl
 | none=>
  show(kl s (a:Int) 0>>=_)=some (((CC.map λc=>[c]).find? λm=>Lib.hasPrefix (s.drop a) m).getD []);rw[e2,sb];cases(CC.map λc=>[c]).find? (λm=>Lib.hasPrefix (s.drop a) m)<;>rfl
theorem iMk {s:aE} {a:Nat} {O:List aj} (b:O.length<=4000) (hs:s.length<=4000) (c:a<=s.length):∀(f k:Nat),34<=k+f->k<=34->
  kc (.mk s (a:Int) O 0) (s.drop a) (k:Int)=some (match fm (Ac.drop k) (s.drop a)with | some m=>.inr (.mk s ((a+m.length:Nat):Int) (O++[.mk 6 0 m (a:Int)]) 0) | none=>.inl ())
 | f,k,h,hk=>by
  rw[kc];by_cases hc:k<34
  ·obtain⟨g,rfl⟩:∃g,f=g+1:=⟨f - 1,by omega⟩;have d:=iMk b hs c g (k+1) aRK aRK;have e:idx ([[61,61,61],[33,61,61],[60,61,62],[61,61],[33,61],[60,61],[62,61],[61,62],[45,62],[58,58],[38,38],[124,124],[63,63],[43],[45],[42],[47],[37],[46],[61],[33],[60],[62],[40],[41],[91],[93],[123],[125],[44],[59],[63],[58],[38]]:List aE) (k:Int)=some (Ac[k]'hc):=dP (l:=Ac) hc
   have hm:(Ac[k]'hc).length<=10:=by
    have:∀m∈Ac,m.length<=10:=by decide
    exact this _ (aOD hc)
   rw[An aRU,e,sb,m66,sb,bz aRK,aOq (l:=Ac) hc,fm,List.find?_cons];cases hp:Lib.hasPrefix (s.drop a) (Ac[k]'hc)
   ·rw[mg aRN,d];rfl
   ·rw[An rfl,add_eq b _ _ _ aRK,sb]
  ·obtain rfl:k=34:=by omega
   rw[mg aRN];rfl
theorem aGv {s:aE} {a:Nat} {O:List aj} (b:O.length<=4000) (hs:s.length<=4000) (c:a<=s.length):
  nu (.mk s (a:Int) O 0) (s.drop a)=some (match fm Ac (s.drop a)with | some m=>(.mk s ((a+m.length:Nat):Int) (O++[.mk 6 0 m (a:Int)]) 0) | none=>.mk s (a:Int) O 2):=by
 unfold nu;have e:=iMk b hs c 34 0 aRK aRK;rw[show((0:Nat):Int)=0 from rfl,aOu]at e;rw[e,sb];cases fm Ac (s.drop a)<;>rfl
theorem aiS {s m:aE} (h:fm Ac s=some m):Ac.contains m=true/\1<=m.length/\m.length<=s.length/\m≠[]:=by
 have h1:=List.mem_of_find?_eq_some h;have h2:Lib.hasPrefix s m=true:=List.find?_some (p:=λm=>Lib.hasPrefix s m) h;have a:∀m∈Ac,1<=m.length/\m≠[]:=by decide
 have h4:m <+: s:=aPT.1 h2;exact⟨by simpa using h1,(a m h1).1,h4.length_le,(a m h1).2⟩
set_option maxRecDepth 100000
structure P9 (l:List aj) (a:Nat):Prop where
 len:l.length<=a
 at0:∀t∈l,0<=t.bA
 txt:∀t∈l,t.ak.length<=4000
 nam:∀t∈l,t.ah=3->nmW t.ak=true
 mrk:∀t∈l,t.ah=6->FF.contains t.ak=true
theorem P9.mono {l:List aj} {a b:Nat} (h:P9 l a) (c:a<=b):P9 l b:=⟨by have:=h.len;omega,h.at0,h.txt,h.nam,h.mrk⟩
theorem P9.push {l:List aj} {a b:Nat} {k n:Int} {x:aE} {p:Nat} (h:P9 l a) (d:a<b) (hx:x.length<=4000) (e:k=3->nmW x=true) (f:k=6->FF.contains x=true):P9 (l++[.mk k n x (p:Int)]) b:=by
 refine⟨by have:=h.len;simp only[aOj,At,No];omega,?_,?_,?_,?_⟩<;>intro t c<;>rcases aOx.1 c with c | c<;>try (rw[aPW]at c;subst c)
 ·exact h.at0 t c
 ·exact Int.natCast_nonneg p
 ·exact h.txt t c
 ·exact hx
 ·exact h.nam t c
 ·exact e
 ·exact h.mrk t c
 ·exact f
theorem rB {s:aE} {a:Nat} (h:a<=s.length):oE s (a:Int)=some (s.drop a):=by unfold oE;rw[An ⟨by omega,by omega⟩,aPD]
theorem afo {s:aE} {a:Nat} (h:a<=s.length):sto s (a:Int)=some (s.take a):=by unfold sto;rw[An ⟨by omega,by omega⟩,aPD]
theorem GA {s:aE} {a b:Nat} (h:a<=b) (h2:b<=s.length):vd s (a:Int) (b:Int)=some ((s.drop a).take (b - a)):=by
 unfold vd;rw[An ⟨by omega,by omega,by omega⟩,aPD,aPD,aQk]
theorem Pl {s:aE} {a:Nat} (h:a<s.length):0<CB (s.drop a)↔Xb (s.getD a 0)=true:=by
 rw[drop_cons h,CB];by_cases q:Xb (s.getD a 0)=true
 ·rw[An q];exact⟨λ_=>q,λ_=>Nat.succ_pos _⟩
 ·rw[mg q];exact⟨λq2=>absurd q2 (Nat.lt_irrefl 0),λq2=>absurd q2 q⟩
theorem afp {s:aE} {a:Nat} (h:a<s.length) (hd:ra (s.getD a 0)=true):0<wU (s.drop a):=by
 rw[drop_cons h,wU,An hd];omega
theorem afq {s:aE} {a n:Nat} (h:a<s.length) (hd:Xb (s.getD a 0)=true) (b:0<n):nmW ((s.drop a).take n)=true:=by
 obtain⟨m,rfl⟩:∃m,n=m+1:=⟨n - 1,by omega⟩;rw[drop_cons h,List.take_succ_cons,nmW,ltr];unfold Xb isLet at hd;simp only[aOZ,aPm]at hd ⊢;omega
theorem S7 (s d:aE):m66 s d=some (Lib.hasPrefix s d):=rfl
theorem afr {s:aE} (hs:s.length<=4000) {a:Nat} (e:a<s.length) {l:List aj} (h:P9 l a) (hw:(s.getD a 0).toNat≠32/\(s.getD a 0).toNat≠9/\(s.getD a 0).toNat≠10/\(s.getD a 0).toNat≠13)
  (y:Lib.hasPrefix (s.drop a) [63,62]=false) (z:Lib.hasPrefix (s.drop a) [47,47]=false):
  (∃(t:aj) (b:Nat),a<b/\b<=s.length/\kL s (a:Int)=some (t,(b:Int),0)/\dI (.mk s (a:Int) l 0)=some (.mk s (b:Int) (l++[t]) 0)/\P9 (l++[t]) b)\/
  (∃(t:aj) (k:Int),k≠0/\kL s (a:Int)=some (t,(a:Int),k)/\dI (.mk s (a:Int) l 0)=some (.mk s (a:Int) l k)):=by
 have P:=h.len;have f:l.length<=4000:=by omega
 have hlen:(s.drop a).length=s.length - a:=aPk;have A:oE s (a:Int)=some (s.drop a):=rB aRK;have e2:hJ (s.drop a) 0=some (s.getD a 0):=Gy (j:=0) aRK;have B:=(s.getD a 0).toNat_lt;have c:=dI.eq_1 (.mk s (a:Int) l 0);have S0:=kL.eq_1 s (a:Int);replace c:dI (.mk s (a:Int) l 0)=(oE s (a:Int)>>=_):=c;rw[A,sb,e2,sb,mg aRK,mg aRK,mg aRK,sb,mg aSu,S7,sb,y,mg aRN,S7,sb,z,mg aRN]at c;rw[fq e,sb,sb,sb,sb]at S0;by_cases C:(s.getD a 0).toNat=36
 ·have w1:bm ((a:Int)+1)=((a+1:Nat):Int):=bz aRK;have x:=US (s.drop (a+1));rw[aPk]at x
  have D:oE (s.drop a) 1=some (s.drop (a+1)):=by
   have:=rB (s:=s.drop a) (a:=1) aRK;rw[List.drop_drop]at this;exact this
  rw[An aRK,D,sb,iNl _ (by rw[aPk];omega),sb,sb]at c;rw[An aRK,w1,sNl s aRK aRK,sb,GA aRK aRK,sb,aPn]at S0;generalize CB (s.drop (a+1))=n at*;by_cases E:n=0
  ·subst E;rw[An (by rw[List.take_zero]),sb]at S0;rw[An aRK,sb]at c;exact .inr ⟨_,2,by decide,S0,c⟩
  ·have F:(s.drop (a+1)).take n≠[]:=λq=>by
    have:=congrArg List.length q;rw[aPS,aPk,No]at this;omega
   rw[mg F,sb]at S0;have p:bm (1+(n:Int))=((1+n:Nat):Int):=lj aRK aRK
   have G:vd (s.drop a) 1 ((1+n:Nat):Int)=some ((s.drop (a+1)).take n):=by
    have:=GA (s:=s.drop a) (a:=1) (b:=1+n) aRK aRK;rw[List.drop_drop,aPn]at this;exact this
   rw[mg aRK,sb,p]at c;replace c:_=(vd (s.drop a) 1 ((1+n:Nat):Int)>>=_):=c;rw[G,sb,add_eq f _ _ _ aRK,sb]at c;refine .inl ⟨_,a+1+n,by omega,by omega,S0,?_,h.push aRK (by rw[aPS,aPk];omega) (λq=>absurd q aRL) (λq=>absurd q aRL)⟩;rw[c,show a+(1+n)=a+1+n by omega]
 rw[mg aRK]at c S0;have x:=US (s.drop a);rw[iNl _ aRK,sb]at c;rw[D5,sb]at S0;by_cases hm:Xb (s.getD a 0)=true
 ·have hp:=(Pl e).2 hm;rw[An (show(isLet (s.getD a 0)||decide ((s.getD a 0).toNat=95))=true from hm),sNl s aRK aRK,sb,GA aRK aRK,sb,aPn,sb]at S0;rw[An aRK,sb,sb,afo aRK,sb,add_eq f _ _ _ aRK,sb]at c;exact .inl ⟨_,a+CB (s.drop a),by omega,by omega,S0,c,h.push aRK (by rw[aPS];omega) (λ_=>afq e hm hp) (λq=>absurd q aRL)⟩
 have H:¬0<CB (s.drop a):=λq=>hm ((Pl e).1 q);rw[mg (show ¬(isLet (s.getD a 0)||decide ((s.getD a 0).toNat=95))=true from hm),D6,sb]at S0;rw[mg aRK,KM,sb,sb]at c;by_cases hd:ra (s.getD a 0)=true
 ·have I:=afp e hd;have r:=UT (s.drop a)
  have J:ic (s.drop a) 0=some ((wU (s.drop a):Nat):Int):=by
   have:=iDr (s.drop a) aRK (s.drop a).length 0 aRK aRK;rw[are,aOu]at this;exact this
  rw[An hd,J,sb,afo r,sb,m69,m98]at c;rw[An hd,sDr s aRK s.length a aRK aRK,sb,GA aRK aRK,sb,aPn,aqP,sb]at S0
  have u:(s.drop a).take (wU (s.drop a))=s.getD a 0::(s.drop (a+1)).take (wU (s.drop a) - 1):=by
   obtain⟨m,hm⟩:∃m,wU (s.drop a)=m+1:=⟨wU (s.drop a) - 1,by omega⟩;rw[hm,drop_cons e,List.take_succ_cons];rfl
  have g:48<=(s.getD a 0).toNat/\(s.getD a 0).toNat<=57:=by unfold ra at hd;simpa using hd
  have w:pw ((s.drop a).take (wU (s.drop a))) (-1000000000) 1000000000=Ph (tM ((s.drop a).take (wU (s.drop a)))):=by
   rw[u];exact aiR (λq=>by rw[q]at g;exact absurd g aRL) (λq=>by rw[q]at g;exact absurd g aRL)
  rw[w]at c;generalize tM ((s.drop a).take (wU (s.drop a)))=o at c S0;generalize wU (s.drop a)=d at*;cases o with
  | none=>exact .inr ⟨_,4,by decide,S0,c⟩
  | some v=>
   by_cases hv:v<=1000000000
   ·replace S0:_=((if(v:Int)>1000000000 then _ else _)>>=_):=S0;rw[mg aRK,sb]at S0;have:Ph (some v)=some (v:Int):=An hv;rw[this]at c;replace c:_=(dR (.mk s (a:Int) l 0) 4 (v:Int) [] (d:Int)>>=_):=c;rw[add_eq f _ _ _ aRK,sb]at c;exact .inl ⟨_,a+d,by omega,by omega,S0,c,h.push aRK aRN (λq=>absurd q aRL) (λq=>absurd q aRL)⟩
   ·replace S0:_=((if(v:Int)>1000000000 then _ else _)>>=_):=S0;rw[An aRK,sb]at S0;have:Ph (some v)=none:=mg hv;rw[this]at c;exact .inr ⟨_,4,by decide,S0,c⟩
 rw[mg hd]at c S0;by_cases K:(s.getD a 0).toNat=39
 ·rw[An aRK,qa]at c;rw[An aRK,qd,bz aRK]at S0;rcases SZ (a:=a) f hs s.length 1 [] aRK aRK aRN with⟨i,L⟩ | ⟨q,b,q1,q2,q3,q4,M⟩
  ·replace c:_=((dr (.mk s (a:Int) l 0) (s.drop a) [] ((1:Nat):Int)>>=_)>>=_):=c;rw[L,sb,sb]at c;rcases i with i | i<;>rw[i,sb,sb]at S0<;>dsimp only at S0<;>rw[An aRL,sb]at S0<;>exact .inr ⟨_,3,by decide,S0,c⟩
  ·replace c:_=((dr (.mk s (a:Int) l 0) (s.drop a) [] ((1:Nat):Int)>>=_)>>=_):=c;rw[M,sb,sb]at c;rw[q4,sb,sb]at S0;dsimp only at S0;rw[mg aRK,sb]at S0;exact .inl ⟨_,b,q1,q2,S0,c,h.push aRK aRK (λq=>absurd q aRL) (λq=>absurd q aRL)⟩
 rw[mg aRK]at c S0;rw[sb,aGu hs e,sb]at S0;rw[aGv f hs aRK,sb]at c;cases hf:fm Ac (s.drop a)with
 | none=>
  rw[hf]at c S0;dsimp only at S0;rw[An (show((none:Option aE).getD [])=([]:aE)from rfl)]at S0;exact .inr ⟨_,2,by decide,S0,c⟩
 | some m=>
  obtain⟨N,Q,R,O⟩:=aiS hf;rw[hf]at c S0;replace S0:_=(if m=([]:aE)then _ else _):=S0;rw[mg O]at S0;have p:bm ((a:Int)+(m.length:Int))=((a+m.length:Nat):Int):=lj aRK aRK;replace S0:kL s (a:Int)=some ((.mk 6 0 m (a:Int)),bm ((a:Int)+(m.length:Int)),0):=S0;rw[p]at S0;exact .inl ⟨_,a+m.length,by omega,by omega,S0,c,h.push aRK aRK (λq=>absurd q aRL) (λ_=>N)⟩
theorem my {s:aE} (hs:s.length<=4000) {k:Nat} (hk:k<=s.length) (h2:k<s.length->Lib.occAt s [60,63] k=true):∀(f j:Nat),j+f=k->(∀p,j<=p->p<k->Lib.occAt s [60,63] p=false)->lZ s (j:Int)=some (k:Int)
 | 0,j,e,_=>by
  obtain rfl:j=k:=by omega
  rw[lZ];by_cases hc:j<s.length
  ·rw[An aRK,DA aRN aRN hk aRK,sb,h2 hc,An rfl]
  ·rw[mg aRK]
 | f+1,j,e,h=>by
  rw[lZ,An aRK,DA aRN aRN aRK aRK,sb,h j aRK aRK,mg aRN,bz aRK];exact my hs hk h2 f (j+1) aRK (λp IG a=>h p aRK a)
theorem GB (s p:aE) (a j:Nat):Lib.occAt (s.drop a) p j=Lib.occAt s p (a+j):=by unfold Lib.occAt;rw[List.drop_drop]
theorem afs {s:aE} (hs:s.length<=4000) {a:Nat} (H:a<s.length) {l:List aj} (h:P9 l a):
  ∃(b:Nat) (k:List aj),a<b/\b<=s.length/\P9 k b/\dq (.mk s (a:Int) l 0)=some (.mk s (b:Int) k 0)/\
   ((bQ s l false (a:Int)=bQ s k true (b:Int))\/(b=s.length/\bQ s l false (a:Int)=some (.inl k))):=by
 have I:=h.len;have y:l.length<=4000:=by omega
 have hlen:(s.drop a).length=s.length - a:=aPk
 obtain⟨n,z,g,j,o⟩:∃n:Nat,(if Lib.index (s.drop a) [60,63]<0 then some ((s.drop a).length:Int)else some (Lib.index (s.drop a) [60,63]))=some (n:Int)/\a+n<=s.length/\(a+n<s.length->Lib.occAt s [60,63] (a+n)=true/\a+n+2<=s.length)/\(∀p,a<=p->p<a+n->Lib.occAt s [60,63] p=false):=by
  rcases Lib.index_spec (s.drop a) [60,63]with⟨r,m⟩ | ⟨i,r,m⟩
  ·rw[r,An aRL];refine⟨_,rfl,by omega,λq=>by omega,λp IG A=>?_⟩;have:=m (p - a) aRK;rw[GB,show a+(p - a)=p by omega]at this;exact this
  ·rw[r,mg aRK];have B:=Lib.index_room (s.drop a) [60,63] aRK;simp only[At,No]at B;refine⟨i,rfl,by omega,λ_=>⟨?_,by omega⟩,λp IG A=>?_⟩
   ·have:=m.2.1;rw[GB]at this;exact this
   ·have:=m.2.2 (p - a) aRK;rw[GB,show a+(p - a)=p by omega]at this;exact this
 have C:lZ s (a:Int)=some ((a+n:Nat):Int):=my hs g (λq=>(j q).1) n a rfl o;have e2:m64 (s.drop a) [60,63]=some (Lib.index (s.drop a) [60,63]):=by unfold m64;rw[An aRK]
 have c:=bQ.eq_1 s l false (a:Int);rw[An aRK,mg aRL,C,sb]at c;have d:=dq.eq_1 (.mk s (a:Int) l 0);replace d:dq (.mk s (a:Int) l 0)=(oE s (a:Int)>>=_):=d;rw[rB aRK,sb,e2,sb,z,sb]at d
 obtain⟨e,f,c,d,t⟩:∃e:List aj,P9 e (a+n)/\bQ s l false (a:Int)=(if((a+n:Nat):Int)<(s.length:Int)then
    iL s ((a+n:Nat):Int) [60,63,61]>>=λD=>
    (if D=true then
     cQ 40 e ([(aj.mk 3 0 [101,99,104,111] ((a+n:Nat):Int))]:List aj)>>=λu=>
     bQ s u (decide (((a+n:Nat):Int)<(s.length:Int))) (bm (((a+n:Nat):Int)+3))
    else
     bQ s e (decide (((a+n:Nat):Int)<(s.length:Int))) (bm (((a+n:Nat):Int)+2)))
   else
    bQ s e (decide (((a+n:Nat):Int)<(s.length:Int))) (bm (((a+n:Nat):Int)+2)))/\
   dq (.mk s (a:Int) l 0)=(if((a+n:Nat):Int)=(s.length:Int)then
    some (bP.mk s ((a+n:Nat):Int) e 0)
   else
    oE s ((a+n:Nat):Int)>>=λv=>
    m66 v [60,63,61]>>=λE=>
    (if E=true then
     dR (bP.mk s ((a+n:Nat):Int) e 0) 3 0 [101,99,104,111] ((3:Nat):Int)>>=λw=>
     some w
    else
     some (bP.mk s (bm (((a+n:Nat):Int)+2)) e 0)))/\e.length<=4000:=by
  by_cases t:n=0
  ·subst t;rw[mg aRK,sb]at d c;exact⟨l,h,c,d,y⟩
  ·have f:P9 (l++[.mk 1 0 ((s.drop a).take n) (a:Int)]) (a+n):=h.push aRK (by rw[aPS];omega) (λq=>absurd q aRL) (λq=>absurd q aRL);rw[An aRK,GA aRK aRK,sb,aPn,kK aRU,sb,sb]at c;rw[An aRK,afo aRK,sb,add_eq y _ _ _ aRK,sb]at d;exact⟨_,f,c,d,by have:=f.len;omega⟩
 by_cases hk:a+n<s.length
 ·obtain⟨J,F⟩:=j hk;rw[An aRK,DA aRN aRN aRK aRK,sb,show decide (((a+n:Nat):Int)<(s.length:Int))=true from aPs aRK]at c;rw[mg aRK,rB aRK,sb,S7,sb]at d;replace c:_=(if Lib.hasPrefix (s.drop (a+n)) [60,63,61]=true then _ else _):=c;cases hp:Lib.hasPrefix (s.drop (a+n)) [60,63,61]
  ·rw[hp,mg aRL,lj (n:=a+n+2) aRK aRK]at c d;exact⟨a+n+2,e,by omega,F,f.mono aRK,d,.inl c⟩
  ·have G:a+n+3<=s.length:=by
    have:=(aPT.1 (show[60,63,61].isPrefixOf (s.drop (a+n))=true from hp)).length_le;rw[aPk]at this;simp only[At,No]at this;omega
   rw[hp,An rfl,lj (x:=((a+n:Nat):Int)+3) (n:=a+n+3) aRK aRK,kK aRU,sb]at c;rw[hp,An rfl,add_eq t _ _ _ aRK,sb]at d;exact⟨a+n+3,_,by omega,G,f.push aRK aRN (λ_=>rfl) (λq=>absurd q aRL),d,.inl c⟩
 ·rw[mg aRK,lj (x:=((a+n:Nat):Int)+2) (n:=a+n+2) aRK aRK,bQ.eq_1 s e,mg aRK]at c;rw[An aRK]at d;exact⟨a+n,e,by omega,g,f,d,.inr ⟨by omega,c⟩⟩
theorem UU {s:aE} (hs:s.length<=4000) (l:List aj) (q:Int):∀(f j:Nat),s.length<=j+f->j<=s.length->∃b:Nat,j<=b/\b<=s.length/\ma s true l (j:Int)=some (.inl (l,true,(b:Int)))/\eZ (.mk s q l 0) (j:Int)=some (.mk s (b:Int) l 0)
 | f,j,h,hj=>by
  rw[ma,eZ];dsimp only;by_cases hc:j<s.length
  ·obtain⟨g,rfl⟩:∃g,f=g+1:=⟨f - 1,by omega⟩;rw[An aRK,An aRK,fq hc,sb,sb];by_cases a:(s.getD j 0).toNat=10
   ·rw[An aRK,An aRK,sb];exact⟨j,Of _,hj,rfl,rfl⟩
   ·rw[mg aRK,mg aRK,DA aRN aRN aRK aRK,sb,rB aRK,sb,S7,sb];show ∃b:Nat,_/\_/\(if Lib.hasPrefix (s.drop j) [63,62]=true then _ else _)=_/\_;cases hp:Lib.hasPrefix (s.drop j) [63,62]
    ·rw[mg aRL,mg aRL,sb,bz aRK];obtain⟨b,i,c,d,e⟩:=UU hs l q g (j+1) aRK aRK;exact⟨b,by omega,c,d,e⟩
    ·rw[An rfl,An rfl,sb];exact⟨j,Of _,hj,rfl,rfl⟩
  ·rw[mg aRK,mg aRK,sb];exact⟨j,Of _,hj,rfl,rfl⟩
def aqQ (s:aE) (x:Option ((List aj) ⊕ ((List aj)×Int×Int))) (y:Option (aE×Int×Int×(List aj))):Prop:=∃(p k:Int) (l:List aj),y=some (s,p,k,l)/\((k=0/\x=some (.inl l)/\P9 l s.length)\/(k≠0/\x=some (.inr ([],k,p))))
theorem aft {s:aE} {l:List aj}:gD s s (s.length:Int) 0 l=some (s,(s.length:Int),0,l):=by
 rw[gD,An rfl,mg aRK,sb]
theorem yl {s:aE} {l:List aj} {a:Nat} (b:a<s.length) {x:bP} (h:dI (.mk s (a:Int) l 0)=some x):gD s s (a:Int) 0 l=gD s x.fS x.bA x.ed x.bU:=by
 rw[gD,An rfl,An aRK,sb];show(dI (.mk s (a:Int) l 0)>>=_)=_;rw[h,sb]
theorem aGw {s:aE} (hs:s.length<=4000):∀m a:Nat,a<=s.length->s.length - a=m->∀l:List aj,P9 l a->
  aqQ s (bQ s l true (a:Int)) (gD s s (a:Int) 0 l)/\
  ∃(b:Nat) (d:List aj),dq (.mk s (a:Int) l 0)=some (.mk s (b:Int) d 0)/\aqQ s (bQ s l false (a:Int)) (gD s s (b:Int) 0 d):=by
 intro m;induction m using Nat.strongRecOn with
 | _ m D=>
  intro a R hm l h;have S:=h.len;have E:l.length<=4000:=by omega
  by_cases hc:a<s.length
  ·have e:=λ(b:Nat) (T:a<b) (F:b<=s.length) (d:List aj) (h':P9 d b)=>D (s.length - b) aRK b F rfl d h';constructor
   ·have G:=(s.getD a 0).toNat_lt;by_cases hw:(s.getD a 0).toNat≠32/\(s.getD a 0).toNat≠9/\(s.getD a 0).toNat≠10/\(s.getD a 0).toNat≠13
    ·have eI:=dI.eq_1 (.mk s (a:Int) l 0);replace eI:dI (.mk s (a:Int) l 0)=(oE s (a:Int)>>=_):=eI;rw[rB aRK,sb,show hJ (s.drop a) 0=some (s.getD a 0)from Gy (j:=0) aRK,sb,mg aRK,mg aRK,mg aRK,sb,mg aSu,S7,sb]at eI;have eS:=bQ.eq_1 s l true (a:Int);rw[An aRK,An rfl,DA aRN aRN aRK aRK,sb]at eS;replace eS:_=(if Lib.hasPrefix (s.drop a) [63,62]=true then _ else _):=eS;cases hp:Lib.hasPrefix (s.drop a) [63,62]
     ·rw[hp,mg aRL]at eI eS;rw[S7,sb]at eI;rw[DA aRN aRN aRK aRK,sb]at eS;replace eS:_=(if Lib.hasPrefix (s.drop a) [47,47]=true then _ else _):=eS;cases g:Lib.hasPrefix (s.drop a) [47,47]
      ·rw[g,mg aRL,fq hc,sb,mg aRK,sb,mg aRK,sb,mg aRK,sb,sb,mg aSu]at eS;rcases afr hs hc h hw hp g with⟨t,b,q1,q2,q3,q4,H⟩ | ⟨t,k,q1,q2,q3⟩
       ·rw[q3,sb]at eS;dsimp only at eS;rw[An rfl,kK aRU,sb]at eS;rw[eS,yl hc q4];exact(e b q1 q2 _ H).1
       ·rw[q2,sb]at eS;dsimp only at eS;rw[mg q1]at eS;rw[eS,yl hc q3,gD,mg q1,sb];exact⟨_,_,_,rfl,.inr ⟨q1,rfl⟩⟩
      ·rw[g,An rfl]at eI eS
       have I:(s.getD a 0)=47:=by
        rw[drop_cons hc]at g;have:[47,47].isPrefixOf (s.getD a 0::s.drop (a+1))=true:=g;simp only[List.isPrefixOf,As,aOm]at this;exact this.1.symm
       obtain⟨b,U,J,K,L⟩:=UU hs l (a:Int) s.length (a+1) aRK aRK
       have c1:ma s true l (a:Int)=some (.inl (l,true,(b:Int))):=by
        rw[ma,An aRK,fq hc,sb,mg aRK,DA aRN aRN aRK aRK,sb];show(if Lib.hasPrefix (s.drop a) [63,62]=true then _ else _)=_;rw[hp,mg aRL,bz aRK,K]
       have c2:eZ (.mk s (a:Int) l 0) (a:Int)=some (.mk s (b:Int) l 0):=by
        rw[eZ];dsimp only;rw[An aRK,fq hc,sb,mg aRK,rB aRK,sb,S7,sb,hp,mg aRL,sb,bz aRK,L]
       rw[c1,sb]at eS;replace eI:_=eZ (.mk s (a:Int) l 0) (a:Int):=eI;rw[c2]at eI;rw[yl hc eI];replace eS:_=bQ s l true (b:Int):=eS;rw[eS];exact(e b aRK J _ (h.mono aRK)).1
     ·have h2:a+2<=s.length:=by
       have:=(aPT.1 (show[63,62].isPrefixOf (s.drop a)=true from hp)).length_le;rw[aPk]at this;simp only[At,No]at this;omega
      have w:P9 (l++[.mk 6 0 [59] (a:Int)]) (a+2):=h.push aRK aRN (λq=>absurd q aRL) (λ_=>rfl);have M:dR (.mk s (a:Int) l 0) 6 0 [59] 2=some (.mk s ((a+2:Nat):Int) (l++[.mk 6 0 [59] (a:Int)]) 0):=add_eq (z:=2) E 6 0 [59] aRK;rw[hp,An rfl,M,sb]at eI;dsimp only at eI;rw[hp,An rfl,kK aRU,sb,lj (x:=(a:Int)+2) (n:=a+2) aRK aRK,DA aRN aRN aRK aRK,sb]at eS
      have nx:(if((a+2:Nat):Int)<(s.length:Int)then hJ s ((a+2:Nat):Int)>>=λu=>some ((u.toNat:Int)==10)else some false)=some (Lib.occAt s [10] (a+2)):=by
       by_cases y:a+2<s.length
       ·rw[An aRK,fq y,sb];have:=IG y 10;replace this:Lib.occAt s [10] (a+2)=_:=this;rw[this];congr 1;rw[aPG,aOm,aOm];constructor
        ·intro q;exact UInt8.toNat_inj.1 (show(10:UInt8).toNat=_ by show 10=_;omega)
        ·intro q;rw[<-q];rfl
       ·rw[mg aRK,AY aRN aRU]
      rw[nx,sb]at eI;cases v:Lib.occAt s [10] (a+2)
      ·rw[v,mg aRL]at eI eS;obtain⟨b,d,i,o⟩:=(e (a+2) aRK h2 _ w).2;rw[i,sb]at eI;rw[eS,yl hc eI];exact o
      ·have N:a+2+1<=s.length:=by
        rcases Lib.occAt_room v with q | q
        ·simpa using q
        ·exact absurd q aRN
       rw[v,An rfl,bz aRK]at eI eS;obtain⟨b,d,i,o⟩:=(e (a+2+1) aRK N _ (w.mono aRK)).2;rw[i,sb]at eI;rw[eS,yl hc eI];exact o
    ·-- a blank
     have hx:(s.getD a 0).toNat=32\/(s.getD a 0).toNat=9\/(s.getD a 0).toNat=10\/(s.getD a 0).toNat=13:=by omega
     have A:∀(c:UInt8) (p:aE),c.toNat≠(s.getD a 0).toNat->Lib.hasPrefix (s.drop a) (c::p)=false:=λc p O=>by
      rw[drop_cons hc];show(c::p).isPrefixOf (s.getD a 0::s.drop (a+1))=false;simp only[List.isPrefixOf,Bool.and_eq_false_iff,an];exact .inl (λq=>O (by rw[q]))
     have q1:Lib.occAt s [63,62] a=false:=A 63 [62] (by show 63≠_;omega);have q2:Lib.occAt s [47,47] a=false:=A 47 [47] (by show 47≠_;omega)
     have B:(if((s.getD a 0).toNat:Int)=32 then some true else if((s.getD a 0).toNat:Int)=9 then some true else if((s.getD a 0).toNat:Int)=10 then some true else some (((s.getD a 0).toNat:Int)==13):Option Bool)=some true:=by
      split
      ·rfl
      ·split
       ·rfl
       ·split
        ·rfl
        ·rw[show(((s.getD a 0).toNat:Int)==13)=true by rw[aOm];omega]
     have eI:=dI.eq_1 (.mk s (a:Int) l 0);replace eI:dI (.mk s (a:Int) l 0)=(oE s (a:Int)>>=_):=eI;rw[rB aRK,sb,show hJ (s.drop a) 0=some (s.getD a 0)from Gy (j:=0) aRK,sb,B,sb,An rfl]at eI;dsimp only at eI;rw[bz aRK]at eI;have eS:=bQ.eq_1 s l true (a:Int);rw[An aRK,An rfl,DA aRN aRN aRK aRK,sb,q1,mg aRL,DA aRN aRN aRK aRK,sb,q2,mg aRL,fq hc]at eS;replace eS:_=((if((s.getD a 0).toNat:Int)=32 then some true else if((s.getD a 0).toNat:Int)=9 then some true else if((s.getD a 0).toNat:Int)=10 then some true else some (((s.getD a 0).toNat:Int)==13):Option Bool)>>=_):=eS;rw[B,sb,An rfl,bz aRK]at eS;rw[eS,yl hc eI];exact(e (a+1) aRK aRK _ (h.mono aRK)).1
   ·obtain⟨b,d,i,o,C,P,r⟩:=afs hs hc h;refine⟨b,d,P,?_⟩;rcases r with r | ⟨r,Q⟩
    ·rw[r];exact(e b i o d C).1
    ·subst r;rw[Q,aft];exact⟨_,_,_,rfl,.inl ⟨rfl,rfl,C⟩⟩
  ·obtain rfl:a=s.length:=by omega
   have eS:∀b:Bool,bQ s l b (s.length:Int)=some (.inl l):=λb=>by rw[bQ,mg aRK]
   have fin:aqQ s (some (.inl l)) (gD s s (s.length:Int) 0 l):=by rw[aft];exact⟨_,_,_,rfl,.inl ⟨rfl,rfl,h⟩⟩
   refine⟨by rw[eS];exact fin,s.length,l,?_,by rw[eS];exact fin⟩;have f:=dq.eq_1 (.mk s (s.length:Int) l 0);replace f:dq (.mk s (s.length:Int) l 0)=(oE s (s.length:Int)>>=_):=f;rw[rB aRK,sb,List.drop_length,show m64 [] [60,63]=some (-1)from rfl,sb,An aRL,sb,mg aRN,sb]at f;dsimp only at f;rw[An rfl]at f;exact f
theorem acZ (s:aE):∃(l:List aj) (k p:Int),AS s=some (l,k,p)/\AR s=some (l,k,p)/\(k=0->p=0/\∀e:Int,0<=e->Tk l e):=by
 unfold AS AR;rw[sb];by_cases h4:(s.length:Int)>4000
 ·rw[An h4,An h4,sb];exact⟨_,_,_,rfl,rfl,λq=>absurd q aRL⟩
 ·rw[mg h4,mg h4,sb,sb];obtain⟨b,f,d,p,k,l,g,c⟩:=(aGw (s:=s) aRK s.length 0 aRK aRK [] ⟨by simp,by simp,by simp,by simp,by simp⟩).2;replace d:dq (.mk s 0 [] 0)=some (.mk s (b:Int) f 0):=d;rw[d,sb];show ∃(l:List aj) (k p:Int),_/\(gD s s (b:Int) 0 f>>=_)=_/\_;rw[g,sb];rcases c with⟨rfl,c,a⟩ | ⟨c,a⟩
  ·replace c:bQ s [] false 0=_:=c;rw[c,sb];dsimp only;rw[An rfl];exact⟨_,_,_,rfl,rfl,λ_=>⟨rfl,λe he=>⟨by have:=a.len;omega,he,a.at0,a.txt,a.nam,a.mrk⟩⟩⟩
  ·replace a:bQ s [] false 0=_:=a;rw[a,sb];dsimp only;rw[mg c];exact⟨_,_,_,rfl,rfl,λq=>absurd q c⟩
def wl (l:List ae):Nat:=l.length+Ld l
theorem aiT (l m:List ae):Ld (l++m)=Ld l+Ld m:=by
 induction l with
 | nil=>simp [Ld]
 | cons x r a=>simp only[aPu,Ld];omega
theorem iD (l m:List ae):wl (l++m)=wl l+wl m:=by unfold wl;rw[aiT,aOj];omega
theorem c6 (x:ae):wl [x]=1+wt x:=rfl
theorem jm (k m:Int) (t:aE) (l:List ae):wt (.mk k m t l)=t.length+wl l:=by rw[xU];unfold wl;simp only[ae.nz,ae.kg];omega
theorem gV:wl []=0:=rfl
theorem jR (x:ae) (l:List ae):wl (x::l)=1+wt x+wl l:=by unfold wl;simp only[At,Ld];omega
theorem aqR (l:List ae):l.length<=wl l:=by unfold wl;omega
section
variable {ts:List aj}{e e':Int}
theorem kq {i:Nat}:((pS ts e (.g i)).aw<0)=True:=by
 show((-1:Int)<0)=True;exact eq_true aRL
theorem qQ (H:Tk ts e) {i:Nat}:((pS ts e (.b i)).aw<0)=False:=by
 have:=aoZ H i;exact eq_false (show ¬pl ts e i<0 by omega)
theorem jt {i:Nat}:((qS ts e' (.g i)).aw=true)=False:=eq_false (show ¬false=true by decide)
theorem jr {i:Nat}:((qS ts e' (.b i)).aw=true)=True:=eq_true rfl
theorem R5 {i:Nat}:((qS ts e' (.d i)).aw=true)=False:=eq_false (show ¬false=true by decide)
structure Rs (ts:List aj) (v:Bool) (D:Nat) (s s':JS) (n m:ae):Prop where
 ok:s'.Ok ts
 le:s.pos<=s'.pos
 good:∀i',s'=.g i'->∃i,s=.g i/\i<i'/\n=m/\(wt n:Int)+8192+16384*(i:Int)<=16384*(i':Int)/\AA n=uc n/\(v=true->i'=i+1->(n.ah==4)=(kd ts i==2))
 dm:∀j,s'=.d j->(∃i,s=.g i)/\s.pos<j/\1<=D/\(D=1->AA m=false)
structure RL (ts:List aj) (a:List ae) (s s':JS) (l m:List ae):Prop where
 ok:s'.Ok ts
 nd:s'.nd=true
 le:s.pos<=s'.pos
 len:l.length+s.pos<=a.length+s'.pos+1
 lem:m.length+s.pos<=s'.pos+1
 good:∀i',s'=.g i'->∃i,s=.g i/\i+1<i'/\l=a++m/\(wl m:Int)+16384*(i:Int)+16384<=16384*(i':Int)
theorem okp {s:JS} (h:s.Ok ts):s.pos<=ts.length:=by
 cases s with
 | g i=>exact h
 | b i=>exact h
 | d i=>exact aOT h.1
theorem gz (s:JS) (w:aE):s.pos<=(wS ts s w).pos:=by
 cases s with
 | g i=>
  rw[GC];cases tw ts i w with
  | true=>exact aPj i
  | false=>exact Of i
 | b i=>exact Of i
 | d i=>exact Of i
theorem mQ (s:JS) (k:Int):s.pos<=(nS ts s k).pos:=by
 cases s with
 | g i=>
  rw[Pm];cases yK ts k i with
  | true=>exact aPj i
  | false=>exact Of i
 | b i=>exact Of i
 | d i=>exact Of i
theorem fG {s:JS} {w:aE} {k:Nat} (h:wS ts s w=.g k):∃i,s=.g i/\k=i+1/\tw ts i w=true:=by
 cases s with
 | g i=>
  rw[GC]at h;cases a:tw ts i w with
  | true=>rw[a]at h;cases h;exact⟨i,rfl,rfl,a⟩
  | false=>rw[a]at h;cases h
 | b i=>cases h
 | d i=>cases h
theorem mi {s:JS} {c:Int} {k:Nat} (h:nS ts s c=.g k):∃i,s=.g i/\k=i+1/\yK ts c i=true:=by
 cases s with
 | g i=>
  rw[Pm]at h;cases a:yK ts c i with
  | true=>rw[a]at h;cases h;exact⟨i,rfl,rfl,a⟩
  | false=>rw[a]at h;cases h
 | b i=>cases h
 | d i=>cases h
theorem tj (s:JS):(P6 s).pos=s.pos:=by cases s<;>rfl
theorem GD (s:JS):(P6 s).nd=true:=by cases s<;>rfl
theorem Cr {s:JS} (h:s.Ok ts):(P6 s).Ok ts:=by
 cases s with
 | g i=>exact h
 | b i=>exact h
 | d i=>exact aOT h.1
theorem Pn {s:JS} {k:Nat} (h:P6 s=.g k):False:=by cases s<;>cases h
theorem akF {s:JS}:∃j,P6 s=.b j:=by cases s<;>exact⟨_,rfl⟩
theorem GF (s:JS):((qS ts e' (P6 s)).aw=true)=True:=by
 obtain⟨j,h⟩:=@akF s;rw[h,jr]
theorem Bc {s:JS} (hd:s.nd=true):(∃i,s=.g i)\/∃j,s=.b j:=by
 cases s with
 | g i=>exact .inl ⟨i,rfl⟩
 | b j=>exact .inr ⟨j,rfl⟩
 | d j=>cases hd
def S5 (x:Option (((List aj)×Int×Int×Int×(List ae)) ⊕ ((List ae)×aH))) (l:List ae) (p:aH):Prop:=x=some (.inr (l,p))\/x=some (.inl (p.fT,p.fI,p.ax,p.aw,l))
def I5 (x:Option (((List aj)×Int×Int×Bool×(List ae)) ⊕ ((List ae)×ao))) (l:List ae) (p:ao):Prop:=x=some (.inr (l,p))\/x=some (.inl (p.ar,p.bA,p.ax,p.aw,l))
theorem S5.run {x:Option (((List aj)×Int×Int×Int×(List ae)) ⊕ ((List ae)×aH))} {l:List ae} {p:aH} (h:S5 x l p):(x>>=λo=>match o with
  | .inr r=>some r
  | .inl (a,b,c,d,my)=>some (my,(aH.mk a b c d)))=some (l,p):=by
 rcases h with h | h<;>rw[h]<;>rfl
theorem I5.run {x:Option (((List aj)×Int×Int×Bool×(List ae)) ⊕ ((List ae)×ao))} {l:List ae} {p:ao} (h:I5 x l p):(x>>=λo=>match o with
  | .inr r=>some r
  | .inl (a,b,c,d,my)=>some (my,(ao.mk a b c d)))=some (l,p):=by
 rcases h with h | h<;>rw[h]<;>rfl
theorem fN {l:List ae} (x:ae) (h:l.length<=20000):cQ 56 l [x]=some (l++[x]):=kK aRU
theorem GG (H:Tk ts e) (k:Int):∀(N:Nat) (i:Nat) (l m:List ae),ts.length - i<N->i<=ts.length->l.length<=10000->m.length<=10000->l.length+ts.length<=10000+i->m.length+ts.length<=10000+i->
  ∃s' x,S5 (dK k (pS ts e (.g i)).fT (pS ts e (.g i)).fI (pS ts e (.g i)).ax (pS ts e (.g i)).aw l) (l++x) (pS ts e s')/\
   I5 (cn k (qS ts e' (.g i)).ar (qS ts e' (.g i)).bA (qS ts e' (.g i)).ax (qS ts e' (.g i)).aw m) (m++x) (qS ts e' s')/\
   s'.Ok ts/\s'.nd=true/\i<=s'.pos/\x.length+i<=s'.pos+1/\(∀o,s'=.g o->i<o/\(wl x:Int)+16384*(i:Int)<=16384*(o:Int))
 | 0,i,l,m,h,_,_,_,_,_=>by omega
 | N+1,i,l,m,M,hi,O,hm,P,D=>by
  have Q:=H.len;have s:(JS.g i).Ok ts:=hi
  obtain⟨a,num,v,w,IG,y,E,e2⟩:∃(a:JS) (num:Int),a.Ok ts/\a.nd=true/\i<=a.pos/\(∃b,a=.g b/\i<=b)/\
    (aD (pS ts e (.g i)) [38]>>=λ(F,j)=>(if F=true then some (j.fT,j.fI,j.ax,j.aw,(1:Int))else some (j.fT,j.fI,j.ax,j.aw,0)))=some ((pS ts e a).fT,(pS ts e a).fI,(pS ts e a).ax,(pS ts e a).aw,num)/\
    (av (qS ts e' (.g i)) [38]>>=λ(z,n)=>(if z=true then some (n.ar,n.bA,n.ax,n.aw,(1:Int))else some (n.ar,n.bA,n.ax,n.aw,0)))=some ((qS ts e' a).ar,(qS ts e' a).bA,(qS ts e' a).ax,(qS ts e' a).aw,num):=by
   rcases Lb (ts:=ts) (.g i) [38]with h | ⟨b,h1,h⟩
   ·exact⟨.g i,0,hi,rfl,Of _,⟨i,rfl,Of _⟩,by rw[ay H s h];rfl,by rw[au H s h];rfl⟩
   ·cases h1;exact⟨.g (i+1),1,ca h,rfl,aPj _,⟨i+1,rfl,aPj _⟩,by rw[cy H h];rfl,by rw[bH H h];rfl⟩
  obtain⟨b,rfl,R⟩:=y;have p:(nS ts (.g b) 2).Ok ts:=sd v aRL;have G:=@uD ts (.g b) 2;have S:b<=(nS ts (.g b) 2).pos:=mQ (.g b) 2;have hx:=js H (.g b) 2;generalize d:nS ts (.g b) 2=q at*;generalize u:nT ts (.g b) 2=t at*
  have eS:dK k (pS ts e (.g i)).fT (pS ts e (.g i)).fI (pS ts e (.g i)).ax (pS ts e (.g i)).aw l=
    (aD (pS ts e q) [44]>>=λ(r,f)=>(if r=true then dK k f.fT f.fI f.ax f.aw (l++[.mk k num t []])else aQ f [41]>>=λI=>some (.inr (l++[.mk k num t []],I)))):=by
   rw[dK];simp only[kq,aOw,jo,E,sb,pE H _ v 2,u,d];rw[fN _ aRK,sb]
  have eI:cn k (qS ts e' (.g i)).ar (qS ts e' (.g i)).bA (qS ts e' (.g i)).ax (qS ts e' (.g i)).aw m=
    (av (qS ts e' q) [41]>>=λ(A,B)=>(if A=true then some (.inr (m++[.mk k num t []],B))else aO B [44]>>=λr=>cn k r.ar r.bA r.ax r.aw (m++[.mk k num t []]))):=by
   rw[cn];simp only[jt,aOn,dD,e2,sb,oV H _ v w 2 (.inl rfl),u,d];rw[fN _ aRK,sb]
  rw[eS,eI];have J:wl [ae.mk k num t []]<=4001:=by rw[c6,jm,gV];omega
  have C:∀c,q=.g c->b<c:=λc h=>by
   rw[<-d]at h;obtain⟨i0,h1,h2,_⟩:=mi h;cases h1;omega
  rcases Lb (ts:=ts) q [44]with h | ⟨c,rfl,h⟩
  ·rw[ay H p h,sb];simp only[aOi,aOn];rw[eh H _ p [41],sb];rcases Lb (ts:=ts) q [41]with h2 | ⟨c,rfl,h2⟩
   ·rw[au H p h2,sb];simp only[aOi,aOn];rw[fv H _ p [44],sb,kC h,kC h2];refine⟨P6 q,[.mk k num t []],.inl rfl,.inr ?_,Cr p,GD _,by rw[tj];omega,?_,λo h=>(Pn h).elim⟩
    ·rw[cn];simp only[GF,aOw]
    ·rw[tj];simp only[At,No];omega
   ·have:=C c rfl;simp only[bH H h2,sb,aOw,GC,h2,aPY];refine⟨.g (c+1),[.mk k num t []],.inl rfl,.inl rfl,ca h2,rfl,by show i<=c+1;omega,?_,λo h=>?_⟩
    ·simp only[At,No];show 0+1+i<=c+1+1;omega
    ·cases h;omega
  ·have:=C c rfl;have T:=ca h;simp only[cy H h,au H p (show tS ts (.g c) [41]=false from az h aRL),sb,aOw,aOi,aOn,fv H _ p [44],GC,h,aPY];obtain⟨s',x,h1,h2,K,h4,U,V,L⟩:=GG H k N (c+1) (l++[.mk k num t []]) (m++[.mk k num t []]) aRK aRK aRY aRY aRY aRY;rw[aOQ]at h1 h2;refine⟨s',_,h1,h2,K,h4,by omega,?_,λo h=>?_⟩
   ·simp only[aOj,At,No];omega
   ·obtain⟨q1,q2⟩:=L o h;rw[iD];omega
theorem Ct (H:Tk ts e) (k:Int) (hk:k=24\/k=25) (a:List ae) (B:a.length<=5000) (s:JS) (hs:s.Ok ts) (hd:s.nd=true) (hu:k=25->∀i,s=.g i->tw ts i [40]=true->tw ts (i+1) [41]=false):
  ∃s' l m,fh (pS ts e s) k a=some (l,pS ts e s')/\gr (qS ts e' s) k=some (m,qS ts e' s')/\RL ts a s s' l m:=by
 have C:=H.len;have d:=kA hs [40];have IG:=gz (ts:=ts) s [40];have p:=nB (ts:=ts) s [40];unfold fh gr;rw[eh H s hs [40],sb,fv H s hs [40],sb]
 have go:∀c:JS,c=wS ts s [40]->tS ts c [41]=false->∃s' l m,
   ((dK k (pS ts e c).fT (pS ts e c).fI (pS ts e c).ax (pS ts e c).aw a)>>=λq=>match q with
    | .inr r=>some r
    | .inl (t,u,v,w,my)=>some (my,(aH.mk t u v w)))=some (l,pS ts e s')/\
   ((cn k (qS ts e' c).ar (qS ts e' c).bA (qS ts e' c).ax (qS ts e' c).aw [])>>=λq=>match q with
    | .inr r=>some r
    | .inl (t,u,v,w,my)=>some (my,(ao.mk t u v w)))=some (m,qS ts e' s')/\RL ts a s s' l m:=by
  intro c h1 hf;subst h1;rcases Bc p with⟨i,hi⟩ | ⟨j,hj⟩
  ·obtain⟨i0,h0,f,n⟩:=fG hi;subst h0;subst f;rw[hi]at d ⊢;have d:i0+1<=ts.length:=d;obtain⟨s',x,h1,h2,y,h4,D,E,z⟩:=GG (e':=e') H k _ (i0+1) a [] (aOr _) d aRK aRN aRK aRT;refine⟨s',_,_,h1.run,h2.run,y,h4,by show i0<=_;omega,?_,?_,λo A=>⟨i0,rfl,?_,rfl,?_⟩⟩
   ·simp only[aOj];show _+i0<=_;omega
   ·simp only[aOB];show _+i0<=_;omega
   ·have:=(z o A).1;omega
   ·have:=(z o A).2;simp only[aOB];omega
  ·rw[hj]at d IG ⊢;refine⟨.b j,a,[],?_,?_,d,rfl,IG,?_,?_,λo h=>by cases h⟩
   ·rw[dK];simp only[qQ H,aOn,sb,jo]
   ·rw[cn];simp only[jr,aOw,sb,dD]
   ·have:s.pos<=j:=IG;show a.length+s.pos<=a.length+j+1;omega
   ·have:s.pos<=j:=IG;show 0+s.pos<=j+1;omega
 rcases Lb (ts:=ts) (wS ts s [40]) [41]with h | ⟨i,hi,h⟩
 ·obtain⟨s',l,m,h1,h2,y⟩:=go _ rfl h;refine⟨s',l,m,?_,?_,y⟩
  ·rw[<-h1];split
   ·rw[ay H d h,sb];rfl
   ·rfl
  ·rw[<-h2,au H d h,sb];rfl
 ·obtain⟨i0,h0,f,n⟩:=fG hi;subst h0;subst f;rcases hk with rfl | rfl
  ·rw[An rfl,hi];simp only[cy H h,bH H h,sb,aOw];refine⟨.g (i0+1+1),a,[],rfl,rfl,ca h,rfl,by show i0<=i0+1+1;omega,?_,?_,λo h=>?_⟩
   ·show a.length+i0<=a.length+(i0+1+1)+1;omega
   ·show 0+i0<=i0+1+1+1;omega
   ·cases h;exact⟨i0,rfl,by omega,by simp,by rw[gV];omega⟩
  ·have:=hu rfl i0 rfl n;rw[this]at h;cases h
end
set_option maxRecDepth 100000
theorem afu {n:ae} {i:Nat} (h:i<n.af.length):wt n.af[i]<wt n:=by
 have:=LH _ _ (aOD h);have:=xU n;omega
theorem Uk:∀(N:Nat) (n:ae),wt n<N->N<=1099511627776->lS n=some (n,n)
 | 0,n,h,_=>by omega
 | N+1,n,h,d=>by
  have hk:n.af.length<=wt n:=by have:=xU n;omega
  have go:∀(f i:Nat),n.af.length<=i+f->i<=n.af.length->iX n n.af [] (n.af.take i) (i:Int)=some (n.af,[],n.af):=by
   intro f;induction f with
   | zero=>
    intro i h1 h2;obtain rfl:i=n.af.length:=by omega
    rw[iX,mg aRK,List.take_length]
   | succ f b=>
    intro i h1 h2;rw[iX];by_cases hc:i<n.af.length
    ·have hx:=Uk N n.af[i] (by have:=afu hc;omega) aRK;rw[An aRK,dP hc,sb,hx,sb];dsimp only;rw[kK (by simp only[aPS,At,No];omega),sb,bz aRK]
     have c:n.af.set ((i:Int).toNat) (ae.mk n.af[i].ah n.af[i].aF n.af[i].ak n.af[i].af)=n.af:=by
      rw[Le,aPD,List.set_getElem_self]
     have e2:n.af.take i++[n.af[i]]=n.af.take (i+1):=(List.take_succ_eq_append_getElem hc).symm;rw[c,e2];exact b (i+1) aRK aRK
    ·obtain rfl:i=n.af.length:=by omega
     rw[mg aRK,List.take_length]
  have a:=go n.af.length 0 aRK aRK;rw[List.take_zero]at a;replace a:iX n n.af [] [] 0=some (n.af,[],n.af):=a;rw[lS,a,sb];dsimp only;rw[Le]
theorem akI:∀(N:Nat) (n:ae),wt n<N->N<=1099511627776->nM n n=some true
 | 0,n,h,_=>by omega
 | N+1,n,h,c=>by
  have hk:n.af.length<=wt n:=by have:=xU n;omega
  have go:∀(f i:Nat),n.af.length<=i+f->iZ n.af n.af (i:Int)=some (.inl ()):=by
   intro f;induction f with
   | zero=>intro i h1;rw[iZ,mg aRK]
   | succ f b=>
    intro i h1;rw[iZ];by_cases hc:i<n.af.length
    ·rw[An aRK,dP hc,sb,sb,akI N n.af[i] (by have:=afu hc;omega) aRK,sb,An rfl,bz aRK];exact b (i+1) aRK
    ·rw[mg aRK]
  have a:=go n.af.length 0 aRK;replace a:iZ n.af n.af 0=some (.inl ()):=a;rw[nM,An rfl,An rfl,An rfl,xg,An rfl,a,sb,sb,An rfl]
theorem alj:∀(f:Nat) (y:Int) (s:aE),0<=y->y<=9223372036854775807->y<10 ^ f->s.length+f<=1000->∃r,jy y s=some r/\r.length<=s.length+f
 | 0,y,s,h0,hm,h1,h2=>by
  rw[jy,mg aRK];exact⟨s,rfl,by omega⟩
 | f+1,y,s,h0,hm,h1,h2=>by
  rw[jy];by_cases h:y>0
  ·have a:y.tdiv 10=y / 10:=Int.tdiv_eq_ediv_of_nonneg h0;rw[Int.pow_succ]at h1;have b:bm (y.tdiv 10)=y / 10:=by rw[a];exact w64 aRK aRK
   have e:yz ([UInt8.ofNat (IntKind.u8.wrap (bm (48+(y.tmod 10)))).toNat]:List UInt8) s=some ([UInt8.ofNat (IntKind.u8.wrap (bm (48+(y.tmod 10)))).toNat]++s):=An aRT;rw[An h,e,sb,b];obtain⟨r,e2,h4⟩:=alj f (y / 10) ([UInt8.ofNat (IntKind.u8.wrap (bm (48+(y.tmod 10)))).toNat]++s) aRK aRK aRK aRT;exact⟨r,e2,by simp at h4;omega⟩
  ·rw[mg h];exact⟨s,rfl,by omega⟩
theorem afv (k:Int) (h:k<=9223372036854775807):∃s,jK k=some s:=by
 unfold jK;by_cases hk:k<=0
 ·rw[An hk];exact⟨_,rfl⟩
 ·rw[mg hk];obtain⟨r,e,a⟩:=alj 19 k [] aRK h aRK aRN;rw[e,sb];have:yz [109] r=some ([109]++r):=An (by simp at a ⊢;omega);rw[this];exact⟨_,rfl⟩
theorem JI:∀(N:Nat) (l:List ae),wl l<N->∀k:Nat,k+3*wl l<=4611686018427387904->∃(a:Nat) (e:List ae),iI l (k:Int)=some ((a:Int),e)/\k<=a/\a<=k+3*wl l/\gN e (k:Int)=some (a:Int)
 | 0,l,h=>by omega
 | N+1,l,h=>by
  intro k hk;have hlen:=aqR l
  have go:∀(f i k:Nat) (D:List ae),l.length=i+f->D.length=i->k+3*wl (l.drop i)<=4611686018427387904->∃(a:Nat) (E:List ae),E.length=f/\gH l (D++l.drop i) (k:Int) (i:Int)=some ((a:Int),D++E)/\k<=a/\a<=k+3*wl (l.drop i)/\gI (D++E) (k:Int) (i:Int)=some (.inl (a:Int)):=by
   intro f;induction f with
   | zero=>
    intro i k D h1 h2 p;refine⟨k,[],rfl,?_,Of _,by omega,?_⟩
    ·rw[gH,mg aRK,aOk aRK]
    ·rw[gI,mg (by rw[aOW];omega)]
   | succ f r=>
    intro i k D h1 h2 p;have hc:i<l.length:=by omega
    have hd:=aOq hc;have s:wl (l.drop i)=1+wt l[i]+wl (l.drop (i+1)):=by rw[hd,jR]
    have hx:wl l[i].af<=wt l[i]:=by have:=jm l[i].ah l[i].aF l[i].ak l[i].af;rw[Le]at this;omega
    have x:wl (l.drop i)<=wl l:=by
     have:=iD (l.take i) (l.drop i);rw[List.take_append_drop]at this;omega
    obtain⟨t,g⟩:=afv (((k+2:Nat):Int)) aRK;have w1:bm ((k:Int)+1)=((k+1:Nat):Int):=bz aRK;have j:bm (((k+1:Nat):Int)+1)=((k+2:Nat):Int):=bz aRK;have m:bm (((k+2:Nat):Int)+1)=((k+3:Nat):Int):=bz aRK;obtain⟨u,q,v,e2,y,w⟩:=JI N l[i].af aRK (k+3) aRK;obtain⟨a,E,n,b,o,d,c⟩:=r (i+1) u (D++[ae.mk (k:Int) ((k+1:Nat):Int) t q]) aRK (by simp [h2]) aRK
    have en:∀(z:ae) (R:List ae),idx (D++z::R) (i:Int)=some z:=λz R=>by
     rw[dP (by simp only[aOj,At];omega),aPM aRK];simp [h2]
    have es:(D++l[i]::l.drop (i+1)).set ((i:Int).toNat) (ae.mk (k:Int) ((k+1:Nat):Int) t q)=(D++[ae.mk (k:Int) ((k+1:Nat):Int) t q])++l.drop (i+1):=by
     rw[aPD,List.set_append_right _ _ aRK,h2,aPz,aPK,aOQ];rfl
    refine⟨a,ae.mk (k:Int) ((k+1:Nat):Int) t q::E,by simp [n],?_,by omega,by omega,?_⟩
    ·rw[gH,An aRK,hd,en,sb,w1,j,g,sb,m,v,sb];dsimp only;rw[es,bz aRK,b,aOQ];rfl
    ·rw[gI,An (by simp only[aOj,At];omega),en,sb,ae.qo,An rfl,sb,ae.rq,w1,An rfl,sb,j,g,sb,ae.nz,An rfl,sb,m,ae.kg,w,sb,mg aRK,bz aRK];rw[aOQ]at c;exact c
  obtain⟨a,E,n,b,o,d,c⟩:=go l.length 0 k [] aRK rfl (by rw[aOu];omega);rw[aOu]at b d;refine⟨a,E,?_,o,d,?_⟩
  ·replace b:gH l l (k:Int) 0=some ((a:Int),E):=b;rw[iI,b,sb]
  ·replace c:gI E (k:Int) 0=some (.inl (a:Int)):=c;rw[gN,c,sb]
theorem aBo (n:ae) (h:wt n<=1099511627776):∃(k:Nat) (m:ae),oN n 1=some ((k:Int),m)/\oO (ae.mk n.ah n.aF n.ak m.af) 1=some (k:Int):=by
 have hx:wl n.af<=wt n:=by have:=jm n.ah n.aF n.ak n.af;rw[Le]at this;omega
 obtain⟨k,l,a,e2,c,b⟩:=JI (wl n.af+1) n.af aRK 1 aRK;replace a:iI n.af 1=some ((k:Int),l):=a;replace b:gN l 1=some (k:Int):=b;refine⟨k,ae.mk n.ah n.aF n.ak l,?_,?_⟩
 ·rw[oN,a,sb]
 ·unfold oO;show(gN l 1>>=_)=_;rw[b,sb,mg aRK]
def C1 (ts:List aj) (e e':Int) (v:Bool) (D:Nat) (s:JS) (fs:aH->Option (ae×aH)) (a:ao->Option (ae×ao)):Prop:=
 ∃s' n m,fs (pS ts e s)=some (n,pS ts e s')/\a (qS ts e' s)=some (m,qS ts e' s')/\Rs ts v D s s' n m
def aGy (a:Nat) (q:ao):Option (ae×ao):=match a with
 | 4=>fD q
 | 5=>dW q
 | n=>bs q n
structure PC (ts:List aj) (e e':Int) (s:JS):Prop where
 aOd:C1 ts e e' true 0 s aP aL
 chain:∀u:Bool,C1 ts e e' true 1 s (λp=>gP p u) (λq=>cc q (!u))
 un:C1 ts e e' true 1 s gf cM
 bin:∀lv:Nat,4<=lv->lv<=11->C1 ts e e' true 1 s (λp=>cH p lv) (aGy lv)
 aMm:C1 ts e e' true 1 s fC cg
 cond:C1 ts e e' true 1 s jO dL
 expr:C1 ts e e' false 2 s bB bc
 list:C1 ts e e' false 0 s jN gX
 args:∀a:List ae,a.length<=100->∃s' l m,eG (pS ts e s) a=some (l,pS ts e s')/\dx (qS ts e' s)=some (m,qS ts e' s')/\RL ts a s s' l m
 block:C1 ts e e' false 0 s cb bx
 stmt:C1 ts e e' false 0 s bf aV
section
variable {ts:List aj}{e e':Int}
theorem Rs.bad {v:Bool} {D:Nat} {j:Nat} {n m:ae} (hj:j<=ts.length):Rs ts v D (.b j) (.b j) n m:=⟨hj,Of _,λi h=>aSg,λi h=>aSg⟩
theorem C1.bad {v:Bool} {D:Nat} {j:Nat} {fs:aH->Option (ae×aH)} {a:ao->Option (ae×ao)} (hj:j<=ts.length) (n m:ae) (h1:fs (pS ts e (.b j))=some (n,pS ts e (.b j))) (h2:a (qS ts e' (.b j))=some (m,qS ts e' (.b j))):C1 ts e e' v D (.b j) fs a:=
 ⟨_,n,m,h1,h2,Rs.bad hj⟩
section
variable {j:Nat}(H:Tk ts e)(hj:(JS.b j).Ok ts)
include H hj
theorem afw:∃n,aP (pS ts e (.b j))=some (n,pS ts e (.b j)):=by
 rw[aP,An (show(pS ts e (.b j)).fI>=((pS ts e (.b j)).fT.length:Int)from Int.le_refl _),tl H _ hj,sb];exact aRm
theorem afx:∃n,aL (qS ts e' (.b j))=some (n,qS ts e' (.b j)):=by
 rw[aL,bV H _ hj,sb];exact aRm
theorem UW (u:Bool):∃n,gP (pS ts e (.b j)) u=some (n,pS ts e (.b j)):=by
 obtain⟨n,h⟩:=afw H hj;rw[gP,h,sb];dsimp only;rw[bb];simp only[qQ H,aOn,sb,jo];exact aRm
theorem UX (u:Bool):∃n,cc (qS ts e' (.b j)) u=some (n,qS ts e' (.b j)):=by
 obtain⟨n,h⟩:=afx (e':=e') H hj;rw[cc,h,sb];dsimp only;rw[aJ];simp only[jr,aOw,sb,dD];exact aRm
theorem aGz:∃n,gf (pS ts e (.b j))=some (n,pS ts e (.b j)):=by
 obtain⟨n,h⟩:=UW H hj true;rw[gf];simp only[ay H hj (w:=[33]) rfl,ay H hj (w:=[45]) rfl,sb,aOi,aOn];rw[oQ,h];exact aRm
theorem aGA:∃n,cM (qS ts e' (.b j))=some (n,qS ts e' (.b j)):=by
 obtain⟨n,h⟩:=UX (e':=e') H hj false;rw[cM];simp only[au (e':=e') H hj (w:=[33]) rfl,au (e':=e') H hj (w:=[45]) rfl,sb,aOi,aOn];rw[h];exact aRm
theorem afy:∀k a:Nat,a+k=11->∃n,cH (pS ts e (.b j)) a=some (n,pS ts e (.b j))
 | 0,a,h=>by
  obtain rfl:a=11:=h;obtain⟨n,h⟩:=aGz H hj;rw[cH,An (show((11:Nat):Int)=11 from rfl),h];exact aRm
 | k+1,a,h=>by
  obtain⟨n,h1⟩:=afy k (a+1) aRK;rw[cH,mg aRK,bz aRK,h1,sb];dsimp only;rw[aR,mg (show ¬(pS ts e (.b j)).fI<((pS ts e (.b j)).fT.length:Int) fromλh=>by have h:(ts.length:Int)<ts.length:=h;omega)];exact aRm
theorem afz:∀k a:Nat,a+k=11->∃n,bs (qS ts e' (.b j)) a=some (n,qS ts e' (.b j))
 | 0,a,h=>by
  obtain rfl:a=11:=h;obtain⟨n,h⟩:=aGA (e':=e') H hj;rw[bs,An aRL,h];exact aRm
 | k+1,a,h=>by
  obtain⟨n,h1⟩:=afz k (a+1) aRK;rw[bs,mg aRK,bz aRK,h1,sb];dsimp only;rw[bL];simp only[jr,aOw,sb,dD];exact aRm
theorem aGB:∃n,dW (qS ts e' (.b j))=some (n,qS ts e' (.b j)):=by
 obtain⟨n,h⟩:=afz (e':=e') H hj 5 6 rfl;have h:bs (qS ts e' (.b j)) 6=some (n,qS ts e' (.b j)):=h;rw[dW,h,sb];dsimp only;rw[bY];simp only[dD,au (e':=e') H hj (w:=[38,38]) rfl,sb,aOi,aOn];exact aRm
theorem bOr:∃n,fD (qS ts e' (.b j))=some (n,qS ts e' (.b j)):=by
 obtain⟨n,h⟩:=aGB (e':=e') H hj;rw[fD,h,sb];dsimp only;rw[cm];simp only[dD,au (e':=e') H hj (w:=[124,124]) rfl,sb,aOi,aOn];exact aRm
theorem afA:∃n,fC (pS ts e (.b j))=some (n,pS ts e (.b j)):=by
 obtain⟨n,h⟩:=afy H hj 7 4 rfl;have h:cH (pS ts e (.b j)) 4=some (n,pS ts e (.b j)):=h;rw[fC,h,sb];simp only[ay H hj (w:=[63,63]) rfl,sb,aOi,aOn];exact aRm
theorem afB:∃n,cg (qS ts e' (.b j))=some (n,qS ts e' (.b j)):=by
 obtain⟨n,h⟩:=bOr (e':=e') H hj;rw[cg,h,sb];simp only[au (e':=e') H hj (w:=[63,63]) rfl,sb,aOi,aOn];exact aRm
theorem afC:∃n,jO (pS ts e (.b j))=some (n,pS ts e (.b j)):=by
 obtain⟨n,h⟩:=afA H hj;rw[jO,h,sb];simp only[ay H hj (w:=[63]) rfl,sb,aOi,aOn];exact aRm
theorem afD:∃n,dL (qS ts e' (.b j))=some (n,qS ts e' (.b j)):=by
 obtain⟨n,h⟩:=afB (e':=e') H hj;rw[dL,h,sb];simp only[au (e':=e') H hj (w:=[63]) rfl,sb,aOi,aOn];exact aRm
theorem Sa:∃n,bB (pS ts e (.b j))=some (n,pS ts e (.b j)):=by
 obtain⟨n,h⟩:=afC H hj;rw[bB,h,sb];simp only[dX H _ hj 6 [61] aRL,sb,show aS ts (.b j) 0 6 [61]=false from rfl,aOi,aOn];exact aRm
theorem aqS:∃n,bc (qS ts e' (.b j))=some (n,qS ts e' (.b j)):=by
 obtain⟨n,h⟩:=afD (e':=e') H hj;rw[bc,h,sb];simp only[jr,aOw];exact aRm
theorem aqT:∃n,jN (pS ts e (.b j))=some (n,pS ts e (.b j)):=by
 rw[jN];simp only[ay H hj (w:=[93]) rfl,sb,aOi,aOn];rw[ft];simp only[qQ H,aOn,sb,jo];exact aRm
theorem aqU:∃n,gX (qS ts e' (.b j))=some (n,qS ts e' (.b j)):=by
 rw[gX];simp only[au (e':=e') H hj (w:=[93]) rfl,sb,aOi,aOn];rw[dy];simp only[jr,aOw,sb,dD];exact aRm
theorem afE (a:List ae):eG (pS ts e (.b j)) a=some (a,pS ts e (.b j)):=by
 rw[eG];simp only[eh H _ hj [40],show wS ts (.b j) [40]=.b j from rfl,ay H hj (w:=[41]) rfl,sb,aOi,aOn];rw[eH];simp only[qQ H,aOn,sb,jo]
theorem LI:dx (qS ts e' (.b j))=some ([],qS ts e' (.b j)):=by
 rw[dx];simp only[fv (e':=e') H _ hj [40],show wS ts (.b j) [40]=.b j from rfl,au (e':=e') H hj (w:=[41]) rfl,sb,aOi,aOn];rw[dc];simp only[jr,aOw,sb,dD]
theorem UY:∃n,cb (pS ts e (.b j))=some (n,pS ts e (.b j)):=by
 rw[cb];simp only[eh H _ hj [123],show wS ts (.b j) [123]=.b j from rfl,sb];rw[dH];simp only[qQ H,aOn,sb,jo];exact aRm
theorem aiU:∃n,bx (qS ts e' (.b j))=some (n,qS ts e' (.b j)):=by
 rw[bx];simp only[fv (e':=e') H _ hj [123],show wS ts (.b j) [123]=.b j from rfl,sb];rw[cN];simp only[jr,aOw,sb,dD];exact aRm
theorem aqV:∃n,bf (pS ts e (.b j))=some (n,pS ts e (.b j)):=by
 obtain⟨n,h⟩:=Sa H hj;have c:∀w:aE,w≠[]->aD (pS ts e (.b j)) w=some (false,pS ts e (.b j)):=λw hw=>ay H hj rfl hw;refine⟨.mk 33 0 [] [n],?_⟩;rw[bf];refine aI (dX H _ hj 1 [] aRL) ?_;refine aI (dX H _ hj 6 [123] aRL) ?_;refine aI (c [105,102] aRL) ?_;refine aI (c [119,104,105,108,101] aRL) ?_;refine aI (c [102,111,114,101,97,99,104] aRL) ?_;refine aI (c [116,114,121] aRL) ?_;refine aI (c [101,99,104,111] aRL) ?_;refine aI (c [98,114,101,97,107] aRL) ?_;refine aI (c [99,111,110,116,105,110,117,101] aRL) ?_;refine aI (c [114,101,116,117,114,110] aRL) ?_;refine aI (c [103,108,111,98,97,108] aRL) ?_;refine aI (c [117,110,115,101,116] aRL) ?_;refine aI (c [116,104,114,111,119] aRL) ?_;refine aI (c [121,105,101,108,100] aRL) ?_;refine(eu (a:=((pS ts e (.b j)).fT,(pS ts e (.b j)).fI,(pS ts e (.b j)).ax,(pS ts e (.b j)).aw,false)) ?_).trans ?_
 ·refine aI (dX H _ hj 2 [] aRL) ?_;rfl
 refine bX aOo ?_;refine aI (c [105,110,99,108,117,100,101] aRL) ?_;refine aY h ?_;refine aY (eh H _ hj [59]) ?_;rfl
theorem aqW:∃n,aV (qS ts e' (.b j))=some (n,qS ts e' (.b j)):=by
 rw[aV];simp only[bV (e':=e') H _ hj,sb,jr,aOw];exact aRm
theorem acW:PC ts e e' (.b j):=by
 have c:j<=ts.length:=hj;refine⟨?_,λu=>?_,?_,λd h4 f=>?_,?_,?_,?_,?_,λa g=>?_,?_,?_⟩
 ·obtain⟨n,h⟩:=afw H hj;obtain⟨m,h2⟩:=afx (e':=e') H hj;exact C1.bad c n m h h2
 ·obtain⟨n,h⟩:=UW H hj u;obtain⟨m,h2⟩:=UX (e':=e') H hj (!u);exact C1.bad c n m h h2
 ·obtain⟨n,h⟩:=aGz H hj;obtain⟨m,h2⟩:=aGA (e':=e') H hj;exact C1.bad c n m h h2
 ·obtain⟨n,h⟩:=afy H hj (11 - d) d aRK
  match d,h4 with
  | 4,_=>obtain⟨m,h2⟩:=bOr (e':=e') H hj;exact C1.bad c n m h h2
  | 5,_=>obtain⟨m,h2⟩:=aGB (e':=e') H hj;exact C1.bad c n m h h2
  | k+6,_=>obtain⟨m,h2⟩:=afz (e':=e') H hj (11 - (k+6)) (k+6) aRK;exact C1.bad c n m h h2
 ·obtain⟨n,h⟩:=afA H hj;obtain⟨m,h2⟩:=afB (e':=e') H hj;exact C1.bad c n m h h2
 ·obtain⟨n,h⟩:=afC H hj;obtain⟨m,h2⟩:=afD (e':=e') H hj;exact C1.bad c n m h h2
 ·obtain⟨n,h⟩:=Sa H hj;obtain⟨m,h2⟩:=aqS (e':=e') H hj;exact C1.bad c n m h h2
 ·obtain⟨n,h⟩:=aqT H hj;obtain⟨m,h2⟩:=aqU (e':=e') H hj;exact C1.bad c n m h h2
 ·exact⟨_,_,_,afE H hj a,LI H hj,c,rfl,Of _,by omega,by show 0+j<=j+1;omega,λi h=>by cases h⟩
 ·obtain⟨n,h⟩:=UY H hj;obtain⟨m,h2⟩:=aiU (e':=e') H hj;exact C1.bad c n m h h2
 ·obtain⟨n,h⟩:=aqV H hj;obtain⟨m,h2⟩:=aqW (e':=e') H hj;exact C1.bad c n m h h2
end
end
theorem sy {k m:Int} {t:aE} {l:List ae} (h:k≠7):AA (.mk k m t l)=uc (.mk k m t l):=by
 unfold AA uc;rw[mg (λhh=>h hh.1),mg (λhh=>h hh.1)]
theorem GH {k m:Int} {t:aE} {l:List ae} (a:k≠7) (h4:k≠4) (b:k≠8):AA (.mk k m t l)=false:=by
 unfold AA;rw[mg (λhh=>a hh.1),an.2 h4,an.2 b];rfl
theorem aqX {m:Int} {t:aE} {a b:ae}:AA (.mk 7 m t [a,b])=AA a:=by
 unfold AA;rw[An ⟨rfl,by simp⟩];cases a;rfl
theorem aqY {m:Int} {t:aE} {a b:ae}:uc (.mk 7 m t [a,b])=uc a:=by
 unfold uc;rw[An ⟨rfl,by simp⟩];cases a;rfl
theorem tB {a b:aE} (h:a.length+b.length<=100000):yz a b=some (a++b):=An aRK
section
variable {ts:List aj}{e e':Int}
theorem aGC {i:Nat} {w:aE} (h:tw ts i w=true):wS ts (.g i) w=.g (i+1):=by rw[GC,h];rfl
theorem aGD {i:Nat} {w:aE} (h:tw ts i w=false):wS ts (.g i) w=.b i:=by rw[GC,h];rfl
theorem R7 {i:Nat} {k:Int} (h:yK ts k i=true):nS ts (.g i) k=.g (i+1):=by rw[Pm,h];rfl
theorem acT {i:Nat} {k:Int} (h:yK ts k i=false):nS ts (.g i) k=.b i:=by rw[Pm,h];rfl
theorem R8 {i:Nat} {k:Int} (h:yK ts k i=true):nT ts (.g i) k=tx ts i:=by rw[afF,h];rfl
theorem ahO {i:Nat} {k:Int} (h:yK ts k i=false):nT ts (.g i) k=[]:=by rw[afF,h];rfl
theorem Cq (H:Tk ts e) {i:Nat} {w:aE} (h:tw ts i w=true) (hw:w≠[]:=by decide):aQ (pS ts e (.g i)) w=some (pS ts e (.g (i+1))):=by
 rw[eh H (.g i) (aOT (ca h)) w hw,aGC h]
theorem GI (H:Tk ts e) {i:Nat} {w:aE} (h:tw ts i w=true):aO (qS ts e' (.g i)) w=some (qS ts e' (.g (i+1))):=by
 rw[fv H (.g i) (aOT (ca h)) w (.inr rfl),aGC h]
theorem S8 (H:Tk ts e) {i:Nat} (hi:i<=ts.length) {k:Int} (h:yK ts k i=false) (hk:k≠0:=by decide):cw (pS ts e (.g i)) k=some ([],pS ts e (.b i)):=by
 rw[pE H (.g i) hi k hk,ahO h,acT h]
theorem Ta (H:Tk ts e) {i:Nat} (hi:i<=ts.length) {k:Int} (h:yK ts k i=false) (hk:k=2\/k=3):bu (qS ts e' (.g i)) k=some ([],qS ts e' (.b i)):=by
 rw[oV H (.g i) hi rfl k hk,ahO h,acT h]
structure Lt (ts:List aj) (i:Nat) (s:JS):Prop where
 ok:s.Ok ts
 nd:s.nd=true
 lt:∀k,s=.g k->i<k
theorem Lt.w {i:Nat} {s:JS} (hs:s.Ok ts) (hp:i<=s.pos) (w:aE):Lt ts i (wS ts s w):=
 ⟨kA hs w,nB s w,λk h=>by obtain⟨a,rfl,rfl,_⟩:=fG h;have:i<=a:=hp;omega⟩
theorem Lt.n {i:Nat} {s:JS} (hs:s.Ok ts) (hp:i<=s.pos) {c:Int} (hc:c≠0):Lt ts i (nS ts s c):=
 ⟨sd hs hc,uD s c,λk h=>by obtain⟨a,rfl,rfl,_⟩:=mi h;have:i<=a:=hp;omega⟩
theorem Lt.g {i k:Nat} (h:i<k) (hk:k<=ts.length):Lt ts i (.g k):=⟨hk,rfl,λa h'=>by cases h';exact h⟩
theorem Lt.b {i j:Nat} (hj:j<=ts.length):Lt ts i (.b j):=⟨hj,rfl,λa h'=>by cases h'⟩
theorem Lt.r {i:Nat} {s s':JS} {a l m:List ae} (h:RL ts a s s' l m) (b:∀k,s=.g k->i<=k):Lt ts i s':=⟨h.ok,h.nd,λk hk=>by obtain⟨c,h1,h2,_⟩:=h.good k hk;have:=b _ h1;omega⟩
theorem Lt.rs {i:Nat} {v:Bool} {s s':JS} {n m:ae} (h:Rs ts v 0 s s' n m) (a:∀k,s=.g k->i<=k):Lt ts i s':=⟨h.ok,by
 cases s' with
 | d j=>have:=(h.dm j rfl).2.2.1;omega
 | _=>rfl,λk hk=>by obtain⟨b,h1,h2,_⟩:=h.good k hk;have:=a _ h1;omega⟩
theorem Lt.fl {i:Nat} {s:JS} (hs:s.Ok ts):Lt ts i (P6 s):=⟨Cr hs,GD s,λk h=>(Pn h).elim⟩
theorem Rs.leaf {v:Bool} {D i:Nat} {k m:Int} {t:aE} (hk:k≠7) (hi:i<ts.length) (a:t.length<=4000) (hv:(k==4)=(kd ts i==2)):Rs ts v D (.g i) (.g (i+1)) (.mk k m t []) (.mk k m t []):=
 ⟨hi,aPj i,λb h=>by cases h;exact⟨i,rfl,aOr i,rfl,by rw[jm,gV];omega,sy hk,λ_ _=>hv⟩,λj h=>by cases h⟩
theorem Rs.up {v b:Bool} {D i a:Nat} {s':JS} {n m:ae} (h:Rs ts v D (.g a) s' n m) (hi:i<a):Rs ts b D (.g i) s' n m:=
 ⟨h.ok,by have:a<=s'.pos:=h.le;show i<=s'.pos;omega,λc h'=>by
  obtain⟨f,h1,h2,d,h4,e,k⟩:=h.good c h';cases h1;exact⟨i,rfl,by omega,d,by omega,e,λ_ hh=>by omega⟩,λj hj=>by
  obtain⟨_,q2,q3,q4⟩:=h.dm j hj;have q2:a<j:=q2;exact⟨⟨i,rfl⟩,by show i<j;omega,q3,q4⟩⟩
theorem Rs.want {v b:Bool} {D c i a:Nat} {s':JS} {n m:ae} (h:Rs ts v D (.g a) s' n m) (hi:i<a) (w:aE):Rs ts b c (.g i) (wS ts s' w) n m:=
 ⟨kA h.ok w,by have:a<=s'.pos:=h.le;have:=gz (ts:=ts) s' w;show i<=_;omega,λf h'=>by
  obtain⟨d,h1,h2,_⟩:=fG h';obtain⟨k,q1,q2,q3,q4,e,l⟩:=h.good d h1;cases q1;exact⟨i,rfl,by omega,q3,by omega,e,λ_ hh=>by omega⟩,λj hj=>by
  have:=nB (ts:=ts) s' w;rw[hj]at this;cases this⟩
theorem Rs.node {v:Bool} {D i:Nat} {s':JS} {k m:Int} {t c:aE} {l d:List ae} (hk:k≠7) (e:s'.Ok ts) (a:s'.nd=true) (hle:i<=s'.pos)
  (hg:∀b,s'=.g b->i+1<b/\t=c/\l=d/\(t.length:Int)+(wl l:Int)+8192+16384*(i:Int)<=16384*(b:Int)):Rs ts v D (.g i) s' (.mk k m t l) (.mk k m c d):=
 ⟨e,hle,λb h=>by
  obtain⟨h1,rfl,rfl,h2⟩:=hg b h;exact⟨i,rfl,by omega,rfl,by rw[jm];omega,sy hk,λ_ hh=>by omega⟩,λj hj=>by rw[hj]at a;cases a⟩
theorem xt {i:Nat} (a:kd ts i≠6) (b:kd ts i≠3) (w:aE):tw ts i w=false:=by
 unfold tw;rw[an.2 a,an.2 b];rfl
theorem mh {i:Nat} {w:aE} (h:tw ts i w=true):kd ts i≠4/\kd ts i≠5/\kd ts i≠2/\kd ts i≠1:=by have:=(UZ h).1;omega
def kx (ts:List aj) (i:Nat):Bool:=kd ts i==4||(kd ts i==5||(tw ts i [116,114,117,101]||(tw ts i [102,97,108,115,101]||tw ts i [110,117,108,108])))
theorem vx (H:Tk ts e) {i:Nat} (hi:i<=ts.length):((if(tok ts i).ah=4 then
 some ((qS ts e' (.g i)).ar,(qS ts e' (.g i)).bA,(qS ts e' (.g i)).ax,(qS ts e' (.g i)).aw,true)
 else
 (if(tok ts i).ah=5 then
 some ((qS ts e' (.g i)).ar,(qS ts e' (.g i)).bA,(qS ts e' (.g i)).ax,(qS ts e' (.g i)).aw,true)
 else
 aX (qS ts e' (.g i)) 0 [116,114,117,101]>>=λ(f,a)=>
 (if f=true then
 some (a.ar,a.bA,a.ax,a.aw,true)
 else
 aX a 0 [102,97,108,115,101]>>=λ(j,b)=>
 (if j=true then
 some (b.ar,b.bA,b.ax,b.aw,true)
 else
 aX b 0 [110,117,108,108]>>=λ(h,c)=>
 some (c.ar,c.bA,c.ax,c.aw,h))))):Option ((List aj)×Int×Int×Bool×Bool))=
  some ((qS ts e' (.g i)).ar,(qS ts e' (.g i)).bA,(qS ts e' (.g i)).ax,(qS ts e' (.g i)).aw,kx ts i):=by
 have hs:(JS.g i).Ok ts:=hi;have is:=λw=>fM (e':=e') H _ hs w;have is:∀w,aX (qS ts e' (.g i)) 0 w=some (tw ts i w,qS ts e' (.g i)):=is;unfold kx kd;by_cases h4:(tok ts i).ah=4
 ·rw[An h4,h4];rfl
 by_cases d:(tok ts i).ah=5
 ·rw[mg h4,An d,d];rfl
 rw[mg h4,mg d,an.2 h4,an.2 d,aOt,aOt];cases h1:tw ts i [116,114,117,101]with
 | true=>refine dM ((is _).trans aSv) ?_;rfl
 | false=>
  refine aI ((is _).trans aSv) ?_;cases h2:tw ts i [102,97,108,115,101]with
  | true=>refine dM ((is _).trans (by rw[h2])) ?_;rfl
  | false=>
   refine aI ((is _).trans (by rw[h2])) ?_;refine aY (is _) ?_;rfl
theorem qg {i:Nat}:¬(qS ts e' (.g i)).aw=true:=by rw[jt];exact id
theorem aiV (H:Tk ts e) {i:Nat} (h0:tw ts i [40]=true) (h1:tw ts (i+1) [41]=true) (a:List ae) (h:a.length<=5000):
  ∃l,fh (pS ts e (.g i)) 25 a=some (l,pS ts e (.b (i+1)))/\l.length<=a.length+1:=by
 have hs:(JS.g i).Ok ts:=aOT (ca h0);have c:(JS.g (i+1)).Ok ts:=aOT (ca h1);have d:(JS.b (i+1)).Ok ts:=aOT (ca h1)
 have f:yK ts 2 (i+1)=false:=by
  unfold yK;rw[an.2 (mh h1).2.2.1];rfl
 refine⟨a++[.mk 25 0 [] []],?_,by simp⟩;unfold fh;refine aY (Cq H h0) ?_;refine(eu (a:=(Sum.inl ((pS ts e (.g (i+1))).fT,(pS ts e (.g (i+1))).fI,(pS ts e (.g (i+1))).ax,(pS ts e (.g (i+1))).aw):((List aj)×Int×Int×Int) ⊕ ((List ae)×aH))) rfl).trans ?_;refine S5.run (x:=dK 25 (pS ts e (.g (i+1))).fT (pS ts e (.g (i+1))).fI (pS ts e (.g (i+1))).ax (pS ts e (.g (i+1))).aw a) (.inl ?_);rw[dK];simp only[kq,aOw];refine(eu (a:=((pS ts e (.g (i+1))).fT,(pS ts e (.g (i+1))).fI,(pS ts e (.g (i+1))).ax,(pS ts e (.g (i+1))).aw,(0:Int))) ?_).trans ?_
 ·refine aI (ay (w:=[38]) H c (az h1 aRL)) ?_;rfl
 refine aY (S8 H c f) ?_;refine aY (fN _ aRK) ?_;refine aI (ay (w:=[44]) H d rfl) ?_;refine aY (eh H _ d [41]) ?_;rfl
end
section
variable {ts:List aj}{e e':Int}
theorem mN {i:Nat} (h:i<ts.length):¬(pS ts e (.g i)).fI>=((pS ts e (.g i)).fT.length:Int):=λhh=>by
 have hh:(i:Int)>=(ts.length:Int):=hh;omega
theorem Bx {i:Nat} {w:aE} (h:tw ts i w=true) (h1:(w==([116,114,117,101]:aE))=false) (h2:(w==([102,97,108,115,101]:aE))=false) (a:(w==([110,117,108,108]:aE))=false):kx ts i=false:=by
 obtain⟨b,c,d,_⟩:=mh h;unfold kx;rw[an.2 b,an.2 c,az h h1,az h h2,az h a];rfl
theorem aMn {i:Nat} {k:Int} (hk:kd ts i≠k):yK ts k i=false:=by unfold yK;rw[an.2 hk];rfl
theorem Xd (H:Tk ts e) {i:Nat} (hi:i<=ts.length) (h:∀s,Lt ts i s->PC ts e e' s) (hw:tw ts i [110,117,108,108]=true):C1 ts e e' true 0 (.g i) aP aL:=by
 have hs:(JS.g i).Ok ts:=hi;have b:=ca hw;obtain⟨c,d,f,_⟩:=mh hw;refine⟨.g (i+1),.mk 3 0 [] [],.mk 3 0 [] [],?_,?_,Rs.leaf aRL b aRN (by rw[an.2 f];rfl)⟩
 ·rw[aP];refine bX (mN b) ?_;refine(eu (iR b)).trans ?_;refine bX c ?_;refine bX d ?_;refine bX f ?_;refine dM (cy H hw) ?_;rfl
 ·rw[aL];refine(eu (bV H _ hs)).trans ?_;refine bX qg ?_;refine aY (vx H hi) ?_;refine oC (show kx ts i=true by unfold kx;simp [hw]) ?_;refine(eu (a:=(ae.mk 3 0 [] [],qS ts e' (.g (i+1)))) ?_).trans rfl;unfold bM;rw[dD];refine(eu (bV H _ hs)).trans ?_;refine bX c ?_;refine bX d ?_;refine dM (bH H hw) ?_;rfl
theorem Tb (H:Tk ts e) {i:Nat} (hi:i<=ts.length) (h:∀s,Lt ts i s->PC ts e e' s) (hw:tw ts i [102,97,108,115,101]=true):C1 ts e e' true 0 (.g i) aP aL:=by
 have hs:(JS.g i).Ok ts:=hi;have b:=ca hw;obtain⟨c,d,f,_⟩:=mh hw;refine⟨.g (i+1),.mk 3 1 [] [],.mk 3 1 [] [],?_,?_,Rs.leaf aRL b aRN (by rw[an.2 f];rfl)⟩
 ·rw[aP];refine bX (mN b) ?_;refine(eu (iR b)).trans ?_;refine bX c ?_;refine bX d ?_;refine bX f ?_;refine aI (ay H hs (w:=[110,117,108,108]) (az hw aRL)) ?_;refine dM (cy H hw) ?_;rfl
 ·rw[aL];refine(eu (bV H _ hs)).trans ?_;refine bX qg ?_;refine aY (vx H hi) ?_;refine oC (show kx ts i=true by unfold kx;simp [hw]) ?_;refine(eu (a:=(ae.mk 3 1 [] [],qS ts e' (.g (i+1)))) ?_).trans rfl;unfold bM;rw[dD];refine(eu (bV H _ hs)).trans ?_;refine bX c ?_;refine bX d ?_;refine aI (au H hs (w:=[110,117,108,108]) (az hw aRL)) ?_;refine dM (bH H hw) ?_;rfl
theorem Xe (H:Tk ts e) {i:Nat} (hi:i<=ts.length) (h:∀s,Lt ts i s->PC ts e e' s) (hw:tw ts i [116,114,117,101]=true):C1 ts e e' true 0 (.g i) aP aL:=by
 have hs:(JS.g i).Ok ts:=hi;have b:=ca hw;obtain⟨c,d,f,_⟩:=mh hw;refine⟨.g (i+1),.mk 3 2 [] [],.mk 3 2 [] [],?_,?_,Rs.leaf aRL b aRN (by rw[an.2 f];rfl)⟩
 ·rw[aP];refine bX (mN b) ?_;refine(eu (iR b)).trans ?_;refine bX c ?_;refine bX d ?_;refine bX f ?_;refine aI (ay H hs (w:=[110,117,108,108]) (az hw aRL)) ?_;refine aI (ay H hs (w:=[102,97,108,115,101]) (az hw aRL)) ?_;refine dM (cy H hw) ?_;rfl
 ·rw[aL];refine(eu (bV H _ hs)).trans ?_;refine bX qg ?_;refine aY (vx H hi) ?_;refine oC (show kx ts i=true by unfold kx;simp [hw]) ?_;refine(eu (a:=(ae.mk 3 2 [] [],qS ts e' (.g (i+1)))) ?_).trans rfl;unfold bM;rw[dD];refine(eu (bV H _ hs)).trans ?_;refine bX c ?_;refine bX d ?_;refine aI (au H hs (w:=[110,117,108,108]) (az hw aRL)) ?_;refine aI (au H hs (w:=[102,97,108,115,101]) (az hw aRL)) ?_;refine dM (bH H hw) ?_;rfl
theorem Xf (H:Tk ts e) {i:Nat} (hi:i<=ts.length) (c:∀s,Lt ts i s->PC ts e e' s) (hw:tw ts i [91]=true):C1 ts e e' true 0 (.g i) aP aL:=by
 have hs:(JS.g i).Ok ts:=hi;have a:=ca hw;obtain⟨d,f,b,_⟩:=mh hw;obtain⟨s',n,m,h1,h2,h⟩:=(c _ (Lt.g (aOr i) a)).list;refine⟨s',n,m,?_,?_,h.up (aOr i)⟩
 ·rw[aP];refine bX (mN a) ?_;refine(eu (iR a)).trans ?_;refine bX d ?_;refine bX f ?_;refine bX b ?_;refine aI (ay H hs (w:=[110,117,108,108]) (az hw aRL)) ?_;refine aI (ay H hs (w:=[102,97,108,115,101]) (az hw aRL)) ?_;refine aI (ay H hs (w:=[116,114,117,101]) (az hw aRL)) ?_;refine dM (cy H hw) ?_;refine aY h1 ?_;rfl
 ·rw[aL];refine(eu (bV H _ hs)).trans ?_;refine bX qg ?_;refine aY (vx H hi) ?_;refine bX (show ¬kx ts i=true by rw[Bx hw aRL aRL aRL];exact aOo) ?_;refine bX b ?_;refine dM (bH H hw) ?_;refine aY h2 ?_;rfl
theorem afG (H:Tk ts e) {i:Nat} (hi:i<=ts.length) (d:∀s,Lt ts i s->PC ts e e' s) (hw:tw ts i [40]=true):C1 ts e e' true 0 (.g i) aP aL:=by
 have hs:(JS.g i).Ok ts:=hi;have a:=ca hw;obtain⟨f,h,c,_⟩:=mh hw;obtain⟨s',n,m,h1,h2,b⟩:=(d _ (Lt.g (aOr i) a)).expr;refine⟨wS ts s' [41],n,m,?_,?_,b.want (aOr i) [41]⟩
 ·rw[aP];refine bX (mN a) ?_;refine(eu (iR a)).trans ?_;refine bX f ?_;refine bX h ?_;refine bX c ?_;refine aI (ay H hs (w:=[110,117,108,108]) (az hw aRL)) ?_;refine aI (ay H hs (w:=[102,97,108,115,101]) (az hw aRL)) ?_;refine aI (ay H hs (w:=[116,114,117,101]) (az hw aRL)) ?_;refine aI (ay H hs (w:=[91]) (az hw aRL)) ?_;refine dM (cy H hw) ?_;refine aY h1 ?_;refine aY (eh H _ b.ok [41]) ?_;rfl
 ·rw[aL];refine(eu (bV H _ hs)).trans ?_;refine bX qg ?_;refine aY (vx H hi) ?_;refine bX (show ¬kx ts i=true by rw[Bx hw aRL aRL aRL];exact aOo) ?_;refine bX c ?_;refine aI (au H hs (w:=[91]) (az hw aRL)) ?_;refine dM (bH H hw) ?_;refine aY h2 ?_;refine aY (fv H _ b.ok [41]) ?_;rfl
theorem afH (H:Tk ts e) {i:Nat} (hi:i<=ts.length) (u:∀s,Lt ts i s->PC ts e e' s) (hw:tw ts i [110,101,119]=true):C1 ts e e' true 0 (.g i) aP aL:=by
 have hs:(JS.g i).Ok ts:=hi;have f:=ca hw;obtain⟨v,x,j,_⟩:=mh hw;have h:(JS.g (i+1)).Ok ts:=f;rcases Lb (ts:=ts) (.g (i+1)) [115,116,97,116,105,99]with d | ⟨A,h0,d⟩
 ·have p:=Lt.n (c:=3) h (i:=i+1) (Of _) aRL;obtain⟨o,l,m,h1,h2,b⟩:=(u (nS ts (.g (i+1)) 3) ⟨p.ok,p.nd,λk hk=>by have:=p.lt k hk;omega⟩).args [] aRN;have hx:=js H (.g (i+1)) 3;refine⟨o,.mk 22 0 (nT ts (.g (i+1)) 3) l,.mk 22 0 (nT ts (.g (i+1)) 3) m,?_,?_,Rs.node aRL b.ok b.nd ?_ ?_⟩
  ·rw[aP];refine bX (mN f) ?_;refine(eu (iR f)).trans ?_;refine bX v ?_;refine bX x ?_;refine bX j ?_;refine aI (ay H hs (w:=[110,117,108,108]) (az hw aRL)) ?_;refine aI (ay H hs (w:=[102,97,108,115,101]) (az hw aRL)) ?_;refine aI (ay H hs (w:=[116,114,117,101]) (az hw aRL)) ?_;refine aI (ay H hs (w:=[91]) (az hw aRL)) ?_;refine aI (ay H hs (w:=[40]) (az hw aRL)) ?_;refine dM (cy H hw) ?_;refine aI (ay H h d) ?_;refine aY (pE H _ h 3) ?_;refine aY h1 ?_;rfl
  ·rw[aL];refine(eu (bV H _ hs)).trans ?_;refine bX qg ?_;refine aY (vx H hi) ?_;refine bX (show ¬kx ts i=true by rw[Bx hw aRL aRL aRL];exact aOo) ?_;refine bX j ?_;refine aI (au H hs (w:=[91]) (az hw aRL)) ?_;refine aI (au H hs (w:=[40]) (az hw aRL)) ?_;refine dM (bH H hw) ?_;refine(eu (a:=(nT ts (.g (i+1)) 3,qS ts e' (nS ts (.g (i+1)) 3))) ?_).trans ?_
   ·unfold cU;refine aI (au H h d) ?_;refine aY (oV H _ h rfl 3 (.inr rfl)) ?_;rfl
   refine aY h2 ?_;rfl
  ·have:=b.le;have q:=@mQ ts (.g (i+1)) 3;have q:i+1<=(nS ts (.g (i+1)) 3).pos:=q;omega
  ·intro r t;obtain⟨k,q1,q2,q3,q4⟩:=b.good r t;obtain⟨k1,y,B,_⟩:=mi q1;cases y;refine⟨by omega,rfl,q3,?_⟩;rw[aOB]at q3;rw[q3];omega
 ·cases h0;have z:=ca d;obtain⟨o,l,m,h1,h2,b⟩:=(u (.g (i+1+1)) (Lt.g aRK z)).args [] aRN;refine⟨o,.mk 22 0 [115,116,97,116,105,99] l,.mk 22 0 [115,116,97,116,105,99] m,?_,?_,Rs.node aRL b.ok b.nd ?_ ?_⟩
  ·rw[aP];refine bX (mN f) ?_;refine(eu (iR f)).trans ?_;refine bX v ?_;refine bX x ?_;refine bX j ?_;refine aI (ay H hs (w:=[110,117,108,108]) (az hw aRL)) ?_;refine aI (ay H hs (w:=[102,97,108,115,101]) (az hw aRL)) ?_;refine aI (ay H hs (w:=[116,114,117,101]) (az hw aRL)) ?_;refine aI (ay H hs (w:=[91]) (az hw aRL)) ?_;refine aI (ay H hs (w:=[40]) (az hw aRL)) ?_;refine dM (cy H hw) ?_;refine dM (cy H d) ?_;refine aY h1 ?_;rfl
  ·rw[aL];refine(eu (bV H _ hs)).trans ?_;refine bX qg ?_;refine aY (vx H hi) ?_;refine bX (show ¬kx ts i=true by rw[Bx hw aRL aRL aRL];exact aOo) ?_;refine bX j ?_;refine aI (au H hs (w:=[91]) (az hw aRL)) ?_;refine aI (au H hs (w:=[40]) (az hw aRL)) ?_;refine dM (bH H hw) ?_;refine(eu (a:=(([115,116,97,116,105,99]:aE),qS ts e' (.g (i+1+1)))) ?_).trans ?_
   ·unfold cU;refine dM (bH H d) ?_;rfl
   refine aY h2 ?_;rfl
  ·have:=b.le;have:i+1+1<=o.pos:=this;omega
  ·intro r t;obtain⟨k,q1,q2,q3,q4⟩:=b.good r t;cases q1;refine⟨by omega,rfl,q3,?_⟩;rw[aOB]at q3;rw[q3];simp only[At,No];omega
theorem afI (H:Tk ts e) {i:Nat} (hi:i<=ts.length) (L:∀s,Lt ts i s->PC ts e e' s) (hw:tw ts i [102,117,110,99,116,105,111,110]=true):C1 ts e e' true 0 (.g i) aP aL:=by
 have hs:(JS.g i).Ok ts:=hi;have o:=ca hw;obtain⟨C,D,p,_⟩:=mh hw;have hL:=H.len;have Q:(JS.g (i+1)).Ok ts:=o;obtain⟨u,l,m,h1,h2,f⟩:=Ct (e':=e') H 24 (.inl rfl) [] aRN (.g (i+1)) Q rfl (λh=>by cases h);have hlen:=f.len;have R:=f.lem;have IG:=okp f.ok;have E:i+1<=u.pos:=f.le;have q:eT (qS ts e' (.g (i+1)))=some (m,qS ts e' u):=by unfold eT;rw[h2,sb]
 simp only[No]at hlen;have M:Lt ts i u:=Lt.r f (λk hk=>by cases hk;omega);rcases Lb (ts:=ts) u [117,115,101]with hu | ⟨c,rfl,hu⟩
 ·obtain⟨S,n,n2,v,g2,d⟩:=(L u M).block;have F:=Lt.rs (i:=i) d (λk hk=>aOT (M.lt k hk));refine⟨S,.mk 23 0 [] (l++[n]),.mk 23 0 [] (m++[n2]),?_,?_,Rs.node aRL d.ok F.nd ?_ ?_⟩
  ·rw[aP];refine bX (mN o) ?_;refine(eu (iR o)).trans ?_;refine bX C ?_;refine bX D ?_;refine bX p ?_;refine aI (ay H hs (w:=[110,117,108,108]) (az hw aRL)) ?_;refine aI (ay H hs (w:=[102,97,108,115,101]) (az hw aRL)) ?_;refine aI (ay H hs (w:=[116,114,117,101]) (az hw aRL)) ?_;refine aI (ay H hs (w:=[91]) (az hw aRL)) ?_;refine aI (ay H hs (w:=[40]) (az hw aRL)) ?_;refine aI (ay H hs (w:=[110,101,119]) (az hw aRL)) ?_;refine dM (cy H hw) ?_;refine aY h1 ?_;refine aI (ay H f.ok hu) ?_;refine aY v ?_;refine aY (fN _ aRK) ?_;rfl
  ·rw[aL];refine(eu (bV H _ hs)).trans ?_;refine bX qg ?_;refine aY (vx H hi) ?_;refine bX (show ¬kx ts i=true by rw[Bx hw aRL aRL aRL];exact aOo) ?_;refine bX p ?_;refine aI (au H hs (w:=[91]) (az hw aRL)) ?_;refine aI (au H hs (w:=[40]) (az hw aRL)) ?_;refine aI (au H hs (w:=[110,101,119]) (az hw aRL)) ?_;refine dM (bH H hw) ?_;refine aY q ?_;refine aI (au H f.ok hu) ?_;refine aY g2 ?_;refine aY (fN _ aRK) ?_;rfl
  ·have:=d.le;omega
  ·intro z G;obtain⟨k,q1,q2,q3,q4,_⟩:=d.good z G;obtain⟨k1,I,T,A,U⟩:=f.good k q1;cases I;rw[aOB]at A;subst A;subst q3;refine⟨by omega,rfl,rfl,?_⟩;rw[iD,c6];simp only[No];omega
 ·have V:=ca hu;have t:(JS.g (c+1)).Ok ts:=V;have Ws:i+1<=c:=E;have step1:av (qS ts e' (.g c)) [117,115,101]=some (true,qS ts e' (.g (c+1))):=bH H hu;cases j:(tw ts (c+1) [40]&&tw ts (c+1+1) [41])with
  | true=>
   rw[As]at j;obtain⟨W,v,g2⟩:=aiV H j.1 j.2 l aRK;have X:=ca j.2;have N:(JS.b (c+1+1)).Ok ts:=aOT X;obtain⟨n,d⟩:=UY H N;refine⟨.b (c+1+1),.mk 23 0 [] (W++[n]),.mk 23 0 [] m,?_,?_,Rs.node aRL N rfl (by show i<=c+1+1;omega) (λz h=>by cases h)⟩
   ·rw[aP];refine bX (mN o) ?_;refine(eu (iR o)).trans ?_;refine bX C ?_;refine bX D ?_;refine bX p ?_;refine aI (ay H hs (w:=[110,117,108,108]) (az hw aRL)) ?_;refine aI (ay H hs (w:=[102,97,108,115,101]) (az hw aRL)) ?_;refine aI (ay H hs (w:=[116,114,117,101]) (az hw aRL)) ?_;refine aI (ay H hs (w:=[91]) (az hw aRL)) ?_;refine aI (ay H hs (w:=[40]) (az hw aRL)) ?_;refine aI (ay H hs (w:=[110,101,119]) (az hw aRL)) ?_;refine dM (cy H hw) ?_;refine aY h1 ?_;refine dM (cy H hu) ?_;refine aY v ?_;refine aY d ?_;refine aY (fN _ aRK) ?_;rfl
   ·rw[aL];refine(eu (bV H _ hs)).trans ?_;refine bX qg ?_;refine aY (vx H hi) ?_;refine bX (show ¬kx ts i=true by rw[Bx hw aRL aRL aRL];exact aOo) ?_;refine bX p ?_;refine aI (au H hs (w:=[91]) (az hw aRL)) ?_;refine aI (au H hs (w:=[40]) (az hw aRL)) ?_;refine aI (au H hs (w:=[110,101,119]) (az hw aRL)) ?_;refine dM (bH H hw) ?_;refine aY q ?_;refine dM step1 ?_;refine(eu (a:=((qS ts e' (.g (c+1))).ar,(qS ts e' (.g (c+1))).bA,(qS ts e' (.g (c+1))).ax,(qS ts e' (.g (c+1))).aw,true)) ?_).trans ?_
    ·refine dM ((fM (e':=e') H (.g (c+1)) t [40]).trans (by rw[show tw ts (JS.g (c+1)).pos [40]=true from j.1])) ?_;refine aY ((ahN (e':=e') H (.g (c+1)) t [41]).trans (by rw[show tw ts ((JS.g (c+1)).pos+1) [41]=true from j.2])) ?_;rfl
    refine oC rfl ?_
    have:ao.mk (qS ts e' (.g (c+1))).ar (bm ((qS ts e' (.g (c+1))).bA+1)) (qS ts e' (.g (c+1))).ax true=qS ts e' (.b (c+1+1)):=by
     show ao.mk ts (bm (((c+1:Nat):Int)+1)) e' true=_;rw[bz aRK];rfl
    rw[this]
  | false=>
   have x:tw ts (c+1) [40]=true->tw ts (c+1+1) [41]=false:=λh=>by rw[h,aPw]at j;exact j
   obtain⟨J,F,O,v,g2,d⟩:=Ct (e':=e') H 25 (.inr rfl) l aRK (.g (c+1)) t rfl (λ_ k hk=>by cases hk;exact x);have P:Lt ts i J:=Lt.r d (λk hk=>by cases hk;omega);obtain⟨Y,n,n2,Z,f2,B⟩:=(L J P).block;have l4:=Lt.rs (i:=i) B (λk hk=>aOT (P.lt k hk));have aa:=okp d.ok;have ad:c+1<=J.pos:=d.le;have ag:=d.len;have a2:=d.lem;refine⟨Y,.mk 23 0 [] (F++[n]),.mk 23 0 [] (m++O++[n2]),?_,?_,Rs.node aRL B.ok l4.nd ?_ ?_⟩
   ·rw[aP];refine bX (mN o) ?_;refine(eu (iR o)).trans ?_;refine bX C ?_;refine bX D ?_;refine bX p ?_;refine aI (ay H hs (w:=[110,117,108,108]) (az hw aRL)) ?_;refine aI (ay H hs (w:=[102,97,108,115,101]) (az hw aRL)) ?_;refine aI (ay H hs (w:=[116,114,117,101]) (az hw aRL)) ?_;refine aI (ay H hs (w:=[91]) (az hw aRL)) ?_;refine aI (ay H hs (w:=[40]) (az hw aRL)) ?_;refine aI (ay H hs (w:=[110,101,119]) (az hw aRL)) ?_;refine dM (cy H hw) ?_;refine aY h1 ?_;refine dM (cy H hu) ?_;refine aY v ?_;refine aY Z ?_;refine aY (fN _ aRK) ?_;rfl
   ·rw[aL];refine(eu (bV H _ hs)).trans ?_;refine bX qg ?_;refine aY (vx H hi) ?_;refine bX (show ¬kx ts i=true by rw[Bx hw aRL aRL aRL];exact aOo) ?_;refine bX p ?_;refine aI (au H hs (w:=[91]) (az hw aRL)) ?_;refine aI (au H hs (w:=[40]) (az hw aRL)) ?_;refine aI (au H hs (w:=[110,101,119]) (az hw aRL)) ?_;refine dM (bH H hw) ?_;refine aY q ?_;refine dM step1 ?_;refine(eu (a:=((qS ts e' (.g (c+1))).ar,(qS ts e' (.g (c+1))).bA,(qS ts e' (.g (c+1))).ax,(qS ts e' (.g (c+1))).aw,false)) ?_).trans ?_
    ·cases K:tw ts (c+1) [40]with
     | false=>
      refine aI ((fM (e':=e') H (.g (c+1)) t [40]).trans (by rw[show tw ts (JS.g (c+1)).pos [40]=false from K])) ?_;rfl
     | true=>
      refine dM ((fM (e':=e') H (.g (c+1)) t [40]).trans (by rw[show tw ts (JS.g (c+1)).pos [40]=true from K])) ?_;refine aY ((ahN (e':=e') H (.g (c+1)) t [41]).trans (by rw[show tw ts ((JS.g (c+1)).pos+1) [41]=false from x K])) ?_;rfl
    refine bX aOo ?_;refine aY g2 ?_;refine aY (kK (b:=56) (l:=m) (m:=O) aRK) ?_;refine aY f2 ?_;refine aY (fN _ (by rw[aOj];omega)) ?_;rfl
   ·have:=B.le;omega
   ·intro z G;obtain⟨k,q1,q2,q3,q4,_⟩:=B.good z G;obtain⟨k1,I,T,A,U⟩:=d.good k q1;cases I;obtain⟨p,q9,a3,y,a4⟩:=f.good c rfl;cases q9;rw[aOB]at y;subst y;subst q3;subst A;refine⟨by omega,rfl,rfl,?_⟩;rw[iD,iD,c6];simp only[No];omega
end
end Go.Am
