/- Texts of the proof, joined and shortened. -/
import Derived.Test.YtpokcbjeloeoiaaGreatDoorPk10
set_option linter.unusedVariables false
set_option linter.unusedSimpArgs false
set_option maxRecDepth 100000
namespace Go.Am
open Go Go.RowKit Go.Proofs
mutual
theorem stg:∀(k m:Int) (t:aE) (e:List ae),∃a b c d,j8 k m t e=some (a,b,c,d)/\uc (.mk k m t e)=(a==4||a==8)
 | k,m,t,e=>by
  rw[j8,uc];by_cases h:k=7
  ·by_cases h2:e.length=2
   ·rw[An h,An aRK,An ⟨h,h2⟩]
    match e,h2 with
    | [.mk k1 g i f,y],_=>rw[fZ,sb];exact stg k1 g i f
   ·rw[An h,mg aRK,mg (λq=>h2 q.2)];exact⟨_,_,_,_,rfl,rfl⟩
  ·rw[mg h,mg (λq=>h q.1)];exact⟨_,_,_,_,rfl,rfl⟩
end
theorem qP (x:ae):fW x=some (uc x):=by
 cases x with
 | mk k m t e=>
  obtain⟨a,b,c,d,h1,h2⟩:=stg k m t e;unfold fW;simp only[ae.qo,ae.rq,ae.nz,ae.kg,h1,sb];rw[h2];by_cases h:a=4
  ·rw[An h,h];rfl
  ·rw[mg h,an.2 h,aOt]
section
variable {E S:ae->Bool}
theorem ajb (k m:Int) (t:aE) (e:List ae) (A:t.length<=4611686018427387904) (g:e.length<4611686018427387904) (B:∀x∈e,x.af.length<4611686018427387904)
  (f:∀x∈e,bG x=some (E x)) (C:∀x∈e,∀y∈x.af,bG y=some (E y)) (D:∀x∈e,cu x=some (bl S x)):bG (.mk k m t e)=some (fE E S (.mk k m t e)):=by
 rw[bG,Ch _ _ _ _ A,sb,fE];simp only[ae.qo,ae.rq,ae.nz,ae.kg];cases tN k m
 ·rfl
 cases wh k t
 ·rfl
 rw[An rfl,An rfl];show _=some (gE E S k e);have he:=AZ e f g;by_cases hk:1<=k/\k<=23
 ·rcases(by omega:k=1\/k=2\/k=3\/k=4\/k=5\/k=6\/k=7\/k=8\/k=9\/k=10\/k=11\/k=12\/k=13\/k=14\/k=15\/k=16\/k=17\/k=18\/k=19\/k=20\/k=21\/k=22\/k=23)with h | h | h | h | h | h | h | h | h | h | h | h | h | h | h | h | h | h | h | h | h | h | h<;>subst h<;>
  simp only[gE,aOO,aOV,Int.reduceEq,Int.reduceBEq,aOw,aOn,aOs,aPl,aPa,aOt,aOi,sb,he,qP]<;>try rfl
  case inr.inr.inr.inr.inl=>
   have h0:=aav (.mk 5 m t e) C B g e.length 0 (by show e.length<=_;omega);rw[show((0:Nat):Int)=0 from rfl,aOu,ae.kg]at h0;rw[h0,sb];cases e.all (prK E)<;>rfl
  all_goals
   first
    | (rw[KQ _ _ g D];rfl)
    | (match e,f with
     | [],_=>first | rfl | (rw[mg aRL]) | (rw[mg aRL];rfl)
     | [a],f=>simp only[fZ,te,E1,sb,f a aRN,aOv,aPh,aOK,At,No];first | done | rfl | (rw[An aRL];done) | (rw[mg aRL];done) | (by_cases q:a.ah=4<;>simp [q];done)
     | [a,b],f=>simp only[fZ,te,E1,sb,f a aRN,f b aRN,aOv,aPh,aOK,At,No];first | done | rfl | (rw[An aRL];done) | (rw[mg aRL];done) | (rw[An aRL];cases uc a<;>rfl)
     | [a,b,c],f=>simp only[At,No,aOv,aPh,aOK];first | done | rfl | (rw[An aRL];done) | (rw[mg aRL];done)
     | a::b::c::d::r,f=>simp only[At,aOv];first | done | rfl | (rw[An aRK];rfl) | (rw[mg aRK];done) | (rw[mg aRK];rfl))
 ·have h1:¬k=1:=by omega
  have h2:¬k=2:=by omega
  have F:¬k=3:=by omega
  have h4:¬k=4:=by omega
  have M:¬k=5:=by omega
  have G:¬k=7:=by omega
  have H:¬k=8:=by omega
  have I:¬k=9:=by omega
  have i:¬k=10:=by omega
  have j:¬k=11:=by omega
  have l:¬k=12:=by omega
  have n:¬k=13:=by omega
  have J:¬k=14:=by omega
  have o:¬k=15:=by omega
  have p:¬k=16:=by omega
  have K:¬k=17:=by omega
  have s:¬k=18:=by omega
  have u:¬k=19:=by omega
  have v:¬k=20:=by omega
  have w:¬k=21:=by omega
  have z:¬k=22:=by omega
  have L:¬k=23:=by omega
  simp only[gE,aOO,aOV,aOw,aOn,aOs,aPl,aPa,aOt,aOi,sb, *,an.2 h1,an.2 h2,an.2 F,an.2 h4,an.2 G,an.2 H,an.2 I,an.2 i,an.2 j,an.2 l,an.2 n,an.2 o,an.2 p,an.2 s,an.2 u,an.2 v,an.2 w,an.2 z]
end
set_option maxRecDepth 100000
theorem CM (x:ae) (hs:x.ak.length<=4611686018427387904):ff x=some (tN x.ah x.aF,wh x.ah x.ak):=by
 cases x with
 | mk k m t a=>exact Ch k m t a hs
section
variable {E S:ae->Bool}
theorem arb (x:ae) (h:x.ah=44):cat E S x=(tN 44 x.aF&&(wh 44 x.ak&&(match x.af with | [a,b]=>a.ah==4&&(E a&&bl S b) | _=>false))):=by
 unfold cat;rw[h];rfl
theorem arc (x:ae) (h:x.ah=45):fin S x=(tN 45 x.aF&&(wh 45 x.ak&&(match x.af with | [a]=>bl S a | _=>false))):=by
 unfold fin;rw[h];rfl
theorem He (n:ae) (i:Nat) (hi:i<n.af.length) (j:n.af.length<4611686018427387904) (g:n.af[i].ak.length<=4611686018427387904)
  (f:∀y∈n.af[i].af,bG y=some (E y)) (e:∀y∈n.af[i].af,cu y=some (bl S y)):
  gd n (i:Int)=bif ((decide (i=1)&&cat E S n.af[i])||(decide (i+1=n.af.length)&&fin S n.af[i]))then gd n ((i+1:Nat):Int)else some (.inr (.inr false)):=by
 rw[gd,An aRK,dP hi,sb,CM _ g,sb,bz aRK,lj (x:=(n.af.length:Int) - 1) (n:=n.af.length - 1) aRK aRK];generalize n.af[i]=x at f e ⊢;show(Option.bind _ _)=_;by_cases h4:x.ah=44
 ·rw[An h4,h4,arb x h4,show fin S x=false by unfold fin;rw[h4];rfl,aOP,aOs];by_cases h1:i=1
  ·rw[An aRK,aPs h1,aPw]
   match h:x.af,f,e with
   | [],_,_=>cases tN 44 x.aF<;>cases wh 44 x.ak<;>rfl
   | [a],_,_=>cases tN 44 x.aF<;>cases wh 44 x.ak<;>rfl
   | a::b::c::r,_,_=>
    rw[mg aRV];cases tN 44 x.aF<;>cases wh 44 x.ak<;>rfl
   | [a,b],f,e=>
    rw[An (by rfl),fZ,te,sb,sb,sb,f a aRN,e b aRN,sb,sb];show _=(bif (tN 44 x.aF&&(wh 44 x.ak&&(a.ah==4&&(E a&&bl S b))))then _ else _);by_cases d:a.ah=4
    ·rw[An d,d];cases tN 44 x.aF<;>cases wh 44 x.ak<;>cases E a<;>cases bl S b<;>rfl
    ·rw[mg d,an.2 d];cases tN 44 x.aF<;>cases wh 44 x.ak<;>rfl
  ·rw[mg aRK,aOS h1,aPC];cases tN 44 x.aF<;>cases wh 44 x.ak<;>rfl
 ·by_cases d:x.ah=45
  ·rw[mg h4,d,arc x d,show cat E S x=false by unfold cat;rw[d];rfl,aOP,aOt];by_cases h1:i+1=n.af.length
   ·rw[An rfl,An aRK,aPs h1,aPw]
    match h:x.af,f,e with
    | [],_,_=>cases tN 45 x.aF<;>cases wh 45 x.ak<;>rfl
    | a::b::r,_,_=>
     rw[mg aRV];cases tN 45 x.aF<;>cases wh 45 x.ak<;>rfl
    | [a],f,e=>
     rw[An (by rfl),fZ,sb,e a aRN,sb];show _=(bif (tN 45 x.aF&&(wh 45 x.ak&&bl S a))then _ else _);cases tN 45 x.aF<;>cases wh 45 x.ak<;>cases bl S a<;>rfl
   ·rw[An rfl,mg aRK,aOS h1,aPC];cases tN 45 x.aF<;>cases wh 45 x.ak<;>rfl
  ·rw[mg h4,mg d,show cat E S x=false by unfold cat;rw[an.2 h4];rfl,show fin S x=false by unfold fin;rw[an.2 d];rfl,aOP,aOP];cases tN x.ah x.aF<;>cases wh x.ah x.ak<;>rfl
theorem Vc (n:ae) (i:Nat) (hi:i=n.af.length):gd n (i:Int)=some (.inl ()):=by
 rw[gd,mg aRK]
theorem ajc (k m:Int) (t:aE) (g:List ae) (C:t.length<=4611686018427387904) (n:g.length<4611686018427387904) (i:∀x∈g,x.ak.length<=4611686018427387904)
  (l:∀x∈g,bG x=some (E x)) (o:∀x∈g,∀y∈x.af,bG y=some (E y)) (f:∀x∈g,cu x=some (bl S x)) (j:∀x∈g,∀y∈x.af,cu y=some (bl S y))
  (p:∀x∈g,eE x=some (S x)):eE (.mk k m t g)=some (fS E S (.mk k m t g)):=by
 rw[eE,Ch _ _ _ _ C,sb,fS];simp only[ae.qo,ae.rq,ae.nz,ae.kg];cases D:tN k m
 ·rfl
 cases F:wh k t
 ·rfl
 rw[An rfl,An rfl];show _=some (gS E S k g);have he:=AZ g l n;by_cases hk:31<=k/\k<=48
 ·rcases(by omega:k=31\/k=32\/k=33\/k=34\/k=35\/k=36\/k=37\/k=38\/k=39\/k=40\/k=41\/k=42\/k=43\/k=44\/k=45\/k=46\/k=47\/k=48)with h | h | h | h | h | h | h | h | h | h | h | h | h | h | h | h | h | h<;>subst h<;>
  simp only[gS,aOO,aOV,Int.reduceEq,Int.reduceBEq,aOw,aOn,aOs,aPl,aPa,aOt,aOi,sb,he,qP,tc]<;>try rfl
  case inr.inr.inr.inr.inr.inr.inr.inr.inr.inr.inr.inr.inl=>
   match g,f,j,o,i,n with
   | [],_,_,_,_,_=>rfl
   | [a],_,_,_,_,_=>rfl
   | [a,b],f,j,o,i,n=>
    have h1:=He (E:=E) (S:=S) (.mk 43 m t [a,b]) 1 aRN n (i b aRN) (o b aRN) (j b aRN);rw[Vc _ 2 rfl]at h1;simp only[fZ,sb,f a aRN];rw[show(((1:Nat):Int))=1 from rfl]at h1;rw[h1];simp only[ae.kg,At,No,List.getElem_cons_succ,aQc,decide_true,aPw];cases bl S a<;>cases cat E S b<;>cases fin S b<;>rfl
   | [a,b,c],f,j,o,i,n=>
    have h1:=He (E:=E) (S:=S) (.mk 43 m t [a,b,c]) 1 aRN n (i b aRN) (o b aRN) (j b aRN);have h2:=He (E:=E) (S:=S) (.mk 43 m t [a,b,c]) 2 aRN n (i c aRN) (o c aRN) (j c aRN);rw[Vc _ 3 rfl]at h2;rw[h2]at h1;simp only[fZ,sb,f a aRN];rw[show(((1:Nat):Int))=1 from rfl]at h1;rw[h1];simp only[ae.kg,At,No,List.getElem_cons_succ,aQc,decide_true,aPw];cases bl S a<;>cases cat E S b<;>cases fin S b<;>cases fin S c<;>rfl
   | a::b::c::d::r,_,_,_,_,_=>
    rw[aOS aRV];rfl
  case inr.inr.inr.inr.inr.inr.inr.inr.inr.inr.inr.inr.inr.inr.inr.inr.inr=>
   have h0:=TW (.mk 48 m t g) p n;simp only[ae.qo,ae.rq,ae.nz,ae.kg]at h0;have G:(m==0)=true:=D;have e2:(t==([]:aE))=true:=F;rw[G,e2]at h0;rw[h0];rfl
  all_goals
   match g,l,f,p with
   | [],_,_,_=>first | rfl | (rw[mg aRL];done) | (rw[mg aRL];rfl) | (rw[An aRL];rfl)
   | [a],l,f,p=>
    simp only[fZ,sb,l a aRN,aOv,aPh,aOK,At,No];first | done | rfl | (cases E a<;>rfl) | (cases uc a<;>rfl) | (cases uc a<;>cases E a<;>rfl)
   | [a,b],l,f,p=>
    simp only[fZ,te,sb,l a aRN,l b aRN,f b aRN,aOv,aPh,aOK,At,No]
    first
     | done
     | rfl
     | (rw[show bm (((0+1+1:Nat):Int) - 1)=1 from rfl,te,sb,f b aRN,sb];cases E a<;>cases bl S b<;>rfl)
     | (cases E a<;>cases bl S b<;>rfl)
     | (cases E a<;>cases E b<;>rfl)
   | [a,b,c],l,f,p=>
    try dsimp only
    first
     | rfl
     | (rw[show bm ((([a,b,c]:List ae).length:Int) - 1)=2 from rfl,E1,fZ,te,sb,sb,sb,l a aRN,f b aRN,f c aRN,sb,sb,sb];cases E a<;>cases bl S b<;>cases bl S c<;>rfl)
     | (
      rw[show bm ((([a,b,c]:List ae).length:Int) - 1)=2 from rfl,show bm ((([a,b,c]:List ae).length:Int) - 2)=1 from rfl,E1,te,sb,sb,sb,f c aRN,sb,show Xq [a,b,c] 2=some [a,b]from rfl,sb,AZ [a,b] (λx h=>l x (by simp at h ⊢;rcases h with h | h<;>simp [h])) aRN];by_cases q:b.ah=4
      ·rw[An q,q];simp only[aOv,aPh,aOK];cases E a<;>cases E b<;>cases bl S c<;>rfl
      ·rw[mg q,an.2 q];simp only[aOv,aPh,aOK];cases E a<;>cases E b<;>cases bl S c<;>rfl)
   | [a,b,c,d],l,f,p=>
    try dsimp only
    first
     | rfl
     | (
      rw[show bm ((([a,b,c,d]:List ae).length:Int) - 1)=3 from rfl,show bm ((([a,b,c,d]:List ae).length:Int) - 2)=2 from rfl,auC,E1,te,sb,sb,sb,f d aRN,sb,show Xq [a,b,c,d] 3=some [a,b,c]from rfl,sb,AZ [a,b,c] (λx h=>l x (by simp at h ⊢;rcases h with h | h | h<;>simp [h])) aRN];simp only[aOv,aPh,aOK];by_cases q:b.ah=4
      ·by_cases q2:c.ah=4
       ·rw[An q,An q2,q,q2];cases E a<;>cases E b<;>cases E c<;>cases bl S d<;>rfl
       ·rw[An q,mg q2,q,an.2 q2];cases E a<;>cases E b<;>cases E c<;>cases bl S d<;>rfl
      ·rw[mg q,an.2 q];cases E a<;>cases E b<;>cases E c<;>cases bl S d<;>rfl)
   | a::b::c::d::e::r,_,_,_=>
    first
     | rfl
     | (rw[mg aRV];done)
     | (rw[mg aRV];rfl)
     | (rw[aOS aRV];rfl)
 ·have s:¬k=31:=by omega
  have u:¬k=32:=by omega
  have v:¬k=33:=by omega
  have H:¬k=34:=by omega
  have I:¬k=35:=by omega
  have J:¬k=36:=by omega
  have w:¬k=37:=by omega
  have z:¬k=38:=by omega
  have K:¬k=39:=by omega
  have L:¬k=40:=by omega
  have M:¬k=41:=by omega
  have A:¬k=42:=by omega
  have N:¬k=43:=by omega
  have O:¬k=46:=by omega
  have B:¬k=47:=by omega
  have P:¬k=48:=by omega
  simp only[gS,aOO,aOV,aOw,aOn,aOs,aPl,aPa,aOt,aOi,sb, *,an.2 s,an.2 u,an.2 v,an.2 w,an.2 z,an.2 L,an.2 A,an.2 B]
end
set_option maxRecDepth 100000
mutual
def wt:ae->Nat | .mk _ _ t k=>t.length+k.length+Ld k
def Ld:List ae->Nat | []=>0 | x::r=>wt x+Ld r
end
theorem xU (n:ae):wt n=n.ak.length+n.af.length+Ld n.af:=by cases n;rfl
theorem LH:∀(l:List ae) (x:ae),x∈l->wt x<=Ld l
 | y::r,x,h=>by
  rw[Ld];rcases aOz.1 h with h | h
  ·subst h;omega
  ·have:=LH r x h;omega
theorem Vd:∀(l:List ae) (x:ae),x∈l->sz x<=AV l
 | y::r,x,h=>by
  rw[AV];rcases aOz.1 h with h | h
  ·subst h;omega
  ·have:=Vd r x h;omega
mutual
theorem alq:∀n:ae,sz n<=1+wt n
 | .mk _ _ t k=>by have:=Ve k;rw[sz,wt];omega
theorem Ve:∀l:List ae,AV l<=l.length+Ld l
 | []=>Of _
 | x::r=>by have:=alq x;have:=Ve r;rw[AV,Ld,At];omega
end
def vE (n:ae):Bool:=(bG n).getD false
def vS (n:ae):Bool:=(eE n).getD false
theorem qY {n x:ae} (h:x∈n.af):sz x<sz n:=by have:=Vd _ _ h;have:=yh n;omega
theorem jj {n x:ae} (h:x∈n.af):wt x<=wt n:=by have:=LH _ _ h;have:=xU n;omega
theorem Hf:∀(N:Nat) (n:ae),sz n<N->wt n<=134217728->(bG n=some (vE n)/\vE n=fE vE vS n)/\(eE n=some (vS n)/\vS n=fS vE vS n)
 | 0,n,h,_=>by omega
 | N+1,n,h,hw=>by
  have hk:∀x∈n.af,_:=λx hx=>Hf N x (by have:=qY hx;omega) (by have:=jj hx;omega);have b:∀x∈n.af,∀y∈x.af,_:=λx hx y hy=>Hf N y (by have:=qY hx;have:=qY hy;omega) (by have:=jj hx;have:=jj hy;omega);have eX:∀x∈n.af,∀y∈x.af,∀z∈y.af,_:=λx hx y hy z a=>Hf N z (by have:=qY hx;have:=qY hy;have:=qY a;omega) (by have:=jj hx;have:=jj hy;have:=jj a;omega);have bd:∀x:ae,wt x<=134217728->x.ak.length<=4611686018427387904/\x.af.length<4611686018427387904:=λx hx=>by have:=xU x;omega
  have w1:∀x∈n.af,wt x<=134217728:=λx hx=>by have:=jj hx;omega
  have l:∀x∈n.af,∀y∈x.af,wt y<=134217728:=λx hx y hy=>by have:=jj hx;have:=jj hy;omega
  have e:∀x∈n.af,bG x=some (vE x):=λx hx=>(hk x hx).1.1;have f:∀x∈n.af,∀y∈x.af,bG y=some (vE y):=λx hx y hy=>(b x hx y hy).1.1;have o:∀x∈n.af,eE x=some (vS x):=λx hx=>(hk x hx).2.1;have g:∀x∈n.af,cu x=some (bl vS x):=λx hx=>sbl x (λy hy=>(b x hx y hy).2.1) (bd x (w1 x hx)).2 (hk x hx).2.2;have c:∀x∈n.af,∀y∈x.af,cu y=some (bl vS y):=λx hx y hy=>sbl y (λz a=>(eX x hx y hy z a).2.1) (bd y (l x hx y hy)).2 (b x hx y hy).2.2
  have i:bG n=some (fE vE vS n):=by
   cases n with
   | mk k m t d=>exact ajb k m t d (bd _ hw).1 (bd _ hw).2 (λx hx=>(bd x (w1 x hx)).2) e f g
  have e2:eE n=some (fS vE vS n):=by
   cases n with
   | mk k m t d=>exact ajc k m t d (bd _ hw).1 (bd _ hw).2 (λx hx=>(bd x (w1 x hx)).1) e f g c o
  have j:vE n=fE vE vS n:=by rw[vE,i];rfl
  have g2:vS n=fS vE vS n:=by rw[vS,e2];rfl
  exact⟨⟨by rw[i,j],j⟩,⟨by rw[e2,g2],g2⟩⟩
theorem spE {n:ae} (h:wt n<=134217728):bG n=some (vE n):=(Hf _ n (aOr _) h).1.1
theorem spS {n:ae} (h:wt n<=134217728):eE n=some (vS n):=(Hf _ n (aOr _) h).2.1
theorem J3 {n:ae} (h:wt n<=134217728):vE n=fE vE vS n:=(Hf _ n (aOr _) h).1.2
theorem Vf {n:ae} (h:wt n<=134217728):vS n=fS vE vS n:=(Hf _ n (aOr _) h).2.2
theorem sB {n:ae} (h:wt n<=134217728):cu n=some (bl vS n):=sbl n (λy hy=>spS (by have:=jj hy;omega)) (by have:=xU n;omega) (Vf h)
set_option maxRecDepth 100000
theorem nest {c:Prop} [Decidable c] {b:Bool}:(if c then(some (.inr b):Option (Unit ⊕ Bool))else some (.inr false))=some (.inr (decide c&&b)):=by
 by_cases h:c<;>simp [h]
theorem aGO {c:Prop} [Decidable c] {b:Bool}:(if c then some b else some false)=some (decide c&&b):=by
 by_cases h:c<;>simp [h]
theorem LZ {α:Type} [BEq α] [LawfulBEq α] {a b:α} [Decidable (a=b)]:decide (a=b)=(a==b):=by
 by_cases h:a=b
 ·rw[aPs h,h,BEq.rfl]
 ·rw[aOS h,an.2 h]
section
variable {E S:ae->Bool}
theorem ln1 (c:List ae):(((c.length:Int)==1)&&c.all E)=(match c with | [a]=>E a | _=>false):=by
 match c with
 | []=>rfl
 | [a]=>simp
 | a::b::r=>rw[an.2 aRV];rfl
theorem ln2 (d:List ae):(((d.length:Int)==2)&&d.all E)=(match d with | [a,b]=>E a&&E b | _=>false):=by
 match d with
 | []=>rfl
 | [a]=>rfl
 | [a,b]=>simp
 | a::b::c::r=>rw[an.2 aRV];rfl
theorem ln3 (e:List ae):(((e.length:Int)==3)&&e.all E)=(match e with | [a,b,c]=>E a&&(E b&&E c) | _=>false):=by
 match e with
 | []=>rfl
 | [a]=>rfl
 | [a,b]=>rfl
 | [a,b,c]=>simp
 | a::b::c::d::r=>rw[an.2 aRV];rfl
theorem aGP (b:List ae):(decide ((b.length:Int)>=1)&&b.all E)=(match b with | []=>false | a::r=>E a&&r.all E):=by
 match b with
 | []=>rfl
 | a::r=>rw[aPs aRV];rfl
theorem aGQ (c:List ae):(decide ((c.length:Int)<=1)&&c.all E)=(match c with | []=>true | [a]=>E a | _=>false):=by
 match c with
 | []=>rfl
 | [a]=>simp
 | a::b::r=>rw[aOS aRV];rfl
theorem Vg (l:List ae) (h:∀x∈l,cZ x=some (E x)) (a:l.length<4611686018427387904):∀f i:Nat,l.length<=i+f->kU l (i:Int)=some (HU ((l.drop i).all E))
 | f,i,hf=>by
  rw[kU];by_cases hc:i<l.length
  ·obtain⟨g,rfl⟩:∃g,f=g+1:=⟨f - 1,by omega⟩;rw[An aRK,dP hc,sb,h _ (aOD hc),sb,bz aRK,Vg l h a g (i+1) aRK,aOq hc,aOv];cases E l[i]<;>rfl
  ·rw[mg aRK,aOk aRK];rfl
theorem L0 (l:List ae) (h:∀x∈l,cZ x=some (E x)) (a:l.length<4611686018427387904):di l=some (l.all E):=by
 have:=Vg l h a l.length 0 aRK;rw[show((0:Nat):Int)=0 from rfl,aOu]at this;rw[di,this,sb];cases l.all E<;>rfl
theorem af7 (l:List ae) (h:∀x∈l,dz x=some (S x)) (a:l.length<4611686018427387904):∀f i:Nat,l.length<=i+f->ns l (i:Int)=some (HU ((l.drop i).all (bl S)))
 | f,i,hf=>by
  rw[ns];by_cases hc:i<l.length
  ·obtain⟨g,rfl⟩:∃g,f=g+1:=⟨f - 1,by omega⟩;rw[An aRK,dP hc,sb,h _ (aOD hc),sb,bz aRK,af7 l h a g (i+1) aRK,aOq hc,aOv,bl];by_cases h4:l[i].ah=48
   ·rw[An h4,h4];cases S l[i]<;>rfl
   ·rw[mg h4,an.2 h4];rfl
  ·rw[mg aRK,aOk aRK];rfl
theorem yb (l:List ae) (h:∀x∈l,dz x=some (S x)) (a:l.length<4611686018427387904):gC l=some (l.all (bl S)):=by
 have:=af7 l h a l.length 0 aRK;rw[show((0:Nat):Int)=0 from rfl,aOu]at this;rw[gC,this,sb];cases l.all (bl S)<;>rfl
theorem af8 (n:ae) (h:∀x∈n.af,dz x=some (S x)) (a:n.af.length<4611686018427387904):∀f i:Nat,n.af.length<=i+f->nr n (i:Int)=some (ob2 ((n.af.drop i).all S))
 | f,i,hf=>by
  rw[nr];by_cases hc:i<n.af.length
  ·obtain⟨g,rfl⟩:∃g,f=g+1:=⟨f - 1,by omega⟩;rw[An aRK,dP hc,sb,h _ (aOD hc),sb,bz aRK,af8 n h a g (i+1) aRK,aOq hc,aOv];cases S n.af[i]<;>rfl
  ·rw[mg aRK,aOk aRK];rfl
theorem af9 (n:ae) (h:∀x∈n.af,∀y∈x.af,cZ y=some (E y)) (b:∀x∈n.af,x.af.length<4611686018427387904) (c:n.af.length<4611686018427387904):∀f i:Nat,n.af.length<=i+f->nq n (i:Int)=some (ob2 ((n.af.drop i).all (prK E)))
 | f,i,hf=>by
  rw[nq];by_cases hc:i<n.af.length
  ·obtain⟨g,rfl⟩:∃g,f=g+1:=⟨f - 1,by omega⟩;rw[An aRK,dP hc,sb,uw,sb,L0 _ (h _ (aOD hc)) (b _ (aOD hc)),sb,bz aRK,af9 n h b c g (i+1) aRK,aOq hc,aOv];generalize n.af[i]=x;unfold prK;by_cases h1:x.ah=6
   ·by_cases h2:x.aF=0
    ·by_cases a:x.ak=([]:aE)
     ·rw[An h1,An h2,An a,h1,h2,a];cases decide (1<=(x.af.length:Int)/\(x.af.length:Int)<=2)
      ·rfl
      ·cases x.af.all E<;>rfl
     ·rw[An h1,An h2,mg a,an.2 a,aPC,aOP,aOP];rfl
    ·rw[An h1,mg h2,an.2 h2,aPC,aOP];rfl
   ·rw[mg h1,an.2 h1];rfl
  ·rw[mg aRK,aOk aRK];rfl
theorem Vh (a:Bool) (l:List ae) (d:l.length<4611686018427387904):∀(f i:Nat) (b:Bool),l.length<=i+f->jE a l b (i:Int)=some (HU (P2 a b (l.drop i)))
 | f,i,b,hf=>by
  rw[jE];by_cases hc:i<l.length
  ·obtain⟨g,rfl⟩:∃g,f=g+1:=⟨f - 1,by omega⟩;have e:=λj=>Vh a l d g (i+1) j aRK;rw[An aRK,dP hc,sb,aOq hc];simp only[uw,sb,ux,bz (show i<9223372036854775807 by omega),e,P2];generalize l[i]=x
   have e0:(if(x.af.length:Int)>0 then(some (.inr false):Option (Unit ⊕ Bool))else some (HU (P2 a (b||x.ah==25) (l.drop (i+1)))))=some (HU ((x.af.length:Int)==0&&P2 a (b||x.ah==25) (l.drop (i+1)))):=by
    by_cases h:(x.af.length:Int)>0
    ·rw[An h,an.2 aRK];rfl
    ·rw[mg h,show(x.af.length:Int)=0 by omega];rfl
   by_cases h1:x.ah=25
   ·rw[An h1];cases a
    ·rw[h1];rfl
    ·rw[h1]at e0;simp only[Int.reduceBEq,aPl,BEq.rfl]at e0;rw[h1,An rfl,sb];cases decide (0<=x.aF/\x.aF<=1)
     ·rfl
     ·cases good x.ak
      ·rfl
      ·simpa using e0
   ·rw[mg h1];have c:(x.ah==25)=false:=an.2 h1;rw[c,aOs]at e0;rw[c,aOs,aPC,aOt];by_cases h2:x.ah=24
    ·rw[An h2,h2];cases b
     ·cases decide (0<=x.aF/\x.aF<=1)
      ·rfl
      ·cases good x.ak
       ·rfl
       ·simpa using e0
     ·rfl
    ·rw[mg h2,an.2 h2];rfl
  ·rw[mg aRK,aOk aRK];rfl
theorem ajd {l:List ae} {z:ae}:Xq (l++[z]) (l.length:Int)=some l:=by
 unfold Xq;rw[An ⟨by omega,by simp;omega⟩,aPD,List.take_left]
theorem L1 (a:Bool) (b:List ae) (d:b.length<4611686018427387904) (e:∀x∈b,dz x=some (S x)):gQ b a=some (fU S a b):=by
 rcases aQf b with rfl | ⟨l,z,rfl⟩
 ·rw[gQ];rfl
 ·rw[aPQ]at d e ⊢;have c:l.length<4611686018427387904:=by simp at d;omega
  have:=Vh a l c l.length 0 false aRK;rw[show((0:Nat):Int)=0 from rfl,aOu]at this;rw[gQ,lj (x:=(((l++[z]).length:Int)) - 1) (n:=l.length) aRN aRK,mg aRK,M3,sb,sb,e z aRN,sb,fU,List.getLast?_concat,aQi,ajd,sb,this,sb];show _=some (P2 a false l&&bl S z);rw[bl];by_cases h4:z.ah=48
  ·rw[An h4,h4];cases S z<;>cases P2 a false l<;>rfl
  ·rw[mg h4,an.2 h4];simp
theorem var_eq (x:ae) (h:E x=fE E S x):iM x=some (x.ah==4&&E x):=by
 unfold iM;simp only[ux,sb,aGO,LZ,beq_true];by_cases h4:x.ah=4
 ·rw[h,fE,h4];rfl
 ·rw[an.2 h4];rfl
mutual
def AA:ae->Bool | .mk k _ _ a=>if k=7/\a≠[]then aMH a else k==4||k==8
def aMH:List ae->Bool | []=>false | x::_=>AA x
end
theorem aga:∀(k m:Int) (t:aE) (e:List ae),∃a b c d,kS k m t e=some (a,b,c,d)/\AA (.mk k m t e)=(a==4||a==8)
 | k,m,t,e=>by
  rw[kS,AA];by_cases h:k=7
  ·match e with
   | .mk k1 g i f::y=>rw[An h,An aRV,An ⟨h,by simp⟩,fZ,sb];exact aga k1 g i f
   | []=>rw[An h,mg aRN,mg (λq=>q.2 rfl)];exact⟨_,_,_,_,rfl,rfl⟩
  ·rw[mg h,mg (λq=>h q.1)];exact⟨_,_,_,_,rfl,rfl⟩
theorem qO (x:ae):fY x=some (AA x):=by
 cases x with
 | mk k m t e=>
  obtain⟨a,b,c,d,h1,h2⟩:=aga k m t e;unfold fY;simp only[ae.qo,ae.rq,ae.nz,ae.kg,h1,sb];rw[h2];by_cases h:a=4
  ·rw[An h,h];rfl
  ·rw[mg h,an.2 h,aOt]
theorem Vi:∀(N:Nat) (x:ae),sz x<N->(∀y,sz y<=sz x->wt y<=wt x->E y=fE E S y)->E x=true->AA x=uc x
 | 0,x,h,_,_=>by omega
 | N+1,.mk k m t e,h,f,he=>by
  rw[AA,uc];by_cases d:k=7
  ·subst d;have h1:=f _ (Of _) (Of _);rw[he,fE]at h1
   have h2:gE E S 7 e=true:=by
    have:=h1.symm;simp only[As]at this;exact this.2.2
   match e,h2 with
   | [a,b],h2=>
    rw[An ⟨rfl,by simp⟩,An ⟨rfl,rfl⟩];have i:(E a&&E b)=true:=h2;have g:a∈(ae.mk 7 m t [a,b]).af:=by simp
    have hs:=qY g;have hw:=jj g;exact Vi N a aRK (λy q q2=>f y aRK aRK) (Bool.and_eq_true_iff.1 i).1
   | [],h2=>cases h2
   | [a],h2=>cases h2
   | a::b::c::r,h2=>cases h2
  ·rw[mg (λq=>d q.1),mg (λq=>d q.1)]
end
set_option maxRecDepth 100000
section
variable {E S:ae->Bool}
theorem ard (n:ae) (h:n.ah=4):iM n=some (n.aF==0&&(good n.ak&&(n.af.length:Int)==0)):=by
 unfold iM;rw[An h,ux,sb];by_cases h0:n.aF=0
 ·rw[An h0,h0];cases good n.ak<;>rfl
 ·rw[mg h0,an.2 h0];rfl
theorem aje (n:ae) (A:n.ak.length<4294967281) (f:n.af.length<4611686018427387904) (B:∀x∈n.af,x.af.length<4611686018427387904)
  (C:∀x∈n.af,cZ x=some (E x)) (D:∀x∈n.af,∀y∈x.af,cZ y=some (E y)) (F:∀x∈n.af,dz x=some (S x))
  (hv:∀x∈n.af,E x=fE E S x) (e:∀x∈n.af,E x=true->AA x=uc x):cZ n=some (fE E S n):=by
 have he:=L0 n.af C f;have hp:=af9 n D B f n.af.length 0 aRK;rw[show((0:Nat):Int)=0 from rfl,aOu]at hp;have G:=ard n;rw[cZ,fE];generalize n.af=d at*;generalize n.ak=t at*;generalize n.aF=m at*;generalize n.ah=k at*;by_cases hk:1<=k/\k<=23
 ·rcases(by omega:k=1\/k=2\/k=3\/k=4\/k=5\/k=6\/k=7\/k=8\/k=9\/k=10\/k=11\/k=12\/k=13\/k=14\/k=15\/k=16\/k=17\/k=18\/k=19\/k=20\/k=21\/k=22\/k=23)with h | h | h | h | h | h | h | h | h | h | h | h | h | h | h | h | h | h | h | h | h | h | h<;>subst h
  all_goals
   simp only[gE,aOO,aOV,Int.reduceEq,Int.reduceBEq,aOw,aOn,aOs,aPl,aPa,aOt,aOi,sb,he,qO,uw,ux,VT t A,nest,LZ,beq_true,<-ln1 (E:=E),<-ln2 (E:=E),<-ln3 (E:=E),<-aGP (E:=E)]
  case inr.inr.inr.inl=>
   rw[G rfl];rfl
  case inr.inr.inr.inr.inl=>
   show _=some (m==0&&(t==([]:aE)&&d.all (prK E)));rw[hp,sb];cases d.all (prK E)
   ·show some false=_;simp
   ·by_cases h0:m=0
    ·rw[h0];simp [ob2,sb]
    ·rw[an.2 h0];simp [ob2,h0,sb]
  case inr.inr.inr.inr.inr.inl=>simp
  case inr.inr.inr.inr.inr.inr.inr.inr.inl=>
   rw[ln1];by_cases h1:m=1
   ·rw[An h1,h1];rfl
   ·rw[mg h1,sb];by_cases h2:m=2
    ·rw[h2];rfl
    ·rw[an.2 h2,show tN 9 m=false from aOS aRK];rfl
  case inr.inr.inr.inr.inr.inr.inr.inr.inr.inr.inr.inr.inr.inr.inl=>
   match d,e with
   | [],_=>by_cases h0:m=0<;>by_cases h1:t=([]:aE)<;>simp [h0,h1]
   | [a],_=>by_cases h0:m=0<;>by_cases h1:t=([]:aE)<;>simp [h0,h1]
   | a::b::c::r,_=>rw[mg (show ¬(((a::b::c::r:List ae).length:Int)=2) by simp only[At];omega)];by_cases h0:m=0<;>by_cases h1:t=([]:aE)<;>simp [h0,h1]
   | [a,b],e=>
    show _=some (m==0&&(t==([]:aE)&&(uc a&&(E a&&E b))));rw[fZ,sb,An (show(([a,b]:List ae).length:Int)=2 from rfl),aOv,aOv,aPh,aOK];by_cases h0:m=0
    ·rw[An h0,h0];by_cases h1:t=([]:aE)
     ·rw[An h1,h1];cases g:E a
      ·simp
      ·rw[e a aRN g];cases E b<;>cases uc a<;>rfl
     ·rw[mg h1,an.2 h1];rfl
    ·rw[mg h0,an.2 h0];rfl
  case inr.inr.inr.inr.inr.inr.inr.inr.inr.inr.inr.inr.inr.inr.inr.inl=>
   match d,e with
   | [],_=>by_cases h0:m=0<;>by_cases h1:t=([]:aE)<;>simp [h0,h1]
   | [a],_=>by_cases h0:m=0<;>by_cases h1:t=([]:aE)<;>simp [h0,h1]
   | a::b::c::r,_=>rw[mg (show ¬(((a::b::c::r:List ae).length:Int)=2) by simp only[At];omega)];by_cases h0:m=0<;>by_cases h1:t=([]:aE)<;>simp [h0,h1]
   | [a,b],e=>
    show _=some (m==0&&(t==([]:aE)&&(uc a&&(E a&&E b))));rw[fZ,sb,An (show(([a,b]:List ae).length:Int)=2 from rfl),aOv,aOv,aPh,aOK];by_cases h0:m=0
    ·rw[An h0,h0];by_cases h1:t=([]:aE)
     ·rw[An h1,h1];cases g:E a
      ·simp
      ·rw[e a aRN g];cases E b<;>cases uc a<;>rfl
     ·rw[mg h1,an.2 h1];rfl
    ·rw[mg h0,an.2 h0];rfl
  case inr.inr.inr.inr.inr.inr.inr.inr.inr.inr.inr.inr.inr.inr.inr.inr.inl=>
   match d,hv with
   | [],_=>by_cases h0:m=0<;>cases h1:good t<;>simp [h0,h1,wh,nmK]
   | a::b::r,_=>rw[mg (show ¬(((a::b::r:List ae).length:Int)=1) by simp only[At];omega)];by_cases h0:m=0<;>cases h1:good t<;>simp [h0,h1]
   | [a],hv=>
    show _=some (m==0&&(good t&&(a.ah==4&&E a)));rw[fZ,sb,var_eq a (hv a aRN),sb,An (show(([a]:List ae).length:Int)=1 from rfl)];by_cases h0:m=0
    ·rw[An h0,h0];cases good t<;>rfl
    ·rw[mg h0,an.2 h0];rfl
  case inr.inr.inr.inr.inr.inr.inr.inr.inr.inr.inr.inr.inr.inr.inr.inr.inr.inr.inr.inr.inr.inr=>
   rw[L1 true d f F,sb];show _=some (m==0&&(t==([]:aE)&&fU S true d));by_cases h0:m=0
   ·rw[An h0,h0];by_cases h1:t=([]:aE)
    ·rw[An h1,h1];rfl
    ·rw[mg h1,an.2 h1];rfl
   ·rw[mg h0,an.2 h0];rfl
  case inr.inr.inr.inr.inr.inr.inr.inr.inr.inr.inr.inr.inr.inr.inr.inr.inr.inr.inr.inr.inr.inl=>
   show _=some (m==0&&((good t||t==([115,116,97,116,105,99]:aE))&&d.all E));by_cases h0:m=0
   ·rw[An h0,h0];by_cases h1:t=([115,116,97,116,105,99]:aE)
    ·rw[An h1,h1];simp [sb]
    ·rw[mg h1,an.2 h1,aOs];rfl
   ·rw[mg h0,an.2 h0];rfl
  all_goals first | rfl | (rw[ln1];rfl) | (rw[ln2];rfl) | (rw[ln3];rfl) | (rw[aGP];rfl)
 ·have h1:¬k=1:=by omega
  have h2:¬k=2:=by omega
  have H:¬k=3:=by omega
  have h4:¬k=4:=by omega
  have O:¬k=5:=by omega
  have I:¬k=7:=by omega
  have J:¬k=8:=by omega
  have K:¬k=9:=by omega
  have i:¬k=10:=by omega
  have j:¬k=11:=by omega
  have l:¬k=12:=by omega
  have o:¬k=13:=by omega
  have L:¬k=14:=by omega
  have p:¬k=15:=by omega
  have q:¬k=16:=by omega
  have M:¬k=17:=by omega
  have s:¬k=18:=by omega
  have u:¬k=19:=by omega
  have v:¬k=20:=by omega
  have w:¬k=21:=by omega
  have z:¬k=22:=by omega
  have N:¬k=23:=by omega
  simp only[gE,aOO,aOV,aOw,aOn,aOs,aPl,aPa,aOt,aOP,aOi,sb, *,an.2 h1,an.2 h2,an.2 H,an.2 h4,an.2 I,an.2 J,an.2 K,an.2 i,an.2 j,an.2 l,an.2 o,an.2 p,an.2 q,an.2 s,an.2 u,an.2 v,an.2 w,an.2 z]
end
set_option maxRecDepth 100000
section
variable {E S:ae->Bool}
theorem yc {a:ae} {r:List ae}:qi (a::r) 1=some r:=by
 unfold qi;rw[An ⟨by omega,by simp only[At];omega⟩];rfl
theorem aMI {a:ae} {r:List ae}:Xq (a::r) 1=some [a]:=by
 unfold Xq;rw[An ⟨by omega,by simp only[At];omega⟩];simp
theorem aMJ (x:ae) {β:Type} (Y N:Option β) (hv:∀y∈x.af,E y=fE E S y) (d:∀y∈x.af,dz y=some (S y)) (h4:x.ah=44):
  (if x.aF=0 then bE x.ak>>=λe=>(if e=true then(if(x.af.length:Int)=2 then idx x.af 0>>=λg=>iM g>>=λf=>(if f=true then qi x.af 1>>=λi=>gC i>>=λj=>(if j=true then Y else N)else N)else N)else N)else N)=bif cat E S x then Y else N:=by
 rw[cat,h4,ux,sb];generalize x.aF=m;by_cases h0:m=0
 ·rw[An h0,h0];cases good x.ak
  ·rfl
  rw[An rfl]
  match h:x.af,hv,d with
  | [],_,_=>rfl
  | [a],_,_=>rfl
  | a::b::c::r,_,_=>rw[mg (show ¬(((a::b::c::r:List ae).length:Int)=2) by simp only[At];omega)];rfl
  | [a,b],hv,d=>
   rw[An (by rfl),fZ,sb,var_eq a (hv a aRN),sb,yc,sb,yb [b] (λy hy=>d y (by simp at hy ⊢;exact .inr hy)) aRN,sb,aOv,aPh,aOK];show _=bif ((a.ah==4)&&(E a&&bl S b))then Y else N
   cases(a.ah==4)<;>cases E a<;>cases bl S b<;>rfl
 ·rw[mg h0,an.2 h0];rfl
theorem aMK (x:ae) (c:∀y∈x.af,dz y=some (S y)) (h4:x.ah=45):
  (if x.aF=0 then(if x.ak=([]:aE)then(if(x.af.length:Int)=1 then gC x.af>>=λd=>some d else some false)else some false)else some false)=some (fin S x):=by
 rw[fin,h4];generalize x.aF=m;generalize x.ak=t;by_cases h0:m=0
 ·rw[An h0,h0];by_cases h1:t=([]:aE)
  ·rw[An h1,h1]
   match h:x.af,c with
   | [],_=>rfl
   | a::b::r,_=>rw[mg (show ¬(((a::b::r:List ae).length:Int)=1) by simp only[At];omega)];rfl
   | [a],c=>
    rw[An (by rfl),yb [a] c aRN,sb,aOv,aPh,aOK];rfl
  ·rw[mg h1,an.2 h1];rfl
 ·rw[mg h0,an.2 h0];rfl
theorem arf (x:ae) (h:¬x.ah=44):cat E S x=false:=by rw[cat,an.2 h];rfl
theorem agb (x:ae) (h:¬x.ah=45):fin S x=false:=by rw[fin,an.2 h];rfl
def fR (S:ae->Bool) (l:List ae):Bool:=match l with | []=>true | [c]=>fin S c | _=>false
def fT (E S:ae->Bool) (d:List ae):Bool:=match d with | [a,b]=>bl S a&&(cat E S b||fin S b) | [a,b,c]=>bl S a&&(cat E S b&&fin S c) | _=>false
theorem aML (e:List ae) (k:∀x∈e,dz x=some (S x)) (m:∀x∈e,∀y∈x.af,E y=fE E S y) (g:∀x∈e,∀y∈x.af,dz y=some (S y)):
  yf e=some (fT E S e):=by
 rw[yf];rcases e with _ | ⟨a,_ | ⟨b,r⟩⟩
 ·rfl
 ·rfl
 rw[mg (show ¬(((a::b::r:List ae).length:Int)<2) by simp only[At];omega),aMI,sb,yb [a] (λx hx=>k x (by simp at hx ⊢;exact .inl hx)) aRN,sb,yc,sb,yc,aOv,aPh,aOK,fZ,sb,sb]
 have K:∀(l:List ae) (_:l=r\/l=b::r),(if(l.length:Int)=0 then some true else idx l 0>>=λi=>(if(l.length:Int)=1 then(if i.ah=45 then(if i.aF=0 then(if i.ak=([]:aE)then(if(i.af.length:Int)=1 then gC i.af>>=λn=>some n else some false)else some false)else some false)else some false)else some false))=some (fR S l):=by
  intro l o;rcases l with _ | ⟨c,_ | ⟨d,q⟩⟩
  ·rfl
  ·rw[mg (show ¬((([c]:List ae).length:Int)=0) by simp),fZ,sb,An (show(([c]:List ae).length:Int)=1 from rfl)];by_cases j:c.ah=45
   ·rw[An j,aMK c (g c (by rcases o with h | h<;>simp [<-h])) j];rfl
   ·rw[mg j];show _=some (fin S c);rw[agb c j]
  ·rw[mg (show ¬(((c::d::q:List ae).length:Int)=0) by simp only[At];omega),fZ,sb,mg (show ¬(((c::d::q:List ae).length:Int)=1) by simp only[At];omega)];rfl
 by_cases h4:b.ah=44
 ·rw[An h4,aMJ (E:=E) (S:=S) b (some (Sum.inl r:List ae ⊕ Bool)) (some (Sum.inr false)) (m b aRN) (g b aRN) h4];have hf:fin S b=false:=agb b aRK;cases f:bl S a
  ·rcases r with _ | ⟨c,_ | ⟨d,q⟩⟩<;>simp [fT,f]
  ·rw[An rfl];cases hc:cat E S b
   ·show some false=_;rcases r with _ | ⟨c,_ | ⟨d,q⟩⟩<;>simp [fT,f,hc,hf]
   ·show(if(r.length:Int)=0 then _ else _)=_;rw[K r (.inl rfl)];rcases r with _ | ⟨c,_ | ⟨d,q⟩⟩<;>simp [fT,fR,f,hc,hf]
 ·rw[mg h4,sb];have hf:cat E S b=false:=arf b h4;cases f:bl S a
  ·rcases r with _ | ⟨c,_ | ⟨d,q⟩⟩<;>simp [fT,f]
  ·rw[An rfl];show(if((b::r).length:Int)=0 then _ else _)=_;rw[K (b::r) (.inr rfl)];rcases r with _ | ⟨c,_ | ⟨d,q⟩⟩<;>simp [fT,fR,f,hf]
end
set_option maxRecDepth 100000
section
variable {E S:ae->Bool}
theorem ajf (n:ae) (J:n.ak.length<4294967281) (H:n.af.length<4611686018427387904)
  (f:∀x∈n.af,cZ x=some (E x)) (i:∀x∈n.af,dz x=some (S x)) (v:∀x∈n.af,∀y∈x.af,dz y=some (S y))
  (hv:∀x∈n.af,E x=fE E S x) (K:∀x∈n.af,∀y∈x.af,E y=fE E S y) (L:∀x∈n.af,E x=true->AA x=uc x):dz n=some (fS E S n):=by
 have he:=L0 n.af f H;have hp:=af8 n i H n.af.length 0 aRK;rw[show((0:Nat):Int)=0 from rfl,aOu]at hp;have M:=aML n.af i K v;rw[dz,fS];generalize n.af=g at*;generalize n.ak=t at*;generalize n.aF=m at*;generalize n.ah=k at*;by_cases hk:31<=k/\k<=48
 ·have e0:tN k m=(m==0):=by
   unfold tN;rw[mg aRK,mg aRK,mg aRK,mg aRK,mg aRK,mg aRK]
  rw[e0];by_cases h0:m=0;rotate_left
  ·rw[mg h0,an.2 h0];rfl
  rw[An h0,h0];show _=some (wh k t&&gS E S k g);rcases(by omega:k=31\/k=32\/k=33\/k=34\/k=35\/k=36\/k=37\/k=38\/k=39\/k=40\/k=41\/k=42\/k=43\/k=44\/k=45\/k=46\/k=47\/k=48)with h | h | h | h | h | h | h | h | h | h | h | h | h | h | h | h | h | h<;>subst h
  all_goals
   simp only[gS,aOO,aOV,Int.reduceEq,Int.reduceBEq,aOw,aOn,aOs,aPl,aPa,aOt,aOi,sb,he,uw,ux,contains_eq t J,nest,LZ,beq_true]
  case inl=>
   show _=some (t31 t&&(g.length:Int)==0);unfold t31;by_cases h1:t=([]:aE)
   ·rw[An h1,h1];rfl
   ·rw[mg h1,an.2 h1];cases decide (0<=Lib.index t [60,63])<;>rfl
  case inr.inr.inr.inl=>
   show _=some (t==([]:aE)&&_);by_cases h1:t=([]:aE);rotate_left
   ·rw[mg h1,an.2 h1];rfl
   rw[An h1,h1];rcases g with _ | ⟨a,_ | ⟨b,_ | ⟨c,_ | ⟨d,r⟩⟩⟩⟩
   ·rfl
   ·rfl
   ·rw[fZ,sb,f a aRN,sb,yc,sb,yb [b] (λx hx=>i x aSz) aRN,sb,aOv,aPh,aOK];dsimp only;cases E a<;>cases bl S b<;>rfl
   ·rw[fZ,sb,f a aRN,sb,yc,sb,yb [b,c] (λx hx=>i x aSz) aRN,sb,aOv,aOv,aPh,aOK];dsimp only;cases E a<;>cases bl S b<;>cases bl S c<;>rfl
   ·rw[aOS aRV];rfl
  case inr.inr.inr.inr.inl=>
   show _=some (t==([]:aE)&&_);by_cases h1:t=([]:aE);rotate_left
   ·rw[mg h1,an.2 h1];rfl
   rw[An h1,h1];rcases g with _ | ⟨a,_ | ⟨b,_ | ⟨c,r⟩⟩⟩
   ·rfl
   ·rfl
   ·rw[fZ,sb,f a aRN,sb,yc,sb,yb [b] (λx hx=>i x aSz) aRN,sb,aOv,aPh,aOK];dsimp only;cases E a<;>cases bl S b<;>rfl
   ·rw[mg (show ¬(((a::b::c::r:List ae).length:Int)=2) by simp only[At];omega)];rfl
  case inr.inr.inr.inr.inr.inl=>
   show _=some (t==([]:aE)&&_);by_cases h1:t=([]:aE);rotate_left
   ·rw[mg h1,an.2 h1];rfl
   rw[An h1,h1];rcases g with _ | ⟨a,_ | ⟨b,_ | ⟨c,_ | ⟨d,_ | ⟨e,r⟩⟩⟩⟩⟩
   ·rfl
   ·rfl
   ·rfl
   ·rw[fZ,te,sb,sb,f a aRN,sb,var_eq b (hv b aRN),sb,An (show(([a,b,c]:List ae).length:Int)=3 from rfl),show bm ((([a,b,c]:List ae).length:Int) - 1)=2 from rfl,show qi [a,b,c] 2=some [c]from rfl,sb,yb [c] (λx hx=>i x (by simp at hx ⊢;exact .inr (.inr hx))) aRN,sb,aOv,aPh,aOK];dsimp only;cases(b.ah==4)<;>cases E a<;>cases E b<;>cases bl S c<;>rfl
   ·rw[fZ,te,E1,sb,sb,sb,f a aRN,sb,var_eq b (hv b aRN),sb,mg (show ¬(([a,b,c,d]:List ae).length:Int)=3 by simp),var_eq c (hv c aRN),sb,show bm ((([a,b,c,d]:List ae).length:Int) - 1)=3 from rfl,show qi [a,b,c,d] 3=some [d]from rfl,sb,yb [d] (λx hx=>i x (by simp at hx ⊢;exact .inr (.inr (.inr hx)))) aRN,sb,aOv,aPh,aOK];dsimp only;cases(b.ah==4)<;>cases(c.ah==4)<;>cases E a<;>cases E b<;>cases E c<;>cases bl S d<;>rfl
   ·rw[aOS aRV];rfl
  case inr.inr.inr.inr.inr.inr.inr.inr.inl=>rw[aGQ];rfl
  case inr.inr.inr.inr.inr.inr.inr.inr.inr.inr.inl=>
   show _=some (t==([]:aE)&&_);by_cases h1:t=([]:aE);rotate_left
   ·rw[mg h1,an.2 h1];rfl
   rw[An h1,h1];rcases g with _ | ⟨a,_ | ⟨b,r⟩⟩
   ·rfl
   ·rw[An (show(([a]:List ae).length:Int)=1 from rfl),fZ,sb,vh,qO,sb,f a aRN,sb];show _=some (uc a&&E a);cases N:E a
    ·cases AA a<;>simp [sb]
    ·rw[L a aRN N];cases uc a<;>rfl
   ·rw[mg (show ¬(((a::b::r:List ae).length:Int)=1) by simp only[At];omega)];rfl
  case inr.inr.inr.inr.inr.inr.inr.inr.inr.inr.inr.inr.inl=>
   rw[M,sb];by_cases h1:t=([]:aE)
   ·rw[An h1,h1];rfl
   ·rw[mg h1,show wh 43 t=false from an.2 h1];rfl
  case inr.inr.inr.inr.inr.inr.inr.inr.inr.inr.inr.inr.inr.inr.inr.inl=>
   show _=some (t==([]:aE)&&_);by_cases h1:t=([]:aE);rotate_left
   ·rw[mg h1,an.2 h1];rfl
   rw[An h1,h1];rcases g with _ | ⟨a,_ | ⟨b,_ | ⟨c,r⟩⟩⟩
   ·rfl
   ·rw[show bm ((([a]:List ae).length:Int) - 1)=0 from rfl,fZ,sb,sb,f a aRN];rfl
   ·rw[show bm ((([a,b]:List ae).length:Int) - 1)=1 from rfl,fZ,te,sb,sb,f b aRN,var_eq a (hv a aRN),sb,sb];dsimp only;cases(a.ah==4)<;>cases E a<;>cases E b<;>rfl
   ·rw[mg (show ¬(((a::b::c::r:List ae).length:Int)=1) by simp only[At];omega),mg (show ¬(((a::b::c::r:List ae).length:Int)=2) by simp only[At];omega)];rfl
  case inr.inr.inr.inr.inr.inr.inr.inr.inr.inr.inr.inr.inr.inr.inr.inr.inr=>
   rw[hp,sb];show _=some (t==([]:aE)&&_);cases g.all S
   ·cases(t==([]:aE))<;>rfl
   ·cases(t==([]:aE))<;>rfl
  all_goals first
   | rfl
   | (
    show _=some (t==([]:aE)&&_);by_cases h1:t=([]:aE)
    ·rw[An h1,h1];rcases g with _ | ⟨a,_ | ⟨b,r⟩⟩
     ·rfl
     ·rw[An (show(([a]:List ae).length:Int)=1 from rfl),fZ,sb,f a aRN];rfl
     ·rw[mg (show ¬(((a::b::r:List ae).length:Int)=1) by simp only[At];omega)];rfl
    ·rw[mg h1,an.2 h1];rfl)
   | (simp;done)
 ·have j:¬k=31:=by omega
  have l:¬k=32:=by omega
  have o:¬k=33:=by omega
  have w:¬k=34:=by omega
  have z:¬k=35:=by omega
  have A:¬k=36:=by omega
  have p:¬k=37:=by omega
  have q:¬k=38:=by omega
  have B:¬k=39:=by omega
  have I:¬k=40:=by omega
  have C:¬k=41:=by omega
  have s:¬k=42:=by omega
  have D:¬k=43:=by omega
  have F:¬k=46:=by omega
  have u:¬k=47:=by omega
  have G:¬k=48:=by omega
  simp only[gS,aOO,aOV,aOw,aOn,aOs,aPl,aPa,aOt,aOP,aOi,sb,an.2 j,an.2 l,an.2 o,an.2 p,an.2 q,an.2 I,an.2 s,an.2 u,j,l,o,w,z,A,p,q,B,I,C,s,D,F,u,G,ite_self]
end
set_option maxRecDepth 100000
theorem vtg {x:ae} (h:wt x<=134217728) (he:vE x=true):AA x=uc x:=Vi (S:=vS) _ x (aOr _) (λy _ hw=>J3 aRK) he
theorem Vj:∀(N:Nat) (n:ae),sz n<N->wt n<=134217728->cZ n=some (vE n)/\dz n=some (vS n)
 | 0,n,h,_=>by omega
 | N+1,n,h,hw=>by
  have hk:∀x∈n.af,_:=λx hx=>Vj N x (by have:=qY hx;omega) (by have:=jj hx;omega);have a:∀x∈n.af,∀y∈x.af,_:=λx hx y hy=>Vj N y (by have:=qY hx;have:=qY hy;omega) (by have:=jj hx;have:=jj hy;omega);have bd:∀x:ae,wt x<=134217728->x.ak.length<4294967281/\x.af.length<4611686018427387904:=λx hx=>by have:=xU x;omega
  have w1:∀x∈n.af,wt x<=134217728:=λx hx=>by have:=jj hx;omega
  have b:∀x∈n.af,∀y∈x.af,wt y<=134217728:=λx hx y hy=>by have:=jj hx;have:=jj hy;omega
  rw[J3 hw,Vf hw]
  exact⟨aje n (bd n hw).1 (bd n hw).2 (λx hx=>(bd x (w1 x hx)).2) (λx hx=>(hk x hx).1) (λx hx y hy=>(a x hx y hy).1) (λx hx=>(hk x hx).2) (λx hx=>J3 (w1 x hx)) (λx hx=>vtg (w1 x hx)),
   ajf n (bd n hw).1 (bd n hw).2 (λx hx=>(hk x hx).1) (λx hx=>(hk x hx).2) (λx hx y hy=>(a x hx y hy).2) (λx hx=>J3 (w1 x hx)) (λx hx y hy=>J3 (b x hx y hy)) (λx hx=>vtg (w1 x hx))⟩
theorem iE {n:ae} (h:wt n<=134217728):cZ n=some (vE n):=(Vj _ n (aOr _) h).1
theorem iS {n:ae} (h:wt n<=134217728):dz n=some (vS n):=(Vj _ n (aOr _) h).2
theorem bdk {n:ae} (h:wt n<=134217728):n.ak.length<=134217728/\n.af.length<=134217728:=by have:=xU n;omega
theorem wk {n:ae} (h:wt n<=134217728):∀x∈n.af,wt x<=134217728:=λx hx=>by have:=jj hx;omega
theorem agc {n:ae} (h:wt n<=134217728):sz n<4611686018427387904:=by have:=alq n;omega
def m54 (a:List ae):Bool:=match a with | [y]=>decide (1<=y.ah/\y.ah<=3)&&vE y | _=>false
def DV (c:Bool):Bool->Bool->List ae->Bool
 | _,_,[]=>true
 | f,p,x::r=>bif x.ah==52 then(f&&(c&&(x.aF==0&&(good x.ak&&(x.af.length:Int)==0))))&&DV c false false r
  else bif x.ah==53 then(!p&&(x.aF==0&&(good x.ak&&(x.af.length:Int)==0)))&&DV c false false r
  else bif x.ah==54 then(decide (0<=x.aF/\x.aF<=1)&&(good x.ak&&m54 x.af))&&DV c false true r
  else(x.ah==55&&(decide (0<=x.aF/\x.aF<=3)&&(good x.ak&&fU vS false x.af)))&&DV c false true r
theorem s54 (c:List ae) (hw:∀x∈c,wt x<=134217728) (d e:Bool) (y5:Nat) (Z:Option (Unit ⊕ Bool)) (K:Int×Bool->Option (Unit ⊕ Bool)):
  ((if(c.length:Int)=1 then idx c 0>>=λf=>yO f.ah 1 3>>=λg=>(if g=true then idx c 0>>=λh=>bG h>>=λi=>some (2,i)else some (2,false))else some (2,false))>>=K)=K (2,m54 c):=by
 rcases c with _ | ⟨a,_ | ⟨b,r⟩⟩
 ·rfl
 ·rw[An (show(([a]:List ae).length:Int)=1 from rfl),fZ,sb,tc,sb,sb,spE (hw a aRN),m54];cases decide (1<=a.ah/\a.ah<=3)<;>rfl
 ·rw[mg (show ¬(((a::b::r:List ae).length:Int)=1) by simp only[At];omega)];rfl
theorem i54 (c:List ae) (hw:∀x∈c,wt x<=134217728) {β:Type} (Y N:Option β):
  (if(c.length:Int)=1 then idx c 0>>=λd=>PN d.ah 1 3>>=λf=>(if f=true then idx c 0>>=λe=>cZ e>>=λg=>(if g=true then Y else N)else N)else N)=bif m54 c then Y else N:=by
 rcases c with _ | ⟨a,_ | ⟨b,r⟩⟩
 ·rfl
 ·rw[An (show(([a]:List ae).length:Int)=1 from rfl),fZ,sb,uw,sb,sb,iE (hw a aRN),m54];cases decide (1<=a.ah/\a.ah<=3)<;>cases vE a<;>rfl
 ·rw[mg (show ¬(((a::b::r:List ae).length:Int)=1) by simp only[At];omega)];rfl
theorem arh (n:ae) (hw:wt n<=134217728):∀(f i:Nat) (y:Int),n.af.length<=i+f->(y=0↔i=0)->0<=y->iA n y (i:Int)=some (ob2 (DV (!(n.ah==51)) (decide (i=0)) (decide (1<y)) (n.af.drop i)))
 | f,i,y,hf,hy,j=>by
  have q:=(bdk hw).2;rw[iA];by_cases hc:i<n.af.length
  ·obtain⟨g,rfl⟩:∃g,f=g+1:=⟨f - 1,by omega⟩;have hx:=wk hw _ (aOD hc);have l:=arh n hw g (i+1) 1 aRK aRK aRK;have o:=arh n hw g (i+1) 2 aRK aRK aRK;rw[An aRK,dP hc,sb,ux,sb,bz aRK,l,o,aOq hc,DV];generalize n.af[i]=x at hx;rw[i54 _ (wk hx),uw,sb,L1 (S:=vS) false x.af (by have:=(bdk hx).2;omega) (λz p=>iS (wk hx z p)),sb];rw[show decide (i+1=0)=false from aOS aRK,show decide ((1:Int)<1)=false from rfl,show decide ((1:Int)<2)=true from rfl]
   have e0:∀(b:Bool),(if(x.af.length:Int)>0 then(some (.inr (.inr false)):Option (Unit ⊕ (Unit ⊕ Bool)))else some (ob2 b))=some (ob2 ((x.af.length:Int)==0&&b)):=by
    intro b;by_cases h:(x.af.length:Int)>0
    ·rw[An h,an.2 aRK];rfl
    ·rw[mg h,show(x.af.length:Int)=0 by omega];rfl
   rw[e0];generalize DV (!(n.ah==51)) false false (n.af.drop (i+1))=r;generalize DV (!(n.ah==51)) false true (n.af.drop (i+1))=s;generalize fU vS false x.af=U;generalize m54 x.af=M;generalize((x.af.length:Int)==0)=L;generalize x.aF=m;generalize x.ah=k;cases good x.ak
   ·simp;rfl
   rw[An rfl];by_cases h1:k=52
   ·rw[An h1,h1];by_cases h2:n.ah=51
    ·rw[An h2,h2];simp;rfl
    ·rw[mg h2,an.2 h2];by_cases c:y>0
     ·rw[An c,aOS (show ¬i=0 by omega)];rfl
     ·rw[mg c,aPs (show i=0 by omega)];by_cases h4:m=0
      ·rw[An h4,h4];rfl
      ·rw[mg h4,an.2 h4];rfl
   ·rw[mg h1,an.2 h1];by_cases d:k=53
    ·rw[An d,d];by_cases c:y>1
     ·rw[An c,aPs (show 1<y by omega)];rfl
     ·rw[mg c,aOS (show ¬1<y by omega)];by_cases h4:m=0
      ·rw[An h4,h4];rfl
      ·rw[mg h4,an.2 h4];rfl
    ·rw[mg d,an.2 d];by_cases e:k=54
     ·rw[An e,e];by_cases h4:m=0
      ·rw[An h4,h4];cases M<;>rfl
      ·rw[mg h4];by_cases a:m=1
       ·rw[An a,a];cases M<;>rfl
       ·rw[mg a,aOS (show ¬(0<=m/\m<=1) by omega)];rfl
     ·rw[mg e,an.2 e];by_cases a:k=55
      ·rw[An a,a];cases decide (0<=m/\m<=3)<;>cases U<;>rfl
      ·rw[mg a,an.2 a];rfl
  ·rw[mg aRK,aOk aRK];cases decide (i=0)<;>cases decide (1<y)<;>rfl
set_option maxRecDepth 100000
theorem ajg (n:ae) (hw:wt n<=134217728):∀(f i:Nat) (y:Int),n.af.length<=i+f->(i=0->y=0)->0<=y->y<=2->lr n y (i:Int)=some (HU (DV (n.ah==50) (decide (i=0)) (decide (1<y)) (n.af.drop i)))
 | f,i,y,hf,hy,p,q=>by
  have w:=(bdk hw).2;rw[lr];by_cases hc:i<n.af.length
  ·obtain⟨g,rfl⟩:∃g,f=g+1:=⟨f - 1,by omega⟩;have hx:=wk hw _ (aOD hc);have h:=ajg n hw g (i+1) 0 aRK aRK aRK aRK;have j:=ajg n hw g (i+1) 1 aRK aRK aRK aRK;have b:=ajg n hw g (i+1) 2 aRK aRK aRK aRK;rw[show decide (i+1=0)=false from aOS aRK]at h j b;rw[show decide ((1:Int)<0)=false from rfl]at h;rw[show decide ((1:Int)<1)=false from rfl]at j;rw[show decide ((1:Int)<2)=true from rfl]at b;rw[An aRK,dP hc,sb,CM _ (by have:=(bdk hx).1;omega),sb,bz aRK,aOq hc,DV];generalize n.af[i]=x at hx;have k:∀K:Int×Bool->Option (Unit ⊕ Bool),((if(x.af.length:Int)=1 then idx x.af 0>>=λr=>yO r.ah 1 3>>=λs=>(if s=true then idx x.af 0>>=λt=>bG t>>=λu=>some (2,u)else some (2,false))else some (2,false))>>=K)=K (2,m54 x.af):=s54 x.af (wk hx) true true 0 none;rw[KQ (S:=vS) false x.af (by have:=(bdk hx).2;omega) (λz v=>sB (wk hx z v)),sb];generalize DV (n.ah==50) false false (n.af.drop (i+1))=m at*;generalize DV (n.ah==50) false true (n.af.drop (i+1))=o at*;by_cases h1:x.ah=52
   ·rw[An h1,h1];show _=some (HU ((decide (i=0)&&(n.ah==50&&(x.aF==0&&(good x.ak&&(x.af.length:Int)==0))))&&m));rw[show tN 52 x.aF=(x.aF==0)from rfl,show wh 52 x.ak=good x.ak from rfl];by_cases h2:i=0
    ·rw[An aRK,aPs h2];have l:=hy h2;subst l;by_cases a:n.ah=50
     ·rw[An a,a];show(if(x.aF==0)=true then _ else _)=_;cases(x.aF==0)<;>cases good x.ak<;>cases((x.af.length:Int)==0)<;>first | rfl | (rw[An rfl,An rfl,An rfl,mg aRL,h];rfl)
     ·rw[mg a,an.2 a];show(if(x.aF==0)=true then _ else _)=_;cases(x.aF==0)<;>cases good x.ak<;>rfl
    ·rw[mg aRK,aOS h2];show(if(x.aF==0)=true then _ else _)=_;cases(x.aF==0)<;>cases good x.ak<;>rfl
   rw[mg h1,an.2 h1];by_cases c:x.ah=53
   ·rw[An c,c];show(if(x.aF==0)=true then _ else _)=some (HU ((!decide (1<y)&&(x.aF==0&&(good x.ak&&(x.af.length:Int)==0)))&&m));rw[show wh 53 x.ak=good x.ak from rfl];try dsimp only
    rw[j];by_cases a:1<y
    ·rw[An a,aPs a];cases(x.aF==0)<;>cases good x.ak<;>cases((x.af.length:Int)==0)<;>rfl
    ·rw[mg a,aOS a];cases(x.aF==0)<;>cases good x.ak<;>cases((x.af.length:Int)==0)<;>rfl
   rw[mg c,an.2 c];by_cases d:x.ah=54
   ·rw[An d,d];show((if(x.af.length:Int)=1 then _ else _)>>=_)=_;rw[k];show(if tN 54 x.aF=true then _ else _)=some (HU ((tN 54 x.aF&&(good x.ak&&m54 x.af))&&o));rw[show wh 54 x.ak=good x.ak from rfl];try dsimp only
    rw[b,mg (show ¬(2:Int)<y by omega)];cases tN 54 x.aF<;>cases good x.ak<;>cases m54 x.af<;>rfl
   rw[mg d,an.2 d];by_cases e:x.ah=55
   ·rw[An e,e];show(if tN 55 x.aF=true then _ else _)=some (HU ((tN 55 x.aF&&(good x.ak&&fU vS false x.af))&&o));rw[show wh 55 x.ak=good x.ak from rfl];try dsimp only
    rw[b,mg (show ¬(2:Int)<y by omega)];cases tN 55 x.aF<;>cases good x.ak<;>cases fU vS false x.af<;>rfl
   ·rw[mg e,an.2 e];show(if tN x.ah x.aF=true then _ else _)=_;cases tN x.ah x.aF<;>cases wh x.ah x.ak<;>rfl
  ·rw[mg aRK,aOk aRK];cases decide (i=0)<;>cases decide (1<y)<;>rfl
def vT (n:ae):Bool:=n.aF==0&&(good n.ak&&(bif n.ah==49 then fU vS false n.af else(n.ah==50||n.ah==51)&&DV (n.ah==50) true false n.af))
theorem aMM (n:ae) (hw:wt n<=134217728):uo n=some (vT n):=by
 unfold uo vT;have h0:=arh n hw n.af.length 0 0 aRK aRK aRK;rw[show((0:Nat):Int)=0 from rfl,aOu,show decide ((0:Nat)=0)=true from rfl,show decide ((1:Int)<0)=false from rfl]at h0;rw[ux,sb,h0,L1 (S:=vS) false n.af (by have:=(bdk hw).2;omega) (λz d=>iS (wk hw z d)),sb,sb];by_cases h1:n.aF=0
 ·rw[An h1,h1];cases good n.ak
  ·rfl
  rw[An rfl];by_cases a:n.ah=49
  ·rw[An a,a,sb];rfl
  ·rw[mg a,an.2 a];by_cases b:n.ah=50
   ·rw[An b,b,show(!((50:Int)==51))=true from rfl,show((50:Int)==50)=true from rfl];cases DV true true false n.af<;>rfl
   ·rw[mg b,an.2 b];by_cases c:n.ah=51
    ·rw[c,show(!((51:Int)==51))=false from rfl];cases DV false true false n.af<;>rfl
    ·rw[an.2 c];rfl
 ·rw[mg h1,an.2 h1];rfl
set_option maxRecDepth 100000
def vP (x:ae):Bool:=vT x||vS x
theorem agd {x:ae} (hw:wt x<=134217728) (h:49<=x.ah):vS x=false:=by
 rw[Vf hw,fS];have a:¬x.ah=31:=by omega
 have b:¬x.ah=32:=by omega
 have c:¬x.ah=33:=by omega
 have d:¬x.ah=34:=by omega
 have e:¬x.ah=35:=by omega
 have f:¬x.ah=36:=by omega
 have g:¬x.ah=37:=by omega
 have i:¬x.ah=38:=by omega
 have j:¬x.ah=39:=by omega
 have q:¬x.ah=40:=by omega
 have k:¬x.ah=41:=by omega
 have l:¬x.ah=42:=by omega
 have m:¬x.ah=43:=by omega
 have n:¬x.ah=46:=by omega
 have o:¬x.ah=47:=by omega
 have p:¬x.ah=48:=by omega
 simp only[gS,aOO,aOV,aOn,aOs,aOP,aOi,an.2 a,an.2 b,an.2 c,an.2 g,an.2 i,an.2 q,an.2 l,an.2 o,d,e,f,j,k,m,n,p]
theorem aGR (n:ae) (hw:wt n<=134217728):∀(f i:Nat),n.af.length<=i+f->jw n (i:Int)=some (HU ((n.af.drop i).all vP))
 | f,i,hf=>by
  rw[jw];by_cases hc:i<n.af.length
  ·obtain⟨g,rfl⟩:∃g,f=g+1:=⟨f - 1,by omega⟩;have a:=(bdk hw).2;have hx:=wk hw _ (aOD hc);rw[An aRK,dP hc,sb,aMM _ hx,sb,iS hx,sb,bz aRK,aGR n hw g (i+1) aRK,aOq hc,aOv,vP];cases vT n.af[i]<;>cases vS n.af[i]<;>rfl
  ·rw[mg aRK,aOk aRK];rfl
theorem scl (n:ae) (hw:wt n<=134217728):mG n=some (DV (n.ah==50) true false n.af):=by
 have h0:=ajg n hw n.af.length 0 0 aRK aRK aRK aRK;rw[show((0:Nat):Int)=0 from rfl,aOu,show decide ((0:Nat)=0)=true from rfl,show decide ((1:Int)<0)=false from rfl]at h0;unfold mG;rw[h0,sb];cases DV (n.ah==50) true false n.af<;>rfl
theorem aGS (n:ae) (hw:wt n<=134217728):∀(f i:Nat),n.af.length<=i+f->gx n (i:Int)=some (HU ((n.af.drop i).all vP))
 | f,i,hf=>by
  rw[gx];by_cases hc:i<n.af.length
  ·obtain⟨g,rfl⟩:∃g,f=g+1:=⟨f - 1,by omega⟩;have c:=(bdk hw).2;have hx:=wk hw _ (aOD hc);rw[An aRK,dP hc,sb,CM _ (by have:=(bdk hx).1;omega),sb,bz aRK,aOq hc,aOv,vP];generalize n.af[i]=x at hx;rw[spS hx];show(if x.ah=49 then _ else _)=_;rw[scl x hx,KQ (S:=vS) false x.af (by have:=(bdk hx).2;omega) (λz b=>sB (wk hx z b)),sb,sb,aGS n hw g (i+1) aRK];generalize(n.af.drop (i+1)).all vP=R;by_cases h1:x.ah=49
   ·rw[An h1,h1,agd hx aRK,vT,h1,show tN 49 x.aF=(x.aF==0)from rfl,show wh 49 x.ak=good x.ak from rfl,show((49:Int)==49)=true from rfl];show _=some (HU (((x.aF==0&&(good x.ak&&fU vS false x.af))||false)&&R));cases(x.aF==0)<;>cases good x.ak<;>cases fU vS false x.af<;>rfl
   ·rw[mg h1];by_cases h2:x.ah=50
    ·rw[An h2,h2,agd hx aRK,vT,h2,show tN 50 x.aF=(x.aF==0)from rfl,show wh 50 x.ak=good x.ak from rfl];show _=some (HU (((x.aF==0&&(good x.ak&&DV true true false x.af))||false)&&R));rw[show((50:Int)==50)=true from rfl];cases(x.aF==0)<;>cases good x.ak<;>cases DV true true false x.af<;>rfl
    ·rw[mg h2];by_cases a:x.ah=51
     ·rw[An a,a,agd hx aRK,vT,a,show tN 51 x.aF=(x.aF==0)from rfl,show wh 51 x.ak=good x.ak from rfl];show _=some (HU (((x.aF==0&&(good x.ak&&DV false true false x.af))||false)&&R));rw[show((51:Int)==50)=false from rfl];cases(x.aF==0)<;>cases good x.ak<;>cases DV false true false x.af<;>rfl
     ·rw[mg a,vT,an.2 h1,an.2 h2,an.2 a];cases(x.aF==0)<;>cases good x.ak<;>cases vS x<;>rfl
  ·rw[mg aRK,aOk aRK];rfl
def vZ (n:ae):Bool:=n.ah==56&&(n.aF==0&&(n.ak==([]:aE)&&(decide (sz n<=600/\dp n<=30)&&n.af.all vP)))
theorem C3 (n:ae) (hw:wt n<=134217728):mB n=some (vZ n)/\mD n=some (vZ n):=by
 obtain⟨h1,h2⟩:=aas n (agc hw);have c:=aGR n hw n.af.length 0 aRK;have e2:=aGS n hw n.af.length 0 aRK;rw[show((0:Nat):Int)=0 from rfl,aOu]at c e2;unfold mB mD vZ;rw[h1,h2,sb,sb,c,e2,sb];generalize n.af.all vP=R;generalize decide (sz n<=600/\dp n<=30)=D;generalize n.ah=k;generalize n.aF=m;generalize n.ak=t;by_cases a:k=56
 ·by_cases h4:m=0
  ·by_cases b:t=([]:aE)
   ·rw[An a,An a,An h4,An h4,An b,An b,a,h4,b];cases D<;>cases R<;>exact⟨rfl,rfl⟩
   ·rw[An a,An a,An h4,An h4,mg b,mg b,a,h4,an.2 b];cases D<;>exact⟨rfl,rfl⟩
  ·rw[An a,An a,mg h4,mg h4,a,an.2 h4];cases D<;>exact⟨rfl,rfl⟩
 ·rw[mg a,mg a,an.2 a];cases D<;>exact⟨rfl,rfl⟩
def ltr (c:UInt8):Bool:=decide ((97<=c.toNat/\c.toNat<=122)\/(65<=c.toNat/\c.toNat<=90)\/c.toNat=95)
def nmW:aE->Bool | c::_=>ltr c | []=>false
def FF:List aE:=[[61,61,61],[33,61,61],[60,61,62],[61,61],[33,61],[60,61],[62,61],[61,62],[45,62],[58,58],[38,38],[124,124],[63,63],[43],[45],[42],[47],[37],[46],[61],[33],[60],[62],[40],[41],[91],[93],[123],[125],[44],[59],[63],[58],[38]]
structure Tk (ts:List aj) (e:Int):Prop where
 len:ts.length<=4000
 e0:0<=e
 at0:∀t∈ts,0<=t.bA
 txt:∀t∈ts,t.ak.length<=4000
 nam:∀t∈ts,t.ah=3->nmW t.ak=true
 mrk:∀t∈ts,t.ah=6->FF.contains t.ak=true
inductive JS where
 | g (i:Nat)
 | b (j:Nat)
 | d (j:Nat)
def tok (ts:List aj) (i:Nat):aj:=ts.getD i ⟨0,0,[],0⟩
def kd (ts:List aj) (i:Nat):Int:=(tok ts i).ah
def tx (ts:List aj) (i:Nat):aE:=(tok ts i).ak
def pl (ts:List aj) (e:Int) (j:Nat):Int:=if j<ts.length then(tok ts j).bA else e
def pS (ts:List aj) (e:Int):JS->aH
 | .g i=>⟨ts,i,e,-1⟩
 | .b j=>⟨ts,ts.length,e,pl ts e j⟩
 | .d j=>⟨ts,ts.length,e,pl ts e j⟩
def qS (ts:List aj) (e:Int):JS->ao
 | .g i=>⟨ts,i,e,false⟩
 | .b j=>⟨ts,j,e,true⟩
 | .d j=>⟨ts,j,e,false⟩
def JS.pos:JS->Nat | .g i=>i | .b i=>i | .d i=>i
def tw (ts:List aj) (i:Nat) (w:aE):Bool:=(kd ts i==6||kd ts i==3)&&tx ts i==w
def JS.Ok (ts:List aj):JS->Prop | .g i=>i<=ts.length | .b i=>i<=ts.length | .d i=>i<ts.length/\tw ts i [61]=true
def JS.nd:JS->Bool | .d _=>false | _=>true
def tS (ts:List aj) (s:JS) (w:aE):Bool:=match s with | .g i=>tw ts i w | _=>false
def wS (ts:List aj) (s:JS) (w:aE):JS:=match s with | .g i=>(bif tw ts i w then .g (i+1)else .b i) | .b j=>.b j | .d j=>.b j
def yK (ts:List aj) (k:Int) (i:Nat):Bool:=kd ts i==k&&good (tx ts i)
def nS (ts:List aj) (s:JS) (k:Int):JS:=match s with | .g i=>(bif yK ts k i then .g (i+1)else .b i) | .b j=>.b j | .d j=>.b j
def nT (ts:List aj) (s:JS) (k:Int):aE:=match s with | .g i=>(bif yK ts k i then tx ts i else[]) | _=>[]
def aT (ts:List aj) (i:Nat) (k:Int) (w:aE):Bool:=kd ts i==k&&(w==([]:aE)||tx ts i==w)
def aS (ts:List aj) (s:JS) (o:Nat) (k:Int) (w:aE):Bool:=match s with | .g i=>aT ts (i+o) k w | _=>false
theorem eu {α β:Type} {x:Option α} {a:α} {F:α->Option β} (h:x=some a):(x>>=F)=F a:=by rw[h];rfl
theorem aY {α β:Type} {x:Option α} {a:α} {F:α->Option β} {r:Option β} (h:x=some a) (k:F a=r):(x>>=F)=r:=(eu h).trans k
theorem dM {α β:Type} {x:Option α} {a:α} {F:α->Option β} {r A B:Option β} {c:Prop} {i:Decidable c} (h:x=some a) (k:A=r) (e:F a=@ite _ c i A B:=by rfl) (hc:c:=by rfl):(x>>=F)=r:=(eu h).trans (e.trans ((An hc).trans k))
theorem aI {α β:Type} {x:Option α} {a:α} {F:α->Option β} {r A B:Option β} {c:Prop} {i:Decidable c} (h:x=some a) (k:B=r) (e:F a=@ite _ c i A B:=by rfl) (hc:¬c:=by exact aOo):(x>>=F)=r:=(eu h).trans (e.trans ((mg hc).trans k))
theorem oC {β:Type} {r A B:β} {c:Prop} {i:Decidable c} (hc:c) (k:A=r):@ite _ c i A B=r:=(An hc).trans k
theorem bX {β:Type} {r A B:β} {c:Prop} {i:Decidable c} (hc:¬c) (k:B=r):@ite _ c i A B=r:=(mg hc).trans k
theorem jo (p:aH):aH.mk p.fT p.fI p.ax p.aw=p:=rfl
theorem dD (p:ao):ao.mk p.ar p.bA p.ax p.aw=p:=rfl
theorem Le (n:ae):ae.mk n.ah n.aF n.ak n.af=n:=by cases n;rfl
theorem wW {x:Int} (h1: -9223372036854775808<=x) (h2:x<=9223372036854775807):bm x=x:=w64 h1 h2
section
variable {ts:List aj}{e e':Int}
theorem age {i:Nat} (h:i<ts.length):ts[i]=tok ts i:=by unfold tok;rw[aOp,abF h];rfl
theorem Ek {i:Nat} (h:¬i<ts.length):tok ts i=⟨0,0,[],0⟩:=by unfold tok;rw[aOp,aPc aRK];rfl
theorem tm {i:Nat} (h:kd ts i≠0):i<ts.length:=by
 by_cases hi:i<ts.length
 ·exact hi
 ·exfalso;apply h;unfold kd;rw[Ek hi]
theorem UZ {i:Nat} {w:aE} (h:tw ts i w=true):(kd ts i=6\/kd ts i=3)/\tx ts i=w:=by
 unfold tw at h;simpa using h
theorem ca {i:Nat} {w:aE} (h:tw ts i w=true):i<ts.length:=tm (by have:=(UZ h).1;omega)
theorem az {i:Nat} {w a:aE} (h:tw ts i w=true) (b:(w==a)=false):tw ts i a=false:=by
 obtain⟨_,h2⟩:=UZ h;unfold tw;rw[h2,b,aOP]
theorem El {i:Nat} (h:i<ts.length):tok ts i∈ts:=by rw[<-age h];exact aOD h
theorem vw (H:Tk ts e) (i:Nat):(tx ts i).length<=4000:=by
 by_cases h:i<ts.length
 ·exact H.txt _ (El h)
 ·unfold tx;rw[Ek h];simp
theorem iR {i:Nat} (h:i<ts.length):idx ts (i:Int)=some (tok ts i):=by rw[dP h,age h]
theorem aoZ (H:Tk ts e) (j:Nat):0<=pl ts e j:=by
 unfold pl;split
 ·rename_i h;exact H.at0 _ (El h)
 ·exact H.e0
theorem aM {i:Nat} {w:aE} (H:Tk ts e) (hw:nmW w=false) (b:w≠[]):aT ts i 6 w=tw ts i w:=by
 unfold aT tw;rw[an.2 b,aOt];by_cases a:kd ts i=3
 ·have c:i<ts.length:=tm aRK;have:=H.nam _ (El c) a
  have hx:(tx ts i==w)=false:=by
   rw[an];intro hh;rw[<-hh]at hw;rw[show tx ts i=(tok ts i).ak from rfl,this]at hw;cases hw
  rw[hx,aOP,aOP]
 ·rw[an.2 a,aOs]
theorem aN {i:Nat} {w:aE} (H:Tk ts e) (hw:FF.contains w=false) (b:w≠[]):aT ts i 3 w=tw ts i w:=by
 unfold aT tw;rw[an.2 b,aOt];by_cases a:kd ts i=6
 ·have c:i<ts.length:=tm aRK;have:=H.mrk _ (El c) a
  have hx:(tx ts i==w)=false:=by
   rw[an];intro hh;rw[<-hh]at hw;rw[show tx ts i=(tok ts i).ak from rfl,this]at hw;cases hw
  rw[hx,aOP,aOP]
 ·rw[an.2 a,aOt]
theorem sAt (H:Tk ts e) (s:JS) (hs:s.Ok ts) (o:Nat) (f:o<=10) (k:Int) (hk:k≠0) (w:aE):bq (pS ts e s) (o:Int) k w=some (aS ts s o k w,pS ts e s):=by
 have l:=H.len
 have out:∀x:Int,x=(ts.length:Int)->∀bd:Int,bq ⟨ts,x,e,bd⟩ (o:Int) k w=some (false,⟨ts,x,e,bd⟩):=λx hx bd=>by
  subst hx;unfold bq;rw[mg];rw[wW]<;>simp only<;>omega
 cases s with
 | g i=>
  have hi:i<=ts.length:=hs;show bq ⟨ts,(i:Int),e,-1⟩ (o:Int) k w=some (aT ts (i+o) k w,⟨ts,(i:Int),e,-1⟩);have c:bm ((i:Int)+(o:Int))=((i+o:Nat):Int):=by rw[wW aRK aRK];omega
  unfold bq;simp only[c];by_cases h:i+o<ts.length
  ·rw[An aRK,iR h,sb];unfold aT kd tx;by_cases h2:(tok ts (i+o)).ah=k
   ·rw[An h2,h2,aPI,aPw];by_cases a:w=[]
    ·rw[An a,a];rfl
    ·rw[mg a,sb,an.2 a];rfl
   ·rw[mg h2,an.2 h2];rfl
  ·rw[mg aRK];unfold aT kd;rw[Ek h,an.2 (aPB hk)];rfl
 | b j=>exact out _ rfl _
 | d j=>exact out _ rfl _
theorem dX (H:Tk ts e) (s:JS) (hs:s.Ok ts) (k:Int) (w:aE) (hk:k≠0):bq (pS ts e s) 0 k w=some (aS ts s 0 k w,pS ts e s):=sAt H s hs 0 aRK k hk w
theorem aBn (H:Tk ts e) (s:JS) (hs:s.Ok ts) (k:Int) (w:aE) (hk:k≠0):bq (pS ts e s) 1 k w=some (aS ts s 1 k w,pS ts e s):=sAt H s hs 1 aRK k hk w
theorem aKy (H:Tk ts e) (s:JS) (hs:s.Ok ts) (k:Int) (w:aE) (hk:k≠0):bq (pS ts e s) 2 k w=some (aS ts s 2 k w,pS ts e s):=sAt H s hs 2 aRK k hk w
theorem se (H:Tk ts e) {i:Nat} (h:i<=ts.length):aH.mk (pS ts e (.g i)).fT (bm ((pS ts e (.g i)).fI+1)) (pS ts e (.g i)).ax (pS ts e (.g i)).aw=pS ts e (.g (i+1)):=by
 have:=H.len;show aH.mk ts (bm ((i:Int)+1)) e (-1)=⟨ts,((i+1:Nat):Int),e,-1⟩;rw[bz aRK]
theorem agf {i:Nat} {w:aE} (hw:w≠[]):tw ts i w=(aT ts i 6 w||aT ts i 3 w):=by
 unfold tw aT;rw[an.2 hw,aOt];cases kd ts i==6<;>cases kd ts i==3<;>cases tx ts i==w<;>rfl
theorem ay (H:Tk ts e) {s:JS} (hs:s.Ok ts) {w:aE} (h:tS ts s w=false) (hw:w≠[]:=by decide):aD (pS ts e s) w=some (false,pS ts e s):=by
 have a:aS ts s 0 6 w=false:=by
  cases s with
  | g i=>have:tw ts i w=false:=h;rw[agf hw,aPR]at this;exact this.1
  | _=>rfl
 have b:aS ts s 0 3 w=false:=by
  cases s with
  | g i=>have:tw ts i w=false:=h;rw[agf hw,aPR]at this;exact this.2
  | _=>rfl
 unfold aD;rw[dX H s hs _ _ aRL,sb,a];simp only[aOi,aOn];rw[dX H s hs _ _ aRL,sb,b];rfl
theorem cy (H:Tk ts e) {i:Nat} {w:aE} (h:tw ts i w=true) (hw:w≠[]:=by decide):aD (pS ts e (.g i)) w=some (true,pS ts e (.g (i+1))):=by
 have a:=ca h;have hs:(JS.g i).Ok ts:=aOT a;rw[agf hw]at h;unfold aD;rw[dX H _ hs _ _ aRL,sb];have b:aS ts (.g i) 0 6 w=aT ts i 6 w:=rfl;have c:aS ts (.g i) 0 3 w=aT ts i 3 w:=rfl;rw[b];cases d:aT ts i 6 w with
 | true=>dsimp only;rw[An rfl,se H hs]
 | false=>
  rw[d,aOt]at h;simp only[aOi,aOn];rw[dX H _ hs _ _ aRL,sb,c,h];dsimp only;rw[An rfl,se H hs]
def P6:JS->JS | .g i=>.b i | .b j=>.b j | .d j=>.b j
theorem tl (H:Tk ts e) (s:JS) (hs:s.Ok ts):dw (pS ts e s)=some (.mk 0 0 [] [],pS ts e (P6 s)):=by
 have bad:∀j:Nat,dw ⟨ts,(ts.length:Int),e,pl ts e j⟩=some (.mk 0 0 [] [],⟨ts,(ts.length:Int),e,pl ts e j⟩):=λj=>by
  have:=aoZ H j;unfold dw;rw[mg (by simp only;omega)]
 cases s with
 | g i=>
  have hi:i<=ts.length:=hs;show dw ⟨ts,(i:Int),e,-1⟩=some (.mk 0 0 [] [],⟨ts,(ts.length:Int),e,pl ts e i⟩);unfold dw pl;rw[An (show(-1:Int)<0 by decide)];by_cases h:i<ts.length
  ·simp only;rw[An aRK,iR h,sb,An h]
  ·simp only;rw[mg aRK,mg h]
 | b j=>exact bad j
 | d j=>exact bad j
theorem GC {i:Nat} {w:aE}:wS ts (.g i) w=(bif tw ts i w then .g (i+1)else .b i):=rfl
theorem Pm {i:Nat} {k:Int}:nS ts (.g i) k=(bif yK ts k i then .g (i+1)else .b i):=rfl
theorem afF {i:Nat} {k:Int}:nT ts (.g i) k=(bif yK ts k i then tx ts i else[]):=rfl
theorem kC {s:JS} {w:aE} (h:tS ts s w=false):wS ts s w=P6 s:=by
 cases s with
 | g i=>have:tw ts i w=false:=h;rw[GC,this];rfl
 | _=>rfl
theorem Lb (s:JS) (w:aE):tS ts s w=false\/∃i,s=.g i/\tw ts i w=true:=by
 cases h:tS ts s w with
 | false=>exact .inl rfl
 | true=>
  cases s with
  | g i=>exact .inr ⟨i,rfl,h⟩
  | _=>cases h
theorem eh (H:Tk ts e) (s:JS) (hs:s.Ok ts) (w:aE) (hw:w≠[]:=by decide):aQ (pS ts e s) w=some (pS ts e (wS ts s w)):=by
 unfold aQ;rcases Lb (ts:=ts) s w with h | ⟨i,rfl,h⟩
 ·rw[ay H hs h hw,sb];simp only[aOi,aOn];rw[tl H s hs,sb,kC h]
 ·rw[cy H h hw,sb,GC,h];rfl
theorem kA {s:JS} (hs:s.Ok ts) (w:aE):(wS ts s w).Ok ts:=by
 cases s with
 | g i=>
  rw[GC];cases h:tw ts i w with
  | true=>exact ca h
  | false=>exact hs
 | b j=>exact hs
 | d j=>exact aOT hs.1
theorem nB (s:JS) (w:aE):(wS ts s w).nd=true:=by
 cases s with
 | g i=>rw[GC];cases tw ts i w<;>rfl
 | _=>rfl
theorem uD (s:JS) (k:Int):(nS ts s k).nd=true:=by
 cases s with
 | g i=>rw[Pm];cases yK ts k i<;>rfl
 | _=>rfl
theorem Tc {k:Int} {i:Nat} (hk:k≠0) (h:yK ts k i=true):i<ts.length:=by
 unfold yK at h;simp only[As,aOm]at h;exact tm (by rw[h.1];exact hk)
theorem sd {s:JS} (hs:s.Ok ts) {k:Int} (hk:k≠0):(nS ts s k).Ok ts:=by
 cases s with
 | g i=>
  rw[Pm];cases h:yK ts k i with
  | true=>exact Tc hk h
  | false=>exact hs
 | b j=>exact hs
 | d j=>exact aOT hs.1
theorem js (H:Tk ts e) (s:JS) (k:Int):(nT ts s k).length<=4000:=by
 cases s with
 | g i=>
  rw[afF];cases yK ts k i with
  | true=>exact vw H i
  | false=>exact aPF _
 | _=>exact aPF _
theorem acU {i:Nat} (h:i<4001):bm (bm ((i:Int)+1) - 1)=(i:Int):=by rw[bz aRK];rw[wW aRK aRK];omega
theorem pE (H:Tk ts e) (s:JS) (hs:s.Ok ts) (k:Int) (hk:k≠0:=by decide):cw (pS ts e s) k=some (nT ts s k,pS ts e (nS ts s k)):=by
 have h:=H.len;unfold cw;rw[dX H s hs _ _ hk,sb];cases s with
 | g i=>
  have hi:i<=ts.length:=hs;have f:aS ts (.g i) 0 k []=(kd ts i==k):=by show(kd ts i==k&&true)=_;rw[aOK]
  rw[f];rw[Pm,afF];unfold yK;cases a:kd ts i==k with
  | false=>
   simp only[aOi,aOn];rw[tl H _ hs];rfl
  | true=>
   have c:i<ts.length:=tm (by rw[aOm]at a;rw[a];exact hk);dsimp only;rw[An rfl];show(idx ts (i:Int)>>=_)=_;rw[iR c,sb,TR,sb];cases hg:good (tok ts i).ak with
   | true=>
    rw[An rfl];show(idx ts (bm (bm ((i:Int)+1) - 1))>>=_)=_;rw[acU aRK,iR c,sb,se H hs];unfold tx;rw[hg];rfl
   | false=>
    simp only[aOi,aOn];rw[tl H _ hs,sb];unfold tx;rw[hg];rfl
 | b j=>simp only[aS,aOi,aOn];rw[tl H _ hs];rfl
 | d j=>simp only[aS,aOi,aOn];rw[tl H _ hs];rfl
theorem R6 (H:Tk ts e) (s:JS) (hs:s.Ok ts):ij (pS ts e s)=some (.mk 4 0 (nT ts s 2) [],pS ts e (nS ts s 2)):=by unfold ij;rw[pE H s hs 2,sb]
theorem agh (H:Tk ts e) (s:JS) (hs:s.Ok ts) (o:Nat) (f:o<=10):cR (qS ts e' s) (o:Int)=some (tok ts (s.pos+o),qS ts e' s):=by
 have j:=H.len
 have hp:s.pos<=ts.length:=by
  cases s with
  | g i=>exact hs
  | b i=>exact hs
  | d i=>exact aOT hs.1
 have a:(qS ts e' s).bA=(s.pos:Int):=by cases s<;>rfl
 have e2:(qS ts e' s).ar=ts:=by cases s<;>rfl
 have c:bm ((s.pos:Int)+(o:Int))=((s.pos+o:Nat):Int):=by rw[wW aRK aRK];omega
 unfold cR;rw[a,e2,c];by_cases h:s.pos+o<ts.length
 ·rw[An aRK,iR h,sb]
 ·rw[mg aRK,Ek h]
theorem bV (H:Tk ts e) (s:JS) (hs:s.Ok ts):cR (qS ts e' s) 0=some (tok ts s.pos,qS ts e' s):=agh H s hs 0 aRK
theorem aoX (H:Tk ts e) (s:JS) (hs:s.Ok ts):cR (qS ts e' s) 1=some (tok ts (s.pos+1),qS ts e' s):=agh H s hs 1 aRK
theorem iIs (H:Tk ts e) (s:JS) (hs:s.Ok ts) (o:Nat) (c:o<=10) (w:aE):aX (qS ts e' s) (o:Int) w=some (tw ts (s.pos+o) w,qS ts e' s):=by
 unfold aX tw kd tx;rw[agh H s hs o c,sb];dsimp only;by_cases a:(tok ts (s.pos+o)).ah=6
 ·rw[An a,a];rfl
 ·rw[mg a,an.2 a,aOt];by_cases b:(tok ts (s.pos+o)).ah=3
  ·rw[An b,b];rfl
  ·rw[mg b,an.2 b];rfl
theorem fM (H:Tk ts e) (s:JS) (hs:s.Ok ts) (w:aE):aX (qS ts e' s) 0 w=some (tw ts s.pos w,qS ts e' s):=iIs H s hs 0 aRK w
theorem ahN (H:Tk ts e) (s:JS) (hs:s.Ok ts) (w:aE):aX (qS ts e' s) 1 w=some (tw ts (s.pos+1) w,qS ts e' s):=iIs H s hs 1 aRK w
theorem aKz (H:Tk ts e) (s:JS) (hs:s.Ok ts) (w:aE):aX (qS ts e' s) 2 w=some (tw ts (s.pos+2) w,qS ts e' s):=iIs H s hs 2 aRK w
theorem rf (H:Tk ts e) {i:Nat} (h:i<=ts.length):ao.mk (qS ts e' (.g i)).ar (bm ((qS ts e' (.g i)).bA+1)) (qS ts e' (.g i)).ax (qS ts e' (.g i)).aw=qS ts e' (.g (i+1)):=by
 have:=H.len;show ao.mk ts (bm ((i:Int)+1)) e' false=⟨ts,((i+1:Nat):Int),e',false⟩;rw[bz aRK]
theorem au (H:Tk ts e) {s:JS} (hs:s.Ok ts) {w:aE} (h:tS ts s w=false) (hw:(w==([61]:aE))=false\/s.nd=true:=by exact .inl aRL):av (qS ts e' s) w=some (false,qS ts e' s):=by
 unfold av;cases s with
 | g i=>
  have h:tw ts i w=false:=h;rw[mg aSh,fM H _ hs,sb];show(if tw ts i w=true then _ else _)=_;rw[h];rfl
 | b j=>rfl
 | d j=>
  have hw:(w==([61]:aE))=false:=hw.resolve_right (by simp [JS.nd]);rw[mg aSh,fM H _ hs,sb];show(if tw ts j w=true then _ else _)=_;rw[az hs.2 (by rw[aQb]at hw ⊢;intro hh;apply hw;rw[aOm]at hh ⊢;exact hh.symm)];rfl
theorem bH (H:Tk ts e) {i:Nat} {w:aE} (h:tw ts i w=true):av (qS ts e' (.g i)) w=some (true,qS ts e' (.g (i+1))):=by
 have hs:(JS.g i).Ok ts:=aOT (ca h);unfold av;rw[mg aSh,fM H _ hs,sb];show(if tw ts i w=true then _ else _)=_;rw[h,An rfl,rf H hs]
theorem Uf {s:JS}:ao.mk (qS ts e' s).ar (qS ts e' s).bA (qS ts e' s).ax true=qS ts e' (P6 s):=by cases s<;>rfl
theorem fv (H:Tk ts e) (s:JS) (hs:s.Ok ts) (w:aE) (hw:(w==([61]:aE))=false\/s.nd=true:=by exact .inl aRL):aO (qS ts e' s) w=some (qS ts e' (wS ts s w)):=by
 unfold aO;rcases Lb (ts:=ts) s w with h | ⟨i,rfl,h⟩
 ·rw[au H hs h hw,sb];simp only[aOi,aOn];rw[kC h,Uf]
 ·rw[bH H h,sb,GC,h];rfl
theorem oV (H:Tk ts e) (s:JS) (hs:s.Ok ts) (hd:s.nd=true) (k:Int) (hk:k=2\/k=3):bu (qS ts e' s) k=some (nT ts s k,qS ts e' (nS ts s k)):=by
 unfold bu;rw[bV H s hs,sb];cases s with
 | g i=>
  have hi:i<=ts.length:=hs;dsimp only;rw[mg aSh];show(if kd ts i=k then _ else _)=_;rw[afF,Pm];unfold yK;by_cases a:kd ts i=k
  ·have step:(bE (tok ts i).ak>>=λf=>(if f=true then some ((tok ts i).ak,(ao.mk (qS ts e' (.g i)).ar (bm ((qS ts e' (.g i)).bA+1)) (qS ts e' (.g i)).ax (qS ts e' (.g i)).aw))else some ([],(ao.mk (qS ts e' (.g i)).ar (qS ts e' (.g i)).bA (qS ts e' (.g i)).ax true))))=
     some ((bif good (tx ts i)then tx ts i else[]),qS ts e' (bif good (tx ts i)then .g (i+1)else .b i)):=by
    rw[ux,sb,rf H hi];unfold tx;cases good (tok ts i).ak<;>rfl
   have c:(kd ts i==k)=true:=by rw[a];exact aPI k
   rw[An a,c,aPw];rcases hk with rfl | rfl
   ·rw[mg aRL,An rfl];exact step
   ·rw[An rfl];exact step
  ·have c:(kd ts i==k)=false:=an.2 a;rw[mg a,c];rfl
 | b j=>rfl
 | d j=>cases hd
theorem R9 (H:Tk ts e) (s:JS) (hs:s.Ok ts) (hd:s.nd=true):cK (qS ts e' s)=some (.mk 4 0 (nT ts s 2) [],qS ts e' (nS ts s 2)):=by unfold cK;rw[oV H s hs hd 2 (.inl rfl),sb]
end
set_option maxRecDepth 100000
def rJ (lo hi:Int):List aE->List ae->Bool
 | _,[]=>false
 | seen,x::r=>if lo<=x.ah/\x.ah<=hi then(seen.contains x.ak||rJ lo hi (x.ak::seen) r)else rJ lo hi seen r
theorem Hg {lo hi:Int}:∀(l:List ae) (seen:List aE),(∀x∈l,¬(lo<=x.ah/\x.ah<=hi))->rJ lo hi seen l=false
 | [],_,_=>rfl
 | x::r,seen,h=>by
  rw[rJ,mg (h x aRN)];exact Hg r seen (λy hy=>h y (by simp [hy]))
theorem ajh {E S:ae->Bool} {k:Int} {a:List ae} (h:gE E S k a=true):1<=k/\k<=23/\k≠6:=by
 unfold gE at h;simp only[aOO,aOV,aOs,aOZ,aOm]at h;by_cases h1:k=1\/k=2\/k=3\/k=4
 ·omega
 rw[mg h1]at h;by_cases h2:k=5
 ·omega
 rw[mg h2]at h;by_cases b:k=8\/k=9
 ·omega
 rw[mg b]at h;by_cases h4:k=7\/k=10\/k=11\/k=12\/k=13
 ·omega
 rw[mg h4]at h;by_cases c:k=14
 ·omega
 rw[mg c]at h;by_cases d:k=15\/k=16
 ·omega
 rw[mg d]at h;by_cases e:k=17
 ·omega
 rw[mg e]at h;by_cases f:k=18\/k=21\/k=22
 ·omega
 rw[mg f]at h;by_cases g:k=19\/k=20
 ·omega
 rw[mg g]at h;by_cases h0:k=23
 ·omega
 rw[mg h0]at h;cases h
theorem aji {E S:ae->Bool} {k:Int} {a:List ae} (h:gS E S k a=true):31<=k/\k<=48/\k≠44/\k≠45:=by
 unfold gS at h;simp only[aOO,aOV,aOs,aOZ,aOm]at h;by_cases h1:k=31\/k=37\/k=38\/k=40\/k=47
 ·omega
 rw[mg h1]at h;by_cases h2:k=32\/k=33\/k=42
 ·omega
 rw[mg h2]at h;by_cases b:k=39
 ·omega
 rw[mg b]at h;by_cases h4:k=41
 ·omega
 rw[mg h4]at h;by_cases c:k=34
 ·omega
 rw[mg c]at h;by_cases d:k=35
 ·omega
 rw[mg d]at h;by_cases e:k=36
 ·omega
 rw[mg e]at h;by_cases f:k=46
 ·omega
 rw[mg f]at h;by_cases g:k=48
 ·omega
 rw[mg g]at h;by_cases h0:k=43
 ·omega
 rw[mg h0]at h;cases h
theorem Vk {n:ae} (hw:wt n<=134217728) (h:vE n=true):tN n.ah n.aF=true/\wh n.ah n.ak=true/\gE vE vS n.ah n.af=true:=by
 rw[J3 hw,fE,As,As]at h;exact h
theorem alh {n:ae} (hw:wt n<=134217728) (h:vS n=true):tN n.ah n.aF=true/\wh n.ah n.ak=true/\gS vE vS n.ah n.af=true:=by
 rw[Vf hw,fS,As,As]at h;exact h
theorem Vl {n:ae} (hw:wt n<=134217728) (h:vE n=true):1<=n.ah/\n.ah<=23/\n.ah≠6:=ajh (Vk hw h).2.2
theorem LG {n:ae} (hw:wt n<=134217728) (h:vS n=true):31<=n.ah/\n.ah<=48/\n.ah≠44/\n.ah≠45:=aji (alh hw h).2.2
theorem Ab {n:ae} (hw:wt n<=134217728) (h:vE n=true) (h4:n.ah=4):n=.mk 4 0 n.ak []:=by
 obtain⟨h1,_,h2⟩:=Vk hw h;rw[h4]at h1 h2;have a:n.aF=0:=by simpa[tN]using h1
 have e2:n.af=[]:=by
  have:((n.af.length:Int)==0)=true:=h2;rw[aOm]at this;exact aPt.1 aRK
 conv=>lhs;rw[<-Le n,h4,a,e2]
set_option maxRecDepth 100000
theorem Vm {κ β:Type} [DecidableEq κ] (z v:β) (k c:κ):∀l:List (κ×β),Xv (uy l k v) c z=if c=k then v else Xv l c z
 | []=>by
  unfold uy Xv;by_cases h:c=k
  ·rw[An h,h];simp [pg]
  ·rw[mg h];simp [pg,h]
 | (a,b)::r=>by
  have d:=Vm z v k c r;unfold Xv at d ⊢;unfold uy;by_cases e:k=a
  ·subst e;rw[An rfl];by_cases h:c=k
   ·rw[An h,h];simp [pg]
   ·rw[mg h];simp [pg,h]
  ·rw[mg e];by_cases h:c=k
   ·subst h;rw[An rfl]at d ⊢;simp only[pg];rw[mg e];exact d
   ·rw[mg h]at d ⊢;simp only[pg];by_cases h2:c=a
    ·rw[An h2,An h2]
    ·rw[mg h2,mg h2];exact d
theorem Tw (l:List ae) (e:l.length<=1099511627776) (k1 a:Int) (b:a=k1\/a=k1+1):∀(f i:Nat) (m:List (aE×Bool)) (seen:List aE),l.length<=i+f->(∀t,Xv m t false=seen.contains t)->
  jL l k1 a m (i:Int)=some (if rJ k1 a seen (l.drop i)=true then .inr true else .inl ())
 | f,i,m,seen,h,hm=>by
  rw[jL];by_cases hc:i<l.length
  ·obtain⟨g,rfl⟩:∃g,f=g+1:=⟨f - 1,by omega⟩;rw[An aRK,dP hc,sb,bz aRK,aOq hc,rJ,hm]
   have nx:∀t,Xv (uy m l[i].ak true) t false=(l[i].ak::seen).contains t:=λt=>by
    rw[Vm,hm];by_cases q:t=l[i].ak
    ·rw[An q,q];simp
    ·rw[mg q,aOO,an.2 q,aOt]
   have c:=Tw l e k1 a b g (i+1) (uy m l[i].ak true) (l[i].ak::seen) aRK nx;have d:=Tw l e k1 a b g (i+1) m seen aRK hm;by_cases hk:k1<=l[i].ah/\l[i].ah<=a
   ·rw[An hk];by_cases h1:l[i].ah=k1
    ·rw[An h1];cases hs:seen.contains l[i].ak
     ·rw[mg aRL,c,aOt]
     ·rw[An rfl,aPa,An rfl]
    ·rw[mg h1,An (show l[i].ah=a by omega)];cases hs:seen.contains l[i].ak
     ·rw[mg aRL,c,aOt]
     ·rw[An rfl,aPa,An rfl]
   ·rw[mg (show ¬l[i].ah=k1 by omega),mg (show ¬l[i].ah=a by omega),mg hk,d]
  ·rw[mg aRK,aOk aRK];rfl
theorem iTw (l:List ae) (c:l.length<=1099511627776) (k1 a:Int) (b:a=k1\/a=k1+1):n9 l k1 a=some (rJ k1 a [] l):=by
 have h:=Tw l c k1 a b l.length 0 [] [] aRK (λt=>rfl);rw[aOu]at h;replace h:jL l k1 a [] 0=_:=h;rw[n9,h,sb];cases rJ k1 a [] l<;>rfl
theorem ifc {α:Type} {c d:Prop} [Decidable c] [Decidable d] {a b:α} (h:c↔d):ite c a b=ite d a b:=by
 by_cases hc:c
 ·rw[An hc,An (h.1 hc)]
 ·rw[mg hc,mg (λq=>hc (h.2 q))]
theorem agi (l:List ae) (p:l.length<=1099511627776) (lo hi:Int) (i:Nat) (n:i<l.length):∀(f j:Nat),i<=j+f->j<=i->
  gF l lo hi (i:Int) (j:Int)=some (if(lo<=l[i].ah/\l[i].ah<=hi)/\∃q,∃h:q<l.length,j<=q/\q<i/\(lo<=l[q].ah/\l[q].ah<=hi)/\l[q].ak=l[i].ak then .inr (.inr true)else .inl ())
 | f,j,h,hj=>by
  rw[gF];by_cases hc:j<i
  ·obtain⟨g,rfl⟩:∃g,f=g+1:=⟨f - 1,by omega⟩;have r:=agi l p lo hi i n g (j+1) aRK aRK;have o:j<l.length:=by omega
   rw[An aRK,dP n,sb,KN,sb,bz aRK,r];by_cases hp:lo<=l[i].ah/\l[i].ah<=hi
   ·rw[An (by rw[aPm];exact hp),dP o,sb,KN,sb];by_cases e:lo<=l[j].ah/\l[j].ah<=hi
    ·rw[An (by rw[aPm];exact e),sb,sb];by_cases k:l[i].ak=l[j].ak
     ·rw[An k,An ⟨hp,j,o,Of _,hc,e,k.symm⟩]
     ·rw[mg k];congr 1;refine ifc ⟨λ⟨a,q,b,c,d⟩=>⟨a,q,b,by omega,d⟩,λ⟨a,q,b,c,d,m,e2⟩=>⟨a,q,b,?_,d,m,e2⟩⟩;rcases aPf j q with z | z
      ·exact z
      ·obtain rfl:q=j:=by omega
       exact absurd e2.symm k
    ·rw[mg (by rw[aPm];exact e)];congr 1;refine ifc ⟨λ⟨a,q,b,c,d⟩=>⟨a,q,b,by omega,d⟩,λ⟨a,q,b,c,d,m,e2⟩=>⟨a,q,b,?_,d,m,e2⟩⟩;rcases aPf j q with z | z
     ·exact z
     ·obtain rfl:q=j:=by omega
      exact absurd m e
   ·rw[mg (by rw[aPm];exact hp),mg (λz=>hp z.1),mg (λz=>hp z.1)]
  ·rw[mg aRK,mg (λ⟨_,q,_,c,d,_⟩=>by omega)]
theorem Tx (l:List ae) (j:l.length<=1099511627776) (lo hi:Int):∀(f i:Nat) (seen:List aE),l.length<=i+f->(∀t,seen.contains t=true↔∃q,∃h:q<l.length,q<i/\(lo<=l[q].ah/\l[q].ah<=hi)/\l[q].ak=t)->
  jx l lo hi (i:Int)=some (if rJ lo hi seen (l.drop i)=true then .inr true else .inl ())
 | f,i,seen,h,hm=>by
  rw[jx];by_cases hc:i<l.length
  ·obtain⟨g,rfl⟩:∃g,f=g+1:=⟨f - 1,by omega⟩;have e:=agi l j lo hi i hc i 0 aRK aRK;rw[show((0:Nat):Int)=0 from rfl]at e;rw[An aRK,e,sb,bz aRK,aOq hc,rJ];by_cases hk:lo<=l[i].ah/\l[i].ah<=hi
   ·rw[An hk]
    have nx:∀t,(l[i].ak::seen).contains t=true↔∃q,∃h:q<l.length,q<i+1/\(lo<=l[q].ah/\l[q].ah<=hi)/\l[q].ak=t:=λt=>by
     rw[aOO,aOZ,aOm,hm];constructor
     ·rintro(rfl | ⟨q,a,b,c,d⟩)
      ·exact⟨i,hc,by omega,hk,rfl⟩
      ·exact⟨q,a,by omega,c,d⟩
     ·rintro⟨q,a,b,c,d⟩;rcases aPf q i with z | z
      ·exact .inr ⟨q,a,z,c,d⟩
      ·obtain rfl:q=i:=by omega
       exact .inl d.symm
    cases hs:seen.contains l[i].ak
    ·rw[mg,aOt]
     ·exact Tx l j lo hi g (i+1) (l[i].ak::seen) aRK nx
     ·rintro⟨_,q,a,_,b,c,d⟩;have:=(hm l[i].ak).2 ⟨q,a,b,c,d⟩;rw[hs]at this;cases this
    ·obtain⟨q,a,b,c,d⟩:=(hm l[i].ak).1 hs;rw[An ⟨hk,q,a,by omega,b,c,d⟩,aPa,An rfl]
   ·rw[mg hk,mg (λz=>hk z.1)];refine Tx l j lo hi g (i+1) seen aRK (λt=>?_);rw[hm];constructor
    ·rintro⟨q,a,b,c⟩;exact⟨q,a,by omega,c⟩
    ·rintro⟨q,a,b,c,d⟩;rcases aPf q i with z | z
     ·exact⟨q,a,z,c,d⟩
     ·obtain rfl:q=i:=by omega
      exact absurd c hk
  ·rw[mg aRK,aOk aRK];rfl
theorem sTw (l:List ae) (a:l.length<=1099511627776) (lo hi:Int):fB l lo hi=some (rJ lo hi [] l):=by
 have h:=Tx l a lo hi l.length 0 [] aRK (λt=>by simp);rw[aOu]at h;replace h:jx l lo hi 0=_:=h;rw[fB,h,sb];cases rJ lo hi [] l<;>rfl
def kG:aE:=[116,104,105,115]
theorem PL (n:ae) (h:n.ah=4->n=.mk 4 0 n.ak []):cD n (ae.mk 4 0 [116,104,105,115] [])=some (n.ah==4&&n.ak==kG):=by
 rw[cD];by_cases h4:n.ah=4
 ·have e:=h h4;rw[An (show n.ah=(ae.mk 4 0 [116,104,105,115] []).ah from h4)];generalize a:n.ak=t at e ⊢;subst e;simp only[ae.rq,ae.nz,ae.kg,ae.qo,aOw];by_cases q:t=kG
  ·subst q;rw[An (show kG=([116,104,105,115]:aE)from rfl),nG,mg aRN,sb];rfl
  ·rw[mg (show ¬(t=([116,104,105,115]:aE))from q),an.2 q,aOP]
 ·rw[mg (show ¬n.ah=(ae.mk 4 0 [116,104,105,115] []).ah from h4),an.2 h4,aPC]
theorem J4:∀(N:Nat) (n:ae),sz n<N->wt n<=134217728->vE n=true->uc n=true->
  ∃r:ae,lU n=some r/\(r.ah=4->r=.mk 4 0 r.ak [])/\r.ah≠7/\iC n=some (if r.ah=4 then r.ak else[])
 | 0,n,h,_,_,_=>by omega
 | N+1,n,p,hw,hv,f=>by
  by_cases d:n.ah=7
  ·obtain⟨_,_,hg⟩:=Vk hw hv;rw[d]at hg;have hg:(match n.af with | [a,b]=>vE a&&vE b | _=>false)=true:=hg;have i:∀x∈n.af,wt x<=134217728/\sz x<sz n:=λx hx=>⟨by have:=jj hx;omega,qY hx⟩;have j:n=.mk 7 n.aF n.ak n.af:=by rw[<-d,Le]
   generalize hk:n.af=k at*;rcases k with _ | ⟨a,_ | ⟨b,_ | ⟨c,r⟩⟩⟩
   ·cases hg
   ·cases hg
   ·rw[As]at hg;have l:=i a aRN
    have e:uc a=true:=by
     rw[j]at f;have:uc (.mk 7 n.aF n.ak [a,b])=uc a:=by rw[uc,An ⟨rfl,rfl⟩,auB]
     rw[<-this];exact f
    obtain⟨q,r1,m,o,g⟩:=J4 N a aRK l.1 hg.1 e;refine⟨q,?_,m,o,?_⟩
    ·unfold lU at r1 ⊢;rw[d,hk,lT,An rfl,An aRN,fZ,sb];exact r1
    ·unfold iC at g ⊢;rw[d,hk,lp,An rfl,fZ,sb];exact g
   ·cases hg
  ·refine⟨n,?_,λh4=>Ab hw hv h4,d,?_⟩
   ·unfold lU;rw[lT,mg d,sb];dsimp only;rw[Le]
   ·unfold iC;rw[lp,mg d,sb];dsimp only;by_cases h4:n.ah=4
    ·rw[An h4,An h4]
    ·rw[mg h4,mg h4]
set_option maxRecDepth 100000
set_option maxHeartbeats 800000
def Bk (r:Int) (n:ae) (loop fn:Bool):Bool:=(fp n r loop fn).getD false
structure Pg (n:ae):Prop where
 s:∀(r:Int) (loop fn:Bool),1<=r->r<=5->fp n r loop fn=some (Bk r n loop fn)
 i:∀(loop fn x0 x1 x2 x3 x4 x5:Bool),gO n loop fn [x0,x1,x2,x3,x4,x5]=some [x0,x1||Bk 1 n loop fn,x2||Bk 2 n loop fn,x3||Bk 3 n loop fn,x4||Bk 4 n loop fn,x5||Bk 5 n loop fn]
theorem alr (n:ae) (r:Int) (L F:Bool) (c:1<=r) (a:r<=5) (d:n.af.length<=1099511627776) (hk:∀k∈n.af,Pg k):∀(f i:Nat) (b:Bool),n.af.length<=i+f->i<=n.af.length->
  gG n r L F b (i:Int)=some (b||(n.af.drop i).any λk=>Bk r k L F)
 | f,i,b,h,hi=>by
  rw[gG];by_cases hc:i<n.af.length
  ·obtain⟨g,rfl⟩:∃g,f=g+1:=⟨f - 1,by omega⟩;rw[An aRK];cases b
   ·rw[mg aRL,dP hc,sb,(hk _ (aOD hc)).s r L F c a,sb,bz aRK,alr n r L F c a d hk g (i+1) _ aRK aRK,aOq hc,aPH,aOt]
   ·rw[An rfl,aPa]
  ·rw[mg aRK,aOk aRK,aQw,aOs]
theorem als (n:ae) (L F:Bool) (l:n.af.length<=1099511627776) (hk:∀k∈n.af,Pg k):∀(f i:Nat) (a b c d e j:Bool),n.af.length<=i+f->i<=n.af.length->
  gJ n L F [a,b,c,d,e,j] (i:Int)=some [a,b||(n.af.drop i).any λk=>Bk 1 k L F,c||(n.af.drop i).any λk=>Bk 2 k L F,d||(n.af.drop i).any λk=>Bk 3 k L F,e||(n.af.drop i).any λk=>Bk 4 k L F,j||(n.af.drop i).any λk=>Bk 5 k L F]
 | f,i,a,b,c,d,e,j,h,hi=>by
  rw[gJ];by_cases hc:i<n.af.length
  ·obtain⟨g,rfl⟩:∃g,f=g+1:=⟨f - 1,by omega⟩;rw[An aRK,dP hc,sb,(hk _ (aOD hc)).i,sb,bz aRK,als n L F l hk g (i+1) _ _ _ _ _ _ aRK aRK,aOq hc];simp only[aPH,Bool.or_assoc]
  ·rw[mg aRK,aOk aRK];simp only[aQw,aOs]
def CN (k:Int) (loop:Bool):Bool:=if k=35\/k=36 then true else if k=45\/k=49\/k=55\/k=23 then false else loop
def Hh (k:Int) (fn:Bool):Bool:=if k=49\/k=55\/k=23 then true else fn
def isF (k:Int):Bool:=k==49||(k==55||k==23)
theorem Ty (n:ae) (Q:n.af.length<=1099511627776) (hk:∀k∈n.af,Pg k) (y:Bool) (X:dQ n=some y) (Y:cG n=some y)
  (h4:isF n.ah=true\/rJ 24 25 [] n.af=false)
  (h5:n.ah≠56->rJ 49 49 [] n.af=false) (Z:n.ah≠50->n.ah≠51->rJ 54 54 [] n.af=false/\rJ 55 55 [] n.af=false):Pg n:=by
 have T:=λlo hi=>sTw n.af Q lo hi
 have S:∀(r:Int) (loop fn:Bool),1<=r->r<=5->fp n r loop fn=some ((if r=1 then(!loop&&(n.ah==37||n.ah==38))else if r=2 then(!fn&&n.ah==46)else if r=3 then y else if r=4 then rJ 24 25 [] n.af else(rJ 49 49 [] n.af||(rJ 54 54 [] n.af||rJ 55 55 [] n.af)))||n.af.any λk=>Bk r k (CN n.ah loop) (Hh n.ah fn)):=by
  intro r loop fn hr aa;rw[fp,mg aRK]
  have loc:((if r=1 then(if loop=true then some false else(if n.ah=37 then some true else some (n.ah==38)))else(if r=2 then(if fn=true then some false else some (n.ah==46))else(if r=3 then dQ n>>=λad=>some ad else(if r=4 then fB n.af 24 25>>=λrP=>some rP else(if r=5 then fB n.af 49 49>>=λu6=>(if u6=true then some true else fB n.af 54 54>>=λag=>(if ag=true then some true else fB n.af 55 55>>=λyF=>some yF))else some false))))):Option Bool)=some (if r=1 then(!loop&&(n.ah==37||n.ah==38))else if r=2 then(!fn&&n.ah==46)else if r=3 then y else if r=4 then rJ 24 25 [] n.af else(rJ 49 49 [] n.af||(rJ 54 54 [] n.af||rJ 55 55 [] n.af))):=by
   rw[T,T,T,T,X];by_cases r1:r=1
   ·rw[An r1,An r1];cases loop
    ·rw[mg aRL];by_cases k:n.ah=37
     ·rw[An k,k];rfl
     ·rw[mg k,an.2 k,aOt];rfl
    ·rfl
   rw[mg r1,mg r1];by_cases R:r=2
   ·rw[An R,An R];cases fn<;>rfl
   rw[mg R,mg R];by_cases U:r=3
   ·rw[An U,An U,sb]
   rw[mg U,mg U];by_cases V:r=4
   ·rw[An V,An V,sb]
   rw[mg V,mg V,An (show r=5 by omega),sb];cases rJ 49 49 [] n.af
   ·rw[mg aRL,sb];cases rJ 54 54 [] n.af<;>rfl
   ·rfl
  have cx:((((if n.ah=35 then some (n.ah==35)else some (n.ah==36)):Option Bool)>>=λa2=>(if a2=true then some (true,fn)else(if n.ah=45 then some (false,fn)else(if n.ah=49 then some (false,true)else(if n.ah=55 then some (false,true)else(if n.ah=23 then some (false,true)else some (loop,fn))))))):Option (Bool×Bool))=some (CN n.ah loop,Hh n.ah fn):=by
   unfold CN Hh;by_cases p:n.ah=35
   ·rw[p];rfl
   rw[mg p,sb];by_cases J:n.ah=36
   ·rw[J];rfl
   rw[mg (by rw[aOm];exact J),mg (show ¬(n.ah=35\/n.ah=36) by omega)];by_cases u:n.ah=45
   ·rw[u];rfl
   rw[mg u];by_cases L:n.ah=49
   ·rw[L];rfl
   rw[mg L];by_cases N:n.ah=55
   ·rw[N];rfl
   rw[mg N];by_cases O:n.ah=23
   ·rw[O];rfl
   rw[mg O,mg aRK,mg aRK]
  rw[loc,sb];generalize(if r=1 then(!loop&&(n.ah==37||n.ah==38))else if r=2 then(!fn&&n.ah==46)else if r=3 then y else if r=4 then rJ 24 25 [] n.af else(rJ 49 49 [] n.af||(rJ 54 54 [] n.af||rJ 55 55 [] n.af)))=b;have e:=alr n r (CN n.ah loop) (Hh n.ah fn) hr aa Q hk n.af.length 0 b aRK aRK;rw[aOu]at e;replace e:gG n r (CN n.ah loop) (Hh n.ah fn) b 0=_:=e;refine(eu cx).trans ?_;show((gG n r (CN n.ah loop) (Hh n.ah fn) b 0)>>=λL4=>some L4)=_;rw[e,sb]
 have S2:∀(r:Int) (loop fn:Bool),1<=r->r<=5->fp n r loop fn=some (Bk r n loop fn):=λr loop fn h1 h2=>by unfold Bk;rw[S r loop fn h1 h2];rfl
 have B:∀(r:Int) (loop fn:Bool),1<=r->r<=5->Bk r n loop fn=_:=λr loop fn h1 h2=>aOY ((S2 r loop fn h1 h2).symm.trans (S r loop fn h1 h2));refine⟨S2,λloop fn j g i l d f=>?_⟩;rw[B 1 loop fn aRL aRL,B 2 loop fn aRL aRL,B 3 loop fn aRL aRL,B 4 loop fn aRL aRL,B 5 loop fn aRL aRL];simp only[show ¬((2:Int)=1) by decide,show ¬((3:Int)=1) by decide,show ¬((3:Int)=2) by decide,show ¬((4:Int)=1) by decide,show ¬((4:Int)=2) by decide,show ¬((4:Int)=3) by decide,show ¬((5:Int)=1) by decide,show ¬((5:Int)=2) by decide,show ¬((5:Int)=3) by decide,show ¬((5:Int)=4) by decide,aOw,aOn];have I:=λk1 k2 h=>iTw n.af Q k1 k2 h;have K:=als n (CN n.ah loop) (Hh n.ah fn) Q hk n.af.length 0;rw[aOu]at K
 have fin:∀y1 m o y5:Bool,((idx [j,y1,m,l,o,y5] 3>>=λA=>(if A=true then some ([j,y1,m,l,o,y5].set ((3:Int).toNat) true)else cG n>>=λC=>some ([j,y1,m,l,o,y5].set ((3:Int).toNat) C)):Option (List Bool))>>=λD=>gJ n (CN n.ah loop) (Hh n.ah fn) D 0)=
   some [j,y1||n.af.any λk=>Bk 1 k (CN n.ah loop) (Hh n.ah fn),m||n.af.any λk=>Bk 2 k (CN n.ah loop) (Hh n.ah fn),(l||y)||n.af.any λk=>Bk 3 k (CN n.ah loop) (Hh n.ah fn),o||n.af.any λk=>Bk 4 k (CN n.ah loop) (Hh n.ah fn),y5||n.af.any λk=>Bk 5 k (CN n.ah loop) (Hh n.ah fn)]:=by
  intro y1 m o y5;rw[show idx [j,y1,m,l,o,y5] 3=some l from rfl,sb,Y];cases l
  ·rw[mg aRL,sb,sb];exact K j y1 m y o y5 aRK aRK
  ·rw[An rfl,sb];exact K j y1 m true o y5 aRK aRK
 have E:n.ah≠56->n.ah≠50->n.ah≠51->(rJ 49 49 [] n.af||(rJ 54 54 [] n.af||rJ 55 55 [] n.af))=false:=λa b c=>by rw[h5 a,(Z b c).1,(Z b c).2];rfl
 have W:isF n.ah=false->rJ 24 25 [] n.af=false:=λa=>h4.resolve_left (by rw[a];decide)
 have goal:∀(y1 m o y5:Bool),gO n loop fn [j,g,i,l,d,f]=((idx [j,y1,m,l,o,y5] 3>>=λA=>(if A=true then some ([j,y1,m,l,o,y5].set ((3:Int).toNat) true)else cG n>>=λC=>some ([j,y1,m,l,o,y5].set ((3:Int).toNat) C)):Option (List Bool))>>=λD=>gJ n (CN n.ah loop) (Hh n.ah fn) D 0)->
   y1=(g||(!loop&&(n.ah==37||n.ah==38)))->m=(i||(!fn&&n.ah==46))->o=(d||rJ 24 25 [] n.af)->y5=(f||(rJ 49 49 [] n.af||(rJ 54 54 [] n.af||rJ 55 55 [] n.af)))->
   gO n loop fn [j,g,i,l,d,f]=some [j,g||((!loop&&(n.ah==37||n.ah==38))||n.af.any λk=>Bk 1 k (CN n.ah loop) (Hh n.ah fn)),i||((!fn&&n.ah==46)||n.af.any λk=>Bk 2 k (CN n.ah loop) (Hh n.ah fn)),l||(y||n.af.any λk=>Bk 3 k (CN n.ah loop) (Hh n.ah fn)),d||(rJ 24 25 [] n.af||n.af.any λk=>Bk 4 k (CN n.ah loop) (Hh n.ah fn)),f||((rJ 49 49 [] n.af||(rJ 54 54 [] n.af||rJ 55 55 [] n.af))||n.af.any λk=>Bk 5 k (CN n.ah loop) (Hh n.ah fn))]:=by
  intro y1 m o y5 h w e2 F e5;rw[h,fin,w,e2,F,e5];simp only[Bool.or_assoc]
 have M:=gO.eq_1 n loop fn [j,g,i,l,d,f];by_cases s:n.ah=37
 ·have G:=W (by rw[s];rfl);have v5:=E aRK aRK aRK;refine goal (g||!loop) i d f ?_ (by rw[s];simp) (by rw[s];simp) (by rw[G,aOs]) aSm;rw[M,s];cases loop
  ·rw[Bool.not_false,aPl];rfl
  ·rw[Bool.not_true,aOs];rfl
 by_cases t:n.ah=38
 ·have G:=W (by rw[t];rfl);have v5:=E aRK aRK aRK;refine goal (g||!loop) i d f ?_ (by rw[t];simp) (by rw[t];simp) (by rw[G,aOs]) aSm;rw[M,t];cases loop
  ·rw[Bool.not_false,aPl];rfl
  ·rw[Bool.not_true,aOs];rfl
 have w:g=(g||(!loop&&(n.ah==37||n.ah==38))):=by rw[an.2 s,an.2 t];simp
 rw[mg s,mg t,sb,mg aRL]at M;by_cases v:n.ah=46
 ·have G:=W (by rw[v];rfl);have v5:=E aRK aRK aRK;refine goal g (i||!fn) d f ?_ w (by rw[v];simp) (by rw[G,aOs]) aSm;rw[M,v];cases fn
  ·rw[Bool.not_false,aPl];rfl
  ·rw[Bool.not_true,aOs];rfl
 have e2:i=(i||(!fn&&n.ah==46)):=by rw[an.2 v];simp
 rw[mg v,sb,mg aRL]at M
 have eF:lX n.ah=some (isF n.ah):=by
  unfold lX isF;by_cases a:n.ah=49
  ·rw[An a,a];rfl
  ·rw[mg a,an.2 a,aOt];by_cases b:n.ah=55
   ·rw[An b,b];rfl
   ·rw[mg b,an.2 b,aOt]
 rw[eF,sb]at M;cases z:isF n.ah with
 | true=>
  have k3:n.ah=49\/n.ah=55\/n.ah=23:=by unfold isF at z;simpa using z
  have v5:=E aRK aRK aRK;have P:CN n.ah loop=false:=by unfold CN;rw[mg aRK,An aRK]
  have H:Hh n.ah fn=true:=by unfold Hh;rw[An k3]
  refine goal g i (d||rJ 24 25 [] n.af) f ?_ w e2 rfl aSm;rw[M,z,An rfl,P,H,I 24 25 (.inr rfl),show idx [j,g,i,l,d,f] 4=some d from rfl,sb];cases d
  ·rw[mg aRL,sb,sb,aOt];rfl
  ·rw[An rfl,sb,aPa];rfl
 | false=>
  have k3:¬(n.ah=49\/n.ah=55\/n.ah=23):=by
   intro q;unfold isF at z;rcases q with q | q | q<;>rw[q]at z<;>exact absurd z aRL
  have G:=W z;have H:Hh n.ah fn=fn:=by unfold Hh;rw[mg k3]
  have F:d=(d||rJ 24 25 [] n.af):=by rw[G,aOs]
  rw[z,mg aRL]at M;by_cases u:n.ah=45
  ·have v5:=E aRK aRK aRK;refine goal g i d f ?_ w e2 F aSm;rw[M,An u,sb,H,show CN n.ah loop=false by unfold CN;rw[mg aRK,An aRK]]
  rw[mg u]at M;by_cases p:n.ah=35\/n.ah=36
  ·have v5:=E aRK aRK aRK;refine goal g i d f ?_ w e2 F aSm;rw[M,H,show CN n.ah loop=true by unfold CN;rw[An p]];rcases p with q | q<;>rw[q]<;>rfl
  have P:CN n.ah loop=loop:=by unfold CN;rw[mg p,mg aRK]
  rw[mg (show ¬n.ah=35 by omega),sb,mg aSu]at M;by_cases x:n.ah=56
  ·have v6:=Z aRK aRK;refine goal g i d (f||rJ 49 49 [] n.af) ?_ w e2 F (by rw[v6.1,v6.2];simp);rw[M,An x,P,H,I 49 49 (.inl rfl),show idx [j,g,i,l,d,f] 5=some f from rfl,sb];cases f
   ·rw[mg aRL,sb,sb,aOt];rfl
   ·rw[An rfl,sb,aPa];rfl
  rw[mg x]at M;by_cases a3:n.ah=50\/n.ah=51
  ·refine goal g i d (f||(rJ 54 54 [] n.af||rJ 55 55 [] n.af)) ?_ w e2 F (by rw[h5 x,aOt]);have a4:((if n.ah=50 then some true else some (n.ah==51)):Option Bool)=some true:=by rcases a3 with q | q<;>rw[q]<;>rfl
   rw[a4,sb,An rfl,show idx [j,g,i,l,d,f] 5=some f from rfl,sb,I 54 54 (.inl rfl),I 55 55 (.inl rfl)]at M;rw[M,P,H];cases f
   ·rw[mg aRL,sb,aOt];cases rJ 54 54 [] n.af
    ·rw[mg aRL,sb,sb,aOt];rfl
    ·rw[An rfl,sb,aPa];rfl
   ·rw[An rfl,sb,aPa];rfl
  ·have v5:=E x aRK aRK;refine goal g i d f ?_ w e2 F aSm;rw[M,mg (show ¬n.ah=50 by omega),sb,mg aSu,sb,P,H]
set_option maxRecDepth 100000
set_option maxHeartbeats 800000
def TH (n:ae):Prop:=∃t,dQ n=some t/\cG n=some t
def isV (x:ae):Prop:=x=.mk 4 0 x.ak []
theorem Aq (x:ae) (h:isV x):cD x (ae.mk 4 0 [116,104,105,115] [])=some (x.ak==kG):=by
 have h4:x.ah=4:=by rw[h];rfl
 rw[PL x (λ_=>h),h4];rfl
theorem afg (n:ae) (h:n.ah=24\/n.ah=25\/n.ah=40):TH n:=by
 refine⟨n.ak==kG,?_,?_⟩
 ·rw[dQ];rcases h with h | h | h<;>rw[h]<;>rfl
 ·rw[cG];rcases h with h | h | h<;>rw[h]<;>rfl
theorem Bw (n:ae) (h:n.ah≠24/\n.ah≠25/\n.ah≠40/\n.ah≠17/\n.ah≠15/\n.ah≠16/\n.ah≠41/\n.ah≠44/\n.ah≠36/\n.ah≠46):TH n:=by
 obtain⟨h1,h2,a,h4,b,c,d,e,f,h0⟩:=h;refine⟨false,?_,?_⟩
 ·rw[dQ,mg h1,mg h2,sb,mg (by rw[aOm];exact a),mg h4,mg b,mg c,sb,mg (by rw[aOm];exact d),mg e,mg f,mg h0]
 ·rw[cG,mg h1,mg h2,sb,mg (by rw[aOm];exact a),mg h4,mg e,mg f,mg h0,mg b,mg c,mg d,sb]
theorem aGT (n:ae) (h:n.ah=17) {a:ae} (hk:n.af=[a]) (d:isV a):TH n:=by
 by_cases q:n.ak=kG
 ·refine⟨true,?_,?_⟩
  ·rw[dQ,h,q];rfl
  ·rw[cG,h,q];rfl
 ·refine⟨a.ak==kG,?_,?_⟩
  ·rw[dQ,h,hk];show(if n.ak=kG then some true else idx [a] 0>>=λb=>cD b (ae.mk 4 0 [116,104,105,115] [])>>=λc=>some c)=_;rw[mg q,fZ,sb,Aq a d,sb]
  ·rw[cG,h,hk];show((if n.ak=kG then some (.inr true)else idx [a] 0>>=λb=>some (.inr (b.ak==kG)):Option fL)>>=_)=_;rw[mg q,fZ,sb,sb]
theorem aGp (n:ae) (h:n.ah=44) {a:ae} {r:List ae} (hk:n.af=a::r) (d:isV a):TH n:=by
 refine⟨a.ak==kG,?_,?_⟩
 ·rw[dQ,h,hk];show(idx (a::r) 0>>=λb=>cD b (ae.mk 4 0 [116,104,105,115] [])>>=λc=>some c)=_;rw[fZ,sb,Aq a d,sb]
 ·rw[cG,h,hk];show((idx (a::r) 0>>=λb=>some (.inr (b.ak==kG)):Option fL)>>=_)=_;rw[fZ,sb,sb]
theorem aGl (n:ae) (h:n.ah=46) (hv:∀a b,n.af=[a,b]->isV a):TH n:=by
 by_cases g:(n.af.length:Int)=2
 ·obtain⟨a,b,e⟩:∃a b,n.af=[a,b]:=by
   rcases hk:n.af with _ | ⟨a,_ | ⟨b,_ | ⟨c,r⟩⟩⟩<;>rw[hk]at g<;>simp at g
   ·exact⟨a,b,rfl⟩
   ·omega
  have i:=hv a b e;refine⟨a.ak==kG,?_,?_⟩
  ·rw[dQ,h,e];show(if(([a,b]:List ae).length:Int)=2 then idx [a,b] 0>>=λd=>cD d (ae.mk 4 0 [116,104,105,115] [])>>=λf=>some f else some false)=_;rw[An (show(([a,b]:List ae).length:Int)=2 from rfl),fZ,sb,Aq a i,sb]
  ·rw[cG,h,e];show((if(([a,b]:List ae).length:Int)=2 then idx [a,b] 0>>=λd=>some (.inr (d.ak==kG))else some (.inr false):Option fL)>>=_)=_;rw[An (show(([a,b]:List ae).length:Int)=2 from rfl),fZ,sb,sb]
 ·refine⟨false,?_,?_⟩
  ·rw[dQ,h];show(if(n.af.length:Int)=2 then idx n.af 0>>=λd=>cD d (ae.mk 4 0 [116,104,105,115] [])>>=λf=>some f else some false)=_;rw[mg g]
  ·rw[cG,h];show((if(n.af.length:Int)=2 then idx n.af 0>>=λd=>some (.inr (d.ak==kG))else some (.inr false):Option fL)>>=_)=_;rw[mg g,sb]
theorem L2 (l:List ae) (b:l.length<=1099511627776):∀(f i:Nat),l.length<=i+f->eU l (i:Int)=some (HU (!((l.drop i).any λx=>x.ah==4&&x.ak==kG))|>λo=>match o with | .inl _=>.inl () | .inr _=>.inr true)
 | f,i,h=>by
  rw[eU];by_cases hc:i<l.length
  ·obtain⟨g,rfl⟩:∃g,f=g+1:=⟨f - 1,by omega⟩;have c:=L2 l b g (i+1) aRK;rw[An aRK,dP hc,sb,bz aRK,c,aOq hc,aPH];by_cases h4:l[i].ah=4
   ·rw[An h4,h4];by_cases a:l[i].ak=kG
    ·rw[An (show l[i].ak=([116,104,105,115]:aE)from a),a];rfl
    ·rw[mg (show ¬l[i].ak=([116,104,105,115]:aE)from a),an.2 a];rfl
   ·rw[mg h4,an.2 h4];rfl
  ·rw[mg aRK,aOk aRK];rfl
theorem vb {x:ae} (h:isV x):(x.ah==4&&x.ak==kG)=(x.ak==kG):=by
 have h4:x.ah=4:=by rw[h];rfl
 rw[h4];rfl
theorem nbk {x:ae} (h:x.ah=48):(x.ah==4&&x.ak==kG)=false:=by
 rw[h];rfl
theorem ali (n:ae) (h:n.ah=36) {a b:ae} (g:isV b) (hk:(∃c,n.af=[a,b,c]/\c.ah=48)\/∃c d,n.af=[a,b,c,d]/\isV c/\d.ah=48):TH n:=by
 have l:cG n=((qi n.af 1>>=λmy=>eU my 0:Option fL)>>=λm=>match m with | .inr r=>some r | .inl _=>some false):=by
  rw[cG,h];rfl
 have o:dQ n=(idx n.af 1>>=λi=>cD i (ae.mk 4 0 [116,104,105,115] [])>>=λp=>(if p=true then some true else idx n.af (bm ((n.af.length:Int) - 2))>>=λj=>cD j (ae.mk 4 0 [116,104,105,115] [])>>=λk=>(if k=true then some ((n.af.length:Int)==4)else some false))):=by
  rw[dQ,h];rfl
 rw[TH,l,o];rcases hk with⟨c,e,f⟩ | ⟨c,d,e,hc,f⟩
 ·have L:=L2 [b,c] aRN 2 0 aRN;rw[aOu]at L;replace L:eU [b,c] 0=_:=L;rw[e,yc,sb,L,te,sb,Aq b g,sb,aPH,aPH,aQw,vb g,nbk f];cases q:(b.ak==kG)
  ·refine⟨false,?_,rfl⟩;rw[mg aRL,show bm ((([a,b,c]:List ae).length:Int) - 2)=1 from lj (n:=1) aRN aRK,te,sb,Aq b g,sb,q];rfl
  ·exact⟨true,rfl,rfl⟩
 ·have L:=L2 [b,c,d] aRN 3 0 aRN;rw[aOu]at L;replace L:eU [b,c,d] 0=_:=L;rw[e,yc,sb,L,te,sb,Aq b g,sb,aPH,aPH,aPH,aQw,vb g,vb hc,nbk f];cases q:(b.ak==kG)
  ·rw[mg aRL,show bm ((([a,b,c,d]:List ae).length:Int) - 2)=2 from lj (n:=2) aRN aRK,E1,sb,Aq c hc,sb];cases q2:(c.ak==kG)
   ·exact⟨false,rfl,rfl⟩
   ·exact⟨true,rfl,rfl⟩
  ·exact⟨true,rfl,rfl⟩
theorem afi (n:ae) (h:n.ah=15\/n.ah=16\/n.ah=41) {a:ae} {r:List ae} (hk:n.af=a::r) (hw:wt a<=134217728) (hv:vE a=true) (d:uc a=true):TH n:=by
 obtain⟨q,r1,e,l,f⟩:=J4 _ a (aOr _) hw hv d
 have g:dQ n=some (q.ah==4&&q.ak==kG):=by
  rw[dQ,hk];rcases h with h | h | h<;>rw[h]<;>
  ·show(idx (a::r) 0>>=λb=>lU b>>=λi=>cD i (ae.mk 4 0 [116,104,105,115] [])>>=λj=>some j)=_;rw[fZ,sb,r1,sb,PL q e,sb]
 have e2:cG n=some ((if q.ah=4 then q.ak else[])==kG):=by
  rw[cG,hk];rcases h with h | h | h<;>rw[h]<;>
  ·show((idx (a::r) 0>>=λc=>iC c>>=λk=>some (.inr (k==kG)):Option fL)>>=_)=_;rw[fZ,sb,f,sb,sb]
 refine⟨_,g,e2.trans ?_⟩;by_cases h4:q.ah=4
 ·rw[An h4,h4];rfl
 ·rw[mg h4,an.2 h4];rfl
theorem afk (n:ae) (hw:wt n<=134217728) (hk:∀k∈n.af,Pg k) (a:TH n)
  (c1:isF n.ah=true\/∀x∈n.af,x.ah≠24/\x.ah≠25) (c2:n.ah=56\/∀x∈n.af,x.ah≠49) (c3:(n.ah=50\/n.ah=51)\/∀x∈n.af,x.ah≠54/\x.ah≠55):Pg n:=by
 obtain⟨t,b,c⟩:=a;refine Ty n (by have:=xU n;omega) hk t b c ?_ ?_ ?_
 ·rcases c1 with h | h
  ·exact .inl h
  ·exact .inr (Hg _ _ λx hx=>by have:=h x hx;omega)
 ·intro h;exact Hg _ _ λx hx=>by have:=(c2.resolve_left h) x hx;omega
 ·intro h1 h2;have h:=c3.resolve_left aRK;exact⟨Hg _ _ λx hx=>by have:=h x hx;omega,Hg _ _ λx hx=>by have:=h x hx;omega⟩
def aGU (x:ae):Prop:=(x.ah=24\/x.ah=25\/x.ah=52\/x.ah=53)/\x.af=[]
def aMN (x:ae):Prop:=(x.ah=54/\m54 x.af=true)\/(x.ah=55/\fU vS false x.af=true)
def Ix (n:ae):Prop:=vE n=true\/vS n=true\/prK vE n=true\/aGU n\/cat vE vS n=true\/fin vS n=true\/vT n=true\/aMN n\/(n.ah=56/\n.af.all vP=true)
theorem PM {a:Bool}:∀(c:List ae) (b:Bool),P2 a b c=true->∀x∈c,(x.ah=24\/x.ah=25)/\x.af=[]
 | [],_,_,x,hx=>by cases hx
 | y::r,b,h,x,hx=>by
  rw[P2,As,As,As,As,aOZ,As,As,aOm,aOm,aOm]at h;obtain⟨h1,_,_,h2,d⟩:=h;rcases aOz.1 hx with rfl | hx
  ·exact⟨by rcases h1 with q | q;exact .inr q.1;exact .inl q.1,aPt.1 aRK⟩
  ·exact PM r _ d x hx
theorem UQ {a:Bool} {b:List ae} (h:fU vS a b=true):∀x∈b,((x.ah=24\/x.ah=25)/\x.af=[])\/(x.ah=48/\vS x=true):=by
 unfold fU at h;rcases aQf b with rfl | ⟨l,y,rfl⟩
 ·cases h
 ·simp only[aPQ,List.getLast?_append,List.getLast?_singleton,Option.some_or,aQi,As,bl,aOm]at h;intro x hx;simp only[aPQ,aOx,aPW]at hx;rcases hx with hx | rfl
  ·exact .inl (PM l _ h.1 x hx)
  ·exact .inr h.2
theorem aqO {x:ae} (h:bl vS x=true):x.ah=48/\vS x=true:=by
 rw[bl,As,aOm]at h;exact h
structure Stp (n:ae):Prop where
 t:TH n
 k:∀x∈n.af,Ix x
 c1:isF n.ah=true\/∀x∈n.af,x.ah≠24/\x.ah≠25
 c2:n.ah=56\/∀x∈n.af,x.ah≠49
 c3:(n.ah=50\/n.ah=51)\/∀x∈n.af,x.ah≠54/\x.ah≠55
theorem calm {n:ae} (t:TH n) (h:∀x∈n.af,Ix x/\x.ah<49/\x.ah≠24/\x.ah≠25):Stp n:=
 ⟨t,λx hx=>(h x hx).1,.inr λx hx=>by have:=(h x hx).2;omega,.inr λx hx=>by have:=(h x hx).2;omega,.inr λx hx=>by have:=(h x hx).2;omega⟩
theorem Gx {n:ae} (t:TH n) (h:n.af=[]):Stp n:=calm t (λx hx=>by rw[h]at hx;cases hx)
def cE (x:ae):Prop:=Ix x/\x.ah<49/\x.ah≠24/\x.ah≠25
theorem aff {x:ae} (hw:wt x<=134217728) (h:vE x=true):cE x:=⟨.inl h,by have:=Vl hw h;omega⟩
theorem aGm {x:ae} (hw:wt x<=134217728) (h:vS x=true):cE x:=⟨.inr (.inl h),by have:=LG hw h;omega⟩
theorem aqN {x:ae} (hw:wt x<=134217728) (h:bl vS x=true):cE x:=aGm hw (aqO h).2
theorem afh {a:List ae} (h:((a.length:Int)==0)=true):a=[]:=by
 rw[aOm]at h;exact aPt.1 aRK
theorem aGo {n:ae} (hw:wt n<=134217728) (h:vE n=true):Stp n:=by
 obtain⟨_,_,hg⟩:=Vk hw h;have f:∀x∈n.af,wt x<=134217728:=λx hx=>by have:=jj hx;omega
 have no:n.ah≠15->n.ah≠16->n.ah≠17->TH n:=λa b c=>Bw n (by have:=Vl hw h;omega);have e:(∀x∈n.af,vE x=true)->∀x∈n.af,Ix x/\x.ah<49/\x.ah≠24/\x.ah≠25:=λq x hx=>aff (f x hx) (q x hx);unfold gE at hg;simp only[aOO,aOV,aOs,aOZ,aOm]at hg;by_cases h1:n.ah=1\/n.ah=2\/n.ah=3\/n.ah=4
 ·rw[An h1]at hg;exact Gx (no aRK aRK aRK) (afh hg)
 rw[mg h1]at hg;by_cases h2:n.ah=5
 ·rw[An h2]at hg;refine calm (no aRK aRK aRK) (λx hx=>?_);have q:=aOl.1 hg x hx;refine⟨.inr (.inr (.inl q)),?_⟩;rw[prK,As,aOm]at q;omega
 rw[mg h2]at hg;by_cases i:n.ah=8\/n.ah=9
 ·rw[An i]at hg;refine calm (no aRK aRK aRK) (e λx hx=>?_);rcases hk:n.af with _ | ⟨a,_ | ⟨b,r⟩⟩<;>rw[hk]at hg hx<;>simp at hg hx;subst hx;exact hg
 rw[mg i]at hg;by_cases h4:n.ah=7\/n.ah=10\/n.ah=11\/n.ah=12\/n.ah=13
 ·rw[An h4]at hg;refine calm (no aRK aRK aRK) (e λx hx=>?_);rcases hk:n.af with _ | ⟨a,_ | ⟨b,_ | ⟨c,r⟩⟩⟩<;>rw[hk]at hg hx<;>simp at hg hx;rcases hx with rfl | rfl
  ·exact hg.1
  ·exact hg.2
 rw[mg h4]at hg;by_cases j:n.ah=14
 ·rw[An j]at hg;refine calm (no aRK aRK aRK) (e λx hx=>?_);rcases hk:n.af with _ | ⟨a,_ | ⟨b,_ | ⟨c,_ | ⟨d,r⟩⟩⟩⟩<;>rw[hk]at hg hx<;>simp at hg hx;rcases hx with rfl | rfl | rfl
  ·exact hg.1
  ·exact hg.2.1
  ·exact hg.2.2
 rw[mg j]at hg;by_cases k:n.ah=15\/n.ah=16
 ·rw[An k]at hg;rcases hk:n.af with _ | ⟨a,_ | ⟨b,_ | ⟨c,r⟩⟩⟩<;>rw[hk]at hg<;>simp at hg;refine calm (afi n aRK hk (f a aSs) hg.2.1 hg.1) (e λx hx=>?_);rw[hk]at hx;simp at hx;rcases hx with rfl | rfl
  ·exact hg.2.1
  ·exact hg.2.2
 rw[mg k]at hg;by_cases g:n.ah=17
 ·rw[An g]at hg;rcases hk:n.af with _ | ⟨a,_ | ⟨b,r⟩⟩<;>rw[hk]at hg<;>simp at hg;refine calm (aGT n g hk (Ab (f a aSs) hg.2 hg.1)) (e λx hx=>?_);rw[hk]at hx;simp at hx;subst hx;exact hg.2
 rw[mg g]at hg;by_cases l:n.ah=18\/n.ah=21\/n.ah=22
 ·rw[An l]at hg;exact calm (no aRK aRK aRK) (e (aOl.1 hg))
 rw[mg l]at hg;by_cases m:n.ah=19\/n.ah=20
 ·rw[An m]at hg;refine calm (no aRK aRK aRK) (e λx hx=>?_);rcases hk:n.af with _ | ⟨a,r⟩<;>rw[hk]at hg hx
  ·cases hx
  ·rw[As]at hg;rcases aOz.1 hx with rfl | hx
   ·exact hg.1
   ·exact aOl.1 hg.2 x hx
 rw[mg m]at hg;by_cases h0:n.ah=23
 ·rw[An h0]at hg;have q:=UQ hg;have o:∀x∈n.af,x.ah<49:=λx hx=>by rcases q x hx with z | z<;>omega
  exact⟨no aRK aRK aRK,λx hx=>by
   rcases q x hx with z | z
   ·exact .inr (.inr (.inr (.inl ⟨by omega,z.2⟩)))
   ·exact .inr (.inl z.2),.inl (by rw[h0];rfl),.inr λx hx=>by have:=o x hx;omega,.inr λx hx=>by have:=o x hx;omega⟩
 rw[mg h0]at hg;cases hg
end Go.Am
