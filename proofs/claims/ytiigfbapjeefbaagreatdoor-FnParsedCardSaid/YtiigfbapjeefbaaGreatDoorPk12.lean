/- Texts of the proof, joined and shortened. -/
import Derived.Test.YtiigfbapjeefbaaGreatDoorPk11
set_option linter.unusedVariables false
set_option linter.unusedSimpArgs false
set_option maxRecDepth 100000
set_option maxHeartbeats 400000
namespace Go.Am
open Go Go.RowKit Go.Proofs
section
variable {E S:ae->Bool}
theorem ar8 (n:ae) (h:n.ah=4):iP n=some (n.aE==0&&(good n.al&&(n.af.length:Int)==0)):=by
 unfold iP;rw[At h,tR,sb];by_cases h0:n.aE=0
 ·rw[At h0,h0];cases good n.al<;>rfl
 ·rw[As h0,an.2 h0];rfl
theorem agM (n:ae) (w:n.al.length<4294967281) (f:n.af.length<4611686018427387904) (z:∀x∈n.af,x.af.length<4611686018427387904)
  (A:∀x∈n.af,cO x=some (E x)) (B:∀x∈n.af,∀y∈x.af,cO y=some (E y)) (C:∀x∈n.af,dn x=some (S x))
  (hv:∀x∈n.af,E x=fE E S x) (e:∀x∈n.af,E x=true->zJ x=wv x):cO n=some (fE E S n):=by
 have he:=JC n.af A f;have hp:=abM n B z f n.af.length 0 aUE;rw[show((0:Nat):Int)=0 from rfl,aRk]at hp;have D:=ar8 n;rw[cO,fE];generalize n.af=d at*;generalize n.al=t at*;generalize n.aE=m at*;generalize n.ah=k at*;by_cases P:1<=k/\k<=23
 ·rcases(by omega:k=1\/k=2\/k=3\/k=4\/k=5\/k=6\/k=7\/k=8\/k=9\/k=10\/k=11\/k=12\/k=13\/k=14\/k=15\/k=16\/k=17\/k=18\/k=19\/k=20\/k=21\/k=22\/k=23)with h | h | h | h | h | h | h | h | h | h | h | h | h | h | h | h | h | h | h | h | h | h | h<;>subst h
  all_goals
   simp only[gE,aRM,aRN,Int.reduceEq,Int.reduceBEq,aRj,aRc,aRH,aSg,aSl,aRy,atX,sb,he,qj,tQ,tR,Uy t w,nest,JB,beq_true,<-ln1 (E:=E),<-ln2 (E:=E),<-ln3 (E:=E),<-aCu (E:=E)]
  case inr.inr.inr.inl=>
   rw[D rfl];rfl
  case inr.inr.inr.inr.inl=>
   show _=some (m==0&&(t==([]:av)&&d.all (SA E)));rw[hp,sb];cases d.all (SA E)
   ·show some false=_;simp
   ·by_cases h0:m=0
    ·rw[h0];simp [ob2,sb]
    ·rw[an.2 h0];simp [ob2,h0,sb]
  case inr.inr.inr.inr.inr.inl=>simp
  case inr.inr.inr.inr.inr.inr.inr.inr.inl=>
   rw[ln1];by_cases h1:m=1
   ·rw[At h1,h1];rfl
   ·rw[As h1,sb];by_cases h2:m=2
    ·rw[h2];rfl
    ·rw[an.2 h2,show rY 9 m=false from aRA aUE];rfl
  case inr.inr.inr.inr.inr.inr.inr.inr.inr.inr.inr.inr.inr.inr.inl=>
   match d,e with
   | [],_=>by_cases h0:m=0<;>by_cases h1:t=([]:av)<;>simp [h0,h1]
   | [a],_=>by_cases h0:m=0<;>by_cases h1:t=([]:av)<;>simp [h0,h1]
   | a::b::c::r,_=>rw[As (show ¬(((a::b::c::r:List ae).length:Int)=2) by simp only[so];omega)];by_cases h0:m=0<;>by_cases h1:t=([]:av)<;>simp [h0,h1]
   | [a,b],e=>
    show _=some (m==0&&(t==([]:av)&&(wv a&&(E a&&E b))));rw[eG,sb,At (show(([a,b]:List ae).length:Int)=2 from rfl),aRn,aRn,aRU,aRE];by_cases h0:m=0
    ·rw[At h0,h0];by_cases h1:t=([]:av)
     ·rw[At h1,h1];cases g:E a
      ·simp
      ·rw[e a aUG g];cases E b<;>cases wv a<;>rfl
     ·rw[As h1,an.2 h1];rfl
    ·rw[As h0,an.2 h0];rfl
  case inr.inr.inr.inr.inr.inr.inr.inr.inr.inr.inr.inr.inr.inr.inr.inl=>
   match d,e with
   | [],_=>by_cases h0:m=0<;>by_cases h1:t=([]:av)<;>simp [h0,h1]
   | [a],_=>by_cases h0:m=0<;>by_cases h1:t=([]:av)<;>simp [h0,h1]
   | a::b::c::r,_=>rw[As (show ¬(((a::b::c::r:List ae).length:Int)=2) by simp only[so];omega)];by_cases h0:m=0<;>by_cases h1:t=([]:av)<;>simp [h0,h1]
   | [a,b],e=>
    show _=some (m==0&&(t==([]:av)&&(wv a&&(E a&&E b))));rw[eG,sb,At (show(([a,b]:List ae).length:Int)=2 from rfl),aRn,aRn,aRU,aRE];by_cases h0:m=0
    ·rw[At h0,h0];by_cases h1:t=([]:av)
     ·rw[At h1,h1];cases g:E a
      ·simp
      ·rw[e a aUG g];cases E b<;>cases wv a<;>rfl
     ·rw[As h1,an.2 h1];rfl
    ·rw[As h0,an.2 h0];rfl
  case inr.inr.inr.inr.inr.inr.inr.inr.inr.inr.inr.inr.inr.inr.inr.inr.inl=>
   match d,hv with
   | [],_=>by_cases h0:m=0<;>cases h1:good t<;>simp [h0,h1,tU,nmK]
   | a::b::r,_=>rw[As (show ¬(((a::b::r:List ae).length:Int)=1) by simp only[so];omega)];by_cases h0:m=0<;>cases h1:good t<;>simp [h0,h1]
   | [a],hv=>
    show _=some (m==0&&(good t&&(a.ah==4&&E a)));rw[eG,sb,var_eq a (hv a aUG),sb,At (show(([a]:List ae).length:Int)=1 from rfl)];by_cases h0:m=0
    ·rw[At h0,h0];cases good t<;>rfl
    ·rw[As h0,an.2 h0];rfl
  case inr.inr.inr.inr.inr.inr.inr.inr.inr.inr.inr.inr.inr.inr.inr.inr.inr.inr.inr.inr.inr.inr=>
   rw[JD true d f C,sb];show _=some (m==0&&(t==([]:av)&&fU S true d));by_cases h0:m=0
   ·rw[At h0,h0];by_cases h1:t=([]:av)
    ·rw[At h1,h1];rfl
    ·rw[As h1,an.2 h1];rfl
   ·rw[As h0,an.2 h0];rfl
  case inr.inr.inr.inr.inr.inr.inr.inr.inr.inr.inr.inr.inr.inr.inr.inr.inr.inr.inr.inr.inr.inl=>
   show _=some (m==0&&((good t||t==([115,116,97,116,105,99]:av))&&d.all E));by_cases h0:m=0
   ·rw[At h0,h0];by_cases h1:t=([115,116,97,116,105,99]:av)
    ·rw[At h1,h1];simp [sb]
    ·rw[As h1,an.2 h1,aRH];rfl
   ·rw[As h0,an.2 h0];rfl
  all_goals first | rfl | (rw[ln1];rfl) | (rw[ln2];rfl) | (rw[ln3];rfl) | (rw[aCu];rfl)
 ·have h1:¬k=1:=by omega
  have h2:¬k=2:=by omega
  have F:¬k=3:=by omega
  have G:¬k=4:=by omega
  have Q:¬k=5:=by omega
  have H:¬k=7:=by omega
  have I:¬k=8:=by omega
  have J:¬k=9:=by omega
  have K:¬k=10:=by omega
  have L:¬k=11:=by omega
  have i:¬k=12:=by omega
  have j:¬k=13:=by omega
  have M:¬k=14:=by omega
  have l:¬k=15:=by omega
  have o:¬k=16:=by omega
  have N:¬k=17:=by omega
  have p:¬k=18:=by omega
  have q:¬k=19:=by omega
  have s:¬k=20:=by omega
  have u:¬k=21:=by omega
  have v:¬k=22:=by omega
  have O:¬k=23:=by omega
  simp only[gE,aRM,aRN,aRj,aRc,aRH,aSg,aSl,aRy,aRF,atX,sb, *,an.2 h1,an.2 h2,an.2 F,an.2 G,an.2 H,an.2 I,an.2 J,an.2 K,an.2 L,an.2 i,an.2 j,an.2 l,an.2 o,an.2 p,an.2 q,an.2 s,an.2 u,an.2 v]
end
section
variable {E S:ae->Bool}
theorem BN {a:ae} {r:List ae}:rG (a::r) 1=some r:=by
 unfold rG;rw[At ⟨by omega,by simp only[so];omega⟩];rfl
theorem aMa {a:ae} {r:List ae}:Ny (a::r) 1=some [a]:=by
 unfold Ny;rw[At ⟨by omega,by simp only[so];omega⟩];simp
theorem aMb (x:ae) {β:Type} (Y N:Option β) (hv:∀y∈x.af,E y=fE E S y) (d:∀y∈x.af,dn y=some (S y)) (i:x.ah=44):
  (if x.aE=0 then bK x.al>>=λe=>(if e=true then(if(x.af.length:Int)=2 then idx x.af 0>>=λf=>iP f>>=λg=>(if g=true then rG x.af 1>>=λj=>gF j>>=λk=>(if k=true then Y else N)else N)else N)else N)else N)=bif cat E S x then Y else N:=by
 rw[cat,i,tR,sb];generalize x.aE=m;by_cases h0:m=0
 ·rw[At h0,h0];cases good x.al
  ·rfl
  rw[At rfl]
  match h:x.af,hv,d with
  | [],_,_=>rfl
  | [a],_,_=>rfl
  | a::b::c::r,_,_=>rw[As (show ¬(((a::b::c::r:List ae).length:Int)=2) by simp only[so];omega)];rfl
  | [a,b],hv,d=>
   rw[At (by rfl),eG,sb,var_eq a (hv a aUG),sb,BN,sb,xf [b] (λy hy=>d y (by simp at hy ⊢;exact .inr hy)) aUG,sb,aRn,aRU,aRE];show _=bif ((a.ah==4)&&(E a&&bl S b))then Y else N
   cases(a.ah==4)<;>cases E a<;>cases bl S b<;>rfl
 ·rw[As h0,an.2 h0];rfl
theorem aMc (x:ae) (c:∀y∈x.af,dn y=some (S y)) (d:x.ah=45):
  (if x.aE=0 then(if x.al=([]:av)then(if(x.af.length:Int)=1 then gF x.af>>=λe=>some e else some false)else some false)else some false)=some (fin S x):=by
 rw[fin,d];generalize x.aE=m;generalize x.al=t;by_cases h0:m=0
 ·rw[At h0,h0];by_cases h1:t=([]:av)
  ·rw[At h1,h1]
   match h:x.af,c with
   | [],_=>rfl
   | a::b::r,_=>rw[As (show ¬(((a::b::r:List ae).length:Int)=1) by simp only[so];omega)];rfl
   | [a],c=>
    rw[At (by rfl),xf [a] c aUG,sb,aRn,aRU,aRE];rfl
  ·rw[As h1,an.2 h1];rfl
 ·rw[As h0,an.2 h0];rfl
theorem ar9 (x:ae) (h:¬x.ah=44):cat E S x=false:=by rw[cat,an.2 h];rfl
theorem acW (x:ae) (h:¬x.ah=45):fin S x=false:=by rw[fin,an.2 h];rfl
def fR (S:ae->Bool) (l:List ae):Bool:=match l with | []=>true | [c]=>fin S c | _=>false
def fT (E S:ae->Bool) (d:List ae):Bool:=match d with | [a,b]=>bl S a&&(cat E S b||fin S b) | [a,b,c]=>bl S a&&(cat E S b&&fin S c) | _=>false
theorem aMd (e:List ae) (m:∀x∈e,dn x=some (S x)) (n:∀x∈e,∀y∈x.af,E y=fE E S y) (g:∀x∈e,∀y∈x.af,dn y=some (S y)):
  xP e=some (fT E S e):=by
 rw[xP];rcases e with _ | ⟨a,_ | ⟨b,r⟩⟩
 ·rfl
 ·rfl
 rw[As (show ¬(((a::b::r:List ae).length:Int)<2) by simp only[so];omega),aMa,sb,xf [a] (λx hx=>m x (by simp at hx ⊢;exact .inl hx)) aUG,sb,BN,sb,BN,aRn,aRU,aRE,eG,sb,sb]
 have K:∀(l:List ae) (_:l=r\/l=b::r),(if(l.length:Int)=0 then some true else idx l 0>>=λi=>(if(l.length:Int)=1 then(if i.ah=45 then(if i.aE=0 then(if i.al=([]:av)then(if(i.af.length:Int)=1 then gF i.af>>=λo=>some o else some false)else some false)else some false)else some false)else some false))=some (fR S l):=by
  intro l p;rcases l with _ | ⟨c,_ | ⟨d,q⟩⟩
  ·rfl
  ·rw[As (show ¬((([c]:List ae).length:Int)=0) by simp),eG,sb,At (show(([c]:List ae).length:Int)=1 from rfl)];by_cases j:c.ah=45
   ·rw[At j,aMc c (g c (by rcases p with h | h<;>simp [<-h])) j];rfl
   ·rw[As j];show _=some (fin S c);rw[acW c j]
  ·rw[As (show ¬(((c::d::q:List ae).length:Int)=0) by simp only[so];omega),eG,sb,As (show ¬(((c::d::q:List ae).length:Int)=1) by simp only[so];omega)];rfl
 by_cases k:b.ah=44
 ·rw[At k,aMb (E:=E) (S:=S) b (some (Sum.inl r:List ae ⊕ Bool)) (some (Sum.inr false)) (n b aUG) (g b aUG) k];have hf:fin S b=false:=acW b aUE;cases f:bl S a
  ·rcases r with _ | ⟨c,_ | ⟨d,q⟩⟩<;>simp [fT,f]
  ·rw[At rfl];cases hc:cat E S b
   ·show some false=_;rcases r with _ | ⟨c,_ | ⟨d,q⟩⟩<;>simp [fT,f,hc,hf]
   ·show(if(r.length:Int)=0 then _ else _)=_;rw[K r (.inl rfl)];rcases r with _ | ⟨c,_ | ⟨d,q⟩⟩<;>simp [fT,fR,f,hc,hf]
 ·rw[As k,sb];have hf:cat E S b=false:=ar9 b k;cases f:bl S a
  ·rcases r with _ | ⟨c,_ | ⟨d,q⟩⟩<;>simp [fT,f]
  ·rw[At rfl];show(if((b::r).length:Int)=0 then _ else _)=_;rw[K (b::r) (.inr rfl)];rcases r with _ | ⟨c,_ | ⟨d,q⟩⟩<;>simp [fT,fR,f,hf]
end
section
variable {E S:ae->Bool}
theorem agN (n:ae) (J:n.al.length<4294967281) (H:n.af.length<4611686018427387904)
  (f:∀x∈n.af,cO x=some (E x)) (i:∀x∈n.af,dn x=some (S x)) (v:∀x∈n.af,∀y∈x.af,dn y=some (S y))
  (hv:∀x∈n.af,E x=fE E S x) (K:∀x∈n.af,∀y∈x.af,E y=fE E S y) (L:∀x∈n.af,E x=true->zJ x=wv x):dn n=some (fS E S n):=by
 have he:=JC n.af f H;have hp:=abK n i H n.af.length 0 aUE;rw[show((0:Nat):Int)=0 from rfl,aRk]at hp;have M:=aMd n.af i K v;rw[dn,fS];generalize n.af=g at*;generalize n.al=t at*;generalize n.aE=m at*;generalize n.ah=k at*;by_cases O:31<=k/\k<=48
 ·have e0:rY k m=(m==0):=by
   unfold rY;rw[As aUE,As aUE,As aUE,As aUE,As aUE,As aUE]
  rw[e0];by_cases h0:m=0;rotate_left
  ·rw[As h0,an.2 h0];rfl
  rw[At h0,h0];show _=some (tU k t&&gS E S k g);rcases(by omega:k=31\/k=32\/k=33\/k=34\/k=35\/k=36\/k=37\/k=38\/k=39\/k=40\/k=41\/k=42\/k=43\/k=44\/k=45\/k=46\/k=47\/k=48)with h | h | h | h | h | h | h | h | h | h | h | h | h | h | h | h | h | h<;>subst h
  all_goals
   simp only[gS,aRM,aRN,Int.reduceEq,Int.reduceBEq,aRj,aRc,aRH,aSg,aSl,aRy,atX,sb,he,tQ,tR,contains_eq t J,nest,JB,beq_true]
  case inl=>
   show _=some (t31 t&&(g.length:Int)==0);unfold t31;by_cases h1:t=([]:av)
   ·rw[At h1,h1];rfl
   ·rw[As h1,an.2 h1];cases decide (0<=Lib.index t [60,63])<;>rfl
  case inr.inr.inr.inl=>
   show _=some (t==([]:av)&&_);by_cases h1:t=([]:av);rotate_left
   ·rw[As h1,an.2 h1];rfl
   rw[At h1,h1];rcases g with _ | ⟨a,_ | ⟨b,_ | ⟨c,_ | ⟨d,r⟩⟩⟩⟩
   ·rfl
   ·rfl
   ·rw[eG,sb,f a aUG,sb,BN,sb,xf [b] (λx hx=>i x aVx) aUG,sb,aRn,aRU,aRE];dsimp only;cases E a<;>cases bl S b<;>rfl
   ·rw[eG,sb,f a aUG,sb,BN,sb,xf [b,c] (λx hx=>i x aVx) aUG,sb,aRn,aRn,aRU,aRE];dsimp only;cases E a<;>cases bl S b<;>cases bl S c<;>rfl
   ·rw[aRA aUR];rfl
  case inr.inr.inr.inr.inl=>
   show _=some (t==([]:av)&&_);by_cases h1:t=([]:av);rotate_left
   ·rw[As h1,an.2 h1];rfl
   rw[At h1,h1];rcases g with _ | ⟨a,_ | ⟨b,_ | ⟨c,r⟩⟩⟩
   ·rfl
   ·rfl
   ·rw[eG,sb,f a aUG,sb,BN,sb,xf [b] (λx hx=>i x aVx) aUG,sb,aRn,aRU,aRE];dsimp only;cases E a<;>cases bl S b<;>rfl
   ·rw[As (show ¬(((a::b::c::r:List ae).length:Int)=2) by simp only[so];omega)];rfl
  case inr.inr.inr.inr.inr.inl=>
   show _=some (t==([]:av)&&_);by_cases h1:t=([]:av);rotate_left
   ·rw[As h1,an.2 h1];rfl
   rw[At h1,h1];rcases g with _ | ⟨a,_ | ⟨b,_ | ⟨c,_ | ⟨d,_ | ⟨e,r⟩⟩⟩⟩⟩
   ·rfl
   ·rfl
   ·rfl
   ·rw[eG,pR,sb,sb,f a aUG,sb,var_eq b (hv b aUG),sb,At (show(([a,b,c]:List ae).length:Int)=3 from rfl),show bq ((([a,b,c]:List ae).length:Int) - 1)=2 from rfl,show rG [a,b,c] 2=some [c]from rfl,sb,xf [c] (λx hx=>i x (by simp at hx ⊢;exact .inr (.inr hx))) aUG,sb,aRn,aRU,aRE];dsimp only;cases(b.ah==4)<;>cases E a<;>cases E b<;>cases bl S c<;>rfl
   ·rw[eG,pR,Aj,sb,sb,sb,f a aUG,sb,var_eq b (hv b aUG),sb,As (show ¬(([a,b,c,d]:List ae).length:Int)=3 by simp),var_eq c (hv c aUG),sb,show bq ((([a,b,c,d]:List ae).length:Int) - 1)=3 from rfl,show rG [a,b,c,d] 3=some [d]from rfl,sb,xf [d] (λx hx=>i x (by simp at hx ⊢;exact .inr (.inr (.inr hx)))) aUG,sb,aRn,aRU,aRE];dsimp only;cases(b.ah==4)<;>cases(c.ah==4)<;>cases E a<;>cases E b<;>cases E c<;>cases bl S d<;>rfl
   ·rw[aRA aUR];rfl
  case inr.inr.inr.inr.inr.inr.inr.inr.inl=>rw[aCv];rfl
  case inr.inr.inr.inr.inr.inr.inr.inr.inr.inr.inl=>
   show _=some (t==([]:av)&&_);by_cases h1:t=([]:av);rotate_left
   ·rw[As h1,an.2 h1];rfl
   rw[At h1,h1];rcases g with _ | ⟨a,_ | ⟨b,r⟩⟩
   ·rfl
   ·rw[At (show(([a]:List ae).length:Int)=1 from rfl),eG,sb,u0,qj,sb,f a aUG,sb];show _=some (wv a&&E a);cases N:E a
    ·cases zJ a<;>simp [sb]
    ·rw[L a aUG N];cases wv a<;>rfl
   ·rw[As (show ¬(((a::b::r:List ae).length:Int)=1) by simp only[so];omega)];rfl
  case inr.inr.inr.inr.inr.inr.inr.inr.inr.inr.inr.inr.inl=>
   rw[M,sb];by_cases h1:t=([]:av)
   ·rw[At h1,h1];rfl
   ·rw[As h1,show tU 43 t=false from an.2 h1];rfl
  case inr.inr.inr.inr.inr.inr.inr.inr.inr.inr.inr.inr.inr.inr.inr.inl=>
   show _=some (t==([]:av)&&_);by_cases h1:t=([]:av);rotate_left
   ·rw[As h1,an.2 h1];rfl
   rw[At h1,h1];rcases g with _ | ⟨a,_ | ⟨b,_ | ⟨c,r⟩⟩⟩
   ·rfl
   ·rw[show bq ((([a]:List ae).length:Int) - 1)=0 from rfl,eG,sb,sb,f a aUG];rfl
   ·rw[show bq ((([a,b]:List ae).length:Int) - 1)=1 from rfl,eG,pR,sb,sb,f b aUG,var_eq a (hv a aUG),sb,sb];dsimp only;cases(a.ah==4)<;>cases E a<;>cases E b<;>rfl
   ·rw[As (show ¬(((a::b::c::r:List ae).length:Int)=1) by simp only[so];omega),As (show ¬(((a::b::c::r:List ae).length:Int)=2) by simp only[so];omega)];rfl
  case inr.inr.inr.inr.inr.inr.inr.inr.inr.inr.inr.inr.inr.inr.inr.inr.inr=>
   rw[hp,sb];show _=some (t==([]:av)&&_);cases g.all S
   ·cases(t==([]:av))<;>rfl
   ·cases(t==([]:av))<;>rfl
  all_goals first
   | rfl
   | (
    show _=some (t==([]:av)&&_);by_cases h1:t=([]:av)
    ·rw[At h1,h1];rcases g with _ | ⟨a,_ | ⟨b,r⟩⟩
     ·rfl
     ·rw[At (show(([a]:List ae).length:Int)=1 from rfl),eG,sb,f a aUG];rfl
     ·rw[As (show ¬(((a::b::r:List ae).length:Int)=1) by simp only[so];omega)];rfl
    ·rw[As h1,an.2 h1];rfl)
   | (simp;done)
 ·have j:¬k=31:=by omega
  have l:¬k=32:=by omega
  have o:¬k=33:=by omega
  have w:¬k=34:=by omega
  have z:¬k=35:=by omega
  have A:¬k=36:=by omega
  have p:¬k=37:=by omega
  have q:¬k=38:=by omega
  have B:¬k=39:=by omega
  have I:¬k=40:=by omega
  have C:¬k=41:=by omega
  have s:¬k=42:=by omega
  have D:¬k=43:=by omega
  have F:¬k=46:=by omega
  have u:¬k=47:=by omega
  have G:¬k=48:=by omega
  simp only[gS,aRM,aRN,aRj,aRc,aRH,aSg,aSl,aRy,aRF,atX,sb,an.2 j,an.2 l,an.2 o,an.2 p,an.2 q,an.2 I,an.2 s,an.2 u,j,l,o,w,z,A,p,q,B,I,C,s,D,F,u,G,ite_self]
end
theorem vtg {x:ae} (h:wt x<=134217728) (he:vE x=true):zJ x=wv x:=SM (S:=vS) _ x (aRh _) (λy _ hw=>Hp aUE) he
theorem Tg:∀(N:Nat) (n:ae),sz n<N->wt n<=134217728->cO n=some (vE n)/\dn n=some (vS n)
 | 0,n,h,_=>by omega
 | N+1,n,h,hw=>by
  have a:∀x∈n.af,_:=λx hx=>Tg N x aVu (by have:=jN hx;omega);have b:∀x∈n.af,∀y∈x.af,_:=λx hx y hy=>Tg N y aVc aVq;have bd:∀x:ae,wt x<=134217728->x.al.length<4294967281/\x.af.length<4611686018427387904:=λx hx=>by have:=DO x;omega
  have w1:∀x∈n.af,wt x<=134217728:=λx hx=>by have:=jN hx;omega
  have c:∀x∈n.af,∀y∈x.af,wt y<=134217728:=λx hx y hy=>by have:=jN hx;have:=jN hy;omega
  rw[Hp hw,Mh hw]
  exact⟨agM n (bd n hw).1 (bd n hw).2 (λx hx=>(bd x (w1 x hx)).2) (λx hx=>(a x hx).1) (λx hx y hy=>(b x hx y hy).1) (λx hx=>(a x hx).2) (λx hx=>Hp (w1 x hx)) (λx hx=>vtg (w1 x hx)),
   agN n (bd n hw).1 (bd n hw).2 (λx hx=>(a x hx).1) (λx hx=>(a x hx).2) (λx hx y hy=>(b x hx y hy).2) (λx hx=>Hp (w1 x hx)) (λx hx y hy=>Hp (c x hx y hy)) (λx hx=>vtg (w1 x hx))⟩
theorem iE {n:ae} (h:wt n<=134217728):cO n=some (vE n):=(Tg _ n (aRh _) h).1
theorem iS {n:ae} (h:wt n<=134217728):dn n=some (vS n):=(Tg _ n (aRh _) h).2
theorem Ez {n:ae} (h:wt n<=134217728):n.al.length<=134217728/\n.af.length<=134217728:=by have:=DO n;omega
theorem wk {n:ae} (h:wt n<=134217728):∀x∈n.af,wt x<=134217728:=λx hx=>by have:=jN hx;omega
theorem EB {n:ae} (h:wt n<=134217728):sz n<4611686018427387904:=by have:=akc n;omega
def vX (n:ae):Bool:=decide (sz n<=600/\dp n<=30)&&vE n
theorem BC (n:ae) (h:wt n<=134217728):ng n=some (vX n)/\qU n=some (vX n):=by
 obtain⟨h1,h2⟩:=Mf n (EB h);unfold ng qU vX;rw[h1,h2,sb,sb,iE h,spE h];cases decide (sz n<=600/\dp n<=30)<;>exact⟨rfl,rfl⟩
def m54 (a:List ae):Bool:=match a with | [y]=>decide (1<=y.ah/\y.ah<=3)&&vE y | _=>false
def AY (c:Bool):Bool->Bool->List ae->Bool
 | _,_,[]=>true
 | f,p,x::r=>bif x.ah==52 then(f&&(c&&(x.aE==0&&(good x.al&&(x.af.length:Int)==0))))&&AY c false false r
  else bif x.ah==53 then(!p&&(x.aE==0&&(good x.al&&(x.af.length:Int)==0)))&&AY c false false r
  else bif x.ah==54 then(decide (0<=x.aE/\x.aE<=1)&&(good x.al&&m54 x.af))&&AY c false true r
  else(x.ah==55&&(decide (0<=x.aE/\x.aE<=3)&&(good x.al&&fU vS false x.af)))&&AY c false true r
theorem s54 (c:List ae) (hw:∀x∈c,wt x<=134217728) (d e:Bool) (y5:Nat) (Z:Option (Unit ⊕ Bool)) (K:Int×Bool->Option (Unit ⊕ Bool)):
  ((if(c.length:Int)=1 then idx c 0>>=λf=>A6 f.ah 1 3>>=λg=>(if g=true then idx c 0>>=λh=>bH h>>=λi=>some (2,i)else some (2,false))else some (2,false))>>=K)=K (2,m54 c):=by
 rcases c with _ | ⟨a,_ | ⟨b,r⟩⟩
 ·rfl
 ·rw[At (show(([a]:List ae).length:Int)=1 from rfl),eG,sb,sC,sb,sb,spE (hw a aUG),m54];cases decide (1<=a.ah/\a.ah<=3)<;>rfl
 ·rw[As (show ¬(((a::b::r:List ae).length:Int)=1) by simp only[so];omega)];rfl
theorem i54 (c:List ae) (hw:∀x∈c,wt x<=134217728) {β:Type} (Y N:Option β):
  (if(c.length:Int)=1 then idx c 0>>=λd=>NK d.ah 1 3>>=λe=>(if e=true then idx c 0>>=λf=>cO f>>=λg=>(if g=true then Y else N)else N)else N)=bif m54 c then Y else N:=by
 rcases c with _ | ⟨a,_ | ⟨b,r⟩⟩
 ·rfl
 ·rw[At (show(([a]:List ae).length:Int)=1 from rfl),eG,sb,tQ,sb,sb,iE (hw a aUG),m54];cases decide (1<=a.ah/\a.ah<=3)<;>cases vE a<;>rfl
 ·rw[As (show ¬(((a::b::r:List ae).length:Int)=1) by simp only[so];omega)];rfl
theorem asa (n:ae) (hw:wt n<=134217728):∀(f i:Nat) (y:Int),n.af.length<=i+f->(y=0↔i=0)->0<=y->iA n y (i:Int)=some (ob2 (AY (!(n.ah==51)) (decide (i=0)) (decide (1<y)) (n.af.drop i)))
 | f,i,y,hf,hy,l=>by
  have r:=(Ez hw).2;rw[iA];by_cases hc:i<n.af.length
  ·obtain⟨g,rfl⟩:∃g,f=g+1:=⟨f - 1,by omega⟩;have hx:=wk hw _ (aRr hc);have o:=asa n hw g (i+1) 1 aUE aUE aUE;have p:=asa n hw g (i+1) 2 aUE aUE aUE;rw[At aUE,dj hc,sb,tR,sb,ca aUE,o,p,aRl hc,AY];generalize n.af[i]=x at hx;rw[i54 _ (wk hx),tQ,sb,JD (S:=vS) false x.af (by have:=(Ez hx).2;omega) (λz q=>iS (wk hx z q)),sb];rw[show decide (i+1=0)=false from aRA aUE,show decide ((1:Int)<1)=false from rfl,show decide ((1:Int)<2)=true from rfl]
   have e0:∀(b:Bool),(if(x.af.length:Int)>0 then(some (.inr (.inr false)):Option (Unit ⊕ (Unit ⊕ Bool)))else some (ob2 b))=some (ob2 ((x.af.length:Int)==0&&b)):=by
    intro b;by_cases h:(x.af.length:Int)>0
    ·rw[At h,an.2 aUE];rfl
    ·rw[As h,show(x.af.length:Int)=0 by omega];rfl
   rw[e0];generalize AY (!(n.ah==51)) false false (n.af.drop (i+1))=s;generalize AY (!(n.ah==51)) false true (n.af.drop (i+1))=t;generalize fU vS false x.af=U;generalize m54 x.af=M;generalize((x.af.length:Int)==0)=L;generalize x.aE=m;generalize x.ah=k;cases good x.al
   ·simp;rfl
   rw[At rfl];by_cases h1:k=52
   ·rw[At h1,h1];by_cases h2:n.ah=51
    ·rw[At h2,h2];simp;rfl
    ·rw[As h2,an.2 h2];by_cases d:y>0
     ·rw[At d,aRA (show ¬i=0 by omega)];rfl
     ·rw[As d,aSa (show i=0 by omega)];by_cases a:m=0
      ·rw[At a,a];rfl
      ·rw[As a,an.2 a];rfl
   ·rw[As h1,an.2 h1];by_cases e:k=53
    ·rw[At e,e];by_cases d:y>1
     ·rw[At d,aSa (show 1<y by omega)];rfl
     ·rw[As d,aRA (show ¬1<y by omega)];by_cases a:m=0
      ·rw[At a,a];rfl
      ·rw[As a,an.2 a];rfl
    ·rw[As e,an.2 e];by_cases j:k=54
     ·rw[At j,j];by_cases a:m=0
      ·rw[At a,a];cases M<;>rfl
      ·rw[As a];by_cases c:m=1
       ·rw[At c,c];cases M<;>rfl
       ·rw[As c,aRA (show ¬(0<=m/\m<=1) by omega)];rfl
     ·rw[As j,an.2 j];by_cases c:k=55
      ·rw[At c,c];cases decide (0<=m/\m<=3)<;>cases U<;>rfl
      ·rw[As c,an.2 c];rfl
  ·rw[As aUE,aRd aUE];cases decide (i=0)<;>cases decide (1<y)<;>rfl
theorem agO (n:ae) (hw:wt n<=134217728):∀(f i:Nat) (y:Int),n.af.length<=i+f->(i=0->y=0)->0<=y->y<=2->kQ n y (i:Int)=some (Ho (AY (n.ah==50) (decide (i=0)) (decide (1<y)) (n.af.drop i)))
 | f,i,y,hf,hy,p,q=>by
  have w:=(Ez hw).2;rw[kQ];by_cases hc:i<n.af.length
  ·obtain⟨g,rfl⟩:∃g,f=g+1:=⟨f - 1,by omega⟩;have hx:=wk hw _ (aRr hc);have h:=agO n hw g (i+1) 0 aUE aUE aUE aUE;have j:=agO n hw g (i+1) 1 aUE aUE aUE aUE;have b:=agO n hw g (i+1) 2 aUE aUE aUE aUE;rw[show decide (i+1=0)=false from aRA aUE]at h j b;rw[show decide ((1:Int)<0)=false from rfl]at h;rw[show decide ((1:Int)<1)=false from rfl]at j;rw[show decide ((1:Int)<2)=true from rfl]at b;rw[At aUE,dj hc,sb,BA _ (by have:=(Ez hx).1;omega),sb,ca aUE,aRl hc,AY];generalize n.af[i]=x at hx;have k:∀K:Int×Bool->Option (Unit ⊕ Bool),((if(x.af.length:Int)=1 then idx x.af 0>>=λr=>A6 r.ah 1 3>>=λs=>(if s=true then idx x.af 0>>=λt=>bH t>>=λu=>some (2,u)else some (2,false))else some (2,false))>>=K)=K (2,m54 x.af):=s54 x.af (wk hx) true true 0 none;rw[Jz (S:=vS) false x.af (by have:=(Ez hx).2;omega) (λz v=>sB (wk hx z v)),sb];generalize AY (n.ah==50) false false (n.af.drop (i+1))=m at*;generalize AY (n.ah==50) false true (n.af.drop (i+1))=o at*;by_cases h1:x.ah=52
   ·rw[At h1,h1];show _=some (Ho ((decide (i=0)&&(n.ah==50&&(x.aE==0&&(good x.al&&(x.af.length:Int)==0))))&&m));rw[show rY 52 x.aE=(x.aE==0)from rfl,show tU 52 x.al=good x.al from rfl];by_cases h2:i=0
    ·rw[At aUE,aSa h2];have l:=hy h2;subst l;by_cases a:n.ah=50
     ·rw[At a,a];show(if(x.aE==0)=true then _ else _)=_;cases(x.aE==0)<;>cases good x.al<;>cases((x.af.length:Int)==0)<;>first | rfl | (rw[At rfl,At rfl,At rfl,As aUF,h];rfl)
     ·rw[As a,an.2 a];show(if(x.aE==0)=true then _ else _)=_;cases(x.aE==0)<;>cases good x.al<;>rfl
    ·rw[As aUE,aRA h2];show(if(x.aE==0)=true then _ else _)=_;cases(x.aE==0)<;>cases good x.al<;>rfl
   rw[As h1,an.2 h1];by_cases c:x.ah=53
   ·rw[At c,c];show(if(x.aE==0)=true then _ else _)=some (Ho ((!decide (1<y)&&(x.aE==0&&(good x.al&&(x.af.length:Int)==0)))&&m));rw[show tU 53 x.al=good x.al from rfl];try dsimp only
    rw[j];by_cases a:1<y
    ·rw[At a,aSa a];cases(x.aE==0)<;>cases good x.al<;>cases((x.af.length:Int)==0)<;>rfl
    ·rw[As a,aRA a];cases(x.aE==0)<;>cases good x.al<;>cases((x.af.length:Int)==0)<;>rfl
   rw[As c,an.2 c];by_cases d:x.ah=54
   ·rw[At d,d];show((if(x.af.length:Int)=1 then _ else _)>>=_)=_;rw[k];show(if rY 54 x.aE=true then _ else _)=some (Ho ((rY 54 x.aE&&(good x.al&&m54 x.af))&&o));rw[show tU 54 x.al=good x.al from rfl];try dsimp only
    rw[b,As (show ¬(2:Int)<y by omega)];cases rY 54 x.aE<;>cases good x.al<;>cases m54 x.af<;>rfl
   rw[As d,an.2 d];by_cases e:x.ah=55
   ·rw[At e,e];show(if rY 55 x.aE=true then _ else _)=some (Ho ((rY 55 x.aE&&(good x.al&&fU vS false x.af))&&o));rw[show tU 55 x.al=good x.al from rfl];try dsimp only
    rw[b,As (show ¬(2:Int)<y by omega)];cases rY 55 x.aE<;>cases good x.al<;>cases fU vS false x.af<;>rfl
   ·rw[As e,an.2 e];show(if rY x.ah x.aE=true then _ else _)=_;cases rY x.ah x.aE<;>cases tU x.ah x.al<;>rfl
  ·rw[As aUE,aRd aUE];cases decide (i=0)<;>cases decide (1<y)<;>rfl
def vT (n:ae):Bool:=n.aE==0&&(good n.al&&(bif n.ah==49 then fU vS false n.af else(n.ah==50||n.ah==51)&&AY (n.ah==50) true false n.af))
theorem aMe (n:ae) (hw:wt n<=134217728):uc n=some (vT n):=by
 unfold uc vT;have h0:=asa n hw n.af.length 0 0 aUE aUE aUE;rw[show((0:Nat):Int)=0 from rfl,aRk,show decide ((0:Nat)=0)=true from rfl,show decide ((1:Int)<0)=false from rfl]at h0;rw[tR,sb,h0,JD (S:=vS) false n.af (by have:=(Ez hw).2;omega) (λz d=>iS (wk hw z d)),sb,sb];by_cases h1:n.aE=0
 ·rw[At h1,h1];cases good n.al
  ·rfl
  rw[At rfl];by_cases a:n.ah=49
  ·rw[At a,a,sb];rfl
  ·rw[As a,an.2 a];by_cases b:n.ah=50
   ·rw[At b,b,show(!((50:Int)==51))=true from rfl,show((50:Int)==50)=true from rfl];cases AY true true false n.af<;>rfl
   ·rw[As b,an.2 b];by_cases c:n.ah=51
    ·rw[c,show(!((51:Int)==51))=false from rfl];cases AY false true false n.af<;>rfl
    ·rw[an.2 c];rfl
 ·rw[As h1,an.2 h1];rfl
def vP (x:ae):Bool:=vT x||vS x
theorem acX {x:ae} (hw:wt x<=134217728) (h:49<=x.ah):vS x=false:=by
 rw[Mh hw,fS];have a:¬x.ah=31:=by omega
 have b:¬x.ah=32:=by omega
 have c:¬x.ah=33:=by omega
 have d:¬x.ah=34:=by omega
 have e:¬x.ah=35:=by omega
 have f:¬x.ah=36:=by omega
 have g:¬x.ah=37:=by omega
 have i:¬x.ah=38:=by omega
 have j:¬x.ah=39:=by omega
 have q:¬x.ah=40:=by omega
 have k:¬x.ah=41:=by omega
 have l:¬x.ah=42:=by omega
 have m:¬x.ah=43:=by omega
 have n:¬x.ah=46:=by omega
 have o:¬x.ah=47:=by omega
 have p:¬x.ah=48:=by omega
 simp only[gS,aRM,aRN,aRc,aRH,aRF,atX,an.2 a,an.2 b,an.2 c,an.2 g,an.2 i,an.2 q,an.2 l,an.2 o,d,e,f,j,k,m,n,p]
theorem aFu (n:ae) (hw:wt n<=134217728):∀(f i:Nat),n.af.length<=i+f->jw n (i:Int)=some (Ho ((n.af.drop i).all vP))
 | f,i,hf=>by
  rw[jw];by_cases hc:i<n.af.length
  ·obtain⟨g,rfl⟩:∃g,f=g+1:=⟨f - 1,by omega⟩;have a:=(Ez hw).2;have hx:=wk hw _ (aRr hc);rw[At aUE,dj hc,sb,aMe _ hx,sb,iS hx,sb,ca aUE,aFu n hw g (i+1) aUE,aRl hc,aRn,vP];cases vT n.af[i]<;>cases vS n.af[i]<;>rfl
  ·rw[As aUE,aRd aUE];rfl
theorem scl (n:ae) (hw:wt n<=134217728):mm n=some (AY (n.ah==50) true false n.af):=by
 have h0:=agO n hw n.af.length 0 0 aUE aUE aUE aUE;rw[show((0:Nat):Int)=0 from rfl,aRk,show decide ((0:Nat)=0)=true from rfl,show decide ((1:Int)<0)=false from rfl]at h0;unfold mm;rw[h0,sb];cases AY (n.ah==50) true false n.af<;>rfl
theorem aFv (n:ae) (hw:wt n<=134217728):∀(f i:Nat),n.af.length<=i+f->gm n (i:Int)=some (Ho ((n.af.drop i).all vP))
 | f,i,hf=>by
  rw[gm];by_cases hc:i<n.af.length
  ·obtain⟨g,rfl⟩:∃g,f=g+1:=⟨f - 1,by omega⟩;have c:=(Ez hw).2;have hx:=wk hw _ (aRr hc);rw[At aUE,dj hc,sb,BA _ (by have:=(Ez hx).1;omega),sb,ca aUE,aRl hc,aRn,vP];generalize n.af[i]=x at hx;rw[spS hx];show(if x.ah=49 then _ else _)=_;rw[scl x hx,Jz (S:=vS) false x.af (by have:=(Ez hx).2;omega) (λz b=>sB (wk hx z b)),sb,sb,aFv n hw g (i+1) aUE];generalize(n.af.drop (i+1)).all vP=R;by_cases h1:x.ah=49
   ·rw[At h1,h1,acX hx aUE,vT,h1,show rY 49 x.aE=(x.aE==0)from rfl,show tU 49 x.al=good x.al from rfl,show((49:Int)==49)=true from rfl];show _=some (Ho (((x.aE==0&&(good x.al&&fU vS false x.af))||false)&&R));cases(x.aE==0)<;>cases good x.al<;>cases fU vS false x.af<;>rfl
   ·rw[As h1];by_cases h2:x.ah=50
    ·rw[At h2,h2,acX hx aUE,vT,h2,show rY 50 x.aE=(x.aE==0)from rfl,show tU 50 x.al=good x.al from rfl];show _=some (Ho (((x.aE==0&&(good x.al&&AY true true false x.af))||false)&&R));rw[show((50:Int)==50)=true from rfl];cases(x.aE==0)<;>cases good x.al<;>cases AY true true false x.af<;>rfl
    ·rw[As h2];by_cases a:x.ah=51
     ·rw[At a,a,acX hx aUE,vT,a,show rY 51 x.aE=(x.aE==0)from rfl,show tU 51 x.al=good x.al from rfl];show _=some (Ho (((x.aE==0&&(good x.al&&AY false true false x.af))||false)&&R));rw[show((51:Int)==50)=false from rfl];cases(x.aE==0)<;>cases good x.al<;>cases AY false true false x.af<;>rfl
     ·rw[As a,vT,an.2 h1,an.2 h2,an.2 a];cases(x.aE==0)<;>cases good x.al<;>cases vS x<;>rfl
  ·rw[As aUE,aRd aUE];rfl
def vZ (n:ae):Bool:=n.ah==56&&(n.aE==0&&(n.al==([]:av)&&(decide (sz n<=600/\dp n<=30)&&n.af.all vP)))
theorem xh (n:ae) (hw:wt n<=134217728):kN n=some (vZ n)/\nH n=some (vZ n):=by
 obtain⟨h1,h2⟩:=Mf n (EB hw);have d:=aFu n hw n.af.length 0 aUE;have e2:=aFv n hw n.af.length 0 aUE;rw[show((0:Nat):Int)=0 from rfl,aRk]at d e2;unfold kN nH vZ;rw[h1,h2,sb,sb,d,e2,sb];generalize n.af.all vP=R;generalize decide (sz n<=600/\dp n<=30)=D;generalize n.ah=k;generalize n.aE=m;generalize n.al=t;by_cases a:k=56
 ·by_cases b:m=0
  ·by_cases c:t=([]:av)
   ·rw[At a,At a,At b,At b,At c,At c,a,b,c];cases D<;>cases R<;>exact⟨rfl,rfl⟩
   ·rw[At a,At a,At b,At b,As c,As c,a,b,an.2 c];cases D<;>exact⟨rfl,rfl⟩
  ·rw[At a,At a,As b,As b,a,an.2 b];cases D<;>exact⟨rfl,rfl⟩
 ·rw[As a,As a,an.2 a];cases D<;>exact⟨rfl,rfl⟩
section
variable {ts:List ai}{e e':Int}
theorem Th (H:Tk ts e) {i:Nat} (hi:i<=ts.length) (l:∀s,Lt ts i s->PC ts e e' s):C1 ts e e' true 1 (.g i) cW cp:=by
 obtain⟨c,n,m,d,g2,a⟩:=Q1 (e':=e') H hi l 7 4 rfl aUF;have d:bI (pS ts e (.g i)) 4=some (n,pS ts e c):=d;have g2:ff (qS ts e' (.g i))=some (m,qS ts e' c):=g2;rcases I6 (ts:=ts) c [63,63]with h | ⟨b,rfl,h⟩
 ·refine⟨c,n,m,?_,?_,a⟩
  ·rw[cW];refine a7 d ?_;refine bm (aZ (w:=[63,63]) H a.ok h) ?_;rfl
  ·rw[cp];refine a7 g2 ?_;refine bm (aF (w:=[63,63]) H a.ok h) ?_;rfl
 ·have o:=cd h;have hle:i<=b:=a.le;obtain⟨s2,x,y,p,f2,f⟩:=(l _ (Lt.g (show i<b+1 by omega) o)).O9;have z:b+1<=s2.pos:=f.le;refine⟨s2,.mk 13 0 [] [n,x],.mk 13 0 [] [m,y],?_,?_,Rs.Ti aUF aUF aUF f.ok aUE (Of _) (λj hj=>?_) (λr h'=>?_)⟩
  ·rw[cW];refine a7 d ?_;refine dC (ck H h) ?_;refine a7 p ?_;rfl
  ·rw[cp];refine a7 g2 ?_;refine dC (bL H h) ?_;refine a7 f2 ?_;rfl
  ·have q:b+1<j:=(f.dm j hj).2.1;omega
  ·obtain⟨k,q1,A,t,B,_⟩:=f.good r h';cases q1;obtain⟨k,u,C,v,D,_⟩:=a.good b rfl;cases u;subst t;subst v;refine⟨by omega,rfl,rfl,?_⟩;rw[gv,cy];simp only[An];omega
theorem Tj (H:Tk ts e) {i:Nat} (hi:i<=ts.length) (f:∀s,Lt ts i s->PC ts e e' s):C1 ts e e' true 1 (.g i) eP dE:=by
 obtain⟨l,n,m,o,g2,a⟩:=Th (e':=e') H hi f;rcases I6 (ts:=ts) l [63]with h | ⟨c,rfl,h⟩
 ·refine⟨l,n,m,?_,?_,a⟩
  ·rw[eP];refine a7 o ?_;refine bm (aZ (w:=[63]) H a.ok h) ?_;rfl
  ·rw[dE];refine a7 g2 ?_;refine bm (aF (w:=[63]) H a.ok h) ?_;rfl
 ·have p:=cd h;have hle:i<=c:=a.le;obtain⟨s2,x,y,r,f2,b⟩:=(f _ (Lt.g (show i<c+1 by omega) p)).expr;have J:c+1<=s2.pos:=b.le;obtain⟨t,z,u,h1,h2,d⟩:=(f _ (Lt.w (i:=i) b.ok aUE [58])).cond;have v:=d.le;have A:=gq (ts:=ts) s2 [58];refine⟨t,.mk 14 0 [] [n,x,z],.mk 14 0 [] [m,y,u],?_,?_,Rs.Ti aUF aUF aUF d.ok aUE (Of _) (λj hj=>?_) (λB h'=>?_)⟩
  ·rw[eP];refine a7 o ?_;refine dC (ck H h) ?_;refine a7 r ?_;refine a7 (dW H _ b.ok [58]) ?_;refine a7 h1 ?_;rfl
  ·rw[dE];refine a7 g2 ?_;refine dC (bL H h) ?_;refine a7 f2 ?_;refine a7 (eY H _ b.ok [58]) ?_;refine a7 h2 ?_;rfl
  ·have q:=(d.dm j hj).2.1;omega
  ·obtain⟨k,q1,K,C,L,_⟩:=d.good B h';obtain⟨k1,D,E,_⟩:=ft q1;obtain⟨k2,r1,M,F,N,_⟩:=b.good k1 D;cases r1;obtain⟨k3,G,O,I,P,_⟩:=a.good c rfl;cases G;subst C;subst I;subst F;refine⟨by omega,rfl,rfl,?_⟩;rw[gv,gv,cy];simp only[An];omega
theorem aMf (H:Tk ts e) {i:Nat} (h:tw ts i [38]=true):∃m,aK (qS ts e' (.g i))=some (m,qS ts e' (.b i)):=by
 have hi:i<=ts.length:=aRL (cd h);have hs:(JS.g i).Ok ts:=hi;have c:(JS.b i).Ok ts:=hi;obtain⟨k4,k,k2,_⟩:=lB h;have f:kx ts i=false:=Ac h aUF aUF aUF
 have j:vu ts 3 i=false:=by
  have d:=h;rw[<-aM H aUF aUF]at d;unfold aT at d;rw[No,aRi]at d;exact aG5 (by rw[d.1];decide)
 refine⟨.mk 21 0 ([]++[58,58]++[]) [],?_⟩;rw[aK];refine nL H hs ?_;refine cf qg ?_;refine a7 (uK H hi) ?_;refine cf (show ¬kx ts i=true by rw[f];exact are) ?_;refine cf k2 ?_;refine Vv H hs h [91] [40] [110,101,119] [102,117,110,99,116,105,111,110] ?_;refine(gA (a:=(([]:av),qS ts e' (.b i))) ?_).trans ?_
 ·unfold cQ;refine bm (aF H hs (dK h aUF)) ?_;refine a7 (Pb H hi j (.inr rfl)) ?_;rfl
 refine(gA (a:=(Sum.inl ((qS ts e' (.b i)).aq,(qS ts e' (.b i)).bF,(qS ts e' (.b i)).ay,(qS ts e' (.b i)).ax):((List ai)×Int×Int×Bool) ⊕ (ae×ak))) ?_).trans ?_
 ·refine cf (show ¬([]:av)=[115,116,97,116,105,99] by decide) ?_;refine bm ((fF (e':=e') H (.b i) c [40]).trans (by rw[show tw ts (JS.b i).pos [40]=false from dK h aUF])) ?_;rfl
 refine a7 (eY H _ c [58,58]) ?_;refine a7 (sx (a:=[]) (b:=[58,58]) aUF) ?_;refine a7 (nM H _ c rfl 3 (.inr rfl)) ?_;refine a7 (sx (a:=[]++[58,58]) (b:=[]) aUF) ?_;refine a7 (I7 H c) ?_;rfl
theorem aMg (H:Tk ts e) {i:Nat} (h:tw ts i [38]=true):∃m,bb (qS ts e' (.g i))=some (m,qS ts e' (.b i)):=by
 have hi:i<=ts.length:=aRL (cd h);have hs:(JS.g i).Ok ts:=hi;have c:(JS.b i).Ok ts:=hi;obtain⟨m,h1⟩:=aMf (e':=e') H h
 have h2:cm (qS ts e' (.g i)) false=some (m,qS ts e' (.b i)):=by
  rw[cm];refine a7 h1 ?_;refine I9.run (x:=_) (.inr ?_);rw[aJ];simp only[jq,aRj]
 have f:cH (qS ts e' (.g i))=some (m,qS ts e' (.b i)):=by
  rw[cH];refine bm (aF (w:=[33]) H hs (dK h aUF)) ?_;refine bm (aF (w:=[45]) H hs (dK h aUF)) ?_;refine a7 h2 ?_;rfl
 have j:∀k a:Nat,a+k=11->bA (qS ts e' (.g i)) a=some (m,qS ts e' (.b i)):=by
  intro k;induction k with
  | zero=>
   intro a d;obtain rfl:a=11:=d;rw[bA,At aUF];refine a7 f ?_;rfl
  | succ k l=>
   intro a d;rw[bA,As aUE,ca aUE];refine a7 (l (a+1) aUE) ?_;refine I9.run (x:=_) (.inr ?_);rw[bP];simp only[jq,aRj]
 have n:dT (qS ts e' (.g i))=some (m,qS ts e' (.b i)):=by
  rw[dT];refine a7 (j 5 6 rfl) ?_;refine J9.run (x:=_) ?_;rw[cj,du];refine bm (aF (w:=[38,38]) H c rfl) ?_;rfl
 have o:ff (qS ts e' (.g i))=some (m,qS ts e' (.b i)):=by
  rw[ff];refine a7 n ?_;refine J9.run (x:=_) ?_;rw[cw,du];refine bm (aF (w:=[124,124]) H c rfl) ?_;rfl
 have p:cp (qS ts e' (.g i))=some (m,qS ts e' (.b i)):=by
  rw[cp];refine a7 o ?_;refine bm (aF (w:=[63,63]) H c rfl) ?_;rfl
 have q:dE (qS ts e' (.g i))=some (m,qS ts e' (.b i)):=by
  rw[dE];refine a7 p ?_;refine bm (aF (w:=[63]) H c rfl) ?_;rfl
 refine⟨m,?_⟩;rw[bb];refine a7 q ?_;refine nG (show(qS ts e' (.b i)).ax=true from rfl) ?_;rfl
theorem Rs.asb {v:Bool} {D:Nat} {s s':JS} {n m:ae} (h:Rs ts v D s s' n m) (f:1<=D):Rs ts false 2 s s' n m:=
 ⟨h.ok,h.le,λd h'=>by
  obtain⟨i,q1,a,b,c,e,_⟩:=h.good d h';exact⟨i,q1,a,b,c,e,λhh=>by cases hh⟩,λj hj=>by
  obtain⟨q1,a,b,c⟩:=h.dm j hj;exact⟨q1,a,by omega,λhh=>by omega⟩⟩
theorem JY (H:Tk ts e) {i:Nat} (hi:i<=ts.length) (O:∀s,Lt ts i s->PC ts e e' s):C1 ts e e' false 2 (.g i) aY bb:=by
 have hL:=H.len;obtain⟨I,n,m,p,g2,f⟩:=Tj (e':=e') H hi O
 have back:aS ts I 0 6 [61]=false->aY (pS ts e (.g i))=some (n,pS ts e I):=λr=>by
  rw[aY];refine a7 p ?_;refine bm ((dz H _ f.ok 6 [61] aUF).trans (by rw[r])) ?_;rfl
 match I,p,g2,f,back with
 | .b j,p,g2,f,back=>
  refine⟨.b j,n,m,back rfl,?_,f.asb (Of _)⟩;rw[bb];refine a7 g2 ?_;refine nG (show(qS ts e' (.b j)).ax=true from rfl) ?_;rfl
 | .d j,p,g2,f,back=>
  refine⟨.d j,n,m,back rfl,?_,f.asb (Of _)⟩;rw[bb];refine a7 g2 ?_;refine cf (show ¬(qS ts e' (.d j)).ax=true by rw[O8];exact id) ?_;refine dC ((fF (e':=e') H (.d j) f.ok [61]).trans (by rw[show tw ts (JS.d j).pos [61]=true from f.ok.2])) ?_;refine bm ((qj m).trans (by rw[(f.dm j rfl).2.2.2 rfl])) ?_;rfl
 | .g a,p,g2,f,back=>
  have t:a<=ts.length:=f.ok;have hle:i<=a:=f.le;obtain⟨k0,P,J,Q,R,E,B⟩:=f.good a rfl;cases P;subst Q;have o:ba (qS ts e' (.g a)) 0 [61]=some (tw ts a [61],qS ts e' (.g a)):=fF (e':=e') H (.g a) f.ok [61];cases h:tw ts a [61]with
  | false=>
   refine⟨.g a,n,n,back ((aM H aUF aUF).trans h),?_,f.asb (Of _)⟩;rw[bb];refine a7 g2 ?_;refine cf qg ?_;refine bm (o.trans (by rw[h])) ?_;rfl
  | true=>
   have F:=cd h;have u:bp (pS ts e (.g a)) 0 6 [61]=some (true,pS ts e (.g a)):=(dz H _ f.ok 6 [61] aUF).trans (by rw[show aS ts (.g a) 0 6 [61]=true from(aM H aUF aUF).trans h]);cases l:wv n with
   | false=>
    refine⟨.d a,.mk 0 0 [] [],n,?_,?_,⟨⟨F,h⟩,hle,λK h'=>(by cases h'),λj hj=>by cases hj;exact⟨⟨i,rfl⟩,J,by decide,λhh=>(by cases hh)⟩⟩⟩
    ·rw[aY];refine a7 p ?_;refine dC u ?_;refine bm ((qk n).trans (by rw[l])) ?_;refine a7 (qZ H (.g a) f.ok) ?_;rfl
    ·rw[bb];refine a7 g2 ?_;refine cf qg ?_;refine dC (o.trans (by rw[h])) ?_;refine bm ((qj n).trans (by rw[E,l])) ?_;rfl
   | true=>
    have C:(JS.g (a+1)).Ok ts:=F;have A:bp (pS ts e (.g (a+1))) 0 6 [38]=some (tw ts (a+1) [38],pS ts e (.g (a+1))):=(dz H _ C 6 [38] aUF).trans (by rw[show aS ts (.g (a+1)) 0 6 [38]=tw ts (a+1) [38]from aM H aUF aUF])
    have D:(bq ((qS ts e' (.g a)).bF+1)=bq ((qS ts e' (.g i)).bF+2))↔a=i+1:=by
     show(bq ((a:Int)+1)=bq ((i:Int)+2))↔_;rw[ca aUE,wW aUE aUE];omega
    cases r:tw ts (a+1) [38]with
    | false=>
     obtain⟨s2,x,y,S,f2,G⟩:=(O _ (Lt.g (show i<a+1 by omega) F)).expr;have L:a+1<=s2.pos:=G.le;refine⟨s2,.mk 15 0 [] [n,x],.mk 15 0 [] [n,y],?_,?_,Rs.Ti aUF aUF aUF G.ok aUE aUF (λj hj=>?_) (λK h'=>?_)⟩
     ·rw[aY];refine a7 p ?_;refine dC u ?_;refine dC ((qk n).trans (by rw[l])) ?_;rw[re H t];refine bm (A.trans (by rw[r])) ?_;refine a7 S ?_;rfl
     ·rw[bb];refine a7 g2 ?_;refine cf qg ?_;refine dC (o.trans (by rw[h])) ?_;refine dC ((qj n).trans (by rw[E,l])) ?_;by_cases c:a=i+1
      ·refine nG (D.2 c) ?_;refine a7 (fJ (show i<ts.length by omega)) ?_;by_cases z:kd ts i=2
       ·refine nG (show(tok ts i).ah=2 from z) ?_;rw[qv H t];refine bm (aF (w:=[38]) H C r) ?_;refine a7 f2 ?_;rfl
       ·refine cf (show ¬(tok ts i).ah=2 from z) ?_;rw[qv H t];refine a7 f2 ?_;rfl
      ·refine cf (λhh=>c (D.1 hh)) ?_;rw[qv H t];refine a7 f2 ?_;rfl
     ·have q:a+1<j:=(G.dm j hj).2.1;omega
     ·obtain⟨k,q1,T,U,X,_⟩:=G.good K h';cases q1;subst U;refine⟨by omega,rfl,rfl,?_⟩;rw[gv,cy];simp only[An];omega
    | true=>
     have V:=cd r;have M:(JS.g (a+1+1)).Ok ts:=V;by_cases c:n.ah=4/\a=i+1
     ·have z:kd ts i=2:=by
       have:=B rfl c.2;rw[c.1]at this;have this:=this.symm;rw[show((4:Int)==4)=true from rfl,aRi]at this;exact this
      have W:=jr H (.g (a+1+1)) 2;have L:=@my ts (.g (a+1+1)) 2;have L:a+1+1<=(nS ts (.g (a+1+1)) 2).pos:=L;refine⟨nS ts (.g (a+1+1)) 2,.mk 17 0 n.al [.mk 4 0 (nT ts (.g (a+1+1)) 2) []],.mk 17 0 n.al [.mk 4 0 (nT ts (.g (a+1+1)) 2) []],?_,?_,Rs.node aUF (qY M aUF) (tI _ _) aUE (λK h'=>?_)⟩
      ·rw[aY];refine a7 p ?_;refine dC u ?_;refine dC ((qk n).trans (by rw[l])) ?_;rw[re H t];refine dC (A.trans (by rw[r])) ?_;refine nG c.1 ?_;refine nG (show(pS ts e (.g a)).fI=bq ((pS ts e (.g i)).fI+1)from by show(a:Int)=bq ((i:Int)+1);rw[ca aUE,c.2]) ?_;rw[re H C];refine a7 (Pf H _ M) ?_;rfl
      ·rw[bb];refine a7 g2 ?_;refine cf qg ?_;refine dC (o.trans (by rw[h])) ?_;refine dC ((qj n).trans (by rw[E,l])) ?_;refine nG (D.2 c.2) ?_;refine a7 (fJ (show i<ts.length by omega)) ?_;refine nG (show(tok ts i).ah=2 from z) ?_;rw[qv H t];refine dC (bL H r) ?_;refine a7 (Pg H _ M rfl) ?_;rfl
      ·obtain⟨k,q1,T,_⟩:=lM h';cases q1;refine⟨by omega,rfl,rfl,?_⟩;have:=DO n;rw[cy,fD,ep];omega
     ·obtain⟨y,f2⟩:=aMg (e':=e') H r;refine⟨.b (a+1),.mk 0 0 [] [],.mk 15 0 [] [n,y],?_,?_,Rs.b F aUE⟩
      ·rw[aY];refine a7 p ?_;refine dC u ?_;refine dC ((qk n).trans (by rw[l])) ?_;rw[re H t];refine dC (A.trans (by rw[r])) ?_;by_cases N:n.ah=4
       ·refine nG N ?_
        refine cf (show ¬(pS ts e (.g a)).fI=bq ((pS ts e (.g i)).fI+1) fromλhh=>by
         have hh:(a:Int)=bq ((i:Int)+1):=hh;rw[ca aUE]at hh;exact c ⟨N,by omega⟩) ?_
        refine a7 (qZ H _ C) ?_;rfl
       ·refine cf N ?_;refine a7 (qZ H _ C) ?_;rfl
      ·rw[bb];refine a7 g2 ?_;refine cf qg ?_;refine dC (o.trans (by rw[h])) ?_;refine dC ((qj n).trans (by rw[E,l])) ?_;by_cases v:a=i+1
       ·refine nG (D.2 v) ?_;refine a7 (fJ (show i<ts.length by omega)) ?_
        have z:¬kd ts i=2:=λz=>c ⟨by
         have:=B rfl v;rw[z,show((2:Int)==2)=true from rfl,aRi]at this;exact this,v⟩
        refine cf (show ¬(tok ts i).ah=2 from z) ?_;rw[qv H t];refine a7 f2 ?_;rfl
       ·refine cf (λhh=>v (D.1 hh)) ?_;rw[qv H t];refine a7 f2 ?_;rfl
end
section
variable {ts:List ai}{e e':Int}
theorem comma (s:JS) (c:av) (hc:(([44]:av)==c)=false):(∃i,s=.g i/\tw ts i [44]=true/\tw ts i c=false)\/(tS ts s [44]=false/\∃i,s=.g i/\tw ts i c=true)\/(tS ts s [44]=false/\tS ts s c=false):=by
 rcases I6 (ts:=ts) s [44]with h | ⟨i,rfl,h⟩
 ·rcases I6 (ts:=ts) s c with h2 | ⟨i,rfl,h2⟩
  ·exact .inr (.inr ⟨h,h2⟩)
  ·exact .inr (.inl ⟨h,i,rfl,h2⟩)
 ·exact .inl ⟨i,rfl,h,dK h hc⟩
theorem HC (H:Tk ts e) {i0:Nat} (z:∀s,Lt ts i0 s->PC ts e e' s):∀(N:Nat) (i:Nat) (l m:List ae),ts.length - i<N->i0<i->i<=ts.length->l.length+ts.length<=10000+i->m.length+ts.length<=10000+i->
  ∃s' x y,S5 (di (pS ts e (.g i)).fT (pS ts e (.g i)).fI (pS ts e (.g i)).ay (pS ts e (.g i)).ax l) (l++x) (pS ts e s')/\
   I5 (cZ (qS ts e' (.g i)).aq (qS ts e' (.g i)).bF (qS ts e' (.g i)).ay (qS ts e' (.g i)).ax m) (m++y) (qS ts e' s')/\
   s'.Ok ts/\s'.nd=true/\i<=s'.pos/\x.length+i<=s'.pos+1/\y.length+i<=s'.pos+1/\(∀d,s'=.g d->i<d/\x=y/\(wl x:Int)+16384*(i:Int)<=16384*(d:Int))
 | 0,i,l,m,h,_,_,_,_=>by omega
 | N+1,i,l,m,M,h0,hi,O,hm=>by
  have hL:=H.len;have hs:(JS.g i).Ok ts:=hi;obtain⟨f,n,p,D,g2,c⟩:=(z _ (Lt.g h0 hi)).expr;have hle:i<=f.pos:=c.le
  have eS:di (pS ts e (.g i)).fT (pS ts e (.g i)).fI (pS ts e (.g i)).ay (pS ts e (.g i)).ax l=
    (az (pS ts e f) [44]>>=λ(j,b)=>(if j=true then di b.fT b.fI b.ay b.ax (l++[n])else aQ b [41]>>=λE=>some (.inr (l++[n],E)))):=by
   rw[di];simp only[kg,aRj,jm];refine a7 D ?_;refine a7 (fq _ aUE) ?_;rfl
  have eI:cZ (qS ts e' (.g i)).aq (qS ts e' (.g i)).bF (qS ts e' (.g i)).ay (qS ts e' (.g i)).ax m=
    (ar (qS ts e' f) [41]>>=λ(q,A)=>(if q=true then some (.inr (m++[p],A))else aO A [44]>>=λj=>cZ j.aq j.bF j.ay j.ax (m++[p]))):=by
   rw[cZ];simp only[jo,aRc,du];refine a7 g2 ?_;refine a7 (fq _ aUE) ?_;rfl
  rcases comma (ts:=ts) f [41] aUF with⟨a,rfl,h,h2⟩ | ⟨h,a,rfl,h2⟩ | ⟨h,h2⟩
  ·have B:=cd h;obtain⟨k,q1,F,r,G,_⟩:=c.good a rfl;cases q1;subst r;have t:(JS.g a).Ok ts:=c.ok;obtain⟨s',x,y,C,f2,I,J,P,Q,R,K⟩:=HC H z N (a+1) (l++[n]) (m++[n]) aUE aUE aUE aUO aUO;rw[aRm]at C f2
   have u:di (pS ts e (.g i)).fT (pS ts e (.g i)).fI (pS ts e (.g i)).ay (pS ts e (.g i)).ax l=di (pS ts e (.g (a+1))).fT (pS ts e (.g (a+1))).fI (pS ts e (.g (a+1))).ay (pS ts e (.g (a+1))).ax (l++[n]):=by
    rw[eS];refine dC (ck H h) ?_;rfl
   have v:cZ (qS ts e' (.g i)).aq (qS ts e' (.g i)).bF (qS ts e' (.g i)).ay (qS ts e' (.g i)).ax m=cZ (qS ts e' (.g (a+1))).aq (qS ts e' (.g (a+1))).bF (qS ts e' (.g (a+1))).ay (qS ts e' (.g (a+1))).ax (m++[n]):=by
    rw[eI];refine bm (aF (w:=[41]) H t h2) ?_;refine a7 (DW H h) ?_;rfl
   refine⟨s',_,_,by rw[u];exact C,by rw[v];exact f2,I,J,by omega,?_,?_,λd o=>?_⟩
   ·simp only[It,so,An];omega
   ·simp only[It,so,An];omega
   ·obtain⟨r1,L,S⟩:=K d o;subst L;refine⟨by omega,rfl,?_⟩;rw[fO,cy];omega
  ·have B:=cd h2;obtain⟨k,q1,F,r,G,_⟩:=c.good a rfl;cases q1;subst r;have t:(JS.g a).Ok ts:=c.ok;refine⟨.g (a+1),[n],[n],.inl ?_,.inl ?_,B,rfl,by show i<=a+1;omega,?_,?_,λd o=>?_⟩
   ·rw[eS];refine bm (aZ (w:=[44]) H t h) ?_;refine a7 (tb H h2) ?_;rfl
   ·rw[eI];refine dC (bL H h2) ?_;rfl
   ·show 1+i<=a+1+1;omega
   ·show 1+i<=a+1+1;omega
   ·cases o;refine⟨by omega,rfl,?_⟩;rw[cy];omega
  ·refine⟨ND f,[n],[p],.inl ?_,.inr ?_,Bl c.ok,DQ _,by rw[sw];exact hle,?_,?_,λd o=>(Lk o).elim⟩
   ·rw[eS];refine bm (aZ (w:=[44]) H c.ok h) ?_;refine a7 ((dW H _ c.ok [41]).trans (by rw[kD h2])) ?_;rfl
   ·rw[eI];refine bm (aF (w:=[41]) H c.ok h2) ?_;refine a7 ((eY H _ c.ok [44]).trans (by rw[kD h])) ?_;rw[cZ];simp only[DS,aRj]
   ·rw[sw];show 1+i<=f.pos+1;omega
   ·rw[sw];show 1+i<=f.pos+1;omega
theorem agQ (H:Tk ts e) {i:Nat} (hi:i<=ts.length) (k:∀s,Lt ts i s->PC ts e e' s) (a:List ae) (u:a.length<=100):
  ∃s' l m,dx (pS ts e (.g i)) a=some (l,pS ts e s')/\df (qS ts e' (.g i))=some (m,qS ts e' s')/\RL ts a (.g i) s' l m:=by
 have hL:=H.len;have hs:(JS.g i).Ok ts:=hi;have d:(JS.b i).Ok ts:=hi;cases h:tw ts i [40]with
 | false=>
  refine⟨.b i,a,[],?_,?_,⟨hi,rfl,Of i,by show a.length+i<=a.length+i+1;omega,by show 0+i<=i+1;omega,λc h'=>(by cases h')⟩⟩
  ·rw[dx];refine a7 ((dW H _ hs [40]).trans (by rw[aot h])) ?_;refine bm (aZ (w:=[41]) H d rfl) ?_;refine S5.run (x:=_) (.inr ?_);rw[di];simp only[qh H,aRc]
  ·rw[df];refine a7 ((eY H _ hs [40]).trans (by rw[aot h])) ?_;refine bm (aF (w:=[41]) H d rfl) ?_;refine I5.run (x:=_) (.inr ?_);rw[cZ];simp only[jq,aRj]
 | true=>
  have f:=cd h;have j:(JS.g (i+1)).Ok ts:=f;cases h2:tw ts (i+1) [41]with
  | true=>
   have n:=cd h2;refine⟨.g (i+1+1),a,[],?_,?_,⟨n,rfl,by show i<=i+1+1;omega,by show a.length+i<=a.length+(i+1+1)+1;omega,by show 0+i<=i+1+1+1;omega,λc h'=>?_⟩⟩
   ·rw[dx];refine a7 (tb H h) ?_;refine dC (ck H h2) ?_;rfl
   ·rw[df];refine a7 (DW H h) ?_;refine dC (bL H h2) ?_;rfl
   ·cases h';exact⟨i,rfl,by omega,by simp,by rw[ep];omega⟩
  | false=>
   obtain⟨s',x,y,o,f2,p,q,v,z,A,r⟩:=HC H k _ (i+1) a [] (aRh _) (aRh i) f aUE aUP;refine⟨s',a++x,[]++y,?_,?_,⟨p,q,by show i<=s'.pos;omega,?_,?_,λc h'=>?_⟩⟩
   ·rw[dx];refine a7 (tb H h) ?_;refine bm (aZ (w:=[41]) H j h2) ?_;exact o.run
   ·rw[df];refine a7 (DW H h) ?_;refine bm (aF (w:=[41]) H j h2) ?_;exact f2.run
   ·simp only[It];show a.length+x.length+i<=a.length+s'.pos+1;omega
   ·simp only[aRe];show y.length+i<=s'.pos+1;omega
   ·obtain⟨r1,t,B⟩:=r c h';subst t;exact⟨i,rfl,by omega,rfl,by simp only[aRe];omega⟩
def S10 (x:Option (((List ai)×Int×Int×Int×(List ae)×(List ae)) ⊕ (ae×aP))) (l:List ae) (p:aP):Prop:=x=some (.inr (.mk 5 0 [] l,p))\/x=some (.inl (p.fT,p.fI,p.ay,p.ax,[],l))
def I10 (x:Option (((List ai)×Int×Int×Bool×(List ae)×(List ae)) ⊕ (ae×ak))) (l:List ae) (p:ak):Prop:=x=some (.inr (.mk 5 0 [] l,p))\/x=some (.inl (p.aq,p.bF,p.ay,p.ax,[],l))
theorem S10.run {x:Option (((List ai)×Int×Int×Int×(List ae)×(List ae)) ⊕ (ae×aP))} {l:List ae} {p:aP} (h:S10 x l p):(x>>=λo=>match o with
  | .inr r=>some r
  | .inl (a,y6,b,c,e,d)=>some ((ae.mk 5 0 [] d),(aP.mk a y6 b c)))=some (.mk 5 0 [] l,p):=by
 rcases h with h | h<;>rw[h]<;>rfl
theorem I10.run {x:Option (((List ai)×Int×Int×Bool×(List ae)×(List ae)) ⊕ (ae×ak))} {l:List ae} {p:ak} (h:I10 x l p):(x>>=λo=>match o with
  | .inr r=>some r
  | .inl (a,y6,b,c,e,d)=>some ((ae.mk 5 0 [] d),(ak.mk a y6 b c)))=some (.mk 5 0 [] l,p):=by
 rcases h with h | h<;>rw[h]<;>rfl
theorem HD (H:Tk ts e) {i0:Nat} (L:∀s,Lt ts i0 s->PC ts e e' s) (T:C1 ts e e' false 2 (.g i0) aY bb):∀(N:Nat) (i:Nat) (l m:List ae),ts.length - i<N->i0<=i->i<=ts.length->l.length+ts.length<=10000+i->m.length+ts.length<=10000+i->
  ∃s' x y,S10 (dF (pS ts e (.g i)).fT (pS ts e (.g i)).fI (pS ts e (.g i)).ay (pS ts e (.g i)).ax [] l) (l++x) (pS ts e s')/\
   I10 (dh (qS ts e' (.g i)).aq (qS ts e' (.g i)).bF (qS ts e' (.g i)).ay (qS ts e' (.g i)).ax [] m) (m++y) (qS ts e' s')/\
   s'.Ok ts/\s'.nd=true/\i<=s'.pos/\(∀p,s'=.g p->i+1<p/\x=y/\(wl x:Int)+16384*(i:Int)+8192<=16384*(p:Int))
 | 0,i,l,m,h,_,_,_,_=>by omega
 | N+1,i,l,m,hN,h0,hi,hl,hm=>by
  have hL:=H.len;have hs:(JS.g i).Ok ts:=hi
  have V:C1 ts e e' false 2 (.g i) aY bb:=by
   rcases Nat.eq_or_lt_of_le h0 with h | h
   ·rw[<-h];exact T
   ·exact(L _ (Lt.g h hi)).expr
  obtain⟨B,n,C,W,g2,u⟩:=V;have hle:i<=B.pos:=u.le
  obtain⟨b,c,v,X,e2,d,D,U⟩:∃(b:JS) (c v:List ae),
    (az (pS ts e B) [61,62]>>=λ(M,f)=>(if M=true then aY f>>=λ(O,j)=>cD 56 ([n]:List ae) [O]>>=λq=>some (j.fT,j.fI,j.ay,j.ax,q)else some (f.fT,f.fI,f.ay,f.ax,([n]:List ae))))=some ((pS ts e b).fT,(pS ts e b).fI,(pS ts e b).ay,(pS ts e b).ax,c)/\
    (ar (qS ts e' B) [61,62]>>=λ(M,f)=>(if M=true then bb f>>=λ(O,j)=>cD 56 ([C]:List ae) [O]>>=λq=>some (j.aq,j.bF,j.ay,j.ax,q)else some (f.aq,f.bF,f.ay,f.ax,([C]:List ae))))=some ((qS ts e' b).aq,(qS ts e' b).bF,(qS ts e' b).ay,(qS ts e' b).ax,v)/\
    b.Ok ts/\i<=b.pos/\(∀a,b=.g a->i<a/\c=v/\(wl c:Int)+16384*(i:Int)+8191<=16384*(a:Int)):=by
   rcases I6 (ts:=ts) B [61,62]with h | ⟨G,rfl,h⟩
   ·refine⟨B,[n],[C],?_,?_,u.ok,hle,λa h2=>?_⟩
    ·refine bm (aZ (w:=[61,62]) H u.ok h) ?_;rfl
    ·refine bm (aF (w:=[61,62]) H u.ok h) ?_;rfl
    ·obtain⟨k,q1,I,r,P,_⟩:=u.good a h2;cases q1;subst r;exact⟨I,rfl,by rw[cy];omega⟩
   ·have J:=cd h;have hle:i<=G:=hle;obtain⟨b,x,x',K,f2,E⟩:=(L _ (Lt.g (show i0<G+1 by omega) J)).expr;have D:G+1<=b.pos:=E.le;refine⟨b,[n,x],[C,x'],?_,?_,E.ok,by omega,λa h2=>?_⟩
    ·refine dC (ck H h) ?_;refine a7 K ?_;refine a7 (fq (l:=[n]) _ aUG) ?_;rfl
    ·refine dC (bL H h) ?_;refine a7 f2 ?_;refine a7 (fq (l:=[C]) _ aUG) ?_;rfl
    ·obtain⟨k,q1,I,r,P,_⟩:=E.good a h2;cases q1;obtain⟨k,Y,q6,Z,q8,_⟩:=u.good G rfl;cases Y;subst r;subst Z;exact⟨by omega,rfl,by rw[gv,cy];omega⟩
  have eS:dF (pS ts e (.g i)).fT (pS ts e (.g i)).fI (pS ts e (.g i)).ay (pS ts e (.g i)).ax [] l=
    (az (pS ts e b) [44]>>=λ(t,o)=>(if t=true then dF o.fT o.fI o.ay o.ax [] (l++[.mk 6 0 [] c])else aQ o [93]>>=λA=>some (.inr ((ae.mk 5 0 [] (l++[.mk 6 0 [] c])),A)))):=by
   rw[dF];simp only[kg,aRj,jm];refine a7 W ?_;refine a7 X ?_;refine a7 (fq _ aUE) ?_;rfl
  have eI:dh (qS ts e' (.g i)).aq (qS ts e' (.g i)).bF (qS ts e' (.g i)).ay (qS ts e' (.g i)).ax [] m=
    (ar (qS ts e' b) [93]>>=λ(t,o)=>(if t=true then some (.inr ((ae.mk 5 0 [] (m++[.mk 6 0 [] v])),o))else aO o [44]>>=λA=>dh A.aq A.bF A.ay A.ax [] (m++[.mk 6 0 [] v]))):=by
   rw[dh];simp only[jo,aRc,du];refine a7 g2 ?_;refine a7 e2 ?_;refine a7 (fq _ aUE) ?_;rfl
  have hit:∀z:List ae,wl [ae.mk 6 0 [] z]=1+wl z:=λz=>by rw[cy,fD];simp
  rcases comma (ts:=ts) b [93] aUF with⟨a,rfl,h,h2⟩ | ⟨h,a,rfl,h2⟩ | ⟨h,h2⟩
  ·have J:=cd h;obtain⟨I,r,P⟩:=U a rfl;subst r;have Q:(JS.g a).Ok ts:=d;obtain⟨s',x,y,K,f2,E,f4,f5,f8⟩:=HD H L T N (a+1) (l++[.mk 6 0 [] c]) (m++[.mk 6 0 [] c]) aUE aUE aUE aUO aUO;rw[aRm]at K f2
   have R:dF (pS ts e (.g i)).fT (pS ts e (.g i)).fI (pS ts e (.g i)).ay (pS ts e (.g i)).ax [] l=dF (pS ts e (.g (a+1))).fT (pS ts e (.g (a+1))).fI (pS ts e (.g (a+1))).ay (pS ts e (.g (a+1))).ax [] (l++[.mk 6 0 [] c]):=by
    rw[eS];refine dC (ck H h) ?_;rfl
   have S:dh (qS ts e' (.g i)).aq (qS ts e' (.g i)).bF (qS ts e' (.g i)).ay (qS ts e' (.g i)).ax [] m=dh (qS ts e' (.g (a+1))).aq (qS ts e' (.g (a+1))).bF (qS ts e' (.g (a+1))).ay (qS ts e' (.g (a+1))).ax [] (m++[.mk 6 0 [] c]):=by
    rw[eI];refine bm (aF (w:=[93]) H Q h2) ?_;refine a7 (DW H h) ?_;rfl
   refine⟨s',_,_,by rw[R];exact K,by rw[S];exact f2,E,f4,by omega,λp F=>?_⟩;obtain⟨r1,r2,r3⟩:=f8 p F;subst r2;refine⟨by omega,rfl,?_⟩;rw[fO,hit];omega
  ·have J:=cd h2;obtain⟨I,r,P⟩:=U a rfl;subst r;have Q:(JS.g a).Ok ts:=d;refine⟨.g (a+1),[.mk 6 0 [] c],[.mk 6 0 [] c],.inl ?_,.inl ?_,J,rfl,by show i<=a+1;omega,λp F=>?_⟩
   ·rw[eS];refine bm (aZ (w:=[44]) H Q h) ?_;refine a7 (tb H h2) ?_;rfl
   ·rw[eI];refine dC (bL H h2) ?_;rfl
   ·cases F;refine⟨by omega,rfl,?_⟩;rw[hit];omega
  ·refine⟨ND b,[.mk 6 0 [] c],[.mk 6 0 [] v],.inl ?_,.inr ?_,Bl d,DQ _,by rw[sw];exact D,λp F=>(Lk F).elim⟩
   ·rw[eS];refine bm (aZ (w:=[44]) H d h) ?_;refine a7 ((dW H _ d [93]).trans (by rw[kD h2])) ?_;rfl
   ·rw[eI];refine bm (aF (w:=[93]) H d h2) ?_;refine a7 ((eY H _ d [44]).trans (by rw[kD h])) ?_;rw[dh];simp only[DS,aRj]
theorem agR (H:Tk ts e) {i:Nat} (hi:i<=ts.length) (a:∀s,Lt ts i s->PC ts e e' s):C1 ts e e' false 0 (.g i) gW gX:=by
 have hL:=H.len;have hs:(JS.g i).Ok ts:=hi;cases h:tw ts i [93]with
 | true=>
  have c:=cd h;refine⟨.g (i+1),.mk 5 0 [] [],.mk 5 0 [] [],?_,?_,⟨c,aSd i,λb h'=>(by cases h';exact⟨i,rfl,aRh i,rfl,by rw[fD,ep];simp only[An];omega,ra aUF,λhh=>by cases hh⟩),λj hj=>(by cases hj)⟩⟩
  ·rw[gW];refine dC (ck H h) ?_;rfl
  ·rw[gX];refine dC (bL H h) ?_;rfl
 | false=>
  obtain⟨s',x,y,d,f2,f,k,l,m⟩:=HD H a (JY H hi a) _ i [] [] (aRh _) (Of i) hi aUP aUP;refine⟨s',.mk 5 0 [] ([]++x),.mk 5 0 [] ([]++y),?_,?_,Rs.node aUF f k l (λb h'=>?_)⟩
  ·rw[gW];refine bm (aZ (w:=[93]) H hs h) ?_;exact d.run
  ·rw[gX];refine bm (aF (w:=[93]) H hs h) ?_;exact f2.run
  ·obtain⟨r1,n,o⟩:=m b h';subst n;simp only[aRe,An];exact⟨by omega,trivial,trivial,by omega⟩
def S11 (x:Option ((List ai)×Int×Int×Int×(List ae)×(List ae))) (l:List ae) (p:aP):Prop:=x=some (p.fT,p.fI,p.ay,p.ax,[],l)
def I11 (x:Option ((List ai)×Int×Int×Bool×(List ae)×(List ae))) (l:List ae) (p:ak):Prop:=x=some (p.aq,p.bF,p.ay,p.ax,[],l)
theorem zw (H:Tk ts e) {i0:Nat} (r:∀s,Lt ts i0 s->PC ts e e' s):∀(N:Nat) (s:JS) (l m:List ae),s.Ok ts->s.nd=true->i0<=s.pos->(∀i,s=.g i->ts.length - i<N/\i0<i)->l.length+ts.length<=10000+s.pos->m.length+ts.length<=10000+s.pos->
  ∃s' x y,S11 (cJ (pS ts e s).fT (pS ts e s).fI (pS ts e s).ay (pS ts e s).ax [] l) (l++x) (pS ts e s')/\I11 (cK (qS ts e' s).aq (qS ts e' s).bF (qS ts e' s).ay (qS ts e' s).ax [] m) (m++y) (qS ts e' s')/\
   s'.Ok ts/\s'.nd=true/\i0<=s'.pos/\(∀a,s'=.g a->∃i,s=.g i/\i<a/\x=y/\(wl x:Int)+16384*(i:Int)+8192<=16384*(a:Int))
 | N,.d j,l,m,_,hd,_,_,_,_=>by cases hd
 | N,.b j,l,m,hs,_,hp,_,_,_=>by
  refine⟨.b j,[],[],?_,?_,hs,rfl,hp,λa h=>by cases h⟩
  ·rw[cJ];simp only[qh H,aRc,aRz];rfl
  ·rw[cK];simp only[jq,aRj,aRz];rfl
 | 0,.g i,_,_,_,_,_,h,_,_=>by have:=(h i rfl).1;omega
 | N+1,.g i,l,m,hs,_,hp,C,D,hm=>by
  have hL:=H.len;obtain⟨C,h0⟩:=C i rfl;have hi:i<=ts.length:=hs;have D:l.length+ts.length<=10000+i:=D;have hm:m.length+ts.length<=10000+i:=hm;cases h1:tw ts i [125]with
  | true=>
   have t:=cd h1;refine⟨.g (i+1),[],[],?_,?_,t,rfl,by show i0<=i+1;omega,λa h=>?_⟩
   ·show _=_;rw[cJ];simp only[kg,aRj,jm,aRz];refine dC (ck H h1) ?_;rfl
   ·show _=_;rw[cK];simp only[jo,aRc,du,aRz];refine dC (bL H h1) ?_;rfl
   ·cases h;exact⟨i,rfl,aRh i,rfl,by rw[ep];omega⟩
  | false=>
   cases h2:tw ts i [59]with
   | true=>
    have t:=cd h2;obtain⟨s',x,y,p,f2,u,v,z,A⟩:=zw H r N (.g (i+1)) l m t rfl (by show i0<=i+1;omega) (λk f=>by cases f;omega) (by show l.length+ts.length<=10000+(i+1);omega) (by show m.length+ts.length<=10000+(i+1);omega);refine⟨s',x,y,?_,?_,u,v,z,λa h=>?_⟩
    ·refine Eq.trans ?_ p;rw[cJ];simp only[kg,aRj,jm];refine bm (aZ (w:=[125]) H hs h1) ?_;refine dC (ck H h2) ?_;rfl
    ·refine Eq.trans ?_ f2;rw[cK];simp only[jo,aRc,du];refine bm (aF (w:=[125]) H hs h1) ?_;refine dC (bL H h2) ?_;rfl
    ·obtain⟨k,q1,G,B,I⟩:=A a h;cases q1;exact⟨i,rfl,by omega,B,by omega⟩
   | false=>
    obtain⟨o,n,J,E,g2,c⟩:=(r _ (Lt.g h0 hi)).stmt;have hle:i<=o.pos:=c.le;have F:=Lt.rs (i:=i) c (λk f=>by cases f;exact Of i);have P:∀k,o=.g k->i<k:=F.lt;have K:l.length+1+ts.length<=10000+o.pos+1:=by omega
    by_cases hg:∃k,o=.g k
    ·obtain⟨k,rfl⟩:=hg;obtain⟨k1,q1,G,B,I,_⟩:=c.good k rfl;cases q1;subst B;obtain⟨s',x,y,p,f2,u,v,z,A⟩:=zw H r N (.g k) (l++[n]) (m++[n]) c.ok rfl (by show i0<=k;omega) (λL f=>by cases f;have q:k<=ts.length:=c.ok;omega) (by simp only[It,so,An];show _<=10000+k;omega) (by simp only[It,so,An];show _<=10000+k;omega);rw[aRm]at p f2;refine⟨s',[n]++x,[n]++y,?_,?_,u,v,z,λa h=>?_⟩
     ·refine Eq.trans ?_ p;rw[cJ];simp only[kg,aRj,jm];refine bm (aZ (w:=[125]) H hs h1) ?_;refine bm (aZ (w:=[59]) H hs h2) ?_;refine a7 E ?_;refine a7 (fq _ aUE) ?_;rfl
     ·refine Eq.trans ?_ f2;rw[cK];simp only[jo,aRc,du];refine bm (aF (w:=[125]) H hs h1) ?_;refine bm (aF (w:=[59]) H hs h2) ?_;refine a7 g2 ?_;refine a7 (fq _ aUE) ?_;rfl
     ·obtain⟨L,r1,Q,M,R⟩:=A a h;cases r1;subst M;refine⟨i,rfl,by omega,rfl,?_⟩;rw[fO,cy];omega
    ·have O:∃j,o=.b j:=(Aa F.nd).resolve_left hg;obtain⟨j,rfl⟩:=O;refine⟨.b j,[n],[J],?_,?_,c.ok,rfl,by show i0<=j;have hle:i<=j:=hle;omega,λa h=>by cases h⟩
     ·show _=_;rw[cJ];simp only[kg,aRj,jm];refine bm (aZ (w:=[125]) H hs h1) ?_;refine bm (aZ (w:=[59]) H hs h2) ?_;refine a7 E ?_;refine a7 (fq _ aUE) ?_;rw[cJ];simp only[qh H,aRc]
     ·show _=_;rw[cK];simp only[jo,aRc,du];refine bm (aF (w:=[125]) H hs h1) ?_;refine bm (aF (w:=[59]) H hs h2) ?_;refine a7 g2 ?_;refine a7 (fq _ aUE) ?_;rw[cK];simp only[jq,aRj]
theorem MZ (H:Tk ts e) {i:Nat} (hi:i<=ts.length) (b:∀s,Lt ts i s->PC ts e e' s):C1 ts e e' false 0 (.g i) bJ bC:=by
 have hL:=H.len;have hs:(JS.g i).Ok ts:=hi;have a:=Lt.w (i:=i) hs (Of i) [123];have hp:=gq (ts:=ts) (.g i) [123];have hp:i<=(wS ts (.g i) [123]).pos:=hp;have ho:=okp a.ok;obtain⟨s',x,y,c,f2,d,f,h,j⟩:=zw H b (ts.length+1) (wS ts (.g i) [123]) [] [] a.ok a.nd hp (λk l=>⟨by omega,a.lt k l⟩) aUP aUP;refine⟨s',.mk 48 0 [] ([]++x),.mk 48 0 [] ([]++y),?_,?_,Rs.node aUF d f h (λm h'=>?_)⟩
 ·rw[bJ];refine a7 (dW H _ hs [123]) ?_;refine a7 c ?_;rfl
 ·rw[bC];refine a7 (eY H _ hs [123]) ?_;refine a7 f2 ?_;rfl
 ·obtain⟨k,q1,p,n,q⟩:=j m h';obtain⟨k1,o,r,_⟩:=ft q1;cases o;subst n;simp only[aRe,An];exact⟨by omega,trivial,trivial,by omega⟩
end
section
variable {ts:List ai}{e e':Int}
theorem M0 (H:Tk ts e) {i0:Nat} (d:∀s,Lt ts i0 s->PC ts e e' s) (s:JS) (hs:s.Ok ts) (hp:i0<=s.pos):∃s' n m,jG (pS ts e s)=some (n,pS ts e s')/\gY (qS ts e' s)=some (m,qS ts e' s')/\s'.Ok ts/\s'.nd=true/\s.pos<=s'.pos/\
  (∀b,s'=.g b->∃i,s=.g i/\i+2<b/\n=m/\(wt n:Int)+8192+16384*(i:Int)+32768<=16384*(b:Int)):=by
 have f:=Lt.w (i:=i0) hs hp [40];have q:=gq (ts:=ts) s [40];obtain⟨c,n,m,j,g2,a⟩:=(d _ f).expr;have r:=a.le;have t:=gq (ts:=ts) c [41];refine⟨wS ts c [41],n,m,?_,?_,kE a.ok _,mH _ _,by omega,λb h=>?_⟩
 ·rw[jG];refine a7 (dW H _ hs [40]) ?_;refine a7 j ?_;refine a7 (dW H _ a.ok [41]) ?_;rfl
 ·rw[gY];refine a7 (eY H _ hs [40]) ?_;refine a7 g2 ?_;refine a7 (eY H _ a.ok [41]) ?_;rfl
 ·obtain⟨k,q1,u,_⟩:=ft h;obtain⟨k1,l,v,o,x,_⟩:=a.good k q1;obtain⟨k2,p,y,_⟩:=ft l;subst o;exact⟨k2,p,by omega,rfl,by omega⟩
theorem akP (H:Tk ts e) {i0:Nat} (y:∀s,Lt ts i0 s->PC ts e e' s):∀(N i:Nat),ts.length - i<N->i0<=i->tw ts i [105,102]=true->
  ∃s' n m,ll (pS ts e (.g (i+1)))=some (n,pS ts e s')/\gB (qS ts e' (.g i))=some (m,qS ts e' s')/\Rs ts false 0 (.g i) s' n m
 | 0,i,h,_,_=>by omega
 | N+1,i,hN,h0,h=>by
  have bg:=cd h;have eA:(JS.g (i+1)).Ok ts:=bg;obtain⟨R,c,p,g1,g2,z,A,S,T⟩:=M0 H y (.g (i+1)) eA (by show i0<=i+1;omega);have S:i+1<=R.pos:=S
  have U:Lt ts i0 R:=⟨z,A,λk j=>by
   obtain⟨k1,q1,B,_⟩:=T k j;cases q1;omega⟩
  obtain⟨s2,b,q,f1,f2,r⟩:=(y _ U).block;have p2:=r.le;have l2:Lt ts i0 s2:=Lt.rs r (λk j=>aRL (U.lt k j))
  have V:∀d,s2=.g d->i+3<d/\c=p/\b=q/\(wt c:Int)+(wt b:Int)+16384*(i:Int)+49152<=16384*(d:Int):=λd h2=>by
   obtain⟨k,q1,B,t,W,_⟩:=r.good d h2;obtain⟨k1,q5,q6,q7,q8⟩:=T k q1;cases q5;exact⟨by omega,q7,t,by omega⟩
  have eS:ll (pS ts e (.g (i+1)))=(az (pS ts e s2) [101,108,115,101]>>=λ(C,u)=>
    (if C=true then
    az u [105,102]>>=λ(D,v)=>
    (if D=true then
    ll v>>=λ(E,F)=>
    cD 56 [c,b] [(ae.mk 48 0 [] ([E]:List ae))]>>=λG=>
    some ((ae.mk 34 0 [] G),F)
    else
    bJ v>>=λ(I,J)=>
    cD 56 [c,b] [I]>>=λK=>
    some ((ae.mk 34 0 [] K),J))
    else
    some ((ae.mk 34 0 [] [c,b]),u))):=by
   rw[ll];refine a7 g1 ?_;refine(gA (a:=((pS ts e s2).fT,(pS ts e s2).fI,(pS ts e s2).ay,(pS ts e s2).ax,[c,b])) ?_).trans ?_
   ·refine a7 f1 ?_;rfl
   rfl
  have eI:gB (qS ts e' (.g i))=(ar (qS ts e' s2) [101,108,115,101]>>=λ(Jf,X)=>
    (if Jf=true then
    ba X 0 [105,102]>>=λ(Uf,Y)=>
    (if Uf=true then
    gB Y>>=λ(qC,L)=>
    cD 56 [p,q] [(ae.mk 48 0 [] ([qC]:List ae))]>>=λZm=>
    some ((ae.mk 34 0 [] Zm),L)
    else
    bC Y>>=λ(Ji,N3)=>
    cD 56 [p,q] [Ji]>>=λZn=>
    some ((ae.mk 34 0 [] Zn),N3))
    else
    some ((ae.mk 34 0 [] [p,q]),X))):=by
   rw[gB];refine a7 (DW H h) ?_;refine a7 g2 ?_;refine(gA (a:=((qS ts e' s2).aq,(qS ts e' s2).bF,(qS ts e' s2).ay,(qS ts e' s2).ax,[p,q])) ?_).trans ?_
   ·refine a7 f2 ?_;rfl
   rfl
  rw[eS,eI];rcases I6 (ts:=ts) s2 [101,108,115,101]with he | ⟨d,rfl,he⟩
  ·refine⟨s2,.mk 34 0 [] [c,b],.mk 34 0 [] [p,q],?_,?_,Rs.node aUF r.ok l2.nd aUE (λx h'=>?_)⟩
   ·refine bm (aZ (w:=[101,108,115,101]) H r.ok he) ?_;rfl
   ·refine bm (aF (w:=[101,108,115,101]) H r.ok he) ?_;rfl
   ·obtain⟨r1,M,O,r4⟩:=V x h';subst M;subst O;refine⟨by omega,rfl,rfl,?_⟩;rw[gv,cy];simp only[An];omega
  ·obtain⟨r1,M,O,r4⟩:=V d rfl;subst M;subst O;have Z:=cd he;have P:(JS.g (d+1)).Ok ts:=Z;cases hf:tw ts (d+1) [105,102]with
   | true=>
    obtain⟨o,n,m,h1,h2,f⟩:=akP H y N (d+1) aUE aUE hf;have Q:Lt ts i0 o:=Lt.rs f (λk j=>by cases j;omega);have p3:d+1<=o.pos:=f.le;refine⟨o,.mk 34 0 [] ([c,b]++[.mk 48 0 [] [n]]),.mk 34 0 [] ([c,b]++[.mk 48 0 [] [m]]),?_,?_,Rs.node aUF f.ok Q.nd aUE (λx h'=>?_)⟩
    ·refine dC (ck H he) ?_;refine dC (ck H hf) ?_;refine a7 h1 ?_;refine a7 (fq (l:=[c,b]) _ aUG) ?_;rfl
    ·refine dC (bL H he) ?_;refine dC ((fF (e':=e') H (.g (d+1)) P [105,102]).trans (by rw[show tw ts (JS.g (d+1)).pos [105,102]=true from hf])) ?_;refine a7 h2 ?_;refine a7 (fq (l:=[c,b]) _ aUG) ?_;rfl
    ·obtain⟨k,q1,B,t,W,_⟩:=f.good x h';cases q1;subst t;refine⟨by omega,rfl,rfl,?_⟩;rw[fO,gv,cy,cy,fD,cy];simp only[An];omega
   | false=>
    obtain⟨o,n,m,h1,h2,f⟩:=(y _ (Lt.g (show i0<d+1 by omega) Z)).block;have Q:Lt ts i0 o:=Lt.rs f (λk j=>by cases j;omega);have p3:d+1<=o.pos:=f.le;refine⟨o,.mk 34 0 [] ([c,b]++[n]),.mk 34 0 [] ([c,b]++[m]),?_,?_,Rs.node aUF f.ok Q.nd aUE (λx h'=>?_)⟩
    ·refine dC (ck H he) ?_;refine bm (aZ (w:=[105,102]) H P hf) ?_;refine a7 h1 ?_;refine a7 (fq (l:=[c,b]) _ aUG) ?_;rfl
    ·refine dC (bL H he) ?_;refine bm ((fF (e':=e') H (.g (d+1)) P [105,102]).trans (by rw[show tw ts (JS.g (d+1)).pos [105,102]=false from hf])) ?_;refine a7 h2 ?_;refine a7 (fq (l:=[c,b]) _ aUG) ?_;rfl
    ·obtain⟨k,q1,B,t,W,_⟩:=f.good x h';cases q1;subst t;refine⟨by omega,rfl,rfl,?_⟩;rw[fO,gv,cy,cy];simp only[An];omega
theorem acY (n a x:ae):cD 56 ([n]++[a]) [x]=some ([n]++([a]++[x])):=iz (b:=56) (l:=[n]++[a]) (m:=[x]) (by show(2+1)*56<=140737488355328;omega)
theorem Tl (n x:ae) (l:List ae) (h:l.length<=2):cD 56 ([n]++l) [x]=some ([n]++l++[x]):=fq _ (by rw[It];simp only[so,An];omega)
theorem Q2 (H:Tk ts e) {i:Nat} (V:i<ts.length) (L:∀s,Lt ts i s->PC ts e e' s):∃s' n m,kn (pS ts e (.g (i+1)))=some (n,pS ts e s')/\lD (qS ts e' (.g (i+1)))=some (m,qS ts e' s')/\Rs ts false 0 (.g i) s' n m:=by
 have hL:=H.len;have B:(JS.g (i+1)).Ok ts:=V;have W:=Lt.w (i:=i) B (aSd i) [40];have M:=gq (ts:=ts) (.g (i+1)) [40];have M:i+1<=(wS ts (.g (i+1)) [40]).pos:=M;obtain⟨a,n,m,X,g2,x⟩:=(L _ W).expr;have p2:=x.le;have C:=kE x.ok [97,115];have p3:=gq (ts:=ts) a [97,115];have Y:=mH (ts:=ts) a [97,115];have D:=qY C (k:=2) aUF;have Z:=my (ts:=ts) (wS ts a [97,115]) 2;have d3:=tI (ts:=ts) (wS ts a [97,115]) 2;have t1:=jr H (wS ts a [97,115]) 2
 have N:∀c,nS ts (wS ts a [97,115]) 2=.g c->i+4<c/\n=m/\(wt n:Int)+16384*(i:Int)+65536<=16384*(c:Int):=λc t=>by
  obtain⟨k,q1,u,_⟩:=lM t;obtain⟨k1,y,q4,_⟩:=ft q1;obtain⟨k2,E,q6,O,P,_⟩:=x.good k1 y;obtain⟨k3,Q,aa,_⟩:=ft E;cases Q;exact⟨by omega,O,by omega⟩
 obtain⟨d,o,e1,e2,A,p5,d4,z,F⟩:∃(d:JS) (o:List ae),
   (az (pS ts e (nS ts (wS ts a [97,115]) 2)) [61,62]>>=λ(p,f)=>(if p=true then fu f>>=λ(q,j)=>cD 56 ([n]++[.mk 4 0 (nT ts (wS ts a [97,115]) 2) []]) [q]>>=λr=>some (j.fT,j.fI,j.ay,j.ax,r)else some (f.fT,f.fI,f.ay,f.ax,([n]++[.mk 4 0 (nT ts (wS ts a [97,115]) 2) []]))))=some ((pS ts e d).fT,(pS ts e d).fI,(pS ts e d).ay,(pS ts e d).ax,[n]++o)/\
   (ar (qS ts e' (nS ts (wS ts a [97,115]) 2)) [61,62]>>=λ(p,f)=>(if p=true then cM f>>=λ(q,j)=>cD 56 ([m]++[.mk 4 0 (nT ts (wS ts a [97,115]) 2) []]) [q]>>=λr=>some (j.aq,j.bF,j.ay,j.ax,r)else some (f.aq,f.bF,f.ay,f.ax,([m]++[.mk 4 0 (nT ts (wS ts a [97,115]) 2) []]))))=some ((qS ts e' d).aq,(qS ts e' d).bF,(qS ts e' d).ay,(qS ts e' d).ax,[m]++o)/\
   d.Ok ts/\i<=d.pos/\d.nd=true/\o.length<=2/\(∀v,d=.g v->i+4<v/\n=m/\(wt n:Int)+(wl o:Int)+16384*(i:Int)+60000<=16384*(v:Int)):=by
  generalize zb:nS ts (wS ts a [97,115]) 2=R at*;generalize ad:nT ts (wS ts a [97,115]) 2=G at*;have hw:wl [ae.mk 4 0 G []]<=4001:=by rw[cy,fD,ep];omega
  rcases I6 (ts:=ts) R [61,62]with h | ⟨c,rfl,h⟩
  ·refine⟨R,[.mk 4 0 G []],?_,?_,D,by omega,d3,by simp,λv I=>?_⟩
   ·refine bm (aZ (w:=[61,62]) H D h) ?_;rfl
   ·refine bm (aF (w:=[61,62]) H D h) ?_;rfl
   ·obtain⟨q1,u,y⟩:=N v I;exact⟨q1,u,by omega⟩
  ·have J:=cd h;have K:(JS.g (c+1)).Ok ts:=J;have t2:=jr H (.g (c+1)) 2;have S:=@my ts (.g (c+1)) 2;have S:c+1<=(nS ts (.g (c+1)) 2).pos:=S;have ag:(wS ts a [97,115]).pos<=c:=Z;have CS:wl [ae.mk 4 0 (nT ts (.g (c+1)) 2) []]<=4001:=by rw[cy,fD,ep];omega
   refine⟨nS ts (.g (c+1)) 2,[.mk 4 0 G []]++[.mk 4 0 (nT ts (.g (c+1)) 2) []],?_,?_,qY K aUF,by omega,tI _ _,by simp,λv I=>?_⟩
   ·refine dC (ck H h) ?_;refine a7 (Pf H _ K) ?_;refine a7 (acY _ _ _) ?_;rfl
   ·refine dC (bL H h) ?_;refine a7 (Pg H _ K rfl) ?_;refine a7 (acY _ _ _) ?_;rfl
   ·obtain⟨k,q1,u,_⟩:=lM I;cases q1;obtain⟨q1,u,y⟩:=N c rfl;refine⟨by omega,u,?_⟩;rw[fO];omega
 have o5:=kE A [41];have p7:=gq (ts:=ts) d [41];have T:=Lt.w (i:=i) A p5 [41];obtain⟨U,b,b',h1,h2,t⟩:=(L _ T).block;have p8:=t.le;have l6:Lt ts i U:=Lt.rs t (λk hk=>aRL (T.lt k hk));refine⟨U,.mk 36 0 [] ([n]++o++[b]),.mk 36 0 [] ([m]++o++[b']),?_,?_,Rs.node aUF t.ok l6.nd aUE (λi' h'=>?_)⟩
 ·rw[kn];refine a7 (dW H _ B [40]) ?_;refine a7 X ?_;refine a7 (dW H _ x.ok [97,115]) ?_;refine a7 (Pf H _ C) ?_;refine a7 (fq (l:=[n]) _ aUG) ?_;refine a7 e1 ?_;refine a7 (dW H _ A [41]) ?_;refine a7 h1 ?_;refine a7 (Tl _ _ _ z) ?_;rfl
 ·rw[lD];refine a7 (eY H _ B [40]) ?_;refine a7 g2 ?_;refine a7 (eY H _ x.ok [97,115]) ?_;refine a7 (Pg H _ C Y) ?_;refine a7 (fq (l:=[m]) _ aUG) ?_;refine a7 e2 ?_;refine a7 (eY H _ A [41]) ?_;refine a7 h2 ?_;refine a7 (Tl _ _ _ z) ?_;rfl
 ·obtain⟨k,q1,u,y,q4,_⟩:=t.good i' h';obtain⟨k1,E,q6,_⟩:=ft q1;obtain⟨O,P,Q⟩:=F k1 E;subst y;subst P;refine⟨by omega,rfl,rfl,?_⟩;rw[fO,fO,cy,cy];simp only[An];omega
theorem asd (H:Tk ts e) {i:Nat} (bg:i<ts.length) (N:∀s,Lt ts i s->PC ts e e' s):∃s' n m,lW (pS ts e (.g (i+1)))=some (n,pS ts e s')/\ij (qS ts e' (.g (i+1)))=some (m,qS ts e' s')/\Rs ts false 0 (.g i) s' n m:=by
 have hL:=H.len;have eA:(JS.g (i+1)).Ok ts:=bg;obtain⟨t,b,o,O,g2,y⟩:=(N _ (Lt.g (aRh i) bg)).block;have P:i+1<=t.pos:=y.le;have l1:Lt ts i t:=Lt.rs y (λk A=>by cases A;omega)
 have xy:∀d,t=.g d->i+1<d/\b=o/\(wt b:Int)+16384*(i:Int)+24576<=16384*(d:Int):=λd h1=>by
  obtain⟨k,q1,z,u,q4,_⟩:=y.good d h1;cases q1;exact⟨by omega,u,by omega⟩
 obtain⟨s2,c,q,Q,e2,v,d2,p2,l2,bo,qu⟩:∃(s2:JS) (c q:List ae),
   (az (pS ts e t) [99,97,116,99,104]>>=λ(R,B)=>
    (if R=true then
    aQ B [40]>>=λS=>
    bT S 3>>=λ(T,U)=>
    fu U>>=λ(V,W)=>
    aQ W [41]>>=λX=>
    bJ X>>=λ(Y,G)=>
    cD 56 ([b]:List ae) [(ae.mk 44 0 T ([V,Y]:List ae))]>>=λZ=>
    some (G.fT,G.fI,G.ay,G.ax,Z)
    else
    some (B.fT,B.fI,B.ay,B.ax,([b]:List ae))))=some ((pS ts e s2).fT,(pS ts e s2).fI,(pS ts e s2).ay,(pS ts e s2).ax,[b]++c)/\
   (ar (qS ts e' t) [99,97,116,99,104]>>=λ(Uh,C)=>
    (if Uh=true then
    aO C [40]>>=λUi=>
    bE Ui 3>>=λ(Uj,Ou)=>
    cM Ou>>=λ(rh,aa)=>
    must (1*56<=140737488355328)>>=λ_=>
    aO aa [41]>>=λad=>
    bC ad>>=λ(Jk,I)=>
    cD 56 [rh] [Jk]>>=λPs=>
    cD 56 ([o]:List ae) [(ae.mk 44 0 Uj Ps)]>>=λZu=>
    some (I.aq,I.bF,I.ay,I.ax,Zu)
    else
    some (C.aq,C.bF,C.ay,C.ax,([o]:List ae))))=some ((qS ts e' s2).aq,(qS ts e' s2).bF,(qS ts e' s2).ay,(qS ts e' s2).ax,[o]++q)/\
   s2.Ok ts/\s2.nd=true/\i+1<=s2.pos/\c.length=q.length/\c.length<=1/\(∀f,s2=.g f->i+1<f/\b=o/\c=q/\(wt b:Int)+(wl c:Int)+16384*(i:Int)+24576<=16384*(f:Int)):=by
  rcases I6 (ts:=ts) t [99,97,116,99,104]with h | ⟨d,rfl,h⟩
  ·refine⟨t,[],[],?_,?_,y.ok,l1.nd,P,rfl,by simp,λf h2=>?_⟩
   ·refine bm (aZ (w:=[99,97,116,99,104]) H y.ok h) ?_;rfl
   ·refine bm (aF (w:=[99,97,116,99,104]) H y.ok h) ?_;rfl
   ·obtain⟨q1,z,u⟩:=xy f h2;exact⟨q1,z,rfl,by rw[ep];omega⟩
  ·have Bo:=cd h;have mT:(JS.g (d+1)).Ok ts:=Bo;have P:i+1<=d:=P;have D:=kE mT [40];have J:=@gq ts (.g (d+1)) [40];have J:d+1<=(wS ts (.g (d+1)) [40]).pos:=J;have E:=qY D (k:=3) aUF;have a4:=my (ts:=ts) (wS ts (.g (d+1)) [40]) 3;have a5:=qY E (k:=2) aUF;have a6:=my (ts:=ts) (nS ts (wS ts (.g (d+1)) [40]) 3) 2;have t1:=jr H (wS ts (.g (d+1)) [40]) 3;have t2:=jr H (nS ts (wS ts (.g (d+1)) [40]) 3) 2;have a8:=gq (ts:=ts) (nS ts (nS ts (wS ts (.g (d+1)) [40]) 3) 2) [41];have K:=Lt.w (i:=i) a5 aUE [41];obtain⟨s2,x,x',f1,f2,r⟩:=(N _ K).block;have a9:=r.le;have l4:Lt ts i s2:=Lt.rs r (λk A=>aRL (K.lt k A));refine⟨s2,[.mk 44 0 (nT ts (wS ts (.g (d+1)) [40]) 3) [.mk 4 0 (nT ts (nS ts (wS ts (.g (d+1)) [40]) 3) 2) [],x]],[.mk 44 0 (nT ts (wS ts (.g (d+1)) [40]) 3) ([.mk 4 0 (nT ts (nS ts (wS ts (.g (d+1)) [40]) 3) 2) []]++[x'])],?_,?_,r.ok,l4.nd,by omega,rfl,by simp,λf h2=>?_⟩
   ·refine dC (ck H h) ?_;refine a7 (dW H _ mT [40]) ?_;refine a7 (nu H _ D 3) ?_;refine a7 (Pf H _ E) ?_;refine a7 (dW H _ a5 [41]) ?_;refine a7 f1 ?_;refine a7 (fq (l:=[b]) _ aUG) ?_;rfl
   ·refine dC (bL H h) ?_;refine a7 (eY H _ mT [40]) ?_;refine a7 (nM H _ D (mH _ _) 3 (.inr rfl)) ?_;refine a7 (Pg H _ E (tI _ _)) ?_;refine(gA (a:=()) (At aUF)).trans ?_;refine a7 (eY H _ a5 [41]) ?_;refine a7 f2 ?_;refine a7 (fq (l:=[_]) _ aUG) ?_;refine a7 (fq (l:=[o]) _ aUG) ?_;rfl
   ·obtain⟨k,q1,z,u,q4,_⟩:=r.good f h2;obtain⟨k1,q5,q6,_⟩:=ft q1;obtain⟨k2,q7,q8,_⟩:=lM q5;obtain⟨k3,q9,br,_⟩:=lM q7;obtain⟨k4,ag,bs,_⟩:=ft q9;cases ag;obtain⟨r1,F,L⟩:=xy d rfl;subst u;refine⟨by omega,F,rfl,?_⟩;rw[cy,fD,gv,cy,fD,ep];omega
 have fin:∀(s':JS) (l l':List ae),s'.Ok ts->s'.nd=true->i<=s'.pos->(∀p,s'=.g p->i+1<p/\l=l'/\(wl l:Int)+8192+16384*(i:Int)<=16384*(p:Int))->Rs ts false 0 (.g i) s' (.mk 43 0 [] l) (.mk 43 0 [] l'):=λs' l l' D J E a4=>
  Rs.node aUF D J E (λp h'=>by
   obtain⟨q1,z,u⟩:=a4 p h';exact⟨q1,rfl,z,by simp only[An];omega⟩)
 rcases I6 (ts:=ts) s2 [102,105,110,97,108,108,121]with h | ⟨f,rfl,h⟩
 ·by_cases hl:c.length=0
  ·have hc:c=[]:=aSu.1 hl;have bj:q=[]:=aSu.1 aUE;subst hc;subst bj;refine⟨ND s2,.mk 0 0 [] [],.mk 43 0 [] ([o]++[]),?_,?_,⟨Bl v,by rw[sw];show i<=s2.pos;omega,λp h'=>(Lk h').elim,λj hj=>by have:=DQ s2;rw[hj]at this;cases this⟩⟩
   ·rw[lW];refine a7 O ?_;refine a7 Q ?_;refine bm (aZ (w:=[102,105,110,97,108,108,121]) H v h) ?_;refine nG (show(([b]++[]).length:Int)=1 from rfl) ?_;refine a7 (qZ H _ v) ?_;rfl
   ·rw[ij];refine a7 g2 ?_;refine a7 e2 ?_;refine bm (aF (w:=[102,105,110,97,108,108,121]) H v h) ?_;refine nG (show(([o]++[]).length:Int)=1 from rfl) ?_;rw[SN]
  ·refine⟨s2,.mk 43 0 [] ([b]++c),.mk 43 0 [] ([o]++q),?_,?_,fin s2 _ _ v d2 aUE (λp h'=>?_)⟩
   ·rw[lW];refine a7 O ?_;refine a7 Q ?_;refine bm (aZ (w:=[102,105,110,97,108,108,121]) H v h) ?_;refine cf (show ¬(([b]++c).length:Int)=1 by simp only[It,so,An];omega) ?_;rfl
   ·rw[ij];refine a7 g2 ?_;refine a7 e2 ?_;refine bm (aF (w:=[102,105,110,97,108,108,121]) H v h) ?_;refine cf (show ¬(([o]++q).length:Int)=1 by simp only[It,so,An];omega) ?_;rfl
   ·obtain⟨r1,F,L,r4⟩:=qu p h';subst F;subst L;refine⟨by omega,rfl,?_⟩;rw[fO,cy];omega
 ·have uN:=cd h;have zb:(JS.g (f+1)).Ok ts:=uN;have p2:i+1<=f:=p2;obtain⟨M,x,x',f1,f2,r⟩:=(N _ (Lt.g (show i<f+1 by omega) uN)).block;have p3:f+1<=M.pos:=r.le;have K:Lt ts i M:=Lt.rs r (λk A=>by cases A;omega);refine⟨M,.mk 43 0 [] ([b]++c++[.mk 45 0 [] [x]]),.mk 43 0 [] ([o]++q++[.mk 45 0 [] [x']]),?_,?_,fin M _ _ r.ok K.nd aUE (λp h'=>?_)⟩
  ·rw[lW];refine a7 O ?_;refine a7 Q ?_;refine dC (ck H h) ?_;refine a7 f1 ?_;refine a7 (Tl _ _ _ aUE) ?_;refine cf (show ¬(([b]++c++[ae.mk 45 0 [] [x]]).length:Int)=1 by simp only[It,so,An];omega) ?_;rfl
  ·rw[ij];refine a7 g2 ?_;refine a7 e2 ?_;refine dC (bL H h) ?_;refine a7 f2 ?_;refine a7 (Tl _ _ _ aUE) ?_;refine cf (show ¬(([o]++q++[ae.mk 45 0 [] [x']]).length:Int)=1 by simp only[It,so,An];omega) ?_;rfl
  ·obtain⟨k,q1,z,u,q4,_⟩:=r.good p h';cases q1;obtain⟨r1,F,L,r4⟩:=qu f rfl;subst F;subst L;subst u;refine⟨by omega,rfl,?_⟩;rw[fO,fO,cy,cy,fD,cy];simp only[An];omega
end
end Go.Am
