/- Texts of the proof, joined and shortened. -/
import Derived.Test.YtiigfbapjeefbaaGreatDoorPk6
import Derived.WalkKit
import Derived.BigCall
set_option linter.unusedVariables false
set_option linter.unusedSimpArgs false
set_option maxRecDepth 100000
namespace Go.Am
open Go Go.RowKit Go.Proofs
section
variable {E S:ae->Bool}
theorem adv (n:ae) (ht:n.aq.length<4294967281) (hl:n.ah.length<4611686018427387904)
  (HE:∀x∈n.ah,cQ x=some (E x)) (HS:∀x∈n.ah,dK x=some (S x)) (HS2:∀x∈n.ah,∀y∈x.ah,dK y=some (S y))
  (hv:∀x∈n.ah,E x=fE E S x) (rA:∀x∈n.ah,∀y∈x.ah,E y=fE E S y) (EC:∀x∈n.ah,E x=true->xz x=uu x):dK n=some (fS E S n):=by
 have he:=Gn n.ah HE hl
 have hp:=Vl n HS hl n.ah.length 0 aKK
 rw [show ((0:Nat):Int)=0 from rfl,aHY] at hp
 have hT:=aCm n.ah HS rA HS2
 rw [dK,fS]
 generalize n.ah=ks at*
 generalize n.aq=t at*
 generalize n.aP=m at*
 generalize n.aj=k at*
 by_cases hk:31<=k/\k<=48
 ·have e0:yH k m=(m==0):=by
   unfold yH
   rw [if_neg aKK,if_neg aKK,if_neg aKK,if_neg aKK,if_neg aKK,if_neg aKK]
  rw [e0]
  by_cases h0:m=0
  rotate_left
  ·rw [if_neg h0,beq_eq_false_iff_ne.2 h0];rfl
  rw [if_pos h0,h0]
  show _=some (yJ k t&&gS E S k ks)
  rcases (by omega:k=31\/k=32\/k=33\/k=34\/k=35\/k=36\/k=37\/k=38\/k=39\/k=40\/k=41\/k=42\/k=43\/k=44\/k=45\/k=46\/k=47\/k=48) with h | h | h | h | h | h | h | h | h | h | h | h | h | h | h | h | h | h<;>subst h
  all_goals
   simp only [gS,aIy,aIB,Int.reduceEq,Int.reduceBEq,if_true,if_false,aIo,aIN,aIX,aIi,amb,sb,he,xI,uE,contains_eq t ht,nest,Gm,beq_true]
  case inl=>
   show _=some (t31 t&&(ks.length:Int)==0)
   unfold t31
   by_cases h1:t=([]:aB)
   ·rw [if_pos h1,h1];rfl
   ·rw [if_neg h1,beq_eq_false_iff_ne.2 h1]
    cases decide (0<=Lib.index t [60,63])<;>rfl
  case inr.inr.inr.inl=>
   show _=some (t==([]:aB)&&_)
   by_cases h1:t=([]:aB)
   rotate_left
   ·rw [if_neg h1,beq_eq_false_iff_ne.2 h1];rfl
   rw [if_pos h1,h1]
   rcases ks with _ | ⟨a,_ | ⟨b,_ | ⟨c,_ | ⟨d,r⟩⟩⟩⟩
   ·rfl
   ·rfl
   ·rw [jt,sb,HE a aKN,sb,y0,sb,uI [b] (λx hx=>HS x aLy) aKN,sb,aHS,aIu,aIj]
    dsimp only
    cases E a<;>cases bl S b<;>rfl
   ·rw [jt,sb,HE a aKN,sb,y0,sb,uI [b,c] (λx hx=>HS x aLy) aKN,sb,aHS,aHS,aIu,aIj]
    dsimp only
    cases E a<;>cases bl S b<;>cases bl S c<;>rfl
   ·rw [decide_eq_false aKV];rfl
  case inr.inr.inr.inr.inl=>
   show _=some (t==([]:aB)&&_)
   by_cases h1:t=([]:aB)
   rotate_left
   ·rw [if_neg h1,beq_eq_false_iff_ne.2 h1];rfl
   rw [if_pos h1,h1]
   rcases ks with _ | ⟨a,_ | ⟨b,_ | ⟨c,r⟩⟩⟩
   ·rfl
   ·rfl
   ·rw [jt,sb,HE a aKN,sb,y0,sb,uI [b] (λx hx=>HS x aLy) aKN,sb,aHS,aIu,aIj]
    dsimp only
    cases E a<;>cases bl S b<;>rfl
   ·rw [if_neg (show ¬(((a::b::c::r:List ae).length:Int)=2) by simp only [an];omega)];rfl
  case inr.inr.inr.inr.inr.inl=>
   show _=some (t==([]:aB)&&_)
   by_cases h1:t=([]:aB)
   rotate_left
   ·rw [if_neg h1,beq_eq_false_iff_ne.2 h1];rfl
   rw [if_pos h1,h1]
   rcases ks with _ | ⟨a,_ | ⟨b,_ | ⟨c,_ | ⟨d,_ | ⟨e,r⟩⟩⟩⟩⟩
   ·rfl
   ·rfl
   ·rfl
   ·rw [jt,uH,sb,sb,HE a aKN,sb,var_eq b (hv b aKN),sb,if_pos (show (([a,b,c]:List ae).length:Int)=3 from rfl),show bq ((([a,b,c]:List ae).length:Int) - 1)=2 from rfl,show pP [a,b,c] 2=some [c] from rfl,sb,uI [c] (λx hx=>HS x (by simp at hx ⊢;exact .inr (.inr hx))) aKN,sb,aHS,aIu,aIj]
    dsimp only
    cases (b.aj==4)<;>cases E a<;>cases E b<;>cases bl S c<;>rfl
   ·rw [jt,uH,EA,sb,sb,sb,HE a aKN,sb,var_eq b (hv b aKN),sb,if_neg (show ¬(([a,b,c,d]:List ae).length:Int)=3 by simp),var_eq c (hv c aKN),sb,show bq ((([a,b,c,d]:List ae).length:Int) - 1)=3 from rfl,show pP [a,b,c,d] 3=some [d] from rfl,sb,uI [d] (λx hx=>HS x (by simp at hx ⊢;exact .inr (.inr (.inr hx)))) aKN,sb,aHS,aIu,aIj]
    dsimp only
    cases (b.aj==4)<;>cases (c.aj==4)<;>cases E a<;>cases E b<;>cases E c<;>cases bl S d<;>rfl
   ·rw [decide_eq_false aKV];rfl
  case inr.inr.inr.inr.inr.inr.inr.inr.inl=>rw [aqo];rfl
  case inr.inr.inr.inr.inr.inr.inr.inr.inr.inr.inl=>
   show _=some (t==([]:aB)&&_)
   by_cases h1:t=([]:aB)
   rotate_left
   ·rw [if_neg h1,beq_eq_false_iff_ne.2 h1];rfl
   rw [if_pos h1,h1]
   rcases ks with _ | ⟨a,_ | ⟨b,r⟩⟩
   ·rfl
   ·rw [if_pos (show (([a]:List ae).length:Int)=1 from rfl),jt,sb,sH,oX,sb,HE a aKN,sb]
    show _=some (uu a&&E a)
    cases hA:E a
    ·cases xz a<;>simp [sb]
    ·rw [EC a aKN hA];cases uu a<;>rfl
   ·rw [if_neg (show ¬(((a::b::r:List ae).length:Int)=1) by simp only [an];omega)];rfl
  case inr.inr.inr.inr.inr.inr.inr.inr.inr.inr.inr.inr.inl=>
   rw [hT,sb]
   by_cases h1:t=([]:aB)
   ·rw [if_pos h1,h1];rfl
   ·rw [if_neg h1,show yJ 43 t=false from beq_eq_false_iff_ne.2 h1];rfl
  case inr.inr.inr.inr.inr.inr.inr.inr.inr.inr.inr.inr.inr.inr.inr.inl=>
   show _=some (t==([]:aB)&&_)
   by_cases h1:t=([]:aB)
   rotate_left
   ·rw [if_neg h1,beq_eq_false_iff_ne.2 h1];rfl
   rw [if_pos h1,h1]
   rcases ks with _ | ⟨a,_ | ⟨b,_ | ⟨c,r⟩⟩⟩
   ·rfl
   ·rw [show bq ((([a]:List ae).length:Int) - 1)=0 from rfl,jt,sb,sb,HE a aKN];rfl
   ·rw [show bq ((([a,b]:List ae).length:Int) - 1)=1 from rfl,jt,uH,sb,sb,HE b aKN,var_eq a (hv a aKN),sb,sb]
    dsimp only
    cases (a.aj==4)<;>cases E a<;>cases E b<;>rfl
   ·rw [if_neg (show ¬(((a::b::c::r:List ae).length:Int)=1) by simp only [an];omega),if_neg (show ¬(((a::b::c::r:List ae).length:Int)=2) by simp only [an];omega)];rfl
  case inr.inr.inr.inr.inr.inr.inr.inr.inr.inr.inr.inr.inr.inr.inr.inr.inr=>
   rw [hp,sb]
   show _=some (t==([]:aB)&&_)
   cases ks.all S
   ·cases (t==([]:aB))<;>rfl
   ·cases (t==([]:aB))<;>rfl
  all_goals first
   | rfl
   | (
    show _=some (t==([]:aB)&&_)
    by_cases h1:t=([]:aB)
    ·rw [if_pos h1,h1]
     rcases ks with _ | ⟨a,_ | ⟨b,r⟩⟩
     ·rfl
     ·rw [if_pos (show (([a]:List ae).length:Int)=1 from rfl),jt,sb,HE a aKN];rfl
     ·rw [if_neg (show ¬(((a::b::r:List ae).length:Int)=1) by simp only [an];omega)];rfl
    ·rw [if_neg h1,beq_eq_false_iff_ne.2 h1];rfl)
   | (simp;done)
 ·have h31:¬k=31:=by omega
  have h32:¬k=32:=by omega
  have h33:¬k=33:=by omega
  have h34:¬k=34:=by omega
  have h35:¬k=35:=by omega
  have h36:¬k=36:=by omega
  have h37:¬k=37:=by omega
  have h38:¬k=38:=by omega
  have h39:¬k=39:=by omega
  have Dz:¬k=40:=by omega
  have h41:¬k=41:=by omega
  have h42:¬k=42:=by omega
  have h43:¬k=43:=by omega
  have h46:¬k=46:=by omega
  have h47:¬k=47:=by omega
  have h48:¬k=48:=by omega
  simp only [gS,aIy,aIB,if_true,if_false,aIo,aIN,aIX,aIi,aIl,amb,sb,beq_eq_false_iff_ne.2 h31,beq_eq_false_iff_ne.2 h32,beq_eq_false_iff_ne.2 h33,beq_eq_false_iff_ne.2 h37,beq_eq_false_iff_ne.2 h38,beq_eq_false_iff_ne.2 Dz,beq_eq_false_iff_ne.2 h42,beq_eq_false_iff_ne.2 h47,h31,h32,h33,h34,h35,h36,h37,h38,h39,Dz,h41,h42,h43,h46,h47,h48,ite_self]
end
set_option maxRecDepth 100000
theorem vtg {x:ae} (h:wt x<=134217728) (he:vE x=true):xz x=uu x:=OI (S:=vS) _ x (aHP _) (λy _ hw=>Ib aKK) he
theorem Zi:∀(N:Nat) (n:ae),sz n<N->wt n<=134217728->cQ n=some (vE n)/\dK n=some (vS n)
 | 0,n,h,_=>by omega
 | N+1,n,h,hw=>by
  have hk:∀x∈n.ah,_:=λx hx=>Zi N x (by have:=qR hx;omega) (by have:=lC hx;omega)
  have xP:∀x∈n.ah,∀y∈x.ah,_:=λx hx y hy=>Zi N y (by have:=qR hx;have:=qR hy;omega) (by have:=lC hx;have:=lC hy;omega)
  have bd:∀x:ae,wt x<=134217728->x.aq.length<4294967281/\x.ah.length<4611686018427387904:=λx hx=>by have:=zR x;omega
  have w1:∀x∈n.ah,wt x<=134217728:=λx hx=>by have:=lC hx;omega
  have w2:∀x∈n.ah,∀y∈x.ah,wt y<=134217728:=λx hx y hy=>by have:=lC hx;have:=lC hy;omega
  rw [Ib hw,aql hw]
  exact ⟨abn n (bd n hw).1 (bd n hw).2 (λx hx=>(bd x (w1 x hx)).2) (λx hx=>(hk x hx).1) (λx hx y hy=>(xP x hx y hy).1) (λx hx=>(hk x hx).2) (λx hx=>Ib (w1 x hx)) (λx hx=>vtg (w1 x hx)),
   adv n (bd n hw).1 (bd n hw).2 (λx hx=>(hk x hx).1) (λx hx=>(hk x hx).2) (λx hx y hy=>(xP x hx y hy).2) (λx hx=>Ib (w1 x hx)) (λx hx y hy=>Ib (w2 x hx y hy)) (λx hx=>vtg (w1 x hx))⟩
theorem iE {n:ae} (h:wt n<=134217728):cQ n=some (vE n):=(Zi _ n (aHP _) h).1
theorem Zj {n:ae} (h:wt n<=134217728):sz n<4611686018427387904:=by have:=ae2 n;omega
def vX (n:ae):Bool:=decide (sz n<=600/\dp n<=30)&&vE n
theorem Rh (n:ae) (h:wt n<=134217728):pR n=some (vX n)/\pT n=some (vX n):=by
 obtain ⟨h1,h2⟩:=Vf n (Zj h)
 unfold pR pT vX
 rw [h1,h2,sb,sb,iE h,spE h]
 cases decide (sz n<=600/\dp n<=30)<;>exact ⟨rfl,rfl⟩
end Go.Am
namespace Go.Am
open Go Go.RowKit
section
variable {P:Program} {f:FuncId} {h:List ak} {K:PV->List ak->Prop}
end
theorem ACall.alb {P:Program} {f:FuncId} {args a1:List PV} {h:List ak} {R:PV->List ak->Prop} {i lG:Nat} {e2:TypeId} {f2:Nat->List PV} (hi:args[i]? =some .cd) (hs:a1=args.set i (.own h.length 0 0 0))
  (hA:ACall P f a1 (h++[ak.row 0 lG 0 e2 f2]) R):ACall P f args h R:=by
 subst hs
 refine ⟨hA.1,λw vs μ S hH hM gK ha=>?_⟩
 obtain ⟨fr1,c1⟩:=oN (w1:=w) ⟨hH,hM⟩ lG 0 e2 f2 none rfl (cD.refl w) (λi hi=>absurd hi (aIs _)) (λi j pv hi=>absurd hi (aIs _))
 have hN:(h++[ak.row 0 lG 0 e2 f2])[h.length]? =some (.row 0 lG 0 e2 f2):=by simp
 refine (hA.2 w vs _ S c1.heap c1.ok aLs (λj pv hj=>?_)).mono ?_
 ·rw [aJq] at hj
  by_cases hij:i=j
  ·subst hij
   have bg:i<args.length:=(An.1 hi).1
   rw [if_pos rfl,if_pos bg] at hj
   cases hj
   obtain ⟨v,r1,r2⟩:=ha i .cd hi
   have r2:aY S w .cd v:=r2
   cases r2
   refine ⟨_,r1,?_⟩
   show bC _ _ w h.length 0 0 0 _
   unfold bC
   rw [hN,bB]
   exact ⟨⟨_,_,_,rfl⟩,No _,λ_=>⟨No _,rfl⟩⟩
  ·rw [if_neg hij] at hj
   obtain ⟨v,h1,h2⟩:=ha j pv hj
   exact ⟨v,h1,h2.fr fr1 hM⟩
 ·rintro x w' ⟨v,res,h',μ',S',rfl,hr,hv,hH',hM',hF⟩
  exact ⟨v,res,h',μ',S',rfl,hr,hv,hH',hM',fr1.trans hF⟩
theorem pcN {P:Program} {f:FuncId} {args a1:List PV} {h h2:List ak} {K:PV->List ak->Prop} (i:Nat) {lG:Nat} {e2:TypeId} {f2:Nat->List PV} (k:pA P f a1 h2 K) (hi:args[i]? =some .cd:=by rfl)
  (hs:a1=args.set i (.own h.length 0 0 0):=by rfl) (h3:h2=h++[ak.row 0 lG 0 e2 f2]:=by rfl):pA P f args h K:=by
 subst h3
 obtain ⟨R,hA,hk⟩:=k
 exact ⟨R,ACall.alb hi hs hA,hk⟩
theorem axD {P:Program} {f:FuncId} {args:List PV} {h:List ak} {K:PV->List ak->Prop} (id i j sub:Nat) (h1:(Nat->Prop)->List ak) (ha:∀F,AL h id i j sub F (h1 F)) (k:∀F,pA P f args (h1 F) K):pA P f args h K:=by
 have hA:∀F,ACall P f args (h1 F) K:=λF=>by
  obtain ⟨R,hA,hk⟩:=k F
  exact hA.mono hk
 refine ⟨K,⟨(hA (λ_=>False)).1,λw vs μ S hH hM gK ha'=>?_⟩,λ_ _ h=>h⟩
 obtain ⟨fr1,c1⟩:=GR (w:=w) ⟨hH,hM⟩ (ha (FAb μ h sub))
 refine ((hA (FAb μ h sub)).2 w vs μ S c1.heap c1.ok gK (λj pv hj=>?_)).mono ?_
 ·obtain ⟨v,r1,r2⟩:=ha' j pv hj
  exact ⟨v,r1,r2.fr fr1 hM⟩
 ·rintro x w' ⟨v,res,h',μ',S',rfl,hr,hv,hH',hM',hF⟩
  exact ⟨v,res,h',μ',S',rfl,hr,hv,hH',hM',fr1.trans hF⟩
theorem qX {P:Program} {f:FuncId} {args:List PV} {h:List ak} {K:PV->List ak->Prop} {r:PV} (hA:ACall P f args h (λres h'=>res=r/\h'=h)) (k:K r h):pA P f args h K:=
 ⟨_,hA,by rintro _ _ ⟨rfl,rfl⟩;exact k⟩
end Go.Am
namespace Go.Am
open Go Go.RowKit Go.Proofs
theorem Nf (k:Int) (s:aB) (a:Option Addr) (l c:Nat) (w:World):
  Calls Tryz.prog 106 #[.int .i64 k,.string ⟨⟨s⟩⟩,.slice a l c] w λe w'=>e=.returned (.agg #[.int .i64 k,.int .i64 0,.string ⟨⟨s⟩⟩,.slice a l c])/\Below w.heap.size w w':=by
 go_enter Tryz.func106,Tryz.ntmps106
 go_wp2
 exact bodyPost_ret (v:=.agg #[.int .i64 k,.int .i64 0,.string ⟨⟨s⟩⟩,.slice a l c]) (by simp [results,Tryz.results106,go_sem]) rfl ⟨rfl,(Below.refl _ _).alloc (No _) _⟩
def alc:PV->Bool
 | .cd=>true
 | .own _ _ _ _=>true
 | _=>false
theorem bF (k:Int) (t:aB) (v:PV) (h:List ak) (hv:alc v=true):ACall Tryz.prog 106 [.int .i64 k,.str t,v] h (λres h'=>res=.agg [.int .i64 k,.int .i64 0,.str t,v]/\h'=h):=by
 refine ⟨⟨_,_,Tryz.func106,rfl,by kernel_rfl⟩,λw vs μ S hH hM gK ha=>?_⟩
 obtain ⟨v0,q0,r0⟩:=ha 0 _ rfl
 obtain ⟨v1,q1,r1⟩:=ha 1 _ rfl
 obtain ⟨v2,q2,r2⟩:=ha 2 _ rfl
 have r0:aY S w (.int .i64 k) v0:=r0
 have r1:aY S w (.str t) v1:=r1
 cases r0
 cases r1
 have hs:∃a l c,v2=.slice a l c:=by
  cases v with
  | cd=>
   have r2:aY S w .cd v2:=r2
   cases r2
   exact ⟨_,_,_,rfl⟩
  | own id g o n=>
   have r2:bC μ h w id g o n v2:=r2
   exact r2.1
  | _=>cases hv
 obtain ⟨a,l,c,rfl⟩:=hs
 have e:vs=#[.int .i64 k,.string ⟨⟨t⟩⟩,.slice a l c]:=by
  obtain ⟨vl⟩:=vs
  rcases vl with _ | ⟨x,_ | ⟨y,_ | ⟨z,_ | ⟨u,vl⟩⟩⟩⟩<;>simp at gK
  simp at q0 q1 q2
  subst q0;subst q1;subst q2;rfl
 subst e
 refine (Nf k t a l c w).mono ?_
 rintro e w' ⟨rfl,hb⟩
 have ag:cD w w':=⟨hb.block,hb.size,hb.os,hb.tape,hb.output⟩
 refine ⟨_,_,h,μ,S,rfl,⟨rfl,rfl⟩,?_,hH.agree ag hM,hM.agree ag,Fr.rH ag⟩
 refine ⟨_,rfl,rfl,λj pv hj=>?_⟩
 match j,hj with
 | 0,hj=>cases hj;exact ⟨_,rfl,aY.int _ _⟩
 | 1,hj=>cases hj;exact ⟨_,rfl,aY.int _ _⟩
 | 2,hj=>cases hj;exact ⟨_,rfl,aY.str _⟩
 | 3,hj=>
  cases hj
  refine ⟨_,rfl,?_⟩
  have r2:cz μ h S w v (.slice a l c):=by
   cases v with
   | cd=>exact r2
   | own id g o n=>exact r2
   | _=>cases hv
  exact cz.fr (Fr.rH ag) hM r2
set_option synthInstance.maxHeartbeats 400000
set_option synthInstance.maxSize 4000
set_option maxRecDepth 100000
def kR (a0:aB) (a1:Int) (y4:Int):Option ((Unit) ⊕ aB):=
 (if y4<(([[61,61,61],[33,61,61],[60,61,62],[61,61],[33,61],[60,61],[62,61],[61,62],[45,62],[58,58],[38,38],[124,124],[63,63]]:List aB).length:Int) then
 idx ([[61,61,61],[33,61,61],[60,61,62],[61,61],[33,61],[60,61],[62,61],[61,62],[45,62],[58,58],[38,38],[124,124],[63,63]]:List aB) y4>>=λx8=>
 hP a0 a1 x8>>=λv10=>
 (if v10=true then
 idx ([[61,61,61],[33,61,61],[60,61,62],[61,61],[33,61],[60,61],[62,61],[61,62],[45,62],[58,58],[38,38],[124,124],[63,63]]:List aB) y4>>=λx13=>
 some (.inr x13)
 else
 kR a0 a1 (bq (y4+1)))
 else
 some (.inl ()))
partial_fixpoint
def jB (a0:aB) (a1:Int) (wu:Int):Option ((Unit) ⊕ aB):=
 (if wu<(([43,45,42,47,37,46,61,33,60,62,40,41,91,93,123,125,44,59,63,58,38]:aB).length:Int) then
 gx a0 a1>>=λc24=>
 gx [43,45,42,47,37,46,61,33,60,62,40,41,91,93,123,125,44,59,63,58,38] wu>>=λc26=>
 (if (c24.toNat:Int)=(c26.toNat:Int) then
 sB [43,45,42,47,37,46,61,33,60,62,40,41,91,93,123,125,44,59,63,58,38] wu (bq (wu+1))>>=λs29=>
 some (.inr s29)
 else
 jB a0 a1 (bq (wu+1)))
 else
 some (.inl ()))
partial_fixpoint
def oO (a0:aB) (a1:Int):Option (aB):=
 ((
 kR a0 a1 0
 :Option ((Unit) ⊕ aB))>>=λo1=>match o1 with
 | .inr r=>some r
 | .inl _=>
 ((
 jB a0 a1 0
 :Option ((Unit) ⊕ aB))>>=λSK=>match SK with
 | .inr r=>some r
 | .inl _=>
 some []
 )
 )
theorem GS {a0:aB} {a1:Int} {r:aB} (h:oO a0 a1=some r):ACall Tryz.prog 165 [.str a0,.int .i64 a1] [] (λres h=>res=.str r/\h=[]):=by
 refine eT Tryz.func165 ?_
 unfold oO at h
 refine .d (.d ⟨row cS ([[61,61,61],[33,61,61],[60,61,62],[61,61],[33,61],[60,61],[62,61],[61,62],[45,62],[58,58],[38,38],[124,124],[63,63]]:List aB),dX cS ([[61,61,61],[33,61,61],[60,61,62],[61,61],[33,61],[60,61],[62,61],[61,62],[45,62],[58,58],[38,38],[124,124],[63,63]]:List aB) rfl (dA rfl),?_⟩)
 obtain ⟨o1,h,gd⟩:=bd h
 refine .cut (λσ η=>.inl ()=o1/\σ=[(0,.str a0),(1,.int .i64 a1)]/\η=[]) ?_ ?_
 refine .d ?_
 refine le (kR.partial_correctness a0 a1 (motive:=λy4 DE=>o1=DE->aQ _ _ [(0,.str a0),(1,.int .i64 a1),(5,.own 0 0 0 ([[61,61,61],[33,61,61],[60,61,62],[61,61],[33,61],[60,61],[62,61],[61,62],[45,62],[58,58],[38,38],[124,124],[63,63]]:List aB).length),(6,.int .i64 y4)] [.row 0 1 ([[61,61,61],[33,61,61],[60,61,62],[61,61],[33,61],[60,61],[62,61],[61,62],[45,62],[58,58],[38,38],[124,124],[63,63]]:List aB).length 9 (row cS ([[61,61,61],[33,61,61],[60,61,62],[61,61],[33,61],[60,61],[62,61],[61,62],[45,62],[58,58],[38,38],[124,124],[63,63]]:List aB))]) ?_ 0 o1 h rfl) (tk [0] ⟨.s,.i,.o,.i,⟨⟩⟩ ⟨nw,⟨⟩⟩)
 intro F6 Sr y4 DE h Ss
 subst Ss
 refine aQ.round (.d (.d ⟨rfl,(sD h (λzL h=>?_) (λzL h=>?_))⟩))
 refine .d (.d (bk h λx8 St h=>⟨rfl,bn St,_,aHJ _,rfl,_,((ba St).trans rfl),(bk h λv10 Sz h=>(cx (kx Sz) (sV h (λrF h=>?_) (λrF h=>?_))))⟩))
 refine .d (bk h λx13 Bf h=>⟨rfl,bn Bf,_,aHJ _,rfl,_,((ba Bf).trans rfl),?_⟩)
 obtain rfl:=si h
 replace h:=gd
 exact eS h
 exact lg (Sr _ _ h rfl) (tk [0] ⟨.s,.i,.o,.i,⟨⟩⟩ ⟨nw,⟨⟩⟩)
 exact ct ⟨si h,rfl,rfl⟩ (tk [] ⟨.s,.i,⟨⟩⟩ ⟨⟩)
 rintro _ _ ⟨rfl,rfl,rfl⟩
 replace h:=gd
 refine .d ?_
 obtain ⟨SK,h,aAq⟩:=bd h
 refine .cut (λσ η=>.inl ()=SK/\σ=[]/\η=[]) ?_ ?_
 refine .d ?_
 refine le (jB.partial_correctness a0 a1 (motive:=λwu o31=>SK=o31->aQ _ _ [(0,.str a0),(1,.int .i64 a1),(7,.str [43,45,42,47,37,46,61,33,60,62,40,41,91,93,123,125,44,59,63,58,38]),(8,.int .i64 wu)] []) ?_ 0 SK h rfl) (tk [] ⟨.s,.i,.s,.i,⟨⟩⟩ ⟨⟩)
 intro F22 aE4 wu o31 h aE5
 subst aE5
 refine aQ.round (.d (.d (sD h (λAk h=>?_) (λAk h=>?_))))
 refine .d (.d (bk h λc24 JF h=>⟨cf JF,c24,cg JF,(bk h λc26 aAr h=>⟨cf aAr,c26,cg aAr,(sE h (λLb h=>?_) (λLb h=>?_))⟩)⟩))
 refine .d (bk h λs29 Ry h=>⟨qt Ry,s29,qu Ry,?_⟩)
 obtain rfl:=si h
 replace h:=aAq
 exact eS h
 exact lg (aE4 _ _ h rfl) (tk [] ⟨.s,.i,.s,.i,⟨⟩⟩ ⟨⟩)
 exact aKn
 rintro _ _ ⟨rfl,rfl,rfl⟩
 replace h:=aAq
 exact .d (eS h)
def du (a0:aB) (l4:List UInt8) (y5:Int):Option ((Unit) ⊕ (aB×Int)):=
 (if y5<(a0.length:Int) then
 gx a0 y5>>=λc9=>
 (if (c9.toNat:Int)=39 then
 (if (l4.length:Int)>400 then
 some (.inr ([],(-1)))
 else
 some (.inr (l4,bq (y5+1))))
 else
 gx a0 y5>>=λc13=>
 (if (c13.toNat:Int)=92 then
 (if (bq (y5+1))<(a0.length:Int) then
 gx a0 (bq (y5+1))>>=λc17=>
 (if (c17.toNat:Int)=39 then
 gx a0 (bq (y5+1))>>=λc20=>
 db 1 l4 ([c20]:List UInt8)>>=λzg=>
 du a0 zg (bq ((bq (y5+1))+1))
 else
 gx a0 (bq (y5+1))>>=λc24=>
 (if (c24.toNat:Int)=92 then
 gx a0 (bq (y5+1))>>=λc27=>
 db 1 l4 ([c27]:List UInt8)>>=λA3=>
 du a0 A3 (bq ((bq (y5+1))+1))
 else
 gx a0 y5>>=λc31=>
 db 1 l4 ([c31]:List UInt8)>>=λl33=>
 du a0 l33 (bq (y5+1))))
 else
 gx a0 y5>>=λc35=>
 db 1 l4 ([c35]:List UInt8)>>=λl37=>
 du a0 l37 (bq (y5+1)))
 else
 gx a0 y5>>=λYY=>
 db 1 l4 ([YY]:List UInt8)>>=λl41=>
 du a0 l41 (bq (y5+1))))
 else
 some (.inl ()))
partial_fixpoint
def oq (a0:aB) (a1:Int):Option (aB×Int):=
 ((
 du a0 ([]:List UInt8) (bq (a1+1))
 :Option ((Unit) ⊕ (aB×Int)))>>=λo1=>match o1 with
 | .inr r=>some r
 | .inl _=>
 some ([],(-1))
 )
theorem CI {a0:aB} {a1:Int} {r:aB×Int} (h:oq a0 a1=some r):ACall Tryz.prog 164 [.str a0,.int .i64 a1] [] (λres h=>res=.fv [.str r.1,.int .i64 r.2]/\h=[]):=by
 refine eT Tryz.func164 ?_
 unfold oq at h
 refine .d (.d ⟨row cB ([]:List UInt8),dX cB ([]:List UInt8) rfl (dA rfl),?_⟩)
 obtain ⟨o1,h,gd⟩:=bd h
 refine .cut (λσ η=>.inl ()=o1/\σ=[]/\η=[]) ?_ ?_
 refine .d ?_
 refine le (du.partial_correctness a0 (motive:=λl4 y5 o43=>o1=o43->aQ _ _ [(0,.str a0),(6,.own 0 0 0 l4.length),(7,.int .i64 y5)] [.row 0 1 l4.length 5 (row cB l4)]) ?_ ([]:List UInt8) (bq (a1+1)) o1 h rfl) (tk [0] ⟨.s,.o,.i,⟨⟩⟩ ⟨nw,⟨⟩⟩)
 intro F7 Hm l4 y5 o43 h aE6
 subst aE6
 refine aQ.round (.d (.d (sD h (λKR h=>?_) (λKR h=>?_))))
 refine .d (.d (.d (bk h λc9 ya h=>⟨cf ya,c9,cg ya,(sE h (λrC h=>?_) (λrC h=>?_))⟩)))
 refine .d (.d ⟨rfl,(sD h (λrF h=>?_) (λrF h=>?_))⟩)
 refine .d ?_
 obtain rfl:=si h
 replace h:=gd
 exact aKj
 refine .d ⟨rfl,l4,rfl,ow bb rfl,?_⟩
 obtain rfl:=si h
 replace h:=gd
 exact aKj
 refine .d (.d (bk h λc13 Bf h=>⟨cf Bf,c13,cg Bf,(sE h (λtW h=>?_) (λtW h=>?_))⟩))
 refine .t (.t (.t (.t (.t (sD h (λrD h=>?_) (λrD h=>?_))))))
 refine .t (.t (.t (bk h λc17 uG h=>⟨cf uG,c17,cg uG,(.t (.t (sE h (λBi h=>?_) (λBi h=>?_))))⟩)))
 exact .t (.t (.t (.t (.t (.t (.t (.t (bk h λc20 JD h=>⟨cf JD,c20,cg JD,row cB ([c20]:List UInt8),dX cB ([c20]:List UInt8) rfl (dA rfl),(bk h λzg Rz h=>(.fx ⟨rfl,rfl,mf (l:=([c20]:List UInt8)) bb,iY Rz,zg.length,row cB zg,gN Rz,iu Rz bb (jP bb),(lg (Hm _ _ _ h rfl) (tk [0] ⟨.s,.o,.i,⟨⟩⟩ ⟨nw,⟨⟩⟩))⟩))⟩))))))))
 refine .f (.f (.f (bk h λc24 JF h=>⟨cf JF,c24,cg JF,(.f (.t (.f (.t (sE h (λEe h=>?_) (λEe h=>?_))))))⟩)))
 exact bk h λc27 Ck h=>⟨cf Ck,c27,cg Ck,row cB ([c27]:List UInt8),dX cB ([c27]:List UInt8) rfl (dA rfl),(bk h λA3 Ry h=>(.fx ⟨rfl,rfl,mf (l:=([c27]:List UInt8)) bb,iY Ry,A3.length,row cB A3,gN Ry,iu Ry bb (jP bb),(lg (Hm _ _ _ h rfl) (tk [0] ⟨.s,.o,.i,⟨⟩⟩ ⟨nw,⟨⟩⟩))⟩))⟩
 exact bk h λc31 Zk h=>⟨cf Zk,c31,cg Zk,row cB ([c31]:List UInt8),dX cB ([c31]:List UInt8) rfl (dA rfl),(bk h λl33 Ng h=>(.fx ⟨rfl,rfl,mf (l:=([c31]:List UInt8)) bb,iY Ng,l33.length,row cB l33,gN Ng,iu Ng bb (jP bb),(lg (Hm _ _ _ h rfl) (tk [0] ⟨.s,.o,.i,⟨⟩⟩ ⟨nw,⟨⟩⟩))⟩))⟩
 exact .f (.f (.f (.f (.f (.f (.f (.f (bk h λc35 Tj h=>⟨cf Tj,c35,cg Tj,row cB ([c35]:List UInt8),dX cB ([c35]:List UInt8) rfl (dA rfl),(bk h λl37 ald h=>(.fx ⟨rfl,rfl,mf (l:=([c35]:List UInt8)) bb,iY ald,l37.length,row cB l37,gN ald,iu ald bb (jP bb),(lg (Hm _ _ _ h rfl) (tk [0] ⟨.s,.o,.i,⟨⟩⟩ ⟨nw,⟨⟩⟩))⟩))⟩))))))))
 refine .f (.f (.f (.f (.f (.f (.f (.f (.f (.f (.f (.f (.f (.f (bk h λYY RA h=>?_))))))))))))))
 exact ⟨cf RA,YY,cg RA,row cB ([YY]:List UInt8),dX cB ([YY]:List UInt8) rfl (dA rfl),(bk h λl41 RB h=>(.fx ⟨rfl,rfl,mf (l:=([YY]:List UInt8)) bb,iY RB,l41.length,row cB l41,gN RB,iu RB bb (jP bb),(lg (Hm _ _ _ h rfl) (tk [0] ⟨.s,.o,.i,⟨⟩⟩ ⟨nw,⟨⟩⟩))⟩))⟩
 exact aKn
 rintro _ _ ⟨rfl,rfl,rfl⟩
 replace h:=gd
 refine .d ?_
 exact aKj
def xh (a0:aB) (y8:Int) (y9:Int):Option ((Int) ⊕ (Int×Bool)):=
 (if y9<(a0.length:Int) then
 gx a0 y9>>=λc13=>
 yQ (bq ((c13.toNat:Int))) 48 57>>=λBk=>
 (if Bk=true then
 gx a0 y9>>=λc18=>
 xh a0 (bq ((bq (10*y8))+(bq (IntKind.u8.wrap ((c18.toNat:Int) - 48))))) (bq (y9+1))
 else
 some (.inr (0,false)))
 else
 some (.inl y8))
partial_fixpoint
def m61 (a0:aB):Option (Int×Bool):=
 yQ (a0.length:Int) 1 13>>=λv1=>
 (if v1=true then
 ((
 xh a0 0 0
 :Option ((Int) ⊕ (Int×Bool)))>>=λo5=>match o5 with
 | .inr r=>some r
 | .inl y4=>
 (if y4>1000000000000 then
 some (0,false)
 else
 m94 y4>>=λDA=>
 (if DA=a0 then
 some (y4,true)
 else
 some (0,false)))
 )
 else
 some (0,false))
theorem aE7 {a0:aB} {r:Int×Bool} (h:m61 a0=some r):ACall Tryz.prog 163 [.str a0] [] (λres h=>res=.fv [.int .i64 r.1,.bool r.2]/\h=[]):=by
 refine eT Tryz.func163 ?_
 unfold m61 at h
 refine .d (.d (.d (bk h λv1 rA h=>(cx (rB rA) (jj h (λyE h=>?_) (λyE h=>?_))))))
 refine .d ?_
 exact aKe
 refine .d ?_
 obtain ⟨o5,h,hk7⟩:=bd h
 refine .cut (λσ η=>∃y4,.inl y4=o5/\σ=[(0,.str a0),(4,.int .i64 y4)]/\η=[]) ?_ ?_
 refine .d ?_
 refine le (xh.partial_correctness a0 (motive:=λy8 y9 o20=>o5=o20->aQ _ _ [(0,.str a0),(4,.int .i64 y8),(5,.int .i64 y9)] []) ?_ 0 0 o5 h rfl) (tk [] ⟨.s,.i,.i,⟨⟩⟩ ⟨⟩)
 intro F11 aE8 y8 y9 o20 h ale
 subst ale
 refine aQ.round (.d (.d (sD h (λrF h=>?_) (λrF h=>?_))))
 refine .d (.d (.d (bk h λc13 Bf h=>⟨cf Bf,c13,cg Bf,(bk h λBk FN h=>(cx (rB FN) (jj h (λtX h=>?_) (λtX h=>?_))))⟩)))
 refine .d ?_
 obtain rfl:=si h
 replace h:=hk7
 exact aKe
 exact bk h λc18 Zl h=>⟨cf Zl,c18,cg Zl,(lg (aE8 _ _ _ h rfl) (tk [] ⟨.s,.i,.i,⟨⟩⟩ ⟨⟩))⟩
 exact ct ⟨_,si h,rfl,rfl⟩ (tk [] ⟨.s,.i,⟨⟩⟩ ⟨⟩)
 rintro _ _ ⟨y4,rfl,rfl,rfl⟩
 replace h:=hk7
 refine .d (.d (sD h (λDJ h=>?_) (λDJ h=>?_)))
 refine .t (.t (.t (.t (.t (.d ?_)))))
 exact aKe
 refine .f (bk h λDA M0 h=>(cx (aBp M0) (.f (.f (.f (sEn h (λJY h=>?_) (λJY h=>?_)))))))
 refine .d ?_
 exact aKe
 refine .d ?_
 exact aKe
def j5 (a0:aB) (Pp:Int):Option (Int):=
 (if Pp<(a0.length:Int) then
 gx a0 Pp>>=λc34=>
 jM (c34.toNat:Int)>>=λv36=>
 (if v36=true then
 j5 a0 (bq (Pp+1))
 else
 some Pp)
 else
 some Pp)
partial_fixpoint
def jT (a0:aB) (a1:Int):Option (af×Int×Int):=
 ((
 gx a0 a1>>=λc4=>
 (if (c4.toNat:Int)=36 then
 iN a0 (bq (a1+1))>>=λv7=>
 sB a0 (bq (a1+1)) v7>>=λs9=>
 (if s9=([]:aB) then
 some (.inr ((af.mk 2 0 s9 a1),a1,2))
 else
 some (.inr ((af.mk 2 0 s9 a1),v7,0)))
 else
 gx a0 a1>>=λc12=>
 j6 (c12.toNat:Int)>>=λv14=>
 (if v14=true then
 iN a0 a1>>=λJZ=>
 sB a0 a1 JZ>>=λSu=>
 some (.inr ((af.mk 3 0 Su a1),JZ,0))
 else
 gx a0 a1>>=λc21=>
 jM (c21.toNat:Int)>>=λDA=>
 (if DA=true then
 (
 j5 a0 a1
 :Option (Int))>>=λSa=>
 sB a0 a1 Sa>>=λs41=>
 m61 s41>>=λ(KS,D0)=>
 (if D0=true then
 (if KS>1000000000 then
 some (.inr ((af.mk 0 0 [] a1),a1,4))
 else
 some (.inr ((af.mk 4 KS [] a1),Sa,0)))
 else
 some (.inr ((af.mk 0 0 [] a1),a1,4)))
 else
 gx a0 a1>>=λc48=>
 (if (c48.toNat:Int)=39 then
 oq a0 a1>>=λ(v51,qn)=>
 (if qn<0 then
 some (.inr ((af.mk 5 0 v51 a1),a1,3))
 else
 some (.inr ((af.mk 5 0 v51 a1),qn,0)))
 else
 some (.inl ())))))
 :Option ((Unit) ⊕ (af×Int×Int)))>>=λo1=>match o1 with
 | .inr r=>some r
 | .inl _=>
 oO a0 a1>>=λv55=>
 (if v55=([]:aB) then
 some ((af.mk 6 0 v55 a1),a1,2)
 else
 some ((af.mk 6 0 v55 a1),bq (a1+(v55.length:Int)),0))
 )
theorem Ej {a0:aB} {a1:Int} {r:af×Int×Int} (h:jT a0 a1=some r):ACall Tryz.prog 101 [.str a0,.int .i64 a1] [] (λres h=>res=.fv [.agg r.1.lit,.int .i64 r.2.1,.int .i64 r.2.2]/\h=[]):=by
 refine eT Tryz.func101 ?_
 unfold jT at h
 refine .d (.d ⟨rfl,_,_,rfl,ao,(.d ?_)⟩)
 obtain ⟨o1,h,gd⟩:=bd h
 refine .cut (λσ η=>.inl ()=o1/\σ=[(0,.str a0),(1,.int .i64 a1),(4,.aC 0 0 0 0),(7,.aC 1 0 0 0)]/\η=[.row 0 4 1 101 (λ_=>[.int .i64 0,.int .i64 0,.str [],.int .i64 0]),.row 0 4 1 101 (λ_=>[.int .i64 0,.int .i64 0,.str [],.int .i64 a1])]) ?_ ?_
 refine .d (bk h λc4 hx5 h=>⟨cf hx5,c4,cg hx5,(sE h (λEv h=>?_) (λEv h=>?_))⟩)
 refine .d (bk h λv7 hv8 h=>(cx (tc hv8) (.d ⟨rfl,rfl,_,_,rfl,ao,(.d (bk h λs9 ya h=>⟨qt ya,s9,qu ya,rfl,rfl,_,_,rfl,ao,(.d (.d ⟨rfl,rfl,_,rfl,?_⟩))⟩))⟩)))
 refine sE h (λrC h=>?_) (λrC h=>?_)
 refine .d ⟨rfl,_,rfl,rfl,_,_,rfl,ao,?_⟩
 exact aKi
 refine .d ⟨rfl,_,rfl,rfl,_,_,rfl,ao,?_⟩
 exact aKi
 refine .d (bk h λc12 Hs h=>⟨cf Hs,c12,cg Hs,(bk h λv14 agK h=>(cx (vb agK) (sV h (λrD h=>?_) (λrD h=>?_))))⟩)
 refine .d (bk h λJZ alf h=>(cx (tc alf) (.d ⟨rfl,rfl,_,_,rfl,ao,(.d (bk h λSu Bh h=>⟨qt Bh,Su,qu Bh,rfl,rfl,_,_,rfl,ao,(.d ⟨rfl,_,rfl,rfl,_,_,rfl,ao,?_⟩)⟩))⟩)))
 exact aKi
 refine .d (bk h λc21 aAs h=>⟨cf aAs,c21,cg aAs,(bk h λDA M0 h=>(cx (rh M0) (sV h (λJY h=>?_) (λJY h=>?_))))⟩)
 obtain ⟨Se,h,M3⟩:=bd h
 refine .cut (λσ η=>∃Sa,Sa=Se/\σ=[(0,.str a0),(1,.int .i64 a1),(4,.aC 0 0 0 0),(7,.aC 1 0 0 0),(8,.int .i64 Sa)]/\η=[.row 0 4 1 101 (λ_=>[.int .i64 0,.int .i64 0,.str [],.int .i64 0]),.row 0 4 1 101 (λ_=>[.int .i64 0,.int .i64 0,.str [],.int .i64 a1])]) ?_ ?_
 refine le (j5.partial_correctness a0 (motive:=λPp o39=>Se=o39->aQ _ _ [(0,.str a0),(1,.int .i64 a1),(4,.aC 0 0 0 0),(7,.aC 1 0 0 0),(8,.int .i64 Pp)] [.row 0 4 1 101 (λ_=>[.int .i64 0,.int .i64 0,.str [],.int .i64 0]),.row 0 4 1 101 (λ_=>[.int .i64 0,.int .i64 0,.str [],.int .i64 a1])]) ?_ a1 Se h rfl) (tk [0,1] ⟨.s,.i,.p,.p,.i,⟨⟩⟩ ⟨(gg rfl),(gg rfl),⟨⟩⟩)
 intro F32 aE9 Pp o39 h aFa
 subst aFa
 refine aQ.round (.d (.d (sD h (λSC h=>?_) (λSC h=>?_))))
 refine .t (.t (bk h λc34 YX h=>⟨cf YX,c34,cg YX,(.t (bk h λv36 alg h=>(cx (rh alg) (.t (sV h (λLf h=>?_) (λLf h=>?_))))))⟩))
 exact lg (aE9 _ _ h rfl) (tk [0,1] ⟨.s,.i,.p,.p,.i,⟨⟩⟩ ⟨(gg rfl),(gg rfl),⟨⟩⟩)
 exact ct ⟨_,si h,rfl,rfl⟩ (tk [0,1] ⟨.s,.i,.p,.p,.i,⟨⟩⟩ ⟨(gg rfl),(gg rfl),⟨⟩⟩)
 exact .f (.f (.f (.f (.f (ct ⟨_,si h,rfl,rfl⟩ (tk [0,1] ⟨.s,.i,.p,.p,.i,⟨⟩⟩ ⟨(gg rfl),(gg rfl),⟨⟩⟩))))))
 rintro _ _ ⟨Sa,rfl,rfl,rfl⟩
 replace h:=M3
 refine .d (bk h λs41 RB h=>⟨qt RB,s41,qu RB,?_⟩)
 obtain ⟨⟨KS,D0⟩,ajw,h⟩:=bd h
 refine cx (aE7 ajw) (.d (.d (jj h (λLg h=>?_) (λLg h=>?_))))
 refine .t (.t (.t (.d ⟨rfl,_,rfl,rfl,_,_,rfl,ao,?_⟩)))
 exact aKi
 refine .f (.f (sD h (λWW h=>?_) (λWW h=>?_)))
 refine .d ⟨rfl,_,rfl,rfl,_,_,rfl,ao,?_⟩
 exact aKi
 refine .d ⟨rfl,rfl,_,_,rfl,ao,(.d ⟨rfl,rfl,_,_,rfl,ao,(.d ⟨rfl,_,rfl,rfl,_,_,rfl,ao,?_⟩)⟩)⟩
 exact aKi
 refine .d (bk h λc48 YZ h=>⟨cf YZ,c48,cg YZ,(sE h (λUJ h=>?_) (λUJ h=>?_))⟩)
 refine .d ⟨rfl,rfl,_,_,rfl,ao,(.d ?_)⟩
 obtain ⟨⟨v51,qn⟩,SF,h⟩:=bd h
 refine cx (CI SF) ⟨rfl,rfl,_,_,rfl,ao,(.d (.d (sD h (λaFb h=>?_) (λaFb h=>?_))))⟩
 refine .d ⟨rfl,_,rfl,rfl,_,_,rfl,ao,?_⟩
 exact aKi
 refine .d ⟨rfl,_,rfl,rfl,_,_,rfl,ao,?_⟩
 exact aKi
 exact ct ⟨si h,rfl,rfl⟩ (tk [0,1] ⟨.s,.i,.p,.p,⟨⟩⟩ ⟨(gg rfl),(gg rfl),⟨⟩⟩)
 rintro _ _ ⟨rfl,rfl,rfl⟩
 replace h:=gd
 refine .d ⟨rfl,rfl,_,_,rfl,ao,(.d (bk h λv55 ahG h=>(cx (GS ahG) ⟨rfl,rfl,_,_,rfl,ao,(.d (.d ⟨rfl,rfl,_,rfl,(sE h (λaha h=>?_) (λaha h=>?_))⟩))⟩)))⟩
 refine .d ⟨rfl,_,rfl,rfl,_,_,rfl,ao,?_⟩
 obtain rfl:=si h
 exact ⟨rfl,_,rfl,(en [] ⟨rfl,rfl⟩ (.cP ⟨.aI ⟨.i,.i,.s,.i,⟨⟩⟩,.i,.i,⟨⟩⟩) ⟨⟩)⟩
 refine .d (.float [(0,true),(1,true),(2,true),(3,true),(4,true),(5,true),(6,false),(7,true),(8,true)] aKR ?_)
 refine ⟨rfl,_,rfl,rfl,rfl,_,rfl,rfl,_,_,rfl,ao,rfl,rfl,?_⟩
 obtain rfl:=si h
 exact ⟨rfl,_,rfl,(en [] ⟨rfl,rfl⟩ (.cP ⟨.aI ⟨.i,.i,.s,.i,⟨⟩⟩,.i,.i,⟨⟩⟩) ⟨⟩)⟩
def kS (a0:aB) (sw:Int):Option (Int):=
 (if sw<(a0.length:Int) then
 hP a0 sw [60,63]>>=λv21=>
 (if v21=true then
 some sw
 else
 kS a0 (bq (sw+1)))
 else
 some sw)
partial_fixpoint
def kU (a0:aB) (b7:Bool) (l6:List af) (Hl:Int):Option (((List af)×Bool×Int) ⊕ (((List af)) ⊕ ((List af)×Int×Int))):=
 (if Hl<(a0.length:Int) then
 gx a0 Hl>>=λc59=>
 (if (c59.toNat:Int)=10 then
 some (.inl (l6,b7,Hl))
 else
 hP a0 Hl [63,62]>>=λv62=>
 (if v62=true then
 some (.inl (l6,b7,Hl))
 else
 kU a0 b7 l6 (bq (Hl+1))))
 else
 some (.inl (l6,b7,Hl)))
partial_fixpoint
def bJ (a0:aB) (l6:List af) (b7:Bool) (y8:Int):Option (((List af)) ⊕ ((List af)×Int×Int)):=
 (if y8<(a0.length:Int) then
 (if b7=true then
 hP a0 y8 [63,62]>>=λv41=>
 (if v41=true then
 db 40 l6 ([(af.mk 6 0 [59] y8)]:List af)>>=λM1=>
 hP a0 (bq (y8+2)) [10]>>=λv46=>
 (if v46=true then
 bJ a0 M1 false (bq ((bq (y8+2))+1))
 else
 bJ a0 M1 false (bq (y8+2)))
 else
 hP a0 y8 [47,47]>>=λv49=>
 (if v49=true then
 ((
 kU a0 b7 l6 y8
 :Option (((List af)×Bool×Int) ⊕ (((List af)) ⊕ ((List af)×Int×Int))))>>=λo52=>match o52 with
 | .inr r=>some r
 | .inl (l6,b7,y8)=>bJ a0 l6 b7 y8)
 else
 (
 gx a0 y8>>=λc71=>
 (if (c71.toNat:Int)=32 then
 some true
 else
 gx a0 y8>>=λc74=>
 (if (c74.toNat:Int)=9 then
 some true
 else
 gx a0 y8>>=λc77=>
 (if (c77.toNat:Int)=10 then
 some true
 else
 gx a0 y8>>=λc80=>
 some ((c80.toNat:Int)==13))))
 :Option (Bool))>>=λb67=>
 (if b67=true then
 bJ a0 l6 b7 (bq (y8+1))
 else
 jT a0 y8>>=λ(v83,O9,v85)=>
 (if v85=0 then
 db 40 l6 ([v83]:List af)>>=λl88=>
 bJ a0 l88 b7 O9
 else
 some (.inr (([]:List af),v85,y8))))))
 else
 (
 kS a0 y8
 :Option (Int))>>=λAM=>
 (
 (if AM>y8 then
 sB a0 y8 AM>>=λs31=>
 db 40 l6 ([(af.mk 1 0 s31 y8)]:List af)>>=λl33=>
 some l33
 else
 some l6)
 :Option ((List af)))>>=λK1=>
 (if AM<(a0.length:Int) then
 hP a0 AM [60,63,61]>>=λv36=>
 (if v36=true then
 db 40 K1 ([(af.mk 3 0 [101,99,104,111] AM)]:List af)>>=λl39=>
 bJ a0 l39 (decide (AM<(a0.length:Int))) (bq (AM+3))
 else
 bJ a0 K1 (decide (AM<(a0.length:Int))) (bq (AM+2)))
 else
 bJ a0 K1 (decide (AM<(a0.length:Int))) (bq (AM+2))))
 else
 some (.inl l6))
partial_fixpoint
def x7 (a0:aB):Option ((List af)×Int×Int):=
 (if (a0.length:Int)>4000 then
 some (([]:List af),1,0)
 else
 ((
 bJ a0 ([]:List af) false 0
 :Option (((List af)) ⊕ ((List af)×Int×Int)))>>=λo3=>match o3 with
 | .inr r=>some r
 | .inl l2=>
 some (l2,0,0)
 ))
theorem YU {a0:aB} {r:(List af)×Int×Int} (h:x7 a0=some r):ACall Tryz.prog 50 [.str a0] [] (λres h=>res=.fv [sl 4 af.cells r.1,.int .i64 r.2.1,.int .i64 r.2.2]/\h=[]):=by
 refine eT Tryz.func50 ?_
 unfold x7 at h
 refine .d (.d ⟨row af.cells ([]:List af),dX af.cells ([]:List af) rfl (dA rfl),(.d (.d (sD h (λlA h=>?_) (λlA h=>?_))))⟩)
 refine .d ?_
 obtain rfl:=si h
 exact en [] ⟨rfl,rfl⟩ (.cP ⟨(.rx rfl),.i,.i,⟨⟩⟩) ⟨⟩
 refine .d (.d ?_)
 obtain ⟨o3,h,hk5⟩:=bd h
 refine .cut (λσ η=>∃l2,.inl l2=o3/\σ=[(5,.own 0 0 0 l2.length)]/\η=[.row 0 4 l2.length 101 (row af.cells l2)]) ?_ ?_
 refine le (bJ.partial_correctness a0 (motive:=λl6 b7 y8 o90=>o3=o90->aQ _ _ [(0,.str a0),(5,.own 0 0 0 l6.length),(6,.bool b7),(7,.int .i64 y8)] [.row 0 4 l6.length 101 (row af.cells l6)]) ?_ ([]:List af) false 0 o3 h rfl) (tk [0] ⟨.s,.o,.b,.i,⟨⟩⟩ ⟨nw,⟨⟩⟩)
 intro F10 ih9 l6 b7 y8 o90 h aj0
 subst aj0
 refine aQ.round (.d (.d (sD h (λrC h=>?_) (λrC h=>?_))))
 refine .d (jj h (λrF h=>?_) (λrF h=>?_))
 refine .d ?_
 obtain ⟨o14,h,YV⟩:=bd h
 refine .cut (λσ η=>∃AM,AM=o14/\σ=[(0,.str a0),(5,.own 0 0 0 l6.length),(7,.int .i64 y8),(8,.int .i64 AM)]/\η=[.row 0 4 l6.length 101 (row af.cells l6)]) ?_ ?_
 refine le (kS.partial_correctness a0 (motive:=λsw o24=>o14=o24->aQ _ _ [(0,.str a0),(5,.own 0 0 0 l6.length),(7,.int .i64 y8),(8,.int .i64 sw)] [.row 0 4 l6.length 101 (row af.cells l6)]) ?_ y8 o14 h rfl) (tk [0] ⟨.s,.o,.i,.i,⟨⟩⟩ ⟨nw,⟨⟩⟩)
 intro F19 aFc sw o24 h ahO
 subst ahO
 refine aQ.round (.d (.d (sD h (λAj h=>?_) (λAj h=>?_))))
 refine .t (.t (bk h λv21 Vb h=>(cx (kx Vb) (.t (.t (jj h (λAk h=>?_) (λAk h=>?_)))))))
 exact lg (aFc _ _ h rfl) (tk [0] ⟨.s,.o,.i,.i,⟨⟩⟩ ⟨nw,⟨⟩⟩)
 exact ct ⟨_,si h,rfl,rfl⟩ (tk [0] ⟨.s,.o,.i,.i,⟨⟩⟩ ⟨nw,⟨⟩⟩)
 exact .f (.f (.f (.f (.f (ct ⟨_,si h,rfl,rfl⟩ (tk [0] ⟨.s,.o,.i,.i,⟨⟩⟩ ⟨nw,⟨⟩⟩))))))
 rintro _ _ ⟨AM,rfl,rfl,rfl⟩
 replace h:=YV
 obtain ⟨Se,h,M3⟩:=bd h
 refine .cut (λσ η=>∃K1,K1=Se/\σ=[(0,.str a0),(5,.own 0 0 0 K1.length),(8,.int .i64 AM)]/\η=[.row 0 4 K1.length 101 (row af.cells K1)]) ?_ ?_
 refine .d (sD h (λSB h=>?_) (λSB h=>?_))
 exact bk h λs31 Zk h=>⟨qt Zk,s31,qu Zk,row af.cells ([(af.mk 1 0 s31 y8)]:List af),dX af.cells ([(af.mk 1 0 s31 y8)]:List af) rfl (dA rfl),(bk h λl33 Ng h=>(.fx ⟨rfl,rfl,mf (l:=([(af.mk 1 0 s31 y8)]:List af)) bb,iY Ng,l33.length,row af.cells l33,gN Ng,iu Ng bb (jP bb),(ct ⟨_,si h,rfl,rfl⟩ (tk [0] ⟨.s,.o,.i,⟨⟩⟩ ⟨nw,⟨⟩⟩))⟩))⟩
 exact ct ⟨_,si h,rfl,rfl⟩ (tk [0] ⟨.s,.o,.i,⟨⟩⟩ ⟨nw,⟨⟩⟩)
 rintro _ _ ⟨K1,rfl,rfl,rfl⟩
 replace h:=M3
 refine .d (.d (.d (sD h (λSD h=>?_) (λSD h=>?_))))
 refine .t (.t (bk h λv36 alg h=>(cx (kx alg) (.t (sV h (λLf h=>?_) (λLf h=>?_))))))
 exact .d ⟨row af.cells ([(af.mk 3 0 [101,99,104,111] AM)]:List af),dX af.cells ([(af.mk 3 0 [101,99,104,111] AM)]:List af) rfl (dA rfl),(bk h λl39 RA h=>(.fx ⟨rfl,rfl,mf (l:=([(af.mk 3 0 [101,99,104,111] AM)]:List af)) bb,iY RA,l39.length,row af.cells l39,gN RA,iu RA bb (jP bb),(lg (ih9 _ _ _ _ h rfl) (tk [0] ⟨.s,.o,.b,.i,⟨⟩⟩ ⟨nw,⟨⟩⟩))⟩))⟩
 exact aKx
 exact .f (.f (.f (.f (lg (ih9 _ _ _ _ h rfl) (tk [0] ⟨.s,.o,.b,.i,⟨⟩⟩ ⟨nw,⟨⟩⟩)))))
 refine .d (bk h λv41 aFd h=>(cx (kx aFd) (sV h (λaFe h=>?_) (λaFe h=>?_))))
 refine .d ⟨row af.cells ([(af.mk 6 0 [59] y8)]:List af),dX af.cells ([(af.mk 6 0 [59] y8)]:List af) rfl (dA rfl),(bk h λM1 xb h=>(.fx ⟨rfl,rfl,mf (l:=([(af.mk 6 0 [59] y8)]:List af)) bb,iY xb,M1.length,row af.cells M1,gN xb,iu xb bb (jP bb),(.d (.d (.d (bk h λv46 aFf h=>(cx (kx aFf) (sV h (λaFg h=>?_) (λaFg h=>?_)))))))⟩))⟩
 exact aKx
 exact aKx
 refine .d (bk h λv49 SE h=>(cx (kx SE) (sV h (λFM h=>?_) (λFM h=>?_))))
 obtain ⟨o52,h,alh⟩:=bd h
 refine le (kU.partial_correctness a0 b7 l6 (motive:=λHl o65=>o52=o65->aQ _ _ [(0,.str a0),(5,.own 0 0 0 l6.length),(6,.bool b7),(7,.int .i64 Hl)] [.row 0 4 l6.length 101 (row af.cells l6)]) ?_ y8 o52 h rfl) (tk [0] ⟨.s,.o,.b,.i,⟨⟩⟩ ⟨nw,⟨⟩⟩)
 intro F57 aFh Hl o65 h aij
 subst aij
 refine aQ.round (.d (.d (sD h (λTl h=>?_) (λTl h=>?_))))
 refine .t (.t (bk h λc59 Y0 h=>⟨cf Y0,c59,cg Y0,(.t (.t (sN h (λTm h=>?_) (λTm h=>?_))))⟩))
 refine .t (.t (bk h λv62 aFi h=>(cx (kx aFi) (.t (.t (jj h (λahH h=>?_) (λahH h=>?_)))))))
 exact lg (aFh _ _ h rfl) (tk [0] ⟨.s,.o,.b,.i,⟨⟩⟩ ⟨nw,⟨⟩⟩)
 exact aJQ
 refine .f (.f (.f (.f (.f ?_))))
 exact aJQ
 refine .f (.f (.f (.f (.f (.f (.f (.f (.f (.f ?_)))))))))
 exact aJQ
 obtain ⟨o68,h,aFj⟩:=bd h
 refine .cut (λσ η=>∃b67,b67=o68/\σ=[(0,.str a0),(5,.own 0 0 0 l6.length),(6,.bool b7),(7,.int .i64 y8),(123,.bool b67)]/\η=[.row 0 4 l6.length 101 (row af.cells l6)]) ?_ ?_
 refine bk h λc71 aAt h=>⟨cf aAt,c71,cg aAt,(sE h (λSI h=>?_) (λSI h=>?_))⟩
 exact .t (.t (.t (.t (.t (.t (.t (.t (.t (.t (.t (.t (.t (.t (ct ⟨_,si h,rfl,rfl⟩ (tk [0] ⟨.s,.o,.b,.i,.b,⟨⟩⟩ ⟨nw,⟨⟩⟩)))))))))))))))
 refine .f (.f (bk h λc74 aAu h=>⟨cf aAu,c74,cg aAu,(.f (.f (sE h (λahg h=>?_) (λahg h=>?_))))⟩))
 exact .t (.t (.t (.t (.t (.t (.t (.t (.t (ct ⟨_,si h,rfl,rfl⟩ (tk [0] ⟨.s,.o,.b,.i,.b,⟨⟩⟩ ⟨nw,⟨⟩⟩))))))))))
 refine .f (.f (bk h λc77 aAv h=>⟨cf aAv,c77,cg aAv,(.f (.f (sE h (λTp h=>?_) (λTp h=>?_))))⟩))
 exact .t (.t (.t (.t (ct ⟨_,si h,rfl,rfl⟩ (tk [0] ⟨.s,.o,.b,.i,.b,⟨⟩⟩ ⟨nw,⟨⟩⟩)))))
 exact .f (.f (bk h λc80 UK h=>⟨cf UK,c80,cg UK,(.f (.f (ct ⟨_,si h,rfl,rfl⟩ (tk [0] ⟨.s,.o,.b,.i,.b,⟨⟩⟩ ⟨nw,⟨⟩⟩))))⟩))
 rintro _ _ ⟨b67,rfl,rfl,rfl⟩
 replace h:=aFj
 refine sV h (λaFk h=>?_) (λaFk h=>?_)
 exact aKx
 refine .d ?_
 obtain ⟨⟨v83,O9,v85⟩,Lz,h⟩:=bd h
 refine cx (Ej Lz) ⟨rfl,_,_,rfl,ao,(.d (.d (sN h (λTr h=>?_) (λTr h=>?_))))⟩
 refine .d ⟨row af.cells ([]:List af),dX af.cells ([]:List af) rfl (dA rfl),?_⟩
 obtain rfl:=si h
 replace h:=hk5
 obtain rfl:=si h
 exact en [] ⟨rfl,rfl⟩ (.cP ⟨(.rx rfl),.i,.i,⟨⟩⟩) ⟨⟩
 exact .d ⟨rfl,_,rfl,row af.cells ([v83]:List af),dX af.cells ([v83]:List af) rfl (dA rfl),(bk h λl88 ali h=>(.fx ⟨rfl,rfl,mf (l:=([v83]:List af)) bb,iY ali,l88.length,row af.cells l88,gN ali,iu ali bb (jP bb),(lg (ih9 _ _ _ _ h rfl) (tk [0] ⟨.s,.o,.b,.i,⟨⟩⟩ ⟨nw,⟨⟩⟩))⟩))⟩
 exact ct ⟨_,si h,rfl,rfl⟩ (tk [0] ⟨.o,⟨⟩⟩ ⟨nw,⟨⟩⟩)
 rintro _ _ ⟨l2,rfl,rfl,rfl⟩
 replace h:=hk5
 refine .d ?_
 obtain rfl:=si h
 exact en [] ⟨rfl,rfl⟩ (.cP ⟨.r,.i,.i,⟨⟩⟩) ⟨⟩
set_option synthInstance.maxHeartbeats 400000
set_option synthInstance.maxSize 4000
set_option maxRecDepth 100000
def mw (a0:aB) (y4:Int):Option ((Unit) ⊕ Int):=
 (if y4<=15 then
 iI y4>>=λv8=>
 (if v8=a0 then
 some (.inr y4)
 else
 mw a0 (bq (y4+1)))
 else
 some (.inl ()))
partial_fixpoint
def j4 (a0:aB):Option (Int):=
 ((
 mw a0 1
 :Option ((Unit) ⊕ Int))>>=λo1=>match o1 with
 | .inr r=>some r
 | .inl _=>
 some 0
 )
theorem Q8 {a0:aB} {r:Int} (h:j4 a0=some r):ak4 216 a0 r:=by
 refine eT Tryz.func216 ?_
 unfold j4 at h
 refine .d ?_
 obtain ⟨o1,h,gd⟩:=bd h
 refine .cut (λσ η=>.inl ()=o1/\σ=[]/\η=[]) ?_ ?_
 refine .d ?_
 refine le (mw.partial_correctness a0 (motive:=λy4 o11=>o1=o11->aQ _ _ [(0,.str a0),(3,.int .i64 y4)] []) ?_ 1 o1 h rfl) (tk [] ⟨.s,.i,⟨⟩⟩ ⟨⟩)
 intro F6 Sr y4 o11 h Y6
 subst Y6
 refine aQ.round (.d (.d (sD h (λzL h=>?_) (λzL h=>?_))))
 refine .d (.d (bk h λv8 hv9 h=>(cx (DG hv9) (sE h (λlH h=>?_) (λlH h=>?_)))))
 refine .d ?_
 obtain rfl:=si h
 replace h:=gd
 exact eI h
 exact aKI
 exact aKn
 rintro _ _ ⟨rfl,rfl,rfl⟩
 replace h:=gd
 exact aKv
def dh (a0:aA):Option (ae×aA):=
 (if a0.ay<0 then
 (if a0.fI<(a0.fT.length:Int) then
 idx a0.fT a0.fI>>=λx3=>
 some ((ae.mk 0 0 [] []),(aA.mk a0.fT (a0.fT.length:Int) a0.az x3.bM))
 else
 some ((ae.mk 0 0 [] []),(aA.mk a0.fT (a0.fT.length:Int) a0.az a0.az)))
 else
 some ((ae.mk 0 0 [] []),(aA.mk a0.fT (a0.fT.length:Int) a0.az a0.ay)))
theorem fh {a0:aA} {r:ae×aA} {g1000:Nat} (h:dh a0=some r):KY 105 a0 r g1000:=by
 refine eT Tryz.func105 ?_
 unfold dh at h
 refine .d (.d (.d ⟨rfl,rfl,rfl,_,rfl,(sD h (λlA h=>?_) (λlA h=>?_))⟩))
 refine .d ⟨rfl,rfl,rfl,_,rfl,rfl,rfl,rfl,_,_,rfl,ao,(.d ⟨rfl,rfl,rfl,_,rfl,rfl,rfl,rfl,_,rfl,(sD h (λsC h=>?_) (λsC h=>?_))⟩)⟩
 refine .float [(0,true),(1,true),(2,true),(3,true),(4,true),(5,true),(6,true),(7,true),(8,true),(9,true),(10,true),(11,true),(12,true),(13,true),(14,false)] aKR ?_
 refine ⟨rfl,rfl,rfl,_,rfl,rfl,rfl,rfl,_,rfl,(bk h λx3 hx4 h=>⟨bn hx4,_,(ba hx4).trans (af.aO x3),rfl,rfl,rfl,_,_,rfl,ao,(.d ⟨rfl,rfl,rfl,_,rfl,?_⟩)⟩)⟩
 refine ⟨rfl,rfl,rfl,_,_,rfl,ao,(.d ⟨rfl,_,_,rfl,ao,?_⟩)⟩
 exact aJY
 refine .d ⟨rfl,rfl,rfl,_,rfl,rfl,rfl,rfl,_,_,rfl,ao,(.d ⟨rfl,_,_,rfl,ao,?_⟩)⟩
 exact aJY
 refine .d ⟨rfl,rfl,rfl,_,rfl,rfl,rfl,rfl,_,_,rfl,ao,(.d ⟨rfl,_,_,rfl,ao,?_⟩)⟩
 exact aJY
def bE (a0:aA) (a1:Int) (a2:Int) (a3:aB):Option (Bool×aA):=
 (if (bq (a0.fI+a1))<(a0.fT.length:Int) then
 idx a0.fT (bq (a0.fI+a1))>>=λx2=>
 (if x2.aj=a2 then
 (if a3=([]:aB) then
 some (true,a0)
 else
 idx a0.fT (bq (a0.fI+a1))>>=λx6=>
 some ((x6.aq==a3),a0))
 else
 some (false,a0))
 else
 some (false,a0))
theorem eM {a0:aA} {a1:Int} {a2:Int} {a3:aB} {r:Bool×aA} {g1000:Nat} (h:bE a0 a1 a2 a3=some r):ACall Tryz.prog 103 [.aC 0 g1000 0 0,.int .i64 a1,.int .i64 a2,.str a3] [.row g1000 4 1 62 (λ_=>a0.lit)] (λres h=>res=.bool r.1/\h=[.row g1000 4 1 62 (λ_=>r.2.lit)]):=by
 refine eT Tryz.func103 ?_
 unfold bE at h
 refine .d (.d ⟨rfl,rfl,rfl,_,rfl,rfl,rfl,rfl,_,rfl,(sD h (λlA h=>?_) (λlA h=>?_))⟩)
 refine .t ⟨rfl,(.t ⟨rfl,(.t ⟨rfl,_,rfl,(.t (.t ⟨rfl,(.t ⟨rfl,(.t ⟨rfl,_,rfl,(.t (.t ?_))⟩)⟩)⟩))⟩)⟩)⟩
 refine .t (bk h λx2 hx3 h=>⟨bn hx3,_,(ba hx3).trans (af.aO x2),(.t (.t (.t (.t (.t (sE h (λwh h=>?_) (λwh h=>?_)))))))⟩)
 refine .t (.t (sE h (λEu h=>?_) (λEu h=>?_)))
 refine .t (.t (.t (.t (.t (.t (.t (.t (.t (.t (.t (.t (.t (.t (.t ?_))))))))))))))
 refine .t (.t ?_)
 exact aJZ
 refine .f ⟨rfl,(.f ⟨rfl,(.f ⟨rfl,_,rfl,(.f (.f ⟨rfl,(.f ⟨rfl,(.f ⟨rfl,_,rfl,(.f (.f ?_))⟩)⟩)⟩))⟩)⟩)⟩
 refine .f (bk h λx6 hx7 h=>⟨bn hx7,_,(ba hx7).trans (af.aO x6),(.f (.f (.f (.f (.t (.f (.t ?_)))))))⟩)
 exact aJZ
 refine .f (.f (.f (.f ?_)))
 exact aJZ
 refine .f (.f (.f (.f (.f (.f (.f (.f (.f (.f (.f (.f (.f (.f (.f ?_))))))))))))))
 refine .f (.f (.f (.f (.f ?_))))
 exact aJZ
def aE (a0:aA) (a1:aB):Option (Bool×aA):=
 bE a0 0 6 a1>>=λ(v1,v2)=>
 (if v1=true then
 some (true,(aA.mk v2.fT (bq (v2.fI+1)) v2.az v2.ay))
 else
 bE v2 0 3 a1>>=λ(v5,v6)=>
 (if v5=true then
 some (true,(aA.mk v6.fT (bq (v6.fI+1)) v6.az v6.ay))
 else
 some (false,v6)))
theorem aV {a0:aA} {a1:aB} {r:Bool×aA} {g1000:Nat} (h:aE a0 a1=some r):ACall Tryz.prog 115 [.aC 0 g1000 0 0,.str a1] [.row g1000 4 1 62 (λ_=>a0.lit)] (λres h=>res=.bool r.1/\h=[.row g1000 4 1 62 (λ_=>r.2.lit)]):=by
 refine eT Tryz.func115 ?_
 unfold aE at h
 refine .d (.d (.d ?_))
 obtain ⟨⟨v1,v2⟩,uC,h⟩:=bd h
 refine cb (eM (g1000:=g1000) uC) [0] ?_
 refine sV h (λwh h=>?_) (λwh h=>?_)
 refine .t (.t (.t (.t (.d ⟨rfl,rfl,rfl,_,rfl,rfl,rfl,rfl,_,_,rfl,ao,(.d ?_)⟩))))
 exact aJZ
 refine .f (.f ?_)
 obtain ⟨⟨v5,v6⟩,hv7,h⟩:=bd h
 refine cb (eM (g1000:=g1000) hv7) [0] ?_
 refine .f (sV h (λKR h=>?_) (λKR h=>?_))
 refine .d ⟨rfl,rfl,rfl,_,rfl,rfl,rfl,rfl,_,_,rfl,ao,(.d ?_)⟩
 exact aJZ
 refine .d ?_
 exact aJZ
def aR (a0:aA) (a1:aB):Option (aA):=
 aE a0 a1>>=λ(v1,v2)=>
 (if v1=true then
 some v2
 else
 dh v2>>=λ(v5,v6)=>
 some v6)
theorem bh {a0:aA} {a1:aB} {r:aA} {g1000:Nat} (h:aR a0 a1=some r):ACall Tryz.prog 167 [.aC 0 g1000 0 0,.str a1] [.row g1000 4 1 62 (λ_=>a0.lit)] (λres h=>res=.fv []/\h=[.row g1000 4 1 62 (λ_=>r.lit)]):=by
 refine eT Tryz.func167 ?_
 unfold aR at h
 refine .d ?_
 obtain ⟨⟨v1,v2⟩,uC,h⟩:=bd h
 refine cb (aV (g1000:=g1000) uC) [0] ?_
 refine jj h (λwh h=>?_) (λwh h=>?_)
 obtain ⟨⟨v5,v6⟩,hv7,h⟩:=bd h
 refine bz (fh (g1000:=g1000) hv7) [0] λf8 d9=>?_
 obtain rfl:=si h
 exact en [0] ⟨rfl,rfl⟩ (.cP ⟨⟩) ⟨(ob rfl ⟨.l,.i,.i,.i,⟨⟩⟩),⟨⟩⟩
 obtain rfl:=si h
 exact en [0] ⟨rfl,rfl⟩ (.cP ⟨⟩) ⟨(ob rfl ⟨.l,.i,.i,.i,⟨⟩⟩),⟨⟩⟩
def dw (a0:aA) (a1:Int):Option (aB×aA):=
 bE a0 0 a1 []>>=λ(v1,v2)=>
 (if v1=true then
 idx v2.fT v2.fI>>=λx10=>
 dI x10.aq>>=λv12=>
 (if v12=true then
 idx v2.fT (bq ((bq (v2.fI+1)) - 1))>>=λx20=>
 some (x20.aq,(aA.mk v2.fT (bq (v2.fI+1)) v2.az v2.ay))
 else
 dh v2>>=λ(Bk,yF)=>
 some ([],yF))
 else
 dh v2>>=λ(v5,v6)=>
 some ([],v6))
theorem iS {a0:aA} {a1:Int} {r:aB×aA} {g1000:Nat} (h:dw a0 a1=some r):ACall Tryz.prog 116 [.aC 0 g1000 0 0,.int .i64 a1] [.row g1000 4 1 62 (λ_=>a0.lit)] (λres h=>res=.str r.1/\h=[.row g1000 4 1 62 (λ_=>r.2.lit)]):=by
 refine eT Tryz.func116 ?_
 unfold dw at h
 refine .d (.d (.d (.float [(0,true),(1,true),(2,false),(3,true),(4,true),(5,true),(6,true),(7,true),(8,true),(9,true),(10,true),(11,true),(12,true),(13,true),(14,true),(15,true),(16,false),(17,true),(18,true)] aKR ?_)))
 obtain ⟨⟨v1,v2⟩,uC,h⟩:=bd h
 refine cb (eM (g1000:=g1000) uC) [0] ?_
 refine jj h (λwh h=>?_) (λwh h=>?_)
 refine .t (.t (.t (.t (.t (.t (.t (.t (.t (.t (.t (.t (.t (.t (.d ?_))))))))))))))
 obtain ⟨⟨v5,v6⟩,hv7,h⟩:=bd h
 refine bz (fh (g1000:=g1000) hv7) [0] λf8 d9=>?_
 refine .d ?_
 exact aKh
 refine .f ⟨rfl,(.f ⟨rfl,(.f ⟨rfl,_,rfl,(.f (.f ⟨rfl,(.f ⟨rfl,(.f ⟨rfl,_,rfl,(.f (bk h λx10 aAw h=>?_))⟩)⟩)⟩))⟩)⟩)⟩
 refine ⟨bn aAw,_,(ba aAw).trans (af.aO x10),(.f (.f (.f (bk h λv12 Qg h=>(cx (eY Qg) (.f (.f (jj h (λtV h=>?_) (λtV h=>?_)))))))))⟩
 refine .d ?_
 obtain ⟨⟨Bk,yF⟩,SA,h⟩:=bd h
 refine bz (fh (g1000:=g1000) SA) [0] λf18 d19=>?_
 refine .d ?_
 exact aKh
 refine .d ⟨rfl,rfl,rfl,_,rfl,rfl,rfl,rfl,_,_,rfl,ao,(.d ⟨rfl,rfl,rfl,_,rfl,rfl,rfl,rfl,_,rfl,(bk h λx20 JD h=>?_)⟩)⟩
 refine ⟨bn JD,_,(ba JD).trans (af.aO x20),?_⟩
 exact aKh
def gG (a0:aA):Option (ae×aA):=
 dw a0 2>>=λ(v1,v2)=>
 some ((ae.mk 4 0 v1 []),v2)
theorem mo {a0:aA} {r:ae×aA} {g1000:Nat} (h:gG a0=some r):KY 107 a0 r g1000:=by
 refine eT Tryz.func107 ?_
 unfold gG at h
 refine .d (.d ?_)
 obtain ⟨⟨v1,v2⟩,uC,h⟩:=bd h
 refine cb (iS (g1000:=g1000) uC) [0] ?_
 refine qX (bF _ _ _ _ rfl) ⟨rfl,_,_,rfl,ao,?_⟩
 exact aJY
end Go.Am
