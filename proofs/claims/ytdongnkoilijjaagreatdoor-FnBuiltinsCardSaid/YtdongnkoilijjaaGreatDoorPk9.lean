/- Texts of the proof, joined and shortened. -/
import Derived.Test.YtdongnkoilijjaaGreatDoorPk8
set_option linter.unusedVariables false
set_option linter.unusedSimpArgs false
set_option maxRecDepth 20000
namespace Go.Am
open Go Go.RowKit Go.Proofs
def Cd (c:Int):Prop:=c=0\/c=1\/c=8\/c=9\/c=10
structure St (b b':aH):Prop where
 ar:b'.fArgs=b.fArgs
 ou:b'.cn=b.cn
 cd:Cd b.eX->Cd b'.eX
theorem St.vI (b:aH):St b b:=⟨rfl,rfl,id⟩
theorem St.trans {a b c:aH} (h:St a b) (g:St b c):St a c:=⟨g.ar.trans h.ar,g.ou.trans h.ou,λx=>g.cd (h.cd x)⟩
def Rz (v:ae):Prop:=Ov v\/∃s,v=.mk 3 0 s 0 []
theorem Rz.text (s:aB):Rz (.mk 3 0 s 0 []):=.inr ⟨s,rfl⟩
theorem um (k n:Int) (s:aB) (x:Int):(ae.mk k n s x []).kw=1:=by rw[ae.nK,ae.cQ,oh];split<;>rfl
theorem Km {n:Int} (h0: -1000000000<=n) (h1:n<=1000000000):Ov (.mk 2 n [] 0 []):=⟨by rw[lq];simp [h0,h1],by rw[um];decide⟩
theorem Rz.int {n:Int} (h0: -1000000000<=n) (h1:n<=1000000000):Rz (.mk 2 n [] 0 []):=.inl (Km h0 h1)
theorem Bb:Ov (.mk 0 0 [] 0 []):=⟨by rw[lq];simp,by rw[um];decide⟩
theorem Rz.null:Rz (.mk 0 0 [] 0 []):=.inl Bb
theorem jY (b:Bool):∃v,cc b=some v/\Rz v:=by
 unfold cc;cases b
 ·exact⟨_,rfl,.inl ⟨by rw[lq];simp,by rw[um];decide⟩⟩
 ·exact⟨_,rfl,.inl ⟨by rw[lq];simp,by rw[um];decide⟩⟩
theorem mB (b:aH) {c:Int} (hc:Cd c):∃b',bN b c=some b'/\St b b':=by
 unfold bN;by_cases h:b.eX=0
 ·rw[An h];exact⟨_,rfl,rfl,rfl,λ_=>hc⟩
 ·rw[so h];exact⟨_,rfl,St.vI b⟩
theorem cd1:Cd 1:=.inr (.inl rfl)
theorem U7:Cd 8:=.inr (.inr (.inl rfl))
theorem cd9:Cd 9:=.inr (.inr (.inr (.inl rfl)))
theorem U8:Cd 10:=.inr (.inr (.inr (.inr rfl)))
theorem Cw {p:aB} (hp:p.length<=400):∀l:List aB,(∀s∈l,s.length<=400)->(Lib.joinTail p l).length<=800*l.length
 | [],_=>by simp [Lib.joinTail]
 | s::r,h=>by
  have:=Cw hp r (λx a=>h x (abz _ a));have:=h s (acF ..);unfold Lib.joinTail at*;simp only[abF,List.flatten_cons,abt,abp];omega
theorem join_some {p:aB} (hp:p.length<=400) {l:List aB} (a:l.length<=2000000) (h:∀s∈l,s.length<=400):∃t,AQ l p=some t:=by
 unfold AQ;refine⟨_,An ⟨by omega,?_⟩⟩;cases l with
 | nil=>simp [Lib.join_nil]
 | cons s r=>
  rw[Lib.join_cons,abt];have:=Cw (p:=p) hp r (λx b=>h x (abz _ b));have:=h s (acF ..);rw[abp]at a;omega
section
variable {b:aH}(hv:∀v∈b.fArgs,Ov v)
theorem St.args {b':aH} (h:St b b') (hv:∀v∈b.fArgs,Ov v):∀v∈b'.fArgs,Ov v:=by rw[h.ar];exact hv
include hv
theorem ra (i:Nat) (hi:i<b.fArgs.length):∃s b',aK b (i:Int)=some (s,b')/\s.length<=400/\St b b':=by
 obtain⟨s,c,e,hs,hc⟩:=FP (hv _ (abu hi)).ok;unfold aK;rw[a7 hi,sb,e,sb];dsimp only;rcases hc with rfl | rfl
 ·rw[An rfl];exact⟨_,_,rfl,hs,St.vI b⟩
 ·obtain⟨b',e2,h2⟩:=mB b cd1;rw[so aeQ,e2,sb];exact⟨_,_,rfl,hs,h2⟩
theorem Cx (i:Nat) (hi:i<b.fArgs.length):∃n,aV b (i:Int)=some n/\ -1000000000<=n/\n<=1000000000:=by
 obtain⟨n,e,h⟩:=QT (hv _ (abu hi)).ok;unfold aV;rw[a7 hi,sb,e,sb];exact⟨n,rfl,h⟩
theorem uo (i:Nat) (hi:i<b.fArgs.length):∃v b',a8 b (i:Int)=some (v,b')/\Ov v/\St b b':=by
 unfold a8;rw[a7 hi,sb];split
 ·rw[sb];exact⟨_,_,rfl,hv _ (abu hi),St.vI b⟩
 ·obtain⟨b',e2,h2⟩:=mB b U7;have a:i<b'.fArgs.length:=by rw[h2.ar];exact hi
  rw[e2,sb,a7 a,sb];exact⟨_,_,rfl,h2.args hv _ (abu a),h2⟩
theorem M1 (h:2<=b.fArgs.length):∃v b',fZ b=some (v,b')/\Rz v/\St b b':=by
 obtain⟨s,a,c,hs,h1⟩:=ra hv 0 aeP;replace c:aK b 0=_:=c;obtain⟨n,e2,n0,n1⟩:=Cx (h1.args hv) 1 (by rw[h1.ar];omega);replace e2:aV a 1=_:=e2;unfold fZ;rw[c,sb];dsimp only;rw[e2,sb];by_cases q1:n<0
 ·obtain⟨f,d,e⟩:=mB a U7;rw[An q1,d,sb];exact⟨_,_,rfl,Rz.null,h1.trans e⟩
 have hm:(s.length:Int)*n<=400*1000000000:=Int.mul_le_mul aeP n1 aeP aeP;have i:0<=(s.length:Int)*n:=Int.mul_nonneg aeP aeP;rw[so q1,aP,pO aeP aeP];by_cases q2:(s.length:Int)*n>400
 ·obtain⟨f,d,e⟩:=mB a cd9;rw[An q2,d,sb];exact⟨_,_,rfl,Rz.null,h1.trans e⟩
 rw[so q2];split
 ·exact⟨_,_,rfl,Rz.text _,h1⟩
 ·have g:sB s n=some (Lib.repeatL s n.toNat):=by
   unfold sB;refine An ⟨by omega,by omega,?_⟩;have:((s.length*n.toNat:Nat):Int)=(s.length:Int)*n:=by rw[Int.natCast_mul,Int.toNat_of_nonneg aeP]
   omega
  rw[g,sb];exact⟨_,_,rfl,Rz.text _,h1⟩
theorem Kn (G:2<=b.fArgs.length):∃v b',fq b=some (v,b')/\Rz v/\St b b':=by
 obtain⟨s,z,j,hs,h1⟩:=ra hv 0 aeP;replace j:aK b 0=_:=j;obtain⟨v,g,e2,o,h2⟩:=uo (h1.args hv) 1 (by rw[h1.ar];omega);replace e2:a8 z 1=_:=e2;have hw:=je (v:=v);have A:=o.wt
 have go:∀(f k:Nat) (c:aH) (l:List aB),v.aj.length<=k+f->k<=v.aj.length->St b c->l.length=k->(∀s∈l,s.length<=400)->
   ∃(a:aH) (h:List aB),bW v c.fArgs c.cn.bc c.cn.ak c.cn.ah c.eX l (k:Int)=some (a.fArgs,a.cn.bc,a.cn.ak,a.cn.ah,a.eX,h)/\St b a/\h.length<=200/\∀s∈h,s.length<=400:=by
  intro f;induction f with
  | zero=>
   intro k c l hf p hc i hs;rw[bW,so aeP];exact⟨c,l,rfl,hc,by omega,hs⟩
  | succ f m=>
   intro k c l hf p hc i hs;by_cases q:k<v.aj.length
   ·obtain⟨t,x,e,B,C⟩:=FP (o.item _ (abu q)).ok
    have r:∀s∈l++[t],s.length<=400:=λu hu=>by
     rcases aby.1 hu with hu | hu
     ·exact hs u hu
     ·rw[acb]at hu;subst hu;exact B
    have w:eE 16 l ([t]:List aB)=some (l++[t]):=ca aeT;rw[bW,An aeP,a7 q,sb,e,sb];dsimp only;rcases C with rfl | rfl
    ·rw[An rfl,w,sb,bJ aeP];exact m (k+1) c _ aeP aeP hc (by simp [i]) r
    ·obtain⟨y,d,n⟩:=mB c cd1;replace d:bN (aH.mk c.fArgs (av.mk c.cn.bc c.cn.ak c.cn.ah) c.eX) 1=some y:=d;rw[so aeQ,d,sb,w,sb,bJ aeP];exact m (k+1) y _ aeP aeP (hc.trans n) (by simp [i]) r
   ·exact m k c l aeP p hc i hs
 obtain⟨a,h,d,n,D,E⟩:=go v.aj.length 0 g [] aeP (abY _) (h1.trans h2) rfl aeR;replace d:bW v g.fArgs g.cn.bc g.cn.ak g.cn.ah g.eX [] 0=_:=d;obtain⟨t,F⟩:=join_some hs (show h.length<=2000000 by omega) E;unfold fq;rw[j,sb];dsimp only;rw[e2,sb];dsimp only;rw[d,sb];dsimp only;rw[F,sb];exact⟨_,_,rfl,Rz.text _,n⟩
end
theorem Er (b:aH) {n m:Int} (n0: -1000000000<=n) (n1:n<=1000000000) (r: -1000000000<=m) (s:m<=1000000000):∃v b',ft b n m=some (v,b')/\Rz v/\St b b':=by
 unfold ft;have i:aP (aP (m - n)+1)=m - n+1:=by rw[aP,aP,pO (x:=m - n) aeP aeP,pO aeP aeP]
 rw[i];by_cases q:m - n+1>199
 ·obtain⟨t,j,c⟩:=mB b cd9;rw[An q,j,sb];exact⟨_,_,rfl,Rz.null,c⟩
 rw[so q]
 have go:∀(f:Nat) (k:Int) (l:List ae),m+1 - k<=f->n<=k->k<=1000000001->l.length+f<=199->(∀v∈l,Ov v/\v.kw=1)->∃d,cp m l k=some d/\d.length<=199/\∀v∈d,Ov v/\v.kw=1:=by
  intro f;induction f with
  | zero=>intro k l h1 h2 c h4 a;rw[cp,so aeP];exact⟨l,rfl,by omega,a⟩
  | succ f o=>
   intro k l h1 h2 c h4 a;by_cases g:k<=m
   ·have e:aP (k+1)=k+1:=by rw[aP,pO aeP aeP]
    rw[cp,An g,ca aeT,sb,e];refine o (k+1) _ aeP aeP aeP afe λv hv=>?_;rcases aby.1 hv with hv | hv
    ·exact a v hv
    ·rw[acb]at hv;subst hv;exact⟨Km aeP aeP,um _ _ _ _⟩
   ·rw[cp,so g];exact⟨l,rfl,by omega,a⟩
 obtain⟨l,e2,p,hv⟩:=go (m+1 - n).toNat n [] aeP aeP aeP aeU aeR;rw[e2,sb,FW aeP (λv h=>by have:=(hv v h).1.wt;omega),sb];exact⟨_,_,rfl,.inl (FX (λv h=>(hv v h).1.ok) (by rw[xu l (λv h=>(hv v h).2)];exact p) aeP),St.vI b⟩
theorem Ko {s:aB} {n m:Int} (hs:s.length<=400) (n0: -1000000000<=n) (n1:n<=1000000000) (e: -1000000000<=m) (f:m<=1000000000):∃t,k7 s n m=some t:=by
 unfold k7
 have key:∀y:Int,0<=y->∃t,(if y>(s.length:Int)then some []else(if m<1 then some []else lz m (aP ((s.length:Int) - y))>>=λa=>pG s y (aP (y+a))>>=λc=>some c))=some t:=λy hy=>by
  by_cases q1:y>(s.length:Int)
  ·rw[An q1];exact⟨_,rfl⟩
  rw[so q1];by_cases q2:m<1
  ·rw[An q2];exact⟨_,rfl⟩
  have b:aP ((s.length:Int) - y)=(s.length:Int) - y:=by rw[aP,pO aeP aeP]
  have e2:∃p,lz m ((s.length:Int) - y)=some p/\0<=p/\p<=(s.length:Int) - y:=by
   unfold lz;split
   ·exact aeN
   ·exact aeN
  obtain⟨p,d,g,h⟩:=e2;rw[so q2,b,d,sb,aP,pO aeP aeP];unfold pG;rw[An ⟨by omega,by omega,by omega⟩];exact⟨_,rfl⟩
 by_cases q:n<0
 ·have b:aP ((s.length:Int)+n)=(s.length:Int)+n:=by rw[aP,pO aeP aeP]
  rw[An q,b,QI,sb,sb];exact key _ (by split<;>omega)
 ·rw[so q,sb];exact key _ aeP
theorem Es {v u:ae} (h:Ov v) (g:Ov u):∃c,iA v u=some c:=by
 have h1:=h.wt;have h2:=g.wt;obtain⟨c,e⟩:=Cl 2000000 (abn _) v aeP h.nb u aeP g.nb;unfold iA;rw[e,sb];exact⟨_,rfl⟩
theorem Kp {s:aB} (hs:s.length<=400):∃v b,fN s=some (v,b)/\(b=true->Ov v):=by
 obtain⟨v,b,e,hw,a⟩:=Hz (s:=s) aeP;refine⟨v,b,e,λh=>?_⟩;have e2:=a h;rw[ot hw]at e2;cases hc:(decide (v.kw<=200)&&v.pg)&&v.plain with
 | false=>rw[hc]at e2;simp at e2
 | true=>
  simp only[Is,abH]at hc;exact⟨hc.1.2,hc.1.1⟩
theorem HG (n:Int):∃s,jZ n=some s:=by
 unfold jZ
 repeat' (first | exact⟨_,rfl⟩ | split | rw[sb])
set_option maxRecDepth 20000
abbrev It:aB:=[104,101,97,100,101,114]
structure Dn (b:aH) (nm:aB) (r:ae×aH):Prop where
 rv:Rz r.1
 cd:Cd b.eX->Cd r.2.eX
 wo:WO r.2.cn
 ok:OK b.cn->OK r.2.cn
 hd:nm≠It->r.2.cn.ak.length=b.cn.ak.length
theorem Dn.st {b b':aH} {nm:aB} {v:ae} (hw:WO b.cn) (h:St b b') (hv:Rz v):Dn b nm (v,b'):=
 ⟨hv,h.cd,by show WO b'.cn;rw[h.ou];exact hw,by show _->OK b'.cn;rw[h.ou];exact id,λ_=>by show b'.cn.ak.length=_;rw[h.ou]⟩
theorem Dn.mk' {b b':aH} {nm:aB} {v:ae} {o:av} {c:Int} (h:St b b') (hv:Rz v) (hc:Cd b.eX->Cd c) (hw:WO o) (a:OK b.cn->OK o) (hh:nm≠It->o.ak=b.cn.ak) {al:List ae}:Dn b nm (v,⟨al,o,c⟩):=
 ⟨hv,hc,hw,a,λh=>by show o.ak.length=_;rw[hh h]⟩
theorem lst {l:List ae} (h:∀x∈l,x.pg=true) (b:uj l<=199):∃v,fp l=some v/\Rz v:=by
 have e:=sT l
 have c:∀x∈l,x.wt<=2000000:=λx a=>by
  rw[J3 _ x (abn _) (h x a)]
  have:∀l:List ae,x∈l->x.kw<=uj l:=by
   intro l;induction l with
   | nil=>intro h;cases h
   | cons y r d=>
    intro h;show x.kw<=y.kw+uj r;rcases abE.1 h with rfl | h
    ·omega
    ·have:=d h;omega
  have:=this l a;omega
 exact⟨_,FW aeP c,.inl (FX h b aeP)⟩
theorem zK (c:aH) (a:List aL) (b:a.length<=199):∀(f k:Nat) (l:List ae),a.length<=k+f->k<=a.length->l=(a.take k).map Ej->
  ee c a l (k:Int)=some (c.fArgs,c.cn.bc,c.cn.ak,c.cn.ah,c.eX,a.map Ej)
 | f,k,l,hf,d,he=>by
  rw[ee];by_cases hc:k<a.length
  ·obtain⟨g,rfl⟩:∃g,f=g+1:=⟨f - 1,by omega⟩;have e:l.length=k:=by rw[he,abT,ach];omega
   rw[An aeP,a7 hc,sb,J1,sb,ca aeT,sb,bJ aeP];exact zK c a b g (k+1) _ aeP aeP (by rw[he,<-aci hc,acu];rfl)
  ·obtain rfl:k=a.length:=by omega
   rw[so aeP,he,acI]
theorem Gd (c:aH) (hc:∀v∈c.fArgs,Ov v) (h0:0<c.fArgs.length) (vs:List ae) (a:∀v∈vs,Ov v) (d:vs.length<=199):∀(f k:Nat),vs.length<=k+f->k<=vs.length->
  cE vs c (k:Int)=some (.inl (c.fArgs,c.cn.bc,c.cn.ak,c.cn.ah,c.eX))\/∃v,cE vs c (k:Int)=some (.inr (.inr (v,c)))/\Rz v
 | f,k,hf,i=>by
  rw[cE];by_cases b:k<vs.length
  ·obtain⟨g,rfl⟩:∃g,f=g+1:=⟨f - 1,by omega⟩;have e:idx c.fArgs 0=some c.fArgs[0]:=a7 h0;obtain⟨x,h⟩:=Es (hc _ (abu h0)) (a _ (abu b));rw[An aeP,a7 b,sb,e,sb,h,sb];cases x
   ·rw[so aeR,bJ aeP];exact Gd c hc h0 vs a d g (k+1) aeP aeP
   ·obtain⟨v,e2,h2⟩:=jY true;rw[An rfl,e2,sb];exact .inr ⟨v,rfl,h2⟩
  ·rw[so aeP];exact .inl rfl
section
variable {b:aH}(hv:∀v∈b.fArgs,Ov v)(hw:WO b.cn)
include hv hw
theorem aad (nm:aB) (h2:nm=It->2<=b.fArgs.length) (h1:nm=[111,98,95,115,116,97,114,116]->1<=b.fArgs.length):∃r,gd b nm=some r/\Dn b nm r:=by
 unfold gd;by_cases q1:nm=It
 ·have h2:=h2 q1;obtain⟨s,x,i,hs,s1⟩:=ra hv 0 aeP;replace i:aK b 0=_:=i;obtain⟨t,u,e2,A,y⟩:=ra (s1.args hv) 1 afo;replace e2:aK x 1=_:=e2;have j:=s1.trans y;rw[An q1,i,sb];dsimp only;rw[e2,sb];dsimp only;by_cases q2:u.eX=0
  ·obtain⟨q,c,l,f,g⟩:=M0 (o:=u.cn) (by rw[j.ou];exact hw) (s:=s) (t:=t) aeP aeP;obtain⟨v,a,d⟩:=jY (c==0);rw[An q2,l,sb];dsimp only;rw[a,sb];exact⟨_,rfl,.mk' j d j.cd f (λh=>g (by rw[j.ou];exact h)) (λh=>absurd q1 h)⟩
  ·rw[so q2];exact⟨_,rfl,.st hw j Rz.null⟩
 rw[so q1];by_cases q2:nm=[111,98,95,115,116,97,114,116]
 ·have h1:=h1 q2;obtain⟨n,i,_⟩:=Cx hv 0 aeP;replace i:aV b 0=_:=i;obtain⟨q,k,e2,_,f,g,hh⟩:=start_eq hw n;obtain⟨v,a,d⟩:=jY k;rw[An q2,i,sb,e2,sb];dsimp only;rw[a,sb];exact⟨_,rfl,.mk' (St.vI b) d id f g (λ_=>hh)⟩
 rw[so q2];by_cases q3:nm=[111,98,95,103,101,116]
 ·have e:∃s k,iF b.cn=some (s,k):=by
   have B:=hw.bu;unfold iF;by_cases h0:b.cn.ah.length=0
   ·have l:aP ((b.cn.ah.length:Int) - 1)= -1:=by rw[aP,pO aeP aeP];omega
    rw[l,An aeQ];exact⟨_,_,rfl⟩
   ·have l:aP ((b.cn.ah.length:Int) - 1)=((b.cn.ah.length - 1:Nat):Int):=by rw[aP,pO aeP aeP];omega
    rw[l,so aeP,a7 aeP,sb];exact⟨_,_,rfl⟩
  obtain⟨s,k,e⟩:=e;rw[An q3,e,sb];dsimp only;cases k
  ·obtain⟨v,a,d⟩:=jY false;rw[so aeR,a,sb];exact⟨_,rfl,.st hw (St.vI b) d⟩
  ·rw[An rfl];exact⟨_,rfl,.st hw (St.vI b) (Rz.text _)⟩
 rw[so q3];by_cases q4:nm=[111,98,95,99,108,101,97,110]
 ·obtain⟨k,e⟩:=Kh hw;obtain⟨v,a,d⟩:=jY k;rw[An q4,e,sb];dsimp only;rw[a,sb];exact⟨_,rfl,.mk' (St.vI b) d id (FZ hw _) (λh=>Ga h _) (λ_=>rfl)⟩
 rw[so q4,(Ki hw).1,sb];have f:=Gb hw;have g:=λh=>MY (o:=b.cn) h;have hh:=MZ b.cn;generalize uk b.cn=p at f g hh;obtain⟨q,c⟩:=p;dsimp only at f g hh ⊢;obtain⟨v,a,d⟩:=jY (c==0);by_cases w:c=2
 ·obtain⟨b',z,m⟩:=mB (⟨b.fArgs,q,b.eX⟩:aH) U8;rw[An w,z,sb,a,sb];refine⟨_,rfl,d,m.cd,?_,?_,λ_=>?_⟩
  ·show WO b'.cn;rw[m.ou];exact f
  ·show _->OK b'.cn;rw[m.ou];exact g
  ·show b'.cn.ak.length=_;rw[m.ou];exact congrArg _ hh
 ·rw[so w,a,sb];exact⟨_,rfl,.mk' (St.vI b) d id f g (λ_=>hh)⟩
theorem Va (nm:aB) (N:cf nm=some (b.fArgs.length:Int)):∃r,hJ b nm=some r/\Dn b nm r:=by
 have ar:∀(l:aB) (n:Nat),nm=l->cf l=some (n:Int)->b.fArgs.length=n:=λl n e h=>by
  rw[e,h]at N;have:=abP N;omega
 unfold hJ;by_cases q1:nm=[115,116,114,108,101,110]
 ·have f:=ar _ 1 q1 aeY;obtain⟨s,d,a,hs,s1⟩:=ra hv 0 aeP;replace a:aK b 0=_:=a;rw[An q1,a,sb];exact⟨_,rfl,.st hw s1 (Rz.int aeP aeP)⟩
 rw[so q1];by_cases q2:nm=[117,112,112,101,114]
 ·have f:=ar _ 1 q2 aeY;obtain⟨s,d,a,hs,s1⟩:=ra hv 0 aeP;replace a:aK b 0=_:=a;have e2:mX s=some (s.map up):=An aeP;rw[An q2,a,sb];dsimp only;rw[e2,sb];exact aeL
 rw[so q2];by_cases q3:nm=[115,117,98,115,116,114]
 ·have f:=ar _ 3 q3 aeY;obtain⟨s,d,a,hs,s1⟩:=ra hv 0 aeP;replace a:aK b 0=_:=a;obtain⟨n,e2,n0,n1⟩:=Cx (s1.args hv) 1 afo;replace e2:aV d 1=_:=e2;obtain⟨m,c,q,u⟩:=Cx (s1.args hv) 2 afo;replace c:aV d 2=_:=c;obtain⟨t,j⟩:=Ko hs n0 n1 q u;rw[An q3,a,sb];dsimp only;rw[e2,sb,c,sb,j,sb];exact aeL
 rw[so q3];by_cases q4:nm=[114,101,112,101,97,116]
 ·have f:=ar _ 2 q4 aeY;obtain⟨v,d,a,h1,s1⟩:=M1 hv aeP;rw[An q4,a,sb];exact⟨_,rfl,.st hw s1 h1⟩
 rw[so q4];by_cases y:nm=[101,115,99,97,112,101]
 ·have f:=ar _ 2 y aeY;obtain⟨n,e2,n0,n1⟩:=Cx hv 0 aeP;replace e2:aV b 0=_:=e2;obtain⟨s,d,a,hs,s1⟩:=ra hv 1 aeP;replace a:aK b 1=_:=a;rw[An y,e2,sb,a,sb];dsimp only;rw[(J9 n s aeP).1,sb];exact aeL
 rw[so y];by_cases z:nm=[99,111,117,110,116]
 ·have f:=ar _ 1 z aeY;obtain⟨v,d,a,h1,s1⟩:=uo hv 0 aeP;replace a:a8 b 0=_:=a;have h2:=h1.wt;have O:=je (v:=v);rw[An z,a,sb];exact⟨_,rfl,.st hw s1 (Rz.int aeP aeP)⟩
 rw[so z];by_cases A:nm=[107,101,121,115]
 ·have f:=ar _ 1 A aeY;obtain⟨v,d,a,h1,s1⟩:=uo hv 0 aeP;replace a:a8 b 0=_:=a;have h2:=h1.wt;obtain⟨p,o⟩:=MO h1;have c:=zK d (keys v) o (keys v).length 0 [] aeP (abY _) rfl;replace c:ee d (keys v) [] 0=_:=c
  obtain⟨w,j,h4⟩:=lst (l:=(keys v).map Ej) (λx g=>by
   obtain⟨k,P,rfl⟩:=abN.1 g;exact(J2 (p k P)).1) (by
   rw[xu _ (λx g=>by
    obtain⟨k,P,rfl⟩:=abN.1 g;exact UZ k),abT];exact o)
  rw[An A,a,sb];dsimp only;rw[keys_eq (show v.wt<=2000000 by omega),sb,c,sb];dsimp only;rw[j,sb];exact⟨_,rfl,.st hw s1 h4⟩
 rw[so A];by_cases B:nm=[118,97,108,117,101,115]
 ·have f:=ar _ 1 B aeY;obtain⟨v,d,a,h1,s1⟩:=uo hv 0 aeP;replace a:a8 b 0=_:=a;have h2:=h1.wt;obtain⟨p,o⟩:=A6 h1;obtain⟨w,j,h4⟩:=lst p o;rw[An B,a,sb];dsimp only;rw[A4 (show v.wt<=2000000 by omega),sb,j,sb];exact⟨_,rfl,.st hw s1 h4⟩
 rw[so B];by_cases C:nm=[115,111,114,116]
 ·have f:=ar _ 1 C aeY;obtain⟨v,d,a,h1,s1⟩:=uo hv 0 aeP;replace a:a8 b 0=_:=a;have h2:=h1.wt;obtain⟨p,o⟩:=A6 h1;have Q:=sT (qL v)
  have D:∀x∈qL v,x.wt<=2000000/\Nb x:=λx g=>by
   unfold qL at g;split at g
   ·obtain⟨e,he,rfl⟩:=abN.1 g;have:=(h1.item e he).wt;exact⟨by omega,(h1.item e he).nb⟩
   ·cases g
  obtain⟨s,c,hp⟩:=MN (l:=qL v) aeP D;obtain⟨w,j,h4⟩:=lst (l:=s) (λx g=>p x (hp.mem_iff.1 g)) (by rw[HA hp];exact o);rw[An C,a,sb];dsimp only;rw[A4 (show v.wt<=2000000 by omega),sb,c,sb,j,sb];exact⟨_,rfl,.st hw s1 h4⟩
 rw[so C];by_cases E:nm=[105,110,95,97,114,114,97,121]
 ·have f:=ar _ 2 E aeY;obtain⟨v,d,a,h1,s1⟩:=uo hv 1 aeP;replace a:a8 b 1=_:=a;have h2:=h1.wt;obtain⟨p,o⟩:=A6 h1;have Q:=sT (qL v)
  have D:∀x∈qL v,Ov x:=λx g=>by
   unfold qL at g;split at g
   ·obtain⟨e,he,rfl⟩:=abN.1 g;exact h1.item e he
   ·cases g
  rw[An E,a,sb];dsimp only;rw[A4 (show v.wt<=2000000 by omega),sb];rcases Gd d (s1.args hv) afo (qL v) D aeP (qL v).length 0 aeP (abY _)with c | ⟨x,c,O⟩
  ·replace c:cE (qL v) d 0=_:=c;obtain⟨w,j,h4⟩:=jY false;rw[c,sb];dsimp only;rw[j,sb];exact⟨_,rfl,.st hw s1 h4⟩
  ·replace c:cE (qL v) d 0=_:=c;rw[c,sb];exact⟨_,rfl,.st hw s1 O⟩
 rw[so E];by_cases F:nm=[105,109,112,108,111,100,101]
 ·have f:=ar _ 2 F aeY;obtain⟨v,d,a,h1,s1⟩:=Kn hv aeP;rw[An F,a,sb];exact⟨_,rfl,.st hw s1 h1⟩
 rw[so F];by_cases G:nm=[114,97,110,103,101]
 ·have f:=ar _ 2 G aeY;obtain⟨n,e2,n0,n1⟩:=Cx hv 0 aeP;replace e2:aV b 0=_:=e2;obtain⟨m,c,q,u⟩:=Cx hv 1 aeP;replace c:aV b 1=_:=c;obtain⟨v,d,j,h4,R⟩:=Er b n0 n1 q u;rw[An G,e2,sb,c,sb,j,sb];exact⟨_,rfl,.st hw R h4⟩
 rw[so G];by_cases H:nm=[105,110,116,118,97,108]
 ·have f:=ar _ 1 H aeY;obtain⟨n,e2,n0,n1⟩:=Cx hv 0 aeP;replace e2:aV b 0=_:=e2;rw[An H,e2,sb];exact⟨_,rfl,.st hw (St.vI b) (Rz.int n0 n1)⟩
 rw[so H];by_cases I:nm=[115,116,114,118,97,108]
 ·have f:=ar _ 1 I aeY;obtain⟨s,d,a,hs,s1⟩:=ra hv 0 aeP;replace a:aK b 0=_:=a;rw[An I,a,sb];exact aeL
 rw[so I];by_cases J:nm=[107,105,110,100]
 ·have f:=ar _ 1 J aeY;have K:idx b.fArgs 0=some b.fArgs[0]:=a7 (i:=0) aeP;obtain⟨s,a⟩:=HG (b.fArgs[0]).aD;rw[An J,K,sb,a,sb];exact⟨_,rfl,.st hw (St.vI b) (Rz.text _)⟩
 rw[so J];by_cases L:nm=[115,101,114,105,97,108,105,122,101]
 ·have f:=ar _ 1 L aeY;have K:idx b.fArgs 0=some b.fArgs[0]:=a7 (i:=0) aeP;have h1:=(hv _ (abu (show 0<b.fArgs.length by omega))).wt;have a:∃s k,eV b.fArgs[0]=some (s,k):=⟨_,_,ot aeP⟩;obtain⟨s,k,a⟩:=a;rw[An L,K,sb,a,sb];dsimp only;cases k
  ·obtain⟨b',S,T⟩:=mB b U7;rw[so aeR,S,sb];exact⟨_,rfl,.st hw T (Rz.text _)⟩
  ·rw[An rfl];exact⟨_,rfl,.st hw (St.vI b) (Rz.text _)⟩
 rw[so L];by_cases M:nm=[117,110,115,101,114,105,97,108,105,122,101]
 ·have f:=ar _ 1 M aeY;obtain⟨s,d,a,hs,s1⟩:=ra hv 0 aeP;replace a:aK b 0=_:=a;obtain⟨v,k,e2,h2⟩:=Kp hs;rw[An M,a,sb];dsimp only;rw[e2,sb];dsimp only;cases k
  ·obtain⟨w,j,h4⟩:=jY false;rw[so aeR,j,sb];exact⟨_,rfl,.st hw s1 h4⟩
  ·rw[An rfl];exact⟨_,rfl,.st hw s1 (.inl (h2 rfl))⟩
 rw[so M,sb];dsimp only;obtain⟨r,e,h⟩:=aad hv hw nm (λh=>by rw[ar _ 2 h aeY];exact abn _) (λh=>by rw[ar _ 1 h aeY];exact abn _);rw[e];exact⟨r,rfl,h⟩
end
structure Cal (nm:aB) (al:List ae) (o:av) (v:ae) (x:av) (c:Int):Prop where
 ov:Ov v
 cd:Cd c
 nu:c≠0->v.aD=0
 ar:cf nm≠some (al.length:Int)->c=8
 wo:WO x
 ok:OK o->OK x
 hd:nm≠It->c=0->x.ak.length=o.ak.length
theorem xz (nm:aB):∃n,cf nm=some n:=by
 unfold cf;refine iV ?_ λb=>fW (λ_=>⟨_,rfl⟩) λ_=>iV ?_ λb=>fW (λ_=>⟨_,rfl⟩) λ_=>?_;all_goals repeat' (first | exact⟨_,rfl⟩ | refine fW (λ_=>⟨_,rfl⟩) (λ_=>?_))
theorem M3 (nm:aB) {al:List ae} (E:al.length<=2000000) (hs:∀v∈al,v.wt<=2000000) {o:av} (hw:WO o):∃v x c,hP nm al o=some (v,x,c)/\Cal nm al o v x c:=by
 obtain⟨i,_⟩:=k6 hw.ob;have l:∀c,Cd c->c≠0->(cf nm≠some (al.length:Int)->c=8)->Cal nm al o (.mk 0 0 [] 0 []) o c:=λc hc h0 A=>⟨Bb,hc,λ_=>rfl,A,hw,id,λ_ _=>rfl⟩
 have go:∀(f k:Nat),al.length<=k+f->k<=al.length->(∀j (h:j<al.length),j<k->Ov al[j])->
   (bZ al o (k:Int)=some (.inl ())/\∀v∈al,Ov v)\/bZ al o (k:Int)=some (.inr (.mk 0 0 [] 0 [],o,8)):=by
  intro f;induction f with
  | zero=>
   intro k h1 h2 d;obtain rfl:k=al.length:=by omega
   refine .inl ⟨by rw[bZ,so aeP],λv hv=>?_⟩;obtain⟨j,hj,rfl⟩:=abQ.1 hv;exact d j hj hj
  | succ f w=>
   intro k h1 h2 d;by_cases hc:k<al.length
   ·rw[bZ,An aeP,a7 hc,sb,QS (hs _ (abu hc)),sb];cases q:decide (al[k].kw<=200)&&al[k].pg with
    | false=>rw[so aeR,i,sb];exact .inr rfl
    | true=>
     simp only[Is,abH]at q;rw[An rfl,bJ aeP];refine w (k+1) aeP aeP λj hj B=>?_;by_cases e:j=k
     ·subst e;exact⟨q.2,q.1⟩
     ·exact d j hj aeP
   ·exact w k aeP h2 d
 unfold hP;rcases(go al.length 0 aeP (abY _) (λ_ _ h=>absurd h (abR _))).symm with e | ⟨e,hv⟩
 ·replace e:bZ al o 0=_:=e;rw[e,sb];exact⟨_,_,_,rfl,l 8 U7 aeQ (λ_=>rfl)⟩
 replace e:bZ al o 0=_:=e;obtain⟨n,en⟩:=xz nm;rw[e,sb];dsimp only;rw[en,sb];by_cases q:¬n=(al.length:Int)
 ·rw[so q,i,sb];exact⟨_,_,_,rfl,l 8 U7 aeQ (λ_=>rfl)⟩
 obtain rfl:=ads.1 q;obtain⟨⟨v,b'⟩,e2,hd⟩:=Va (b:=⟨al,o,0⟩) hv hw nm en;have hc:=hd.cd (.inl rfl);have m:=hd.ok;have hh:=hd.hd;have a:=hd.wo;have p:=hd.rv;dsimp only at hc m hh a p;rw[An rfl,i,sb,e2,sb];dsimp only
 have key:∀y:Int,Cd y->(y=0->Ov v)->∃z x c,(if y=0 then some (v,b'.cn,0)else(if y=10 then some ((ae.mk 0 0 [] 0 []),b'.cn,10)else(some o:Option av)>>=λC=>some ((ae.mk 0 0 [] 0 []),C,y)))=some (z,x,c)/\Cal nm al o z x c:=λy hy D=>by
  by_cases g:y=0
  ·rw[An g];exact⟨_,_,_,rfl,D g,.inl rfl,λh=>absurd rfl h,λh=>absurd en h,a,m,λh _=>hh h⟩
  rw[so g];by_cases y1:y=10
  ·rw[An y1];exact⟨_,_,_,rfl,Bb,U8,λ_=>rfl,λh=>absurd en h,a,m,λ_ h=>absurd h aeQ⟩
  ·rw[so y1,sb];exact⟨_,_,_,rfl,l y hy g (λh=>absurd en h)⟩
 by_cases r:b'.eX=0
 ·rw[An r];by_cases t:v.aD=3
  ·rw[An t];by_cases u:(v.bz.length:Int)>400
   ·rw[An u,sb];exact key 9 cd9 (λh=>absurd h aeQ)
   ·rw[so u,sb];refine key _ hc λ_=>?_;rcases p with h | ⟨s,rfl⟩
    ·exact h
    ·rw[ae.vY]at u;exact⟨by rw[lq];simp;omega,by rw[um];decide⟩
  ·rw[so t,sb];refine key _ hc λ_=>?_;rcases p with h | ⟨s,rfl⟩
   ·exact h
   ·exact absurd rfl t
 ·rw[so r,sb];exact key _ hc λh=>absurd h r
theorem qp (v:Int):0<=bits .and .i64 v 255/\bits .and .i64 v 255<=255:=by
 unfold bits;have e2:BitVec.ofInt IntKind.i64.bits 255=BitVec.ofNat 64 255:=by rfl
 simp only[e2]
 have h:(BitVec.ofInt 64 v &&& BitVec.ofNat 64 255).toNat<=255:=by
  rw[BitVec.toNat_and];exact Nat.and_le_right
 show 0<=IntKind.i64.wrap ((BitVec.ofInt 64 v &&& BitVec.ofNat 64 255).toNat:Int)/\IntKind.i64.wrap ((BitVec.ofInt 64 v &&& BitVec.ofNat 64 255).toNat:Int)<=255;rw[pO aeP aeP];omega
def Cu (c:aA):Prop:=0<=c.fI/\c.fI<=(c.fB.length:Int)/\c.fB.length<=1048576
theorem QZ {c:aA} (h:Cu c):∃v a,N8 c=some (v,a)/\0<=v/\v<=255/\Cu a:=by
 obtain⟨h0,h1,h2⟩:=h;unfold N8;by_cases hi:c.fI<(c.fB.length:Int)
 ·obtain⟨n,b⟩:∃n:Nat,c.fI=(n:Int):=⟨c.fI.toNat,by omega⟩;rw[An hi,b,a7 (show n<c.fB.length by omega),sb,bJ aeP];exact⟨_,_,rfl,(qp _).1,(qp _).2,⟨by show(0:Int)<=((n+1:Nat):Int);omega,by show((n+1:Nat):Int)<=(c.fB.length:Int);omega,h2⟩⟩
 ·rw[so hi];exact⟨_,_,rfl,(qp _).1,(qp _).2,⟨h0,h1,h2⟩⟩
theorem jy {c:aA} (h:Cu c) {n:Nat} (h1:1<=n) (h2:n<=256):∃(v:Nat) (a:aA),qQ c (n:Int)=some ((v:Int),a)/\v<n/\Cu a:=by
 obtain⟨v,a,e,d,f,b⟩:=QZ h;unfold qQ;rw[so aeP,An aeP,e,sb];have hm:must ((n:Int)≠0)=some ():=An aeP;obtain⟨u,rfl⟩:∃u:Nat,v=(u:Int):=⟨v.toNat,by omega⟩;refine⟨u % n,a,?_,Nat.mod_lt _ aeP,b⟩;show(must ((n:Int)≠0)>>=λ_=>some (((u:Int)).tmod (n:Int),a))=_;rw[hm,sb,<-Int.ofNat_tmod]
theorem pU {c:aA} (h:Cu c) {n:Nat} (h1:1<=n) (h2:n<=256):∃b a,vR c (n:Int)=some (b,a)/\Cu a:=by
 obtain⟨v,a,e,_,hc⟩:=jy h h1 h2;unfold vR;rw[e,sb];exact aeM
theorem Bc {c:aA} (h:Cu c) (l:List Int) (h1:1<=l.length) (h2:l.length<=256):∃x a,L3 c l=some (x,a)/\Cu a:=by
 obtain⟨v,a,e,hv,hc⟩:=jy h h1 h2;unfold L3;rw[e,sb];show ∃x b,(idx l (v:Int)>>=λd=>some (d,a))=some (x,b)/\Cu b;rw[a7 hv,sb];exact aeM
theorem Eu {c:aA} (h:Cu c) (l:List aB) (h1:1<=l.length) (h2:l.length<=256):∃x a,GP c l=some (x,a)/\Cu a:=by
 obtain⟨v,a,e,hv,hc⟩:=jy h h1 h2;unfold GP;rw[e,sb];show ∃x b,(idx l (v:Int)>>=λd=>some (d,a))=some (x,b)/\Cu b;rw[a7 hv,sb];exact aeM
theorem Ge {c:aA} (h:Cu c):∃x a,BT c=some (x,a)/\Cu a:=by
 unfold BT;obtain⟨x,a,e,hc⟩:=Eu h ([[],[97],[98],[120,49],[48],[53],[45,53],[48,53],[45,48],[49,50,97],[48,48,55],[49,48,48,48,48,48,48,48,48,48],[49,48,48,48,48,48,48,48,48,49],[32,49],[105,116,39,115],[10],[60,105,62],[255,59],[110,97,109,101],[115,58,49,58]]:List aB) aeQ aeQ;rw[e,sb];exact aeM
theorem Ev {c:aA} (h:Cu c):∃x a,LB c=some (x,a)/\Cu a:=by
 unfold LB;obtain⟨b,f,d,h1⟩:=pU h (n:=3) aeQ aeQ;replace d:vR c 3=some (b,f):=d;rw[d,sb];show ∃x a,(if b=true then _ else _)=some (x,a)/\Cu a;split
 ·obtain⟨x,a,e,hc⟩:=Eu h1 ([[97],[98],[99],[],[48,53],[120]]:List aB) aeQ aeQ;rw[e,sb];exact aeM
 ·obtain⟨x,a,e,hc⟩:=Bc h1 ([0,1,2,3,4,(-1),7,1000000000,(-1000000000)]:List Int) aeQ aeQ;rw[e,sb];exact aeM
theorem Kr {c:aA} (h:Cu c):∃x a,Si c=some (x,a)/\Cu a:=by
 unfold Si;obtain⟨x,a,e,hc⟩:=Bc h ([(-1),0,1,2,255,256,65535,2147483647,2147483648,4294967295,4294967296,(-2147483648),9223372036854775807,(-9223372036854775808)]:List Int) aeQ aeQ;rw[e,sb];exact aeM
def Bd:Nat->Nat
 | 0=>1
 | d+1=>1+10*Bd d
theorem Q0:∀d,1<=Bd d
 | 0=>abn _
 | d+1=>by unfold Bd;omega
theorem ow (a b:Int) (s:aB) (n:Int):(ae.mk a b s n []).wt=1:=by rw[ae.iC];rfl
theorem Ew {c:aA} (h:Cu c):∃x a,LF c=some (x,a)/\x.wt=1/\Cu a:=by
 unfold LF;obtain⟨v,d,f,hv,h1⟩:=jy h (n:=8) aeQ aeQ;replace f:qQ c 8=some ((v:Int),d):=f;rw[f,sb];show ∃(x:ae) (a:aA),(if(v:Int)=0 then _ else _)=some (x,a)/\x.wt=1/\Cu a;split
 ·exact⟨_,_,rfl,ow _ _ _ _,h1⟩
 split
 ·obtain⟨b,e,e2,h2⟩:=pU h1 (n:=2) aeQ aeQ;replace e2:vR d 2=some (b,e):=e2;rw[e2,sb];show ∃(x:ae) (a:aA),(Dz b>>=_)=some (x,a)/\x.wt=1/\Cu a;unfold Dz;split<;>exact⟨_,_,rfl,ow _ _ _ _,h2⟩
 have tail:∀b:Bool,∃(x:ae) (a:aA),(if b=true then BT d>>=λ(k,l)=>some ((ae.mk 3 0 k 0 []),l)else
    (if(v:Int)=4 then
     L3 d ([0,1,(-1),5,10,999999999,1000000000,(-1000000000)]:List Int)>>=λ(g,i)=>
     some ((ae.mk 2 g [] 0 []),i)
    else
     qQ d 20>>=λ(j,m)=>
     some ((ae.mk 2 (aP (j - 5)) [] 0 []),m)))=some (x,a)/\x.wt=1/\Cu a:=λb=>by
  split
  ·obtain⟨x,e,e2,h2⟩:=Ge h1;rw[e2,sb];exact⟨_,_,rfl,ow _ _ _ _,h2⟩
  split
  ·obtain⟨x,e,e2,h2⟩:=Bc h1 ([0,1,(-1),5,10,999999999,1000000000,(-1000000000)]:List Int) aeQ aeQ;rw[e2,sb];exact⟨_,_,rfl,ow _ _ _ _,h2⟩
  ·obtain⟨x,e,e2,_,h2⟩:=jy h1 (n:=20) aeQ aeQ;replace e2:qQ d 20=some ((x:Int),e):=e2;rw[e2,sb];exact⟨_,_,rfl,ow _ _ _ _,h2⟩
 split
 ·exact tail _
 ·exact tail _
theorem Vj {n:Nat} (h:n<1000):aP (((n+1:Nat):Int) - 1)=(n:Int):=by rw[aP,pO aeP aeP];omega
theorem Ex:∀(d:Nat),d<100->∀c:aA,Cu c->∃(x:ae) (g:aA),BK c (d:Int)=some (x,g)/\x.wt<=Bd d/\Cu g:=by
 intro d;induction d with
 | zero=>
  intro _ c h;obtain⟨x,g,e,hd,hc⟩:=Ew h;rw[BK,An aeP,e,sb];exact⟨_,_,rfl,ady hd,hc⟩
 | succ d w=>
  intro hd c h
  have go:∀(n:Nat),n<=10->∀(c:aA) (y:Int) (l:List af),Cu c->l.length+n<=10->af.uS l<=l.length*Bd d->
    ∃b i q j f,ll ((d+1:Nat):Int) c.fB c.fI c.fH y l (n:Int)=some (b,i,q,j,f)/\Cu (aA.mk b i q)/\f.length<=10/\af.uS f<=10*Bd d:=by
   intro n;induction n with
   | zero=>
    intro _ c y l hc E hs;rw[ll,so aeP];exact⟨_,_,_,_,_,rfl,hc,by omega,acg hs (abB _ aeP)⟩
   | succ n m=>
    intro F c y l hc E hs;obtain⟨k,s,o,h1⟩:=Ev hc;obtain⟨b,a,e2,h2⟩:=pU h1 (n:=2) aeQ aeQ;replace o:LB (aA.mk c.fB c.fI c.fH)=some (k,s):=o;replace e2:vR s 2=some (b,a):=e2
    have p:∀k:aL,∃b i q j f,(DB (ae.mk 4 0 [] y l) (aL.mk k.bh k.aY k.bz)>>=λG=>
      (if G<0 then
       BK (aA.mk a.fB a.fI a.fH) (aP (((d+1:Nat):Int) - 1))>>=λ(z,t)=>
       eE 96 l ([(af.mk (aL.mk k.bh k.aY k.bz) z)]:List af)>>=λC=>
       (if k.bh=true then
        ll ((d+1:Nat):Int) t.fB t.fI t.fH y C (aP (((n+1:Nat):Int) - 1))
       else
        LA y (aP (k.aY+1))>>=λA=>
        ll ((d+1:Nat):Int) t.fB t.fI t.fH A C (aP (((n+1:Nat):Int) - 1)))
      else
       ll ((d+1:Nat):Int) a.fB a.fI a.fH y l (aP (((n+1:Nat):Int) - 1))))=some (b,i,q,j,f)/\Cu (aA.mk b i q)/\f.length<=10/\af.uS f<=10*Bd d:=λk=>by
     obtain⟨r,H,_,_⟩:=Cf (ae.mk 4 0 [] y l) (aL.mk k.bh k.aY k.bz) (show l.length<=4000000 by omega);rw[H,sb,Vj (show n<1000 by omega),Vj (show d<1000 by omega)];split
     ·obtain⟨x,B,u,I,v⟩:=w aeP a h2;replace u:BK (aA.mk a.fB a.fI a.fH) (d:Int)=some (x,B):=u;rw[u,sb];show ∃b i q j f,(eE 96 l [af.mk (aL.mk k.bh k.aY k.bz) x]>>=_)=some (b,i,q,j,f)/\_;rw[ca aeT,sb]
      have D:af.uS (l++[af.mk (aL.mk k.bh k.aY k.bz) x])<=(l++[af.mk (aL.mk k.bh k.aY k.bz) x]).length*Bd d:=by
       rw[sR,eR,kR,abt,abC];have K:(af.mk (aL.mk k.bh k.aY k.bz) x).bE.wt<=Bd d:=I;simp only[List.length_singleton,Nat.one_mul];omega
      split
      ·exact m aeP B y _ v aeU D
      ·rw[Eg,sb];exact m aeP B _ _ v aeU D
     ·exact m aeP a y l h2 aeP hs
    rw[ll,An aeP,o,sb];show ∃b i q j f,((vR s 2>>=_)>>=_)=some (b,i,q,j,f)/\_;rw[e2,sb];show ∃J i q j f,((if b=true then _ else _)>>=_)=some (J,i,q,j,f)/\_;split
    ·split
     ·exact p (aL.mk false y [])
     ·exact p k
    ·exact p k
  rw[BK,so aeP];obtain⟨b,s,o,h1⟩:=pU h (n:=3) aeQ aeQ;replace o:vR c 3=some (b,s):=o;rw[o,sb];show ∃(x:ae) (g:aA),(if b=true then _ else _)=some (x,g)/\x.wt<=Bd (d+1)/\Cu g;split
  ·obtain⟨n,a,e2,F,h2⟩:=jy h1 (n:=5) aeQ aeQ;replace e2:qQ s 5=some ((n:Int),a):=e2;obtain⟨b',L,M,j,f,u,v,h4,N⟩:=go n aeP a 0 [] h2 aeU (by rw[kR];omega);rw[e2,sb];show ∃(x:ae) (g:aA),(ll ((d+1:Nat):Int) a.fB a.fI a.fH 0 [] (n:Int)>>=_)=some (x,g)/\x.wt<=Bd (d+1)/\Cu g;rw[u,sb];exact⟨_,_,rfl,by rw[ae.iC];unfold Bd;show 1+af.uS f<=_;omega,v⟩
  ·obtain⟨x,g,e,hd,hc⟩:=Ew h1;rw[e,sb];exact⟨_,_,rfl,by have:=Q0 (d+1);omega,hc⟩
def Dt (v:ae):Prop:=v.wt<=2000
theorem Dt.sm {v:ae} (h:Dt v):Sm v:=FH (by have:v.wt<=2000:=h;omega)
theorem Dt.len {v:ae} (h:Dt v):v.aj.length<2000:=by have:=je (v:=v);have:v.wt<=2000:=h;omega
theorem Ks {c:aA} (h:Cu c):∃x e,Su c=some (x,e)/\Dt x/\Cu e:=by
 unfold Su;obtain⟨x,l,m,o,h1⟩:=Ex 3 aeQ c h;replace m:BK c 3=some (x,l):=m;replace o:x.wt<=1111:=o;have u:=o;rw[ae.iC]at u;have hlen:=vV x.aj;obtain⟨n,r,e2,w,h2⟩:=jy h1 (n:=14) aeQ aeQ;replace e2:qQ l 14=some ((n:Int),r):=e2;rw[m,sb];show ∃y e,(qQ l 14>>=_)=some (y,e)/\Dt y/\Cu e;rw[e2,sb];show ∃y e,(if(n:Int)=0 then _ else _)=some (y,e)/\Dt y/\Cu e;have sm:∀a b s d,Dt (.mk a b s d x.aj):=λa b s d=>by show ae.wt _<=2000;rw[ae.iC,ae.cQ];omega
 split
 ·obtain⟨y,i,f,g⟩:=Kr h2;rw[f,sb];exact⟨_,_,rfl,sm _ _ _ _,g⟩
 split
 ·obtain⟨y,i,f,g⟩:=Kr h2;rw[f,sb];exact⟨_,_,rfl,sm _ _ _ _,g⟩
 split
 ·obtain⟨y,i,f,g⟩:=Bc h2 ([(-1),4,5,6,7,8,9]:List Int) aeQ aeQ;rw[f,sb];exact⟨_,_,rfl,sm _ _ _ _,g⟩
 try rw[sb]
 split
 ·obtain⟨k,i,f,g⟩:=Ev h2;obtain⟨y,t,j,hy,h4⟩:=Ew g;rw[f,sb];show ∃y e,(LF i>>=_)=some (y,e)/\Dt y/\Cu e;rw[j,sb];show ∃z e,(eE 96 x.aj [af.mk k y]>>=_)=some (z,e)/\Dt z/\Cu e;rw[ca aeT,sb];refine⟨_,_,rfl,?_,h4⟩;show ae.wt _<=2000;rw[ae.iC,ae.cQ,sR,eR,kR];have v:(af.mk k y).bE.wt=1:=hy;omega
 split
 ·obtain⟨p,i,f,_,g⟩:=jy h2 (n:=3) aeQ aeQ;replace f:qQ r 3=some ((p:Int),i):=f;obtain⟨q,t,j,_,h4⟩:=jy g (n:=3) aeQ aeQ;replace j:qQ i 3=some ((q:Int),t):=j;rw[f,sb];show ∃y e,(qQ i 3>>=_)=some (y,e)/\Dt y/\Cu e;rw[j,sb];exact⟨_,_,rfl,by show ae.wt _<=2000;rw[ow];omega,h4⟩
 ·exact⟨_,_,rfl,by show x.wt<=2000;omega,h2⟩
theorem Q1 {v x:ae} (hv:v.wt+x.wt<=5000) (k:aL):∃w,Sq v k x=some w/\w.wt<=v.wt+x.wt:=by
 have hlen:=je (v:=v);obtain⟨r,c,h0,h1⟩:=Cf v k aeP;unfold Sq;rw[ca (by simp only[abr];omega),sb,sb,c,sb,acj];by_cases a:r>=0
 ·obtain⟨j,rfl⟩:∃j:Nat,r=(j:Int):=⟨r.toNat,by omega⟩;rw[An a,a7 (show j<v.aj.length by omega),sb,sb];refine⟨_,rfl,?_⟩;rw[ae.iC,ae.cQ,v.iC];have:=FG v.aj ((j:Int).toNat) (af.mk v.aj[j].aS x);have e:(af.mk v.aj[j].aS x).bE.wt=x.wt:=rfl;omega
 ·have sm:∀n,(ae.mk v.aD v.aY v.bz n (v.aj++[af.mk k x])).wt<=v.wt+x.wt:=λn=>by
   rw[ae.iC,ae.cQ,sR,eR,kR,v.iC];have e:(af.mk k x).bE.wt=x.wt:=rfl;omega
  rw[so a,sb,ca aeT,sb];try rw[sb]
  by_cases b:k.bh=true
  ·rw[An b];exact⟨_,rfl,sm _⟩
  ·rw[so b,Eg,sb];exact⟨_,rfl,sm _⟩
theorem Q2 {c:aA} (h:Cu c):∃x d,Sv c=some (x,d)/\Dt x/\Cu d:=by
 unfold Sv
 have go:∀(n:Nat),n<=50->∀(c:aA) (v:ae),Cu c->v.wt+n*11<=600->
   ∃b i q e f g j l,pD c.fB c.fI c.fH v.aD v.aY v.bz v.cj v.aj (n:Int)=some (b,i,q,e,f,g,j,l)/\Cu (aA.mk b i q)/\Dt (.mk e f g j l):=by
  intro n;induction n with
  | zero=>
   intro _ c v hc hv;rw[pD,so aeP];exact⟨_,_,_,_,_,_,_,_,rfl,hc,by rw[ae.eta];show v.wt<=2000;omega⟩
  | succ n p=>
   intro u c v hc hv;obtain⟨k,a,m,h1⟩:=Ev hc;obtain⟨x,r,e2,s,h2⟩:=Ex 1 aeQ a h1;replace s:x.wt<=11:=s;obtain⟨w,o,hw⟩:=Q1 (v:=v) (x:=x) aeP k;replace m:LB (aA.mk c.fB c.fI c.fH)=some (k,a):=m;replace e2:BK a 1=some (x,r):=e2;rw[pD,An aeP,m,sb];show ∃b i q e f g j l,(BK a 1>>=_)=some (b,i,q,e,f,g,j,l)/\_;rw[e2,sb];show ∃b i q e f g j l,(Sq (ae.mk v.aD v.aY v.bz v.cj v.aj) k x>>=_)=some (b,i,q,e,f,g,j,l)/\_;rw[ae.eta,o,sb,Vj aeP];exact p aeP r w h2 aeP
 obtain⟨n,a,m,u,h1⟩:=jy h (n:=6) aeQ aeQ;replace m:qQ c 6=some ((n:Int),a):=m;obtain⟨b,i,q,e,f,g,j,l,e2,h2,y⟩:=go n aeP a (.mk 4 0 [] 0 []) h1 (by rw[ow];omega);replace e2:pD a.fB a.fI a.fH 4 0 [] 0 [] (n:Int)=some (b,i,q,e,f,g,j,l):=e2;rw[m,sb];show ∃x d,(pD a.fB a.fI a.fH 4 0 [] 0 [] (n:Int)>>=_)=some (x,d)/\Dt x/\Cu d;rw[e2,sb];obtain⟨t,z,o,h4⟩:=pU h2 (n:=6) aeQ aeQ;replace o:vR (aA.mk b i q) 6=some (t,z):=o;show ∃x d,(vR (aA.mk b i q) 6>>=_)=some (x,d)/\Dt x/\Cu d;rw[o,sb];show ∃x d,(if t=true then _ else _)=some (x,d)/\Dt x/\Cu d;split
 ·obtain⟨x,D,A,B,C⟩:=Ks h4;rw[A,sb];exact⟨_,_,rfl,B,C⟩
 ·exact⟨_,_,rfl,y,h4⟩
theorem Q3 {b:List UInt8} (h:b.length<=1048576):∃c,Tb b=some c/\Cu c:=by
 unfold Tb
 have go:∀m i:Nat,i<=b.length->b.length - i=m->∀y:Int,∃r,rl b y (i:Int)=some r:=by
  intro m;induction m with
  | zero=>intro i h1 h2 y;rw[rl,so aeP];exact⟨_,rfl⟩
  | succ m a=>
   intro i h1 h2 y;have d:i<b.length:=by omega
   rw[rl,An aeP,a7 d,sb,bJ aeP];split
   ·exact a (i+1) aeP aeP _
   ·exact⟨_,rfl⟩
 obtain⟨r,e⟩:=go b.length 0 aeP aeP (aP (193017+(b.length:Int)));replace e:rl b (aP (193017+(b.length:Int))) 0=some r:=e;rw[e,sb];exact⟨_,rfl,by show(0:Int)<=0;omega,by show(0:Int)<=(b.length:Int);omega,h⟩
set_option maxRecDepth 20000
theorem Gf {c:aA} (h:Cu c) (l:List aB) (h1:1<=l.length) (h2:l.length<=256):∃x a,GP c l=some (x,a)/\x∈l/\Cu a:=by
 obtain⟨v,a,e,hv,hc⟩:=jy h h1 h2;unfold GP;rw[e,sb];show ∃x b,(idx l (v:Int)>>=λd=>some (d,a))=some (x,b)/\x∈l/\Cu b;rw[a7 hv,sb];exact⟨_,_,rfl,abu hv,hc⟩
theorem Ox {c:aA} (h:Cu c):∃s d,kE c=some (s,d)/\s.length<=20/\Cu d:=by
 have go:∀(n:Nat),n<=4->∀(c:aA) (s:aB),Cu c->s.length+5*n<=20->∃b i q t,ic c.fB c.fI c.fH s (n:Int)=some (t,b,i,q)/\t.length<=20/\Cu (aA.mk b i q):=by
  intro n;induction n with
  | zero=>intro _ c s hc hs;rw[ic,so aeP];exact⟨_,_,_,_,rfl,by omega,hc⟩
  | succ n g=>
   intro j c s hc hs;obtain⟨x,e,e2,hm,h2⟩:=Gf hc ([[97],[60,98,62],[38],[34],[39],[92],[10],[32],[37],[43],[38,97,109,112,59],[38,35,51,57,59],[37,52,49],[37,52],[92,120,51,67],[92,120],[126,122],[255],[81,57],[38,108,116]]:List aB) aeQ aeQ;have k:∀y∈([[97],[60,98,62],[38],[34],[39],[92],[10],[32],[37],[43],[38,97,109,112,59],[38,35,51,57,59],[37,52,49],[37,52],[92,120,51,67],[92,120],[126,122],[255],[81,57],[38,108,116]]:List aB),y.length<=5:=by decide
   have m:=k x hm;replace e2:GP (aA.mk c.fB c.fI c.fH) _=some (x,e):=e2;rw[ic,An aeP,e2,sb];dsimp only;rw[dE aeP,sb,Vj aeP];exact g aeP e _ h2 (by rw[abt];omega)
 obtain⟨n,f,a,j,h1⟩:=jy h (n:=5) aeQ aeQ;replace a:qQ c 5=some ((n:Int),f):=a;obtain⟨b,i,q,t,e2,l,h2⟩:=go n aeP f [] h1 aeU;unfold kE;rw[a,sb];dsimp only;rw[e2,sb];exact⟨_,_,rfl,l,h2⟩
theorem Q4 {o:av} (h:WO o) {s t:aB} (hs:s.length<=2000) (b:t.length<=2000):∃a c,ib o s t=some (a,c)/\WO a:=by
 have j:=h.he;obtain⟨_,i⟩:=k6 h.ob;unfold ib;rw[i,sb,(A9 (s:=s) aeP).2,(Ep (s:=t) aeP).2];by_cases q1:¬o.bc=[]
 ·rw[so q1];exact⟨_,_,rfl,h⟩
 rw[An (ads.1 q1),sb];cases pT s with
 | false=>rw[so aeR];exact⟨_,_,rfl,h⟩
 | true=>
 rw[An rfl,sb];cases xy t with
 | false=>rw[so aeR];exact⟨_,_,rfl,h⟩
 | true=>
 rw[An rfl]
 have go:∀(f k:Nat),o.ak.length<=k+f->k<=o.ak.length->cP s t o (k:Int)=some (.inl ())\/∃a c,cP s t o (k:Int)=some (.inr (a,c))/\WO a:=by
  intro f;induction f with
  | zero=>intro k h1 h2;exact .inl (by rw[cP,so aeP])
  | succ f d=>
   intro k h1 h2;by_cases g:k<o.ak.length
   ·rw[cP,An aeP,a7 g,sb];split
    ·rw[sb];exact .inr ⟨_,_,rfl,Kl h k g b⟩
    ·rw[bJ aeP];exact d (k+1) aeP aeP
   ·exact d k aeP h2
 rcases go o.ak.length 0 aeP (abY _)with e | ⟨a,c,e,h'⟩
 ·replace e:cP s t o 0=_:=e;rw[e,sb];dsimp only;split
  ·exact⟨_,_,rfl,h⟩
  ·rw[ca aeT,sb];exact⟨_,_,rfl,Kk h aeP hs b⟩
 ·replace e:cP s t o 0=_:=e;rw[e,sb];exact⟨_,_,rfl,h'⟩
theorem Oy:∀(f:Nat) (s:aB),s.length<=5800->2900<=s.length*2 ^ f->∃t,gE s=some t/\t.length<=5800
 | 0,s,h,g=>by unfold gE;rw[so (by simp at g;omega)];exact⟨s,rfl,h⟩
 | f+1,s,h,g=>by
  unfold gE;by_cases q:(s.length:Int)<2900
  ·rw[An q,dE aeP,sb];refine Oy f _ (by rw[abt];omega) ?_;rw[abt,<-Nat.two_mul,Nat.mul_comm 2,Nat.mul_assoc,<-Nat.pow_succ'];exact g
  ·rw[so q];exact⟨s,rfl,h⟩
theorem wo0:WO ⟨[],[],[]⟩:=⟨by decide,by decide,by decide,λ_ h=>(by cases h)⟩
theorem Cy {c:aA} (h:Cu c):∃o z,jF c=some (o,z)/\WO o/\Cu z:=by
 have go:∀(n:Nat),n<=8->∀(c:aA) (o:av),Cu c->WO o->∃b i q s hs bs,dh c.fB c.fI c.fH o.bc o.ak o.ah (n:Int)=some (b,i,q,s,hs,bs)/\WO ⟨s,hs,bs⟩/\Cu (aA.mk b i q):=by
  intro n;induction n with
  | zero=>intro _ c o hc d;rw[dh,so aeP];exact⟨_,_,_,_,_,_,rfl,d,hc⟩
  | succ n p=>
   intro B c o hc d;obtain⟨v,e,l,hv,h1⟩:=jy hc (n:=5) aeQ aeQ;replace l:qQ (aA.mk c.fB c.fI c.fH) 5=some ((v:Int),e):=l;rw[dh,An aeP,l,sb];dsimp only;rw[Vj aeP];by_cases A:(v:Int)=0
   ·obtain⟨f,r,e2,_,h2⟩:=jy h1 (n:=4) aeQ aeQ;replace e2:qQ e 4=some ((f:Int),r):=e2;obtain⟨w,b,_,a,j,_⟩:=start_eq d (f:Int);replace a:fL (av.mk o.bc o.ak o.ah) (f:Int)=_:=a;rw[An A,e2,sb];dsimp only;rw[a,sb];exact p aeP r w h2 j
   rw[so A];by_cases q1:(v:Int)=1
   ·have a:=(Ki d).2;replace a:eW (av.mk o.bc o.ak o.ah)=_:=a;rw[An q1,a,sb];exact p aeP e _ h1 (Gb d)
   rw[so q1];by_cases q2:(v:Int)=2
   ·obtain⟨x,r,e2,hm,h2⟩:=Gf h1 ([[65],[66,45,99],[83,101,116,45,67,111,111,107,105,101],[88,49]]:List aB) aeQ aeQ;have C:∀y∈([[65],[66,45,99],[83,101,116,45,67,111,111,107,105,101],[88,49]]:List aB),y.length<=20:=by decide
    have F:=C x hm;obtain⟨t,m,a,D,j⟩:=Ox h2;obtain⟨w,k,g,h4⟩:=Q4 d (s:=x) (t:=t) aeP aeP;replace g:ib (av.mk o.bc o.ak o.ah) x t=_:=g;rw[An q2,e2,sb];dsimp only;rw[a,sb];dsimp only;rw[g,sb];exact p aeP m w j h4
   ·obtain⟨t,m,a,D,j⟩:=Ox h1;have g:=(A8 d.ob (t:=t) aeP).2;replace g:kW (av.mk o.bc o.ak o.ah) t=_:=g;rw[so q2,a,sb];dsimp only;rw[g,sb];exact p aeP m _ j (Ba d t)
 obtain⟨n,e,l,B,h1⟩:=jy h (n:=9) aeQ aeQ;replace l:qQ c 9=some ((n:Int),e):=l;obtain⟨b,i,q,s,hs,bs,e2,d,h2⟩:=go n aeP e ⟨[],[],[]⟩ h1 wo0;replace e2:dh e.fB e.fI e.fH [] [] [] (n:Int)=_:=e2;obtain⟨t,m,a,j⟩:=pU h2 (n:=9) aeQ aeQ;replace a:vR (aA.mk b i q) 9=some (t,m):=a;unfold jF;rw[l,sb];dsimp only;rw[e2,sb];dsimp only;rw[a,sb];dsimp only;cases t
 ·rw[so aeR,sb];exact⟨_,_,rfl,d,j⟩
 ·obtain⟨u,g,h4⟩:=Oy 10 [48,49,50,51,52,53,54,55,56,57,38] aeQ aeQ;have E:=(A8 d.ob (t:=u) aeP).2;rw[An rfl,g,sb,E,sb];exact⟨_,_,rfl,Ba d u,j⟩
abbrev Gg:List aB:=[[111,98,95,103,101,116],[111,98,95,101,110,100],[111,98,95,99,108,101,97,110],[115,116,114,108,101,110],[117,112,112,101,114],[99,111,117,110,116],[107,101,121,115],[118,97,108,117,101,115],[115,111,114,116],[105,110,116,118,97,108],[115,116,114,118,97,108],[107,105,110,100],[115,101,114,105,97,108,105,122,101],[117,110,115,101,114,105,97,108,105,122,101],[111,98,95,115,116,97,114,116],[114,101,112,101,97,116],[101,115,99,97,112,101],[105,110,95,97,114,114,97,121],[105,109,112,108,111,100,101],[114,97,110,103,101],[104,101,97,100,101,114],[115,117,98,115,116,114]]
def Kt:List aB->Nat->aB->Int
 | [],_,_=> -1
 | x::r,i,nm=>if x=nm then(if i<3 then 0 else if i<15 then 1 else if i<21 then 2 else 3)else Kt r (i+1) nm
theorem Gh (nm:aB):∀(l:List aB) (i:Nat),nm∉l->Kt l i nm= -1
 | [],_,_=>rfl
 | x::r,i,h=>by
  rw[Kt,so (λe=>h (by rw[e];exact acF ..))];exact Gh nm r (i+1) (λhh=>h (abz _ hh))
def aae:Unit ⊕ Int->Int | .inr r=>r | .inl _=> -1
theorem Ku (nm:aB):∀(f k:Nat),22<=k+f->k<=22->∃o,ck nm (k:Int)=some o/\aae o=Kt (Gg.drop k) k nm
 | 0,k,h1,h2=>by
  obtain rfl:k=22:=by omega
  exact⟨.inl (),by rw[ck,so aeQ],rfl⟩
 | f+1,k,h1,h2=>by
  by_cases a:k<Gg.length
  ·have c:k<22:=a;rw[ck,An (show(k:Int)<(Gg.length:Int) by omega),a7 a,sb,aca a,Kt];by_cases q:Gg[k]=nm
   ·rw[An q,An q];by_cases q3:k<3
    ·rw[An aeP,An q3];exact⟨_,rfl,rfl⟩
    rw[so aeP,so q3];by_cases q4:k<15
    ·rw[An aeP,An q4];exact⟨_,rfl,rfl⟩
    rw[so aeP,so q4];by_cases b:k<21
    ·rw[An aeP,An b];exact⟨_,rfl,rfl⟩
    ·rw[so aeP,so b];exact⟨_,rfl,rfl⟩
   ·rw[so q,so q,bJ aeP];exact Ku nm f (k+1) aeP aeP
  ·have:k=22:=by have:¬k<22:=a;omega
   subst this;exact⟨.inl (),by rw[ck,so aeQ],rfl⟩
theorem Q5 (nm:aB):gF nm=some (Kt Gg 0 nm):=by
 obtain⟨o,e,h⟩:=Ku nm 22 0 aeP aeP;replace e:ck nm 0=some o:=e;rw[acN]at h;unfold gF;rw[e,sb];cases o with
 | inl u=>rw[<-h];rfl
 | inr r=>rw[<-h];rfl
def arC (nm:aB):Bool:=match fV nm with
 | some a=>decide (Kt Gg 0 nm<=(a.length:Int)/\Kt Gg 0 nm<=3)
 | none=>false
theorem Q6:∀nm∈Gg,arC nm=true:=by decide +kernel
theorem Ey (nm:aB):∃a,fV nm=some a:=by
 unfold fV;refine iV ?_ λb=>fW (λ_=>⟨_,rfl⟩) λ_=>iV ?_ λb=>fW (λ_=>⟨_,rfl⟩) λ_=>?_;all_goals repeat' (first | exact⟨_,rfl⟩ | refine fW (λ_=>⟨_,rfl⟩) (λ_=>?_))
theorem Vk (nm:aB):∃a,fV nm=some a/\Kt Gg 0 nm<=(a.length:Int)/\Kt Gg 0 nm<=3:=by
 obtain⟨a,e⟩:=Ey nm;refine⟨a,e,?_⟩;by_cases h:nm∈Gg
 ·have:=Q6 nm h;unfold arC at this;rw[e]at this;exact adt this
 ·rw[Gh nm Gg 0 h];exact⟨by omega,by omega⟩
theorem Be (nm:aB) {a:Int} {j:aB} (e:fV nm=some j) (r:a<=(j.length:Int)) (s:a<=3):∀(f k:Nat) (c:aA) (l:List ae),a<=k+f->Cu c->l.length<=3->(k:Int)<=3->l.length<=k->(∀v∈l,v.wt<=2000)->
  ∃b i q m,bO nm a c.fB c.fI c.fH l (k:Int)=some (b,i,q,m)/\Cu (aA.mk b i q)/\m.length<=3/\∀v∈m,v.wt<=2000
 | 0,k,c,l,hf,hc,n,t,o,hv=>by
  rw[bO,so aeP];exact⟨_,_,_,_,rfl,hc,n,hv⟩
 | f+1,k,c,l,hf,hc,n,t,o,hv=>by
  rw[bO];by_cases g:(k:Int)<a
  ·have app:∀v:ae,v.wt<=2000->eE 64 l ([v]:List ae)=some (l++[v])/\∀u∈l++[v],u.wt<=2000:=λv hw=>⟨ca aeT,λu hu=>by
    rcases aby.1 hu with hu | hu
    ·exact hv u hu
    ·rw[acb]at hu;subst hu;exact hw⟩
   rw[An g,e,sb,dD (show k<j.length by omega),sb,bJ aeP];split
   ·obtain⟨x,h,d,p,h1⟩:=Q2 hc;replace d:Sv (aA.mk c.fB c.fI c.fH)=some (x,h):=d;obtain⟨q1,q2⟩:=app x p;rw[d,sb];dsimp only;rw[q1,sb];exact Be nm e r s f (k+1) h _ aeP h1 afe aeP afe q2
   ·obtain⟨x,h,d,p,h1⟩:=Ex 1 aeQ c hc;replace d:BK (aA.mk c.fB c.fI c.fH) 1=some (x,h):=d;obtain⟨q1,q2⟩:=app x (acg p aeQ);rw[d,sb];dsimp only;rw[q1,sb];exact Be nm e r s f (k+1) h _ aeP h1 afe aeP afe q2
  ·rw[so g];exact⟨_,_,_,_,rfl,hc,n,hv⟩
theorem HH {b:List UInt8} (h:b.length<=1048576):∃nm al o,eQ b=some (nm,al,o)/\al.length<=4/\(∀v∈al,v.wt<=2000)/\WO o:=by
 obtain⟨c,e,hc⟩:=Q3 h;obtain⟨n1,f,D,h1⟩:=Eu hc Gg aeQ aeQ;have j:kX c=some (n1,f):=by unfold kX;rw[show GP c _=some (n1,f)from D,sb]
 obtain⟨t,E,e2,h2⟩:=pU h1 (n:=20) aeQ aeQ;replace e2:vR f 20=some (t,E):=e2
 have step:∃b i q nm,(vR f 20>>=λ(F,g)=>(if F=true then BT g>>=λ(G,k)=>some (k.fB,k.fI,k.fH,G)else some (g.fB,g.fI,g.fH,n1)):Option ((List UInt8)×Int×Int×aB))=some (b,i,q,nm)/\Cu (aA.mk b i q):=by
  rw[e2,sb];dsimp only;cases t
  ·rw[so aeR];exact⟨_,_,_,_,rfl,h2⟩
  ·obtain⟨x,U,m,p⟩:=Ge h2;rw[An rfl,m,sb];exact⟨_,_,_,_,rfl,p⟩
 obtain⟨z,A,q3,nm,m,p⟩:=step;obtain⟨H,I,V,W⟩:=Vk nm
 have r:∃a:Int,LA 0 (Kt Gg 0 nm)=some a/\a<=(H.length:Int)/\a<=3:=by
  rw[Eg];refine⟨_,rfl,?_⟩;split<;>omega
 obtain⟨a,r,J,K⟩:=r;obtain⟨L,M,N,l,s,O,X,hv⟩:=Be nm I J K 3 0 (aA.mk z A q3) [] aeP p aeQ aeQ aeQ (λ_ h=>(by cases h));replace s:bO nm a z A q3 [] 0=_:=s;obtain⟨B,P,u,C⟩:=pU O (n:=12) aeQ aeQ;replace u:vR (aA.mk L M N) 12=some (B,P):=u;unfold eQ;rw[e,sb,j,sb];dsimp only;rw[m,sb];dsimp only;rw[Q5,sb,r,sb,s,sb];dsimp only;rw[u,sb];dsimp only;cases B
 ·obtain⟨o,Q,w,y,_⟩:=Cy C;rw[so aeR,w,sb];exact⟨_,_,_,rfl,by omega,hv,y⟩
 ·obtain⟨x,Q,w,R,y⟩:=Ks C;obtain⟨o,c9,S,T,_⟩:=Cy y;rw[An rfl,w,sb];dsimp only;rw[ca aeT,sb,S,sb];refine⟨_,_,_,rfl,by rw[abt];simp;omega,λv d=>?_,T⟩;rcases aby.1 d with d | d
  ·exact hv v d
  ·rw[acb]at d;subst d;exact R
set_option maxRecDepth 20000
theorem Kv {c:Int} (h:Cd c) (h0:c≠0):∃s,jr c=some s/\s≠[]:=by
 rcases h with rfl | rfl | rfl | rfl | rfl
 ·exact absurd rfl h0
 all_goals exact⟨_,rfl,by decide⟩
theorem Bf (b:List UInt8):ka b=some true:=by
 unfold ka;by_cases g:(b.length:Int)>1048576
 ·rw[An g]
 rw[so g];obtain⟨nm,al,o,k,t,hv,i⟩:=HH (b:=b) aeP;obtain⟨v,x,c,e2,hc⟩:=M3 nm (al:=al) aeP (λv h=>by have:=hv v h;omega) i;obtain⟨n,j⟩:=xz nm;have a:=hc.ar;rw[j]at a;have l:=hc.ov.wt
 have m:m22 (ae.mk v.aD v.aY v.bz v.cj v.aj)=some true:=by
  rw[ae.eta,U2 aeP,hc.ov.ok,acd hc.ov.kw];rfl
 have p:gS (av.mk x.bc x.ak x.ah)=some (HD x):=Cv hc.wo;rw[k,sb];dsimp only;rw[e2,sb];dsimp only;rw[sb];dsimp only;rw[j];simp only[m,p,Cv i,sb]
 have fin:((if c=0 then some (.inl ())else(if v.aD=0 then jr c>>=λq=>(if q=([]:aB)then some (.inr false)else some (.inl ()))else some (.inr false))):Option ((Unit) ⊕ Bool))=some (.inl ()):=by
  by_cases h0:c=0
  ·rw[An h0]
  ·obtain⟨s,r,hs⟩:=Kv hc.cd h0;rw[so h0,An (hc.nu h0),r,sb,so hs]
 rw[fin,sb];dsimp only
 have d:((if n=(al.length:Int)then some (.inl ())else(if c=8 then some (.inl ())else some (.inr false))):Option ((Unit) ⊕ Bool))=some (.inl ()):=by
  by_cases h0:n=(al.length:Int)
  ·rw[An h0]
  ·rw[so h0,An (a (λe=>h0 (abP e)))]
 rw[d,sb];dsimp only
 have f:(if nm=([104,101,97,100,101,114]:aB)then some true else(if c=0 then some ((x.ak.length:Int)==(o.ak.length:Int))else some true))=some true:=by
  by_cases h1:nm=([104,101,97,100,101,114]:aB)
  ·rw[An h1]
  rw[so h1];by_cases h0:c=0
  ·rw[An h0,hc.hd h1 h0];simp
  ·rw[so h0]
 simp only[acO,f];cases h4:HD o with
 | false=>simp
 | true=>
  have:=(Ct x).2 (hc.ok ((Ct o).1 h4));simp [this]
theorem Cz (b:List UInt8):ACall Tryz.prog 3 [sl 1 cB b] [] (λres _=>res=.bool true):=(vJ (Bf b)).mono (λ_ _ h=>h.1)
theorem Ez {S:Nat->Prop} {w:World} {sz n:Nat} {f g:Nat->List PV} {v:Value} (h:aI S w (.eD sz n f) v) (e:∀i,i<n->f i=g i):aI S w (.eD sz n g) v:=by
 cases h with
 | lM=>exact .lM _ _ _ _
 | eD _ _ _ b off c a d hlen hc k l=>
  exact .eD sz n g b off c a d (λi hi=>by rw[<-e i hi];exact hlen i hi) hc (λi j pv hi hj=>k i j pv hi (by rw[e i hi];exact hj)) (λi j pv hi hj=>l i j pv hi (by rw[e i hi];exact hj))
theorem EA {S:Nat->Prop} {w:World} {a:Option Addr} {len cap:Nat} {c:List Int}
  (h:(a=none/\len=0/\cap=0/\c=[])\/∃x,a=some x/\len<=cap/\cap<=maxLen/\c.length=cap/\(∀i,i<c.length->w.cell? (x.add i)=some (.int .u8 (c.getD i 0)))/\∀n∈c,(Lit.int .u8 n).wf=true)
  (d:∀b,b<w.heap.size->S b):∃bs:List UInt8,aI S w (sl 1 cB bs) (.slice a len cap):=by
 have hp:=HI h d
 have e:len<=c.length:=by
  rcases h with⟨rfl,rfl,rfl,rfl⟩ | ⟨x,rfl,k,hm,e,l,f⟩
  ·simp
  ·omega
 have g:∀i,0<=c.getD i 0/\c.getD i 0<=255:=Kw h;refine⟨(c.take len).map λz=>UInt8.ofNat z.toNat,?_⟩;have hlen:((c.take len).map λz=>UInt8.ofNat z.toNat).length=len:=by simp;omega
 show aI S w (.eD 1 ((c.take len).map λz=>UInt8.ofNat z.toNat).length (row cB _)) _;rw[hlen];refine Ez hp (λi hi=>?_);have m:=g i;rw[jc (by rw[hlen];exact hi),acy,adr]
 have j:c.getD i 0=c[i]'aeP:=by
  rw[abv];simp [show i<c.length by omega]
 rw[<-j];show _=[PV.int .u8 ((UInt8.ofNat (c.getD i 0).toNat).toNat:Int)];congr 2;rw[adq];omega
end Go.Am
