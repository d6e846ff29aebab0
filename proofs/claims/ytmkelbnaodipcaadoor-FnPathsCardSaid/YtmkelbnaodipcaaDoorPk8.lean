/- Texts of the proof, joined and shortened. -/
import Derived.Test.YtmkelbnaodipcaaDoorPk7
set_option linter.unusedVariables false
set_option linter.unusedSimpArgs false
namespace Go.Am
open Go Go.RowKit Go.Proofs
theorem p4 {v:ai} (h:Sm v):rO v=some v:=by
 induction h with
 | mk f hi c=>
  rename_i k n s x l
  have go:∀m i:Nat,i<=l.length->l.length - i=m->kd (.mk k n s x l) [] (l.take i) (i:Int)=some ([],l):=by
   intro m;induction m with
   | zero=>
    intro i h1 h2;have:i=l.length:=by omega
    rw[kd,ai.bL,Is UN,this,List.take_length]
   | succ m a=>
    intro i h1 h2;have b:i<l.length:=by omega
    have d:idx l (i:Int)=some l[i]:=bH b
    rw[kd,ai.bL,An UN,d,sb,c _ (SM b),sb,
     fC (by rw[TF];simp only[SA,SK];omega),sb,af.eta,Tw b,fg UN]
    exact a (i+1) UN UN
  have e:=go l.length 0 UN UN;rw[rO];replace e:kd (.mk k n s x l) [] [] 0=some ([],l):=e;rw[e];rfl
def fx (v:ai) (k:az):Option Nat:=if v.aj=4 then fi v.ae k else none
theorem tP {v:ai} {k:az} {j:Nat} (h:fx v k=some j):v.aj=4/\fi v.ae k=some j:=by
 unfold fx at h;split at h
 ·exact⟨‹_›,h⟩
 ·cases h
theorem qi {v:ai} {k:az} {j:Nat} (h:fx v k=some j):j<v.ae.length:=by
 obtain⟨_,h⟩:=tP h;obtain⟨hj,_⟩:=ez h;exact hj
theorem BE {v:ai} {k:az} (a:v.ae.length<=4000000):se v k=some (yp (fx v k)):=by
 unfold fx;split
 ·exact qj ‹_› a
 ·exact Hw ‹_›
theorem yq (k:az) (r:List az) (v:ai):gt (k::r) v=match fx v k with
  | some j=>gt r (je v j)
  | none=>none:=by
 rw[gt];unfold fx;split<;>rfl
theorem Fg:∀(p:List az) (v y:ai),gt p v=some y->y.wt<=v.wt
 | [],v,y,h=>by
  obtain rfl:=SW h;exact Sv _
 | k::r,v,y,h=>by
  rw[yq]at h;cases hf:fx v k with
  | none=>rw[hf]at h;cases h
  | some j=>
   rw[hf]at h;have:=Fg r _ y h;have:=qk v (qi hf);omega
theorem Hx {R:Type} {v:ai} {k:az} (a:v.ae.length<=4000000) (A:Option R) (F:Int->af->Option R):
  (se v k>>=λq=>if q<0 then A else idx v.ae q>>=λe=>F q e)=match fx v k with
   | some j=>F (j:Int) (v.ae.getD j default)
   | none=>A:=by
 rw[BE a,sb];cases h:fx v k with
 | none=>rw[An (show yp none<0 by decide)]
 | some j=>
  have hj:=qi h;rw[Is (show ¬yp (some j)<0 by show ¬(j:Int)<0;omega)];show(idx v.ae (j:Int)>>=_)=_;rw[bH hj,sb];show F (j:Int) v.ae[j]=F (j:Int) (v.ae.getD j default);rw[Sz,As hj];rfl
theorem Hy (p:List az) (hp:p.length<=1000):∀(m i:Nat) (v:ai),i<=p.length->p.length - i=m->v.wt<=1000000->
  cH p v.aj v.ao v.aq v.ak v.ae (i:Int)=some (match gt (p.drop i) v with
   | some y=>.inl (y.aj,y.ao,y.aq,y.ak,y.ae)
   | none=>.inr (cy,false)):=by
 intro m;induction m with
 | zero=>
  intro i v h1 h2 hv;rw[cH,Is UN,List.drop_eq_nil_of_le UN];rfl
 | succ m a=>
  intro i v h1 h2 hv;have b:i<p.length:=by omega
  have hlen:=jw (v:=v);rw[cH,An UN,bH b,sb,ai.eta,Ti b,yq];rw[Hx UN];cases h:fx v p[i]with
  | none=>rfl
  | some j=>
   have hi:=qk v (qi h);show cH p (je v j).aj (je v j).ao (je v j).aq (je v j).ak (je v j).ae (bc ((i:Int)+1))=_;rw[fg UN];exact a (i+1) (je v j) UN UN UN
theorem get_eq {v:ai} (hv:v.wt<=1000000) {p:List az} (hp:p.length<=1000):cZ v p=some (match gt p v with
  | some y=>(y,true)
  | none=>(cy,false)):=by
 have h:=Hy p hp p.length 0 v UN UN hv;rw[List.drop_zero]at h;replace h:cH p v.aj v.ao v.aq v.ak v.ae 0=_:=h;unfold cZ;rw[h,sb];cases hg:gt p v with
 | none=>rfl
 | some y=>
  have:=Fg p v y hg;show(we (ai.mk y.aj y.ao y.aq y.ak y.ae)>>=_)=_;rw[ai.eta,BF (nu UN),sb]
def Hz (v:ai) (k:az):ai:=match fx v k with
 | some j=>.mk v.aj v.ao v.aq v.ak (v.ae.eraseIdx j)
 | none=>v
def dl:List az->ai->ai
 | [],v=>v
 | k::r,v=>if r=[]then Hz v k else(match fx v k with
   | some j=>nv v j (dl r (je v j))
   | none=>v)
theorem p5 {v:ai} (hv:v.wt<=1000000) (k:az):pN v k=some (Hz v k):=by
 have hlen:=jw (v:=v);unfold pN Hz;rw[p4 (nu UN),sb,BE UN,sb];cases h:fx v k with
 | none=>rw[Is (show ¬yp none>=0 by decide)]
 | some j=>
  have hj:=qi h;rw[An (show yp (some j)>=0 by show(j:Int)>=0;omega)];have d:uP v.ae (j:Int)=some (v.ae.take j):=by unfold uP;rw[An ⟨by omega,by omega⟩];rfl
  have e:jj v.ae ((j+1:Nat):Int)=some (v.ae.drop (j+1)):=by unfold jj;rw[An ⟨by omega,by omega⟩];rfl
  have b:(v.ae.take j).length=j:=by rw[TF];omega
  have f:must ((v.ae.take j).length<=0+(((j+1:Nat):Int)).toNat)=some ():=An (by rw[b];omega);show(uP v.ae (j:Int)>>=λc=>jj v.ae (bc ((j:Int)+1))>>=λa=>eg 96 c a>>=λg=>must (c.length<=0+(bc ((j:Int)+1)).toNat)>>=λ_=>some (ai.mk v.aj v.ao v.aq v.ak g))=_;rw[fg UN,d,sb,e,sb,fC (by rw[b,T5];omega),sb,f,sb];show _=some (ai.mk v.aj v.ao v.aq v.ak (v.ae.eraseIdx j));rw[TV]
theorem Q2 {α:Type} (a b c d:α):uP [a,b,c,d] 3=some [a,b,c]:=rfl
theorem Q3 {α:Type} (a b c:α):uP [a,b,c] 2=some [a,b]:=rfl
theorem Q4 {α:Type} (a b:α):uP [a,b] 1=some [a]:=rfl
theorem Ny {α:Type} (a:α):uP [a] 0=some []:=rfl
theorem ix {α:Type} [Inhabited α] {l:List α} (i:Nat) {a:α} (h:l[i]? =some a):idx l (i:Int)=some a:=by
 obtain⟨hi,rfl⟩:=an.1 h;exact bH hi
theorem IT {v:ai} {j:Nat}:(v.ae.getD j default).ah=je v j:=rfl
theorem Oe {u:ai} {j:Nat}:ai.mk u.aj u.ao u.aq u.ak (u.ae.set j (u.ae.getD j default))=nv u j (je u j):=by unfold nv je;rw[af.eta]
theorem del_eq {v:ai} (hv:v.wt<=1000000):∀(p:List az),p.length<=4->dH v p=some (dl p v):=by
 intro p hp
 have f:∀(u:ai) (k:az) (j:Nat),u.wt<=1000000->fx u k=some j->(je u j).wt<=1000000:=λu k j hu hf=>by
  have:=qk u (qi hf);omega
 have g:∀u:ai,u.wt<=1000000->u.ae.length<=4000000:=λu hu=>by have:=jw (v:=u);omega
 unfold dH;rw[p4 (nu UN),sb]
 match p,hp with
 | [],_=>rfl
 | [a],_=>
  rw[Is UX];show(uP [a] 0>>=_)=_;rw[Ny,sb];simp only[dl,Tu,reduceCtorEq,Ty];rw[Is (show ¬(0<(([]:List az).length:Int))from(by decide:¬(0<((0:Nat):Int))))];show(idx [a] ((0:Nat):Int)>>=_)=_;rw[ix 0 rfl,sb];show(pN (v) a>>=_)=_;rw[p5 hv,sb]
 | [a,b],_=>
  rw[Is UX];show(uP [a,b] 1>>=_)=_;rw[Q4,sb];simp only[dl,Tu,reduceCtorEq,Ty];rw[An (show 0<(([a]:List az).length:Int)from(by decide:0<((1:Nat):Int)))];show(idx [a] ((0:Nat):Int)>>=_)=_;rw[ix 0 rfl,sb];rw[Hx (g _ hv)];cases h0:fx (v) a with
  | none=>rfl
  | some d=>
   have e:=f _ _ _ hv h0;simp only[IT];rw[Is (show ¬((bc (0+1))<(([a]:List az).length:Int))from(by decide:¬((bc (0+1))<((1:Nat):Int))))];show(idx [a,b] ((1:Nat):Int)>>=_)=_;rw[ix 1 rfl,sb];show(pN (je v d) b>>=_)=_;rw[p5 e,sb];rfl
 | [a,b,c],_=>
  rw[Is UX];show(uP [a,b,c] 2>>=_)=_;rw[Q3,sb];simp only[dl,Tu,reduceCtorEq,Ty];rw[An (show 0<(([a,b]:List az).length:Int)from(by decide:0<((2:Nat):Int)))];show(idx [a,b] ((0:Nat):Int)>>=_)=_;rw[ix 0 rfl,sb];rw[Hx (g _ hv)];cases h0:fx (v) a with
  | none=>rfl
  | some d=>
   have e:=f _ _ _ hv h0;simp only[IT];rw[An (show(bc (0+1))<(([a,b]:List az).length:Int)from(by decide:(bc (0+1))<((2:Nat):Int)))];show(idx [a,b] ((1:Nat):Int)>>=_)=_;rw[ix 1 rfl,sb];rw[Hx (g _ e)];cases h1:fx (je v d) b with
   | none=>exact congrArg (λz=>some (z)) Oe
   | some h=>
    have i:=f _ _ _ e h1;simp only[IT];rw[Is (show ¬((bc ((bc (0+1))+1))<(([a,b]:List az).length:Int))from(by decide:¬((bc ((bc (0+1))+1))<((2:Nat):Int))))];show(idx [a,b,c] ((2:Nat):Int)>>=_)=_;rw[ix 2 rfl,sb];show(pN (je (je v d) h) c>>=_)=_;rw[p5 i,sb];rfl
 | [a,b,c,l],_=>
  rw[Is UX];show(uP [a,b,c,l] 3>>=_)=_;rw[Q2,sb];simp only[dl,Tu,reduceCtorEq,Ty];rw[An (show 0<(([a,b,c]:List az).length:Int)from(by decide:0<((3:Nat):Int)))];show(idx [a,b,c] ((0:Nat):Int)>>=_)=_;rw[ix 0 rfl,sb];rw[Hx (g _ hv)];cases h0:fx (v) a with
  | none=>rfl
  | some d=>
   have e:=f _ _ _ hv h0;simp only[IT];rw[An (show(bc (0+1))<(([a,b,c]:List az).length:Int)from(by decide:(bc (0+1))<((3:Nat):Int)))];show(idx [a,b,c] ((1:Nat):Int)>>=_)=_;rw[ix 1 rfl,sb];rw[Hx (g _ e)];cases h1:fx (je v d) b with
   | none=>exact congrArg (λz=>some (z)) Oe
   | some h=>
    have i:=f _ _ _ e h1;simp only[IT];rw[An (show(bc ((bc (0+1))+1))<(([a,b,c]:List az).length:Int)from(by decide:(bc ((bc (0+1))+1))<((3:Nat):Int)))];show(idx [a,b,c] ((2:Nat):Int)>>=_)=_;rw[ix 2 rfl,sb];rw[Hx (g _ i)];cases h2:fx (je (je v d) h) c with
    | none=>exact congrArg (λz=>some (nv v d z)) Oe
    | some m=>
     have n:=f _ _ _ i h2;simp only[IT];rw[Is (show ¬((bc ((bc ((bc (0+1))+1))+1))<(([a,b,c]:List az).length:Int))from(by decide:¬((bc ((bc ((bc (0+1))+1))+1))<((3:Nat):Int))))];show(idx [a,b,c,l] ((3:Nat):Int)>>=_)=_;rw[ix 3 rfl,sb];show(pN (je (je (je v d) h) m) l>>=_)=_;rw[p5 n,sb];rfl
theorem BG {v:ai} (hv:v.jf=true) (k:az):gt [k] (Hz v k)=none:=by
 rw[yq];unfold Hz;cases h:fx v k with
 | none=>
  show(match fx v k with | some j=>gt [] (je v j) | none=>none)=none;rw[h]
 | some j=>
  obtain⟨hk,hf⟩:=tP h;obtain⟨hj,e,_⟩:=ez hf;obtain⟨_,_,_,_,a⟩:=(im hk).1 hv
  have b:∀x∈v.ae.eraseIdx j,x.ar≠k:=λx hx c=>by
   obtain⟨i,d,hi,f⟩:=List.mem_eraseIdx_iff_getElem.1 hx
   have h1:(v.ae.map (·.ar))[i]'(by simpa using d)=(v.ae.map (·.ar))[j]'UW:=by
    rw[TD,TD,f,c,e]
   exact hi ((List.getElem_inj a).1 h1)
  have g:fx (.mk v.aj v.ao v.aq v.ak (v.ae.eraseIdx j)) k=none:=by
   unfold fx;rw[ai.jS,ai.bL,An hk,Fh b]
  show(match fx (.mk v.aj v.ao v.aq v.ak (v.ae.eraseIdx j)) k with | some j=>gt [] (je _ j) | none=>none)=none;rw[g]
theorem yr:∀(p:List az) (v:ai),v.jf=true->p≠[]->gt p (dl p v)=none
 | [],v,hv,h=>absurd rfl h
 | k::r,v,hv,_=>by
  rw[dl];by_cases a:r=[]
  ·rw[An a,a];exact BG hv k
  ·rw[Is a];cases h:fx v k with
   | none=>show gt (k::r) v=none;rw[yq,h]
   | some j=>
    obtain⟨hk,hf⟩:=tP h;obtain⟨hj,_⟩:=ez hf;show gt (k::r) (nv v j (dl r (je v j)))=none;rw[uX hk hf];exact yr r _ (by rw[mq hj];exact(ny hv hk _ (SM hj)).1) a
theorem HB (v:ai) (k:az):(Hz v k).wt<=v.wt:=by
 unfold Hz;cases h:fx v k with
 | none=>exact Sv _
 | some j=>
  show(ai.mk v.aj v.ao v.aq v.ak (v.ae.eraseIdx j)).wt<=_;have e:(ai.mk v.aj v.ao v.aq v.ak (v.ae.eraseIdx j)).wt=1+af.nz (v.ae.eraseIdx j):=ai.dY _;have h2:af.nz v.ae=af.nz (v.ae.take j)+af.nz (v.ae.drop j):=by rw[<-kh,List.take_append_drop]
  rw[e,v.dY,TV,kh,h2,Ti (qi h),dh];omega
theorem Fi (N:Nat):∀(p:List az) (v:ai),v.wt<=N->(dl p v).wt<=(p.length+1)*N
 | [],v,h=>by rw[dl];show _<=(0+1)*N;omega
 | k::r,v,h=>by
  have hm:((k::r).length+1)*N=(r.length+1)*N+N:=by simp only[SA];rw[<-Nat.succ_mul]
  rw[dl,hm];split
  ·have:=HB v k;omega
  ·cases hf:fx v k with
   | none=>show v.wt<=_;omega
   | some j=>
    show(nv v j (dl r (je v j))).wt<=_;have h1:=qk v (qi hf);have h2:=Fi N r (je v j) UN;have a:=yt v j (dl r (je v j));omega
theorem keys_eq (p:List az) (hp:p.length<=1000):gW p=some (p.all vk):=by
 have go:∀m i:Nat,i<=p.length->p.length - i=m->de p (i:Int)=some (if(p.drop i).all vk then .inl ()else .inr false):=by
  intro m;induction m with
  | zero=>
   intro i h1 h2;rw[de,Is UN,List.drop_eq_nil_of_le UN];rfl
  | succ m a=>
   intro i h1 h2;have b:i<p.length:=by omega
   rw[de,An UN,bH b,sb,BH,sb,Ti b,Tx];cases h:vk p[i]with
   | false=>rfl
   | true=>
    rw[An rfl,fg UN,a (i+1) UN UN,TS]
 have h:=go p.length 0 UN UN;rw[List.drop_zero]at h;replace h:de p 0=_:=h;unfold gW;rw[h,sb];cases p.all vk<;>rfl
theorem BI {v:ai} (hv:v.wt<=2000000):fQ v=some (decide (v.kw<=200)&&v.jf):=by
 unfold fQ;rw[oL _ (Sv _) v hv,sb,mb _ (Sv _) v hv];by_cases h:v.kw<=200
 ·rw[An UN,sb,Tg h];rfl
 ·rw[Is UN,Tf h];rfl
theorem Kk {v:ai} (hv:v.wt<=2000000):m22 v=some (decide (v.kw<=200)&&v.jf):=by
 unfold m22;obtain⟨r,e,h1,h2,a⟩:=uY _ (Sv _) v hv 200 UO UO;rw[e,sb,uZ _ (Sv _) v hv];by_cases h:v.kw<=200
 ·rw[An UN,sb,Tg h];rfl
 ·rw[Is UN,Tf h];rfl
theorem Of {v x:ai} {p:List az} (push:Bool) (hv:v.wt<=10000) (hx:x.wt<=10000) (hp:p.length<=3):∃w c,gX v p push x=some (w,c)/\(c≠0->w=v)/\
  (c=0->v.jf=true/\x.jf=true/\(∀k∈p,vk k=true)/\(wp push x p v).1=0/\w=(wp push x p v).2/\w.kw<=200):=by
 have f:we v=some v:=BF (nu UN)
 have bad:∀c:Int,c≠0->∃w a,(we v>>=λg=>some (g,c))=some (w,a)/\(a≠0->w=v)/\
  (a=0->v.jf=true/\x.jf=true/\(∀k∈p,vk k=true)/\(wp push x p v).1=0/\w=(wp push x p v).2/\w.kw<=200):=λc hc=>⟨v,c,by rw[f];rfl,λ_=>rfl,λh=>absurd h hc⟩
 unfold gX;rw[BI (v:=v) UN,sb];by_cases h1:(decide (v.kw<=200)&&v.jf)=true
 ·rw[An h1,BI (v:=x) UN,sb];by_cases h2:(decide (x.kw<=200)&&x.jf)=true
  ·rw[An h2,keys_eq p UN,sb];by_cases b:p.all vk=true
   ·have hk:∀k∈p,vk k=true:=Sy.1 b;simp only[so,Tc]at h1 h2;have d:=(wr push x p hk).1 [v] 0 UQ ⟨h1.2,by show v.wt<=_;omega⟩;replace d:bE [v] 0 p push x=some ((wp push x p v).1,[(wp push x p v).2]):=d;have e:=yu push x 10000 p v hv hx;have e:(wp push x p v).2.wt<=50000:=S4 e (SC 10000 (show p.length+2<=5 by omega));rw[An b,p4 (nu UN),sb,p4 (nu UN),sb,d,sb];show ∃w c,(idx [(wp push x p v).2] 0>>=_)=some (w,c)/\_;rw[k8,sb];show ∃w c,(if(wp push x p v).1=0 then _ else _)=some (w,c)/\_;by_cases h0:(wp push x p v).1=0
    ·rw[An h0,oL _ (Sv _) _ UN,sb];by_cases hw:(((wp push x p v).2.kw:Nat):Int)>200
     ·rw[An hw,Is UO];exact bad 9 UO
     ·rw[Is hw,An h0];exact⟨_,_,rfl,λh=>absurd rfl h,λ_=>⟨h1.2,h2.2,hk,h0,rfl,by omega⟩⟩
    ·rw[Is h0,Is h0];exact bad _ h0
   ·rw[Is b];exact bad 5 UO
  ·rw[Is h2];exact bad 5 UO
 ·rw[Is h1];exact bad 5 UO
theorem lE (v:Int):0<=bits .and .i64 v 255/\bits .and .i64 v 255<=255:=by
 unfold bits;have a:BitVec.ofInt IntKind.i64.bits 255=BitVec.ofNat 64 255:=by rfl
 simp only[a]
 have h:(BitVec.ofInt 64 v &&& BitVec.ofNat 64 255).toNat<=255:=by
  rw[BitVec.toNat_and];exact Nat.and_le_right
 show 0<=IntKind.i64.wrap ((BitVec.ofInt 64 v &&& BitVec.ofNat 64 255).toNat:Int)/\IntKind.i64.wrap ((BitVec.ofInt 64 v &&& BitVec.ofNat 64 255).toNat:Int)<=255;rw[yv UN UN];omega
def Cu (c:aF):Prop:=0<=c.fI/\c.fI<=(c.fB.length:Int)/\c.fB.length<=1048576
theorem HC {c:aF} (h:Cu c):∃v a,Fj c=some (v,a)/\0<=v/\v<=255/\Cu a:=by
 obtain⟨h0,h1,h2⟩:=h;unfold Fj;by_cases hi:c.fI<(c.fB.length:Int)
 ·obtain⟨n,b⟩:∃n:Nat,c.fI=(n:Int):=⟨c.fI.toNat,by omega⟩;rw[An hi,b,bH (show n<c.fB.length by omega),sb,fg UN];exact⟨_,_,rfl,(lE _).1,(lE _).2,⟨by show(0:Int)<=((n+1:Nat):Int);omega,by show((n+1:Nat):Int)<=(c.fB.length:Int);omega,h2⟩⟩
 ·rw[Is hi];exact⟨_,_,rfl,(lE _).1,(lE _).2,⟨h0,h1,h2⟩⟩
theorem iK {c:aF} (h:Cu c) {n:Nat} (h1:1<=n) (h2:n<=256):∃(v:Nat) (a:aF),pf c (n:Int)=some ((v:Int),a)/\v<n/\Cu a:=by
 obtain⟨v,a,e,d,f,b⟩:=HC h;unfold pf;rw[Is UN,An UN,e,sb];have hm:must ((n:Int)≠0)=some ():=An UN;obtain⟨u,rfl⟩:∃u:Nat,v=(u:Int):=⟨v.toNat,by omega⟩;refine⟨u % n,a,?_,Nat.mod_lt _ UN,b⟩;show(must ((n:Int)≠0)>>=λ_=>some (((u:Int)).tmod (n:Int),a))=_;rw[hm,sb,<-Int.ofNat_tmod]
theorem k9 {c:aF} (h:Cu c) {n:Nat} (h1:1<=n) (h2:n<=256):∃b a,om c (n:Int)=some (b,a)/\Cu a:=by
 obtain⟨v,a,e,_,hc⟩:=iK h h1 h2;unfold om;rw[e,sb];exact UJ
theorem tQ {c:aF} (h:Cu c) (l:List Int) (h1:1<=l.length) (h2:l.length<=256):∃x a,DF c l=some (x,a)/\Cu a:=by
 obtain⟨v,a,e,hv,hc⟩:=iK h h1 h2;unfold DF;rw[e,sb];show ∃x b,(idx l (v:Int)>>=λd=>some (d,a))=some (x,b)/\Cu b;rw[bH hv,sb];exact UJ
theorem BJ {c:aF} (h:Cu c) (l:List cR) (h1:1<=l.length) (h2:l.length<=256):∃x a,IU c l=some (x,a)/\Cu a:=by
 obtain⟨v,a,e,hv,hc⟩:=iK h h1 h2;unfold IU;rw[e,sb];show ∃x b,(idx l (v:Int)>>=λd=>some (d,a))=some (x,b)/\Cu b;rw[bH hv,sb];exact UJ
theorem DV {c:aF} (h:Cu c):∃x a,zm c=some (x,a)/\Cu a:=by
 unfold zm;obtain⟨x,a,e,hc⟩:=BJ h ([[],[97],[98],[120,49],[48],[53],[45,53],[48,53],[45,48],[49,50,97],[48,48,55],[49,48,48,48,48,48,48,48,48,48],[49,48,48,48,48,48,48,48,48,49],[32,49],[105,116,39,115],[10],[60,105,62],[255,59],[110,97,109,101],[115,58,49,58]]:List cR) UO UO;rw[e,sb];exact UJ
theorem tR {c:aF} (h:Cu c):∃x a,zn c=some (x,a)/\Cu a:=by
 unfold zn;obtain⟨b,f,d,h1⟩:=k9 h (n:=3) UO UO;replace d:om c 3=some (b,f):=d;rw[d,sb];show ∃x a,(if b=true then _ else _)=some (x,a)/\Cu a;split
 ·obtain⟨x,a,e,hc⟩:=BJ h1 ([[97],[98],[99],[],[48,53],[120]]:List cR) UO UO;rw[e,sb];exact UJ
 ·obtain⟨x,a,e,hc⟩:=tQ h1 ([0,1,2,3,4,(-1),7,1000000000,(-1000000000)]:List Int) UO UO;rw[e,sb];exact UJ
theorem BK {c:aF} (h:Cu c):∃x a,IH c=some (x,a)/\Cu a:=by
 unfold IH;obtain⟨x,a,e,hc⟩:=tQ h ([(-1),0,1,2,255,256,65535,2147483647,2147483648,4294967295,4294967296,(-2147483648),9223372036854775807,(-9223372036854775808)]:List Int) UO UO;rw[e,sb];exact UJ
def Bd:Nat->Nat
 | 0=>1
 | d+1=>1+10*Bd d
theorem HD:∀d,1<=Bd d
 | 0=>Sv _
 | d+1=>by unfold Bd;omega
theorem jk (a b:Int) (s:cR) (n:Int):(ai.mk a b s n []).wt=1:=by rw[ai.dY];rfl
theorem xc {c:aF} (h:Cu c):∃x a,Dd c=some (x,a)/\x.wt=1/\Cu a:=by
 unfold Dd;obtain⟨v,e,g,hv,h1⟩:=iK h (n:=8) UO UO;replace g:pf c 8=some ((v:Int),e):=g;rw[g,sb];show ∃(x:ai) (a:aF),(if(v:Int)=0 then _ else _)=some (x,a)/\x.wt=1/\Cu a;split
 ·exact⟨_,_,rfl,jk _ _ _ _,h1⟩
 split
 ·obtain⟨b,f,d,h2⟩:=k9 h1 (n:=2) UO UO;replace d:om e 2=some (b,f):=d;rw[d,sb];show ∃(x:ai) (a:aF),(wU b>>=_)=some (x,a)/\x.wt=1/\Cu a;unfold wU;split<;>exact⟨_,_,rfl,jk _ _ _ _,h2⟩
 have tail:∀b:Bool,∃(x:ai) (a:aF),(if b=true then zm e>>=λ(k,l)=>some ((ai.mk 3 0 k 0 []),l)else
    (if(v:Int)=4 then
     DF e ([0,1,(-1),5,10,999999999,1000000000,(-1000000000)]:List Int)>>=λ(i,m)=>
     some ((ai.mk 2 i [] 0 []),m)
    else
     pf e 20>>=λ(j,o)=>
     some ((ai.mk 2 (bc (j - 5)) [] 0 []),o)))=some (x,a)/\x.wt=1/\Cu a:=λb=>by
  split
  ·obtain⟨x,f,d,h2⟩:=DV h1;rw[d,sb];exact⟨_,_,rfl,jk _ _ _ _,h2⟩
  split
  ·obtain⟨x,f,d,h2⟩:=tQ h1 ([0,1,(-1),5,10,999999999,1000000000,(-1000000000)]:List Int) UO UO;rw[d,sb];exact⟨_,_,rfl,jk _ _ _ _,h2⟩
  ·obtain⟨x,f,d,_,h2⟩:=iK h1 (n:=20) UO UO;replace d:pf e 20=some ((x:Int),f):=d;rw[d,sb];exact⟨_,_,rfl,jk _ _ _ _,h2⟩
 split
 ·exact tail _
 ·exact tail _
theorem LO {n:Nat} (h:n<1000):bc (((n+1:Nat):Int) - 1)=(n:Int):=by rw[bc,yv UN UN];omega
theorem BL:∀(d:Nat),d<100->∀c:aF,Cu c->∃(x:ai) (g:aF),wi c (d:Int)=some (x,g)/\x.wt<=Bd d/\Cu g:=by
 intro d;induction d with
 | zero=>
  intro _ c h;obtain⟨x,g,e,hd,hc⟩:=xc h;rw[wi,An UN,e,sb];exact⟨_,_,rfl,T6 hd,hc⟩
 | succ d z=>
  intro hd c h
  have go:∀(n:Nat),n<=10->∀(c:aF) (y:Int) (l:List af),Cu c->l.length+n<=10->af.nz l<=l.length*Bd d->
    ∃b i q j f,hZ ((d+1:Nat):Int) c.fB c.fI c.fH y l (n:Int)=some (b,i,q,j,f)/\Cu (aF.mk b i q)/\f.length<=10/\af.nz f<=10*Bd d:=by
   intro n;induction n with
   | zero=>
    intro _ c y l hc F hs;rw[hZ,Is UN];exact⟨_,_,_,_,_,rfl,hc,by omega,S4 hs (SC _ UN)⟩
   | succ n m=>
    intro G c y l hc F hs;obtain⟨k,t,o,h1⟩:=tR hc;obtain⟨b,a,p,h2⟩:=k9 h1 (n:=2) UO UO;replace o:zn (aF.mk c.fB c.fI c.fH)=some (k,t):=o;replace p:om t 2=some (b,a):=p
    have s:∀k:az,∃b i q j f,(uC (ai.mk 4 0 [] y l) (az.mk k.av k.ao k.aq)>>=λH=>
      (if H<0 then
       wi (aF.mk a.fB a.fI a.fH) (bc (((d+1:Nat):Int) - 1))>>=λ(A,u)=>
       eg 96 l ([(af.mk (az.mk k.av k.ao k.aq) A)]:List af)>>=λD=>
       (if k.av=true then
        hZ ((d+1:Nat):Int) u.fB u.fI u.fH y D (bc (((n+1:Nat):Int) - 1))
       else
        DG y (bc (k.ao+1))>>=λB=>
        hZ ((d+1:Nat):Int) u.fB u.fI u.fH B D (bc (((n+1:Nat):Int) - 1)))
      else
       hZ ((d+1:Nat):Int) a.fB a.fI a.fH y l (bc (((n+1:Nat):Int) - 1))))=some (b,i,q,j,f)/\Cu (aF.mk b i q)/\f.length<=10/\af.nz f<=10*Bd d:=λk=>by
     obtain⟨r,I,_,_⟩:=u0 (ai.mk 4 0 [] y l) (az.mk k.av k.ao k.aq) (show l.length<=4000000 by omega);rw[I,sb,LO (show n<1000 by omega),LO (show d<1000 by omega)];split
     ·obtain⟨x,C,v,hx,w⟩:=z UN a h2;replace v:wi (aF.mk a.fB a.fI a.fH) (d:Int)=some (x,C):=v;rw[v,sb];show ∃b i q j f,(eg 96 l [af.mk (az.mk k.av k.ao k.aq) x]>>=_)=some (b,i,q,j,f)/\_;rw[fC UX,sb]
      have E:af.nz (l++[af.mk (az.mk k.av k.ao k.aq) x])<=(l++[af.mk (az.mk k.av k.ao k.aq) x]).length*Bd d:=by
       rw[kh,dh,ki,TM,SD];have K:(af.mk (az.mk k.av k.ao k.aq) x).ah.wt<=Bd d:=hx;simp only[List.length_singleton,Nat.one_mul];omega
      split
      ·exact m UN C y _ w US E
      ·rw[BM,sb];exact m UN C _ _ w US E
     ·exact m UN a y l h2 UN hs
    rw[hZ,An UN,o,sb];show ∃b i q j f,((om t 2>>=_)>>=_)=some (b,i,q,j,f)/\_;rw[p,sb];show ∃J i q j f,((if b=true then _ else _)>>=_)=some (J,i,q,j,f)/\_;split
    ·split
     ·exact s (az.mk false y [])
     ·exact s k
    ·exact s k
  rw[wi,Is UN];obtain⟨b,t,o,h1⟩:=k9 h (n:=3) UO UO;replace o:om c 3=some (b,t):=o;rw[o,sb];show ∃(x:ai) (g:aF),(if b=true then _ else _)=some (x,g)/\x.wt<=Bd (d+1)/\Cu g;split
  ·obtain⟨n,a,p,G,h2⟩:=iK h1 (n:=5) UO UO;replace p:pf t 5=some ((n:Int),a):=p;obtain⟨L,M,N,j,f,v,w,h4,O⟩:=go n UN a 0 [] h2 US (by rw[ki];omega);rw[p,sb];show ∃(x:ai) (g:aF),(hZ ((d+1:Nat):Int) a.fB a.fI a.fH 0 [] (n:Int)>>=_)=some (x,g)/\x.wt<=Bd (d+1)/\Cu g;rw[v,sb];exact⟨_,_,rfl,by rw[ai.dY];unfold Bd;show 1+af.nz f<=_;omega,w⟩
  ·obtain⟨x,g,e,hd,hc⟩:=xc h1;rw[e,sb];exact⟨_,_,rfl,by have:=HD (d+1);omega,hc⟩
def wu (v:ai):Prop:=v.wt<=2000
theorem wu.sm {v:ai} (h:wu v):Sm v:=nu (by have:v.wt<=2000:=h;omega)
theorem wu.len {v:ai} (h:wu v):v.ae.length<2000:=by have:=jw (v:=v);have:v.wt<=2000:=h;omega
theorem HE {c:aF} (h:Cu c):∃x e,Jz c=some (x,e)/\wu x/\Cu e:=by
 unfold Jz;obtain⟨x,l,m,hx,h1⟩:=BL 3 UO c h;replace m:wi c 3=some (x,l):=m;replace hx:x.wt<=1111:=hx;have u:=hx;rw[ai.dY]at u;have hlen:=p6 x.ae;obtain⟨n,r,o,v,h2⟩:=iK h1 (n:=14) UO UO;replace o:pf l 14=some ((n:Int),r):=o;rw[m,sb];show ∃y e,(pf l 14>>=_)=some (y,e)/\wu y/\Cu e;rw[o,sb];show ∃y e,(if(n:Int)=0 then _ else _)=some (y,e)/\wu y/\Cu e;have sm:∀a b s d,wu (.mk a b s d x.ae):=λa b s d=>by show ai.wt _<=2000;rw[ai.dY,ai.bL];omega
 split
 ·obtain⟨y,i,f,g⟩:=BK h2;rw[f,sb];exact⟨_,_,rfl,sm _ _ _ _,g⟩
 split
 ·obtain⟨y,i,f,g⟩:=BK h2;rw[f,sb];exact⟨_,_,rfl,sm _ _ _ _,g⟩
 split
 ·obtain⟨y,i,f,g⟩:=tQ h2 ([(-1),4,5,6,7,8,9]:List Int) UO UO;rw[f,sb];exact⟨_,_,rfl,sm _ _ _ _,g⟩
 try rw[sb]
 split
 ·obtain⟨k,i,f,g⟩:=tR h2;obtain⟨y,t,j,hy,h4⟩:=xc g;rw[f,sb];show ∃y e,(Dd i>>=_)=some (y,e)/\wu y/\Cu e;rw[j,sb];show ∃z e,(eg 96 x.ae [af.mk k y]>>=_)=some (z,e)/\wu z/\Cu e;rw[fC UX,sb];refine⟨_,_,rfl,?_,h4⟩;show ai.wt _<=2000;rw[ai.dY,ai.bL,kh,dh,ki];have w:(af.mk k y).ah.wt=1:=hy;omega
 split
 ·obtain⟨p,i,f,_,g⟩:=iK h2 (n:=3) UO UO;replace f:pf r 3=some ((p:Int),i):=f;obtain⟨q,t,j,_,h4⟩:=iK g (n:=3) UO UO;replace j:pf i 3=some ((q:Int),t):=j;rw[f,sb];show ∃y e,(pf i 3>>=_)=some (y,e)/\wu y/\Cu e;rw[j,sb];exact⟨_,_,rfl,by show ai.wt _<=2000;rw[jk];omega,h4⟩
 ·exact⟨_,_,rfl,by show x.wt<=2000;omega,h2⟩
theorem BN {v x:ai} (hv:v.wt+x.wt<=5000) (k:az):∃w,GM v k x=some w/\w.wt<=v.wt+x.wt:=by
 have hlen:=jw (v:=v);obtain⟨r,c,h0,h1⟩:=u0 v k UN;unfold GM;rw[fC (by simp only[SK];omega),sb,sb,c,sb,Tq];by_cases a:r>=0
 ·obtain⟨j,rfl⟩:∃j:Nat,r=(j:Int):=⟨r.toNat,by omega⟩;rw[An a,bH (show j<v.ae.length by omega),sb,sb];refine⟨_,rfl,?_⟩;rw[ai.dY,ai.bL,v.dY];have:=tS v.ae ((j:Int).toNat) (af.mk v.ae[j].ar x);have e:(af.mk v.ae[j].ar x).ah.wt=x.wt:=rfl;omega
 ·have sm:∀n,(ai.mk v.aj v.ao v.aq n (v.ae++[af.mk k x])).wt<=v.wt+x.wt:=λn=>by
   rw[ai.dY,ai.bL,kh,dh,ki,v.dY];have e:(af.mk k x).ah.wt=x.wt:=rfl;omega
  rw[Is a,sb,fC UX,sb];try rw[sb]
  by_cases b:k.av=true
  ·rw[An b];exact⟨_,rfl,sm _⟩
  ·rw[Is b,BM,sb];exact⟨_,rfl,sm _⟩
theorem BO {c:aF} (h:Cu c):∃x d,IJ c=some (x,d)/\wu x/\Cu d:=by
 unfold IJ
 have go:∀(n:Nat),n<=50->∀(c:aF) (v:ai),Cu c->v.wt+n*11<=600->
   ∃b i q e f g j l,kX c.fB c.fI c.fH v.aj v.ao v.aq v.ak v.ae (n:Int)=some (b,i,q,e,f,g,j,l)/\Cu (aF.mk b i q)/\wu (.mk e f g j l):=by
  intro n;induction n with
  | zero=>
   intro _ c v hc hv;rw[kX,Is UN];exact⟨_,_,_,_,_,_,_,_,rfl,hc,by rw[ai.eta];show v.wt<=2000;omega⟩
  | succ n r=>
   intro u c v hc hv;obtain⟨k,a,m,h1⟩:=tR hc;obtain⟨x,s,o,hx,h2⟩:=BL 1 UO a h1;replace hx:x.wt<=11:=hx;obtain⟨w,p,hw⟩:=BN (v:=v) (x:=x) UN k;replace m:zn (aF.mk c.fB c.fI c.fH)=some (k,a):=m;replace o:wi a 1=some (x,s):=o;rw[kX,An UN,m,sb];show ∃b i q e f g j l,(wi a 1>>=_)=some (b,i,q,e,f,g,j,l)/\_;rw[o,sb];show ∃b i q e f g j l,(GM (ai.mk v.aj v.ao v.aq v.ak v.ae) k x>>=_)=some (b,i,q,e,f,g,j,l)/\_;rw[ai.eta,p,sb,LO UN];exact r UN s w h2 UN
 obtain⟨n,a,m,u,h1⟩:=iK h (n:=6) UO UO;replace m:pf c 6=some ((n:Int),a):=m;obtain⟨b,i,q,e,f,g,j,l,o,h2,y⟩:=go n UN a (.mk 4 0 [] 0 []) h1 (by rw[jk];omega);replace o:kX a.fB a.fI a.fH 4 0 [] 0 [] (n:Int)=some (b,i,q,e,f,g,j,l):=o;rw[m,sb];show ∃x d,(kX a.fB a.fI a.fH 4 0 [] 0 [] (n:Int)>>=_)=some (x,d)/\wu x/\Cu d;rw[o,sb];obtain⟨t,z,p,h4⟩:=k9 h2 (n:=6) UO UO;replace p:om (aF.mk b i q) 6=some (t,z):=p;show ∃x d,(om (aF.mk b i q) 6>>=_)=some (x,d)/\wu x/\Cu d;rw[p,sb];show ∃x d,(if t=true then _ else _)=some (x,d)/\wu x/\Cu d;split
 ·obtain⟨x,D,A,B,C⟩:=HE h4;rw[A,sb];exact⟨_,_,rfl,B,C⟩
 ·exact⟨_,_,rfl,y,h4⟩
theorem HF {b:List UInt8} (h:b.length<=1048576):∃c,JJ b=some c/\Cu c:=by
 unfold JJ
 have go:∀m i:Nat,i<=b.length->b.length - i=m->∀y:Int,∃r,mr b y (i:Int)=some r:=by
  intro m;induction m with
  | zero=>intro i h1 h2 y;rw[mr,Is UN];exact⟨_,rfl⟩
  | succ m a=>
   intro i h1 h2 y;have d:i<b.length:=by omega
   rw[mr,An UN,bH d,sb,fg UN];split
   ·exact a (i+1) UN UN _
   ·exact⟨_,rfl⟩
 obtain⟨r,e⟩:=go b.length 0 UN UN (bc (193017+(b.length:Int)));replace e:mr b (bc (193017+(b.length:Int))) 0=some r:=e;rw[e,sb];exact⟨_,rfl,by show(0:Int)<=0;omega,by show(0:Int)<=(b.length:Int);omega,h⟩
theorem DW {c:aF} (h:Cu c):∃p f,gV c 3=some (p,f)/\p.length<=3/\Cu f:=by
 unfold gV
 have go:∀(n:Nat),n<=3->∀(c:aF) (l:List az),Cu c->l.length+n<=3->
   ∃b i q e,dc c.fB c.fI c.fH l (n:Int)=some (b,i,q,e)/\Cu (aF.mk b i q)/\e.length<=3:=by
  intro n;induction n with
  | zero=>
   intro _ c l hc j;rw[dc,Is UN];exact⟨_,_,_,_,rfl,hc,by omega⟩
  | succ n g=>
   intro m c l hc j;obtain⟨k,a,d,h1⟩:=tR hc;replace d:zn (aF.mk c.fB c.fI c.fH)=some (k,a):=d;rw[dc,An UN,d,sb];show ∃b i q e,(eg 32 l ([k]:List az)>>=_)=some (b,i,q,e)/\_;rw[fC UX,sb,LO UN];exact g UN a _ h1 (by simp only[TM,SA,SK];omega)
 obtain⟨n,a,d,m,h1⟩:=iK h (n:=4) UO UO;replace d:pf c (bc (3+1))=some ((n:Int),a):=d;obtain⟨b,i,q,e,o,h2,r⟩:=go n UN a [] h1 (by simp only[SK];omega);rw[d,sb];show ∃p f,(dc a.fB a.fI a.fH [] (n:Int)>>=_)=some (p,f)/\_;rw[o,sb];exact⟨_,_,rfl,r,h2⟩
theorem DX (c:aF):∀(m i:Nat) (v:ai),i<=150->150 - i=m->v.wt<=2000+i->
  ∃a b s n l,cc c v.aj v.ao v.aq v.ak v.ae (i:Int)=some (c.fB,c.fI,c.fH,a,b,s,n,l)/\(ai.mk a b s n l).wt<=2200:=by
 intro m;induction m with
 | zero=>
  intro i v h1 h2 hv;rw[cc,Is UN];exact⟨_,_,_,_,_,rfl,by rw[ai.eta];omega⟩
 | succ m d=>
  intro i v h1 h2 hv;have hx:(ai.mk 0 0 [] 0 []).wt=1:=jk _ _ _ _;obtain⟨w,e,hw⟩:=BN (v:=v) (x:=.mk 0 0 [] 0 []) UN (.mk false (i:Int) []);rw[cc,An UN,ai.eta,e,sb,fg UN];exact d (i+1) w UN UN UN
theorem DY {b:List UInt8} (h:b.length<=1048576):∃v p q x,dX b=some (v,p,q,x)/\v.wt<=2200/\p.length<=3/\x.wt<=2200:=by
 unfold dX;obtain⟨c,y,h1⟩:=HF h;obtain⟨v,J,z,hv,h2⟩:=BO h1;obtain⟨p,u,A,hp,B⟩:=DW h2;obtain⟨t,d,i,h4⟩:=k9 B (n:=9) UO UO;replace i:om u 9=some (t,d):=i;have hv:v.wt<=2000:=hv
 have key:∃a b s n l,((om u 9>>=λx=>match x with
   | (j,e)=>if j=true then cc e v.aj v.ao v.aq v.ak v.ae 0 else some (e.fB,e.fI,e.fH,v.aj,v.ao,v.aq,v.ak,v.ae)):Option _)=some (d.fB,d.fI,d.fH,a,b,s,n,l)/\(ai.mk a b s n l).wt<=2200:=by
  rw[i,sb];cases t with
  | false=>exact⟨_,_,_,_,_,rfl,by rw[ai.eta];omega⟩
  | true=>exact DX d 150 0 v UN UN UN
 obtain⟨a,K,s,n,l,C,hw⟩:=key;obtain⟨x,D,E,hx,F⟩:=BO h4;have hx:x.wt<=2000:=hx;obtain⟨w,f,k,G⟩:=k9 F (n:=9) UO UO;replace k:om D 9=some (w,f):=k;obtain⟨H,I,g,L⟩:=k9 G (n:=3) UO UO;replace g:om f 3=some (H,I):=g;rw[y,sb,z,sb];dsimp only;rw[A,sb];dsimp only;rw[C,sb];dsimp only;rw[show aF.mk d.fB d.fI d.fH=d from rfl,E,sb];dsimp only;rw[k,sb];cases w with
 | true=>
  show ∃m o r x',(om f 3>>=_)=some (m,o,r,x')/\_;rw[g,sb];exact⟨_,_,_,_,rfl,hw,hp,hw⟩
 | false=>
  show ∃m o r x',(om f 3>>=_)=some (m,o,r,x')/\_;rw[g,sb];exact⟨_,_,_,_,rfl,hw,hp,by omega⟩
theorem DZ (push:Bool) (p:List az) (v:ai):(xd push p v).length<=p.length+1:=by
 unfold xd;split<;>simp
theorem BP {w:ai} (hw:w.wt<=100000) (hv:w.jf=true) {q:List az} (hq:q.length<=4):∃d z,dH w q=some d/\cZ d q=some (z,(q.length:Int)==0):=by
 have hd:=Fi 100000 q w hw;have hd:(dl q w).wt<=500000:=S4 hd (SC 100000 (show q.length+1<=5 by omega));have hg:=get_eq (v:=dl q w) UN (p:=q) UN;refine⟨dl q w,?_⟩;cases q with
 | nil=>
  replace hg:cZ (dl [] w) []=some (dl [] w,true):=hg;exact⟨_,del_eq UN _ hq,hg⟩
 | cons k r=>
  rw[yr (k::r) w hv UQ]at hg;refine⟨cy,del_eq UN _ hq,?_⟩;rw[hg];have:((((k::r).length:Nat):Int)==0)=false:=by simp only[SA];exact TY.2 UN
  rw[this]
theorem HG {v:ai} (hv:v.wt<=1000000) (push:Bool) {p:List az} (hp:p.length<=3):
  ((if push=true then cZ v p>>=λx=>eg 32 ([]:List az) p>>=λb=>eg 32 b ([(az.mk false x.1.ak [])]:List az)>>=λc=>some c
   else some p):Option (List az))=some (xd push p v):=by
 unfold xd;cases push with
 | false=>rfl
 | true=>
  rw[An rfl,An rfl,get_eq hv UN];have e:eg 32 ([]:List az) p=some p:=fC (by simp only[SK];omega);have a:∀k:az,eg 32 p ([k]:List az)=some (p++[k]):=λk=>fC UX;unfold nx;cases gt p v with
  | none=>rw[sb];dsimp only;rw[e,sb,a,sb];rfl
  | some y=>rw[sb];dsimp only;rw[e,sb,a,sb]
theorem zw (b:List UInt8):jl b=some true:=by
 unfold jl;by_cases hb:(b.length:Int)>1048576
 ·rw[An hb]
 rw[Is hb];obtain⟨v,p,push,x,h,hv,hp,hx⟩:=DY (b:=b) UN;obtain⟨w,c,i,h1,h2⟩:=Of (v:=v) (x:=x) (p:=p) push UN UN hp;rw[h,sb];dsimp only;rw[sb];dsimp only;rw[ai.eta,ai.eta,i,sb];dsimp only;by_cases hc:c=0
 ·obtain⟨e,j,k,l,a,m⟩:=h2 hc
  have r:w.wt<=50000:=by
   rw[a];exact S4 (yu push x 10000 p v UN UN) (SC 10000 (show p.length+2<=5 by omega))
  have f:w.jf=true:=by rw[a];exact xe push x j p v k e
  have bG:gt (xd push p v) w=some x:=by rw[a];exact xf push x p v e l
  have s:=DZ push p v;obtain⟨d,z,n,o⟩:=BP (w:=w) UN f (q:=xd push p v) UN;have g:=get_eq (v:=w) UN (p:=xd push p v) UN;rw[bG]at g;rw[An hc,sb];dsimp only;rw[Kk UN,f,Tg m,sb,An (show(true&&true)=true from rfl),HG (v:=v) UN push hp,sb,g,sb];dsimp only;rw[n,sb,o,sb];dsimp only;rw[sb,An rfl,u5 (nu UN),sb,An rfl];simp
 ·rw[Is hc,h1 hc,u5 (nu UN),sb,sb]
theorem Bt (code:List UInt8):ACall Tryd.prog 3 [sl 1 cB code] [] (λres _=>res=.bool true):=
 (tT (zw code)).mono (λ_ _ h=>h.1)
theorem xg {S:Nat->Prop} {w:World} {sz n:Nat} {f g:Nat->List PV} {v:Value} (h:aI S w (.cP sz n f) v) (e:∀i,i<n->f i=g i):aI S w (.cP sz n g) v:=by
 cases h with
 | iq=>exact .iq _ _ _ _
 | cP _ _ _ b off c a d hlen hc k l=>
  exact .cP sz n g b off c a d (λi hi=>by rw[<-e i hi];exact hlen i hi) hc (λi j pv hi hj=>k i j pv hi (by rw[e i hi];exact hj)) (λi j pv hi hj=>l i j pv hi (by rw[e i hi];exact hj))
theorem w7 {S:Nat->Prop} {w:World} {a:Option Addr} {len cap:Nat} {c:List Int}
  (h:(a=none/\len=0/\cap=0/\c=[])\/∃x,a=some x/\len<=cap/\cap<=maxLen/\c.length=cap/\(∀i,i<c.length->w.cell? (x.add i)=some (.int .u8 (c.getD i 0)))/\∀n∈c,(Lit.int .u8 n).wf=true)
  (d:∀b,b<w.heap.size->S b):∃e:List UInt8,aI S w (sl 1 cB e) (.slice a len cap):=by
 have hp:=zx h d
 have f:len<=c.length:=by
  rcases h with⟨rfl,rfl,rfl,rfl⟩ | ⟨x,rfl,k,hm,f,l,g⟩
  ·simp
  ·omega
 have hb:∀i,0<=c.getD i 0/\c.getD i 0<=255:=BQ h;refine⟨(c.take len).map λz=>UInt8.ofNat z.toNat,?_⟩;have hlen:((c.take len).map λz=>UInt8.ofNat z.toNat).length=len:=by simp;omega
 show aI S w (.cP 1 ((c.take len).map λz=>UInt8.ofNat z.toNat).length (row cB _)) _;rw[hlen];refine xg hp (λi hi=>?_);have m:=hb i;rw[gL (by rw[hlen];exact hi),TD,TO]
 have j:c.getD i 0=c[i]'UN:=by
  rw[Sz];simp [show i<c.length by omega]
 rw[<-j];show _=[PV.int .u8 ((UInt8.ofNat (c.getD i 0).toNat).toNat:Int)];congr 2;rw[UInt8.toNat_ofNat'];omega
end Go.Am
