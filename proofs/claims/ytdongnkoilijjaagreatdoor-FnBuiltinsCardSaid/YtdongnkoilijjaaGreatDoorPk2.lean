/- Texts of the proof, joined and shortened. -/
import Derived.Test.YtdongnkoilijjaaGreatDoorPk1
import Derived.MapKept
import Derived.Lib.ConvBytes
import Derived.Lib.AtoiErrMem
import Derived.Deep.LoopGhost
set_option linter.unusedVariables false
set_option linter.unusedSimpArgs false
namespace Go.Am
open Go Go.RowKit
section
variable {P:Program}{T:lS}{μ:Mu}{h:List ai}{S:Nat->Prop}{w:World}
theorem gG (t tx ty e:TypeId) (i:TypeInfo) (d:TypeDesc) (j:P.underlying t=some (.slice e)) (k:P.underlying tx=some d) (hd:(∃l,d=.slice l)\/d=.string) (hi:P.info? e=some i)
  (f:Option Addr) (c g:Nat) (h:Value) (m:Nat) (news:Array Value) (w':World) (hlen:(Builtin.lenOf h).run P w=.ok m w) (n:(Builtin.firstCells i.size m h).run P w=.ok news w) (o:c+m<=g)
  (b:match f with | some a=>(storeCells (a.add (c*i.size)) news.toList).run P w=.ok () w' | none=>w'=w):
  (Builtin.append_ #[t,tx] ty #[.slice f c g,h]).run P w=.ok (.slice f (c+m) g) w':=by
 rcases hd with⟨l,rfl⟩ | rfl<;>cases f with
 | none=>
  have b:w'=w:=b;subst b;simp [Builtin.append_,run_underlying j,run_underlying k,sizeOf,typeInfo,hi,hlen,o,n]
 | some a=>
  have b:(storeCells (a.add (c*i.size)) news.toList).run P w=.ok () w':=b;simp [Builtin.append_,run_underlying j,run_underlying k,sizeOf,typeInfo,hi,hlen,o,n,b]
theorem jv (t tx ty e:TypeId) (i:TypeInfo) (z:Value) (d:TypeDesc) (n:P.underlying t=some (.slice e)) (o:P.underlying tx=some d) (hd:(∃j,d=.slice j)\/d=.string) (hi:P.info? e=some i) (p:i.zero=some z)
  (k:Option Addr) (a b:Nat) (c:Value) (m:Nat) (l news:Array Value) (hlen:(Builtin.lenOf c).run P w=.ok m w) (q:(Builtin.firstCells i.size a (.slice k a b)).run P w.drew=.ok l w.drew)
  (r:(Builtin.firstCells i.size m c).run P w.drew=.ok news w.drew) (hg:b<a+m) (f:0<i.bytes) (s:(a+m)*i.bytes<=140737488355328):
  (Builtin.append_ #[t,tx] ty #[.slice k a b,c]).run P w=.ok (.slice (some ⟨w.heap.size,0,none⟩) (a+m) (grownCap w (a+m) b e))
   (w.drew.alloc (.cells (l++news++Builtin.zeroCells z.cells (grownCap w (a+m) b e - (a+m))) e)):=by
 have u:¬(a+m<=b):=by omega
 have hle:a+m<=(a+m)*i.bytes:=Nat.le_mul_of_pos_right _ f;have g:¬(9223372036854775807<((a:Int)+(m:Int))):=by omega
 have v:=growslice_fits hg s;have h:¬(281474976710656<Builtin.nextslicecap (a+m) b*i.bytes):=by omega
 rcases hd with⟨j,rfl⟩ | rfl<;>
  simp [Builtin.append_,run_underlying n,run_underlying o,sizeOf,typeInfo,zeroValue,hi,p,hlen,u,g,h,Question.forced,r,q,newRow,grownCap]
theorem C4 (b off m sz:Nat) (k:0<sz) (g:Nat->List PV) (l:∀i,i<m->(g i).length=sz)
  (o:∀(i j:Nat) (pv:PV),i<m->(g i)[j]? =some pv->∃u,w.cell? ⟨b,off+i*sz+j,none⟩=some u/\jM μ h S w pv u):
  ∃news:Array Value,news.size=m*sz/\(∀(i j:Nat) (pv:PV),i<m->(g i)[j]? =some pv->∃u,news[i*sz+j]? =some u/\jM μ h S w pv u)/\
   (∀u∈news.toList,u.oneCell'=true)/\∀w',bR w w'->(loadCells ⟨b,off,none⟩ (m*sz)).run P w'=.ok news w':=by
 let F:Nat->Value:=λq=>(w.cell? ⟨b,off+q,none⟩).getD undef
 have f:∀(i j:Nat) (pv:PV),i<m->(g i)[j]? =some pv->w.cell? ⟨b,off+(i*sz+j),none⟩=some (F (i*sz+j))/\jM μ h S w pv (F (i*sz+j)):=λi j pv hi hj=>by
  obtain⟨u,h1,h2⟩:=o i j pv hi hj;have e:off+(i*sz+j)=off+i*sz+j:=by omega
  have e2:F (i*sz+j)=u:=by
   show(w.cell? ⟨b,off+(i*sz+j),none⟩).getD undef=u;rw[e,h1];rfl
  rw[e2,e];exact⟨h1,h2⟩
 have d:∀q,q<m*sz->∃pv,q / sz<m/\(g (q / sz))[q % sz]? =some pv:=λq d=>by
  have h1:q / sz<m:=(Nat.div_lt_iff_lt_mul k).2 d;have h2:q % sz<(g (q / sz)).length:=by rw[l _ h1];exact Nat.mod_lt _ k
  exact⟨_,h1,abm h2⟩
 have n:∀q,q / sz*sz+q % sz=q:=λq=>by rw[Nat.mul_comm];exact Nat.div_add_mod q sz
 refine⟨((List.range (m*sz)).map F).toArray,by simp,λi j pv hi hj=>?_,λu hu=>?_,λw' p=>?_⟩
 ·have s:j<sz:=by rw[<-l i hi];exact(As.1 hj).1
  have r:i*sz+j<m*sz:=by
   have:(i+1)*sz<=m*sz:=abB _ hi;rw[abC]at this;omega
  exact⟨F (i*sz+j),by simp [r],(f i j pv hi hj).2⟩
 ·simp only[abN,adn]at hu;obtain⟨q,a,rfl⟩:=hu;obtain⟨pv,h1,h2⟩:=d q a;have:=(f _ _ pv h1 h2).2.c.one
  rwa [n]at this
 ·refine run_loadCells w' ⟨b,off,none⟩ (m*sz) F λq a=>?_;obtain⟨pv,h1,h2⟩:=d q a;have:=(f _ _ pv h1 h2).1;rw[n]at this;rw[Addr.add_lit];exact p.cell this
theorem GD:∀{l:List PV},Xb l=true->∀{j:Nat} {pv:PV},l[j]? =some pv->dL pv=false
 | [],_,j,pv,hj=>by simp at hj
 | c::r,h,0,pv,hj=>by
  simp at hj;subst hj;cases c<;>first | rfl | cases h
 | c::r,h,j+1,pv,hj=>GD (l:=r) (by cases c<;>first | exact h | cases h) aeZ
def Src (P:Program) (μ:Mu) (h:List ai) (S:Nat->Prop) (w:World) (a:Value) (sz m:Nat) (g:Nat->List PV):Prop:=
 (∀i,i<m->(g i).length=sz)/\∃news:Array Value,news.size=m*sz/\(∀(i j:Nat) (pv:PV),i<m->(g i)[j]? =some pv->∃u,news[i*sz+j]? =some u/\jM μ h S w pv u)/\
  (∀u∈news.toList,u.oneCell'=true)/\∀w',bR w w'->(Builtin.lenOf a).run P w'=.ok m w'/\(Builtin.firstCells sz m a).run P w'=.ok news w'
theorem Src.empty (b:Value) (sz:Nat) (g:Nat->List PV) (d:∃a c,b=.slice a 0 c):Src P μ h S w b sz 0 g:=by
 obtain⟨a,c,rfl⟩:=d;refine⟨λi hi=>absurd hi aeP,#[],by simp,λi j pv hi=>absurd hi aeP,λu hu=>by simp at hu,λw' _=>⟨rfl,?_⟩⟩;cases a with
 | none=>rfl
 | some a=>simp [Builtin.firstCells,loadCells,loadCellsFrom]
theorem lL (hc:Core μ h S w) (id g off len sz n:Nat) (e:TypeId) (f:Nat->List PV) (hh:h[id]? =some (ai.row g sz n e f)) (v:Value) (hv:bg μ h S w (.own id g off len) v) (m:0<sz):Src P μ h S w v sz len (λi=>f (off+i)):=by
 have a:=hv.lF;unfold aN at a;rw[hh]at a;obtain⟨_,_,a⟩:=a;obtain⟨hle,a⟩:=a rfl;obtain⟨k,c⟩:=hc.heap id g sz n e f hh;cases l:μ id with
 | none=>
  rw[l]at a c;have x:n=0:=c;have h0:len=0:=by omega
  subst h0;exact Src.empty v sz _ ⟨_,_,a⟩
 | some p=>
  obtain⟨b,base⟩:=p;rw[l]at a c;obtain⟨y,cap,hv,z,d,o⟩:=a;obtain⟨cur,q,A,r⟩:=bC.cells o c;rcases acp len with h0 | h0
  ·subst h0;exact Src.empty v sz _ ⟨_,_,hv⟩
  ·have d:=d aeP;subst d
   obtain⟨news,q1,q2,q3,q4⟩:=C4 (P:=P) (μ:=μ) (h:=h) (S:=S) (w:=w) b (base+off*sz) len sz m (λi=>f (off+i)) (λi hi=>k _ aeP) (λi j pv hi hj=>by
    obtain⟨u,r1,s⟩:=r (off+i) j pv aeP hj;refine⟨u,?_,s⟩;rw[cell_of_row w b _ cur e (0,0) q,<-r1];congr 1;rw[abC];omega)
   exact⟨λi hi=>k _ aeP,news,q1,q2,q3,λw' t=>⟨by rw[hv];rfl,by rw[hv];exact q4 w' t⟩⟩
theorem Ac (hc:Core μ h S w) (x:PV) (o:Value) (d:bg μ h S w x o) (sz:Nat) (q:0<sz) (K:Nat->(Nat->List PV)->Prop) (hp:E4 x h sz K):∃m g,K m g/\Src P μ h S w o sz m g/\∀(i j:Nat) (pv:PV),i<m->(g i)[j]? =some pv->dL pv=false:=by
 unfold E4 at hp;split at hp
 ·exact⟨_,_,hp,Src.empty _ _ _ ⟨_,_,d.lT⟩,λi j pv hi=>absurd hi (abR _)⟩
 ·rename_i t m g;replace hp:=aW hp;obtain⟨l,hp⟩:=hp;obtain rfl:=abo l;refine⟨m,g,hp,?_⟩;rcases d.qq with⟨a,c,ex,rfl⟩ | ⟨b,off,c,C,ex,D,r,v,y,p⟩
  ·exact⟨Src.empty _ _ _ ⟨_,_,ex⟩,λi j pv hi=>absurd hi (abR _)⟩
  ·obtain⟨news,q1,q2,q3,q4⟩:=C4 (P:=P) (μ:=μ) (h:=h) (S:=S) (w:=w) b off m sz q g r (λi j pv hi hj=>⟨_,y i j pv hi hj,(bp.ir (p i j pv hi hj)).k (aI.no (p i j pv hi hj))⟩);exact⟨⟨r,news,q1,q2,q3,λw' z=>⟨by rw[ex];rfl,by rw[ex];exact q4 w' z⟩⟩,λi j pv hi hj=>aI.no (p i j pv hi hj)⟩
 ·rename_i id gen off m;split at hp
  ·rename_i g t n e f hg;obtain⟨rfl,A,hp⟩:=hp;replace hp:=aW hp;obtain⟨l,hp⟩:=hp;obtain rfl:=abo l;exact⟨m,_,hp,lL hc id g off m sz n e f (dw hg) o d q,λi j pv hi hj=>GD (A i hi) hj⟩
  ·exact aen
 ·rename_i s;replace hp:=aW hp;obtain⟨l,hp⟩:=hp;obtain rfl:=abo l;refine⟨_,_,hp,⟨λi hi=>rfl,(s.map λb=>Value.int .u8 b.toNat).toArray,by simp,λi j pv hi hj=>?_,λu hu=>?_,λw' _=>⟨by rw[d.kd];rfl,?_⟩⟩,λi j pv hi hj=>?_⟩
  ·cases j with
   | zero=>
    simp at hj;subst hj;refine⟨.int .u8 (s.getD i 0).toNat,?_,aI.int _ _⟩;rw[abv,abm hi];simp [hi]
   | succ j=>simp at hj
  ·simp at hu;obtain⟨b,_,rfl⟩:=hu;rfl
  ·rw[d.kd];have B:(ByteArray.mk ⟨s⟩).extract 0 s.length=ByteArray.mk ⟨s⟩:=by rw[uZ];simp
   simp only[Builtin.firstCells,B];simp
  ·cases j with
   | zero=>simp at hj;subst hj;rfl
   | succ j=>simp at hj
 ·exact aen
end
section
variable {P:Program}{T:lS}{μ:Mu}{h:List ai}{S:Nat->Prop}{w w1:World}
theorem H8 (hc:Core μ h S w) (a g sz n:Nat) (e:TypeId) (f:Nat->List PV) (hh:h[a]? =some (ai.row g sz n e f)):Fr μ h S w μ (h.set a .dead) S w/\Core μ (h.set a .dead) S w:=by
 have hid:a<h.length:=(As.1 hh).1;have A:(h.set a ai.dead)[a]? =some ai.dead:=by simp [hid]
 have r:∀j,j≠a->(h.set a ai.dead)[j]? =h[j]?:=λj hj=>by rw[abL (acB hj)]
 have t:∀{j d k l m q},(h.set a ai.dead)[j]? =some (ai.row d k l m q)->j≠a:=λhj u=>by subst u;rw[A]at hj;cases hj
 have D:∀b,wj μ (h.set a ai.dead) b->wj μ h b:=λb ⟨j,d,k,l,m,q,F,hj,hm⟩=>by
  rw[r j (t hj)]at hj;exact⟨j,d,k,l,m,q,F,hj,hm⟩
 have v:∀j x y b,cw (h.set a ai.dead) j x y b->cw h j x y b:=λj x y b ⟨d,k,l,m,q,I,J,K,L,M,q1,q2,q3,q4⟩=>by
  rw[r j (t q1)]at q1;exact⟨_,_,_,_,_,_,_,_,_,_,q1,q2,q3,q4⟩
 have B:∀b,bS μ (h.set a ai.dead) b->bS μ h b:=λb c=>by
  rcases c with c | ⟨x,y,z,c⟩
  ·exact .inl (D b c)
  ·exact .inr ⟨x,y,z,v _ _ _ _ c⟩
 have E:Fr μ h S w μ (h.set a .dead) S w:=by
  refine⟨by simp,λ_ _ _=>rfl,λ_ c=>c,λ_ c=>.inl c,λb c=>.inl (B b c),abn _,rfl,rfl,rfl,λj d k l m q hj=>?_,λj hj=>?_,λ_ _ _ G=>G,λj d k l m q b base hj hm C=>⟨C,?_⟩,λ_ _ _ _ _ C=>C⟩
  ·by_cases s:j=a
   ·subst s;rw[A];trivial
   ·rw[r j s,hj];exact⟨abn _,λ_=>⟨rfl,rfl,rfl,rfl⟩⟩
  ·have s:j≠a:=by rintro rfl;rw[hh]at hj;cases hj
   rw[r j s];exact hj
  ·by_cases s:j=a
   ·subst s;exact .inl A
   ·exact .inr ⟨⟨_,_,_,_,_,(r j s).trans hj⟩,hm⟩
 refine⟨E,⟨λj d k l m q hj=>?_,⟨λb c=>hc.ok.apart b (B b c),λb c=>hc.ok.lt b (B b c),hc.ok.slt,?_,hc.ok.known,λb c x y z u=>hc.ok.hv b (D b c) x y z (v _ _ _ _ u),λb _ _ _ _ _ _ u hy=>hc.ok.hh b _ _ _ _ _ _ (v _ _ _ _ u) (v _ _ _ _ hy)⟩⟩⟩
 ·rw[r j (t hj)]at hj;obtain⟨h1,h2⟩:=hc.heap j d k l m q hj;refine⟨h1,?_⟩;cases hm:μ j with
  | none=>rw[hm]at h2;exact h2
  | some p=>
   obtain⟨b,base⟩:=p;rw[hm]at h2;obtain⟨o,q1,q2⟩:=h2;exact⟨o,q1,q2.mono (λ_ _ _ _ _ _ H=>H.fr E hc.ok (λ_ _ _ _ _ _ _ _=>rfl))⟩
 ·intro i j N O P Q R d k l m q b o T hi hj kq jN;rw[r i (t hi)]at hi;rw[r j (t hj)]at hj;exact aeC
theorem Ad (hc:Core μ h S w) (id d:Nat) (la:d≠id) (g2 lG n2:Nat) (e2:TypeId) (f2:Nat->List PV) (C5:h[d]? =some (ai.row g2 lG n2 e2 f2)) (N:Nat) (g D sz n n1:Nat) (e:TypeId) (f s:Nat->List PV) (hh:h[id]? =some (ai.row g sz n e f)) (l Q:Nat) (cur1:Array Value)
  (hg:g<=D) (aa:D=g->μ id=some (l,Q)/\n1=n)
  (m:w.heap.size<=l\/∃base cur,μ id=some (l,base)/\w.heap[l]? =some (.cells cur e (0,0))/\cur.size=cur1.size)
  (hw:w1.heap[l]? =some (.cells cur1 e (0,0))) (lP:Q+n1*sz<=cur1.size)
  (K:∀b,b<w.heap.size->b≠l->w1.heap[b]? =w.heap[b]?) (mA:w.heap.size<=w1.heap.size) (Qt:w1.os=w.os) (xg:w1.tape=w.tape) (AY:w1.output=w.output)
  (hl:∀i,i<n1->(s i).length=sz) (BN:∀b base,μ id=some (b,base)->¬kG w b)
  (aJ:∀(i j:Nat) (pv:PV),i<n1->(s i)[j]? =some pv->∃v:Value,cur1[Q+i*sz+j]? =some v/\jM μ h S w pv v) (CJ rP:Nat)
  (p7:∀(i j R T:Nat) (O:TypeId) (U:Nat->List PV) (V:Nat->Prop),i<n1->(s i)[j]? =some (.eM R T O U V)->(i<N/\CJ+i<n/\(f (CJ+i))[j]? =some (.eM R T O U V))\/(N<=i/\rP+(i - N)<n2/\(f2 (rP+(i - N)))[j]? =some (.eM R T O U V))):
  Fr μ h S w (jG μ id (some (l,Q))) ((h.set id (.row D sz n1 e s)).set d .dead) S w1/\Core (jG μ id (some (l,Q))) ((h.set id (.row D sz n1 e s)).set d .dead) S w1:=by
 have hid:id<h.length:=(As.1 hh).1;have eT:((h.set id (ai.row D sz n1 e s)).set d .dead)[id]? =some (ai.row D sz n1 e s):=by rw[abL la];simp [hid]
 have RT:d<h.length:=(As.1 C5).1;have oC:((h.set id (ai.row D sz n1 e s)).set d .dead)[d]? =some ai.dead:=by simp [RT]
 have E:∀j,j≠id->j≠d->((h.set id (ai.row D sz n1 e s)).set d .dead)[j]? =h[j]?:=λj hj F=>by rw[abL (acB F),abL (acB hj)]
 have G:∀{j t u A B C},((h.set id (ai.row D sz n1 e s)).set d .dead)[j]? =some (ai.row t u A B C)->j≠d:=λhj r=>by subst r;rw[oC]at hj;cases hj
 have KH:l<w1.heap.size:=(abq.1 hw).1
 have p8:l<w.heap.size->bS μ h l:=λH=>by
  rcases m with m | ⟨base,cur,hm,_,_⟩
  ·omega
  ·exact .inl ⟨id,g,sz,n,e,f,base,hh,hm⟩
 have Y:∀j x y b,cw ((h.set id (ai.row D sz n1 e s)).set d .dead) j x y b->j≠d/\∃j0 L,cw h j0 L y b/\((j≠id/\j0=j/\L=x)\/(j=id/\x<N/\j0=id/\L=CJ+x)\/(j=id/\N<=x/\j0=d/\L=rP+(x - N))):=λj x y b ⟨t,u,A,B,C,R,T,O,U,V,q1,q2,q3,q4⟩=>by
  refine⟨G q1,?_⟩;by_cases a:j=id
  ·subst a;rw[eT]at q1;injection q1 with q1;injection q1 with Z e2 e3 e4 e5;subst Z e2 e3 e4 e5;rcases p7 x y _ _ _ _ _ q2 q3 with⟨r0,r1,I⟩ | ⟨r0,r1,I⟩
   ·exact⟨_,_,⟨_,_,_,_,_,_,_,_,_,_,hh,r1,I,q4⟩,.inr (.inl ⟨rfl,r0,rfl,rfl⟩)⟩
   ·exact⟨_,_,⟨_,_,_,_,_,_,_,_,_,_,C5,r1,I,q4⟩,.inr (.inr ⟨rfl,r0,rfl,rfl⟩)⟩
  ·have F:=G q1;rw[E j a F]at q1;exact⟨_,_,⟨_,_,_,_,_,_,_,_,_,_,q1,q2,q3,q4⟩,.inl ⟨a,rfl,rfl⟩⟩
 have nO:∀j x y b,cw h j x y b->b<w.heap.size/\b≠l:=λj x y b r=>by
  have H:=hc.ok.lt b (.inr ⟨j,x,y,r⟩);refine⟨H,?_⟩;rintro rfl;rcases m with m | ⟨base,cur,hm,_,_⟩
  ·omega
  ·exact hc.ok.hv b ⟨id,g,sz,n,e,f,base,hh,hm⟩ j x y r
 have gJ:Fr μ h S w (jG μ id (some (l,Q))) ((h.set id (.row D sz n1 e s)).set d .dead) S w1:=by
  refine⟨by simp,λb H uf=>?_,λ_ m=>m,λ_ m=>.inl m,λb W=>?_,mA,Qt,xg,AY,λj t u A B C hj=>?_,λj hj=>?_,λb k rY dN=>?_,λj t u A B C b base hj hm jJ=>?_,λb j x y r jJ=>?_⟩;rotate_right
  ·obtain⟨q1,q2⟩:=nO j x y b r;obtain⟨es,c,q⟩:=jJ;exact⟨es,c,(K b q1 q2).trans q⟩
  ·by_cases J:b=l
   ·subst J;exact(uf (p8 H)).elim
   ·exact K b H J
  ·rcases W with⟨j,t,u,A,B,C,kz,hj,hm⟩ | ⟨j,x,y,r⟩;rotate_left
   ·obtain⟨_,j0,L,M,_⟩:=Y j x y b r;exact .inl (.inr ⟨_,_,_,M⟩)
   by_cases a:j=id
   ·subst a;rw[aR]at hm;injection hm with hm;injection hm with h1 h2;subst h1;rcases abU l w.heap.size with H | Gp
    ·exact .inl (p8 H)
    ·exact .inr Gp
   ·rw[E j a (G hj)]at hj;rw[bX μ _ a]at hm;exact .inl (.inl ⟨j,t,u,A,B,C,kz,hj,hm⟩)
  ·by_cases a:j=id
   ·subst a;rw[hh]at hj;injection hj with hj;injection hj with Z e2 e3 e4 e5;subst Z e2 e3 e4 e5;rw[eT];refine⟨hg,λhe=>?_⟩;obtain⟨h1,h2⟩:=aa he;exact⟨by rw[aR,h1],rfl,h2,rfl⟩
   ·by_cases F:j=d
    ·subst F;rw[oC];trivial
    ·rw[E j a F,hj];exact⟨abn _,λ_=>⟨bX μ _ a,rfl,rfl,rfl⟩⟩
  ·have a:j≠id:=by rintro rfl;rw[hh]at hj;cases hj
   have F:j≠d:=by rintro rfl;rw[C5]at hj;cases hj
   rw[E j a F];exact hj
  ·by_cases J:b=l
   ·subst J;obtain⟨cur,O,z,q1,q2⟩:=dN;rcases m with m | ⟨base,uc,hm,kh,fy⟩
    ·have:=(abq.1 q1).1;omega
    ·rw[kh]at q1;injection q1 with q1;injection q1 with q1 _ _;subst q1;exact⟨cur1,e,_,hw,by omega⟩
   ·exact iu.of_same (K b dN.lt J) dN
  ·have a:j≠id:=by rintro rfl;exact BN b base hm jJ
   have J:b≠l:=by
    rintro rfl;obtain⟨es,c,q⟩:=jJ;rcases m with m | ⟨k5,uc,X,kh,_⟩
    ·have:=(abq.1 q).1;omega
    ·rw[kh]at q;cases q
   obtain⟨es,c,q⟩:=jJ;refine⟨⟨es,c,(K b (abq.1 q).1 J).trans q⟩,?_⟩;by_cases F:j=d
   ·subst F;exact .inl oC
   ·exact .inr ⟨⟨_,_,_,_,_,(E j a F).trans hj⟩,by rw[bX μ _ a];exact hm⟩
 refine⟨gJ,⟨λj t u A B C hj=>?_,?_⟩⟩
 ·by_cases a:j=id
  ·subst a;rw[eT]at hj;injection hj with hj;injection hj with Z e2 e3 e4 e5;subst Z e2 e3 e4 e5;rw[aR];refine⟨hl,bC.xP ⟨cur1,hw,lP,λi k pv hi P=>?_⟩⟩;obtain⟨v,h1,h2⟩:=aJ i k pv hi P;refine⟨v,h1,h2.fr gJ hc.ok (λR T O U V he b W=>?_)⟩;rw[he]at P;rcases p7 i k _ _ _ _ _ hi P with⟨r0,r1,I⟩ | ⟨r0,r1,I⟩
   ·obtain⟨q1,q2⟩:=nO _ _ k b ⟨_,_,_,_,_,_,_,_,_,_,hh,r1,I,W⟩;exact K b q1 q2
   ·obtain⟨q1,q2⟩:=nO _ _ k b ⟨_,_,_,_,_,_,_,_,_,_,C5,r1,I,W⟩;exact K b q1 q2
  ·rw[E j a (G hj)]at hj;obtain⟨h1,h2⟩:=hc.heap j t u A B C hj;refine⟨h1,?_⟩;rw[bX μ _ a];cases hm:μ j with
   | none=>rw[hm]at h2;exact h2
   | some p=>
    obtain⟨b,base⟩:=p;rw[hm]at h2;obtain⟨o,q1,q2⟩:=h2;have H:b<w.heap.size:=(abq.1 q1).1
    have J:b≠l:=by
     rintro rfl;rcases m with m | ⟨k5,uc,X,_⟩
     ·omega
     ·exact a (hc.ok.inj j id _ _ _ _ _ _ _ _ _ _ _ _ _ hj hh hm X)
    exact⟨o,(K b H J).trans q1,q2.mono (λi y pv v hi hy hr=>hr.fr gJ hc.ok (λR T O U V he b' W=>by
     obtain⟨q1,q2⟩:=nO j i y b' ⟨_,_,_,_,_,_,_,_,_,_,hj,hi,by rw[hy,he],W⟩;exact K b' q1 q2))⟩
 ·refine⟨λb rY Gq=>?_,λb rY=>?_,λb Gq=>abG (hc.ok.slt b Gq) mA,?_,hc.ok.uu gJ,λb OD j x y r=>?_,λb j x y j' x' y' r oR=>?_⟩;rotate_right 2
  ·obtain⟨_,j0,L,M,_⟩:=Y j x y b r;obtain⟨q1,q2⟩:=nO _ _ _ b M;obtain⟨k,gk,OE,nk,ek,fk,CK,P,hm⟩:=OD;by_cases qK:k=id
   ·subst qK;rw[aR]at hm;injection hm with hm;injection hm with h1 h2;exact q2 h1.symm
   ·rw[E k qK (G P)]at P;rw[bX μ _ qK]at hm;exact hc.ok.hv b ⟨k,gk,OE,nk,ek,fk,CK,P,hm⟩ _ _ _ M
  ·obtain⟨k1,j0,L,M,c0⟩:=Y j x y b r;obtain⟨k2,j1,x1,ad,c1⟩:=Y j' x' y' b oR;obtain⟨r1,I,r3⟩:=hc.ok.hh b _ _ _ _ _ _ M ad;subst r1;subst I;rcases c0 with⟨a1,a2,a3⟩ | ⟨a1,a2,a3,a4⟩ | ⟨a1,a2,a3,a4⟩<;>rcases c1 with⟨d1,d2,d3⟩ | ⟨d1,d2,d3,d4⟩ | ⟨d1,d2,d3,d4⟩<;>refine⟨?_,?_,r3⟩<;>omega
  ·rcases gJ.own b rY with h1 | h1
   ·exact hc.ok.apart b h1 Gq
   ·have:=hc.ok.slt b Gq;omega
  ·rcases rY with⟨j,t,u,A,B,C,kz,hj,hm⟩ | ⟨j,x,y,r⟩;rotate_left
   ·obtain⟨_,j0,L,M,_⟩:=Y j x y b r;exact abG (hc.ok.lt b (.inr ⟨_,_,_,M⟩)) mA
   by_cases a:j=id
   ·subst a;rw[aR]at hm;injection hm with hm;injection hm with h1 h2;subst h1;exact KH
   ·rw[E j a (G hj)]at hj;rw[bX μ _ a]at hm;exact abG (hc.ok.lt b (.inl ⟨j,t,u,A,B,C,kz,hj,hm⟩)) mA
  ·intro i j gi HR ni ei fi t u A B C b o o' hi hj kq jN;by_cases CL:i=id
   ·by_cases a:j=id
    ·rw[CL,a]
    ·subst CL;rw[aR]at kq;injection kq with kq;injection kq with h1 h2;subst h1;rw[E j a (G hj)]at hj;rw[bX μ _ a]at jN;rcases m with m | ⟨k5,uc,X,_⟩
     ·have:=hc.ok.lt _ (.inl ⟨j,t,u,A,B,C,o',hj,jN⟩);omega
     ·exact hc.ok.inj i j _ _ _ _ _ _ _ _ _ _ _ _ _ hh hj X jN
   ·rw[E i CL (G hi)]at hi;rw[bX μ _ CL]at kq;by_cases a:j=id
    ·subst a;rw[aR]at jN;injection jN with jN;injection jN with h1 h2;subst h1;rcases m with m | ⟨k5,uc,X,_⟩
     ·have:=hc.ok.lt _ (.inl ⟨i,gi,HR,ni,ei,fi,o,hi,kq⟩);omega
     ·exact hc.ok.inj i j _ _ _ _ _ _ _ _ _ _ _ _ _ hi hh kq X
    ·rw[E j a (G hj)]at hj;rw[bX μ _ a]at jN;exact aeC
end
section
variable {P:Program}{T:lS}{μ:Mu}{h:List ai}{S:Nat->Prop}{w:World}
theorem rj (hc:Core μ h S w) (id g d sz n:Nat) (e:TypeId) (f k:Nat->List PV) (hh:h[id]? =some (ai.row g sz n e f)) (u:μ id=none) (hg:g<d):
  Fr μ h S w μ (h.set id (.row d sz 0 e k)) S w/\Core μ (h.set id (.row d sz 0 e k)) S w:=by
 have hid:id<h.length:=(As.1 hh).1;have E:(h.set id (ai.row d sz 0 e k))[id]? =some (ai.row d sz 0 e k):=by simp [hid]
 have l:∀j,j≠id->(h.set id (ai.row d sz 0 e k))[j]? =h[j]?:=λj hj=>by rw[abL (acB hj)]
 have I:∀b,wj μ (h.set id (ai.row d sz 0 e k)) b->wj μ h b:=λb a=>by
  obtain⟨j,m,q,r,s,t,K,hj,hm⟩:=a;by_cases c:j=id
  ·subst c;rw[u]at hm;cases hm
  ·rw[l j c]at hj;exact⟨j,m,q,r,s,t,K,hj,hm⟩
 have v:∀j x y b,cw (h.set id (ai.row d sz 0 e k)) j x y b->cw h j x y b:=λj x y b ⟨m,q,r,s,t,O,P,Q,R,T,q1,q2,q3,q4⟩=>by
  by_cases c:j=id
  ·subst c;rw[E]at q1;injection q1 with q1;injection q1 with A e2 B C D;omega
  ·rw[l j c]at q1;exact aeJ
 have F:∀b,bS μ (h.set id (ai.row d sz 0 e k)) b->bS μ h b:=λb a=>by
  rcases a with a | ⟨x,y,z,a⟩
  ·exact .inl (I b a)
  ·exact .inr ⟨x,y,z,v _ _ _ _ a⟩
 have J:Fr μ h S w μ (h.set id (.row d sz 0 e k)) S w:=by
  refine⟨by simp,λ_ _ _=>rfl,λ_ a=>a,λ_ a=>.inl a,λb a=>.inl (F b a),abn _,rfl,rfl,rfl,λj m q r s t hj=>?_,λj hj=>?_,λ_ _ _ L=>L,λj m q r s t b base hj hm G=>⟨G,.inr ⟨⟨_,_,_,_,_,(l j (by rintro rfl;rw[u]at hm;cases hm)).trans hj⟩,hm⟩⟩,λ_ _ _ _ _ G=>G⟩
  ·by_cases c:j=id
   ·subst c;rw[hh]at hj;injection hj with hj;injection hj with A e2 B C D;subst A e2 B C D;rw[E];exact⟨by omega,λhe=>absurd he aeP⟩
   ·rw[l j c,hj];exact aeH
  ·have c:j≠id:=by rintro rfl;rw[hh]at hj;cases hj
   rw[l j c];exact hj
 refine⟨J,⟨λj m q r s t hj=>?_,⟨λb a=>hc.ok.apart b (F b a),λb a=>hc.ok.lt b (F b a),hc.ok.slt,?_,hc.ok.known,λb a x y z H=>hc.ok.hv b (I b a) x y z (v _ _ _ _ H),λb _ _ _ _ _ _ H hy=>hc.ok.hh b _ _ _ _ _ _ (v _ _ _ _ H) (v _ _ _ _ hy)⟩⟩⟩
 ·by_cases c:j=id
  ·subst c;rw[E]at hj;injection hj with hj;injection hj with A e2 B C D;subst A e2 B C D;refine⟨λi hi=>absurd hi aeP,?_⟩;rw[u]
  ·rw[l j c]at hj;obtain⟨h1,h2⟩:=hc.heap j m q r s t hj;refine⟨h1,?_⟩;cases hm:μ j with
   | none=>rw[hm]at h2;exact h2
   | some p=>
    obtain⟨b,base⟩:=p;rw[hm]at h2;obtain⟨o,q1,q2⟩:=h2;exact⟨o,q1,q2.mono (λ_ _ _ _ _ _ M=>M.fr J hc.ok (λ_ _ _ _ _ _ _ _=>rfl))⟩
 ·intro i j U V W X Y m q r s t b o Z hi hj kq jN;have N:i≠id:=by rintro rfl;rw[u]at kq;cases kq
  have c:j≠id:=by rintro rfl;rw[u]at jN;cases jN
  rw[l i N]at hi;rw[l j c]at hj;exact aeC
variable {a:Act}{env:Env}{K:PV->List ai->Prop}{dst:Option Tmp}{ty:TypeId}{pos:String}{after:Array Edge}{guard:Option (Nat×Bool)}
theorem me (z:Array Value) (n:Nat):(Builtin.zeroCells z n).size=n*z.size:=by simp [Builtin.zeroCells]
theorem gN {s x:Operand} {t tx:TypeId} {b c d:Value} {w':World} (hs:a.eval s=b) (e:a.eval x=c) (f:(Builtin.append_ #[t,tx] ty #[b,c]).run P w=.ok d w'):
  (execOp a.eval ⟨dst,.call ⟨.builtin .append,#[s,x],#[t,tx]⟩,ty,pos,after,guard⟩).run P w=.ok (.value d) w':=by
 simp only[execOp,resolve,invoke,builtin,Sem.run_bind,Sem.run_pure,Result.andThen_ok,adv,abF,acw,hs,e,f]
theorem yf {sz l m:Nat} {f q:Nat->List PV} {a news rest:Array Value} (e:a.size=l*sz) (g:news.size=m*sz)
  (h1:∀(i j:Nat) (pv:PV),i<l->(f i)[j]? =some pv->∃u,a[i*sz+j]? =some u/\jM μ h S w pv u)
  (h2:∀(i j:Nat) (pv:PV),i<m->(q i)[j]? =some pv->∃u,news[i*sz+j]? =some u/\jM μ h S w pv u)
  (k:∀i,i<l->(f i).length=sz) (n:∀i,i<m->(q i).length=sz):
  ∀(i j:Nat) (pv:PV),i<l+m->(bif Nat.blt i l then f i else q (i - l))[j]? =some pv->∃u,(a++news++rest)[i*sz+j]? =some u/\jM μ h S w pv u:=by
 intro i j pv hi hj;by_cases b:i<l
 ·have c:Nat.blt i l=true:=by simpa using b
  rw[c]at hj;simp only[cond_true]at hj;obtain⟨u,q1,q2⟩:=h1 i j pv b hj;have d:i*sz+j<a.size:=(abq.1 q1).1;exact⟨u,by rw[abX aeU,abX d];exact q1,q2⟩
 ·have c:Nat.blt i l=false:=by
   cases hh:Nat.blt i l with
   | true=>exact(b (by simpa using hh)).elim
   | false=>rfl
  rw[c]at hj;simp only[cond_false]at hj;obtain⟨u,q1,q2⟩:=h2 (i - l) j pv aeP hj;have d:(i - l)*sz+j<news.size:=(abq.1 q1).1;have hmul:i*sz=l*sz+(i - l)*sz:=by rw[<-abC];congr 1;omega
  refine⟨u,?_,q2⟩;rw[abX aeU,Array.getElem?_append_right aeP,<-q1];congr 1;omega
theorem C6 {sz l m:Nat} {f q:Nat->List PV} (c:∀i,i<l->(f i).length=sz) (d:∀i,i<m->(q i).length=sz):∀i,i<l+m->(bif Nat.blt i l then f i else q (i - l)).length=sz:=by
 intro i hi;by_cases a:i<l
 ·have b:Nat.blt i l=true:=by simpa using a
  rw[b];exact c i a
 ·have b:Nat.blt i l=false:=by
   cases hh:Nat.blt i l with
   | true=>exact(a (by simpa using hh)).elim
   | false=>rfl
  rw[b];exact d _ aeP
theorem uF (w:World) (o:Obj):bR w (w.drew.alloc o):=(bR.drew w).trans (jK w.drew o)
theorem C7 (n:df P T) (hc:Core μ h S w) (t tx e sz bytes:Nat) (zero:List PV) (d:TypeDesc) (o:T.get t=.slice e sz bytes zero) (p:P.underlying tx=some d) (hd:(∃B,d=.slice B)\/d=.string)
  (s x:Operand) (hs:a.eval s=.slice none 0 0) (m:Nat) (g:Nat->List PV) (C:Src P μ h S w (a.eval x) sz m g) (q:∀(i j:Nat) (pv:PV),i<m->(g i)[j]? =some pv->dL pv=false) (D:m*bytes<=140737488355328) (r:K (.own h.length 0 0 m) (h++[.row 0 sz m e g])):
  eN P ⟨dst,.call ⟨.builtin .append,#[s,x],#[t,tx]⟩,ty,pos,after,guard⟩ a μ h S w K:=by
 obtain⟨hu,O,inf,v,y,E,F,G,H,Q,R⟩:=n.slice _ _ _ _ _ o;have I:=n.bytes _ _ _ _ _ o;subst E F;obtain⟨z,news,q1,q2,q3,q4⟩:=C;rcases acp m with h0 | h0
 ·subst h0;have J:news=#[]:=acs afm;subst J;obtain⟨r1,f⟩:=q4 w (bR.refl w);have b:=gG (P:=P) (w:=w) t tx ty e inf d hu p hd y none 0 0 (a.eval x) 0 #[] w r1 f (abn _) rfl;obtain⟨k,l⟩:=lW (w1:=w) hc inf.size 0 e g none rfl (bR.refl w) z q;refine eN.gg (gN hs rfl b) r ?_ l k;show aN _ _ _ _ _ _ _ _;unfold aN;rw[abI (abn _),acx];refine⟨⟨_,_,_,rfl⟩,abn _,λ_=>⟨by omega,?_⟩⟩;rw[aR]
 ·obtain⟨r1,_⟩:=q4 w (bR.refl w);obtain⟨_,f⟩:=q4 w.drew (bR.drew w);have b:=jv (P:=P) (w:=w) t tx ty e inf v d hu p hd y G none 0 0 (a.eval x) m #[] news r1 rfl f aeP I (by rw[abx];exact D);rw[abx]at b
  obtain⟨k,l⟩:=lW (w1:=w.drew.alloc (.cells (#[]++news++Builtin.zeroCells v.cells (grownCap w m 0 e - m)) e)) hc inf.size m e g (some (w.heap.size,0))
   ⟨abn _,_,heap_alloc_new w.drew _,by simp [q1],λi j pv hi hj=>by
    obtain⟨u,A,L⟩:=q2 i j pv hi hj;have M:=(abq.1 A).1;exact⟨u,by rw[acX,abx,abX M];exact A,L.c⟩⟩ (uF w _) z q
  refine eN.gg (gN hs rfl b) r ?_ l k;show aN _ _ _ _ _ _ _ _;unfold aN;rw[abI (abn _),acx];refine⟨⟨_,_,_,rfl⟩,abn _,λ_=>⟨by omega,?_⟩⟩;rw[aR];have N:=grownCap_ge w m 0 e;refine⟨_,grownCap w m 0 e,rfl,N,λ_=>by simp,_,e,_,heap_alloc_new w.drew _,?_⟩;simp only[acM,me,H,q1];simp only[abx];have:grownCap w m 0 e*inf.size=m*inf.size+(grownCap w m 0 e - m)*inf.size:=by rw[<-abC];congr 1;omega
  simp;omega
theorem E5 (hT:df P T) (hc:Core μ h S w) (t tx e sz bytes:Nat) (zero:List PV) (d:TypeDesc) (fA:T.get t=.slice e sz bytes zero) (N:P.underlying tx=some d) (hd:(∃z,d=.slice z)\/d=.string)
  (s x:Operand) (id g off len n:Nat) (f:Nat->List PV) (hh:h[id]? =some (ai.row g sz n e f)) (hs:bg μ h S w (.own id g off len) (a.eval s)) (m:Nat) (q:Nat->List PV) (sL:Src P μ h S w (a.eval x) sz m q) (O:∀(i j:Nat) (pv:PV),i<m->(q i)[j]? =some pv->dL pv=false)
  (C:(len+m)*bytes<=140737488355328)
  (Q:K (.own id (g+1) 0 (len+m)) (h.set id (.row (g+1) sz (len+m) e (λi=>bif Nat.blt i len then f (off+i)else q (i - len))))):
  eN P ⟨dst,.call ⟨.builtin .append,#[s,x],#[t,tx]⟩,ty,pos,after,guard⟩ a μ h S w K:=by
 obtain⟨hu,fy,inf,R,U,mo,OF,hz,KE,BO,KF⟩:=hT.slice _ _ _ _ _ fA;have Xf:=hT.bytes _ _ _ _ _ fA;subst mo OF;have hid:id<h.length:=(As.1 hh).1;obtain⟨O2,V,o1,o2,o3,o4⟩:=lL (P:=P) hc id g off len inf.size n e f hh _ hs fy;obtain⟨O3,news,q1,q2,q3,q4⟩:=sL;have W:=C6 O2 O3
 have Xg:∀{sl:Nat},off+sl<=n->∀(i j X Y:Nat) (z:TypeId) (Z:Nat->List PV) (F':Nat->Prop),i<sl+m->(bif Nat.blt i sl then f (off+i)else q (i - sl))[j]? =some (.eM X Y z Z F')->off+i<n/\(f (off+i))[j]? =some (.eM X Y z Z F'):=λ{sl} US i j X Y z Z F' hi hj=>by
  by_cases A:i<sl
  ·have C:Nat.blt i sl=true:=by simpa using A
   rw[C]at hj;exact⟨by omega,hj⟩
  ·have C:Nat.blt i sl=false:=by
    cases hh:Nat.blt i sl with
    | true=>exact(A (by simpa using hh)).elim
    | false=>rfl
   rw[C]at hj;have:=O (i - sl) j _ aeP hj;cases this
 have c:=hs.lF;unfold aN at c;rw[hh]at c;obtain⟨⟨sa,sl,l,v⟩,_,c⟩:=c;obtain⟨hle,c⟩:=c rfl
 have FN:sl=len:=by
  obtain⟨r,_⟩:=o4 w (bR.refl w);rw[v]at r;simp [Builtin.lenOf]at r;exact r
 subst FN;obtain⟨hl,aJ⟩:=hc.heap id g _ n e f hh
 have BN:∀b base,μ id=some (b,base)->¬kG w b:=λb base y=>by
  rw[y]at c;obtain⟨_,_,_,_,_,H⟩:=c;exact H.xj
 by_cases I:sl+m<=l
 ·-- in place
  obtain⟨r1,J⟩:=q4 w (bR.refl w);cases y:μ id with
  | none=>
   rw[y]at c aJ;rw[v]at c;injection c with r e2 e3;subst r e2 e3;have hm:m=0:=by omega
   subst hm;have hn:news=#[]:=acs afm;subst hn;have D:=gG (P:=P) (w:=w) t tx ty e inf d hu N hd U none 0 0 (a.eval x) 0 #[] w r1 J (abn _) rfl;obtain⟨E,F⟩:=rj hc id g (g+1) inf.size n e f (λi=>bif Nat.blt i 0 then f (off+i)else q (i - 0)) hh y (Nat.lt_succ_self g);refine eN.gg (gN v rfl D) Q ?_ F E;show aN _ _ _ _ _ _ _ _;unfold aN;rw[acm hid];refine⟨⟨_,_,_,rfl⟩,abn _,λ_=>⟨by omega,?_⟩⟩;rw[y]
  | some p=>
   obtain⟨b,base⟩:=p;rw[y]at c aJ;obtain⟨L,cap,hv,MG,M,H⟩:=c;rw[v]at hv;injection hv with r e2 e3;subst r e3;obtain⟨cur,B,lP,ik⟩:=bC.cells H aJ
   have La:base+(off+l)*inf.size<=cur.size:=by
    obtain⟨uc,z,z',o,G⟩:=H;rw[B]at o;injection o with o;injection o with o _ _;subst o;exact G
   rw[abC]at La
   have key:∃cur1:Array Value,cur1.size=cur.size/\(match(some L:Option Addr)with | some a=>(storeCells (a.add (sl*inf.size)) news.toList).run P w=.ok () (w.setRow b cur1) | none=>w.setRow b cur1=w)/\
     ∀k,cur1[k]? =if base+off*inf.size+sl*inf.size<=k/\k<base+off*inf.size+sl*inf.size+m*inf.size then news[k - (base+off*inf.size+sl*inf.size)]? else cur[k]?:=by
    rcases acp m with h0 | h0
    ·subst h0;have hn:news=#[]:=acs afm;subst hn;refine⟨cur,rfl,?_,λk=>by rw[so aeP]⟩;show(storeCells (L.add (sl*inf.size)) []).run P w=.ok () (w.setRow b cur);rw[setRow_self w b cur e (0,0) B];rfl
    ·have M:=M aeP;subst M;have hmul:(sl+m)*inf.size<=l*inf.size:=abB _ I;rw[abC]at hmul;have qZ:=run_storeCells_at P b (base+off*inf.size+sl*inf.size) e news.toList 0 cur w B aeU q3;rw[ace]at qZ;refine⟨(cur.toList.take (base+off*inf.size+sl*inf.size)++news.toList++cur.toList.drop (base+off*inf.size+sl*inf.size+news.toList.length)).toArray,?_,?_,λk=>?_⟩
     ·simp;omega
     ·show(storeCells ((⟨b,base+off*inf.size,none⟩:Addr).add (sl*inf.size)) news.toList).run P w=.ok () _;rw[Addr.add_lit];exact qZ
     ·have VB:=oe cur.toList news.toList (base+off*inf.size+sl*inf.size) k aeU;rw[acE,VB];simp only[abJ,acn,q1]
   obtain⟨cur1,c1,c2,c3⟩:=key;have D:=gG (P:=P) (w:=w) t tx ty e inf d hu N hd U (some L) sl l (a.eval x) m news (w.setRow b cur1) r1 J I c2;have hmul:(sl+m)*inf.size<=l*inf.size:=abB _ I;rw[abC]at hmul
   have iY:=sO (w1:=w.setRow b cur1) hc id g (g+1) inf.size n (sl+m) e f (λi=>bif Nat.blt i sl then f (off+i)else q (i - sl)) hh b (base+off*inf.size) cur1 aeP (λhe=>absurd he aeP)
    (.inr ⟨base,cur,y,B,c1.symm⟩) (setRow_heap w b cur _ e _ B) (by rw[c1,abC];omega) (λb' _ la=>setRow_other w b b' _ la) aeR rfl rfl rfl W BN
    (λi j pv hi hj=>by
     have ED:j<inf.size:=by rw[<-W i hi];exact(As.1 hj).1
     rw[c3];by_cases A:i<sl
     ·have RU:Nat.blt i sl=true:=by simpa using A
      rw[RU]at hj;simp only[cond_true]at hj;have kq:(i+1)*inf.size<=sl*inf.size:=abB _ A;rw[abC]at kq;rw[so aeP];obtain⟨u,o,G⟩:=ik (off+i) j pv aeP hj;refine⟨u,?_,G⟩;rw[<-o];congr 1;rw[abC];omega
     ·have RU:Nat.blt i sl=false:=by
       cases SX:Nat.blt i sl with
       | true=>exact(A (by simpa using SX)).elim
       | false=>rfl
      rw[RU]at hj;simp only[cond_false]at hj;have r:i*inf.size=sl*inf.size+(i - sl)*inf.size:=by rw[<-abC];congr 1;omega
      have e2:(i - sl+1)*inf.size<=m*inf.size:=abB _ aeP;rw[abC]at e2;rw[An aeP];obtain⟨u,o,G⟩:=q2 (i - sl) j pv aeP hj;exact⟨u,by rw[<-o];congr 1;omega,G⟩) off (Xg aeP)
   obtain⟨E,F⟩:=iY;refine eN.gg (gN v rfl D) Q ?_ F E;show aN _ _ _ _ _ _ _ _;unfold aN;rw[acm hid];refine⟨⟨_,_,_,rfl⟩,abn _,λ_=>⟨by omega,?_⟩⟩;rw[aR];refine⟨L,l,rfl,I,λJH=>?_,cur1,e,_,setRow_heap w b cur _ e _ B,?_⟩
   ·rw[M JH,Nat.zero_mul,ace]
   ·rw[c1,abx];omega
 ·-- it aa
  obtain⟨r1,_⟩:=q4 w (bR.refl w);obtain⟨_,J⟩:=q4 w.drew (bR.drew w);obtain⟨_,s2⟩:=o4 w.drew (bR.drew w);rw[v]at s2;have D:=jv (P:=P) (w:=w) t tx ty e inf R d hu N hd U hz sa sl l (a.eval x) m V news r1 s2 J aeP Xf C;have Gp:=grownCap_ge w (sl+m) l e
  have iY:=sO (w1:=w.drew.alloc (.cells (V++news++Builtin.zeroCells R.cells (grownCap w (sl+m) l e - (sl+m))) e)) hc id g (g+1) inf.size n (sl+m) e f (λi=>bif Nat.blt i sl then f (off+i)else q (i - sl)) hh
   w.heap.size 0 (V++news++Builtin.zeroCells R.cells (grownCap w (sl+m) l e - (sl+m))) aeP (λhe=>absurd he aeP) (.inl (abn _)) (heap_alloc_new w.drew _)
   (by simp only[acM,o1,q1,abC];omega) (λb bm _=>heap_alloc_old w.drew _ bm) aeR rfl rfl rfl W BN
   (λi j pv hi hj=>by
    rw[abx];exact yf o1 q1 o2 q2 O2 O3 i j pv hi hj) off (Xg aeP)
  obtain⟨E,F⟩:=iY;refine eN.gg (gN v rfl D) Q ?_ F E;show aN _ _ _ _ _ _ _ _;unfold aN;rw[acm hid];refine⟨⟨_,_,_,rfl⟩,abn _,λ_=>⟨by omega,?_⟩⟩;rw[aR];refine⟨_,grownCap w (sl+m) l e,rfl,Gp,λ_=>by simp,_,e,_,heap_alloc_new w.drew _,?_⟩;simp only[acM,me,KE,o1,q1,abx];have:grownCap w (sl+m) l e*inf.size=(sl+m)*inf.size+(grownCap w (sl+m) l e - (sl+m))*inf.size:=by rw[<-abC];congr 1;omega
  rw[abC]at this;omega
theorem eN.NR {o:Oper} {a:Act} {K:PV->List ai->Prop} {μ1:Mu} {h1:List ai} (hf:Fr μ h S w μ1 h1 S w) (hm:mT μ h S w) (b:eN P o a μ1 h1 S w K):eN P o a μ h S w K:=by
 intro next Q c
 exact b next Q λv val h' μ' S' w' d hv hc e=>c v val h' μ' S' w' d hv hc (hf.trans e)
theorem vi (hT:df P T) (hc:Core μ h S w) (t tx e sz bytes:Nat) (zero:List PV) (d:TypeDesc) (fA:T.get t=.slice e sz bytes zero) (Y:P.underlying tx=some d) (hd:(∃y,d=.slice y)\/d=.string)
  (s x:Operand) (id g off len n:Nat) (f:Nat->List PV) (hh:h[id]? =some (ai.row g sz n e f)) (hs:bg μ h S w (.own id g off len) (a.eval s)) (C:Nat) (r:C≠id) (g2 n2:Nat) (L:TypeId) (q2:Nat->List PV) (o m:Nat) (Z:h[C]? =some (ai.row g2 sz n2 L q2)) (JM:o+m<=n2) (sL:Src P μ h S w (a.eval x) sz m (λi=>q2 (o+i)))
  (E:(len+m)*bytes<=140737488355328)
  (hK:K (.own id (g+1) 0 (len+m)) ((h.set id (.row (g+1) sz (len+m) e (λi=>bif Nat.blt i len then f (off+i)else q2 (o+(i - len))))).set C .dead)):
  eN P ⟨dst,.call ⟨.builtin .append,#[s,x],#[t,tx]⟩,ty,pos,after,guard⟩ a μ h S w K:=by
 obtain⟨hu,fy,inf,zv,gr,mo,OF,hz,KE,BO,KF⟩:=hT.slice _ _ _ _ _ fA;have Xf:=hT.bytes _ _ _ _ _ fA;subst mo OF;have hid:id<h.length:=(As.1 hh).1;obtain⟨O2,jn,o1,o2,o3,o4⟩:=lL (P:=P) hc id g off len inf.size n e f hh _ hs fy;obtain⟨O3,news,q1,F,q3,q4⟩:=sL;have NA:=C6 O2 O3
 have Xg:∀{sl:Nat},off+sl<=n->∀(i j M N:Nat) (y:TypeId) (O:Nat->List PV) (Q:Nat->Prop),i<sl+m->(bif Nat.blt i sl then f (off+i)else q2 (o+(i - sl)))[j]? =some (.eM M N y O Q)->(i<sl/\off+i<n/\(f (off+i))[j]? =some (.eM M N y O Q))\/(sl<=i/\o+(i - sl)<n2/\(q2 (o+(i - sl)))[j]? =some (.eM M N y O Q)):=λ{sl} US i j M N y O Q hi hj=>by
  by_cases z:i<sl
  ·have E:Nat.blt i sl=true:=by simpa using z
   rw[E]at hj;exact .inl ⟨z,by omega,hj⟩
  ·have E:Nat.blt i sl=false:=by
    cases hh:Nat.blt i sl with
    | true=>exact(z (by simpa using hh)).elim
    | false=>rfl
   rw[E]at hj;exact .inr ⟨by omega,by omega,hj⟩
 have c:=hs.lF;unfold aN at c;rw[hh]at c;obtain⟨⟨sa,sl,l,A⟩,_,c⟩:=c;obtain⟨hle,c⟩:=c rfl
 have FN:sl=len:=by
  obtain⟨v,_⟩:=o4 w (bR.refl w);rw[A]at v;simp [Builtin.lenOf]at v;exact v
 subst FN;obtain⟨hl,aJ⟩:=hc.heap id g _ n e f hh
 have BN:∀b base,μ id=some (b,base)->¬kG w b:=λb base B=>by
  rw[B]at c;obtain⟨_,_,_,_,_,R⟩:=c;exact R.xj
 by_cases U:sl+m<=l
 ·-- in place
  obtain⟨r1,V⟩:=q4 w (bR.refl w);cases B:μ id with
  | none=>
   rw[B]at c aJ;rw[A]at c;injection c with v e2 e3;subst v e2 e3;have hm:m=0:=by omega
   subst hm;have hn:news=#[]:=acs afm;subst hn;have G:=gG (P:=P) (w:=w) t tx ty e inf d hu Y hd gr none 0 0 (a.eval x) 0 #[] w r1 V (abn _) rfl;obtain⟨aa,ag⟩:=rj hc id g (g+1) inf.size n e f (λi=>bif Nat.blt i 0 then f (off+i)else q2 (o+(i - 0))) hh B (Nat.lt_succ_self g);obtain⟨an,H⟩:=H8 ag C g2 inf.size n2 L q2 (by rw[abL (acB r)];exact Z);have I:=aa.trans an;refine eN.gg (gN A rfl G) hK ?_ H I;show aN _ _ _ _ _ _ _ _;unfold aN;rw[abL r,acm hid];refine⟨⟨_,_,_,rfl⟩,abn _,λ_=>⟨by omega,?_⟩⟩;rw[B]
  | some p=>
   obtain⟨b,base⟩:=p;rw[B]at c aJ;obtain⟨W,cap,hv,MG,X,R⟩:=c;rw[A]at hv;injection hv with v e2 e3;subst v e3;obtain⟨cur,D,lP,ik⟩:=bC.cells R aJ
   have La:base+(off+l)*inf.size<=cur.size:=by
    obtain⟨uc,y,z',q,J⟩:=R;rw[D]at q;injection q with q;injection q with q _ _;subst q;exact J
   rw[abC]at La
   have key:∃cur1:Array Value,cur1.size=cur.size/\(match(some W:Option Addr)with | some a=>(storeCells (a.add (sl*inf.size)) news.toList).run P w=.ok () (w.setRow b cur1) | none=>w.setRow b cur1=w)/\
     ∀k,cur1[k]? =if base+off*inf.size+sl*inf.size<=k/\k<base+off*inf.size+sl*inf.size+m*inf.size then news[k - (base+off*inf.size+sl*inf.size)]? else cur[k]?:=by
    rcases acp m with h0 | h0
    ·subst h0;have hn:news=#[]:=acs afm;subst hn;refine⟨cur,rfl,?_,λk=>by rw[so aeP]⟩;show(storeCells (W.add (sl*inf.size)) []).run P w=.ok () (w.setRow b cur);rw[setRow_self w b cur e (0,0) D];rfl
    ·have X:=X aeP;subst X;have hmul:(sl+m)*inf.size<=l*inf.size:=abB _ U;rw[abC]at hmul;have qZ:=run_storeCells_at P b (base+off*inf.size+sl*inf.size) e news.toList 0 cur w D aeU q3;rw[ace]at qZ;refine⟨(cur.toList.take (base+off*inf.size+sl*inf.size)++news.toList++cur.toList.drop (base+off*inf.size+sl*inf.size+news.toList.length)).toArray,?_,?_,λk=>?_⟩
     ·simp;omega
     ·show(storeCells ((⟨b,base+off*inf.size,none⟩:Addr).add (sl*inf.size)) news.toList).run P w=.ok () _;rw[Addr.add_lit];exact qZ
     ·have VB:=oe cur.toList news.toList (base+off*inf.size+sl*inf.size) k aeU;rw[acE,VB];simp only[abJ,acn,q1]
   obtain⟨cur1,c1,c2,c3⟩:=key;have G:=gG (P:=P) (w:=w) t tx ty e inf d hu Y hd gr (some W) sl l (a.eval x) m news (w.setRow b cur1) r1 V U c2;have hmul:(sl+m)*inf.size<=l*inf.size:=abB _ U;rw[abC]at hmul
   have iY:=Ad (w1:=w.setRow b cur1) hc id C r g2 inf.size n2 L q2 Z sl g (g+1) inf.size n (sl+m) e f (λi=>bif Nat.blt i sl then f (off+i)else q2 (o+(i - sl))) hh b (base+off*inf.size) cur1 aeP (λhe=>absurd he aeP)
    (.inr ⟨base,cur,B,D,c1.symm⟩) (setRow_heap w b cur _ e _ D) (by rw[c1,abC];omega) (λb' _ r=>setRow_other w b b' _ r) aeR rfl rfl rfl NA BN
    (λi j pv hi hj=>by
     have ED:j<inf.size:=by rw[<-NA i hi];exact(As.1 hj).1
     rw[c3];by_cases z:i<sl
     ·have RU:Nat.blt i sl=true:=by simpa using z
      rw[RU]at hj;simp only[cond_true]at hj;have kq:(i+1)*inf.size<=sl*inf.size:=abB _ z;rw[abC]at kq;rw[so aeP];obtain⟨u,q,J⟩:=ik (off+i) j pv aeP hj;refine⟨u,?_,J⟩;rw[<-q];congr 1;rw[abC];omega
     ·have RU:Nat.blt i sl=false:=by
       cases SX:Nat.blt i sl with
       | true=>exact(z (by simpa using SX)).elim
       | false=>rfl
      rw[RU]at hj;simp only[cond_false]at hj;have v:i*inf.size=sl*inf.size+(i - sl)*inf.size:=by rw[<-abC];congr 1;omega
      have e2:(i - sl+1)*inf.size<=m*inf.size:=abB _ aeP;rw[abC]at e2;rw[An aeP];obtain⟨u,q,J⟩:=F (i - sl) j pv aeP hj;exact⟨u,by rw[<-q];congr 1;omega,J⟩) off o (Xg aeP)
   obtain⟨I,H⟩:=iY;refine eN.gg (gN A rfl G) hK ?_ H I;show aN _ _ _ _ _ _ _ _;unfold aN;rw[abL r,acm hid];refine⟨⟨_,_,_,rfl⟩,abn _,λ_=>⟨by omega,?_⟩⟩;rw[aR];refine⟨W,l,rfl,U,λJH=>?_,cur1,e,_,setRow_heap w b cur _ e _ D,?_⟩
   ·rw[X JH,Nat.zero_mul,ace]
   ·rw[c1,abx];omega
 ·-- it ao
  obtain⟨r1,_⟩:=q4 w (bR.refl w);obtain⟨_,V⟩:=q4 w.drew (bR.drew w);obtain⟨_,s2⟩:=o4 w.drew (bR.drew w);rw[A]at s2;have G:=jv (P:=P) (w:=w) t tx ty e inf zv d hu Y hd gr hz sa sl l (a.eval x) m jn news r1 s2 V aeP Xf E;have Gp:=grownCap_ge w (sl+m) l e
  have iY:=Ad (w1:=w.drew.alloc (.cells (jn++news++Builtin.zeroCells zv.cells (grownCap w (sl+m) l e - (sl+m))) e)) hc id C r g2 inf.size n2 L q2 Z sl g (g+1) inf.size n (sl+m) e f (λi=>bif Nat.blt i sl then f (off+i)else q2 (o+(i - sl))) hh
   w.heap.size 0 (jn++news++Builtin.zeroCells zv.cells (grownCap w (sl+m) l e - (sl+m))) aeP (λhe=>absurd he aeP) (.inl (abn _)) (heap_alloc_new w.drew _)
   (by simp only[acM,o1,q1,abC];omega) (λb bm _=>heap_alloc_old w.drew _ bm) aeR rfl rfl rfl NA BN
   (λi j pv hi hj=>by
    rw[abx];exact yf o1 q1 o2 F O2 O3 i j pv hi hj) off o (Xg aeP)
  obtain⟨I,H⟩:=iY;refine eN.gg (gN A rfl G) hK ?_ H I;show aN _ _ _ _ _ _ _ _;unfold aN;rw[abL r,acm hid];refine⟨⟨_,_,_,rfl⟩,abn _,λ_=>⟨by omega,?_⟩⟩;rw[aR];refine⟨_,grownCap w (sl+m) l e,rfl,Gp,λ_=>by simp,_,e,_,heap_alloc_new w.drew _,?_⟩;simp only[acM,me,KE,o1,q1,abx];have:grownCap w (sl+m) l e*inf.size=(sl+m)*inf.size+(grownCap w (sl+m) l e - (sl+m))*inf.size:=by rw[<-abC];congr 1;omega
  rw[abC]at this;omega
theorem Bx (r:df P T) (hc:Core μ h S w) (O:∀t,bg μ h S w (env t) (a.tmps.getD t undef)) (args:Array Operand) (F:Array TypeId) (hp:pop P T (.call ⟨.builtin .append,args,F⟩) env h K):
  eN P ⟨dst,.call ⟨.builtin .append,args,F⟩,ty,pos,after,guard⟩ a μ h S w K:=by
 obtain⟨args⟩:=args;obtain⟨F⟩:=F;simp only[pop]at hp;split at hp
 ·rename_i s x t tx;have hs:=bF O s;have b:=bF O x
  have main:∀(e sz bytes:Nat) (zero:List PV) (d:TypeDesc),T.get t=.slice e sz bytes zero->P.underlying tx=some d->((∃c,d=.slice c)\/d=.string)->E6 e sz bytes (ev env s) (ev env x) h K->
    eN P ⟨dst,.call ⟨.builtin .append,#[s,x],#[t,tx]⟩,ty,pos,after,guard⟩ a μ h S w K:=by
   intro e sz bytes zero d k G hd hp;have D:=(r.slice _ _ _ _ _ k).2.1;cases hp with
   | move hp=>
    unfold C9 at hp;split at hp
    ·rename_i l W m u hex;rw[u]at hs;rw[hex]at b;split at hp
     ·rename_i v lG n2 c q hg;obtain⟨rfl,hp⟩:=hp;replace hp:=aW hp;obtain⟨o,y,z⟩:=hp;obtain rfl:=abo o;have p:=dw hg;have X:l<h.length:=(As.1 p).1;have C:=lL (P:=P) hc l v 0 m sz n2 c q p _ b D
      have H:0+m<=n2:=by
       have A:=b.lF;unfold aN at A;rw[p]at A;exact(A.2.2 rfl).1
      obtain⟨E,Q⟩:=lW (w1:=w) hc sz 0 e (λ_=>[]) none rfl (bR.refl w) (λi hi=>absurd hi (abR _)) (λi j pv hi=>absurd hi (abR _));have R:(h++[ai.row 0 sz 0 e (λ_=>[])])[h.length]? =some (.row 0 sz 0 e (λ_=>[])):=by simp
      have U:(h++[ai.row 0 sz 0 e (λ_=>[])])[l]? =some (.row v sz n2 c q):=by rw[abK X];exact p
      have Y:bg (jG μ h.length none) (h++[ai.row 0 sz 0 e (λ_=>[])]) S w (.own h.length 0 0 0) (a.eval s):=by
       rw[hs.lT];show aN _ _ w h.length 0 0 0 _;unfold aN;rw[R,aR];exact⟨⟨_,_,_,rfl⟩,abn _,λ_=>⟨abn _,rfl⟩⟩
      have I:=bg.fr E hc.ok b;have Z:=lL (P:=P) Q l v 0 m sz n2 c q U _ I D
      have key:=vi (dst:=dst) (pos:=pos) (after:=after) (guard:=guard) (ty:=ty) (K:=K) r Q t tx e sz bytes zero d k G hd s x h.length 0 0 0 0 (λ_=>[]) R Y l aeP v n2 c q 0 m U H Z (by rw[abx];exact y) (by
       have J:(λi=>bif Nat.blt i 0 then([]:List PV)else q (0+(i - 0)))=q:=by funext i;rw[abx];rfl
       rw[J,abx m];exact z)
      exact eN.NR E hc.ok key
     ·exact aen
    ·rename_i id gen len l W m u hex;rw[u]at hs;rw[hex]at b;split at hp
     ·rename_i g V n c f hg;split at hp
      ·rename_i v lG n2 e2 q L;obtain⟨rfl,rfl,hp⟩:=hp;replace hp:=aW hp;obtain⟨o,y,z⟩:=hp;simp only[Is,abW]at o;obtain⟨h1,h2,h3,h4⟩:=o;obtain rfl:=abo h1;obtain rfl:=abo h2;obtain rfl:=abo h3;have la:l≠id:=Nat.ne_of_beq_eq_false h4;have p:=dw L
       have H:0+m<=n2:=by
        have A:=b.lF;unfold aN at A;rw[p]at A;exact(A.2.2 rfl).1
       have C:=lL (P:=P) hc l v 0 m sz n2 e2 q p _ b D;refine vi r hc t tx e sz bytes zero d k G hd s x id g 0 len n f (dw hg) hs l la v n2 e2 q 0 m p H C y ?_;have J:(λi=>bif Nat.blt i len then f (0+i)else q (0+(i - len)))=fjn f len q:=by funext i;rw[abx,abx];rfl
       rw[J];exact z
      ·exact aen
     ·exact aen
    ·exact aen
   | dS hp=>
   unfold qu at hp;split at hp
   ·rename_i u;rw[u]at hs;obtain⟨_,g,⟨y,m,f',rfl,M,z⟩,C,Yp⟩:=Ac (P:=P) hc _ _ b sz D _ hp;exact eN.rows (C7 r hc t tx e sz bytes zero d k G hd s x hs.lT m g C Yp y ⟨_,dz.snoc _ _ _ _ _ _ _ M,z⟩)
   ·rename_i id gen off len u;rw[u]at hs;split at hp
    ·rename_i g V n c f hg;obtain⟨rfl,hp⟩:=hp;replace hp:=aW hp;obtain⟨o,hp⟩:=hp;simp only[Is]at o;obtain rfl:=abo o.1;obtain rfl:=abo o.2;obtain⟨m,q,⟨y,n',f',rfl,M,z⟩,C,N⟩:=Ac (P:=P) hc _ _ b sz D _ hp;exact eN.rows (E5 r hc t tx e sz bytes zero d k G hd s x id g off len n f (dw hg) hs m q C N y ⟨_,dz.set _ _ _ _ _ _ _ _ M,z⟩)
    ·exact aen
   ·exact aen
  split at hp
  ·rename_i e sz bytes zero c V aa ad k B;exact main e sz bytes zero _ k (r.slice _ _ _ _ _ B).1 (.inl ⟨_,rfl⟩) hp
  ·rename_i e sz bytes zero k B;exact main e sz bytes zero _ k (r.str _ B) (.inr rfl) hp
  ·exact aen
 ·exact aen
theorem bg.NT {pv:PV} {v:Value} (a:gK μ h S w pv v):bg μ h S w pv v:=by
 cases pv with
 | eC b=>exact(show False from a).elim
 | _=>exact a
theorem E7 (hc:Core μ h S w) (n:∀t,bg μ h S w (env t) (a.tmps.getD t undef)) (d:Operand) (args:Array Operand) (k:Array TypeId) (hp:pop P T (.call ⟨.value d,args,k⟩) env h K):
  eN P ⟨dst,.call ⟨.value d,args,k⟩,ty,pos,after,guard⟩ a μ h S w K:=by
 have l:=bF n d;simp only[pop]at hp;split at hp
 ·rename_i f o;rw[o]at l;replace hp:=aW hp;obtain⟨g,R,⟨⟨fn,c,q,r,s⟩,y⟩,z⟩:=hp;simp only[abw]at g
  have A:=y w (args.map a.eval) μ S hc.heap hc.ok aeR (λj pv hj=>by
   rw[abD]at hj;cases b:args.toList[j]? with
   | none=>rw[b]at hj;cases hj
   | some x=>
    rw[b]at hj;injection hj with hj;subst hj;refine⟨a.eval x,by rw[acW];simp only[abJ]at b;rw[b];rfl,?_⟩;have hv:=bF n x;have i:=g x (abA b);cases he:ev env x with
    | eC J=>rw[he]at i;cases i
    | _=>rw[he]at hv;exact hv)
  intro next Q B
  have C:(execOp a.eval ⟨dst,.call ⟨.value d,args,k⟩,ty,pos,after,guard⟩).run P w=.ok (.enter f (args.map a.eval)) w:=by
   simp only[execOp,resolve,l.KB,Deferred.ofValue,invoke,callFunc,Sem.run_bind,Sem.run_pure,Result.andThen_ok,Array.append_empty,acX];have D:¬fn.name= "runtime.NumGoroutine" :=by simpa using s
   simp [program,Sem.run,Result.andThen,q,D,r]
  unfold Oper.wp;rw[C];show Calls P f (args.map a.eval) w _;refine A.mono λe w' ⟨v,res,h',μ',S',he,E,hv,F,G,H⟩=>?_;subst he;exact B res v h' μ' S' w' (z res h' E) hv ⟨F,G⟩ H
 ·rename_i f bq o;rw[o]at l;replace hp:=aW hp;obtain⟨g,R,⟨⟨fn,c,q,r,s⟩,y⟩,z⟩:=hp;simp only[abw]at g;obtain⟨vs,I,L,M⟩:=(show lr μ h w f bq (a.eval d)from l)
  have A:=y w (args.map a.eval++vs) μ S hc.heap hc.ok (by simp [L]) (λj pv hj=>by
   by_cases m:j<args.size
   ·rw[abK (by simpa using m),abD]at hj;cases b:args.toList[j]? with
    | none=>rw[b]at hj;cases hj
    | some x=>
     rw[b]at hj;injection hj with hj;subst hj;refine⟨a.eval x,by rw[abX (by simpa using m),acW];simp only[abJ]at b;rw[b];rfl,?_⟩;have hv:=bF n x;have i:=g x (abA b);cases he:ev env x with
     | eC J=>rw[he]at i;cases i
     | _=>rw[he]at hv;exact hv
   ·rw[abI (by simpa using Nat.le_of_not_lt m),abD]at hj;simp only[abT,acn]at hj;cases b:bq[j - args.size]? with
    | none=>rw[b]at hj;cases hj
    | some p=>
     rw[b]at hj;injection hj with hj;subst hj;obtain⟨u,q1,q2⟩:=M _ p b;exact⟨u,by rw[Array.getElem?_append_right (by simpa using Nat.le_of_not_lt m)];simpa using q1,q2⟩)
  intro next Q B
  have C:(execOp a.eval ⟨dst,.call ⟨.value d,args,k⟩,ty,pos,after,guard⟩).run P w=.ok (.enter f (args.map a.eval++vs)) w:=by
   simp only[execOp,resolve,I,Deferred.ofValue,invoke,callFunc,Sem.run_bind,Sem.run_pure,Result.andThen_ok,acX];have D:¬fn.name= "runtime.NumGoroutine" :=by simpa using s
   simp [program,Sem.run,Result.andThen,q,D,r]
  unfold Oper.wp;rw[C];show Calls P f (args.map a.eval++vs) w _;refine A.mono λe w' ⟨v,res,h',μ',S',he,E,hv,F,G,H⟩=>?_;subst he;exact B res v h' μ' S' w' (z res h' E) hv ⟨F,G⟩ H
 ·exact aen
theorem tC:∀(z xs f:List PV) (b:Bool),zM z xs f=some b->b=true->∀(j:Nat) (p q:PV),xs[j]? =some p->f[j]? =some q->p=q/\((∃k n,p=.int k n)\/(∃b,p=.bool b)\/∃s,p=.str s)
 | z,xs,f,b,d,g,j,p,q,hp,a=>by
  subst g;unfold zM at d;split at d
  ·simp at hp
  ·obtain⟨hg,c,hc,e⟩:=bT d;simp only[Is]at hg;obtain rfl:=dK hg.1;obtain rfl:=dK hg.2;have e:=e.symm;simp only[Is,ack]at e;obtain⟨rfl,rfl⟩:=e;cases j with
   | zero=>simp at hp a;subst hp;subst a;exact⟨rfl,.inl ⟨_,_,rfl⟩⟩
   | succ j=>exact tC _ _ _ _ hc rfl j p q afc (by simpa using a)
  ·obtain⟨hg,c,hc,e⟩:=bT d;have e:=e.symm;simp only[Is,ack]at e;obtain⟨rfl,rfl⟩:=e;cases j with
   | zero=>simp at hp a;subst hp;subst a;exact⟨rfl,.inr (.inl ⟨_,rfl⟩)⟩
   | succ j=>exact tC _ _ _ _ hc rfl j p q afc (by simpa using a)
  ·obtain⟨hg,c,hc,e⟩:=bT d;have e:=e.symm;simp only[Is,ack]at e;obtain⟨rfl,rfl⟩:=e;cases j with
   | zero=>simp at hp a;subst hp;subst a;exact⟨rfl,.inr (.inr ⟨_,rfl⟩)⟩
   | succ j=>exact tC _ _ _ _ hc rfl j p q afc (by simpa using a)
  ·cases d
theorem tD:∀(z xs d:List PV) (b:Bool),zM z xs d=some b->d.length=xs.length
 | z,xs,d,b,a=>by
  unfold zM at a;split at a
  ·rfl
  ·obtain⟨_,c,hc,_⟩:=bT a;simp [tD _ _ _ c hc]
  ·obtain⟨_,c,hc,_⟩:=bT a;simp [tD _ _ _ c hc]
  ·obtain⟨_,c,hc,_⟩:=bT a;simp [tD _ _ _ c hc]
  ·cases a
theorem E8 (s:List UInt8):((ByteArray.mk ⟨s⟩)==(ByteArray.mk ⟨s⟩))=true:=by
 show((Array.mk s)==(Array.mk s))=true;simp
theorem uG (n:Nat) {p:PV} {u v:Value} (hp:(∃k n,p=.int k n)\/(∃b,p=.bool b)\/∃s,p=.str s) (hu:oS p u) (hv:bp μ h S w p v):Instr.sameBits n u v=true:=by
 rcases hp with⟨k,m,rfl⟩ | ⟨b,rfl⟩ | ⟨s,rfl⟩
 ·have hu:u=_:=hu;have hv:aI S w (.int k m) v:=hv;cases hv;subst hu;cases n<;>simp [Instr.sameBits]
 ·have hu:u=_:=hu;have hv:aI S w (.bool b) v:=hv;cases hv;subst hu;cases n<;>simp [Instr.sameBits]
 ·have hu:u=_:=hu;have hv:aI S w (.str s) v:=hv;cases hv;subst hu;cases n<;>simp [Instr.sameBits,E8]
theorem Lc {ti:TI} {k l:PV} {key f:Value} (g:bg μ h S w k key) (hs:mZ l f) (a:js ti k l=some true):Instr.sameBits 10000 f key=true:=by
 unfold js at a;split at a
 ·obtain⟨hg,c,hc,e⟩:=bT a;simp only[Is]at hg;obtain rfl:=dK hg.1;obtain rfl:=dK hg.2;have e:=e.symm;simp only[Is,ack]at e;obtain⟨rfl,_⟩:=e;exact uG (μ:=μ) (h:=h) (S:=S) (w:=w) 10000 (.inl ⟨_,_,rfl⟩) hs g
 ·have a:=abP a;rw[ack]at a;subst a;exact uG (μ:=μ) (h:=h) (S:=S) (w:=w) 10000 (.inr (.inr ⟨_,rfl⟩)) hs g
 ·split at a
  ·rename_i z xs i _ _;obtain⟨n,rfl,o,q⟩:=(show gK μ h S w (.agg xs) key from g);obtain⟨r,rfl,y1,s⟩:=(show ∃vs:Array Value,f=.agg vs/\vs.size=i.length/\∀(j:Nat) (pv:PV),i[j]? =some pv->∃u:Value,vs[j]? =some u/\oS pv u from hs);have t:=tD _ _ _ _ a;rw[show 10000=9999+1 from rfl,Instr.sameBits];rw[Is];refine⟨by rw[ack,o,y1,t],abw.2 (λp hp=>?_)⟩;obtain⟨j,hj,rfl⟩:=abQ.1 hp;have x:=hj;rw[List.length_zip,acn,acn]at x;have b:j<xs.length:=by omega
   have d:j<i.length:=by omega
   obtain⟨y,e2⟩:=tC _ _ _ _ a rfl j _ _ (abm b) (abm d);obtain⟨u,hu,m⟩:=s j _ (abm d);obtain⟨v,hv,A⟩:=q j _ (abm b);rw[<-y]at m;have:=uG 9999 e2 m A;rw[List.getElem_zip];simp only[Array.getElem_toList];have h1:r[j]'aeP=u:=by rw[abM aeP]at hu;exact abP hu
   have h2:n[j]'aeP=v:=by rw[abM aeP]at hv;exact abP hv
   rw[h1,h2];exact this
  ·cases a
 ·cases a
theorem Ld {w1:World} (hc:Core μ h S w) (id g sz n n1:Nat) (e:TypeId) (f d:Nat->List PV) (hh:h[id]? =some (ai.row g sz n e f)) (b base:Nat) (es:Array MapEntry) (c:Nat) (U:μ id=some (b,base))
  (l:w.heap[b]? =some (.map es c)) (K:Array MapEntry) (c1:Nat) (hw:w1.heap[b]? =some (.map K c1)) (D:∀b',b'≠b->w1.heap[b']? =w.heap[b']?) (mA:w1.heap.size=w.heap.size) (Qt:w1.os=w.os)
  (xg:w1.tape=w.tape) (AY:w1.output=w.output) (hl:∀i,i<n1->(d i).length=sz)
  (L:K.size=n1/\∀i,i<n1->∃(M N:PV) (en:MapEntry),d i=[M,N]/\iq M=true/\iq N=true/\K[i]? =some en/\mZ M en.key/\mZ N en.val):
  Fr μ h S w μ (h.set id (.row (g+1) sz n1 e d)) S w1/\Core μ (h.set id (.row (g+1) sz n1 e d)) S w1:=by
 have hid:id<h.length:=(As.1 hh).1;have O:(h.set id (ai.row (g+1) sz n1 e d))[id]? =some (ai.row (g+1) sz n1 e d):=by simp [hid]
 have r:∀j,j≠id->(h.set id (ai.row (g+1) sz n1 e d))[j]? =h[j]?:=λj hj=>by rw[abL (acB hj)]
 have OD:wj μ h b:=⟨id,g,sz,n,e,f,base,hh,U⟩;have rY:bS μ h b:=.inl OD
 have rO:∀b',wj μ (h.set id (ai.row (g+1) sz n1 e d)) b'->wj μ h b':=λb' m=>by
  obtain⟨j,s,t,u,A,B,kz,hj,hm⟩:=m;by_cases a:j=id
  ·subst a;exact⟨j,g,sz,n,e,f,kz,hh,hm⟩
  ·rw[r j a]at hj;exact⟨j,s,t,u,A,B,kz,hj,hm⟩
 have P:∀j x y b,cw (h.set id (ai.row (g+1) sz n1 e d)) j x y b->cw h j x y b:=λj x y b ⟨s,t,u,A,B,E,F,G,H,F',q1,q2,q3,q4⟩=>by
  by_cases a:j=id
  ·subst a;rw[O]at q1;injection q1 with q1;injection q1 with Q e2 I R J;subst I J;obtain⟨M,N,en,r1,r2,r3,_⟩:=L.2 x q2;rw[r1]at q3
   match y,q3 with
   | 0,q3=>simp at q3;rw[q3]at r2;cases r2
   | 1,q3=>simp at q3;rw[q3]at r3;cases r3
   | y+2,q3=>simp at q3
  ·rw[r j a]at q1;exact aeJ
 have V:∀b',bS μ (h.set id (ai.row (g+1) sz n1 e d)) b'->bS μ h b':=λb' m=>by
  rcases m with m | ⟨x,y,z,m⟩
  ·exact .inl (rO _ m)
  ·exact .inr ⟨x,y,z,P _ _ _ _ m⟩
 have nO:∀j x y b',cw h j x y b'->w1.heap[b']? =w.heap[b']?:=λj x y b' C=>D b' (by
  rintro rfl;exact hc.ok.hv b' OD j x y C)
 have W:Fr μ h S w μ (h.set id (.row (g+1) sz n1 e d)) S w1:=by
  refine⟨by simp,λb' _ uf=>D b' (λhe=>uf (he▸rY)),λ_ l=>l,λ_ l=>.inl l,λb' m=>.inl (V b' m),by omega,Qt,xg,AY,λj s t u A B hj=>?_,λj hj=>?_,λb' k _ dN=>?_,λj s t u A B b' k5 hj hm X=>?_,λb' j x y C X=>let⟨Y,Z,q⟩:=X;⟨Y,Z,(nO j x y b' C).trans q⟩⟩
  ·by_cases a:j=id
   ·subst a;rw[hh]at hj;injection hj with hj;injection hj with Q e2 I R J;subst Q e2 I R J;rw[O];exact⟨by omega,λhe=>absurd he aeP⟩
   ·rw[r j a,hj];exact aeH
  ·have a:j≠id:=by rintro rfl;rw[hh]at hj;cases hj
   rw[r j a];exact hj
  ·have la:b'≠b:=by
    rintro rfl;exact dN.xj ⟨es,c,l⟩
   exact iu.of_same (D b' la) dN
  ·have hex:∃g' E F G H,(h.set id (ai.row (g+1) sz n1 e d))[j]? =some (ai.row g' E F G H):=by
    by_cases a:j=id
    ·subst a;exact⟨_,_,_,_,_,O⟩
    ·exact⟨_,_,_,_,_,(r j a).trans hj⟩
   refine⟨?_,.inr ⟨hex,hm⟩⟩;by_cases T:b'=b
   ·subst T;exact⟨K,c1,hw⟩
   ·obtain⟨Y,Z,q⟩:=X;exact⟨Y,Z,(D b' T).trans q⟩
 refine⟨W,⟨λj s t u A B hj=>?_,⟨λb l=>hc.ok.apart b (V b l),λb l=>by rw[mA];exact hc.ok.lt b (V b l),λb l=>by rw[mA];exact hc.ok.slt b l,?_,hc.ok.uu W,λb l x y z C=>hc.ok.hv b (rO b l) x y z (P _ _ _ _ C),λb _ _ _ _ _ _ C hy=>hc.ok.hh b _ _ _ _ _ _ (P _ _ _ _ C) (P _ _ _ _ hy)⟩⟩⟩
 ·by_cases a:j=id
  ·subst a;rw[O]at hj;injection hj with hj;injection hj with Q e2 I R J;subst Q e2 I R J;refine⟨hl,?_⟩;rw[U];exact⟨_,hw,L⟩
  ·rw[r j a]at hj;obtain⟨h1,h2⟩:=hc.heap j s t u A B hj;refine⟨h1,?_⟩;cases hm:μ j with
   | none=>rw[hm]at h2;exact h2
   | some p=>
    obtain⟨b',k5⟩:=p;rw[hm]at h2;obtain⟨o,q1,q2⟩:=h2
    have T:b'≠b:=by
     rintro rfl;exact a (hc.ok.inj j id _ _ _ _ _ _ _ _ _ _ _ _ _ hj hh hm U)
    exact⟨o,(D b' T).trans q1,q2.mono (λi y pv v hi hy L=>L.fr W hc.ok (λE F G H F' he b2 qj=>nO j i y b2 ⟨_,_,_,_,_,_,_,_,_,_,hj,hi,he▸hy,qj⟩))⟩
 ·intro i j gi HR ni ei fi s t u A B b' o o' hi hj kq jN
  have back:∀k gk OE nk ek fk,(h.set id (ai.row (g+1) sz n1 e d))[k]? =some (ai.row gk OE nk ek fk)->∃g' E F G H,h[k]? =some (ai.row g' E F G H):=λk gk OE nk ek fk hk=>by
   by_cases qK:k=id
   ·subst qK;exact⟨_,_,_,_,_,hh⟩
   ·rw[r k qK]at hk;exact⟨_,_,_,_,_,hk⟩
  obtain⟨_,_,_,_,_,h1⟩:=back _ _ _ _ _ _ hi;obtain⟨_,_,_,_,_,h2⟩:=back _ _ _ _ _ _ hj;exact hc.ok.inj i j _ _ _ _ _ _ _ _ _ _ _ _ _ h1 h2 kq jN
theorem H9 {w1:World} (hc:Core μ h S w) (a:bR w w1) (b:Nat) (u:w.heap.size<=b) (z:b<w1.heap.size):Fr μ h S w μ h (λx=>S x\/x=b) w1/\Core μ h (λx=>S x\/x=b) w1:=by
 have f:Fr μ h S w μ h (λx=>S x\/x=b) w1:=by
  refine⟨abn _,λb' e _=>a.blocks b' e,λ_ hs=>.inl hs,λb' e=>?_,λ_ d=>.inl d,a.size,a.os,a.tape,a.output,λj g l m n r hj=>?_,λ_ hd=>hd,λb' k d A=>?_,λj g l m n r b' B hj hm s=>?_,λb' j x y C s=>let⟨D,E,q⟩:=s;⟨D,E,(a.blocks b' (hc.ok.lt b' (.inr ⟨j,x,y,C⟩))).trans q⟩⟩
  ·rcases e with e | rfl
   ·exact .inl e
   ·exact .inr (.inr u)
  ·rw[hj];exact⟨abn _,λ_=>⟨rfl,rfl,rfl,rfl⟩⟩
  ·exact iu.of_same (a.blocks b' (hc.ok.lt b' d)) A
  ·obtain⟨es,c,q⟩:=s;exact⟨⟨es,c,(a.blocks b' (hc.ok.lt b' (.inl ⟨_,_,_,_,_,_,_,hj,hm⟩))).trans q⟩,.inr ⟨⟨_,_,_,_,_,hj⟩,hm⟩⟩
 refine⟨f,⟨λj g l m n r hj=>?_,⟨λb' d hs=>?_,λb' d=>abG (hc.ok.lt b' d) a.size,λb' hs=>?_,hc.ok.inj,hc.ok.uu f,hc.ok.hv,hc.ok.hh⟩⟩⟩
 ·obtain⟨h1,h2⟩:=hc.heap j g l m n r hj;refine⟨h1,?_⟩;cases hm:μ j with
  | none=>rw[hm]at h2;exact h2
  | some p=>
   obtain⟨b',B⟩:=p;rw[hm]at h2;obtain⟨o,q1,q2⟩:=h2;exact⟨o,(a.blocks b' (hc.ok.lt b' (.inl ⟨_,_,_,_,_,_,_,hj,hm⟩))).trans q1,q2.mono (λi y pv v hi hy F=>F.fr f hc.ok (λH I J K L he t G=>a.blocks t (hc.ok.lt t (.inr ⟨j,i,y,_,_,_,_,_,_,_,_,_,_,hj,hi,he▸hy,G⟩))))⟩
 ·rcases hs with hs | rfl
  ·exact hc.ok.apart b' d hs
  ·exact absurd (hc.ok.lt b' d) aeP
 ·rcases hs with hs | rfl
  ·exact abG (hc.ok.slt b' hs) a.size
  ·exact z
theorem yh (c:df P T) (hc:Core μ h S w) (l:∀t,bg μ h S w (env t) (a.tmps.getD t undef)) (s d:Nat) (x:Operand) (hp:pop P T (.convert s d x) env h K):eN P ⟨dst,.convert s d x,ty,pos,after,guard⟩ a μ h S w K:=by
 simp only[pop]at hp;split at hp
 ·rename_i e sz u z b hs hd n;split at hp
  ·rename_i he;obtain⟨m,f,o⟩:=hp;have hv:=bF l x;rw[n]at hv;have p:=Lib.run_convert_string_bytes (P:=P) w s d e ⟨⟨b⟩⟩ (c.str _ hs) (c.slice _ _ _ _ _ hd).1 (c.int _ _ he)
   have g:bR w (Lib.bytesWorld w e ⟨⟨b⟩⟩):=by
    have:=Lib.bytesWorld_below w e ⟨⟨b⟩⟩;exact⟨this.block,this.size,this.os,this.tape,this.output⟩
   obtain⟨q,r⟩:=H9 hc g w.heap.size (abn _) (by rw[Lib.bytesWorld_size];omega);refine eN.gg (val:=.slice (some ⟨w.heap.size,0,none⟩) b.length (grownCap w b.length 0 e)) (cu rfl ?_) o ?_ r q
   ·rw[hv.kd];exact p
   ·show aI _ _ (.eD 1 b.length m) _;refine .eD 1 b.length m w.heap.size 0 _ (λi _=>.int .u8 (b.getD i 0).toNat) (.inr rfl) (λi hi=>by rw[f i hi];rfl) ?_ (λi j pv hi hj=>?_) (λi j pv hi hj=>?_)
    ·have:=grownCap_ge w b.length 0 e;omega
    ·rw[f i hi]at hj
     have k:j=0:=by
      have:=(As.1 hj).1;simpa using this
     subst k;have:=Lib.bytesWorld_cell w e ⟨⟨b⟩⟩ i (by show i<b.length;exact hi);rw[show 0+i*1+0=i by omega];exact this
    ·rw[f i hi]at hj
     have k:j=0:=by
      have:=(As.1 hj).1;simpa using this
     subst k;simp at hj;subst hj;exact .int _ _
  ·exact aen
 ·exact .nP hc (kK c hc.heap l hp)
theorem zi (f:df P T) (hc:Core μ h S w) (t:Nat) (hp:pop P T (.makeMap t none) env h K):eN P ⟨dst,.makeMap t none,ty,pos,after,guard⟩ a μ h S w K:=by
 simp only[pop]at hp;split at hp
 ·rename_i kt g k l;obtain⟨b,c⟩:=hp;obtain⟨d,e⟩:=zS (w1:=w.alloc (.map #[] 0)) hc 2 0 t b (some (w.heap.size,0)) ⟨abn _,_,heap_alloc_new w _,rfl,λi hi=>absurd hi (abR _)⟩ (jK w _) (λi hi=>absurd hi (abR _)) (λi j pv hi=>absurd hi (abR _));refine eN.gg (val:=.map (some w.heap.size)) (cu rfl rfl) c ?_ e d;show eL _ _ _ _ _;unfold eL;rw[abI (abn _),acx];exact⟨⟨_,rfl⟩,w.heap.size,0,aR _ _ _,⟨_,_,heap_alloc_new w _⟩,rfl⟩
 ·exact aen
theorem tE:∀(z xs d:List PV) (b:Bool),zM z xs d=some b->xs.all pZ=true/\xs.all jI=true
 | z,xs,d,b,a=>by
  unfold zM at a;split at a
  ·exact aez
  ·obtain⟨_,c,hc,_⟩:=bT a;obtain⟨h1,h2⟩:=tE _ _ _ c hc;simp [pZ,jI,h1,h2]
  ·obtain⟨_,c,hc,_⟩:=bT a;obtain⟨h1,h2⟩:=tE _ _ _ c hc;simp [pZ,jI,h1,h2]
  ·obtain⟨_,c,hc,_⟩:=bT a;obtain⟨h1,h2⟩:=tE _ _ _ c hc;simp [pZ,jI,h1,h2]
  ·cases a
theorem Le {ti:TI} {a b:PV} {q:Bool} (h0:js ti a b=some q):iq a=true/\storable a=true:=by
 unfold js at h0;split at h0
 ·exact aez
 ·exact aez
 ·split at h0
  ·exact tE _ _ _ _ h0
  ·cases h0
 ·cases h0
theorem tF {pv:PV} {v:Value} (hs:pZ pv=true) (hj:jI pv=true) (hv:bp μ h S w pv v):oS pv v:=by
 cases pv with
 | int k n=>have hv:aI S w (.int k n) v:=hv;cases hv;rfl
 | bool b=>have hv:aI S w (.bool b) v:=hv;cases hv;rfl
 | str s=>have hv:aI S w (.str s) v:=hv;cases hv;rfl
 | gf=>cases hj
 | _=>cases hs
theorem GF {pv:PV} {v:Value} (hs:iq pv=true) (hj:storable pv=true) (hv:bg μ h S w pv v):mZ pv v:=by
 cases pv with
 | agg cs=>
  obtain⟨vs,rfl,h1,h2⟩:=(show gK μ h S w (.agg cs) v from hv);refine⟨vs,rfl,h1,λj pv a=>?_⟩;obtain⟨u,q1,q2⟩:=h2 j pv a;have hm:=abA a;exact⟨u,q1,tF (abw.1 hs pv hm) (abw.1 hj pv hm) q2⟩
 | int k n=>exact tF (μ:=μ) (h:=h) (S:=S) (w:=w) (pv:=.int k n) hs hj hv
 | bool b=>exact tF (μ:=μ) (h:=h) (S:=S) (w:=w) (pv:=.bool b) hs hj hv
 | str s=>exact tF (μ:=μ) (h:=h) (S:=S) (w:=w) (pv:=.str s) hs hj hv
 | gf=>cases hj
 | _=>cases hs
theorem By {EW new:Value} {w':World} (h1:Instr.sameBits 10000 EW new=true):(Instr.keyThatStays EW new).run P w'=.ok new w':=by
 simp [Instr.keyThatStays,h1]
theorem Ia {w:World} {b:Nat} {o a:Obj} (c:w.heap[b]? =some o):({w with heap:=w.heap.setIfInBounds b a}:World).heap[b]? =some a:=by
 have:=(abq.1 c).1;simp [this]
theorem E9 {w:World} {b b':Nat} {a:Obj} (c:b'≠b):({w with heap:=w.heap.setIfInBounds b a}:World).heap[b']? =w.heap[b']?:=by
 simp [Array.getElem?_setIfInBounds,acB c]
theorem vP (hT:df P T) (hc:Core μ h S w) (N:∀t,bg μ h S w (env t) (a.tmps.getD t undef)) (t:Nat) (m k x:Operand) (hp:pop P T (.mapUpdate t m k x) env h K):
  eN P ⟨dst,.mapUpdate t m k x,ty,pos,after,guard⟩ a μ h S w K:=by
 have hm:=bF N m;have O:=bF N k;have hx:=bF N x;simp only[pop]at hp;split at hp
 ·rename_i kt et zv id fA Q;rw[Q]at hm;split at hp
  ·rename_i g sz n e f zO;replace hp:=aW (bG (bG hp));obtain⟨mE,R,f',Ye,hK⟩:=hp;simp only[Is]at mE;obtain⟨⟨⟨Qv,U⟩,V⟩,Qz⟩:=mE;obtain rfl:=(abo Qz);obtain⟨hu,inf,z,gr,hz,fy,OC,qZ⟩:=hT.map _ _ _ _ fA;have hh:=dw zO;obtain⟨p,base,es,c,fD,ex,q,I,J⟩:=xD hc.heap hh hm.Bh;obtain⟨q0,h0⟩:=Option.isSome_iff_exists.1 Qv;obtain⟨d,s,hd,Ra,KG⟩:=Gm hT O h0;obtain⟨W,X⟩:=Le h0;have A:=GF W X O;have SF:=GF U V hx
   have tm:∀m,m<=n->zR (T.get kt) f m (ev env k)->∀j,j<m->∀y:MapEntry,es.toList[j]? =some y->pY P kt d s (a.eval k) y.key false:=λm aa B j hj y hy=>by
    obtain⟨u,C,h1,h2⟩:=B j hj;obtain⟨SQ,SR,en,D,_,_,h4,L,_⟩:=J j aeP;rw[h1]at D;injection D with E e2;subst E;have:y=en:=by rw[abJ]at hy;exact abP (hy.symm.trans h4)
    subst this;exact KG u y.key false L h2
   have main:∀(v:Array MapEntry) (M:Nat),(Instr.mapUpdate t (.map (some p)) (a.eval k) (a.eval x)).run P w=.ok () {w with heap:=w.heap.setIfInBounds p (.map v M)}->
     (v.size=R/\∀i,i<R->∃(u C:PV) (en:MapEntry),f' i=[u,C]/\iq u=true/\iq C=true/\v[i]? =some en/\mZ u en.key/\mZ C en.val)->
     eN P ⟨dst,.mapUpdate t m k x,ty,pos,after,guard⟩ a μ h S w K:=by
    intro v M gT hr
    obtain⟨gJ,lQ⟩:=Ld (w1:={w with heap:=w.heap.setIfInBounds p (.map v M)}) hc id g 2 n R e f f' hh p base es c fD q v M (Ia q) (λb' jC=>E9 jC) aeR rfl rfl rfl
     (λi hi=>by obtain⟨u,C,en,h1,_⟩:=hr.2 i hi;rw[h1];rfl) hr
    refine eN.Gr ?_ hK lQ gJ;have E:(execOp a.eval ⟨dst,.mapUpdate t m k x,ty,pos,after,guard⟩)=(do Instr.mapUpdate t (a.eval m) (a.eval k) (a.eval x);pure .skip:Sem Next):=rfl;rw[E,ex];simp only[Sem.run_bind,gT,Result.andThen,Sem.run_pure]
   rcases Ye with⟨F,r,⟨Y,B,Z,Nc,G⟩,SI,GG,Lf⟩ | ⟨B,SI,GG,Lf⟩
   ·obtain⟨SQ,SR,en,D,h8,h6,h4,L,h7⟩:=J F Y;rw[Nc]at D;injection D with E e2;injection e2 with e2 _;subst E e2;have xM:=xG (P:=P) (w':=w) hd es.toList F en (tm F aeP B) (by rw[abJ];exact h4) (KG Z en.key true L G);have Xk:=By (P:=P) (w':=w) (Lc O L G);refine main (es.modify F λe=>{e with key:=a.eval k,val:=a.eval x}) c ?_ ⟨by simp [I,SI],λi hi=>?_⟩
    ·simp [Instr.mapUpdate,run_underlying hu,run_getObj_map w p es c q,Ra,xM,h4,Xk,MapKept.run_setObj_map _ q]
    ·by_cases H:i=F
     ·subst H;refine⟨_,_,{en with key:=a.eval k,val:=a.eval x},GG,W,U,?_,A,SF⟩;rw[Array.getElem?_modify,An rfl,h4];rfl
     ·obtain⟨b,l,o,g1,g2,g3,g4,g5,g6⟩:=J i aeP;refine⟨b,l,o,by rw[Lf i aeP H,g1],g2,g3,?_,g5,g6⟩;rw[Array.getElem?_modify,so (acB H),g4]
   ·have xM:=th (P:=P) (w':=w) hd es.toList (λj y hy=>tm n (abn _) B j (by
      have:=(As.1 hy).1;rw[<-I];simpa using this) y hy)
    refine main (es.push {key:=a.eval k,val:=a.eval x,born:=c}) (c+1) ?_ ⟨by simp [I,SI],λi hi=>?_⟩
    ·simp [Instr.mapUpdate,run_underlying hu,run_getObj_map w p es c q,Ra,xM,MapKept.run_setObj_map _ q]
    ·by_cases H:i=n
     ·subst H;refine⟨_,_,{key:=a.eval k,val:=a.eval x,born:=c},GG,W,U,?_,A,SF⟩;rw[<-I];simp
     ·obtain⟨b,l,o,g1,g2,g3,g4,g5,g6⟩:=J i aeP;refine⟨b,l,o,by rw[Lf i aeP,g1],g2,g3,?_,g5,g6⟩;rw[acT,so aeP,g4]
  ·exact aen
 ·exact aen
theorem Bz (j:df P T) (hc:Core μ h S w) (i:∀t,bg μ h S w (env t) (a.tmps.getD t undef)) (k:BinOp) (t l:TypeId) (x y:Operand) (hp:pop P T (.binOp k t x y l) env h K):
  eN P ⟨dst,.binOp k t x y l,ty,pos,after,guard⟩ a μ h S w K:=by
 simp only[pop]at hp;split at hp
 ·rename_i e sz u z m n f o p hy;obtain⟨h1,h2⟩:=hp;have rx:=bF i x;have g:=bF i y;rw[p]at rx;rw[hy]at g;have rx:aI S w (.eD m n f) (a.eval x):=rx;have g:aI S w .aF (a.eval y):=g
  have q:a.eval y=.slice none 0 0:=by
   generalize a.eval y=v at g;cases g;rfl
  obtain⟨d,c,ex,r⟩:∃d c,a.eval x=.slice d n c/\(d=none->n=0):=by
   generalize a.eval x=v at rx;cases rx with
   | lM _ _ d c=>exact⟨d,c,rfl,λ_=>rfl⟩
   | eD _ _ _ b off c A _ _ _ _ _=>exact⟨_,c,rfl,λh0=>by cases h0⟩
  obtain⟨hu,_⟩:=j.slice _ _ _ _ _ o;have hg:eqGuard .eql t x y (a.eval x) (a.eval y)=pure ():=by rw[ex];apply eqGuard_at_slice
  have s:K (.bool d.isNone) h:=by
   cases d with
   | none=>exact h1 (r rfl)
   | some _=>exact h2
  refine .nP hc (.mk (v:=.bool d.isNone) s (aI.bool _) λw' _=>uX (Gj hg ?_));rw[ex,q];first | exact Lib.run_eql_slice_nil _ _ _ _ _ _ _ _ hu | exact run_eql_slice_nil _ _ _ _ _ _ hu
 ·exact .nP hc (kK j hc.heap i hp)
theorem Ae (e:df P T) (hc:Core μ h S w) (f:∀t,bg μ h S w (env t) (a.tmps.getD t undef)) {op:Op} (hp:pop P T op env h K):
  eN P ⟨dst,op,ty,pos,after,guard⟩ a μ h S w K:=by
 cases op with
 | store t i x=>exact CM e hc f t i x hp
 | makeSlice t l c=>exact EK e hc f t l c hp
 | box t x=>exact HV hc f t x hp
 | alloc t=>exact CO e hc t hp
 | buildSlice t len parts=>exact uw e hc f t len parts hp
 | convert s d x=>exact yh e hc f s d x hp
 | binOp j t x y n=>exact Bz e hc f j t n x y hp
 | makeMap t r=>cases r with
  | none=>exact zi e hc t hp
  | some r=>exact hp.elim
 | mapUpdate t m k x=>exact vP e hc f t m k x hp
 | call c=>
  obtain⟨o,args,g⟩:=c;cases o with
  | value p=>exact E7 hc f p args g hp
  | invoke r m=>exact .nP hc (kK e hc.heap f hp)
  | builtin b=>cases b with
   | append=>exact Bx e hc f args g hp
   | _=>exact .nP hc (kK e hc.heap f hp)
 | _=>exact .nP hc (kK e hc.heap f hp)
end
section
variable {P:Program}{T:lS}{μ:Mu}{h η:List ai}{k:List Nat}{S:Nat->Prop}{w:World}{m:Nat}
theorem rM.get:∀(l r:List PV),rM h η k l r->r.length=l.length/\∀(j:Nat) (pv pv':PV),l[j]? =some pv->r[j]? =some pv'->Fz h η k pv pv'
 | [],[],_=>⟨rfl,λj pv pv' hj=>by simp at hj⟩
 | [],_::_,hh=>hh.elim
 | _::_,[],hh=>hh.elim
 | a::l,b::r,hh=>by
  obtain⟨h1,h2⟩:=hh;obtain⟨q1,q2⟩:=rM.get l r h2;refine⟨by simp [q1],λj pv pv' hj c=>?_⟩;cases j with
  | zero=>
   simp at hj c;subst hj c;exact h1
  | succ j=>exact q2 j pv pv' aeZ (by simpa using c)
theorem kN:∀(l:List ai) (r:List Nat) (i:Nat),iB h η k m i l r->l.length=r.length/\∀(j:Nat) (o:ai),l[j]? =some o->∃id,r[j]? =some id/\vO h η k m o (i+j) id
 | [],[],i,_=>⟨rfl,λj o hj=>by simp at hj⟩
 | [],_::_,_,hh=>hh.elim
 | _::_,[],_,hh=>hh.elim
 | o::l,id::r,i,hh=>by
  obtain⟨h1,h2⟩:=hh;obtain⟨q1,q2⟩:=kN l r (i+1) h2;refine⟨by simp [q1],λj b hj=>?_⟩;cases j with
  | zero=>
   simp at hj;subst hj;exact⟨id,rfl,h1⟩
  | succ j=>
   simp at hj;obtain⟨a,r1,c⟩:=q2 j b hj;exact⟨a,by simpa using r1,by rw[show i+(j+1)=i+1+j from by omega];exact c⟩
def jB (μ:Mu) (h:List ai) (k:List Nat):Mu:=λa=>match k[a]? with | some id=>(match h[id]? with | some _=>μ id | none=>none) | none=>none
theorem oD {μ:Mu} {h:List ai} {k:List Nat} {id a:Nat} {o:ai} (b:k[a]? =some id) (c:h[id]? =some o):jB μ h k a=μ id:=by unfold jB;rw[b];simp only[c]
theorem Af {μ:Mu} {h:List ai} {k:List Nat} {id a:Nat} (b:k[a]? =some id) (c:h[id]? =none):jB μ h k a=none:=by unfold jB;rw[b];simp only[c]
def Ag (μ:Mu) (h:List ai) (k:List Nat) (S:Nat->Prop):Nat->Prop:=
 λb=>S b\/∃(id g sz n:Nat) (e:TypeId) (f:Nat->List PV) (base:Nat),id∉k/\h[id]? =some (ai.row g sz n e f)/\(μ id=some (b,base)\/∃i j,cw h id i j b)
theorem Lg {S S':Nat->Prop} {w:World} (s:∀b,S b->S' b) {pv:PV} {v:Value} (h:jz S w pv v):∀pv',yb pv pv'->(∀sz n e f F,pv=.eM sz n e f F->∀b,F b->S' b)->aI S' w pv' v:=by
 induction h with
 | nil sz e f F o=>
  intro pv' m _;cases m;exact .lM _ _ _ _
 | Dc sz n e f F b off c a cur t o u hlen hc x G y z H A I B=>
  intro pv' m l;have l:=l _ _ _ _ _ rfl;cases m with
  | mk _ _ _ _ p _ r hf d hp=>
   rcases acp n with h0 | h0
   ·subst h0;exact .lM _ _ _ _
   ·obtain rfl:=x aeP
    have get:∀(i j:Nat) (pv':PV),i<n->(p i)[j]? =some pv'->∃pv,(f i)[j]? =some pv:=λi j pv' hi hj=>by
     have C:j<(f i).length:=by rw[<-r i hi];exact(As.1 hj).1
     exact⟨_,abm C⟩
    refine .eD sz n p b off c t (l b o) (λi hi=>by rw[r i hi];exact hlen i hi) hc (λi j pv' hi hj=>?_) (λi j pv' hi hj=>?_)
    ·obtain⟨pv,g⟩:=get i j pv' hi hj;rw[cell_of_row w b _ cur e (0,0) u,<-y i j pv hi g]
    ·obtain⟨pv,g⟩:=get i j pv' hi hj;cases k:dL pv with
     | false=>
      rw[hf i j pv pv' hi g hj k];rcases z i j pv hi g with q | ⟨_,_,_,_,_,q⟩
      ·exact q.mono (λ_ _=>rfl) s
      ·rw[q]at k;cases k
     | true=>
      have d:=d i j pv pv' hi g hj k;cases pv with
      | eM lG n2 e2 f2 D=>exact B i j lG n2 e2 f2 D hi g pv' d (λ_ _ _ _ _ he b' E=>by
        injection he with _ _ _ _ he;subst he;exact l b' (A i j _ _ _ _ _ hi g b' E).1)
      | _=>cases k
theorem qv {μ':Mu} {h':List ai} {S':Nat->Prop} {pv:PV} {v:Value} (hp:bn pv=true) (hc:bp μ' h' S' w pv v):aI S' w pv v:=by
 cases pv<;>first | exact hc | cases hp
theorem nI (hc:Core μ h S w) (hh:iB h η k m 0 η k) {pv pv':PV} (hz:Fz h η k pv pv'):
  (∀v,bp μ h S w pv v->bp (jB μ h k) η (Ag μ h k S) w pv' v)/\(∀v,gK μ h S w pv v->gK (jB μ h k) η (Ag μ h k S) w pv' v)/\(∀v,bg μ h S w pv v->bg (jB μ h k) η (Ag μ h k S) w pv' v):=by
 have up:∀pv v,aI S w pv v->aI (Ag μ h k S) w pv v:=λpv v hp=>aI.mono (λ_ _=>rfl) (λb K=>.inl K) hp
 have same:∀pv:PV,(∀v,bp μ h S w pv v->aI S w pv v)->(∀v,gK μ h S w pv v->bp μ h S w pv v)->(∀v,bg μ h S w pv v->gK μ h S w pv v)->∀pv':PV,(∀v,aI S w pv v->aI (Ag μ h k S) w pv' v)->
   (∀v,bp μ h S w pv v->bp (jB μ h k) η (Ag μ h k S) w pv' v)/\(∀v,gK μ h S w pv v->bp (jB μ h k) η (Ag μ h k S) w pv' v)/\(∀v,bg μ h S w pv v->bp (jB μ h k) η (Ag μ h k S) w pv' v):=
  λpv h1 h2 o pv' hp=>⟨λv hv=>bp.ir (hp v (h1 v hv)),λv hv=>bp.ir (hp v (h1 v (h2 v hv))),λv hv=>bp.ir (hp v (h1 v (h2 v (o v hv))))⟩
 induction hz with
 | int k' n=>exact same (.int k' n) (λ_ h=>h) (λ_ h=>h) (λ_ h=>h) _ (up _)
 | bool b=>exact same (.bool b) (λ_ h=>h) (λ_ h=>h) (λ_ h=>h) _ (up _)
 | str s=>exact same (.str s) (λ_ h=>h) (λ_ h=>h) (λ_ h=>h) _ (up _)
 | aF=>exact same .aF (λ_ h=>h) (λ_ h=>h) (λ_ h=>h) _ (up _)
 | fG=>exact same .fG (λ_ h=>h) (λ_ h=>h) (λ_ h=>h) _ (up _)
 | OY sz f=>exact same .aF (λ_ h=>h) (λ_ h=>h) (λ_ h=>h) (.eD sz 0 f) (λv hv=>by cases hv;exact .lM _ _ _ _)
 | W7 id d z G H x q l hη=>
  have key:∀v,v=Value.slice none 0 0->aN (jB μ h k) η w d z 0 0 v:=λv hv=>by
   unfold aN;rw[hη];refine⟨⟨_,_,_,hv⟩,abn _,λ_=>⟨abn _,?_⟩⟩;rw[Af q l];exact hv
  have inv:∀v,aI S w .aF v->v=Value.slice none 0 0:=λv hv=>by cases hv;rfl
  exact⟨λv hv=>key v (inv v hv),λv hv=>key v (inv v hv),λv hv=>key v (inv v hv)⟩
 | fn f=>exact same (.fn f) (λ_ h=>h) (λ_ h=>h) (λ_ h=>h) _ (up _)
 | ez cs=>exact same (.ez cs) (λ_ h=>h) (λ_ h=>h) (λ_ h=>h) _ (up _)
 | eD sz n f x hf=>
  exact same (.eD sz n f) (λ_ h=>h) (λ_ h=>h) (λ_ h=>h) (.eD sz n x) (λv hv=>by
   have hv:=up _ _ hv;cases hv with
   | lM _ _ a c=>exact .lM _ _ _ _
   | eD _ _ _ b off c vf h1 h2 o h4 h5=>
    exact .eD sz n x b off c vf h1 (λi hi=>by rw[hf i hi];exact h2 i hi) o (λi j pv hi hj=>h4 i j pv hi aff) (λi j pv hi hj=>h5 i j pv hi aff))
 | gf pv=>exact⟨λv hv=>hv.one,λ_ _=>trivial,λ_ _=>trivial⟩
 | eM sz n e f F=>exact⟨λv hv=>hv,λv hv=>hv,λv hv=>hv⟩
 | HS sz e f=>exact⟨λv hv=>bp.one hv,λv hv=>bp.one (pv:=.aF) (μ:=μ) (h:=h) hv,λv hv=>bp.one (pv:=.aF) (μ:=μ) (h:=h) hv⟩
 | own id d g z sz G n L off len e H f x q l hη B=>
  have key:∀v,aN μ h w id g off len v->aN (jB μ h k) η w d z off len v:=λv hv=>by
   unfold aN at hv ⊢;rw[l]at hv;rw[hη];obtain⟨h1,_,C⟩:=hv;have M:=C rfl;clear C;obtain⟨h2,o⟩:=M;obtain⟨_,cF⟩:=kN η k 0 hh;obtain⟨V,r1,r⟩:=cF d _ hη;rw[q]at r1;injection r1 with r1;subst r1;unfold vO at r;rw[l]at r;obtain⟨_,rfl,_,_⟩:=r;refine⟨h1,abn _,λ_=>⟨B,?_⟩⟩;have hm:jB μ h k d=μ id:=oD q l;rw[hm];exact o
  exact⟨key,key,key⟩
 | aE id d g z sz G n L i off e H f x q l hη B=>
  have key:∀v,bD μ h w id g i off v->bD (jB μ h k) η w d z i off v:=λv hv=>by
   unfold bD at hv ⊢;rw[l]at hv;rw[hη];obtain⟨h1,_,C⟩:=hv;have M:=C rfl;clear C;obtain⟨h2,o⟩:=M;obtain⟨_,cF⟩:=kN η k 0 hh;obtain⟨V,r1,r⟩:=cF d _ hη;rw[q]at r1;injection r1 with r1;subst r1;unfold vO at r;rw[l]at r;obtain⟨_,rfl,_,rfl,_⟩:=r;refine⟨h1,abn _,λ_=>⟨B,?_⟩⟩;have hm:jB μ h k d=μ id:=oD q l;rw[hm];exact o
  exact⟨key,key,key⟩
 | lv f bq tu t N=>
  have key:∀v,lr μ h w f bq v->lr (jB μ h k) η w f tu v:=λv hv=>by
   obtain⟨vs,h1,h2,o⟩:=hv;refine⟨vs,h1,h2.trans t.symm,λj W hj=>?_⟩;have X:j<bq.length:=by rw[<-t];exact(As.1 hj).1
   obtain⟨q,⟨sz,n,e,g,l⟩,G,L,H,z,hη,B⟩:=N j _ W (abm X) hj;obtain⟨u,q1,q2⟩:=o j _ (abm X);refine⟨u,q1,?_⟩;unfold bD at q2 ⊢;rw[l]at q2;rw[hη];obtain⟨O,_,I⟩:=q2;have P:=I rfl;clear I;obtain⟨Y,a5⟩:=P;obtain⟨_,cF⟩:=kN η k 0 hh;obtain⟨V,r1,r⟩:=cF W.1 _ hη;rw[q]at r1;injection r1 with r1;subst r1;unfold vO at r;rw[l]at r;obtain⟨_,rfl,_,rfl,_⟩:=r;refine⟨O,abn _,λ_=>⟨B,?_⟩⟩;rw[oD q l];exact a5
  exact⟨key,key,key⟩
 | kC id d g z sz G n L e H f x q l hη=>
  have key:∀v,eL μ h w id v->eL (jB μ h k) η w d v:=λv hv=>by
   unfold eL at hv ⊢;rw[l]at hv;rw[hη];obtain⟨h1,b,base,q1,q2,q3⟩:=hv;exact⟨h1,b,base,(oD q l).trans q1,q2,q3⟩
  exact⟨key,key,key⟩
 | Yl id g sz n off len e f x q l t hp hf D=>
  have key:∀v,aN μ h w id g off len v->bp (jB μ h k) η (Ag μ h k S) w (.eD sz len x) v:=λv hv=>by
   refine bp.ir ?_;unfold aN at hv;rw[l]at hv;obtain⟨_,_,hv⟩:=hv;obtain⟨hle,hv⟩:=hv rfl;obtain⟨Q,J⟩:=hc.heap id g sz n e f l;cases R:μ id with
   | none=>
    rw[R]at hv J;have B:n=0:=J;have h0:len=0:=by omega
    subst h0;have hv:v=.slice none 0 0:=hv;subst hv;exact .lM _ _ _ _
   | some p=>
    obtain⟨b,base⟩:=p;rw[R]at hv J;obtain⟨ad,cap,rfl,MG,T,EF⟩:=hv;obtain⟨cur,kh,lP,ik⟩:=bC.cells EF J;rcases acp len with h0 | h0
    ·subst h0;exact .lM _ _ _ _
    ·have T:=T aeP;subst T
     have Z:∀(i j:Nat) (pv':PV),i<len->(x i)[j]? =some pv'->∃u,w.cell? ⟨b,base+off*sz+i*sz+j,none⟩=some u/\aI (Ag μ h k S) w pv' u:=λi j pv' hi hj=>by
      have E:j<(f (off+i)).length:=by rw[<-t i hi];exact(As.1 hj).1
      have y:=abm E;obtain⟨u,h1,h2⟩:=ik (off+i) j _ aeP y
      have o:aI (Ag μ h k S) w pv' u:=by
       by_cases A:yb (f (off+i))[j] pv'
       ·generalize X0:(f (off+i))[j]=pv at A h2 y;cases A with
        | mk lG n2 e2 f2 U F2 O I P Y=>
         exact Lg (λb K=>.inl K) (show jz S w (.eM lG n2 e2 f2 F2) u from h2) _ (.mk lG n2 e2 f2 U F2 O I P Y) (λ_ _ _ _ _ he b' jC=>by
          injection he with _ _ _ _ he;subst he;exact .inr ⟨id,g,sz,n,e,f,base,q,l,.inr ⟨off+i,j,_,_,_,_,_,_,_,_,_,_,l,by omega,y,jC⟩⟩)
       ·exact qv (hp i j pv' hi hj) ((D i j _ pv' hi y hj A).1 u h2.c)
      refine⟨u,?_,o⟩;rw[cell_of_row w b _ cur e (0,0) kh,<-h1];congr 1;rw[abC];omega
     refine .eD sz len x b (base+off*sz) cap (λi j=>(w.cell? ⟨b,base+off*sz+i*sz+j,none⟩).getD undef) (.inr ⟨id,g,sz,n,e,f,base,q,l,.inl R⟩) (λi hi=>by rw[t i hi];exact Q _ aeP) MG (λi j pv hi hj=>?_) (λi j pv hi hj=>?_)
     ·obtain⟨u,h1,_⟩:=Z i j pv hi hj;rw[h1];rfl
     ·obtain⟨u,h1,h2⟩:=Z i j pv hi hj;simp only[h1,acP];exact h2
  exact⟨key,key,key⟩
 | agg cs zh t N D=>
  have key:∀v,gK μ h S w (.agg cs) v->gK (jB μ h k) η (Ag μ h k S) w (.agg zh) v:=λv hv=>by
   obtain⟨vs,h1,h2,o⟩:=hv;refine⟨vs,h1,h2.trans t.symm,λj pv' hj=>?_⟩;have E:j<cs.length:=by rw[<-t];exact(As.1 hj).1
   have y:=abm E;obtain⟨u,q1,q2⟩:=o j _ y;exact⟨u,q1,(D j _ pv' y hj).1 u q2⟩
  exact⟨λ_ hv=>(show False from hv).elim,key,key⟩
 | eC cs zh t N D=>
  refine⟨λ_ hv=>(show False from hv).elim,λ_ hv=>(show False from hv).elim,λv hv=>?_⟩;obtain⟨vs,h1,h2,o⟩:=hv;refine⟨vs,h1,h2.trans t.symm,λj pv' hj=>?_⟩;have E:j<cs.length:=by rw[<-t];exact(As.1 hj).1
  have y:=abm E;obtain⟨u,q1,q2⟩:=o j _ y;exact⟨u,q1,(D j _ pv' y hj).2.1 u q2⟩
end
section
variable {P:Program}{T:lS}{μ:Mu}{h η:List ai}{k:List Nat}{S:Nat->Prop}{w:World}{m:Nat}
theorem Lh {a c:PV} (e:Fz h η k a c) (d:pZ a=true):pZ c=true/\∀v,oS a v->oS c v:=by
 cases e with
 | int f n=>exact⟨rfl,λ_ h=>h⟩
 | bool b=>exact⟨rfl,λ_ h=>h⟩
 | str s=>exact⟨rfl,λ_ h=>h⟩
 | gf _=>exact⟨rfl,λv h=>by
   cases a<;>first | (cases d;done) | (have h:v=_:=h;subst h;rfl) | exact h⟩
 | _=>cases d
theorem GH {a c:PV} (g:Fz h η k a c) (d:iq a=true):iq c=true/\∀v,mZ a v->mZ c v:=by
 cases g with
 | int p n=>exact⟨rfl,λ_ h=>h⟩
 | bool b=>exact⟨rfl,λ_ h=>h⟩
 | str s=>exact⟨rfl,λ_ h=>h⟩
 | gf _=>exact⟨rfl,λ_ _=>trivial⟩
 | agg cs i e hc=>
  have el:∀j pv',i[j]? =some pv'->∃pv,cs[j]? =some pv/\pZ pv'=true/\∀v,oS pv v->oS pv' v:=λj pv' hj=>by
   have f:j<cs.length:=by rw[<-e];exact(As.1 hj).1
   have h1:=abm f;have h2:=Lh (hc j _ _ h1 hj) (abw.1 d _ (abu f));exact⟨_,h1,h2⟩
  refine⟨abw.2 (λx l=>?_),λv hv=>?_⟩
  ·obtain⟨j,hj,rfl⟩:=abQ.1 l;obtain⟨_,_,h2,_⟩:=el j _ (abm hj);exact h2
  ·obtain⟨vs,q1,q2,q3⟩:=hv;refine⟨vs,q1,q2.trans e.symm,λj pv' hj=>?_⟩;obtain⟨pv,m,_,e2⟩:=el j pv' hj;obtain⟨u,hu,o⟩:=q3 j pv m;exact⟨u,hu,e2 u o⟩
 | _=>cases d
theorem yi:∀{l:List Nat} {x i:Nat},l[i]? =some x->Ib l x=true
 | [],x,i,h=>by simp at h
 | a::r,x,0,h=>by
  simp at h;subst h;unfold Ib;rw[show Nat.beq a a=true from acH a]
 | a::r,x,i+1,h=>by
  unfold Ib;cases Nat.beq a x
  ·exact yi afb
  ·rfl
theorem qw:∀{η:List ai} {k:List Nat} {i id g sz n:Nat} {e:TypeId} {f:Nat->List PV},η[i]? =some (ai.row g sz n e f)->k[i]? =some id->∃j:Nat,(ky η k)[j]? =some id
 | [],_,i,_,_,_,_,_,_,h,_=>by simp at h
 | _::_,[],i,_,_,_,_,_,_,_,h=>by simp at h
 | .row _ _ _ _ _::r,a::is,0,id,_,_,_,_,_,_,h=>by simp at h;subst h;exact⟨0,rfl⟩
 | .dead::r,a::is,0,id,_,_,_,_,_,h,_=>by simp at h
 | .row _ _ _ _ _::r,a::is,i+1,id,_,_,_,_,_,h1,h2=>by
  obtain⟨j,hj⟩:=qw (i:=i) afi afh;exact⟨j+1,by simpa[ky]using hj⟩
 | .dead::r,a::is,i+1,id,_,_,_,_,_,h1,h2=>by
  obtain⟨j,hj⟩:=qw (i:=i) afi afh;exact⟨j,by simpa[ky]using hj⟩
theorem qy:∀{η:List ai} {k:List Nat} {i j id g sz n l m o:Nat} {e p:TypeId} {f s:Nat->List PV},kH (ky η k)=true->η[i]? =some (ai.row g sz n e f)->k[i]? =some id->η[j]? =some (ai.row l m o p s)->k[j]? =some id->i=j
 | [],_,i,_,_,_,_,_,_,_,_,_,_,_,_,_,h,_,_,_=>by simp at h
 | _::_,[],i,_,_,_,_,_,_,_,_,_,_,_,_,_,_,h,_,_=>by simp at h
 | .row _ _ _ _ _::r,a::is,0,0,_,_,_,_,_,_,_,_,_,_,_,_,_,_,_,_=>rfl
 | .row _ _ _ _ _::r,a::is,0,j+1,id,_,_,_,_,_,_,_,_,_,_,b,_,h2,c,h4=>by
  simp at h2;subst h2;obtain⟨q,d⟩:=qw (η:=r) (k:=is) (i:=j) (by simpa using c) (by simpa using h4);unfold ky kH at b;rw[yi d]at b;cases b
 | .row _ _ _ _ _::r,a::is,i+1,0,id,_,_,_,_,_,_,_,_,_,_,b,h1,h2,_,h4=>by
  simp at h4;subst h4;obtain⟨q,d⟩:=qw (η:=r) (k:=is) (i:=i) afi afh;unfold ky kH at b;rw[yi d]at b;cases b
 | .row _ _ _ _ _::r,a::is,i+1,j+1,id,_,_,_,_,_,_,_,_,_,_,b,h1,h2,c,h4=>by
  unfold ky kH at b;cases hm:Ib (ky r is) a with
  | true=>rw[hm]at b;cases b
  | false=>
   rw[hm]at b;rw[qy (η:=r) (k:=is) (i:=i) (j:=j) b afi afh (by simpa using c) (by simpa using h4)]
 | .dead::r,a::is,0,_,_,_,_,_,_,_,_,_,_,_,_,_,h,_,_,_=>by simp at h
 | .dead::r,a::is,_+1,0,_,_,_,_,_,_,_,_,_,_,_,_,_,_,h,_=>by simp at h
 | .dead::r,a::is,i+1,j+1,id,_,_,_,_,_,_,_,_,_,_,b,h1,h2,c,h4=>by
  rw[qy (η:=r) (k:=is) (i:=i) (j:=j) b afi afh (by simpa using c) (by simpa using h4)]
theorem qm (hc:Core μ h S w) (hh:iB h η k m 0 η k) (hk:kH (ky η k)=true):Core (jB μ h k) η (Ag μ h k S) w/\(∀b,bS (jB μ h k) η b->bS μ h b)/\∀b,Ag μ h k S b->S b\/bS μ h b:=by
 obtain⟨hlen,cF⟩:=kN η k 0 hh
 have back:∀(a A s r:Nat) (t:TypeId) (v:Nat->List PV),η[a]? =some (ai.row A s r t v)->(r=0/\jB μ h k a=none)\/∃(id g:Nat) (f:Nat->List PV),k[a]? =some id/\(∃n,h[id]? =some (ai.row g s n t f)/\r<=n/\(r=n\/s≠2))/\jB μ h k a=μ id/\
   ∀i,i<r->(v i).length=(f i).length/\∀(j:Nat) (pv pv':PV),(f i)[j]? =some pv->(v i)[j]? =some pv'->Fz h η k pv pv':=λa A s r t v hη=>by
  obtain⟨id,r1,l⟩:=cF a _ hη;unfold vO at l;cases D:h[id]? with
  | none=>rw[D]at l;exact .inl ⟨l.2,Af r1 D⟩
  | some o=>
   cases o with
   | dead=>rw[D]at l;exact l.elim
   | row g sz n e f=>
    rw[D]at l;obtain⟨_,rfl,P,rfl,E⟩:=l;refine .inr ⟨id,g,f,r1,⟨n,D,?_⟩,oD r1 D,λi hi=>rM.get _ _ (E i hi)⟩;rcases P with rfl | ⟨_,r5,r6⟩
    ·exact⟨abn _,.inl rfl⟩
    ·exact⟨r6,.inr r5⟩
 have Q:∀b,wj (jB μ h k) η b->∃id,id∈k/\∃g sz n e f base,h[id]? =some (ai.row g sz n e f)/\μ id=some (b,base):=λb d=>by
  obtain⟨a,A,s,r,t,v,base,hη,hm⟩:=d;rcases back a A s r t v hη with⟨_,q3⟩ | ⟨id,g,f,q1,⟨n,q2,_⟩,q3,_⟩
  ·rw[q3]at hm;cases hm
  ·rw[q3]at hm;exact⟨id,abA q1,g,s,n,t,f,base,q2,hm⟩
 have Xl:∀{pv:PV} {sz n:Nat} {e:TypeId} {f:Nat->List PV} {F:Nat->Prop},Fz h η k pv (.eM sz n e f F)->pv=.eM sz n e f F\/(pv=.aF/\n=0/\∀b,¬F b):=λM=>by
  cases M with
  | eM=>exact .inl rfl
  | HS=>exact .inr ⟨rfl,rfl,λ_ h=>h⟩
 have I:∀a i j b,cw η a i j b->∃id,k[a]? =some id/\cw h id i j b/\∃g sz n e f,η[a]? =some (ai.row g sz n e f):=λa i j b ⟨A,s,r,t,v,lG,n2,e2,f2,F2,q1,q2,q3,q4⟩=>by
  rcases back a A s r t v q1 with⟨r1,_⟩ | ⟨id,g,f,r1,⟨n,l,hle,_⟩,E,P⟩
  ·omega
  ·obtain⟨s1,J⟩:=P i q2;have R:j<(f i).length:=by rw[<-s1];exact(As.1 q3).1
   have K:=abm R;rcases Xl (J j _ _ K q3)with this | ⟨_,_,this⟩
   ·exact⟨id,r1,⟨g,s,n,t,f,_,_,_,_,_,l,by omega,by rw[K,this],q4⟩,_,_,_,_,_,q1⟩
   ·exact absurd q4 (this b)
 have T:∀b,bS (jB μ h k) η b->bS μ h b:=λb d=>by
  rcases d with d | ⟨x,y,z,d⟩
  ·obtain⟨id,_,g,sz,n,e,f,base,q2,hm⟩:=Q b d;exact .inl ⟨id,g,sz,n,e,f,base,q2,hm⟩
  ·obtain⟨id,_,q,_⟩:=I x y z b d;exact aeO
 have hs:∀b,Ag μ h k S b->S b\/bS μ h b:=λb d=>by
  rcases d with d | ⟨id,g,sz,n,e,f,base,_,h1,h2 | ⟨i,j,h2⟩⟩
  ·exact .inl d
  ·exact .inr (.inl ⟨id,g,sz,n,e,f,base,h1,h2⟩)
  ·exact .inr (.inr ⟨_,_,_,h2⟩)
 refine⟨⟨λa A s r t v hη=>?_,?_⟩,T,hs⟩
 ·rcases back a A s r t v hη with⟨rfl,q3⟩ | ⟨id,g,f,q1,⟨n,q2,hle,U⟩,q3,q4⟩
  ·exact⟨λi hi=>absurd hi (abR _),by rw[q3]⟩
  obtain⟨r1,l⟩:=hc.heap id g s n t f q2;refine⟨λi hi=>(q4 i hi).1.trans (r1 i (abG hi hle)),?_⟩;rw[q3];cases hm:μ id with
  | none=>rw[hm]at l;have l:n=0:=l;show r=0;omega
  | some p=>
   obtain⟨b,base⟩:=p;rw[hm]at l;obtain⟨o,s1,J⟩:=l;refine⟨o,s1,?_⟩;cases o with
   | cells cur e2 z=>
    obtain⟨V,x2,x3,N⟩:=J;refine⟨V,x2,acg (Nat.add_le_add_left (abB _ hle) _) x3,λi j pv' hi hj=>?_⟩;have R:j<(f i).length:=by rw[<-(q4 i hi).1];exact(As.1 hj).1
    have K:=abm R;obtain⟨u,t1,B⟩:=N i j _ (abG hi hle) K;have M:=(q4 i hi).2 j _ pv' K hj;refine⟨u,t1,?_⟩;cases G:dL pv' with
    | false=>exact bp.k ((nI hc hh M).1 u B.c) G
    | true=>
     cases pv' with
     | eM lG n2 e2 f2 F2=>
      rcases Xl M with W | ⟨W,rfl,hF⟩
      ·rw[W]at B;exact jz.mono (λ_ _=>rfl) (λb d=>.inl d) (show jz S w (.eM lG n2 e2 f2 F2) u from B) (λ_ _ _ _ _ _ _ _=>rfl)
      ·rw[W]at B;have B:aI S w .aF u:=B;cases B;exact jz.nil _ _ _ _ hF
     | _=>cases G
   | map es c=>
    obtain⟨V,N⟩:=J
    have hn:r=n:=by
     rcases U with h0 | h0
     ·exact h0
     ·rcases acp n with h1 | h1
      ·omega
      ·obtain⟨kp,vp,en,y1,_⟩:=N 0 h1;have:=r1 0 h1;rw[y1]at this;exact absurd this.symm h0
    subst hn;refine⟨V,λi hi=>?_⟩;obtain⟨kp,vp,en,y1,y2,y3,y4,y5,y6⟩:=N i hi;obtain⟨X,O⟩:=q4 i hi;rw[y1]at X O;generalize BQ:v i=l' at X O ⊢;rcases l' with _ | ⟨SQ,_ | ⟨SR,_ | ⟨c3,l3⟩⟩⟩<;>simp at X;have w1:=GH (O 0 kp SQ rfl rfl) y2;have w2:=GH (O 1 vp SR rfl rfl) y3;exact⟨SQ,SR,en,rfl,w1.1,w2.1,y4,w1.2 _ y5,w2.2 _ y6⟩
   | _=>exact J.elim
 ·refine⟨λb d C=>?_,λb d=>hc.ok.lt b (T b d),λb d=>?_,?_,hc.ok.known.dS (λ_ _=>rfl) (λ_ d=>.inl d),λb d x y z G=>?_,λb i x y j x' y' G oR=>?_⟩;rotate_right 2
  ·obtain⟨id,_,g,sz,n,e,f,base,q2,hm⟩:=Q b d;obtain⟨H,_,q,_⟩:=I x y z b G;exact hc.ok.hv b ⟨id,g,sz,n,e,f,base,q2,hm⟩ _ _ _ q
  ·obtain⟨S4,k1,q1,_,_,_,_,_,r1⟩:=I i x y b G;obtain⟨H,k2,q2,_,_,_,_,_,l⟩:=I j x' y' b oR;obtain⟨Y,e2,e3⟩:=hc.ok.hh b _ _ _ _ _ _ q1 q2;subst Y;exact⟨qy hk r1 k1 l k2,e2,e3⟩
  ·rcases C with C | ⟨H,g2,lG,n2,e2,f2,Xm,L,h1,h2⟩
   ·exact hc.ok.apart b (T b d) C
   ·rcases d with d | ⟨x,y,z,d⟩
    ·obtain⟨id,Z,g,sz,n,e,f,base,q2,hm⟩:=Q b d;rcases h2 with h2 | ⟨i,j,h2⟩
     ·have:=hc.ok.inj id H _ _ _ _ _ _ _ _ _ _ _ _ _ q2 h1 hm h2;subst this;exact L Z
     ·exact hc.ok.hv b ⟨id,g,sz,n,e,f,base,q2,hm⟩ _ _ _ h2
    ·obtain⟨id,Z,q,_⟩:=I x y z b d;rcases h2 with h2 | ⟨i,j,h2⟩
     ·exact hc.ok.hv b ⟨H,g2,lG,n2,e2,f2,Xm,h1,h2⟩ _ _ _ q
     ·obtain⟨Y,_,_⟩:=hc.ok.hh b _ _ _ _ _ _ q h2;subst Y;exact L (abA Z)
  ·rcases hs b d with h1 | h1
   ·exact hc.ok.slt b h1
   ·exact hc.ok.lt b h1
  ·intro i j gi HR ni ei fi gj iN nj ej fj b o o' hi hj kq jN;rcases back i gi HR ni ei fi hi with⟨_,q3⟩ | ⟨S4,g1,f1,q1,⟨aa,q2,_⟩,q3,_⟩
   ·rw[q3]at kq;cases kq
   rcases back j gj iN nj ej fj hj with⟨_,E⟩ | ⟨H,g2,f2,r1,⟨ad,l,_⟩,E,_⟩
   ·rw[E]at jN;cases jN
   rw[q3]at kq;rw[E]at jN;have:=hc.ok.inj S4 H _ _ _ _ _ _ _ _ _ _ _ _ _ q2 l kq jN;subst this;exact qy hk hi q1 hj r1
structure Start where
 μ:Mu
 h:List ai
 S:Nat->Prop
 w:World
 nt:Nat
theorem JI {C:Start} (hc:Core μ h S w) (hf:Fr C.μ C.h C.S C.w μ h S w) (hh:iB h η k C.h.length 0 η k) (A:kH (ky η k)=true) (hm:C.h.length<=k.length):
  Fr C.μ C.h C.S C.w (jB μ h k) η (Ag μ h k S) w:=by
 obtain⟨hlen,cF⟩:=kN η k 0 hh;obtain⟨_,B,hs⟩:=qm hc hh A
 have idx:∀id,id<C.h.length->∃o a,η[id]? =some o/\k[id]? =some a/\vO h η k C.h.length o id a:=λid hid=>by
  have t:id<η.length:=by omega
  obtain⟨a,r1,d⟩:=cF id _ (abm t);rw[abx]at d;exact⟨_,a,abm t,r1,d⟩
 refine⟨by omega,hf.blocks,λb i=>.inl (hf.sub b i),λb i=>?_,λb i=>hf.own b (B b i),hf.size,hf.os,hf.tape,hf.output,λid l m n0 p q h0=>?_,λid h0=>?_,hf.bq,λid l m n0 p q b base h0 D E=>?_,hf.rb⟩;rotate_right
 ·have hid:id<C.h.length:=(As.1 h0).1;obtain⟨o,a,q1,q2,q3⟩:=idx id hid;obtain⟨r1,d⟩:=hf.maps id l m n0 p q b base h0 D E;refine⟨r1,?_⟩;rw[q1];unfold vO at q3;cases o with
  | dead=>exact .inl rfl
  | row u v x y z=>
   cases c:h[a]? with
   | none=>rw[c]at q3;exact absurd q3.1 aeP
   | some j=>
    cases j with
    | dead=>rw[c]at q3;exact q3.elim
    | row g sz n e f=>
     rw[c]at q3;obtain⟨s1,rfl,r,rfl,_⟩:=q3;obtain⟨rfl,rfl⟩:=s1 hid;obtain rfl:=r.resolve_right (λs=>absurd s.1 aeP);rw[c]at d;rcases d with d | ⟨_,F⟩
     ·cases d
     ·exact .inr ⟨⟨_,_,_,_,_,rfl⟩,(oD q2 c).trans F⟩
 ·rcases hs b i with h1 | h1
  ·exact hf.new b h1
  ·rcases hf.own b h1 with h2 | h2
   ·exact .inr (.inl h2)
   ·exact .inr (.inr h2)
 ·have hid:id<C.h.length:=(As.1 h0).1;obtain⟨o,a,q1,q2,q3⟩:=idx id hid;have hg:=hf.xQ id l m n0 p q h0;rw[q1];unfold vO at q3;cases o with
  | dead=>trivial
  | row u v x y z=>
   cases c:h[a]? with
   | none=>rw[c]at q3;exact absurd q3.1 aeP
   | some j=>
    cases j with
    | dead=>rw[c]at q3;exact q3.elim
    | row g sz n e f=>
     rw[c]at q3;obtain⟨r1,rfl,d,rfl,_⟩:=q3;obtain⟨rfl,rfl⟩:=r1 hid;obtain rfl:=d.resolve_right (λs=>absurd s.1 aeP);rw[c]at hg;refine⟨hg.1,λhe=>?_⟩;obtain⟨s1,r,G,H⟩:=hg.2 he;exact⟨by rw[oD q2 c];exact s1,r,G,H⟩
 ·have hid:id<C.h.length:=(As.1 h0).1;obtain⟨o,a,q1,q2,q3⟩:=idx id hid;have hd:=hf.dead id h0;rw[q1];unfold vO at q3;cases o with
  | dead=>rfl
  | row u v x y z=>
   cases c:h[a]? with
   | none=>rw[c]at q3;exact absurd q3.1 aeP
   | some j=>
    cases j with
    | dead=>rw[c]at q3;exact q3.elim
    | row g sz n e f=>
     rw[c]at q3;obtain⟨rfl,rfl⟩:=q3.1 hid;rw[c]at hd;cases hd
structure ld (C:Start) (μ:Mu) (h:List ai) (S:Nat->Prop) (env:Env) (a:Act) (w:World):Prop where
 core:Core μ h S w
 fr:Fr C.μ C.h C.S C.w μ h S w
 tmps:∀t,bg μ h S w (env t) (a.tmps.getD t undef)
 size:a.tmps.size=C.nt
 S5:∀t,C.nt<=t->env t=.gf
 defers:a.defers=[]
variable {C:Start}{env:Env}{a:Act}
theorem yj (env:Env) (t:Nat) (v:PV):mr env t v t=v:=by simp [mr]
theorem BA (env:Env) {t j:Nat} (v:PV) (hj:j≠t):mr env t v j=env j:=by
 unfold mr
 have:Nat.beq j t=false:=by
  cases a:Nat.beq j t with
  | true=>exact(hj (abo a)).elim
  | false=>rfl
 rw[this];rfl
def mf (nt:Nat) (o:Oper):Bool:=match o.dst with | some t=>Nat.blt t nt | none=>true
theorem ld.put (hs:ld C μ h S env a w) {μ':Mu} {h':List ai} {S':Nat->Prop} {w':World} (hf:Fr μ h S w μ' h' S' w') (hc:Core μ' h' S' w') {dst:Option Nat} {v:PV} {val:Value} (hv:bg μ' h' S' w' v val)
  (hd:∀t,dst=some t->t<C.nt):ld C μ' h' S' (dF env dst v) (a.put dst val) w':=by
 refine⟨hc,hs.fr.trans hf,λt=>?_,?_,λt c=>?_,?_⟩
 ·cases dst with
  | none=>exact(hs.tmps t).fr hf hs.core.ok
  | some d=>
   have e:=hd d rfl;by_cases b:t=d
   ·subst b;show bg μ' h' S' w' (mr env t v t) _;rw[yj]
    have:((a.put (some t) val).tmps).getD t undef=val:=by
     have f:t<a.tmps.size:=by rw[hs.size];exact e
     simp [Act.put,f]
    rw[this];exact hv
   ·show bg μ' h' S' w' (mr env d v t) _;rw[BA env v b]
    have:((a.put (some d) val).tmps).getD t undef=a.tmps.getD t undef:=by
     simp [Act.put,adh (acB b)]
    rw[this];exact(hs.tmps t).fr hf hs.core.ok
 ·cases dst with
  | none=>exact hs.size
  | some d=>simp [Act.put,hs.size]
 ·cases dst with
  | none=>exact hs.S5 t c
  | some d=>
   have e:=hd d rfl;show mr env d v t=_;rw[BA env v aeP];exact hs.S5 t c
 ·cases dst with
  | none=>exact hs.defers
  | some d=>exact hs.defers
theorem ld.yk (hs:ld C μ h S env a w) {t:Nat} {b:Bool} (he:env t=.bool b):ld C μ h S (mr env t (.bool b)) a w:=by
 have:mr env t (.bool b)=env:=by
  funext j;by_cases hj:j=t
  ·subst hj;rw[yj,he]
  ·rw[BA env _ hj]
 rw[this];exact hs
def yl (C:Start) (Q:XQ):Exit->Act->World->Prop:=λe a w=>∃μ h S env,ld C μ h S env a w/\Q e env h
theorem rQ (hs:ld C μ h S env a w) {ops:Array Oper} {j t:Nat} {b:Bool} (hj:(ops.toList[j]?).bind (·.dst)=some t) (he:env t=.bool b):yielded ops a.tmps j=some b:=by
 have hv:=hs.tmps t;rw[he]at hv;have hv:=hv.kc
 have c:t<a.tmps.size:=by
  rcases abU t a.tmps.size with h1 | h1
  ·exact h1
  ·rw[hs.S5 t (by rw[<-hs.size];exact h1)]at he;cases he
 unfold yielded;rw[abJ]at hj;rw[hj];simp only[adw]
 have:a.tmps[t]? =some (.bool b):=by
  rw[abM c];simp [c]at hv;rw[hv]
 rw[this]
theorem rR:bg μ h S w (.eC []) undef:=⟨#[],rfl,rfl,λj pv hj=>by simp at hj⟩
theorem oE (hs:ld C μ h S env a w) {ops:Array Oper} {j t:Nat} (hj:(ops.toList[j]?).bind (·.dst)=some t) (he:env t=.eC []):yielded ops a.tmps j=none:=by
 have hv:=hs.tmps t;rw[he]at hv;obtain⟨vs,hv,_⟩:=hv;unfold yielded;rw[abJ]at hj;rw[hj];simp only[adw];rcases abU t a.tmps.size with h1 | h1
 ·have:a.tmps[t]? =some (.tuple vs):=by
   rw[abM h1];simp [h1]at hv;rw[hv]
  rw[this]
 ·rw[Array.getElem?_eq_none h1]
theorem rS {K:Env->List ai->Prop} (all:List Oper) (o:Oper) (rest:List Oper) (env:Env) (h:List ai) {j:Nat} {want:Bool} (hg:o.guard=some (j,want)):
  qd P T all K (o::rest) env h=(match(all[j]?).bind (·.dst)with
     | some t=>match env t with
      | .bool b=>dO b
        (match(generalizing:=false) want with
         | true=>pop P T o.op (mr env t (.bool true)) h (λv h'=>qd P T all K rest (dF (mr env t (.bool true)) o.dst v) h')
         | false=>qd P T all K rest (dF (mr env t (.bool true)) o.dst (.eC [])) h)
        (match(generalizing:=false) want with
         | true=>qd P T all K rest (dF (mr env t (.bool false)) o.dst (.eC [])) h
         | false=>pop P T o.op (mr env t (.bool false)) h (λv h'=>qd P T all K rest (dF (mr env t (.bool false)) o.dst v) h'))
      | .eC []=>qd P T all K rest (dF env o.dst (.eC [])) h
      | _=>False
     | none=>False):=by
 obtain⟨dst,op,ty,pos,after,guard⟩:=o;have hg:guard=some (j,want):=hg;rw[hg];rfl
theorem rT (d:df P T) (ops:Array Oper) {K:Env->List ai->Prop} {Q:Exit->Act->World->Prop} (e:∀env h a w μ S,K env h->ld C μ h S env a w->Q .normal a w):
  ∀(l:List Oper) (env:Env) (h:List ai) (a:Act) (w:World) (μ:Mu) (S:Nat->Prop),qd P T ops.toList K l env h->(∀o∈l,mf C.nt o=true)->ld C μ h S env a w->wpList P ops Q l a w
 | [],env,h,a,w,μ,S,hp,_,hs=>e env h a w μ S hp hs
 | o::rest,env,h,a,w,μ,S,hp,hd,hs=>by
  have i:∀t,o.dst=some t->t<C.nt:=λt f=>by
   have:=hd o aeR;unfold mf at this;rw[f]at this;simpa using this
  have It:∀o∈rest,mf C.nt o=true:=λo k=>hd o (by simp [k])
  have run:∀env',ld C μ h S env' a w->pop P T o.op env' h (λv h'=>qd P T ops.toList K rest (dF env' o.dst v) h')->o.wp P a w (wpList P ops Q rest) Q:=λenv' c g=>by
   obtain⟨dst,op,ty,pos,after,guard⟩:=o;refine Ae (env:=env') d c.core c.tmps g _ _ λv val h' μ' S' w' m hv hc hf=>?_;exact rT d ops e rest _ h' _ w' μ' S' m It (c.put hf hc hv i)
  have skip:∀env',ld C μ h S env' a w->qd P T ops.toList K rest (dF env' o.dst (.eC [])) h->wpList P ops Q rest (a.put o.dst undef) w:=λenv' c g=>
   rT d ops e rest _ h _ w μ S g It (c.put Fr.refl c.core rR i)
  unfold wpList;cases hg:o.guard with
  | none=>
   have hp:pop P T o.op env h (λv h'=>qd P T ops.toList K rest (dF env o.dst v) h'):=by
    exact adH
   rw[An (by simp [Region.wanted,hg])];exact .inl (run env hs hp)
  | some p=>
   obtain⟨j,want⟩:=p;rw[rS ops.toList o rest env h hg]at hp;split at hp
   ·rename_i t hj;split at hp
    ·rename_i b he;have hy:=rQ hs hj he;obtain⟨f,hf⟩:=iG hp;have c:=hs.yk he;cases b with
     | true=>
      have hp:=f rfl;cases want with
      | true=>rw[An aeX];exact .inl (run _ c hp)
      | false=>rw[so aeX];exact skip _ c hp
     | false=>
      have hp:=hf rfl;cases want with
      | true=>rw[so aeX];exact skip _ c hp
      | false=>rw[An aeX];exact .inl (run _ c hp)
    ·rename_i he;rw[so afk];exact skip _ hs hp
    ·exact aen
   ·exact aen
end
end Go.Am
