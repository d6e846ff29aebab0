/- Texts of the proof, joined and shortened. -/
import Derived.Test.YtgciegobebabfaaGreatDoorPk1
import Derived.MapKept
import Derived.Lib.ConvBytes
import Derived.Lib.AtoiErrMem
import Derived.Deep.LoopGhost
set_option linter.unusedVariables false
set_option linter.unusedSimpArgs false
namespace Go.Am
open Go Go.RowKit
section
variable {P:Program}{T:vE}{μ:Mu}{h:List au}{S:Nat->Prop}{w:World}
theorem pK (t k ty e:TypeId) (i:TypeInfo) (d:TypeDesc) (l:P.underlying t=some (.slice e)) (n:P.underlying k=some d) (hd:(∃o,d=.slice o)\/d=.string) (hi:P.info? e=some i)
  (g:Option Addr) (c h:Nat) (j:Value) (m:Nat) (news:Array Value) (w':World) (hlen:(Builtin.lenOf j).run P w=.ok m w) (f:(Builtin.firstCells i.size m j).run P w=.ok news w) (p:c+m<=h)
  (b:match g with | some a=>(storeCells (a.add (c*i.size)) news.toList).run P w=.ok () w' | none=>w'=w):
  (Builtin.append_ #[t,k] ty #[.slice g c h,j]).run P w=.ok (.slice g (c+m) h) w':=by
 rcases hd with⟨o,rfl⟩ | rfl<;>cases g with
 | none=>
  have b:w'=w:=b;subst b;simp [Builtin.append_,run_underlying l,run_underlying n,sizeOf,typeInfo,hi,hlen,p,f]
 | some a=>
  have b:(storeCells (a.add (c*i.size)) news.toList).run P w=.ok () w':=b;simp [Builtin.append_,run_underlying l,run_underlying n,sizeOf,typeInfo,hi,hlen,p,f,b]
theorem uP (t k ty e:TypeId) (i:TypeInfo) (z:Value) (d:TypeDesc) (p:P.underlying t=some (.slice e)) (q:P.underlying k=some d) (hd:(∃l,d=.slice l)\/d=.string) (hi:P.info? e=some i) (r:i.zero=some z)
  (n:Option Addr) (a b:Nat) (c:Value) (m:Nat) (o news:Array Value) (hlen:(Builtin.lenOf c).run P w=.ok m w) (s:(Builtin.firstCells i.size a (.slice n a b)).run P w.drew=.ok o w.drew)
  (f:(Builtin.firstCells i.size m c).run P w.drew=.ok news w.drew) (hg:b<a+m) (g:0<i.bytes) (u:(a+m)*i.bytes<=140737488355328):
  (Builtin.append_ #[t,k] ty #[.slice n a b,c]).run P w=.ok (.slice (some ⟨w.heap.size,0,none⟩) (a+m) (grownCap w (a+m) b e))
   (w.drew.alloc (.cells (o++news++Builtin.zeroCells z.cells (grownCap w (a+m) b e - (a+m))) e)):=by
 have hn:¬(a+m<=b):=by omega
 have hle:a+m<=(a+m)*i.bytes:=Nat.le_mul_of_pos_right _ g;have h:¬(9223372036854775807<((a:Int)+(m:Int))):=by omega
 have v:=growslice_fits hg u;have j:¬(281474976710656<Builtin.nextslicecap (a+m) b*i.bytes):=by omega
 rcases hd with⟨l,rfl⟩ | rfl<;>
  simp [Builtin.append_,run_underlying p,run_underlying q,sizeOf,typeInfo,zeroValue,hi,r,hlen,hn,h,j,Question.forced,f,s,newRow,grownCap]
theorem PT (b off m sz:Nat) (f:0<sz) (g:Nat->List PV) (hl:∀i,i<m->(g i).length=sz)
  (l:∀(i j:Nat) (pv:PV),i<m->(g i)[j]? =some pv->∃u,w.cell? ⟨b,off+i*sz+j,none⟩=some u/\uK μ h S w pv u):
  ∃news:Array Value,news.size=m*sz/\(∀(i j:Nat) (pv:PV),i<m->(g i)[j]? =some pv->∃u,news[i*sz+j]? =some u/\uK μ h S w pv u)/\
   (∀u∈news.toList,u.oneCell'=true)/\∀w',dV w w'->(loadCells ⟨b,off,none⟩ (m*sz)).run P w'=.ok news w':=by
 let F:Nat->Value:=λq=>(w.cell? ⟨b,off+q,none⟩).getD undef
 have d:∀(i j:Nat) (pv:PV),i<m->(g i)[j]? =some pv->w.cell? ⟨b,off+(i*sz+j),none⟩=some (F (i*sz+j))/\uK μ h S w pv (F (i*sz+j)):=λi j pv hi hj=>by
  obtain⟨u,h1,h2⟩:=l i j pv hi hj;have e:off+(i*sz+j)=off+i*sz+j:=by omega
  have e2:F (i*sz+j)=u:=by
   show(w.cell? ⟨b,off+(i*sz+j),none⟩).getD undef=u;rw[e,h1];rfl
  rw[e2,e];exact⟨h1,h2⟩
 have hq:∀q,q<m*sz->∃pv,q / sz<m/\(g (q / sz))[q % sz]? =some pv:=λq hq=>by
  have h1:q / sz<m:=(Nat.div_lt_iff_lt_mul f).2 hq;have h2:q % sz<(g (q / sz)).length:=by rw[hl _ h1];exact Nat.mod_lt _ f
  exact⟨_,h1,Is h2⟩
 have k:∀q,q / sz*sz+q % sz=q:=λq=>by rw[amG];exact Nat.div_add_mod q sz
 refine⟨((List.range (m*sz)).map F).toArray,by simp,λi j pv hi hj=>?_,λu hu=>?_,λw' n=>?_⟩
 ·have p:j<sz:=by rw[<-hl i hi];exact(As.1 hj).1
  have o:i*sz+j<m*sz:=by
   have:(i+1)*sz<=m*sz:=akJ _ hi;rw[akH]at this;omega
  exact⟨F (i*sz+j),by simp [o],(d i j pv hi hj).2⟩
 ·simp only[akZ,amk]at hu;obtain⟨q,a,rfl⟩:=hu;obtain⟨pv,h1,h2⟩:=hq q a;have:=(d _ _ pv h1 h2).2.c.one
  rwa [k]at this
 ·refine run_loadCells w' ⟨b,off,none⟩ (m*sz) F λq a=>?_;obtain⟨pv,h1,h2⟩:=hq q a;have:=(d _ _ pv h1 h2).1;rw[k]at this;rw[Addr.add_lit];exact n.cell this
theorem TA:∀{l:List PV},noO l=true->∀{j:Nat} {pv:PV},l[j]? =some pv->fI pv=false
 | [],_,j,pv,hj=>by simp at hj
 | c::r,h,0,pv,hj=>by
  simp at hj;subst hj;cases c<;>first | rfl | cases h
 | c::r,h,j+1,pv,hj=>TA (l:=r) (by cases c<;>first | exact h | cases h) aos
def Src (P:Program) (μ:Mu) (h:List au) (S:Nat->Prop) (w:World) (a:Value) (sz m:Nat) (g:Nat->List PV):Prop:=
 (∀i,i<m->(g i).length=sz)/\∃news:Array Value,news.size=m*sz/\(∀(i j:Nat) (pv:PV),i<m->(g i)[j]? =some pv->∃u,news[i*sz+j]? =some u/\uK μ h S w pv u)/\
  (∀u∈news.toList,u.oneCell'=true)/\∀w',dV w w'->(Builtin.lenOf a).run P w'=.ok m w'/\(Builtin.firstCells sz m a).run P w'=.ok news w'
theorem Src.empty (b:Value) (sz:Nat) (g:Nat->List PV) (d:∃a c,b=.slice a 0 c):Src P μ h S w b sz 0 g:=by
 obtain⟨a,c,rfl⟩:=d;refine⟨λi hi=>absurd hi aol,#[],by simp,λi j pv hi=>absurd hi aol,λu hu=>by simp at hu,λw' _=>⟨rfl,?_⟩⟩;cases a with
 | none=>rfl
 | some a=>simp [Builtin.firstCells,loadCells,loadCellsFrom]
theorem vC (hc:Core μ h S w) (id g off len sz n:Nat) (e:TypeId) (f:Nat->List PV) (hh:h[id]? =some (au.row g sz n e f)) (v:Value) (hv:da μ h S w (.own id g off len) v) (l:0<sz):Src P μ h S w v sz len (λi=>f (off+i)):=by
 have a:=hv.vj;unfold cK at a;rw[hh]at a;obtain⟨_,_,a⟩:=a;obtain⟨hle,a⟩:=a rfl;obtain⟨hl,c⟩:=hc.heap id g sz n e f hh;cases k:μ id with
 | none=>
  rw[k]at a c;have hn:n=0:=c;have h0:len=0:=by omega
  subst h0;exact Src.empty v sz _ ⟨_,_,a⟩
 | some p=>
  obtain⟨b,base⟩:=p;rw[k]at a c;obtain⟨t,cap,hv,x,d,m⟩:=a;obtain⟨cur,o,y,q⟩:=dT.cells m c;rcases alp len with h0 | h0
  ·subst h0;exact Src.empty v sz _ ⟨_,_,hv⟩
  ·have d:=d aol;subst d
   obtain⟨news,q1,q2,q3,q4⟩:=PT (P:=P) (μ:=μ) (h:=h) (S:=S) (w:=w) b (base+off*sz) len sz l (λi=>f (off+i)) (λi hi=>hl _ aol) (λi j pv hi hj=>by
    obtain⟨u,r1,r⟩:=q (off+i) j pv aol hj;refine⟨u,?_,r⟩;rw[cell_of_row w b _ cur e (0,0) o,<-r1];congr 1;rw[akH];omega)
   exact⟨λi hi=>hl _ aol,news,q1,q2,q3,λw' s=>⟨by rw[hv];rfl,by rw[hv];exact q4 w' s⟩⟩
theorem K3 (hc:Core μ h S w) (x:PV) (o:Value) (d:da μ h S w x o) (sz:Nat) (q:0<sz) (K:Nat->(Nat->List PV)->Prop) (hp:Sp x h sz K):∃m g,K m g/\Src P μ h S w o sz m g/\∀(i j:Nat) (pv:PV),i<m->(g i)[j]? =some pv->fI pv=false:=by
 unfold Sp at hp;split at hp
 ·exact⟨_,_,hp,Src.empty _ _ _ ⟨_,_,d.wh⟩,λi j pv hi=>absurd hi (akG _)⟩
 ·rename_i r m g;replace hp:=cO hp;obtain⟨l,hp⟩:=hp;obtain rfl:=abF l;refine⟨m,g,hp,?_⟩;rcases d.AR with⟨a,c,ex,rfl⟩ | ⟨b,off,c,B,ex,C,hl,t,v,p⟩
  ·exact⟨Src.empty _ _ _ ⟨_,_,ex⟩,λi j pv hi=>absurd hi (akG _)⟩
  ·obtain⟨news,q1,q2,q3,q4⟩:=PT (P:=P) (μ:=μ) (h:=h) (S:=S) (w:=w) b off m sz q g hl (λi j pv hi hj=>⟨_,v i j pv hi hj,(dA.pP (p i j pv hi hj)).k (bN.no (p i j pv hi hj))⟩);exact⟨⟨hl,news,q1,q2,q3,λw' y=>⟨by rw[ex];rfl,by rw[ex];exact q4 w' y⟩⟩,λi j pv hi hj=>bN.no (p i j pv hi hj)⟩
 ·rename_i id gen off m;split at hp
  ·rename_i g r n e f hg;obtain⟨rfl,z,hp⟩:=hp;replace hp:=cO hp;obtain⟨l,hp⟩:=hp;obtain rfl:=abF l;exact⟨m,_,hp,vC hc id g off m sz n e f (gn hg) o d q,λi j pv hi hj=>TA (z i hi) hj⟩
  ·exact anA
 ·rename_i s;replace hp:=cO hp;obtain⟨l,hp⟩:=hp;obtain rfl:=abF l;refine⟨_,_,hp,⟨λi hi=>rfl,(s.map λb=>Value.int .u8 b.toNat).toArray,by simp,λi j pv hi hj=>?_,λu hu=>?_,λw' _=>⟨by rw[d.sT];rfl,?_⟩⟩,λi j pv hi hj=>?_⟩
  ·cases j with
   | zero=>
    simp at hj;subst hj;refine⟨.int .u8 (s.getD i 0).toNat,?_,bN.int _ _⟩;rw[akv,Is hi];simp [hi]
   | succ j=>simp at hj
  ·simp at hu;obtain⟨b,_,rfl⟩:=hu;rfl
  ·rw[d.sT];have A:(ByteArray.mk ⟨s⟩).extract 0 s.length=ByteArray.mk ⟨s⟩:=by rw[Fa];simp
   simp only[Builtin.firstCells,A];simp
  ·cases j with
   | zero=>simp at hj;subst hj;rfl
   | succ j=>simp at hj
 ·exact anA
end
section
variable {P:Program}{T:vE}{μ:Mu}{h:List au}{S:Nat->Prop}{w w1:World}
theorem UW (hc:Core μ h S w) (a g sz n:Nat) (e:TypeId) (f:Nat->List PV) (hh:h[a]? =some (au.row g sz n e f)):Fr μ h S w μ (h.set a .dead) S w/\Core μ (h.set a .dead) S w:=by
 have hid:a<h.length:=(As.1 hh).1;have A:(h.set a au.dead)[a]? =some au.dead:=by simp [hid]
 have r:∀j,j≠a->(h.set a au.dead)[j]? =h[j]?:=λj hj=>by rw[akQ (alJ hj)]
 have t:∀{j d k l m q},(h.set a au.dead)[j]? =some (au.row d k l m q)->j≠a:=λhj u=>by subst u;rw[A]at hj;cases hj
 have D:∀b,H9 μ (h.set a au.dead) b->H9 μ h b:=λb ⟨j,d,k,l,m,q,F,hj,hm⟩=>by
  rw[r j (t hj)]at hj;exact⟨j,d,k,l,m,q,F,hj,hm⟩
 have v:∀j x y b,fg (h.set a au.dead) j x y b->fg h j x y b:=λj x y b ⟨d,k,l,m,q,I,J,K,L,M,q1,q2,q3,q4⟩=>by
  rw[r j (t q1)]at q1;exact⟨_,_,_,_,_,_,_,_,_,_,q1,q2,q3,q4⟩
 have B:∀b,dX μ (h.set a au.dead) b->dX μ h b:=λb c=>by
  rcases c with c | ⟨x,y,z,c⟩
  ·exact .inl (D b c)
  ·exact .inr ⟨x,y,z,v _ _ _ _ c⟩
 have E:Fr μ h S w μ (h.set a .dead) S w:=by
  refine⟨by simp,λ_ _ _=>rfl,λ_ c=>c,λ_ c=>.inl c,λb c=>.inl (B b c),No _,rfl,rfl,rfl,λj d k l m q hj=>?_,λj hj=>?_,λ_ _ _ G=>G,λj d k l m q b base hj hm C=>⟨C,?_⟩,λ_ _ _ _ _ C=>C⟩
  ·by_cases s:j=a
   ·subst s;rw[A];trivial
   ·rw[r j s,hj];exact⟨No _,λ_=>⟨rfl,rfl,rfl,rfl⟩⟩
  ·have s:j≠a:=by rintro rfl;rw[hh]at hj;cases hj
   rw[r j s];exact hj
  ·by_cases s:j=a
   ·subst s;exact .inl A
   ·exact .inr ⟨⟨_,_,_,_,_,(r j s).trans hj⟩,hm⟩
 refine⟨E,⟨λj d k l m q hj=>?_,⟨λb c=>hc.ok.apart b (B b c),λb c=>hc.ok.lt b (B b c),hc.ok.slt,?_,hc.ok.known,λb c x y z u=>hc.ok.hv b (D b c) x y z (v _ _ _ _ u),λb _ _ _ _ _ _ u hy=>hc.ok.hh b _ _ _ _ _ _ (v _ _ _ _ u) (v _ _ _ _ hy)⟩⟩⟩
 ·rw[r j (t hj)]at hj;obtain⟨h1,h2⟩:=hc.heap j d k l m q hj;refine⟨h1,?_⟩;cases hm:μ j with
  | none=>rw[hm]at h2;exact h2
  | some p=>
   obtain⟨b,base⟩:=p;rw[hm]at h2;obtain⟨o,q1,q2⟩:=h2;exact⟨o,q1,q2.mono (λ_ _ _ _ _ _ H=>H.fr E hc.ok (λ_ _ _ _ _ _ _ _=>rfl))⟩
 ·intro i j N O P Q R d k l m q b o T hi hj tm rS;rw[r i (t hi)]at hi;rw[r j (t hj)]at hj;exact anU
theorem K4 (hc:Core μ h S w) (id d:Nat) (uX:d≠id) (g2 tB n2:Nat) (e2:TypeId) (f2:Nat->List PV) (PU:h[d]? =some (au.row g2 tB n2 e2 f2)) (O:Nat) (g E sz n r:Nat) (e:TypeId) (f t:Nat->List PV) (hh:h[id]? =some (au.row g sz n e f)) (l R:Nat) (T:Array Value)
  (hg:g<=E) (aa:E=g->μ id=some (l,R)/\r=n)
  (m:w.heap.size<=l\/∃base cur,μ id=some (l,base)/\w.heap[l]? =some (.cells cur e (0,0))/\cur.size=T.size)
  (hw:w1.heap[l]? =some (.cells T e (0,0))) (Be:R+r*sz<=T.size)
  (L:∀b,b<w.heap.size->b≠l->w1.heap[b]? =w.heap[b]?) (zk:w.heap.size<=w1.heap.size) (ad:w1.os=w.os) (O4:w1.tape=w.tape) (RM:w1.output=w.output)
  (hl:∀i,i<r->(t i).length=sz) (Vd:∀b base,μ id=some (b,base)->¬xC w b)
  (cn:∀(i j:Nat) (pv:PV),i<r->(t i)[j]? =some pv->∃v:Value,T[R+i*sz+j]? =some v/\uK μ h S w pv v) (O5 Ck:Nat)
  (Al:∀(i j U V:Nat) (P:TypeId) (W:Nat->List PV) (X:Nat->Prop),i<r->(t i)[j]? =some (.aX U V P W X)->(i<O/\O5+i<n/\(f (O5+i))[j]? =some (.aX U V P W X))\/(O<=i/\Ck+(i - O)<n2/\(f2 (Ck+(i - O)))[j]? =some (.aX U V P W X))):
  Fr μ h S w (tv μ id (some (l,R))) ((h.set id (.row E sz r e t)).set d .dead) S w1/\Core (tv μ id (some (l,R))) ((h.set id (.row E sz r e t)).set d .dead) S w1:=by
 have hid:id<h.length:=(As.1 hh).1;have jy:((h.set id (au.row E sz r e t)).set d .dead)[id]? =some (au.row E sz r e t):=by rw[akQ uX];simp [hid]
 have ag:d<h.length:=(As.1 PU).1;have yS:((h.set id (au.row E sz r e t)).set d .dead)[d]? =some au.dead:=by simp [ag]
 have F:∀j,j≠id->j≠d->((h.set id (au.row E sz r e t)).set d .dead)[j]? =h[j]?:=λj hj G=>by rw[akQ (alJ G),akQ (alJ hj)]
 have H:∀{j u A B C D},((h.set id (au.row E sz r e t)).set d .dead)[j]? =some (au.row u A B C D)->j≠d:=λhj s=>by subst s;rw[yS]at hj;cases hj
 have WU:l<w1.heap.size:=(akw.1 hw).1
 have Ao:l<w.heap.size->dX μ h l:=λI=>by
  rcases m with m | ⟨base,cur,hm,_,_⟩
  ·omega
  ·exact .inl ⟨id,g,sz,n,e,f,base,hh,hm⟩
 have fZ:∀j x y b,fg ((h.set id (au.row E sz r e t)).set d .dead) j x y b->j≠d/\∃j0 M,fg h j0 M y b/\((j≠id/\j0=j/\M=x)\/(j=id/\x<O/\j0=id/\M=O5+x)\/(j=id/\O<=x/\j0=d/\M=Ck+(x - O))):=λj x y b ⟨u,A,B,C,D,U,V,P,W,X,q1,q2,q3,q4⟩=>by
  refine⟨H q1,?_⟩;by_cases a:j=id
  ·subst a;rw[jy]at q1;injection q1 with q1;injection q1 with e1 e2 e3 e4 e5;subst e1 e2 e3 e4 e5;rcases Al x y _ _ _ _ _ q2 q3 with⟨r0,r1,J⟩ | ⟨r0,r1,J⟩
   ·exact⟨_,_,⟨_,_,_,_,_,_,_,_,_,_,hh,r1,J,q4⟩,.inr (.inl ⟨rfl,r0,rfl,rfl⟩)⟩
   ·exact⟨_,_,⟨_,_,_,_,_,_,_,_,_,_,PU,r1,J,q4⟩,.inr (.inr ⟨rfl,r0,rfl,rfl⟩)⟩
  ·have G:=H q1;rw[F j a G]at q1;exact⟨_,_,⟨_,_,_,_,_,_,_,_,_,_,q1,q2,q3,q4⟩,.inl ⟨a,rfl,rfl⟩⟩
 have yd:∀j x y b,fg h j x y b->b<w.heap.size/\b≠l:=λj x y b s=>by
  have I:=hc.ok.lt b (.inr ⟨j,x,y,s⟩);refine⟨I,?_⟩;rintro rfl;rcases m with m | ⟨base,cur,hm,_,_⟩
  ·omega
  ·exact hc.ok.hv b ⟨id,g,sz,n,e,f,base,hh,hm⟩ j x y s
 have nq:Fr μ h S w (tv μ id (some (l,R))) ((h.set id (.row E sz r e t)).set d .dead) S w1:=by
  refine⟨by simp,λb I xH=>?_,λ_ m=>m,λ_ m=>.inl m,λb Y=>?_,zk,ad,O4,RM,λj u A B C D hj=>?_,λj hj=>?_,λb k D2 iK=>?_,λj u A B C D b base hj hm rO=>?_,λb j x y s rO=>?_⟩;rotate_right
  ·obtain⟨q1,q2⟩:=yd j x y b s;obtain⟨es,c,q⟩:=rO;exact⟨es,c,(L b q1 q2).trans q⟩
  ·by_cases K:b=l
   ·subst K;exact(xH (Ao I)).elim
   ·exact L b I K
  ·rcases Y with⟨j,u,A,B,C,D,tw,hj,hm⟩ | ⟨j,x,y,s⟩;rotate_left
   ·obtain⟨_,j0,M,N,_⟩:=fZ j x y b s;exact .inl (.inr ⟨_,_,_,N⟩)
   by_cases a:j=id
   ·subst a;rw[cG]at hm;injection hm with hm;injection hm with h1 h2;subst h1;rcases alm l w.heap.size with I | Td
    ·exact .inl (Ao I)
    ·exact .inr Td
   ·rw[F j a (H hj)]at hj;rw[eg μ _ a]at hm;exact .inl (.inl ⟨j,u,A,B,C,D,tw,hj,hm⟩)
  ·by_cases a:j=id
   ·subst a;rw[hh]at hj;injection hj with hj;injection hj with e1 e2 e3 e4 e5;subst e1 e2 e3 e4 e5;rw[jy];refine⟨hg,λhe=>?_⟩;obtain⟨h1,h2⟩:=aa he;exact⟨by rw[cG,h1],rfl,h2,rfl⟩
   ·by_cases G:j=d
    ·subst G;rw[yS];trivial
    ·rw[F j a G,hj];exact⟨No _,λ_=>⟨eg μ _ a,rfl,rfl,rfl⟩⟩
  ·have a:j≠id:=by rintro rfl;rw[hh]at hj;cases hj
   have G:j≠d:=by rintro rfl;rw[PU]at hj;cases hj
   rw[F j a G];exact hj
  ·by_cases K:b=l
   ·subst K;obtain⟨cur,P,z,q1,q2⟩:=iK;rcases m with m | ⟨base,Gb,hm,sZ,oA⟩
    ·have:=(akw.1 q1).1;omega
    ·rw[sZ]at q1;injection q1 with q1;injection q1 with q1 _ _;subst q1;exact⟨T,e,_,hw,by omega⟩
   ·exact oE.of_same (L b iK.lt K) iK
  ·have a:j≠id:=by rintro rfl;exact Vd b base hm rO
   have K:b≠l:=by
    rintro rfl;obtain⟨es,c,q⟩:=rO;rcases m with m | ⟨uT,Gb,Z,sZ,_⟩
    ·have:=(akw.1 q).1;omega
    ·rw[sZ]at q;cases q
   obtain⟨es,c,q⟩:=rO;refine⟨⟨es,c,(L b (akw.1 q).1 K).trans q⟩,?_⟩;by_cases G:j=d
   ·subst G;exact .inl yS
   ·exact .inr ⟨⟨_,_,_,_,_,(F j a G).trans hj⟩,by rw[eg μ _ a];exact hm⟩
 refine⟨nq,⟨λj u A B C D hj=>?_,?_⟩⟩
 ·by_cases a:j=id
  ·subst a;rw[jy]at hj;injection hj with hj;injection hj with e1 e2 e3 e4 e5;subst e1 e2 e3 e4 e5;rw[cG];refine⟨hl,dT.H8 ⟨T,hw,Be,λi k pv hi Q=>?_⟩⟩;obtain⟨v,h1,h2⟩:=cn i k pv hi Q;refine⟨v,h1,h2.fr nq hc.ok (λU V P W X he b Y=>?_)⟩;rw[he]at Q;rcases Al i k _ _ _ _ _ hi Q with⟨r0,r1,J⟩ | ⟨r0,r1,J⟩
   ·obtain⟨q1,q2⟩:=yd _ _ k b ⟨_,_,_,_,_,_,_,_,_,_,hh,r1,J,Y⟩;exact L b q1 q2
   ·obtain⟨q1,q2⟩:=yd _ _ k b ⟨_,_,_,_,_,_,_,_,_,_,PU,r1,J,Y⟩;exact L b q1 q2
  ·rw[F j a (H hj)]at hj;obtain⟨h1,h2⟩:=hc.heap j u A B C D hj;refine⟨h1,?_⟩;rw[eg μ _ a];cases hm:μ j with
   | none=>rw[hm]at h2;exact h2
   | some p=>
    obtain⟨b,base⟩:=p;rw[hm]at h2;obtain⟨o,q1,q2⟩:=h2;have I:b<w.heap.size:=(akw.1 q1).1
    have K:b≠l:=by
     rintro rfl;rcases m with m | ⟨uT,Gb,Z,_⟩
     ·omega
     ·exact a (hc.ok.inj j id _ _ _ _ _ _ _ _ _ _ _ _ _ hj hh hm Z)
    exact⟨o,(L b I K).trans q1,q2.mono (λi y pv v hi hy hr=>hr.fr nq hc.ok (λU V P W X he b' Y=>by
     obtain⟨q1,q2⟩:=yd j i y b' ⟨_,_,_,_,_,_,_,_,_,_,hj,hi,by rw[hy,he],Y⟩;exact L b' q1 q2))⟩
 ·refine⟨λb D2 Te=>?_,λb D2=>?_,λb Te=>akK (hc.ok.slt b Te) zk,?_,hc.ok.Eu nq,λb ar j x y s=>?_,λb j x y j' x' y' s zw=>?_⟩;rotate_right 2
  ·obtain⟨_,j0,M,N,_⟩:=fZ j x y b s;obtain⟨q1,q2⟩:=yd _ _ _ b N;obtain⟨k,gk,ax,nk,ek,fk,O6,Q,hm⟩:=ar;by_cases Cc:k=id
   ·subst Cc;rw[cG]at hm;injection hm with hm;injection hm with h1 h2;exact q2 h1.symm
   ·rw[F k Cc (H Q)]at Q;rw[eg μ _ Cc]at hm;exact hc.ok.hv b ⟨k,gk,ax,nk,ek,fk,O6,Q,hm⟩ _ _ _ N
  ·obtain⟨k1,j0,M,N,c0⟩:=fZ j x y b s;obtain⟨k2,j1,x1,aV,c1⟩:=fZ j' x' y' b zw;obtain⟨r1,J,r3⟩:=hc.ok.hh b _ _ _ _ _ _ N aV;subst r1;subst J;rcases c0 with⟨a1,a2,a3⟩ | ⟨a1,a2,a3,a4⟩ | ⟨a1,a2,a3,a4⟩<;>rcases c1 with⟨d1,d2,d3⟩ | ⟨d1,d2,d3,d4⟩ | ⟨d1,d2,d3,d4⟩<;>refine⟨?_,?_,r3⟩<;>omega
  ·rcases nq.own b D2 with h1 | h1
   ·exact hc.ok.apart b h1 Te
   ·have:=hc.ok.slt b Te;omega
  ·rcases D2 with⟨j,u,A,B,C,D,tw,hj,hm⟩ | ⟨j,x,y,s⟩;rotate_left
   ·obtain⟨_,j0,M,N,_⟩:=fZ j x y b s;exact akK (hc.ok.lt b (.inr ⟨_,_,_,N⟩)) zk
   by_cases a:j=id
   ·subst a;rw[cG]at hm;injection hm with hm;injection hm with h1 h2;subst h1;exact WU
   ·rw[F j a (H hj)]at hj;rw[eg μ _ a]at hm;exact akK (hc.ok.lt b (.inl ⟨j,u,A,B,C,D,tw,hj,hm⟩)) zk
  ·intro i j gi Us ni ei fi u A B C D b o o' hi hj tm rS;by_cases O7:i=id
   ·by_cases a:j=id
    ·rw[O7,a]
    ·subst O7;rw[cG]at tm;injection tm with tm;injection tm with h1 h2;subst h1;rw[F j a (H hj)]at hj;rw[eg μ _ a]at rS;rcases m with m | ⟨uT,Gb,Z,_⟩
     ·have:=hc.ok.lt _ (.inl ⟨j,u,A,B,C,D,o',hj,rS⟩);omega
     ·exact hc.ok.inj i j _ _ _ _ _ _ _ _ _ _ _ _ _ hh hj Z rS
   ·rw[F i O7 (H hi)]at hi;rw[eg μ _ O7]at tm;by_cases a:j=id
    ·subst a;rw[cG]at rS;injection rS with rS;injection rS with h1 h2;subst h1;rcases m with m | ⟨uT,Gb,Z,_⟩
     ·have:=hc.ok.lt _ (.inl ⟨i,gi,Us,ni,ei,fi,o,hi,tm⟩);omega
     ·exact hc.ok.inj i j _ _ _ _ _ _ _ _ _ _ _ _ _ hi hh tm Z
    ·rw[F j a (H hj)]at hj;rw[eg μ _ a]at rS;exact anU
end
section
variable {P:Program}{T:vE}{μ:Mu}{h:List au}{S:Nat->Prop}{w:World}
theorem BE (hc:Core μ h S w) (id g d sz n:Nat) (e:TypeId) (f k:Nat->List PV) (hh:h[id]? =some (au.row g sz n e f)) (u:μ id=none) (hg:g<d):
  Fr μ h S w μ (h.set id (.row d sz 0 e k)) S w/\Core μ (h.set id (.row d sz 0 e k)) S w:=by
 have hid:id<h.length:=(As.1 hh).1;have E:(h.set id (au.row d sz 0 e k))[id]? =some (au.row d sz 0 e k):=by simp [hid]
 have l:∀j,j≠id->(h.set id (au.row d sz 0 e k))[j]? =h[j]?:=λj hj=>by rw[akQ (alJ hj)]
 have I:∀b,H9 μ (h.set id (au.row d sz 0 e k)) b->H9 μ h b:=λb a=>by
  obtain⟨j,m,q,r,s,t,K,hj,hm⟩:=a;by_cases c:j=id
  ·subst c;rw[u]at hm;cases hm
  ·rw[l j c]at hj;exact⟨j,m,q,r,s,t,K,hj,hm⟩
 have v:∀j x y b,fg (h.set id (au.row d sz 0 e k)) j x y b->fg h j x y b:=λj x y b ⟨m,q,r,s,t,O,P,Q,R,T,q1,q2,q3,q4⟩=>by
  by_cases c:j=id
  ·subst c;rw[E]at q1;injection q1 with q1;injection q1 with A e2 B C D;omega
  ·rw[l j c]at q1;exact aoe
 have F:∀b,dX μ (h.set id (au.row d sz 0 e k)) b->dX μ h b:=λb a=>by
  rcases a with a | ⟨x,y,z,a⟩
  ·exact .inl (I b a)
  ·exact .inr ⟨x,y,z,v _ _ _ _ a⟩
 have J:Fr μ h S w μ (h.set id (.row d sz 0 e k)) S w:=by
  refine⟨by simp,λ_ _ _=>rfl,λ_ a=>a,λ_ a=>.inl a,λb a=>.inl (F b a),No _,rfl,rfl,rfl,λj m q r s t hj=>?_,λj hj=>?_,λ_ _ _ L=>L,λj m q r s t b base hj hm G=>⟨G,.inr ⟨⟨_,_,_,_,_,(l j (by rintro rfl;rw[u]at hm;cases hm)).trans hj⟩,hm⟩⟩,λ_ _ _ _ _ G=>G⟩
  ·by_cases c:j=id
   ·subst c;rw[hh]at hj;injection hj with hj;injection hj with A e2 B C D;subst A e2 B C D;rw[E];exact⟨by omega,λhe=>absurd he aol⟩
   ·rw[l j c,hj];exact aoc
  ·have c:j≠id:=by rintro rfl;rw[hh]at hj;cases hj
   rw[l j c];exact hj
 refine⟨J,⟨λj m q r s t hj=>?_,⟨λb a=>hc.ok.apart b (F b a),λb a=>hc.ok.lt b (F b a),hc.ok.slt,?_,hc.ok.known,λb a x y z H=>hc.ok.hv b (I b a) x y z (v _ _ _ _ H),λb _ _ _ _ _ _ H hy=>hc.ok.hh b _ _ _ _ _ _ (v _ _ _ _ H) (v _ _ _ _ hy)⟩⟩⟩
 ·by_cases c:j=id
  ·subst c;rw[E]at hj;injection hj with hj;injection hj with A e2 B C D;subst A e2 B C D;refine⟨λi hi=>absurd hi aol,?_⟩;rw[u]
  ·rw[l j c]at hj;obtain⟨h1,h2⟩:=hc.heap j m q r s t hj;refine⟨h1,?_⟩;cases hm:μ j with
   | none=>rw[hm]at h2;exact h2
   | some p=>
    obtain⟨b,base⟩:=p;rw[hm]at h2;obtain⟨o,q1,q2⟩:=h2;exact⟨o,q1,q2.mono (λ_ _ _ _ _ _ M=>M.fr J hc.ok (λ_ _ _ _ _ _ _ _=>rfl))⟩
 ·intro i j U V W X Y m q r s t b o Z hi hj tm rS;have N:i≠id:=by rintro rfl;rw[u]at tm;cases tm
  have c:j≠id:=by rintro rfl;rw[u]at rS;cases rS
  rw[l i N]at hi;rw[l j c]at hj;exact anU
variable {a:Act}{env:Env}{K:PV->List au->Prop}{dst:Option Tmp}{ty:TypeId}{pos:String}{after:Array Edge}{guard:Option (Nat×Bool)}
theorem wx (z:Array Value) (n:Nat):(Builtin.zeroCells z n).size=n*z.size:=by simp [Builtin.zeroCells]
theorem mV {s x:Operand} {t b:TypeId} {sv c d:Value} {w':World} (hs:a.eval s=sv) (e:a.eval x=c) (f:(Builtin.append_ #[t,b] ty #[sv,c]).run P w=.ok d w'):
  (execOp a.eval ⟨dst,.call ⟨.builtin .append,#[s,x],#[t,b]⟩,ty,pos,after,guard⟩).run P w=.ok (.value d) w':=by
 simp only[execOp,resolve,invoke,builtin,Sem.run_bind,Sem.run_pure,Result.andThen_ok,amC,akB,akE,hs,e,f]
theorem IW {sz l m:Nat} {f q:Nat->List PV} {a news rest:Array Value} (e:a.size=l*sz) (hn:news.size=m*sz)
  (h1:∀(i j:Nat) (pv:PV),i<l->(f i)[j]? =some pv->∃u,a[i*sz+j]? =some u/\uK μ h S w pv u)
  (h2:∀(i j:Nat) (pv:PV),i<m->(q i)[j]? =some pv->∃u,news[i*sz+j]? =some u/\uK μ h S w pv u)
  (g:∀i,i<l->(f i).length=sz) (k:∀i,i<m->(q i).length=sz):
  ∀(i j:Nat) (pv:PV),i<l+m->(bif Nat.blt i l then f i else q (i - l))[j]? =some pv->∃u,(a++news++rest)[i*sz+j]? =some u/\uK μ h S w pv u:=by
 intro i j pv hi hj;by_cases b:i<l
 ·have c:Nat.blt i l=true:=by simpa using b
  rw[c]at hj;simp only[cond_true]at hj;obtain⟨u,q1,q2⟩:=h1 i j pv b hj;have d:i*sz+j<a.size:=(akw.1 q1).1;exact⟨u,by rw[alo aoq,alo d];exact q1,q2⟩
 ·have c:Nat.blt i l=false:=by
   cases hh:Nat.blt i l with
   | true=>exact(b (by simpa using hh)).elim
   | false=>rfl
  rw[c]at hj;simp only[cond_false]at hj;obtain⟨u,q1,q2⟩:=h2 (i - l) j pv aol hj;have d:(i - l)*sz+j<news.size:=(akw.1 q1).1;have hmul:i*sz=l*sz+(i - l)*sz:=by rw[<-akH];congr 1;omega
  refine⟨u,?_,q2⟩;rw[alo aoq,Array.getElem?_append_right aol,<-q1];congr 1;omega
theorem PW {sz l m:Nat} {f q:Nat->List PV} (c:∀i,i<l->(f i).length=sz) (d:∀i,i<m->(q i).length=sz):∀i,i<l+m->(bif Nat.blt i l then f i else q (i - l)).length=sz:=by
 intro i hi;by_cases a:i<l
 ·have b:Nat.blt i l=true:=by simpa using a
  rw[b];exact c i a
 ·have b:Nat.blt i l=false:=by
   cases hh:Nat.blt i l with
   | true=>exact(a (by simpa using hh)).elim
   | false=>rfl
  rw[b];exact d _ aol
theorem EJ (w:World) (o:Obj):dV w (w.drew.alloc o):=(dV.drew w).trans (rP w.drew o)
theorem PX (r:fH P T) (hc:Core μ h S w) (t f e sz bytes:Nat) (zero:List PV) (d:TypeDesc) (v:T.get t=.slice e sz bytes zero) (y:P.underlying f=some d) (hd:(∃B,d=.slice B)\/d=.string)
  (s x:Operand) (hs:a.eval s=.slice none 0 0) (m:Nat) (g:Nat->List PV) (C:Src P μ h S w (a.eval x) sz m g) (b:∀(i j:Nat) (pv:PV),i<m->(g i)[j]? =some pv->fI pv=false) (D:m*bytes<=140737488355328) (z:K (.own h.length 0 0 m) (h++[.row 0 sz m e g])):
  jr P ⟨dst,.call ⟨.builtin .append,#[s,x],#[t,f]⟩,ty,pos,after,guard⟩ a μ h S w K:=by
 obtain⟨hu,J,inf,zv,A,E,l,F,G,L,M⟩:=r.slice _ _ _ _ _ v;have n:=r.bytes _ _ _ _ _ v;subst E l;obtain⟨hl,news,q1,q2,q3,q4⟩:=C;rcases alp m with h0 | h0
 ·subst h0;have hn:news=#[]:=alE aoZ;subst hn;obtain⟨r1,o⟩:=q4 w (dV.refl w);have k:=pK (P:=P) (w:=w) t f ty e inf d hu y hd A none 0 0 (a.eval x) 0 #[] w r1 o (No _) rfl;obtain⟨p,q⟩:=wk (w1:=w) hc inf.size 0 e g none rfl (dV.refl w) hl b;refine jr.lK (mV hs rfl k) z ?_ q p;show cK _ _ _ _ _ _ _ _;unfold cK;rw[akN (No _),alK];refine⟨⟨_,_,_,rfl⟩,No _,λ_=>⟨by omega,?_⟩⟩;rw[cG]
 ·obtain⟨r1,_⟩:=q4 w (dV.refl w);obtain⟨_,o⟩:=q4 w.drew (dV.drew w);have k:=uP (P:=P) (w:=w) t f ty e inf zv d hu y hd A F none 0 0 (a.eval x) m #[] news r1 rfl o aol n (by rw[so];exact D);rw[so]at k
  obtain⟨p,q⟩:=wk (w1:=w.drew.alloc (.cells (#[]++news++Builtin.zeroCells zv.cells (grownCap w m 0 e - m)) e)) hc inf.size m e g (some (w.heap.size,0))
   ⟨No _,_,heap_alloc_new w.drew _,by simp [q1],λi j pv hi hj=>by
    obtain⟨u,p1,p2⟩:=q2 i j pv hi hj;have H:=(akw.1 p1).1;exact⟨u,by rw[amj,so,alo H];exact p1,p2.c⟩⟩ (EJ w _) hl b
  refine jr.lK (mV hs rfl k) z ?_ q p;show cK _ _ _ _ _ _ _ _;unfold cK;rw[akN (No _),alK];refine⟨⟨_,_,_,rfl⟩,No _,λ_=>⟨by omega,?_⟩⟩;rw[cG];have I:=grownCap_ge w m 0 e;refine⟨_,grownCap w m 0 e,rfl,I,λ_=>by simp,_,e,_,heap_alloc_new w.drew _,?_⟩;simp only[amf,wx,G,q1];simp only[so];have:grownCap w m 0 e*inf.size=m*inf.size+(grownCap w m 0 e - m)*inf.size:=by rw[<-akH];congr 1;omega
  simp;omega
theorem Sq (hT:fH P T) (hc:Core μ h S w) (t D e sz bytes:Nat) (zero:List PV) (d:TypeDesc) (kr:T.get t=.slice e sz bytes zero) (Q:P.underlying D=some d) (hd:(∃A,d=.slice A)\/d=.string)
  (s x:Operand) (id g off len n:Nat) (f:Nat->List PV) (hh:h[id]? =some (au.row g sz n e f)) (hs:da μ h S w (.own id g off len) (a.eval s)) (m:Nat) (q:Nat->List PV) (Gp:Src P μ h S w (a.eval x) sz m q) (R:∀(i j:Nat) (pv:PV),i<m->(q i)[j]? =some pv->fI pv=false)
  (E:(len+m)*bytes<=140737488355328)
  (U:K (.own id (g+1) 0 (len+m)) (h.set id (.row (g+1) sz (len+m) e (λi=>bif Nat.blt i len then f (off+i)else q (i - len))))):
  jr P ⟨dst,.call ⟨.builtin .append,#[s,x],#[t,D]⟩,ty,pos,after,guard⟩ a μ h S w K:=by
 obtain⟨hu,oA,inf,zv,V,wI,W,hz,WR,Y0,WS⟩:=hT.slice _ _ _ _ _ kr;have X:=hT.bytes _ _ _ _ _ kr;subst wI W;have hid:id<h.length:=(As.1 hh).1;obtain⟨xn,Y,Z,o2,o3,o4⟩:=vC (P:=P) hc id g off len inf.size n e f hh _ hs oA;obtain⟨EU,news,q1,q2,q3,q4⟩:=Gp;have ZY:=PW xn EU
 have F:∀{sl:Nat},off+sl<=n->∀(i j dk n':Nat) (A:TypeId) (f':Nat->List PV) (F':Nat->Prop),i<sl+m->(bif Nat.blt i sl then f (off+i)else q (i - sl))[j]? =some (.aX dk n' A f' F')->off+i<n/\(f (off+i))[j]? =some (.aX dk n' A f' F'):=λ{sl} Vi i j dk n' A f' F' hi hj=>by
  by_cases B:i<sl
  ·have E:Nat.blt i sl=true:=by simpa using B
   rw[E]at hj;exact⟨by omega,hj⟩
  ·have E:Nat.blt i sl=false:=by
    cases hh:Nat.blt i sl with
    | true=>exact(B (by simpa using hh)).elim
    | false=>rfl
   rw[E]at hj;have:=R (i - sl) j _ aol hj;cases this
 have c:=hs.vj;unfold cK at c;rw[hh]at c;obtain⟨⟨sa,sl,l,v⟩,_,c⟩:=c;obtain⟨hle,c⟩:=c rfl
 have Tb:sl=len:=by
  obtain⟨r,_⟩:=o4 w (dV.refl w);rw[v]at r;simp [Builtin.lenOf]at r;exact r
 subst Tb;obtain⟨hl,cn⟩:=hc.heap id g _ n e f hh
 have Vd:∀b base,μ id=some (b,base)->¬xC w b:=λb base y=>by
  rw[y]at c;obtain⟨_,_,_,_,_,J⟩:=c;exact J.MD
 by_cases L:sl+m<=l
 ·-- in place
  obtain⟨r1,M⟩:=q4 w (dV.refl w);cases y:μ id with
  | none=>
   rw[y]at c cn;rw[v]at c;injection c with r e2 e3;subst r e2 e3;have hm:m=0:=by omega
   subst hm;have hn:news=#[]:=alE aoZ;subst hn;have G:=pK (P:=P) (w:=w) t D ty e inf d hu Q hd V none 0 0 (a.eval x) 0 #[] w r1 M (No _) rfl;obtain⟨H,I⟩:=BE hc id g (g+1) inf.size n e f (λi=>bif Nat.blt i 0 then f (off+i)else q (i - 0)) hh y (amH g);refine jr.lK (mV v rfl G) U ?_ I H;show cK _ _ _ _ _ _ _ _;unfold cK;rw[alr hid];refine⟨⟨_,_,_,rfl⟩,No _,λ_=>⟨by omega,?_⟩⟩;rw[y]
  | some p=>
   obtain⟨b,base⟩:=p;rw[y]at c cn;obtain⟨N,cap,hv,Ze,O,J⟩:=c;rw[v]at hv;injection hv with r e2 e3;subst r e3;obtain⟨cur,C,Be,qm⟩:=dT.cells J cn
   have X9:base+(off+l)*inf.size<=cur.size:=by
    obtain⟨Gb,A,z',p1,p2⟩:=J;rw[C]at p1;injection p1 with p1;injection p1 with p1 _ _;subst p1;exact p2
   rw[akH]at X9
   have key:∃o:Array Value,o.size=cur.size/\(match(some N:Option Addr)with | some a=>(storeCells (a.add (sl*inf.size)) news.toList).run P w=.ok () (w.setRow b o) | none=>w.setRow b o=w)/\
     ∀k,o[k]? =if base+off*inf.size+sl*inf.size<=k/\k<base+off*inf.size+sl*inf.size+m*inf.size then news[k - (base+off*inf.size+sl*inf.size)]? else cur[k]?:=by
    rcases alp m with h0 | h0
    ·subst h0;have hn:news=#[]:=alE aoZ;subst hn;refine⟨cur,rfl,?_,λk=>by rw[mg aol]⟩;show(storeCells (N.add (sl*inf.size)) []).run P w=.ok () (w.setRow b cur);rw[setRow_self w b cur e (0,0) C];rfl
    ·have O:=O aol;subst O;have hmul:(sl+m)*inf.size<=l*inf.size:=akJ _ L;rw[akH]at hmul;have Jt:=run_storeCells_at P b (base+off*inf.size+sl*inf.size) e news.toList 0 cur w C aoq q3;rw[alz]at Jt;refine⟨(cur.toList.take (base+off*inf.size+sl*inf.size)++news.toList++cur.toList.drop (base+off*inf.size+sl*inf.size+news.toList.length)).toArray,?_,?_,λk=>?_⟩
     ·simp;omega
     ·show(storeCells ((⟨b,base+off*inf.size,none⟩:Addr).add (sl*inf.size)) news.toList).run P w=.ok () _;rw[Addr.add_lit];exact Jt
     ·have aa:=Ce cur.toList news.toList (base+off*inf.size+sl*inf.size) k aoq;rw[amp,aa];simp only[akR,als,q1]
   obtain⟨o,c1,c2,c3⟩:=key;have G:=pK (P:=P) (w:=w) t D ty e inf d hu Q hd V (some N) sl l (a.eval x) m news (w.setRow b o) r1 M L c2;have hmul:(sl+m)*inf.size<=l*inf.size:=akJ _ L;rw[akH]at hmul
   have uq:=H7 (w1:=w.setRow b o) hc id g (g+1) inf.size n (sl+m) e f (λi=>bif Nat.blt i sl then f (off+i)else q (i - sl)) hh b (base+off*inf.size) o aol (λhe=>absurd he aol)
    (.inr ⟨base,cur,y,C,c1.symm⟩) (setRow_heap w b cur _ e _ C) (by rw[c1,akH];omega) (λb' _ uX=>setRow_other w b b' _ uX) aon rfl rfl rfl ZY Vd
    (λi j pv hi hj=>by
     have RF:j<inf.size:=by rw[<-ZY i hi];exact(As.1 hj).1
     rw[c3];by_cases B:i<sl
     ·have z:Nat.blt i sl=true:=by simpa using B
      rw[z]at hj;simp only[cond_true]at hj;have tm:(i+1)*inf.size<=sl*inf.size:=akJ _ B;rw[akH]at tm;rw[mg aol];obtain⟨u,p1,p2⟩:=qm (off+i) j pv aol hj;refine⟨u,?_,p2⟩;rw[<-p1];congr 1;rw[akH];omega
     ·have z:Nat.blt i sl=false:=by
       cases ag:Nat.blt i sl with
       | true=>exact(B (by simpa using ag)).elim
       | false=>rfl
      rw[z]at hj;simp only[cond_false]at hj;have r:i*inf.size=sl*inf.size+(i - sl)*inf.size:=by rw[<-akH];congr 1;omega
      have e2:(i - sl+1)*inf.size<=m*inf.size:=akJ _ aol;rw[akH]at e2;rw[an aol];obtain⟨u,p1,p2⟩:=q2 (i - sl) j pv aol hj;exact⟨u,by rw[<-p1];congr 1;omega,p2⟩) off (F aol)
   obtain⟨H,I⟩:=uq;refine jr.lK (mV v rfl G) U ?_ I H;show cK _ _ _ _ _ _ _ _;unfold cK;rw[alr hid];refine⟨⟨_,_,_,rfl⟩,No _,λ_=>⟨by omega,?_⟩⟩;rw[cG];refine⟨N,l,rfl,L,λar=>?_,o,e,_,setRow_heap w b cur _ e _ C,?_⟩
   ·rw[O ar,Nat.zero_mul,alz]
   ·rw[c1,so];omega
 ·-- it ax
  obtain⟨r1,_⟩:=q4 w (dV.refl w);obtain⟨_,M⟩:=q4 w.drew (dV.drew w);obtain⟨_,s2⟩:=o4 w.drew (dV.drew w);rw[v]at s2;have G:=uP (P:=P) (w:=w) t D ty e inf zv d hu Q hd V hz sa sl l (a.eval x) m Y news r1 s2 M aol X E;have Td:=grownCap_ge w (sl+m) l e
  have uq:=H7 (w1:=w.drew.alloc (.cells (Y++news++Builtin.zeroCells zv.cells (grownCap w (sl+m) l e - (sl+m))) e)) hc id g (g+1) inf.size n (sl+m) e f (λi=>bif Nat.blt i sl then f (off+i)else q (i - sl)) hh
   w.heap.size 0 (Y++news++Builtin.zeroCells zv.cells (grownCap w (sl+m) l e - (sl+m))) aol (λhe=>absurd he aol) (.inl (No _)) (heap_alloc_new w.drew _)
   (by simp only[amf,Z,q1,akH];omega) (λb dh _=>heap_alloc_old w.drew _ dh) aon rfl rfl rfl ZY Vd
   (λi j pv hi hj=>by
    rw[so];exact IW Z q1 o2 q2 xn EU i j pv hi hj) off (F aol)
  obtain⟨H,I⟩:=uq;refine jr.lK (mV v rfl G) U ?_ I H;show cK _ _ _ _ _ _ _ _;unfold cK;rw[alr hid];refine⟨⟨_,_,_,rfl⟩,No _,λ_=>⟨by omega,?_⟩⟩;rw[cG];refine⟨_,grownCap w (sl+m) l e,rfl,Td,λ_=>by simp,_,e,_,heap_alloc_new w.drew _,?_⟩;simp only[amf,wx,WR,Z,q1,so];have:grownCap w (sl+m) l e*inf.size=(sl+m)*inf.size+(grownCap w (sl+m) l e - (sl+m))*inf.size:=by rw[<-akH];congr 1;omega
  rw[akH]at this;omega
theorem jr.aaC {o:Oper} {a:Act} {K:PV->List au->Prop} {μ1:Mu} {h1:List au} (hf:Fr μ h S w μ1 h1 S w) (hm:yI μ h S w) (b:jr P o a μ1 h1 S w K):jr P o a μ h S w K:=by
 intro next Q hn
 exact b next Q λv val h' μ' S' w' c hv hc d=>hn v val h' μ' S' w' c hv hc (hf.trans d)
theorem Fu (hT:fH P T) (hc:Core μ h S w) (t G e sz bytes:Nat) (zero:List PV) (d:TypeDesc) (kr:T.get t=.slice e sz bytes zero) (zw:P.underlying G=some d) (hd:(∃z,d=.slice z)\/d=.string)
  (s x:Operand) (id g off len n:Nat) (f:Nat->List PV) (hh:h[id]? =some (au.row g sz n e f)) (hs:da μ h S w (.own id g off len) (a.eval s)) (E:Nat) (v:E≠id) (g2 n2:Nat) (q:TypeId) (q2:Nat->List PV) (o m:Nat) (PU:h[E]? =some (au.row g2 sz n2 q q2)) (a4:o+m<=n2) (Gp:Src P μ h S w (a.eval x) sz m (λi=>q2 (o+i)))
  (H:(len+m)*bytes<=140737488355328)
  (hK:K (.own id (g+1) 0 (len+m)) ((h.set id (.row (g+1) sz (len+m) e (λi=>bif Nat.blt i len then f (off+i)else q2 (o+(i - len))))).set E .dead)):
  jr P ⟨dst,.call ⟨.builtin .append,#[s,x],#[t,G]⟩,ty,pos,after,guard⟩ a μ h S w K:=by
 obtain⟨hu,oA,inf,zv,rv,wI,aa,hz,WR,Y0,WS⟩:=hT.slice _ _ _ _ _ kr;have ag:=hT.bytes _ _ _ _ _ kr;subst wI aa;have hid:id<h.length:=(As.1 hh).1;obtain⟨xn,Ci,o1,o2,o3,o4⟩:=vC (P:=P) hc id g off len inf.size n e f hh _ hs oA;obtain⟨EU,news,q1,I,q3,q4⟩:=Gp;have ZY:=PW xn EU
 have J:∀{sl:Nat},off+sl<=n->∀(i j O Q:Nat) (z:TypeId) (R:Nat->List PV) (U:Nat->Prop),i<sl+m->(bif Nat.blt i sl then f (off+i)else q2 (o+(i - sl)))[j]? =some (.aX O Q z R U)->(i<sl/\off+i<n/\(f (off+i))[j]? =some (.aX O Q z R U))\/(sl<=i/\o+(i - sl)<n2/\(q2 (o+(i - sl)))[j]? =some (.aX O Q z R U)):=λ{sl} Vi i j O Q z R U hi hj=>by
  by_cases A:i<sl
  ·have H:Nat.blt i sl=true:=by simpa using A
   rw[H]at hj;exact .inl ⟨A,by omega,hj⟩
  ·have H:Nat.blt i sl=false:=by
    cases hh:Nat.blt i sl with
    | true=>exact(A (by simpa using hh)).elim
    | false=>rfl
   rw[H]at hj;exact .inr ⟨by omega,by omega,hj⟩
 have c:=hs.vj;unfold cK at c;rw[hh]at c;obtain⟨⟨sa,sl,l,B⟩,_,c⟩:=c;obtain⟨hle,c⟩:=c rfl
 have Tb:sl=len:=by
  obtain⟨y,_⟩:=o4 w (dV.refl w);rw[B]at y;simp [Builtin.lenOf]at y;exact y
 subst Tb;obtain⟨hl,cn⟩:=hc.heap id g _ n e f hh
 have Vd:∀b base,μ id=some (b,base)->¬xC w b:=λb base C=>by
  rw[C]at c;obtain⟨_,_,_,_,_,V⟩:=c;exact V.MD
 by_cases W:sl+m<=l
 ·-- in place
  obtain⟨r1,X⟩:=q4 w (dV.refl w);cases C:μ id with
  | none=>
   rw[C]at c cn;rw[B]at c;injection c with y e2 e3;subst y e2 e3;have hm:m=0:=by omega
   subst hm;have hn:news=#[]:=alE aoZ;subst hn;have L:=pK (P:=P) (w:=w) t G ty e inf d hu zw hd rv none 0 0 (a.eval x) 0 #[] w r1 X (No _) rfl;obtain⟨ar,ax⟩:=BE hc id g (g+1) inf.size n e f (λi=>bif Nat.blt i 0 then f (off+i)else q2 (o+(i - 0))) hh C (amH g);obtain⟨aV,M⟩:=UW ax E g2 inf.size n2 q q2 (by rw[akQ (alJ v)];exact PU);have N:=ar.trans aV;refine jr.lK (mV B rfl L) hK ?_ M N;show cK _ _ _ _ _ _ _ _;unfold cK;rw[akQ v,alr hid];refine⟨⟨_,_,_,rfl⟩,No _,λ_=>⟨by omega,?_⟩⟩;rw[C]
  | some p=>
   obtain⟨b,base⟩:=p;rw[C]at c cn;obtain⟨Y,cap,hv,Ze,Z,V⟩:=c;rw[B]at hv;injection hv with y e2 e3;subst y e3;obtain⟨cur,F,Be,qm⟩:=dT.cells V cn
   have X9:base+(off+l)*inf.size<=cur.size:=by
    obtain⟨Gb,z,z',p1,p2⟩:=V;rw[F]at p1;injection p1 with p1;injection p1 with p1 _ _;subst p1;exact p2
   rw[akH]at X9
   have key:∃r:Array Value,r.size=cur.size/\(match(some Y:Option Addr)with | some a=>(storeCells (a.add (sl*inf.size)) news.toList).run P w=.ok () (w.setRow b r) | none=>w.setRow b r=w)/\
     ∀k,r[k]? =if base+off*inf.size+sl*inf.size<=k/\k<base+off*inf.size+sl*inf.size+m*inf.size then news[k - (base+off*inf.size+sl*inf.size)]? else cur[k]?:=by
    rcases alp m with h0 | h0
    ·subst h0;have hn:news=#[]:=alE aoZ;subst hn;refine⟨cur,rfl,?_,λk=>by rw[mg aol]⟩;show(storeCells (Y.add (sl*inf.size)) []).run P w=.ok () (w.setRow b cur);rw[setRow_self w b cur e (0,0) F];rfl
    ·have Z:=Z aol;subst Z;have hmul:(sl+m)*inf.size<=l*inf.size:=akJ _ W;rw[akH]at hmul;have Jt:=run_storeCells_at P b (base+off*inf.size+sl*inf.size) e news.toList 0 cur w F aoq q3;rw[alz]at Jt;refine⟨(cur.toList.take (base+off*inf.size+sl*inf.size)++news.toList++cur.toList.drop (base+off*inf.size+sl*inf.size+news.toList.length)).toArray,?_,?_,λk=>?_⟩
     ·simp;omega
     ·show(storeCells ((⟨b,base+off*inf.size,none⟩:Addr).add (sl*inf.size)) news.toList).run P w=.ok () _;rw[Addr.add_lit];exact Jt
     ·have a0:=Ce cur.toList news.toList (base+off*inf.size+sl*inf.size) k aoq;rw[amp,a0];simp only[akR,als,q1]
   obtain⟨r,c1,c2,c3⟩:=key;have L:=pK (P:=P) (w:=w) t G ty e inf d hu zw hd rv (some Y) sl l (a.eval x) m news (w.setRow b r) r1 X W c2;have hmul:(sl+m)*inf.size<=l*inf.size:=akJ _ W;rw[akH]at hmul
   have uq:=K4 (w1:=w.setRow b r) hc id E v g2 inf.size n2 q q2 PU sl g (g+1) inf.size n (sl+m) e f (λi=>bif Nat.blt i sl then f (off+i)else q2 (o+(i - sl))) hh b (base+off*inf.size) r aol (λhe=>absurd he aol)
    (.inr ⟨base,cur,C,F,c1.symm⟩) (setRow_heap w b cur _ e _ F) (by rw[c1,akH];omega) (λb' _ v=>setRow_other w b b' _ v) aon rfl rfl rfl ZY Vd
    (λi j pv hi hj=>by
     have RF:j<inf.size:=by rw[<-ZY i hi];exact(As.1 hj).1
     rw[c3];by_cases A:i<sl
     ·have D:Nat.blt i sl=true:=by simpa using A
      rw[D]at hj;simp only[cond_true]at hj;have tm:(i+1)*inf.size<=sl*inf.size:=akJ _ A;rw[akH]at tm;rw[mg aol];obtain⟨u,p1,p2⟩:=qm (off+i) j pv aol hj;refine⟨u,?_,p2⟩;rw[<-p1];congr 1;rw[akH];omega
     ·have D:Nat.blt i sl=false:=by
       cases a1:Nat.blt i sl with
       | true=>exact(A (by simpa using a1)).elim
       | false=>rfl
      rw[D]at hj;simp only[cond_false]at hj;have y:i*inf.size=sl*inf.size+(i - sl)*inf.size:=by rw[<-akH];congr 1;omega
      have e2:(i - sl+1)*inf.size<=m*inf.size:=akJ _ aol;rw[akH]at e2;rw[an aol];obtain⟨u,p1,p2⟩:=I (i - sl) j pv aol hj;exact⟨u,by rw[<-p1];congr 1;omega,p2⟩) off o (J aol)
   obtain⟨N,M⟩:=uq;refine jr.lK (mV B rfl L) hK ?_ M N;show cK _ _ _ _ _ _ _ _;unfold cK;rw[akQ v,alr hid];refine⟨⟨_,_,_,rfl⟩,No _,λ_=>⟨by omega,?_⟩⟩;rw[cG];refine⟨Y,l,rfl,W,λa2=>?_,r,e,_,setRow_heap w b cur _ e _ F,?_⟩
   ·rw[Z a2,Nat.zero_mul,alz]
   ·rw[c1,so];omega
 ·-- it a3
  obtain⟨r1,_⟩:=q4 w (dV.refl w);obtain⟨_,X⟩:=q4 w.drew (dV.drew w);obtain⟨_,s2⟩:=o4 w.drew (dV.drew w);rw[B]at s2;have L:=uP (P:=P) (w:=w) t G ty e inf zv d hu zw hd rv hz sa sl l (a.eval x) m Ci news r1 s2 X aol ag H;have Td:=grownCap_ge w (sl+m) l e
  have uq:=K4 (w1:=w.drew.alloc (.cells (Ci++news++Builtin.zeroCells zv.cells (grownCap w (sl+m) l e - (sl+m))) e)) hc id E v g2 inf.size n2 q q2 PU sl g (g+1) inf.size n (sl+m) e f (λi=>bif Nat.blt i sl then f (off+i)else q2 (o+(i - sl))) hh
   w.heap.size 0 (Ci++news++Builtin.zeroCells zv.cells (grownCap w (sl+m) l e - (sl+m))) aol (λhe=>absurd he aol) (.inl (No _)) (heap_alloc_new w.drew _)
   (by simp only[amf,o1,q1,akH];omega) (λb dh _=>heap_alloc_old w.drew _ dh) aon rfl rfl rfl ZY Vd
   (λi j pv hi hj=>by
    rw[so];exact IW o1 q1 o2 I xn EU i j pv hi hj) off o (J aol)
  obtain⟨N,M⟩:=uq;refine jr.lK (mV B rfl L) hK ?_ M N;show cK _ _ _ _ _ _ _ _;unfold cK;rw[akQ v,alr hid];refine⟨⟨_,_,_,rfl⟩,No _,λ_=>⟨by omega,?_⟩⟩;rw[cG];refine⟨_,grownCap w (sl+m) l e,rfl,Td,λ_=>by simp,_,e,_,heap_alloc_new w.drew _,?_⟩;simp only[amf,wx,WR,o1,q1,so];have:grownCap w (sl+m) l e*inf.size=(sl+m)*inf.size+(grownCap w (sl+m) l e - (sl+m))*inf.size:=by rw[<-akH];congr 1;omega
  rw[akH]at this;omega
theorem Nh (v:fH P T) (hc:Core μ h S w) (W:∀t,da μ h S w (env t) (a.tmps.getD t undef)) (args:Array Operand) (J:Array TypeId) (hp:pop P T (.call ⟨.builtin .append,args,J⟩) env h K):
  jr P ⟨dst,.call ⟨.builtin .append,args,J⟩,ty,pos,after,guard⟩ a μ h S w K:=by
 obtain⟨args⟩:=args;obtain⟨J⟩:=J;simp only[pop]at hp;split at hp
 ·rename_i s x t E;have hs:=dF W s;have c:=dF W x
  have main:∀(e sz bytes:Nat) (zero:List PV) (d:TypeDesc),T.get t=.slice e sz bytes zero->P.underlying E=some d->((∃k,d=.slice k)\/d=.string)->Sr e sz bytes (ev env s) (ev env x) h K->
    jr P ⟨dst,.call ⟨.builtin .append,#[s,x],#[t,E]⟩,ty,pos,after,guard⟩ a μ h S w K:=by
   intro e sz bytes zero d l o hd hp;have G:=(v.slice _ _ _ _ _ l).2.1;cases hp with
   | move hp=>
    unfold PZ at hp;split at hp
    ·rename_i p Ya m b hex;rw[b]at hs;rw[hex]at c;split at hp
     ·rename_i y tB n2 k q hg;obtain⟨rfl,hp⟩:=hp;replace hp:=cO hp;obtain⟨r,z,A⟩:=hp;obtain rfl:=abF r;have u:=gn hg;have L:p<h.length:=(As.1 u).1;have F:=vC (P:=P) hc p y 0 m sz n2 k q u _ c G
      have B:0+m<=n2:=by
       have C:=c.vj;unfold cK at C;rw[u]at C;exact(C.2.2 rfl).1
      obtain⟨H,X⟩:=wk (w1:=w) hc sz 0 e (λ_=>[]) none rfl (dV.refl w) (λi hi=>absurd hi (akG _)) (λi j pv hi=>absurd hi (akG _));have Y:(h++[au.row 0 sz 0 e (λ_=>[])])[h.length]? =some (.row 0 sz 0 e (λ_=>[])):=by simp
      have I:(h++[au.row 0 sz 0 e (λ_=>[])])[p]? =some (.row y sz n2 k q):=by rw[akW L];exact u
      have PY:da (tv μ h.length none) (h++[au.row 0 sz 0 e (λ_=>[])]) S w (.own h.length 0 0 0) (a.eval s):=by
       rw[hs.wh];show cK _ _ w h.length 0 0 0 _;unfold cK;rw[Y,cG];exact⟨⟨_,_,_,rfl⟩,No _,λ_=>⟨No _,rfl⟩⟩
      have M:=da.fr H hc.ok c;have N:=vC (P:=P) X p y 0 m sz n2 k q I _ M G
      have key:=Fu (dst:=dst) (pos:=pos) (after:=after) (guard:=guard) (ty:=ty) (K:=K) v X t E e sz bytes zero d l o hd s x h.length 0 0 0 0 (λ_=>[]) Y PY p aol y n2 k q 0 m I B N (by rw[so];exact z) (by
       have O:(λi=>bif Nat.blt i 0 then([]:List PV)else q (0+(i - 0)))=q:=by funext i;rw[so];rfl
       rw[O,so m];exact A)
      exact jr.aaC H hc.ok key
     ·exact anA
    ·rename_i id gen len p Ya m b hex;rw[b]at hs;rw[hex]at c;split at hp
     ·rename_i g Z n k f hg;split at hp
      ·rename_i y tB n2 e2 q Q;obtain⟨rfl,rfl,hp⟩:=hp;replace hp:=cO hp;obtain⟨r,z,A⟩:=hp;simp only[An,akY]at r;obtain⟨h1,h2,h3,h4⟩:=r;obtain rfl:=abF h1;obtain rfl:=abF h2;obtain rfl:=abF h3;have uX:p≠id:=Nat.ne_of_beq_eq_false h4;have u:=gn Q
       have B:0+m<=n2:=by
        have C:=c.vj;unfold cK at C;rw[u]at C;exact(C.2.2 rfl).1
       have F:=vC (P:=P) hc p y 0 m sz n2 e2 q u _ c G;refine Fu v hc t E e sz bytes zero d l o hd s x id g 0 len n f (gn hg) hs p uX y n2 e2 q 0 m u B F z ?_;have O:(λi=>bif Nat.blt i len then f (0+i)else q (0+(i - len)))=fjn f len q:=by funext i;rw[so,so];rfl
       rw[O];exact A
      ·exact anA
     ·exact anA
    ·exact anA
   | pO hp=>
   unfold AY at hp;split at hp
   ·rename_i b;rw[b]at hs;obtain⟨_,g,⟨z,m,f',rfl,R,A⟩,F,U⟩:=K3 (P:=P) hc _ _ c sz G _ hp;exact jr.rows (PX v hc t E e sz bytes zero d l o hd s x hs.wh m g F U z ⟨_,gv.snoc _ _ _ _ _ _ _ R,A⟩)
   ·rename_i id gen off len b;rw[b]at hs;split at hp
    ·rename_i g Z n k f hg;obtain⟨rfl,hp⟩:=hp;replace hp:=cO hp;obtain⟨r,hp⟩:=hp;simp only[An]at r;obtain rfl:=abF r.1;obtain rfl:=abF r.2;obtain⟨m,q,⟨z,n',f',rfl,R,A⟩,F,V⟩:=K3 (P:=P) hc _ _ c sz G _ hp;exact jr.rows (Sq v hc t E e sz bytes zero d l o hd s x id g off len n f (gn hg) hs m q F V z ⟨_,gv.set _ _ _ _ _ _ _ _ R,A⟩)
    ·exact anA
   ·exact anA
  split at hp
  ·rename_i e sz bytes zero k Z aa ad l D;exact main e sz bytes zero _ l (v.slice _ _ _ _ _ D).1 (.inl ⟨_,rfl⟩) hp
  ·rename_i e sz bytes zero l D;exact main e sz bytes zero _ l (v.str _ D) (.inr rfl) hp
  ·exact anA
 ·exact anA
theorem da.aaF {pv:PV} {v:Value} (a:mh μ h S w pv v):da μ h S w pv v:=by
 cases pv with
 | kc ps=>exact(show False from a).elim
 | _=>exact a
theorem Ss (hc:Core μ h S w) (o:∀t,da μ h S w (env t) (a.tmps.getD t undef)) (i:Operand) (args:Array Operand) (l:Array TypeId) (hp:pop P T (.call ⟨.value i,args,l⟩) env h K):
  jr P ⟨dst,.call ⟨.value i,args,l⟩,ty,pos,after,guard⟩ a μ h S w K:=by
 have m:=dF o i;simp only[pop]at hp;split at hp
 ·rename_i f g;rw[g]at m;replace hp:=cO hp;obtain⟨d,R,⟨⟨fn,c,q,r,s⟩,y⟩,z⟩:=hp;simp only[akA]at d
  have A:=y w (args.map a.eval) μ S hc.heap hc.ok aon (λj pv hj=>by
   rw[akL]at hj;cases b:args.toList[j]? with
   | none=>rw[b]at hj;cases hj
   | some x=>
    rw[b]at hj;injection hj with hj;subst hj;refine⟨a.eval x,by rw[ami];simp only[akR]at b;rw[b];rfl,?_⟩;have hv:=dF o x;have k:=d x (akF b);cases he:ev env x with
    | kc ps=>rw[he]at k;cases k
    | _=>rw[he]at hv;exact hv)
  intro next Q hn
  have B:(execOp a.eval ⟨dst,.call ⟨.value i,args,l⟩,ty,pos,after,guard⟩).run P w=.ok (.enter f (args.map a.eval)) w:=by
   simp only[execOp,resolve,m.WN,Deferred.ofValue,invoke,callFunc,Sem.run_bind,Sem.run_pure,Result.andThen_ok,Array.append_empty,amj];have C:¬fn.name= "runtime.NumGoroutine" :=by simpa using s
   simp [program,Sem.run,Result.andThen,q,C,r]
  unfold Oper.wp;rw[B];show Calls P f (args.map a.eval) w _;refine A.mono λe w' ⟨v,res,h',μ',S',he,D,hv,E,F,G⟩=>?_;subst he;exact hn res v h' μ' S' w' (z res h' D) hv ⟨E,F⟩ G
 ·rename_i f dp g;rw[g]at m;replace hp:=cO hp;obtain⟨d,R,⟨⟨fn,c,q,r,s⟩,y⟩,z⟩:=hp;simp only[akA]at d;obtain⟨vs,H,I,J⟩:=(show uJ μ h w f dp (a.eval i)from m)
  have A:=y w (args.map a.eval++vs) μ S hc.heap hc.ok (by simp [I]) (λj pv hj=>by
   by_cases n:j<args.size
   ·rw[akW (by simpa using n),akL]at hj;cases b:args.toList[j]? with
    | none=>rw[b]at hj;cases hj
    | some x=>
     rw[b]at hj;injection hj with hj;subst hj;refine⟨a.eval x,by rw[alo (by simpa using n),ami];simp only[akR]at b;rw[b];rfl,?_⟩;have hv:=dF o x;have k:=d x (akF b);cases he:ev env x with
     | kc ps=>rw[he]at k;cases k
     | _=>rw[he]at hv;exact hv
   ·rw[akN (by simpa using Nat.le_of_not_lt n),akL]at hj;simp only[alC,als]at hj;cases b:dp[j - args.size]? with
    | none=>rw[b]at hj;cases hj
    | some p=>
     rw[b]at hj;injection hj with hj;subst hj;obtain⟨u,q1,q2⟩:=J _ p b;exact⟨u,by rw[Array.getElem?_append_right (by simpa using Nat.le_of_not_lt n)];simpa using q1,q2⟩)
  intro next Q hn
  have B:(execOp a.eval ⟨dst,.call ⟨.value i,args,l⟩,ty,pos,after,guard⟩).run P w=.ok (.enter f (args.map a.eval++vs)) w:=by
   simp only[execOp,resolve,H,Deferred.ofValue,invoke,callFunc,Sem.run_bind,Sem.run_pure,Result.andThen_ok,amj];have C:¬fn.name= "runtime.NumGoroutine" :=by simpa using s
   simp [program,Sem.run,Result.andThen,q,C,r]
  unfold Oper.wp;rw[B];show Calls P f (args.map a.eval++vs) w _;refine A.mono λe w' ⟨v,res,h',μ',S',he,D,hv,E,F,G⟩=>?_;subst he;exact hn res v h' μ' S' w' (z res h' D) hv ⟨E,F⟩ G
 ·exact anA
theorem DH:∀(z xs d:List PV) (b:Bool),KE z xs d=some b->b=true->∀(j:Nat) (p q:PV),xs[j]? =some p->d[j]? =some q->p=q/\((∃k n,p=.int k n)\/(∃b,p=.bool b)\/∃s,p=.str s)
 | z,xs,d,b,a,f,j,p,q,hp,hq=>by
  subst f;unfold KE at a;split at a
  ·simp at hp
  ·obtain⟨hg,c,hc,e⟩:=dS a;simp only[An]at hg;obtain rfl:=gZ hg.1;obtain rfl:=gZ hg.2;have e:=e.symm;simp only[An,alk]at e;obtain⟨rfl,rfl⟩:=e;cases j with
   | zero=>simp at hp hq;subst hp;subst hq;exact⟨rfl,.inl ⟨_,_,rfl⟩⟩
   | succ j=>exact DH _ _ _ _ hc rfl j p q aoN aoM
  ·obtain⟨hg,c,hc,e⟩:=dS a;have e:=e.symm;simp only[An,alk]at e;obtain⟨rfl,rfl⟩:=e;cases j with
   | zero=>simp at hp hq;subst hp;subst hq;exact⟨rfl,.inr (.inl ⟨_,rfl⟩)⟩
   | succ j=>exact DH _ _ _ _ hc rfl j p q aoN aoM
  ·obtain⟨hg,c,hc,e⟩:=dS a;have e:=e.symm;simp only[An,alk]at e;obtain⟨rfl,rfl⟩:=e;cases j with
   | zero=>simp at hp hq;subst hp;subst hq;exact⟨rfl,.inr (.inr ⟨_,rfl⟩)⟩
   | succ j=>exact DH _ _ _ _ hc rfl j p q aoN aoM
  ·cases a
theorem DI:∀(z xs d:List PV) (b:Bool),KE z xs d=some b->d.length=xs.length
 | z,xs,d,b,a=>by
  unfold KE at a;split at a
  ·rfl
  ·obtain⟨_,c,hc,_⟩:=dS a;simp [DI _ _ _ c hc]
  ·obtain⟨_,c,hc,_⟩:=dS a;simp [DI _ _ _ c hc]
  ·obtain⟨_,c,hc,_⟩:=dS a;simp [DI _ _ _ c hc]
  ·cases a
theorem St (s:List UInt8):((ByteArray.mk ⟨s⟩)==(ByteArray.mk ⟨s⟩))=true:=by
 show((Array.mk s)==(Array.mk s))=true;simp
theorem EK (n:Nat) {p:PV} {u v:Value} (hp:(∃k n,p=.int k n)\/(∃b,p=.bool b)\/∃s,p=.str s) (hu:zi p u) (hv:dA μ h S w p v):Instr.sameBits n u v=true:=by
 rcases hp with⟨k,m,rfl⟩ | ⟨b,rfl⟩ | ⟨s,rfl⟩
 ·have hu:u=_:=hu;have hv:bN S w (.int k m) v:=hv;cases hv;subst hu;cases n<;>simp [Instr.sameBits]
 ·have hu:u=_:=hu;have hv:bN S w (.bool b) v:=hv;cases hv;subst hu;cases n<;>simp [Instr.sameBits]
 ·have hu:u=_:=hu;have hv:bN S w (.str s) v:=hv;cases hv;subst hu;cases n<;>simp [Instr.sameBits,St]
theorem Yb {ti:TI} {kv k:PV} {key d:Value} (f:da μ h S w kv key) (hs:xA k d) (hq:pt ti kv k=some true):Instr.sameBits 10000 d key=true:=by
 unfold pt at hq;split at hq
 ·obtain⟨hg,c,hc,e⟩:=dS hq;simp only[An]at hg;obtain rfl:=gZ hg.1;obtain rfl:=gZ hg.2;have e:=e.symm;simp only[An,alk]at e;obtain⟨rfl,_⟩:=e;exact EK (μ:=μ) (h:=h) (S:=S) (w:=w) 10000 (.inl ⟨_,_,rfl⟩) hs f
 ·have hq:=alb hq;rw[alk]at hq;subst hq;exact EK (μ:=μ) (h:=h) (S:=S) (w:=w) 10000 (.inr (.inr ⟨_,rfl⟩)) hs f
 ·split at hq
  ·rename_i z xs g _ _;obtain⟨m,rfl,n,o⟩:=(show mh μ h S w (.agg xs) key from f);obtain⟨i,rfl,y1,y2⟩:=(show ∃vs:Array Value,d=.agg vs/\vs.size=g.length/\∀(j:Nat) (pv:PV),g[j]? =some pv->∃u:Value,vs[j]? =some u/\zi pv u from hs);have hl:=DI _ _ _ _ hq;rw[show 10000=9999+1 from rfl,Instr.sameBits];rw[An];refine⟨by rw[alk,n,y1,hl],akA.2 (λp hp=>?_)⟩;obtain⟨j,hj,rfl⟩:=alq.1 hp;have q:=hj;rw[List.length_zip,als,als]at q;have a:j<xs.length:=by omega
   have b:j<g.length:=by omega
   obtain⟨r,e2⟩:=DH _ _ _ _ hq rfl j _ _ (Is a) (Is b);obtain⟨u,hu,l⟩:=y2 j _ (Is b);obtain⟨v,hv,s⟩:=o j _ (Is a);rw[<-r]at l;have:=EK 9999 e2 l s;rw[List.getElem_zip];simp only[Array.getElem_toList];have h1:i[j]'aol=u:=by rw[akV aol]at hu;exact alb hu
   have h2:m[j]'aol=v:=by rw[akV aol]at hv;exact alb hv
   rw[h1,h2];exact this
  ·cases hq
 ·cases hq
theorem Yc {w1:World} (hc:Core μ h S w) (id g sz n l:Nat) (e:TypeId) (f m:Nat->List PV) (hh:h[id]? =some (au.row g sz n e f)) (b base:Nat) (es:Array MapEntry) (c:Nat) (Z:μ id=some (b,base))
  (r:w.heap[b]? =some (.map es c)) (P:Array MapEntry) (c1:Nat) (hw:w1.heap[b]? =some (.map P c1)) (G:∀a,a≠b->w1.heap[a]? =w.heap[a]?) (zk:w1.heap.size=w.heap.size) (aa:w1.os=w.os)
  (O4:w1.tape=w.tape) (RM:w1.output=w.output) (hl:∀i,i<l->(m i).length=sz)
  (Q:P.size=l/\∀i,i<l->∃(R T:PV) (en:MapEntry),m i=[R,T]/\oD R=true/\oD T=true/\P[i]? =some en/\xA R en.key/\xA T en.val):
  Fr μ h S w μ (h.set id (.row (g+1) sz l e m)) S w1/\Core μ (h.set id (.row (g+1) sz l e m)) S w1:=by
 have hid:id<h.length:=(As.1 hh).1;have U:(h.set id (au.row (g+1) sz l e m))[id]? =some (au.row (g+1) sz l e m):=by simp [hid]
 have t:∀j,j≠id->(h.set id (au.row (g+1) sz l e m))[j]? =h[j]?:=λj hj=>by rw[akQ (alJ hj)]
 have H:H9 μ h b:=⟨id,g,sz,n,e,f,base,hh,Z⟩;have D2:dX μ h b:=.inl H
 have Cj:∀a,H9 μ (h.set id (au.row (g+1) sz l e m)) a->H9 μ h a:=λa s=>by
  obtain⟨j,u,A,B,C,D,tw,hj,hm⟩:=s;by_cases d:j=id
  ·subst d;exact⟨j,g,sz,n,e,f,tw,hh,hm⟩
  ·rw[t j d]at hj;exact⟨j,u,A,B,C,D,tw,hj,hm⟩
 have V:∀j x y b,fg (h.set id (au.row (g+1) sz l e m)) j x y b->fg h j x y b:=λj x y b ⟨u,A,B,C,D,I,J,K,L,F',q1,q2,q3,q4⟩=>by
  by_cases d:j=id
  ·subst d;rw[U]at q1;injection q1 with q1;injection q1 with W e2 M X N;subst M N;obtain⟨R,T,en,r1,r2,r3,_⟩:=Q.2 x q2;rw[r1]at q3
   match y,q3 with
   | 0,q3=>simp at q3;rw[q3]at r2;cases r2
   | 1,q3=>simp at q3;rw[q3]at r3;cases r3
   | y+2,q3=>simp at q3
  ·rw[t j d]at q1;exact aoe
 have qn:∀a,dX μ (h.set id (au.row (g+1) sz l e m)) a->dX μ h a:=λa s=>by
  rcases s with s | ⟨x,y,z,s⟩
  ·exact .inl (Cj _ s)
  ·exact .inr ⟨x,y,z,V _ _ _ _ s⟩
 have yd:∀j x y a,fg h j x y a->w1.heap[a]? =w.heap[a]?:=λj x y a E=>G a (by
  rintro rfl;exact hc.ok.hv a H j x y E)
 have nq:Fr μ h S w μ (h.set id (.row (g+1) sz l e m)) S w1:=by
  refine⟨by simp,λa _ xH=>G a (λhe=>xH (he▸D2)),λ_ r=>r,λ_ r=>.inl r,λa s=>.inl (qn a s),by omega,aa,O4,RM,λj u A B C D hj=>?_,λj hj=>?_,λa k _ iK=>?_,λj u A B C D a uT hj hm rO=>?_,λa j x y E rO=>let⟨F,c2,q⟩:=rO;⟨F,c2,(yd j x y a E).trans q⟩⟩
  ·by_cases d:j=id
   ·subst d;rw[hh]at hj;injection hj with hj;injection hj with W e2 M X N;subst W e2 M X N;rw[U];exact⟨by omega,λhe=>absurd he aol⟩
   ·rw[t j d,hj];exact aoc
  ·have d:j≠id:=by rintro rfl;rw[hh]at hj;cases hj
   rw[t j d];exact hj
  ·have uX:a≠b:=by
    rintro rfl;exact iK.MD ⟨es,c,r⟩
   exact oE.of_same (G a uX) iK
  ·have hex:∃g' I J K L,(h.set id (au.row (g+1) sz l e m))[j]? =some (au.row g' I J K L):=by
    by_cases d:j=id
    ·subst d;exact⟨_,_,_,_,_,U⟩
    ·exact⟨_,_,_,_,_,(t j d).trans hj⟩
   refine⟨?_,.inr ⟨hex,hm⟩⟩;by_cases Y:a=b
   ·subst Y;exact⟨P,c1,hw⟩
   ·obtain⟨F,c2,q⟩:=rO;exact⟨F,c2,(G a Y).trans q⟩
 refine⟨nq,⟨λj u A B C D hj=>?_,⟨λb r=>hc.ok.apart b (qn b r),λb r=>by rw[zk];exact hc.ok.lt b (qn b r),λb r=>by rw[zk];exact hc.ok.slt b r,?_,hc.ok.Eu nq,λb r x y z E=>hc.ok.hv b (Cj b r) x y z (V _ _ _ _ E),λb _ _ _ _ _ _ E hy=>hc.ok.hh b _ _ _ _ _ _ (V _ _ _ _ E) (V _ _ _ _ hy)⟩⟩⟩
 ·by_cases d:j=id
  ·subst d;rw[U]at hj;injection hj with hj;injection hj with W e2 M X N;subst W e2 M X N;refine⟨hl,?_⟩;rw[Z];exact⟨_,hw,Q⟩
  ·rw[t j d]at hj;obtain⟨h1,h2⟩:=hc.heap j u A B C D hj;refine⟨h1,?_⟩;cases hm:μ j with
   | none=>rw[hm]at h2;exact h2
   | some p=>
    obtain⟨a,uT⟩:=p;rw[hm]at h2;obtain⟨o,q1,q2⟩:=h2
    have Y:a≠b:=by
     rintro rfl;exact d (hc.ok.inj j id _ _ _ _ _ _ _ _ _ _ _ _ _ hj hh hm Z)
    exact⟨o,(G a Y).trans q1,q2.mono (λi y pv v hi hy Q=>Q.fr nq hc.ok (λI J K L F' he b2 lx=>yd j i y b2 ⟨_,_,_,_,_,_,_,_,_,_,hj,hi,he▸hy,lx⟩))⟩
 ·intro i j gi Us ni ei fi u A B C D a o o' hi hj tm rS
  have back:∀k gk O nk ek fk,(h.set id (au.row (g+1) sz l e m))[k]? =some (au.row gk O nk ek fk)->∃g' I J K L,h[k]? =some (au.row g' I J K L):=λk gk O nk ek fk hk=>by
   by_cases Cc:k=id
   ·subst Cc;exact⟨_,_,_,_,_,hh⟩
   ·rw[t k Cc]at hk;exact⟨_,_,_,_,_,hk⟩
  obtain⟨_,_,_,_,_,h1⟩:=back _ _ _ _ _ _ hi;obtain⟨_,_,_,_,_,h2⟩:=back _ _ _ _ _ _ hj;exact hc.ok.inj i j _ _ _ _ _ _ _ _ _ _ _ _ _ h1 h2 tm rS
theorem UX {w1:World} (hc:Core μ h S w) (d:dV w w1) (b:Nat) (A:w.heap.size<=b) (B:b<w1.heap.size):Fr μ h S w μ h (λx=>S x\/x=b) w1/\Core μ h (λx=>S x\/x=b) w1:=by
 have g:Fr μ h S w μ h (λx=>S x\/x=b) w1:=by
  refine⟨No _,λa f _=>d.blocks a f,λ_ hs=>.inl hs,λa f=>?_,λ_ e=>.inl e,d.size,d.os,d.tape,d.output,λj l m n r s hj=>?_,λ_ hd=>hd,λa k e C=>?_,λj l m n r s a D hj hm t=>?_,λa j x y E t=>let⟨u,F,q⟩:=t;⟨u,F,(d.blocks a (hc.ok.lt a (.inr ⟨j,x,y,E⟩))).trans q⟩⟩
  ·rcases f with f | rfl
   ·exact .inl f
   ·exact .inr (.inr A)
  ·rw[hj];exact⟨No _,λ_=>⟨rfl,rfl,rfl,rfl⟩⟩
  ·exact oE.of_same (d.blocks a (hc.ok.lt a e)) C
  ·obtain⟨es,c,q⟩:=t;exact⟨⟨es,c,(d.blocks a (hc.ok.lt a (.inl ⟨_,_,_,_,_,_,_,hj,hm⟩))).trans q⟩,.inr ⟨⟨_,_,_,_,_,hj⟩,hm⟩⟩
 refine⟨g,⟨λj l m n r s hj=>?_,⟨λa e hs=>?_,λa e=>akK (hc.ok.lt a e) d.size,λa hs=>?_,hc.ok.inj,hc.ok.Eu g,hc.ok.hv,hc.ok.hh⟩⟩⟩
 ·obtain⟨h1,h2⟩:=hc.heap j l m n r s hj;refine⟨h1,?_⟩;cases hm:μ j with
  | none=>rw[hm]at h2;exact h2
  | some p=>
   obtain⟨a,D⟩:=p;rw[hm]at h2;obtain⟨o,q1,q2⟩:=h2;exact⟨o,(d.blocks a (hc.ok.lt a (.inl ⟨_,_,_,_,_,_,_,hj,hm⟩))).trans q1,q2.mono (λi y pv v hi hy G=>G.fr g hc.ok (λI J K L M he z H=>d.blocks z (hc.ok.lt z (.inr ⟨j,i,y,_,_,_,_,_,_,_,_,_,_,hj,hi,he▸hy,H⟩))))⟩
 ·rcases hs with hs | rfl
  ·exact hc.ok.apart a e hs
  ·exact absurd (hc.ok.lt a e) aol
 ·rcases hs with hs | rfl
  ·exact akK (hc.ok.slt a hs) d.size
  ·exact B
theorem IY (c:fH P T) (hc:Core μ h S w) (l:∀t,da μ h S w (env t) (a.tmps.getD t undef)) (s d:Nat) (x:Operand) (hp:pop P T (.convert s d x) env h K):jr P ⟨dst,.convert s d x,ty,pos,after,guard⟩ a μ h S w K:=by
 simp only[pop]at hp;split at hp
 ·rename_i e sz u z b hs hd n;split at hp
  ·rename_i he;obtain⟨m,f,o⟩:=hp;have hv:=dF l x;rw[n]at hv;have p:=Lib.run_convert_string_bytes (P:=P) w s d e ⟨⟨b⟩⟩ (c.str _ hs) (c.slice _ _ _ _ _ hd).1 (c.int _ _ he)
   have g:dV w (Lib.bytesWorld w e ⟨⟨b⟩⟩):=by
    have:=Lib.bytesWorld_below w e ⟨⟨b⟩⟩;exact⟨this.block,this.size,this.os,this.tape,this.output⟩
   obtain⟨q,r⟩:=UX hc g w.heap.size (No _) (by rw[Lib.bytesWorld_size];omega);refine jr.lK (val:=.slice (some ⟨w.heap.size,0,none⟩) b.length (grownCap w b.length 0 e)) (eT rfl ?_) o ?_ r q
   ·rw[hv.sT];exact p
   ·show bN _ _ (.jk 1 b.length m) _;refine .jk 1 b.length m w.heap.size 0 _ (λi _=>.int .u8 (b.getD i 0).toNat) (.inr rfl) (λi hi=>by rw[f i hi];rfl) ?_ (λi j pv hi hj=>?_) (λi j pv hi hj=>?_)
    ·have:=grownCap_ge w b.length 0 e;omega
    ·rw[f i hi]at hj
     have k:j=0:=by
      have:=(As.1 hj).1;simpa using this
     subst k;have:=Lib.bytesWorld_cell w e ⟨⟨b⟩⟩ i (by show i<b.length;exact hi);rw[show 0+i*1+0=i by omega];exact this
    ·rw[f i hi]at hj
     have k:j=0:=by
      have:=(As.1 hj).1;simpa using this
     subst k;simp at hj;subst hj;exact .int _ _
  ·exact anA
 ·exact .ye hc (tL c hc.heap l hp)
theorem Kr (f:fH P T) (hc:Core μ h S w) (t:Nat) (hp:pop P T (.makeMap t none) env h K):jr P ⟨dst,.makeMap t none,ty,pos,after,guard⟩ a μ h S w K:=by
 simp only[pop]at hp;split at hp
 ·rename_i kt g zv k;obtain⟨b,c⟩:=hp;obtain⟨d,e⟩:=KJ (w1:=w.alloc (.map #[] 0)) hc 2 0 t b (some (w.heap.size,0)) ⟨No _,_,heap_alloc_new w _,rfl,λi hi=>absurd hi (akG _)⟩ (rP w _) (λi hi=>absurd hi (akG _)) (λi j pv hi=>absurd hi (akG _));refine jr.lK (val:=.map (some w.heap.size)) (eT rfl rfl) c ?_ e d;show jq _ _ _ _ _;unfold jq;rw[akN (No _),alK];exact⟨⟨_,rfl⟩,w.heap.size,0,cG _ _ _,⟨_,_,heap_alloc_new w _⟩,rfl⟩
 ·exact anA
theorem DJ:∀(z xs d:List PV) (b:Bool),KE z xs d=some b->xs.all Aj=true/\xs.all rM=true
 | z,xs,d,b,a=>by
  unfold KE at a;split at a
  ·exact aog
  ·obtain⟨_,c,hc,_⟩:=dS a;obtain⟨h1,h2⟩:=DJ _ _ _ c hc;simp [Aj,rM,h1,h2]
  ·obtain⟨_,c,hc,_⟩:=dS a;obtain⟨h1,h2⟩:=DJ _ _ _ c hc;simp [Aj,rM,h1,h2]
  ·obtain⟨_,c,hc,_⟩:=dS a;obtain⟨h1,h2⟩:=DJ _ _ _ c hc;simp [Aj,rM,h1,h2]
  ·cases a
theorem Ye {ti:TI} {kv a:PV} {q:Bool} (h0:pt ti kv a=some q):oD kv=true/\storable kv=true:=by
 unfold pt at h0;split at h0
 ·exact aog
 ·exact aog
 ·split at h0
  ·exact DJ _ _ _ _ h0
  ·cases h0
 ·cases h0
theorem DK {pv:PV} {v:Value} (hs:Aj pv=true) (hj:rM pv=true) (hv:dA μ h S w pv v):zi pv v:=by
 cases pv with
 | int k n=>have hv:bN S w (.int k n) v:=hv;cases hv;rfl
 | bool b=>have hv:bN S w (.bool b) v:=hv;cases hv;rfl
 | str s=>have hv:bN S w (.str s) v:=hv;cases hv;rfl
 | mj=>cases hj
 | _=>cases hs
theorem TB {pv:PV} {v:Value} (hs:oD pv=true) (hj:storable pv=true) (hv:da μ h S w pv v):xA pv v:=by
 cases pv with
 | agg cs=>
  obtain⟨vs,rfl,h1,h2⟩:=(show mh μ h S w (.agg cs) v from hv);refine⟨vs,rfl,h1,λj pv a=>?_⟩;obtain⟨u,q1,q2⟩:=h2 j pv a;have hm:=akF a;exact⟨u,q1,DK (akA.1 hs pv hm) (akA.1 hj pv hm) q2⟩
 | int k n=>exact DK (μ:=μ) (h:=h) (S:=S) (w:=w) (pv:=.int k n) hs hj hv
 | bool b=>exact DK (μ:=μ) (h:=h) (S:=S) (w:=w) (pv:=.bool b) hs hj hv
 | str s=>exact DK (μ:=μ) (h:=h) (S:=S) (w:=w) (pv:=.str s) hs hj hv
 | mj=>cases hj
 | _=>cases hs
theorem Ni {Ju new:Value} {w':World} (h1:Instr.sameBits 10000 Ju new=true):(Instr.keyThatStays Ju new).run P w'=.ok new w':=by
 simp [Instr.keyThatStays,h1]
theorem UY {w:World} {b:Nat} {o a:Obj} (c:w.heap[b]? =some o):({w with heap:=w.heap.setIfInBounds b a}:World).heap[b]? =some a:=by
 have:=(akw.1 c).1;simp [this]
theorem Su {w:World} {b a:Nat} {c:Obj} (d:a≠b):({w with heap:=w.heap.setIfInBounds b c}:World).heap[a]? =w.heap[a]?:=by
 simp [Array.getElem?_setIfInBounds,alJ d]
theorem Gq (hT:fH P T) (hc:Core μ h S w) (N:∀t,da μ h S w (env t) (a.tmps.getD t undef)) (t:Nat) (m k x:Operand) (hp:pop P T (.mapUpdate t m k x) env h K):
  jr P ⟨dst,.mapUpdate t m k x,ty,pos,after,guard⟩ a μ h S w K:=by
 have hm:=dF N m;have O:=dF N k;have hx:=dF N x;simp only[pop]at hp;split at hp
 ·rename_i kt et zv id kr Q;rw[Q]at hm;split at hp
  ·rename_i g sz n e f KF;replace hp:=cO (dG (dG hp));obtain⟨wZ,R,f',U,hK⟩:=hp;simp only[An]at wZ;obtain⟨⟨⟨KZ,b⟩,V⟩,W⟩:=wZ;obtain rfl:=(abF W);obtain⟨hu,inf,z,rv,hz,oA,ax,Jt⟩:=hT.map _ _ _ _ kr;have hh:=gn KF;obtain⟨u,base,es,c,ky,ex,v,hn,L⟩:=HU hc.heap hh hm.MB;obtain⟨q0,h0⟩:=Option.isSome_iff_exists.1 KZ;obtain⟨d,s,hd,Um,WT⟩:=Ta hT O h0;obtain⟨X,Y⟩:=Ye h0;have C:=TB X Y O;have D:=TB b V hx
   have Dq:∀m,m<=n->KI (T.get kt) f m (ev env k)->∀j,j<m->∀y:MapEntry,es.toList[j]? =some y->Ai P kt d s (a.eval k) y.key false:=λm aV E j hj y hy=>by
    obtain⟨A,F,h1,h2⟩:=E j hj;obtain⟨Z,aa,en,h3,_,_,h4,h5,_⟩:=L j aol;rw[h1]at h3;injection h3 with G e2;subst G;have:y=en:=by rw[akR]at hy;exact alb (hy.symm.trans h4)
    subst this;exact WT A y.key false h5 h2
   have main:∀(B:Array MapEntry) (M:Nat),(Instr.mapUpdate t (.map (some u)) (a.eval k) (a.eval x)).run P w=.ok () {w with heap:=w.heap.setIfInBounds u (.map B M)}->
     (B.size=R/\∀i,i<R->∃(A F:PV) (en:MapEntry),f' i=[A,F]/\oD A=true/\oD F=true/\B[i]? =some en/\xA A en.key/\xA F en.val)->
     jr P ⟨dst,.mapUpdate t m k x,ty,pos,after,guard⟩ a μ h S w K:=by
    intro B M qU hr
    obtain⟨nq,xI⟩:=Yc (w1:={w with heap:=w.heap.setIfInBounds u (.map B M)}) hc id g 2 n R e f f' hh u base es c ky v B M (UY v) (λb' rU=>Su rU) aon rfl rfl rfl
     (λi hi=>by obtain⟨A,F,en,h1,_⟩:=hr.2 i hi;rw[h1];rfl) hr
    refine jr.Tf ?_ hK xI nq;have G:(execOp a.eval ⟨dst,.mapUpdate t m k x,ty,pos,after,guard⟩)=(do Instr.mapUpdate t (a.eval m) (a.eval k) (a.eval x);pure .skip:Sem Next):=rfl;rw[G,ex];simp only[Sem.run_bind,qU,Result.andThen,Sem.run_pure]
   rcases U with⟨H,r,⟨ad,E,ag,ZO,I⟩,l,EF,Qm⟩ | ⟨E,l,EF,Qm⟩
   ·obtain⟨Z,aa,en,h3,h8,h6,h4,h5,h7⟩:=L H ad;rw[ZO]at h3;injection h3 with G e2;injection e2 with e2 _;subst G e2;have H4:=HX (P:=P) (w':=w) hd es.toList H en (Dq H aol E) (by rw[akR];exact h4) (WT ag en.key true h5 I);have ar:=Ni (P:=P) (w':=w) (Yb O h5 I);refine main (es.modify H λe=>{e with key:=a.eval k,val:=a.eval x}) c ?_ ⟨by simp [hn,l],λi hi=>?_⟩
    ·simp [Instr.mapUpdate,run_underlying hu,run_getObj_map w u es c v,Um,H4,h4,ar,MapKept.run_setObj_map _ v]
    ·by_cases J:i=H
     ·subst J;refine⟨_,_,{en with key:=a.eval k,val:=a.eval x},EF,X,b,?_,C,D⟩;rw[Array.getElem?_modify,an rfl,h4];rfl
     ·obtain⟨o,p,q,g1,g2,g3,g4,g5,g6⟩:=L i aol;refine⟨o,p,q,by rw[Qm i aol J,g1],g2,g3,?_,g5,g6⟩;rw[Array.getElem?_modify,mg (alJ J),g4]
   ·have H4:=Dm (P:=P) (w':=w) hd es.toList (λj y hy=>Dq n (No _) E j (by
      have:=(As.1 hy).1;rw[<-hn];simpa using this) y hy)
    refine main (es.push {key:=a.eval k,val:=a.eval x,born:=c}) (c+1) ?_ ⟨by simp [hn,l],λi hi=>?_⟩
    ·simp [Instr.mapUpdate,run_underlying hu,run_getObj_map w u es c v,Um,H4,MapKept.run_setObj_map _ v]
    ·by_cases J:i=n
     ·subst J;refine⟨_,_,{key:=a.eval k,val:=a.eval x,born:=c},EF,X,b,?_,C,D⟩;rw[<-hn];simp
     ·obtain⟨o,p,q,g1,g2,g3,g4,g5,g6⟩:=L i aol;refine⟨o,p,q,by rw[Qm i aol,g1],g2,g3,?_,g5,g6⟩;rw[Array.getElem?_push,mg aol,g4]
  ·exact anA
 ·exact anA
theorem Nj (j:fH P T) (hc:Core μ h S w) (i:∀t,da μ h S w (env t) (a.tmps.getD t undef)) (k:BinOp) (t l:TypeId) (x y:Operand) (hp:pop P T (.binOp k t x y l) env h K):
  jr P ⟨dst,.binOp k t x y l,ty,pos,after,guard⟩ a μ h S w K:=by
 simp only[pop]at hp;split at hp
 ·rename_i e sz s z m n f o p hy;obtain⟨h1,h2⟩:=hp;have rx:=dF i x;have g:=dF i y;rw[p]at rx;rw[hy]at g;have rx:bN S w (.jk m n f) (a.eval x):=rx;have g:bN S w .bn (a.eval y):=g
  have q:a.eval y=.slice none 0 0:=by
   generalize a.eval y=v at g;cases g;rfl
  obtain⟨d,c,ex,hn⟩:∃d c,a.eval x=.slice d n c/\(d=none->n=0):=by
   generalize a.eval x=v at rx;cases rx with
   | uW _ _ d c=>exact⟨d,c,rfl,λ_=>rfl⟩
   | jk _ _ _ b off c u _ _ _ _ _=>exact⟨_,c,rfl,λh0=>by cases h0⟩
  obtain⟨hu,_⟩:=j.slice _ _ _ _ _ o;have hg:eqGuard .eql t x y (a.eval x) (a.eval y)=pure ():=by rw[ex];apply eqGuard_at_slice
  have r:K (.bool d.isNone) h:=by
   cases d with
   | none=>exact h1 (hn rfl)
   | some _=>exact h2
  refine .ye hc (.mk (v:=.bool d.isNone) r (bN.bool _) λw' _=>E8 (S7 hg ?_));rw[ex,q];first | exact Lib.run_eql_slice_nil _ _ _ _ _ _ _ _ hu | exact run_eql_slice_nil _ _ _ _ _ _ hu
 ·exact .ye hc (tL j hc.heap i hp)
theorem K5 (e:fH P T) (hc:Core μ h S w) (f:∀t,da μ h S w (env t) (a.tmps.getD t undef)) {op:Op} (hp:pop P T op env h K):
  jr P ⟨dst,op,ty,pos,after,guard⟩ a μ h S w K:=by
 cases op with
 | store t j x=>exact O8 e hc f t j x hp
 | makeSlice t l c=>exact RN e hc f t l c hp
 | box t x=>exact Uv hc f t x hp
 | alloc t=>exact Pa e hc t hp
 | buildSlice t len parts=>exact Ew e hc f t len parts hp
 | convert s d x=>exact IY e hc f s d x hp
 | binOp n t x y o=>exact Nj e hc f n t o x y hp
 | makeMap t r=>cases r with
  | none=>exact Kr e hc t hp
  | some r=>exact hp.elim
 | mapUpdate t m k x=>exact Gq e hc f t m k x hp
 | call c=>
  obtain⟨g,args,i⟩:=c;cases g with
  | value p=>exact Ss hc f p args i hp
  | invoke r m=>exact .ye hc (tL e hc.heap f hp)
  | builtin b=>cases b with
   | append=>exact Nh e hc f args i hp
   | _=>exact .ye hc (tL e hc.heap f hp)
 | _=>exact .ye hc (tL e hc.heap f hp)
end
section
variable {P:Program}{T:vE}{μ:Mu}{h η:List au}{k:List Nat}{S:Nat->Prop}{w:World}{m:Nat}
theorem zy.get:∀(l r:List PV),zy h η k l r->r.length=l.length/\∀(j:Nat) (pv c:PV),l[j]? =some pv->r[j]? =some c->Fz h η k pv c
 | [],[],_=>⟨rfl,λj pv c hj=>by simp at hj⟩
 | [],_::_,hh=>hh.elim
 | _::_,[],hh=>hh.elim
 | a::l,b::r,hh=>by
  obtain⟨h1,h2⟩:=hh;obtain⟨q1,q2⟩:=zy.get l r h2;refine⟨by simp [q1],λj pv c hj d=>?_⟩;cases j with
  | zero=>
   simp at hj d;subst hj d;exact h1
  | succ j=>exact q2 j pv c aos (by simpa using d)
theorem tP:∀(l:List au) (r:List Nat) (i:Nat),qe h η k m i l r->l.length=r.length/\∀(j:Nat) (o:au),l[j]? =some o->∃id,r[j]? =some id/\AO h η k m o (i+j) id
 | [],[],i,_=>⟨rfl,λj o hj=>by simp at hj⟩
 | [],_::_,_,hh=>hh.elim
 | _::_,[],_,hh=>hh.elim
 | o::l,id::r,i,hh=>by
  obtain⟨h1,h2⟩:=hh;obtain⟨q1,q2⟩:=tP l r (i+1) h2;refine⟨by simp [q1],λj b hj=>?_⟩;cases j with
  | zero=>
   simp at hj;subst hj;exact⟨id,rfl,h1⟩
  | succ j=>
   simp at hj;obtain⟨a,r1,c⟩:=q2 j b hj;exact⟨a,by simpa using r1,by rw[show i+(j+1)=i+1+j from by omega];exact c⟩
def rE (μ:Mu) (h:List au) (k:List Nat):Mu:=λa=>match k[a]? with | some id=>(match h[id]? with | some _=>μ id | none=>none) | none=>none
theorem yT {μ:Mu} {h:List au} {k:List Nat} {id a:Nat} {o:au} (b:k[a]? =some id) (c:h[id]? =some o):rE μ h k a=μ id:=by unfold rE;rw[b];simp only[c]
theorem K6 {μ:Mu} {h:List au} {k:List Nat} {id a:Nat} (b:k[a]? =some id) (c:h[id]? =none):rE μ h k a=none:=by unfold rE;rw[b];simp only[c]
def K7 (μ:Mu) (h:List au) (k:List Nat) (S:Nat->Prop):Nat->Prop:=
 λb=>S b\/∃(id g sz n:Nat) (e:TypeId) (f:Nat->List PV) (base:Nat),id∉k/\h[id]? =some (au.row g sz n e f)/\(μ id=some (b,base)\/∃i j,fg h id i j b)
theorem Yf {S S':Nat->Prop} {w:World} (t:∀b,S b->S' b) {pv:PV} {v:Value} (h:rz S w pv v):∀d,Gi pv d->(∀sz n e f F,pv=.aX sz n e f F->∀b,F b->S' b)->bN S' w d v:=by
 induction h with
 | nil sz e f F p=>
  intro d o _;cases o;exact .uW _ _ _ _
 | P2 sz n e f F b off c a cur u p x hlen hc y G z A H B I C=>
  intro d o m;have m:=m _ _ _ _ _ rfl;cases o with
  | mk _ _ _ _ r _ hl hf g hp=>
   rcases alp n with h0 | h0
   ·subst h0;exact .uW _ _ _ _
   ·obtain rfl:=y aol
    have get:∀(i j:Nat) (d:PV),i<n->(r i)[j]? =some d->∃pv,(f i)[j]? =some pv:=λi j d hi hj=>by
     have D:j<(f i).length:=by rw[<-hl i hi];exact(As.1 hj).1
     exact⟨_,Is D⟩
    refine .jk sz n r b off c u (m b p) (λi hi=>by rw[hl i hi];exact hlen i hi) hc (λi j d hi hj=>?_) (λi j d hi hj=>?_)
    ·obtain⟨pv,k⟩:=get i j d hi hj;rw[cell_of_row w b _ cur e (0,0) x,<-z i j pv hi k]
    ·obtain⟨pv,k⟩:=get i j d hi hj;cases l:fI pv with
     | false=>
      rw[hf i j pv d hi k hj l];rcases A i j pv hi k with q | ⟨_,_,_,_,_,q⟩
      ·exact q.mono (λ_ _=>rfl) t
      ·rw[q]at l;cases l
     | true=>
      have g:=g i j pv d hi k hj l;cases pv with
      | aX tB n2 e2 f2 F2=>exact C i j tB n2 e2 f2 F2 hi k d g (λ_ _ _ _ _ he s E=>by
        injection he with _ _ _ _ he;subst he;exact m s (B i j _ _ _ _ _ hi k s E).1)
      | _=>cases l
theorem EL {μ':Mu} {h':List au} {S':Nat->Prop} {pv:PV} {v:Value} (hp:cr pv=true) (hc:dA μ' h' S' w pv v):bN S' w pv v:=by
 cases pv<;>first | exact hc | cases hp
theorem AF (hc:Core μ h S w) (hh:qe h η k m 0 η k) {pv l:PV} (Z:Fz h η k pv l):
  (∀v,dA μ h S w pv v->dA (rE μ h k) η (K7 μ h k S) w l v)/\(∀v,mh μ h S w pv v->mh (rE μ h k) η (K7 μ h k S) w l v)/\(∀v,da μ h S w pv v->da (rE μ h k) η (K7 μ h k S) w l v):=by
 have up:∀pv v,bN S w pv v->bN (K7 μ h k S) w pv v:=λpv v hp=>bN.mono (λ_ _=>rfl) (λb K=>.inl K) hp
 have same:∀pv:PV,(∀v,dA μ h S w pv v->bN S w pv v)->(∀v,mh μ h S w pv v->dA μ h S w pv v)->(∀v,da μ h S w pv v->mh μ h S w pv v)->∀l:PV,(∀v,bN S w pv v->bN (K7 μ h k S) w l v)->
   (∀v,dA μ h S w pv v->dA (rE μ h k) η (K7 μ h k S) w l v)/\(∀v,mh μ h S w pv v->dA (rE μ h k) η (K7 μ h k S) w l v)/\(∀v,da μ h S w pv v->dA (rE μ h k) η (K7 μ h k S) w l v):=
  λpv h1 h2 h3 l hp=>⟨λv hv=>dA.pP (hp v (h1 v hv)),λv hv=>dA.pP (hp v (h1 v (h2 v hv))),λv hv=>dA.pP (hp v (h1 v (h2 v (h3 v hv))))⟩
 induction Z with
 | int k' n=>exact same (.int k' n) (λ_ h=>h) (λ_ h=>h) (λ_ h=>h) _ (up _)
 | bool b=>exact same (.bool b) (λ_ h=>h) (λ_ h=>h) (λ_ h=>h) _ (up _)
 | str s=>exact same (.str s) (λ_ h=>h) (λ_ h=>h) (λ_ h=>h) _ (up _)
 | bn=>exact same .bn (λ_ h=>h) (λ_ h=>h) (λ_ h=>h) _ (up _)
 | lJ=>exact same .lJ (λ_ h=>h) (λ_ h=>h) (λ_ h=>h) _ (up _)
 | abl sz f=>exact same .bn (λ_ h=>h) (λ_ h=>h) (λ_ h=>h) (.jk sz 0 f) (λv hv=>by cases hv;exact .uW _ _ _ _)
 | agn id d y G H t q o hη=>
  have key:∀v,v=Value.slice none 0 0->cK (rE μ h k) η w d y 0 0 v:=λv hv=>by
   unfold cK;rw[hη];refine⟨⟨_,_,_,hv⟩,No _,λ_=>⟨No _,?_⟩⟩;rw[K6 q o];exact hv
  have inv:∀v,bN S w .bn v->v=Value.slice none 0 0:=λv hv=>by cases hv;rfl
  exact⟨λv hv=>key v (inv v hv),λv hv=>key v (inv v hv),λv hv=>key v (inv v hv)⟩
 | fn f=>exact same (.fn f) (λ_ h=>h) (λ_ h=>h) (λ_ h=>h) _ (up _)
 | iV cs=>exact same (.iV cs) (λ_ h=>h) (λ_ h=>h) (λ_ h=>h) _ (up _)
 | jk sz n f t hf=>
  exact same (.jk sz n f) (λ_ h=>h) (λ_ h=>h) (λ_ h=>h) (.jk sz n t) (λv hv=>by
   have hv:=up _ _ hv;cases hv with
   | uW _ _ a c=>exact .uW _ _ _ _
   | jk _ _ _ b off c vf h1 h2 h3 h4 h5=>
    exact .jk sz n t b off c vf h1 (λi hi=>by rw[hf i hi];exact h2 i hi) h3 (λi j pv hi hj=>h4 i j pv hi aoU) (λi j pv hi hj=>h5 i j pv hi aoU))
 | mj pv=>exact⟨λv hv=>hv.one,λ_ _=>trivial,λ_ _=>trivial⟩
 | aX sz n e f F=>exact⟨λv hv=>hv,λv hv=>hv,λv hv=>hv⟩
 | tn sz e f=>exact⟨λv hv=>dA.one hv,λv hv=>dA.one (pv:=.bn) (μ:=μ) (h:=h) hv,λv hv=>dA.one (pv:=.bn) (μ:=μ) (h:=h) hv⟩
 | own id d g y sz G n L off len e H f t q o hη hn=>
  have key:∀v,cK μ h w id g off len v->cK (rE μ h k) η w d y off len v:=λv hv=>by
   unfold cK at hv ⊢;rw[o]at hv;rw[hη];obtain⟨h1,_,B⟩:=hv;have M:=B rfl;clear B;obtain⟨h2,h3⟩:=M;obtain⟨_,gg⟩:=tP η k 0 hh;obtain⟨U,r1,r⟩:=gg d _ hη;rw[q]at r1;injection r1 with r1;subst r1;unfold AO at r;rw[o]at r;obtain⟨_,rfl,_,_⟩:=r;refine⟨h1,No _,λ_=>⟨hn,?_⟩⟩;have hm:rE μ h k d=μ id:=yT q o;rw[hm];exact h3
  exact⟨key,key,key⟩
 | bc id d g y sz G n L i off e H f t q o hη hn=>
  have key:∀v,dE μ h w id g i off v->dE (rE μ h k) η w d y i off v:=λv hv=>by
   unfold dE at hv ⊢;rw[o]at hv;rw[hη];obtain⟨h1,_,B⟩:=hv;have M:=B rfl;clear B;obtain⟨h2,h3⟩:=M;obtain⟨_,gg⟩:=tP η k 0 hh;obtain⟨U,r1,r⟩:=gg d _ hη;rw[q]at r1;injection r1 with r1;subst r1;unfold AO at r;rw[o]at r;obtain⟨_,rfl,_,rfl,_⟩:=r;refine⟨h1,No _,λ_=>⟨hn,?_⟩⟩;have hm:rE μ h k d=μ id:=yT q o;rw[hm];exact h3
  exact⟨key,key,key⟩
 | vg f dp Ds hl z=>
  have key:∀v,uJ μ h w f dp v->uJ (rE μ h k) η w f Ds v:=λv hv=>by
   obtain⟨vs,h1,h2,h3⟩:=hv;refine⟨vs,h1,h2.trans hl.symm,λj V hj=>?_⟩;have W:j<dp.length:=by rw[<-hl];exact(As.1 hj).1
   obtain⟨q,⟨sz,n,e,g,o⟩,G,L,H,y,hη,hn⟩:=z j _ V (Is W) hj;obtain⟨u,q1,q2⟩:=h3 j _ (Is W);refine⟨u,q1,?_⟩;unfold dE at q2 ⊢;rw[o]at q2;rw[hη];obtain⟨N,_,I⟩:=q2;have O:=I rfl;clear I;obtain⟨X,a5⟩:=O;obtain⟨_,gg⟩:=tP η k 0 hh;obtain⟨U,r1,r⟩:=gg V.1 _ hη;rw[q]at r1;injection r1 with r1;subst r1;unfold AO at r;rw[o]at r;obtain⟨_,rfl,_,rfl,_⟩:=r;refine⟨N,No _,λ_=>⟨hn,?_⟩⟩;rw[yT q o];exact a5
  exact⟨key,key,key⟩
 | pZ id d g y sz G n L e H f t q o hη=>
  have key:∀v,jq μ h w id v->jq (rE μ h k) η w d v:=λv hv=>by
   unfold jq at hv ⊢;rw[o]at hv;rw[hη];obtain⟨h1,b,base,q1,q2,q3⟩:=hv;exact⟨h1,b,base,(yT q o).trans q1,q2,q3⟩
  exact⟨key,key,key⟩
 | frz id g sz n off len e f t q o hl hp hf C=>
  have key:∀v,cK μ h w id g off len v->dA (rE μ h k) η (K7 μ h k S) w (.jk sz len t) v:=λv hv=>by
   refine dA.pP ?_;unfold cK at hv;rw[o]at hv;obtain⟨_,_,hv⟩:=hv;obtain⟨hle,hv⟩:=hv rfl;obtain⟨P,J⟩:=hc.heap id g sz n e f o;cases Q:μ id with
   | none=>
    rw[Q]at hv J;have hn:n=0:=J;have h0:len=0:=by omega
    subst h0;have hv:v=.slice none 0 0:=hv;subst hv;exact .uW _ _ _ _
   | some p=>
    obtain⟨b,base⟩:=p;rw[Q]at hv J;obtain⟨ad,cap,rfl,Ze,R,RH⟩:=hv;obtain⟨cur,sZ,Be,qm⟩:=dT.cells RH J;rcases alp len with h0 | h0
    ·subst h0;exact .uW _ _ _ _
    ·have R:=R aol;subst R
     have D:∀(i j:Nat) (l:PV),i<len->(t i)[j]? =some l->∃u,w.cell? ⟨b,base+off*sz+i*sz+j,none⟩=some u/\bN (K7 μ h k S) w l u:=λi j l hi hj=>by
      have E:j<(f (off+i)).length:=by rw[<-hl i hi];exact(As.1 hj).1
      have x:=Is E;obtain⟨u,h1,h2⟩:=qm (off+i) j _ aol x
      have h3:bN (K7 μ h k S) w l u:=by
       by_cases A:Gi (f (off+i))[j] l
       ·generalize aa:(f (off+i))[j]=pv at A h2 x;cases A with
        | mk tB n2 e2 f2 T F2 N I O X=>
         exact Yf (λb K=>.inl K) (show rz S w (.aX tB n2 e2 f2 F2) u from h2) _ (.mk tB n2 e2 f2 T F2 N I O X) (λ_ _ _ _ _ he b' rU=>by
          injection he with _ _ _ _ he;subst he;exact .inr ⟨id,g,sz,n,e,f,base,q,o,.inr ⟨off+i,j,_,_,_,_,_,_,_,_,_,_,o,by omega,x,rU⟩⟩)
       ·exact EL (hp i j l hi hj) ((C i j _ l hi x hj A).1 u h2.c)
      refine⟨u,?_,h3⟩;rw[cell_of_row w b _ cur e (0,0) sZ,<-h1];congr 1;rw[akH];omega
     refine .jk sz len t b (base+off*sz) cap (λi j=>(w.cell? ⟨b,base+off*sz+i*sz+j,none⟩).getD undef) (.inr ⟨id,g,sz,n,e,f,base,q,o,.inl Q⟩) (λi hi=>by rw[hl i hi];exact P _ aol) Ze (λi j pv hi hj=>?_) (λi j pv hi hj=>?_)
     ·obtain⟨u,h1,_⟩:=D i j pv hi hj;rw[h1];rfl
     ·obtain⟨u,h1,h2⟩:=D i j pv hi hj;simp only[h1,amB];exact h2
  exact⟨key,key,key⟩
 | agg cs Y hl z C=>
  have key:∀v,mh μ h S w (.agg cs) v->mh (rE μ h k) η (K7 μ h k S) w (.agg Y) v:=λv hv=>by
   obtain⟨vs,h1,h2,h3⟩:=hv;refine⟨vs,h1,h2.trans hl.symm,λj l hj=>?_⟩;have E:j<cs.length:=by rw[<-hl];exact(As.1 hj).1
   have x:=Is E;obtain⟨u,q1,q2⟩:=h3 j _ x;exact⟨u,q1,(C j _ l x hj).1 u q2⟩
  exact⟨λ_ hv=>(show False from hv).elim,key,key⟩
 | kc cs Y hl z C=>
  refine⟨λ_ hv=>(show False from hv).elim,λ_ hv=>(show False from hv).elim,λv hv=>?_⟩;obtain⟨vs,h1,h2,h3⟩:=hv;refine⟨vs,h1,h2.trans hl.symm,λj l hj=>?_⟩;have E:j<cs.length:=by rw[<-hl];exact(As.1 hj).1
  have x:=Is E;obtain⟨u,q1,q2⟩:=h3 j _ x;exact⟨u,q1,(C j _ l x hj).2.1 u q2⟩
end
section
variable {P:Program}{T:vE}{μ:Mu}{h η:List au}{k:List Nat}{S:Nat->Prop}{w:World}{m:Nat}
theorem Yg {a c:PV} (e:Fz h η k a c) (d:Aj a=true):Aj c=true/\∀v,zi a v->zi c v:=by
 cases e with
 | int f n=>exact⟨rfl,λ_ h=>h⟩
 | bool b=>exact⟨rfl,λ_ h=>h⟩
 | str s=>exact⟨rfl,λ_ h=>h⟩
 | mj _=>exact⟨rfl,λv h=>by
   cases a<;>first | (cases d;done) | (have h:v=_:=h;subst h;rfl) | exact h⟩
 | _=>cases d
theorem TC {a d:PV} (g:Fz h η k a d) (e:oD a=true):oD d=true/\∀v,xA a v->xA d v:=by
 cases g with
 | int p n=>exact⟨rfl,λ_ h=>h⟩
 | bool b=>exact⟨rfl,λ_ h=>h⟩
 | str s=>exact⟨rfl,λ_ h=>h⟩
 | mj _=>exact⟨rfl,λ_ _=>trivial⟩
 | agg cs i hl hc=>
  have el:∀j c,i[j]? =some c->∃pv,cs[j]? =some pv/\Aj c=true/\∀v,zi pv v->zi c v:=λj c hj=>by
   have f:j<cs.length:=by rw[<-hl];exact(As.1 hj).1
   have h1:=Is f;have h2:=Yg (hc j _ _ h1 hj) (akA.1 e _ (akx f));exact⟨_,h1,h2⟩
  refine⟨akA.2 (λx l=>?_),λv hv=>?_⟩
  ·obtain⟨j,hj,rfl⟩:=alq.1 l;obtain⟨_,_,h2,_⟩:=el j _ (Is hj);exact h2
  ·obtain⟨vs,q1,q2,q3⟩:=hv;refine⟨vs,q1,q2.trans hl.symm,λj c hj=>?_⟩;obtain⟨pv,m,_,e2⟩:=el j c hj;obtain⟨u,hu,o⟩:=q3 j pv m;exact⟨u,hu,e2 u o⟩
 | _=>cases e
theorem IZ:∀{l:List Nat} {x i:Nat},l[i]? =some x->UZ l x=true
 | [],x,i,h=>by simp at h
 | a::r,x,0,h=>by
  simp at h;subst h;unfold UZ;rw[show Nat.beq a a=true from alV a]
 | a::r,x,i+1,h=>by
  unfold UZ;cases Nat.beq a x
  ·exact IZ aow
  ·rfl
theorem AZ:∀{η:List au} {k:List Nat} {i id g sz n:Nat} {e:TypeId} {f:Nat->List PV},η[i]? =some (au.row g sz n e f)->k[i]? =some id->∃j:Nat,(uu η k)[j]? =some id
 | [],_,i,_,_,_,_,_,_,h,_=>by simp at h
 | _::_,[],i,_,_,_,_,_,_,_,h=>by simp at h
 | .row _ _ _ _ _::r,a::is,0,id,_,_,_,_,_,_,h=>by simp at h;subst h;exact⟨0,rfl⟩
 | .dead::r,a::is,0,id,_,_,_,_,_,h,_=>by simp at h
 | .row _ _ _ _ _::r,a::is,i+1,id,_,_,_,_,_,h1,h2=>by
  obtain⟨j,hj⟩:=AZ (i:=i) aoO aoG;exact⟨j+1,by simpa[uu]using hj⟩
 | .dead::r,a::is,i+1,id,_,_,_,_,_,h1,h2=>by
  obtain⟨j,hj⟩:=AZ (i:=i) aoO aoG;exact⟨j,by simpa[uu]using hj⟩
theorem A0:∀{η:List au} {k:List Nat} {i j id g sz n b c d:Nat} {e l:TypeId} {f m:Nat->List PV},uO (uu η k)=true->η[i]? =some (au.row g sz n e f)->k[i]? =some id->η[j]? =some (au.row b c d l m)->k[j]? =some id->i=j
 | [],_,i,_,_,_,_,_,_,_,_,_,_,_,_,_,h,_,_,_=>by simp at h
 | _::_,[],i,_,_,_,_,_,_,_,_,_,_,_,_,_,_,h,_,_=>by simp at h
 | .row _ _ _ _ _::r,a::is,0,0,_,_,_,_,_,_,_,_,_,_,_,_,_,_,_,_=>rfl
 | .row _ _ _ _ _::r,a::is,0,j+1,id,_,_,_,_,_,_,_,_,_,_,hn,_,h2,h3,h4=>by
  simp at h2;subst h2;obtain⟨q,hq⟩:=AZ (η:=r) (k:=is) (i:=j) (by simpa using h3) (by simpa using h4);unfold uu uO at hn;rw[IZ hq]at hn;cases hn
 | .row _ _ _ _ _::r,a::is,i+1,0,id,_,_,_,_,_,_,_,_,_,_,hn,h1,h2,_,h4=>by
  simp at h4;subst h4;obtain⟨q,hq⟩:=AZ (η:=r) (k:=is) (i:=i) aoO aoG;unfold uu uO at hn;rw[IZ hq]at hn;cases hn
 | .row _ _ _ _ _::r,a::is,i+1,j+1,id,_,_,_,_,_,_,_,_,_,_,hn,h1,h2,h3,h4=>by
  unfold uu uO at hn;cases hm:UZ (uu r is) a with
  | true=>rw[hm]at hn;cases hn
  | false=>
   rw[hm]at hn;rw[A0 (η:=r) (k:=is) (i:=i) (j:=j) hn aoO aoG (by simpa using h3) (by simpa using h4)]
 | .dead::r,a::is,0,_,_,_,_,_,_,_,_,_,_,_,_,_,h,_,_,_=>by simp at h
 | .dead::r,a::is,_+1,0,_,_,_,_,_,_,_,_,_,_,_,_,_,_,h,_=>by simp at h
 | .dead::r,a::is,i+1,j+1,id,_,_,_,_,_,_,_,_,_,_,hn,h1,h2,h3,h4=>by
  rw[A0 (η:=r) (k:=is) (i:=i) (j:=j) hn aoO aoG (by simpa using h3) (by simpa using h4)]
theorem DL (hc:Core μ h S w) (hh:qe h η k m 0 η k) (hk:uO (uu η k)=true):Core (rE μ h k) η (K7 μ h k S) w/\(∀b,dX (rE μ h k) η b->dX μ h b)/\∀b,K7 μ h k S b->S b\/dX μ h b:=by
 obtain⟨hlen,gg⟩:=tP η k 0 hh
 have back:∀(a A s r:Nat) (t:TypeId) (v:Nat->List PV),η[a]? =some (au.row A s r t v)->(r=0/\rE μ h k a=none)\/∃(id g:Nat) (f:Nat->List PV),k[a]? =some id/\(∃n,h[id]? =some (au.row g s n t f)/\r<=n/\(r=n\/s≠2))/\rE μ h k a=μ id/\
   ∀i,i<r->(v i).length=(f i).length/\∀(j:Nat) (pv D:PV),(f i)[j]? =some pv->(v i)[j]? =some D->Fz h η k pv D:=λa A s r t v hη=>by
  obtain⟨id,r1,l⟩:=gg a _ hη;unfold AO at l;cases E:h[id]? with
  | none=>rw[E]at l;exact .inl ⟨l.2,K6 r1 E⟩
  | some o=>
   cases o with
   | dead=>rw[E]at l;exact l.elim
   | row g sz n e f=>
    rw[E]at l;obtain⟨_,rfl,V,rfl,G⟩:=l;refine .inr ⟨id,g,f,r1,⟨n,E,?_⟩,yT r1 E,λi hi=>zy.get _ _ (G i hi)⟩;rcases V with rfl | ⟨_,r5,r6⟩
    ·exact⟨No _,.inl rfl⟩
    ·exact⟨r6,.inr r5⟩
 have W:∀b,H9 (rE μ h k) η b->∃id,id∈k/\∃g sz n e f base,h[id]? =some (au.row g sz n e f)/\μ id=some (b,base):=λb d=>by
  obtain⟨a,A,s,r,t,v,base,hη,hm⟩:=d;rcases back a A s r t v hη with⟨_,q3⟩ | ⟨id,g,f,q1,⟨n,q2,_⟩,q3,_⟩
  ·rw[q3]at hm;cases hm
  ·rw[q3]at hm;exact⟨id,akF q1,g,s,n,t,f,base,q2,hm⟩
 have J:∀{pv:PV} {sz n:Nat} {e:TypeId} {f:Nat->List PV} {F:Nat->Prop},Fz h η k pv (.aX sz n e f F)->pv=.aX sz n e f F\/(pv=.bn/\n=0/\∀b,¬F b):=λR=>by
  cases R with
  | aX=>exact .inl rfl
  | tn=>exact .inr ⟨rfl,rfl,λ_ h=>h⟩
 have K:∀a i j b,fg η a i j b->∃id,k[a]? =some id/\fg h id i j b/\∃g sz n e f,η[a]? =some (au.row g sz n e f):=λa i j b ⟨A,s,r,t,v,tB,n2,e2,f2,F2,q1,q2,q3,q4⟩=>by
  rcases back a A s r t v q1 with⟨r1,_⟩ | ⟨id,g,f,r1,⟨n,l,hle,_⟩,G,V⟩
  ·omega
  ·obtain⟨X,L⟩:=V i q2;have Y:j<(f i).length:=by rw[<-X];exact(As.1 q3).1
   have M:=Is Y;rcases J (L j _ _ M q3)with this | ⟨_,_,this⟩
   ·exact⟨id,r1,⟨g,s,n,t,f,_,_,_,_,_,l,by omega,by rw[M,this],q4⟩,_,_,_,_,_,q1⟩
   ·exact absurd q4 (this b)
 have Z:∀b,dX (rE μ h k) η b->dX μ h b:=λb d=>by
  rcases d with d | ⟨x,y,z,d⟩
  ·obtain⟨id,_,g,sz,n,e,f,base,q2,hm⟩:=W b d;exact .inl ⟨id,g,sz,n,e,f,base,q2,hm⟩
  ·obtain⟨id,_,q,_⟩:=K x y z b d;exact aok
 have hs:∀b,K7 μ h k S b->S b\/dX μ h b:=λb d=>by
  rcases d with d | ⟨id,g,sz,n,e,f,base,_,h1,h2 | ⟨i,j,h2⟩⟩
  ·exact .inl d
  ·exact .inr (.inl ⟨id,g,sz,n,e,f,base,h1,h2⟩)
  ·exact .inr (.inr ⟨_,_,_,h2⟩)
 refine⟨⟨λa A s r t v hη=>?_,?_⟩,Z,hs⟩
 ·rcases back a A s r t v hη with⟨rfl,q3⟩ | ⟨id,g,f,q1,⟨n,q2,hle,aa⟩,q3,q4⟩
  ·exact⟨λi hi=>absurd hi (akG _),by rw[q3]⟩
  obtain⟨r1,l⟩:=hc.heap id g s n t f q2;refine⟨λi hi=>(q4 i hi).1.trans (r1 i (akK hi hle)),?_⟩;rw[q3];cases hm:μ id with
  | none=>rw[hm]at l;have l:n=0:=l;show r=0;omega
  | some p=>
   obtain⟨b,base⟩:=p;rw[hm]at l;obtain⟨o,X,L⟩:=l;refine⟨o,X,?_⟩;cases o with
   | cells cur e2 z=>
    obtain⟨x1,x2,x3,T⟩:=L;refine⟨x1,x2,alg (Nat.add_le_add_left (akJ _ hle) _) x3,λi j D hi hj=>?_⟩;have Y:j<(f i).length:=by rw[<-(q4 i hi).1];exact(As.1 hj).1
    have M:=Is Y;obtain⟨u,t1,t2⟩:=T i j _ (akK hi hle) M;have R:=(q4 i hi).2 j _ D M hj;refine⟨u,t1,?_⟩;cases H:fI D with
    | false=>exact dA.k ((AF hc hh R).1 u t2.c) H
    | true=>
     cases D with
     | aX tB n2 e2 f2 F2=>
      rcases J R with hq | ⟨hq,rfl,hF⟩
      ·rw[hq]at t2;exact rz.mono (λ_ _=>rfl) (λb d=>.inl d) (show rz S w (.aX tB n2 e2 f2 F2) u from t2) (λ_ _ _ _ _ _ _ _=>rfl)
      ·rw[hq]at t2;have t2:bN S w .bn u:=t2;cases t2;exact rz.nil _ _ _ _ hF
     | _=>cases H
   | map es c=>
    obtain⟨x1,T⟩:=L
    have hn:r=n:=by
     rcases aa with h0 | h0
     ·exact h0
     ·rcases alp n with h1 | h1
      ·omega
      ·obtain⟨kp,vp,en,y1,_⟩:=T 0 h1;have:=r1 0 h1;rw[y1]at this;exact absurd this.symm h0
    subst hn;refine⟨x1,λi hi=>?_⟩;obtain⟨kp,vp,en,y1,y2,y3,y4,y5,y6⟩:=T i hi;obtain⟨z1,U⟩:=q4 i hi;rw[y1]at z1 U;generalize ND:v i=l' at z1 U ⊢;rcases l' with _ | ⟨N,_ | ⟨O,_ | ⟨c3,l3⟩⟩⟩<;>simp at z1;have w1:=TC (U 0 kp N rfl rfl) y2;have w2:=TC (U 1 vp O rfl rfl) y3;exact⟨N,O,en,rfl,w1.1,w2.1,y4,w1.2 _ y5,w2.2 _ y6⟩
   | _=>exact L.elim
 ·refine⟨λb d B=>?_,λb d=>hc.ok.lt b (Z b d),λb d=>?_,?_,hc.ok.known.pO (λ_ _=>rfl) (λ_ d=>.inl d),λb d x y z H=>?_,λb i x y j x' y' H zw=>?_⟩;rotate_right 2
  ·obtain⟨id,_,g,sz,n,e,f,base,q2,hm⟩:=W b d;obtain⟨I,_,q,_⟩:=K x y z b H;exact hc.ok.hv b ⟨id,g,sz,n,e,f,base,q2,hm⟩ _ _ _ q
  ·obtain⟨P,k1,q1,_,_,_,_,_,r1⟩:=K i x y b H;obtain⟨I,k2,q2,_,_,_,_,_,l⟩:=K j x' y' b zw;obtain⟨e1,e2,e3⟩:=hc.ok.hh b _ _ _ _ _ _ q1 q2;subst e1;exact⟨A0 hk r1 k1 l k2,e2,e3⟩
  ·rcases B with B | ⟨I,g2,tB,n2,e2,f2,ad,Q,h1,h2⟩
   ·exact hc.ok.apart b (Z b d) B
   ·rcases d with d | ⟨x,y,z,d⟩
    ·obtain⟨id,C,g,sz,n,e,f,base,q2,hm⟩:=W b d;rcases h2 with h2 | ⟨i,j,h2⟩
     ·have:=hc.ok.inj id I _ _ _ _ _ _ _ _ _ _ _ _ _ q2 h1 hm h2;subst this;exact Q C
     ·exact hc.ok.hv b ⟨id,g,sz,n,e,f,base,q2,hm⟩ _ _ _ h2
    ·obtain⟨id,C,q,_⟩:=K x y z b d;rcases h2 with h2 | ⟨i,j,h2⟩
     ·exact hc.ok.hv b ⟨I,g2,tB,n2,e2,f2,ad,h1,h2⟩ _ _ _ q
     ·obtain⟨e1,_,_⟩:=hc.ok.hh b _ _ _ _ _ _ q h2;subst e1;exact Q (akF C)
  ·rcases hs b d with h1 | h1
   ·exact hc.ok.slt b h1
   ·exact hc.ok.lt b h1
  ·intro i j gi Us ni ei fi gj pN nj ej fj b o o' hi hj tm rS;rcases back i gi Us ni ei fi hi with⟨_,q3⟩ | ⟨P,g1,f1,q1,⟨ag,q2,_⟩,q3,_⟩
   ·rw[q3]at tm;cases tm
   rcases back j gj pN nj ej fj hj with⟨_,G⟩ | ⟨I,g2,f2,r1,⟨ar,l,_⟩,G,_⟩
   ·rw[G]at rS;cases rS
   rw[q3]at tm;rw[G]at rS;have:=hc.ok.inj P I _ _ _ _ _ _ _ _ _ _ _ _ _ q2 l tm rS;subst this;exact A0 hk hi q1 hj r1
structure Start where
 μ:Mu
 h:List au
 S:Nat->Prop
 w:World
 nt:Nat
theorem abC {C:Start} (hc:Core μ h S w) (hf:Fr C.μ C.h C.S C.w μ h S w) (hh:qe h η k C.h.length 0 η k) (E:uO (uu η k)=true) (hm:C.h.length<=k.length):
  Fr C.μ C.h C.S C.w (rE μ h k) η (K7 μ h k S) w:=by
 obtain⟨hlen,gg⟩:=tP η k 0 hh;obtain⟨_,F,hs⟩:=DL hc hh E
 have idx:∀id,id<C.h.length->∃o a,η[id]? =some o/\k[id]? =some a/\AO h η k C.h.length o id a:=λid hid=>by
  have x:id<η.length:=by omega
  obtain⟨a,r1,d⟩:=gg id _ (Is x);rw[so]at d;exact⟨_,a,Is x,r1,d⟩
 refine⟨by omega,hf.blocks,λb i=>.inl (hf.sub b i),λb i=>?_,λb i=>hf.own b (F b i),hf.size,hf.os,hf.tape,hf.output,λid l m p q r h0=>?_,λid h0=>?_,hf.dp,λid l m p q r b base h0 s G=>?_,hf.Bs⟩;rotate_right
 ·have hid:id<C.h.length:=(As.1 h0).1;obtain⟨o,a,q1,q2,q3⟩:=idx id hid;obtain⟨r1,d⟩:=hf.maps id l m p q r b base h0 s G;refine⟨r1,?_⟩;rw[q1];unfold AO at q3;cases o with
  | dead=>exact .inl rfl
  | row y z A B D=>
   cases c:h[a]? with
   | none=>rw[c]at q3;exact absurd q3.1 aol
   | some j=>
    cases j with
    | dead=>rw[c]at q3;exact q3.elim
    | row g sz n e f=>
     rw[c]at q3;obtain⟨t,rfl,u,rfl,_⟩:=q3;obtain⟨rfl,rfl⟩:=t hid;obtain rfl:=u.resolve_right (λv=>absurd v.1 aol);rw[c]at d;rcases d with d | ⟨_,H⟩
     ·cases d
     ·exact .inr ⟨⟨_,_,_,_,_,rfl⟩,(yT q2 c).trans H⟩
 ·rcases hs b i with h1 | h1
  ·exact hf.new b h1
  ·rcases hf.own b h1 with h2 | h2
   ·exact .inr (.inl h2)
   ·exact .inr (.inr h2)
 ·have hid:id<C.h.length:=(As.1 h0).1;obtain⟨o,a,q1,q2,q3⟩:=idx id hid;have hg:=hf.Ia id l m p q r h0;rw[q1];unfold AO at q3;cases o with
  | dead=>trivial
  | row y z A B D=>
   cases c:h[a]? with
   | none=>rw[c]at q3;exact absurd q3.1 aol
   | some j=>
    cases j with
    | dead=>rw[c]at q3;exact q3.elim
    | row g sz n e f=>
     rw[c]at q3;obtain⟨r1,rfl,d,rfl,_⟩:=q3;obtain⟨rfl,rfl⟩:=r1 hid;obtain rfl:=d.resolve_right (λv=>absurd v.1 aol);rw[c]at hg;refine⟨hg.1,λhe=>?_⟩;obtain⟨t,u,I,J⟩:=hg.2 he;exact⟨by rw[yT q2 c];exact t,u,I,J⟩
 ·have hid:id<C.h.length:=(As.1 h0).1;obtain⟨o,a,q1,q2,q3⟩:=idx id hid;have hd:=hf.dead id h0;rw[q1];unfold AO at q3;cases o with
  | dead=>rfl
  | row y z A B D=>
   cases c:h[a]? with
   | none=>rw[c]at q3;exact absurd q3.1 aol
   | some j=>
    cases j with
    | dead=>rw[c]at q3;exact q3.elim
    | row g sz n e f=>
     rw[c]at q3;obtain⟨rfl,rfl⟩:=q3.1 hid;rw[c]at hd;cases hd
structure uC (C:Start) (μ:Mu) (h:List au) (S:Nat->Prop) (env:Env) (a:Act) (w:World):Prop where
 core:Core μ h S w
 fr:Fr C.μ C.h C.S C.w μ h S w
 tmps:∀t,da μ h S w (env t) (a.tmps.getD t undef)
 size:a.tmps.size=C.nt
 far:∀t,C.nt<=t->env t=.mj
 defers:a.defers=[]
variable {C:Start}{env:Env}{a:Act}
theorem I0 (env:Env) (t:Nat) (v:PV):wJ env t v t=v:=by simp [wJ]
theorem Nk (env:Env) {t j:Nat} (v:PV) (hj:j≠t):wJ env t v j=env j:=by
 unfold wJ
 have:Nat.beq j t=false:=by
  cases a:Nat.beq j t with
  | true=>exact(hj (abF a)).elim
  | false=>rfl
 rw[this];rfl
def wy (nt:Nat) (o:Oper):Bool:=match o.dst with | some t=>Nat.blt t nt | none=>true
theorem uC.put (hs:uC C μ h S env a w) {μ':Mu} {h':List au} {S':Nat->Prop} {w':World} (hf:Fr μ h S w μ' h' S' w') (hc:Core μ' h' S' w') {dst:Option Nat} {v:PV} {val:Value} (hv:da μ' h' S' w' v val)
  (hd:∀t,dst=some t->t<C.nt):uC C μ' h' S' (gQ env dst v) (a.put dst val) w':=by
 refine⟨hc,hs.fr.trans hf,λt=>?_,?_,λt e=>?_,?_⟩
 ·cases dst with
  | none=>exact(hs.tmps t).fr hf hs.core.ok
  | some d=>
   have c:=hd d rfl;by_cases b:t=d
   ·subst b;show da μ' h' S' w' (wJ env t v t) _;rw[I0]
    have:((a.put (some t) val).tmps).getD t undef=val:=by
     have f:t<a.tmps.size:=by rw[hs.size];exact c
     simp [Act.put,f]
    rw[this];exact hv
   ·show da μ' h' S' w' (wJ env d v t) _;rw[Nk env v b]
    have:((a.put (some d) val).tmps).getD t undef=a.tmps.getD t undef:=by
     simp [Act.put,amq (alJ b)]
    rw[this];exact(hs.tmps t).fr hf hs.core.ok
 ·cases dst with
  | none=>exact hs.size
  | some d=>simp [Act.put,hs.size]
 ·cases dst with
  | none=>exact hs.far t e
  | some d=>
   have c:=hd d rfl;show wJ env d v t=_;rw[Nk env v aol];exact hs.far t e
 ·cases dst with
  | none=>exact hs.defers
  | some d=>exact hs.defers
theorem uC.I1 (hs:uC C μ h S env a w) {t:Nat} {b:Bool} (he:env t=.bool b):uC C μ h S (wJ env t (.bool b)) a w:=by
 have:wJ env t (.bool b)=env:=by
  funext j;by_cases hj:j=t
  ·subst hj;rw[I0,he]
  ·rw[Nk env _ hj]
 rw[this];exact hs
def I2 (C:Start) (Q:XQ):Exit->Act->World->Prop:=λe a w=>∃μ h S env,uC C μ h S env a w/\Q e env h
theorem Cl (hs:uC C μ h S env a w) {ops:Array Oper} {j t:Nat} {b:Bool} (hj:(ops.toList[j]?).bind (·.dst)=some t) (he:env t=.bool b):yielded ops a.tmps j=some b:=by
 have hv:=hs.tmps t;rw[he]at hv;have hv:=hv.rX
 have c:t<a.tmps.size:=by
  rcases alm t a.tmps.size with h1 | h1
  ·exact h1
  ·rw[hs.far t (by rw[<-hs.size];exact h1)]at he;cases he
 unfold yielded;rw[akR]at hj;rw[hj];simp only[amE]
 have:a.tmps[t]? =some (.bool b):=by
  rw[akV c];simp [c]at hv;rw[hv]
 rw[this]
theorem Cm:da μ h S w (.kc []) undef:=⟨#[],rfl,rfl,λj pv hj=>by simp at hj⟩
theorem yU (hs:uC C μ h S env a w) {ops:Array Oper} {j t:Nat} (hj:(ops.toList[j]?).bind (·.dst)=some t) (he:env t=.kc []):yielded ops a.tmps j=none:=by
 have hv:=hs.tmps t;rw[he]at hv;obtain⟨vs,hv,_⟩:=hv;unfold yielded;rw[akR]at hj;rw[hj];simp only[amE];rcases alm t a.tmps.size with h1 | h1
 ·have:a.tmps[t]? =some (.tuple vs):=by
   rw[akV h1];simp [h1]at hv;rw[hv]
  rw[this]
 ·rw[Array.getElem?_eq_none h1]
theorem Cn {K:Env->List au->Prop} (all:List Oper) (o:Oper) (rest:List Oper) (env:Env) (h:List au) {j:Nat} {want:Bool} (hg:o.guard=some (j,want)):
  AG P T all K (o::rest) env h=(match(all[j]?).bind (·.dst)with
     | some t=>match env t with
      | .bool b=>gu b
        (match(generalizing:=false) want with
         | true=>pop P T o.op (wJ env t (.bool true)) h (λv h'=>AG P T all K rest (gQ (wJ env t (.bool true)) o.dst v) h')
         | false=>AG P T all K rest (gQ (wJ env t (.bool true)) o.dst (.kc [])) h)
        (match(generalizing:=false) want with
         | true=>AG P T all K rest (gQ (wJ env t (.bool false)) o.dst (.kc [])) h
         | false=>pop P T o.op (wJ env t (.bool false)) h (λv h'=>AG P T all K rest (gQ (wJ env t (.bool false)) o.dst v) h'))
      | .kc []=>AG P T all K rest (gQ env o.dst (.kc [])) h
      | _=>False
     | none=>False):=by
 obtain⟨dst,op,ty,pos,after,guard⟩:=o;have hg:guard=some (j,want):=hg;rw[hg];rfl
theorem Co (f:fH P T) (ops:Array Oper) {K:Env->List au->Prop} {Q:Exit->Act->World->Prop} (g:∀env h a w μ S,K env h->uC C μ h S env a w->Q .normal a w):
  ∀(l:List Oper) (env:Env) (h:List au) (a:Act) (w:World) (μ:Mu) (S:Nat->Prop),AG P T ops.toList K l env h->(∀o∈l,wy C.nt o=true)->uC C μ h S env a w->wpList P ops Q l a w
 | [],env,h,a,w,μ,S,hp,_,hs=>g env h a w μ S hp hs
 | o::rest,env,h,a,w,μ,S,hp,hd,hs=>by
  have d:∀t,o.dst=some t->t<C.nt:=λt i=>by
   have:=hd o aon;unfold wy at this;rw[i]at this;simpa using this
  have e:∀o∈rest,wy C.nt o=true:=λo n=>hd o (by simp [n])
  have run:∀env',uC C μ h S env' a w->pop P T o.op env' h (λv h'=>AG P T ops.toList K rest (gQ env' o.dst v) h')->o.wp P a w (wpList P ops Q rest) Q:=λenv' c k=>by
   obtain⟨dst,op,ty,pos,after,guard⟩:=o;refine K5 (env:=env') f c.core c.tmps k _ _ λv val h' μ' S' w' m hv hc hf=>?_;exact Co f ops g rest _ h' _ w' μ' S' m e (c.put hf hc hv d)
  have skip:∀env',uC C μ h S env' a w->AG P T ops.toList K rest (gQ env' o.dst (.kc [])) h->wpList P ops Q rest (a.put o.dst undef) w:=λenv' c k=>
   Co f ops g rest _ h _ w μ S k e (c.put Fr.refl c.core Cm d)
  unfold wpList;cases hg:o.guard with
  | none=>
   have hp:pop P T o.op env h (λv h'=>AG P T ops.toList K rest (gQ env o.dst v) h'):=by
    exact ane
   rw[an (by simp [Region.wanted,hg])];exact .inl (run env hs hp)
  | some p=>
   obtain⟨j,want⟩:=p;rw[Cn ops.toList o rest env h hg]at hp;split at hp
   ·rename_i t hj;split at hp
    ·rename_i b he;have hy:=Cl hs hj he;obtain⟨i,hf⟩:=pz hp;have c:=hs.I1 he;cases b with
     | true=>
      have hp:=i rfl;cases want with
      | true=>rw[an aor];exact .inl (run _ c hp)
      | false=>rw[mg aor];exact skip _ c hp
     | false=>
      have hp:=hf rfl;cases want with
      | true=>rw[mg aor];exact skip _ c hp
      | false=>rw[an aor];exact .inl (run _ c hp)
    ·rename_i he;rw[mg aoW];exact skip _ hs hp
    ·exact anA
   ·exact anA
end
end Go.Am
