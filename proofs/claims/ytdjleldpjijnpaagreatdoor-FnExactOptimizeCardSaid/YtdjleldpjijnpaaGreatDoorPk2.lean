/- Texts of the proof, joined and shortened. -/
import Derived.Test.YtdjleldpjijnpaaGreatDoorPk1
import Derived.MapKept
import Derived.Lib.ConvBytes
import Derived.Lib.AtoiErrMem
import Derived.Deep.LoopGhost
set_option linter.unusedVariables false
set_option linter.unusedSimpArgs false
namespace Go.Am
open Go Go.RowKit
section
variable {P:Program}{T:rO}{μ:Mu}{h:List al}{S:Nat->Prop}{w:World}
theorem lG (t k ty e:TypeId) (i:TypeInfo) (d:TypeDesc) (l:P.underlying t=some (.slice e)) (n:P.underlying k=some d) (hd:(∃o,d=.slice o)\/d=.string) (hi:P.info? e=some i)
  (g:Option Addr) (c h:Nat) (j:Value) (m:Nat) (news:Array Value) (w':World) (hlen:(Builtin.lenOf j).run P w=.ok m w) (f:(Builtin.firstCells i.size m j).run P w=.ok news w) (p:c+m<=h)
  (b:match g with | some a=>(storeCells (a.add (c*i.size)) news.toList).run P w=.ok () w' | none=>w'=w):
  (Builtin.append_ #[t,k] ty #[.slice g c h,j]).run P w=.ok (.slice g (c+m) h) w':=by
 rcases hd with⟨o,rfl⟩ | rfl<;>cases g with
 | none=>
  have b:w'=w:=b;subst b;simp [Builtin.append_,run_underlying l,run_underlying n,sizeOf,typeInfo,hi,hlen,p,f]
 | some a=>
  have b:(storeCells (a.add (c*i.size)) news.toList).run P w=.ok () w':=b;simp [Builtin.append_,run_underlying l,run_underlying n,sizeOf,typeInfo,hi,hlen,p,f,b]
theorem qA (t j ty e:TypeId) (i:TypeInfo) (z:Value) (d:TypeDesc) (o:P.underlying t=some (.slice e)) (p:P.underlying j=some d) (hd:(∃k,d=.slice k)\/d=.string) (hi:P.info? e=some i) (q:i.zero=some z)
  (l:Option Addr) (a b:Nat) (c:Value) (m:Nat) (n news:Array Value) (hlen:(Builtin.lenOf c).run P w=.ok m w) (r:(Builtin.firstCells i.size a (.slice l a b)).run P w.drew=.ok n w.drew)
  (f:(Builtin.firstCells i.size m c).run P w.drew=.ok news w.drew) (hg:b<a+m) (s:0<i.bytes) (u:(a+m)*i.bytes<=140737488355328):
  (Builtin.append_ #[t,j] ty #[.slice l a b,c]).run P w=.ok (.slice (some ⟨w.heap.size,0,none⟩) (a+m) (grownCap w (a+m) b e))
   (w.drew.alloc (.cells (n++news++Builtin.zeroCells z.cells (grownCap w (a+m) b e - (a+m))) e)):=by
 have hn:¬(a+m<=b):=by omega
 have hle:a+m<=(a+m)*i.bytes:=Nat.le_mul_of_pos_right _ s;have g:¬(9223372036854775807<((a:Int)+(m:Int))):=by omega
 have v:=growslice_fits hg u;have h:¬(281474976710656<Builtin.nextslicecap (a+m) b*i.bytes):=by omega
 rcases hd with⟨k,rfl⟩ | rfl<;>
  simp [Builtin.append_,run_underlying o,run_underlying p,sizeOf,typeInfo,zeroValue,hi,q,hlen,hn,g,h,Question.forced,f,r,newRow,grownCap]
theorem Lh (b off m sz:Nat) (f:0<sz) (g:Nat->List PV) (hl:∀i,i<m->(g i).length=sz)
  (l:∀(i j:Nat) (pv:PV),i<m->(g i)[j]? =some pv->∃u,w.cell? ⟨b,off+i*sz+j,none⟩=some u/\qw μ h S w pv u):
  ∃news:Array Value,news.size=m*sz/\(∀(i j:Nat) (pv:PV),i<m->(g i)[j]? =some pv->∃u,news[i*sz+j]? =some u/\qw μ h S w pv u)/\
   (∀u∈news.toList,u.oneCell'=true)/\∀w',cc w w'->(loadCells ⟨b,off,none⟩ (m*sz)).run P w'=.ok news w':=by
 let F:Nat->Value:=λq=>(w.cell? ⟨b,off+q,none⟩).getD undef
 have d:∀(i j:Nat) (pv:PV),i<m->(g i)[j]? =some pv->w.cell? ⟨b,off+(i*sz+j),none⟩=some (F (i*sz+j))/\qw μ h S w pv (F (i*sz+j)):=λi j pv hi hj=>by
  obtain⟨u,h1,h2⟩:=l i j pv hi hj;have e:off+(i*sz+j)=off+i*sz+j:=by omega
  have e2:F (i*sz+j)=u:=by
   show(w.cell? ⟨b,off+(i*sz+j),none⟩).getD undef=u;rw[e,h1];rfl
  rw[e2,e];exact⟨h1,h2⟩
 have hq:∀q,q<m*sz->∃pv,q / sz<m/\(g (q / sz))[q % sz]? =some pv:=λq hq=>by
  have h1:q / sz<m:=(Nat.div_lt_iff_lt_mul f).2 hq;have h2:q % sz<(g (q / sz)).length:=by rw[hl _ h1];exact Nat.mod_lt _ f
  exact⟨_,h1,abF h2⟩
 have k:∀q,q / sz*sz+q % sz=q:=λq=>by rw[Nat.mul_comm];exact Nat.div_add_mod q sz
 refine⟨((List.range (m*sz)).map F).toArray,by simp,λi j pv hi hj=>?_,λu hu=>?_,λw' ha=>?_⟩
 ·have o:j<sz:=by rw[<-hl i hi];exact(Is.1 hj).1
  have n:i*sz+j<m*sz:=by
   have:(i+1)*sz<=m*sz:=ahH _ hi;rw[ahK]at this;omega
  exact⟨F (i*sz+j),by simp [n],(d i j pv hi hj).2⟩
 ·simp only[aif,ajk]at hu;obtain⟨q,a,rfl⟩:=hu;obtain⟨pv,h1,h2⟩:=hq q a;have:=(d _ _ pv h1 h2).2.c.one
  rwa [k]at this
 ·refine run_loadCells w' ⟨b,off,none⟩ (m*sz) F λq a=>?_;obtain⟨pv,h1,h2⟩:=hq q a;have:=(d _ _ pv h1 h2).1;rw[k]at this;rw[Addr.add_lit];exact ha.cell this
theorem O0:∀{l:List PV},noO l=true->∀{j:Nat} {pv:PV},l[j]? =some pv->dj pv=false
 | [],_,j,pv,hj=>by simp at hj
 | c::r,h,0,pv,hj=>by
  simp at hj;subst hj;cases c<;>first | rfl | cases h
 | c::r,h,j+1,pv,hj=>O0 (l:=r) (by cases c<;>first | exact h | cases h) amc
def Src (P:Program) (μ:Mu) (h:List al) (S:Nat->Prop) (w:World) (a:Value) (sz m:Nat) (g:Nat->List PV):Prop:=
 (∀i,i<m->(g i).length=sz)/\∃news:Array Value,news.size=m*sz/\(∀(i j:Nat) (pv:PV),i<m->(g i)[j]? =some pv->∃u,news[i*sz+j]? =some u/\qw μ h S w pv u)/\
  (∀u∈news.toList,u.oneCell'=true)/\∀w',cc w w'->(Builtin.lenOf a).run P w'=.ok m w'/\(Builtin.firstCells sz m a).run P w'=.ok news w'
theorem Src.empty (b:Value) (sz:Nat) (g:Nat->List PV) (d:∃a c,b=.slice a 0 c):Src P μ h S w b sz 0 g:=by
 obtain⟨a,c,rfl⟩:=d;refine⟨λi hi=>absurd hi alV,#[],by simp,λi j pv hi=>absurd hi alV,λu hu=>by simp at hu,λw' _=>⟨rfl,?_⟩⟩;cases a with
 | none=>rfl
 | some a=>simp [Builtin.firstCells,loadCells,loadCellsFrom]
theorem pD (hc:Core μ h S w) (id g off len sz n:Nat) (e:TypeId) (f:Nat->List PV) (hh:h[id]? =some (al.row g sz n e f)) (v:Value) (hv:bz μ h S w (.own id g off len) v) (l:0<sz):Src P μ h S w v sz len (λi=>f (off+i)):=by
 have a:=hv.pT;unfold bg at a;rw[hh]at a;obtain⟨_,_,a⟩:=a;obtain⟨hle,a⟩:=a rfl;obtain⟨hl,c⟩:=hc.heap id g sz n e f hh;cases k:μ id with
 | none=>
  rw[k]at a c;have hn:n=0:=c;have h0:len=0:=by omega
  subst h0;exact Src.empty v sz _ ⟨_,_,a⟩
 | some p=>
  obtain⟨b,base⟩:=p;rw[k]at a c;obtain⟨s,cap,hv,t,d,m⟩:=a;obtain⟨cur,o,x,q⟩:=bH.cells m c;rcases aiq len with h0 | h0
  ·subst h0;exact Src.empty v sz _ ⟨_,_,hv⟩
  ·have d:=d alV;subst d
   obtain⟨news,q1,q2,q3,q4⟩:=Lh (P:=P) (μ:=μ) (h:=h) (S:=S) (w:=w) b (base+off*sz) len sz l (λi=>f (off+i)) (λi hi=>hl _ alV) (λi j pv hi hj=>by
    obtain⟨u,r1,r⟩:=q (off+i) j pv alV hj;refine⟨u,?_,r⟩;rw[cell_of_row w b _ cur e (0,0) o,<-r1];congr 1;rw[ahK];omega)
   exact⟨λi hi=>hl _ alV,news,q1,q2,q3,λw' ha=>⟨by rw[hv];rfl,by rw[hv];exact q4 w' ha⟩⟩
theorem Bq (hc:Core μ h S w) (x:PV) (o:Value) (d:bz μ h S w x o) (sz:Nat) (q:0<sz) (K:Nat->(Nat->List PV)->Prop) (hp:Li x h sz K):∃m g,K m g/\Src P μ h S w o sz m g/\∀(i j:Nat) (pv:PV),i<m->(g i)[j]? =some pv->dj pv=false:=by
 unfold Li at hp;split at hp
 ·exact⟨_,_,hp,Src.empty _ _ _ ⟨_,_,d.rP⟩,λi j pv hi=>absurd hi (ahP _)⟩
 ·rename_i r m g;replace hp:=bw hp;obtain⟨l,hp⟩:=hp;obtain rfl:=ahz l;refine⟨m,g,hp,?_⟩;rcases d.xz with⟨a,c,ex,rfl⟩ | ⟨b,off,c,A,ex,B,hl,t,v,p⟩
  ·exact⟨Src.empty _ _ _ ⟨_,_,ex⟩,λi j pv hi=>absurd hi (ahP _)⟩
  ·obtain⟨news,q1,q2,q3,q4⟩:=Lh (P:=P) (μ:=μ) (h:=h) (S:=S) (w:=w) b off m sz q g hl (λi j pv hi hj=>⟨_,v i j pv hi hj,(bK.kN (p i j pv hi hj)).k (aR.no (p i j pv hi hj))⟩);exact⟨⟨hl,news,q1,q2,q3,λw' ha=>⟨by rw[ex];rfl,by rw[ex];exact q4 w' ha⟩⟩,λi j pv hi hj=>aR.no (p i j pv hi hj)⟩
 ·rename_i id gen off m;split at hp
  ·rename_i g r n e f hg;obtain⟨rfl,y,hp⟩:=hp;replace hp:=bw hp;obtain⟨l,hp⟩:=hp;obtain rfl:=ahz l;exact⟨m,_,hp,pD hc id g off m sz n e f (dz hg) o d q,λi j pv hi hj=>O0 (y i hi) hj⟩
  ·exact alc
 ·rename_i s;replace hp:=bw hp;obtain⟨l,hp⟩:=hp;obtain rfl:=ahz l;refine⟨_,_,hp,⟨λi hi=>rfl,(s.map λb=>Value.int .u8 b.toNat).toArray,by simp,λi j pv hi hj=>?_,λu hu=>?_,λw' _=>⟨by rw[d.oI];rfl,?_⟩⟩,λi j pv hi hj=>?_⟩
  ·cases j with
   | zero=>
    simp at hj;subst hj;refine⟨.int .u8 (s.getD i 0).toNat,?_,aR.int _ _⟩;rw[ahA,abF hi];simp [hi]
   | succ j=>simp at hj
  ·simp at hu;obtain⟨b,_,rfl⟩:=hu;rfl
  ·rw[d.oI];have z:(ByteArray.mk ⟨s⟩).extract 0 s.length=ByteArray.mk ⟨s⟩:=by rw[BS];simp
   simp only[Builtin.firstCells,z];simp
  ·cases j with
   | zero=>simp at hj;subst hj;rfl
   | succ j=>simp at hj
 ·exact alc
end
section
variable {P:Program}{T:rO}{μ:Mu}{h:List al}{S:Nat->Prop}{w w1:World}
theorem Qn (hc:Core μ h S w) (a g sz n:Nat) (e:TypeId) (f:Nat->List PV) (hh:h[a]? =some (al.row g sz n e f)):Fr μ h S w μ (h.set a .dead) S w/\Core μ (h.set a .dead) S w:=by
 have hid:a<h.length:=(Is.1 hh).1;have A:(h.set a al.dead)[a]? =some al.dead:=by simp [hid]
 have r:∀j,j≠a->(h.set a al.dead)[j]? =h[j]?:=λj hj=>by rw[ahQ (aiI hj)]
 have t:∀{j d k l m q},(h.set a al.dead)[j]? =some (al.row d k l m q)->j≠a:=λhj u=>by subst u;rw[A]at hj;cases hj
 have D:∀b,CV μ (h.set a al.dead) b->CV μ h b:=λb ⟨j,d,k,l,m,q,F,hj,hm⟩=>by
  rw[r j (t hj)]at hj;exact⟨j,d,k,l,m,q,F,hj,hm⟩
 have v:∀j x y b,cV (h.set a al.dead) j x y b->cV h j x y b:=λj x y b ⟨d,k,l,m,q,I,J,K,L,M,q1,q2,q3,q4⟩=>by
  rw[r j (t q1)]at q1;exact⟨_,_,_,_,_,_,_,_,_,_,q1,q2,q3,q4⟩
 have B:∀b,cf μ (h.set a al.dead) b->cf μ h b:=λb c=>by
  rcases c with c | ⟨x,y,z,c⟩
  ·exact .inl (D b c)
  ·exact .inr ⟨x,y,z,v _ _ _ _ c⟩
 have E:Fr μ h S w μ (h.set a .dead) S w:=by
  refine⟨by simp,λ_ _ _=>rfl,λ_ c=>c,λ_ c=>.inl c,λb c=>.inl (B b c),ahy _,rfl,rfl,rfl,λj d k l m q hj=>?_,λj hj=>?_,λ_ _ _ G=>G,λj d k l m q b base hj hm C=>⟨C,?_⟩,λ_ _ _ _ _ C=>C⟩
  ·by_cases s:j=a
   ·subst s;rw[A];trivial
   ·rw[r j s,hj];exact⟨ahy _,λ_=>⟨rfl,rfl,rfl,rfl⟩⟩
  ·have s:j≠a:=by rintro rfl;rw[hh]at hj;cases hj
   rw[r j s];exact hj
  ·by_cases s:j=a
   ·subst s;exact .inl A
   ·exact .inr ⟨⟨_,_,_,_,_,(r j s).trans hj⟩,hm⟩
 refine⟨E,⟨λj d k l m q hj=>?_,⟨λb c=>hc.ok.apart b (B b c),λb c=>hc.ok.lt b (B b c),hc.ok.slt,?_,hc.ok.known,λb c x y z u=>hc.ok.hv b (D b c) x y z (v _ _ _ _ u),λb _ _ _ _ _ _ u hy=>hc.ok.hh b _ _ _ _ _ _ (v _ _ _ _ u) (v _ _ _ _ hy)⟩⟩⟩
 ·rw[r j (t hj)]at hj;obtain⟨h1,h2⟩:=hc.heap j d k l m q hj;refine⟨h1,?_⟩;cases hm:μ j with
  | none=>rw[hm]at h2;exact h2
  | some p=>
   obtain⟨b,base⟩:=p;rw[hm]at h2;obtain⟨o,q1,q2⟩:=h2;exact⟨o,q1,q2.mono (λ_ _ _ _ _ _ H=>H.fr E hc.ok (λ_ _ _ _ _ _ _ _=>rfl))⟩
 ·intro i j N O P Q R d k l m q b o T hi hj oQ nN;rw[r i (t hi)]at hi;rw[r j (t hj)]at hj;exact alF
theorem G7 (hc:Core μ h S w) (id d:Nat) (pW:d≠id) (g2 oZ n2:Nat) (e2:TypeId) (f2:Nat->List PV) (Lj:h[d]? =some (al.row g2 oZ n2 e2 f2)) (P:Nat) (g E sz n r:Nat) (e:TypeId) (f t:Nat->List PV) (hh:h[id]? =some (al.row g sz n e f)) (l T:Nat) (U:Array Value)
  (hg:g<=E) (aa:E=g->μ id=some (l,T)/\r=n)
  (m:w.heap.size<=l\/∃base cur,μ id=some (l,base)/\w.heap[l]? =some (.cells cur e (0,0))/\cur.size=U.size)
  (hw:w1.heap[l]? =some (.cells U e (0,0))) (vN:T+r*sz<=U.size)
  (L:∀b,b<w.heap.size->b≠l->w1.heap[b]? =w.heap[b]?) (vC:w.heap.size<=w1.heap.size) (ad:w1.os=w.os) (KP:w1.tape=w.tape) (ND:w1.output=w.output)
  (hl:∀i,i<r->(t i).length=sz) (JA:∀b base,μ id=some (b,base)->¬pr w b)
  (aY:∀(i j:Nat) (pv:PV),i<r->(t i)[j]? =some pv->∃v:Value,U[T+i*sz+j]? =some v/\qw μ h S w pv v) (KQ yU:Nat)
  (wW:∀(i j V W:Nat) (Q:TypeId) (X:Nat->List PV) (Y:Nat->Prop),i<r->(t i)[j]? =some (.bu V W Q X Y)->(i<P/\KQ+i<n/\(f (KQ+i))[j]? =some (.bu V W Q X Y))\/(P<=i/\yU+(i - P)<n2/\(f2 (yU+(i - P)))[j]? =some (.bu V W Q X Y))):
  Fr μ h S w (oV μ id (some (l,T))) ((h.set id (.row E sz r e t)).set d .dead) S w1/\Core (oV μ id (some (l,T))) ((h.set id (.row E sz r e t)).set d .dead) S w1:=by
 have hid:id<h.length:=(Is.1 hh).1;have gu:((h.set id (al.row E sz r e t)).set d .dead)[id]? =some (al.row E sz r e t):=by rw[ahQ pW];simp [hid]
 have ag:d<h.length:=(Is.1 Lj).1;have u9:((h.set id (al.row E sz r e t)).set d .dead)[d]? =some al.dead:=by simp [ag]
 have F:∀j,j≠id->j≠d->((h.set id (al.row E sz r e t)).set d .dead)[j]? =h[j]?:=λj hj G=>by rw[ahQ (aiI G),ahQ (aiI hj)]
 have H:∀{j u A B C D},((h.set id (al.row E sz r e t)).set d .dead)[j]? =some (al.row u A B C D)->j≠d:=λhj s=>by subst s;rw[u9]at hj;cases hj
 have Ta:l<w1.heap.size:=(ahB.1 hw).1
 have wX:l<w.heap.size->cf μ h l:=λI=>by
  rcases m with m | ⟨base,cur,hm,_,_⟩
  ·omega
  ·exact .inl ⟨id,g,sz,n,e,f,base,hh,hm⟩
 have dD:∀j x y b,cV ((h.set id (al.row E sz r e t)).set d .dead) j x y b->j≠d/\∃M N,cV h M N y b/\((j≠id/\M=j/\N=x)\/(j=id/\x<P/\M=id/\N=KQ+x)\/(j=id/\P<=x/\M=d/\N=yU+(x - P))):=λj x y b ⟨u,A,B,C,D,V,W,Q,X,Y,q1,q2,q3,q4⟩=>by
  refine⟨H q1,?_⟩;by_cases a:j=id
  ·subst a;rw[gu]at q1;injection q1 with q1;injection q1 with e1 e2 e3 e4 e5;subst e1 e2 e3 e4 e5;rcases wW x y _ _ _ _ _ q2 q3 with⟨r0,r1,J⟩ | ⟨r0,r1,J⟩
   ·exact⟨_,_,⟨_,_,_,_,_,_,_,_,_,_,hh,r1,J,q4⟩,.inr (.inl ⟨rfl,r0,rfl,rfl⟩)⟩
   ·exact⟨_,_,⟨_,_,_,_,_,_,_,_,_,_,Lj,r1,J,q4⟩,.inr (.inr ⟨rfl,r0,rfl,rfl⟩)⟩
  ·have G:=H q1;rw[F j a G]at q1;exact⟨_,_,⟨_,_,_,_,_,_,_,_,_,_,q1,q2,q3,q4⟩,.inl ⟨a,rfl,rfl⟩⟩
 have um:∀j x y b,cV h j x y b->b<w.heap.size/\b≠l:=λj x y b s=>by
  have I:=hc.ok.lt b (.inr ⟨j,x,y,s⟩);refine⟨I,?_⟩;rintro rfl;rcases m with m | ⟨base,cur,hm,_,_⟩
  ·omega
  ·exact hc.ok.hv b ⟨id,g,sz,n,e,f,base,hh,hm⟩ j x y s
 have ju:Fr μ h S w (oV μ id (some (l,T))) ((h.set id (.row E sz r e t)).set d .dead) S w1:=by
  refine⟨by simp,λb I wo=>?_,λ_ m=>m,λ_ m=>.inl m,λb Z=>?_,vC,ad,KP,ND,λj u A B C D hj=>?_,λj hj=>?_,λb k AO dy=>?_,λj u A B C D b base hj hm nF=>?_,λb j x y s nF=>?_⟩;rotate_right
  ·obtain⟨q1,q2⟩:=um j x y b s;obtain⟨es,c,q⟩:=nF;exact⟨es,c,(L b q1 q2).trans q⟩
  ·by_cases K:b=l
   ·subst K;exact(wo (wX I)).elim
   ·exact L b I K
  ·rcases Z with⟨j,u,A,B,C,D,oW,hj,hm⟩ | ⟨j,x,y,s⟩;rotate_left
   ·obtain⟨_,M,N,O,_⟩:=dD j x y b s;exact .inl (.inr ⟨_,_,_,O⟩)
   by_cases a:j=id
   ·subst a;rw[bp]at hm;injection hm with hm;injection hm with h1 h2;subst h1;rcases aip l w.heap.size with I | OL
    ·exact .inl (wX I)
    ·exact .inr OL
   ·rw[F j a (H hj)]at hj;rw[cw μ _ a]at hm;exact .inl (.inl ⟨j,u,A,B,C,D,oW,hj,hm⟩)
  ·by_cases a:j=id
   ·subst a;rw[hh]at hj;injection hj with hj;injection hj with e1 e2 e3 e4 e5;subst e1 e2 e3 e4 e5;rw[gu];refine⟨hg,λhe=>?_⟩;obtain⟨h1,h2⟩:=aa he;exact⟨by rw[bp,h1],rfl,h2,rfl⟩
   ·by_cases G:j=d
    ·subst G;rw[u9];trivial
    ·rw[F j a G,hj];exact⟨ahy _,λ_=>⟨cw μ _ a,rfl,rfl,rfl⟩⟩
  ·have a:j≠id:=by rintro rfl;rw[hh]at hj;cases hj
   have G:j≠d:=by rintro rfl;rw[Lj]at hj;cases hj
   rw[F j a G];exact hj
  ·by_cases K:b=l
   ·subst K;obtain⟨cur,Q,z,q1,q2⟩:=dy;rcases m with m | ⟨base,Bi,hm,mb,iB⟩
    ·have:=(ahB.1 q1).1;omega
    ·rw[mb]at q1;injection q1 with q1;injection q1 with q1 _ _;subst q1;exact⟨U,e,_,hw,by omega⟩
   ·exact jV.of_same (L b dy.lt K) dy
  ·have a:j≠id:=by rintro rfl;exact JA b base hm nF
   have K:b≠l:=by
    rintro rfl;obtain⟨es,c,q⟩:=nF;rcases m with m | ⟨oC,Bi,CL,mb,_⟩
    ·have:=(ahB.1 q).1;omega
    ·rw[mb]at q;cases q
   obtain⟨es,c,q⟩:=nF;refine⟨⟨es,c,(L b (ahB.1 q).1 K).trans q⟩,?_⟩;by_cases G:j=d
   ·subst G;exact .inl u9
   ·exact .inr ⟨⟨_,_,_,_,_,(F j a G).trans hj⟩,by rw[cw μ _ a];exact hm⟩
 refine⟨ju,⟨λj u A B C D hj=>?_,?_⟩⟩
 ·by_cases a:j=id
  ·subst a;rw[gu]at hj;injection hj with hj;injection hj with e1 e2 e3 e4 e5;subst e1 e2 e3 e4 e5;rw[bp];refine⟨hl,bH.Ec ⟨U,hw,vN,λi k pv hi R=>?_⟩⟩;obtain⟨v,h1,h2⟩:=aY i k pv hi R;refine⟨v,h1,h2.fr ju hc.ok (λV W Q X Y he b Z=>?_)⟩;rw[he]at R;rcases wW i k _ _ _ _ _ hi R with⟨r0,r1,J⟩ | ⟨r0,r1,J⟩
   ·obtain⟨q1,q2⟩:=um _ _ k b ⟨_,_,_,_,_,_,_,_,_,_,hh,r1,J,Z⟩;exact L b q1 q2
   ·obtain⟨q1,q2⟩:=um _ _ k b ⟨_,_,_,_,_,_,_,_,_,_,Lj,r1,J,Z⟩;exact L b q1 q2
  ·rw[F j a (H hj)]at hj;obtain⟨h1,h2⟩:=hc.heap j u A B C D hj;refine⟨h1,?_⟩;rw[cw μ _ a];cases hm:μ j with
   | none=>rw[hm]at h2;exact h2
   | some p=>
    obtain⟨b,base⟩:=p;rw[hm]at h2;obtain⟨o,q1,q2⟩:=h2;have I:b<w.heap.size:=(ahB.1 q1).1
    have K:b≠l:=by
     rintro rfl;rcases m with m | ⟨oC,Bi,CL,_⟩
     ·omega
     ·exact a (hc.ok.inj j id _ _ _ _ _ _ _ _ _ _ _ _ _ hj hh hm CL)
    exact⟨o,(L b I K).trans q1,q2.mono (λi y pv v hi hy hr=>hr.fr ju hc.ok (λV W Q X Y he b' Z=>by
     obtain⟨q1,q2⟩:=um j i y b' ⟨_,_,_,_,_,_,_,_,_,_,hj,hi,by rw[hy,he],Z⟩;exact L b' q1 q2))⟩
 ·refine⟨λb AO OM=>?_,λb AO=>?_,λb OM=>ahS (hc.ok.slt b OM) vC,?_,hc.ok.Bj ju,λb XO j x y s=>?_,λb j x y j' x' y' s vO=>?_⟩;rotate_right 2
  ·obtain⟨_,M,N,O,_⟩:=dD j x y b s;obtain⟨q1,q2⟩:=um _ _ _ b O;obtain⟨k,gk,XP,nk,ek,fk,KR,R,hm⟩:=XO;by_cases yP:k=id
   ·subst yP;rw[bp]at hm;injection hm with hm;injection hm with h1 h2;exact q2 h1.symm
   ·rw[F k yP (H R)]at R;rw[cw μ _ yP]at hm;exact hc.ok.hv b ⟨k,gk,XP,nk,ek,fk,KR,R,hm⟩ _ _ _ O
  ·obtain⟨k1,M,N,O,c0⟩:=dD j x y b s;obtain⟨k2,j1,x1,ai,c1⟩:=dD j' x' y' b vO;obtain⟨r1,J,r3⟩:=hc.ok.hh b _ _ _ _ _ _ O ai;subst r1;subst J;rcases c0 with⟨a1,a2,a3⟩ | ⟨a1,a2,a3,a4⟩ | ⟨a1,a2,a3,a4⟩<;>rcases c1 with⟨d1,d2,d3⟩ | ⟨d1,d2,d3,d4⟩ | ⟨d1,d2,d3,d4⟩<;>refine⟨?_,?_,r3⟩<;>omega
  ·rcases ju.own b AO with h1 | h1
   ·exact hc.ok.apart b h1 OM
   ·have:=hc.ok.slt b OM;omega
  ·rcases AO with⟨j,u,A,B,C,D,oW,hj,hm⟩ | ⟨j,x,y,s⟩;rotate_left
   ·obtain⟨_,M,N,O,_⟩:=dD j x y b s;exact ahS (hc.ok.lt b (.inr ⟨_,_,_,O⟩)) vC
   by_cases a:j=id
   ·subst a;rw[bp]at hm;injection hm with hm;injection hm with h1 h2;subst h1;exact Ta
   ·rw[F j a (H hj)]at hj;rw[cw μ _ a]at hm;exact ahS (hc.ok.lt b (.inl ⟨j,u,A,B,C,D,oW,hj,hm⟩)) vC
  ·intro i j gi P1 ni ei fi u A B C D b o o' hi hj oQ nN;by_cases KS:i=id
   ·by_cases a:j=id
    ·rw[KS,a]
    ·subst KS;rw[bp]at oQ;injection oQ with oQ;injection oQ with h1 h2;subst h1;rw[F j a (H hj)]at hj;rw[cw μ _ a]at nN;rcases m with m | ⟨oC,Bi,CL,_⟩
     ·have:=hc.ok.lt _ (.inl ⟨j,u,A,B,C,D,o',hj,nN⟩);omega
     ·exact hc.ok.inj i j _ _ _ _ _ _ _ _ _ _ _ _ _ hh hj CL nN
   ·rw[F i KS (H hi)]at hi;rw[cw μ _ KS]at oQ;by_cases a:j=id
    ·subst a;rw[bp]at nN;injection nN with nN;injection nN with h1 h2;subst h1;rcases m with m | ⟨oC,Bi,CL,_⟩
     ·have:=hc.ok.lt _ (.inl ⟨i,gi,P1,ni,ei,fi,o,hi,oQ⟩);omega
     ·exact hc.ok.inj i j _ _ _ _ _ _ _ _ _ _ _ _ _ hi hh oQ CL
    ·rw[F j a (H hj)]at hj;rw[cw μ _ a]at nN;exact alF
end
section
variable {P:Program}{T:rO}{μ:Mu}{h:List al}{S:Nat->Prop}{w:World}
theorem yo (hc:Core μ h S w) (id g d sz n:Nat) (e:TypeId) (f k:Nat->List PV) (hh:h[id]? =some (al.row g sz n e f)) (u:μ id=none) (hg:g<d):
  Fr μ h S w μ (h.set id (.row d sz 0 e k)) S w/\Core μ (h.set id (.row d sz 0 e k)) S w:=by
 have hid:id<h.length:=(Is.1 hh).1;have E:(h.set id (al.row d sz 0 e k))[id]? =some (al.row d sz 0 e k):=by simp [hid]
 have l:∀j,j≠id->(h.set id (al.row d sz 0 e k))[j]? =h[j]?:=λj hj=>by rw[ahQ (aiI hj)]
 have I:∀b,CV μ (h.set id (al.row d sz 0 e k)) b->CV μ h b:=λb a=>by
  obtain⟨j,m,q,r,s,t,K,hj,hm⟩:=a;by_cases c:j=id
  ·subst c;rw[u]at hm;cases hm
  ·rw[l j c]at hj;exact⟨j,m,q,r,s,t,K,hj,hm⟩
 have v:∀j x y b,cV (h.set id (al.row d sz 0 e k)) j x y b->cV h j x y b:=λj x y b ⟨m,q,r,s,t,O,P,Q,R,T,q1,q2,q3,q4⟩=>by
  by_cases c:j=id
  ·subst c;rw[E]at q1;injection q1 with q1;injection q1 with A e2 B C D;omega
  ·rw[l j c]at q1;exact alQ
 have F:∀b,cf μ (h.set id (al.row d sz 0 e k)) b->cf μ h b:=λb a=>by
  rcases a with a | ⟨x,y,z,a⟩
  ·exact .inl (I b a)
  ·exact .inr ⟨x,y,z,v _ _ _ _ a⟩
 have J:Fr μ h S w μ (h.set id (.row d sz 0 e k)) S w:=by
  refine⟨by simp,λ_ _ _=>rfl,λ_ a=>a,λ_ a=>.inl a,λb a=>.inl (F b a),ahy _,rfl,rfl,rfl,λj m q r s t hj=>?_,λj hj=>?_,λ_ _ _ L=>L,λj m q r s t b base hj hm G=>⟨G,.inr ⟨⟨_,_,_,_,_,(l j (by rintro rfl;rw[u]at hm;cases hm)).trans hj⟩,hm⟩⟩,λ_ _ _ _ _ G=>G⟩
  ·by_cases c:j=id
   ·subst c;rw[hh]at hj;injection hj with hj;injection hj with A e2 B C D;subst A e2 B C D;rw[E];exact⟨by omega,λhe=>absurd he alV⟩
   ·rw[l j c,hj];exact alN
  ·have c:j≠id:=by rintro rfl;rw[hh]at hj;cases hj
   rw[l j c];exact hj
 refine⟨J,⟨λj m q r s t hj=>?_,⟨λb a=>hc.ok.apart b (F b a),λb a=>hc.ok.lt b (F b a),hc.ok.slt,?_,hc.ok.known,λb a x y z H=>hc.ok.hv b (I b a) x y z (v _ _ _ _ H),λb _ _ _ _ _ _ H hy=>hc.ok.hh b _ _ _ _ _ _ (v _ _ _ _ H) (v _ _ _ _ hy)⟩⟩⟩
 ·by_cases c:j=id
  ·subst c;rw[E]at hj;injection hj with hj;injection hj with A e2 B C D;subst A e2 B C D;refine⟨λi hi=>absurd hi alV,?_⟩;rw[u]
  ·rw[l j c]at hj;obtain⟨h1,h2⟩:=hc.heap j m q r s t hj;refine⟨h1,?_⟩;cases hm:μ j with
   | none=>rw[hm]at h2;exact h2
   | some p=>
    obtain⟨b,base⟩:=p;rw[hm]at h2;obtain⟨o,q1,q2⟩:=h2;exact⟨o,q1,q2.mono (λ_ _ _ _ _ _ M=>M.fr J hc.ok (λ_ _ _ _ _ _ _ _=>rfl))⟩
 ·intro i j U V W X Y m q r s t b o Z hi hj oQ nN;have N:i≠id:=by rintro rfl;rw[u]at oQ;cases oQ
  have c:j≠id:=by rintro rfl;rw[u]at nN;cases nN
  rw[l i N]at hi;rw[l j c]at hj;exact alF
variable {a:Act}{env:Env}{K:PV->List al->Prop}{dst:Option Tmp}{ty:TypeId}{pos:String}{after:Array Edge}{guard:Option (Nat×Bool)}
theorem rW (z:Array Value) (n:Nat):(Builtin.zeroCells z n).size=n*z.size:=by simp [Builtin.zeroCells]
theorem j8 {s x:Operand} {t b:TypeId} {sv c d:Value} {w':World} (hs:a.eval s=sv) (e:a.eval x=c) (f:(Builtin.append_ #[t,b] ty #[sv,c]).run P w=.ok d w'):
  (execOp a.eval ⟨dst,.call ⟨.builtin .append,#[s,x],#[t,b]⟩,ty,pos,after,guard⟩).run P w=.ok (.value d) w':=by
 simp only[execOp,resolve,invoke,builtin,Sem.run_bind,Sem.run_pure,Result.andThen_ok,ajy,ahE,ahR,hs,e,f]
theorem Eu {sz l m:Nat} {f q:Nat->List PV} {a news rest:Array Value} (e:a.size=l*sz) (hn:news.size=m*sz)
  (h1:∀(i j:Nat) (pv:PV),i<l->(f i)[j]? =some pv->∃u,a[i*sz+j]? =some u/\qw μ h S w pv u)
  (h2:∀(i j:Nat) (pv:PV),i<m->(q i)[j]? =some pv->∃u,news[i*sz+j]? =some u/\qw μ h S w pv u)
  (g:∀i,i<l->(f i).length=sz) (k:∀i,i<m->(q i).length=sz):
  ∀(i j:Nat) (pv:PV),i<l+m->(bif Nat.blt i l then f i else q (i - l))[j]? =some pv->∃u,(a++news++rest)[i*sz+j]? =some u/\qw μ h S w pv u:=by
 intro i j pv hi hj;by_cases b:i<l
 ·have c:Nat.blt i l=true:=by simpa using b
  rw[c]at hj;simp only[ajI]at hj;obtain⟨u,q1,q2⟩:=h1 i j pv b hj;have d:i*sz+j<a.size:=(ahB.1 q1).1;exact⟨u,by rw[ail alX,ail d];exact q1,q2⟩
 ·have c:Nat.blt i l=false:=by
   cases hh:Nat.blt i l with
   | true=>exact(b (by simpa using hh)).elim
   | false=>rfl
  rw[c]at hj;simp only[ajv]at hj;obtain⟨u,q1,q2⟩:=h2 (i - l) j pv alV hj;have d:(i - l)*sz+j<news.size:=(ahB.1 q1).1;have hmul:i*sz=l*sz+(i - l)*sz:=by rw[<-ahK];congr 1;omega
  refine⟨u,?_,q2⟩;rw[ail alX,Array.getElem?_append_right alV,<-q1];congr 1;omega
theorem Lk {sz l m:Nat} {f q:Nat->List PV} (c:∀i,i<l->(f i).length=sz) (d:∀i,i<m->(q i).length=sz):∀i,i<l+m->(bif Nat.blt i l then f i else q (i - l)).length=sz:=by
 intro i hi;by_cases a:i<l
 ·have b:Nat.blt i l=true:=by simpa using a
  rw[b];exact c i a
 ·have b:Nat.blt i l=false:=by
   cases hh:Nat.blt i l with
   | true=>exact(a (by simpa using hh)).elim
   | false=>rfl
  rw[b];exact d _ alV
theorem Br (w:World) (o:Obj):cc w (w.drew.alloc o):=(cc.drew w).trans (nG w.drew o)
theorem Ll (q:da P T) (hc:Core μ h S w) (t f e sz bytes:Nat) (zero:List PV) (d:TypeDesc) (r:T.get t=.slice e sz bytes zero) (v:P.underlying f=some d) (hd:(∃C,d=.slice C)\/d=.string)
  (s x:Operand) (hs:a.eval s=.slice none 0 0) (m:Nat) (g:Nat->List PV) (D:Src P μ h S w (a.eval x) sz m g) (b:∀(i j:Nat) (pv:PV),i<m->(g i)[j]? =some pv->dj pv=false) (E:m*bytes<=140737488355328) (y:K (.own h.length 0 0 m) (h++[.row 0 sz m e g])):
  eD P ⟨dst,.call ⟨.builtin .append,#[s,x],#[t,f]⟩,ty,pos,after,guard⟩ a μ h S w K:=by
 obtain⟨hu,N,inf,z,A,F,G,H,I,O,Q⟩:=q.slice _ _ _ _ _ r;have l:=q.bytes _ _ _ _ _ r;subst F G;obtain⟨hl,news,q1,q2,q3,q4⟩:=D;rcases aiq m with h0 | h0
 ·subst h0;have hn:news=#[]:=aix amn;subst hn;obtain⟨r1,n⟩:=q4 w (cc.refl w);have k:=lG (P:=P) (w:=w) t f ty e inf d hu v hd A none 0 0 (a.eval x) 0 #[] w r1 n (ahy _) rfl;obtain⟨o,p⟩:=rS (w1:=w) hc inf.size 0 e g none rfl (cc.refl w) hl b;refine eD.gv (j8 hs rfl k) y ?_ p o;show bg _ _ _ _ _ _ _ _;unfold bg;rw[ahU (ahy _),aiM];refine⟨⟨_,_,_,rfl⟩,ahy _,λ_=>⟨by omega,?_⟩⟩;rw[bp]
 ·obtain⟨r1,_⟩:=q4 w (cc.refl w);obtain⟨_,n⟩:=q4 w.drew (cc.drew w);have k:=qA (P:=P) (w:=w) t f ty e inf z d hu v hd A H none 0 0 (a.eval x) m #[] news r1 rfl n alV l (by rw[ahx];exact E);rw[ahx]at k
  obtain⟨o,p⟩:=rS (w1:=w.drew.alloc (.cells (#[]++news++Builtin.zeroCells z.cells (grownCap w m 0 e - m)) e)) hc inf.size m e g (some (w.heap.size,0))
   ⟨ahy _,_,heap_alloc_new w.drew _,by simp [q1],λi j pv hi hj=>by
    obtain⟨u,B,J⟩:=q2 i j pv hi hj;have L:=(ahB.1 B).1;exact⟨u,by rw[ajr,ahx,ail L];exact B,J.c⟩⟩ (Br w _) hl b
  refine eD.gv (j8 hs rfl k) y ?_ p o;show bg _ _ _ _ _ _ _ _;unfold bg;rw[ahU (ahy _),aiM];refine⟨⟨_,_,_,rfl⟩,ahy _,λ_=>⟨by omega,?_⟩⟩;rw[bp];have M:=grownCap_ge w m 0 e;refine⟨_,grownCap w m 0 e,rfl,M,λ_=>by simp,_,e,_,heap_alloc_new w.drew _,?_⟩;simp only[ajj,rW,I,q1];simp only[ahx];have:grownCap w m 0 e*inf.size=m*inf.size+(grownCap w m 0 e - m)*inf.size:=by rw[<-ahK];congr 1;omega
  simp;omega
theorem NU (hT:da P T) (hc:Core μ h S w) (t E e sz bytes:Nat) (zero:List PV) (d:TypeDesc) (gf:T.get t=.slice e sz bytes zero) (U:P.underlying E=some d) (hd:(∃B,d=.slice B)\/d=.string)
  (s x:Operand) (id g off len n:Nat) (f:Nat->List PV) (hh:h[id]? =some (al.row g sz n e f)) (hs:bz μ h S w (.own id g off len) (a.eval s)) (m:Nat) (q:Nat->List PV) (xX:Src P μ h S w (a.eval x) sz m q) (V:∀(i j:Nat) (pv:PV),i<m->(q i)[j]? =some pv->dj pv=false)
  (F:(len+m)*bytes<=140737488355328)
  (W:K (.own id (g+1) 0 (len+m)) (h.set id (.row (g+1) sz (len+m) e (λi=>bif Nat.blt i len then f (off+i)else q (i - len))))):
  eD P ⟨dst,.call ⟨.builtin .append,#[s,x],#[t,E]⟩,ty,pos,after,guard⟩ a μ h S w K:=by
 obtain⟨hu,iB,inf,X,Y,qW,U8,hz,QR,S8,QS⟩:=hT.slice _ _ _ _ _ gf;have Z:=hT.bytes _ _ _ _ _ gf;subst qW U8;have hid:id<h.length:=(Is.1 hh).1;obtain⟨Fe,xW,o1,o2,o3,o4⟩:=pD (P:=P) hc id g off len inf.size n e f hh _ hs iB;obtain⟨Em,news,q1,q2,q3,q4⟩:=xX;have QW:=Lk Fe Em
 have G:∀{sl:Nat},off+sl<=n->∀(i j bF n':Nat) (B:TypeId) (f':Nat->List PV) (F':Nat->Prop),i<sl+m->(bif Nat.blt i sl then f (off+i)else q (i - sl))[j]? =some (.bu bF n' B f' F')->off+i<n/\(f (off+i))[j]? =some (.bu bF n' B f' F'):=λ{sl} UW i j bF n' B f' F' hi hj=>by
  by_cases C:i<sl
  ·have F:Nat.blt i sl=true:=by simpa using C
   rw[F]at hj;exact⟨by omega,hj⟩
  ·have F:Nat.blt i sl=false:=by
    cases hh:Nat.blt i sl with
    | true=>exact(C (by simpa using hh)).elim
    | false=>rfl
   rw[F]at hj;have:=V (i - sl) j _ alV hj;cases this
 have c:=hs.pT;unfold bg at c;rw[hh]at c;obtain⟨⟨sa,sl,l,y⟩,_,c⟩:=c;obtain⟨hle,c⟩:=c rfl
 have MQ:sl=len:=by
  obtain⟨v,_⟩:=o4 w (cc.refl w);rw[y]at v;simp [Builtin.lenOf]at v;exact v
 subst MQ;obtain⟨hl,aY⟩:=hc.heap id g _ n e f hh
 have JA:∀b base,μ id=some (b,base)->¬pr w b:=λb base z=>by
  rw[z]at c;obtain⟨_,_,_,_,_,M⟩:=c;exact M.yJ
 by_cases N:sl+m<=l
 ·-- in place
  obtain⟨r1,O⟩:=q4 w (cc.refl w);cases z:μ id with
  | none=>
   rw[z]at c aY;rw[y]at c;injection c with v e2 e3;subst v e2 e3;have hm:m=0:=by omega
   subst hm;have hn:news=#[]:=aix amn;subst hn;have H:=lG (P:=P) (w:=w) t E ty e inf d hu U hd Y none 0 0 (a.eval x) 0 #[] w r1 O (ahy _) rfl;obtain⟨I,J⟩:=yo hc id g (g+1) inf.size n e f (λi=>bif Nat.blt i 0 then f (off+i)else q (i - 0)) hh z (ajS g);refine eD.gv (j8 y rfl H) W ?_ J I;show bg _ _ _ _ _ _ _ _;unfold bg;rw[ain hid];refine⟨⟨_,_,_,rfl⟩,ahy _,λ_=>⟨by omega,?_⟩⟩;rw[z]
  | some p=>
   obtain⟨b,base⟩:=p;rw[z]at c aY;obtain⟨Q,cap,hv,Pd,R,M⟩:=c;rw[y]at hv;injection hv with v e2 e3;subst v e3;obtain⟨cur,D,vN,kl⟩:=bH.cells M aY
   have Lm:base+(off+l)*inf.size<=cur.size:=by
    obtain⟨Bi,B,z',o,L⟩:=M;rw[D]at o;injection o with o;injection o with o _ _;subst o;exact L
   rw[ahK]at Lm
   have key:∃r:Array Value,r.size=cur.size/\(match(some Q:Option Addr)with | some a=>(storeCells (a.add (sl*inf.size)) news.toList).run P w=.ok () (w.setRow b r) | none=>w.setRow b r=w)/\
     ∀k,r[k]? =if base+off*inf.size+sl*inf.size<=k/\k<base+off*inf.size+sl*inf.size+m*inf.size then news[k - (base+off*inf.size+sl*inf.size)]? else cur[k]?:=by
    rcases aiq m with h0 | h0
    ·subst h0;have hn:news=#[]:=aix amn;subst hn;refine⟨cur,rfl,?_,λk=>by rw[An alV]⟩;show(storeCells (Q.add (sl*inf.size)) []).run P w=.ok () (w.setRow b cur);rw[setRow_self w b cur e (0,0) D];rfl
    ·have R:=R alV;subst R;have hmul:(sl+m)*inf.size<=l*inf.size:=ahH _ N;rw[ahK]at hmul;have xV:=run_storeCells_at P b (base+off*inf.size+sl*inf.size) e news.toList 0 cur w D alX q3;rw[aiv]at xV;refine⟨(cur.toList.take (base+off*inf.size+sl*inf.size)++news.toList++cur.toList.drop (base+off*inf.size+sl*inf.size+news.toList.length)).toArray,?_,?_,λk=>?_⟩
     ·simp;omega
     ·show(storeCells ((⟨b,base+off*inf.size,none⟩:Addr).add (sl*inf.size)) news.toList).run P w=.ok () _;rw[Addr.add_lit];exact xV
     ·have aa:=uX cur.toList news.toList (base+off*inf.size+sl*inf.size) k alX;rw[ajl,aa];simp only[ahV,ais,q1]
   obtain⟨r,c1,c2,c3⟩:=key;have H:=lG (P:=P) (w:=w) t E ty e inf d hu U hd Y (some Q) sl l (a.eval x) m news (w.setRow b r) r1 O N c2;have hmul:(sl+m)*inf.size<=l*inf.size:=ahH _ N;rw[ahK]at hmul
   have lB:=ue (w1:=w.setRow b r) hc id g (g+1) inf.size n (sl+m) e f (λi=>bif Nat.blt i sl then f (off+i)else q (i - sl)) hh b (base+off*inf.size) r alV (λhe=>absurd he alV)
    (.inr ⟨base,cur,z,D,c1.symm⟩) (setRow_heap w b cur _ e _ D) (by rw[c1,ahK];omega) (λb' _ pW=>setRow_other w b b' _ pW) alW rfl rfl rfl QW JA
    (λi j pv hi hj=>by
     have LZ:j<inf.size:=by rw[<-QW i hi];exact(Is.1 hj).1
     rw[c3];by_cases C:i<sl
     ·have A:Nat.blt i sl=true:=by simpa using C
      rw[A]at hj;simp only[ajI]at hj;have oQ:(i+1)*inf.size<=sl*inf.size:=ahH _ C;rw[ahK]at oQ;rw[An alV];obtain⟨u,o,L⟩:=kl (off+i) j pv alV hj;refine⟨u,?_,L⟩;rw[<-o];congr 1;rw[ahK];omega
     ·have A:Nat.blt i sl=false:=by
       cases ag:Nat.blt i sl with
       | true=>exact(C (by simpa using ag)).elim
       | false=>rfl
      rw[A]at hj;simp only[ajv]at hj;have v:i*inf.size=sl*inf.size+(i - sl)*inf.size:=by rw[<-ahK];congr 1;omega
      have e2:(i - sl+1)*inf.size<=m*inf.size:=ahH _ alV;rw[ahK]at e2;rw[As alV];obtain⟨u,o,L⟩:=q2 (i - sl) j pv alV hj;exact⟨u,by rw[<-o];congr 1;omega,L⟩) off (G alV)
   obtain⟨I,J⟩:=lB;refine eD.gv (j8 y rfl H) W ?_ J I;show bg _ _ _ _ _ _ _ _;unfold bg;rw[ain hid];refine⟨⟨_,_,_,rfl⟩,ahy _,λ_=>⟨by omega,?_⟩⟩;rw[bp];refine⟨Q,l,rfl,N,λXH=>?_,r,e,_,setRow_heap w b cur _ e _ D,?_⟩
   ·rw[R XH,Nat.zero_mul,aiv]
   ·rw[c1,ahx];omega
 ·-- it ai
  obtain⟨r1,_⟩:=q4 w (cc.refl w);obtain⟨_,O⟩:=q4 w.drew (cc.drew w);obtain⟨_,s2⟩:=o4 w.drew (cc.drew w);rw[y]at s2;have H:=qA (P:=P) (w:=w) t E ty e inf X d hu U hd Y hz sa sl l (a.eval x) m xW news r1 s2 O alV Z F;have OL:=grownCap_ge w (sl+m) l e
  have lB:=ue (w1:=w.drew.alloc (.cells (xW++news++Builtin.zeroCells X.cells (grownCap w (sl+m) l e - (sl+m))) e)) hc id g (g+1) inf.size n (sl+m) e f (λi=>bif Nat.blt i sl then f (off+i)else q (i - sl)) hh
   w.heap.size 0 (xW++news++Builtin.zeroCells X.cells (grownCap w (sl+m) l e - (sl+m))) alV (λhe=>absurd he alV) (.inl (ahy _)) (heap_alloc_new w.drew _)
   (by simp only[ajj,o1,q1,ahK];omega) (λb bO _=>heap_alloc_old w.drew _ bO) alW rfl rfl rfl QW JA
   (λi j pv hi hj=>by
    rw[ahx];exact Eu o1 q1 o2 q2 Fe Em i j pv hi hj) off (G alV)
  obtain⟨I,J⟩:=lB;refine eD.gv (j8 y rfl H) W ?_ J I;show bg _ _ _ _ _ _ _ _;unfold bg;rw[ain hid];refine⟨⟨_,_,_,rfl⟩,ahy _,λ_=>⟨by omega,?_⟩⟩;rw[bp];refine⟨_,grownCap w (sl+m) l e,rfl,OL,λ_=>by simp,_,e,_,heap_alloc_new w.drew _,?_⟩;simp only[ajj,rW,QR,o1,q1,ahx];have:grownCap w (sl+m) l e*inf.size=(sl+m)*inf.size+(grownCap w (sl+m) l e - (sl+m))*inf.size:=by rw[<-ahK];congr 1;omega
  rw[ahK]at this;omega
theorem eD.WG {o:Oper} {a:Act} {K:PV->List al->Prop} {μ1:Mu} {h1:List al} (hf:Fr μ h S w μ1 h1 S w) (hm:sA μ h S w) (hA:eD P o a μ1 h1 S w K):eD P o a μ h S w K:=by
 intro next Q hn
 exact hA next Q λv val h' μ' S' w' b hv hc c=>hn v val h' μ' S' w' b hv hc (hf.trans c)
theorem BZ (hT:da P T) (hc:Core μ h S w) (t G e sz bytes:Nat) (zero:List PV) (d:TypeDesc) (gf:T.get t=.slice e sz bytes zero) (vO:P.underlying G=some d) (hd:(∃z,d=.slice z)\/d=.string)
  (s x:Operand) (id g off len n:Nat) (f:Nat->List PV) (hh:h[id]? =some (al.row g sz n e f)) (hs:bz μ h S w (.own id g off len) (a.eval s)) (E:Nat) (v:E≠id) (g2 n2:Nat) (Q:TypeId) (q2:Nat->List PV) (o m:Nat) (Lj:h[E]? =some (al.row g2 sz n2 Q q2)) (WI:o+m<=n2) (xX:Src P μ h S w (a.eval x) sz m (λi=>q2 (o+i)))
  (H:(len+m)*bytes<=140737488355328)
  (hK:K (.own id (g+1) 0 (len+m)) ((h.set id (.row (g+1) sz (len+m) e (λi=>bif Nat.blt i len then f (off+i)else q2 (o+(i - len))))).set E .dead)):
  eD P ⟨dst,.call ⟨.builtin .append,#[s,x],#[t,G]⟩,ty,pos,after,guard⟩ a μ h S w K:=by
 obtain⟨hu,iB,inf,zv,ma,qW,U8,hz,QR,S8,QS⟩:=hT.slice _ _ _ _ _ gf;have aa:=hT.bytes _ _ _ _ _ gf;subst qW U8;have hid:id<h.length:=(Is.1 hh).1;obtain⟨Fe,xW,o1,o2,o3,o4⟩:=pD (P:=P) hc id g off len inf.size n e f hh _ hs iB;obtain⟨Em,news,q1,I,q3,q4⟩:=xX;have QW:=Lk Fe Em
 have J:∀{sl:Nat},off+sl<=n->∀(i j R U:Nat) (z:TypeId) (V:Nat->List PV) (W:Nat->Prop),i<sl+m->(bif Nat.blt i sl then f (off+i)else q2 (o+(i - sl)))[j]? =some (.bu R U z V W)->(i<sl/\off+i<n/\(f (off+i))[j]? =some (.bu R U z V W))\/(sl<=i/\o+(i - sl)<n2/\(q2 (o+(i - sl)))[j]? =some (.bu R U z V W)):=λ{sl} UW i j R U z V W hi hj=>by
  by_cases A:i<sl
  ·have H:Nat.blt i sl=true:=by simpa using A
   rw[H]at hj;exact .inl ⟨A,by omega,hj⟩
  ·have H:Nat.blt i sl=false:=by
    cases hh:Nat.blt i sl with
    | true=>exact(A (by simpa using hh)).elim
    | false=>rfl
   rw[H]at hj;exact .inr ⟨by omega,by omega,hj⟩
 have c:=hs.pT;unfold bg at c;rw[hh]at c;obtain⟨⟨sa,sl,l,B⟩,_,c⟩:=c;obtain⟨hle,c⟩:=c rfl
 have MQ:sl=len:=by
  obtain⟨y,_⟩:=o4 w (cc.refl w);rw[B]at y;simp [Builtin.lenOf]at y;exact y
 subst MQ;obtain⟨hl,aY⟩:=hc.heap id g _ n e f hh
 have JA:∀b base,μ id=some (b,base)->¬pr w b:=λb base C=>by
  rw[C]at c;obtain⟨_,_,_,_,_,X⟩:=c;exact X.yJ
 by_cases Y:sl+m<=l
 ·-- in place
  obtain⟨r1,Z⟩:=q4 w (cc.refl w);cases C:μ id with
  | none=>
   rw[C]at c aY;rw[B]at c;injection c with y e2 e3;subst y e2 e3;have hm:m=0:=by omega
   subst hm;have hn:news=#[]:=aix amn;subst hn;have L:=lG (P:=P) (w:=w) t G ty e inf d hu vO hd ma none 0 0 (a.eval x) 0 #[] w r1 Z (ahy _) rfl;obtain⟨ag,ai⟩:=yo hc id g (g+1) inf.size n e f (λi=>bif Nat.blt i 0 then f (off+i)else q2 (o+(i - 0))) hh C (ajS g);obtain⟨an,M⟩:=Qn ai E g2 inf.size n2 Q q2 (by rw[ahQ (aiI v)];exact Lj);have N:=ag.trans an;refine eD.gv (j8 B rfl L) hK ?_ M N;show bg _ _ _ _ _ _ _ _;unfold bg;rw[ahQ v,ain hid];refine⟨⟨_,_,_,rfl⟩,ahy _,λ_=>⟨by omega,?_⟩⟩;rw[C]
  | some p=>
   obtain⟨b,base⟩:=p;rw[C]at c aY;obtain⟨ad,cap,hv,Pd,vz,X⟩:=c;rw[B]at hv;injection hv with y e2 e3;subst y e3;obtain⟨cur,F,vN,kl⟩:=bH.cells X aY
   have Lm:base+(off+l)*inf.size<=cur.size:=by
    obtain⟨Bi,z,z',q,O⟩:=X;rw[F]at q;injection q with q;injection q with q _ _;subst q;exact O
   rw[ahK]at Lm
   have key:∃r:Array Value,r.size=cur.size/\(match(some ad:Option Addr)with | some a=>(storeCells (a.add (sl*inf.size)) news.toList).run P w=.ok () (w.setRow b r) | none=>w.setRow b r=w)/\
     ∀k,r[k]? =if base+off*inf.size+sl*inf.size<=k/\k<base+off*inf.size+sl*inf.size+m*inf.size then news[k - (base+off*inf.size+sl*inf.size)]? else cur[k]?:=by
    rcases aiq m with h0 | h0
    ·subst h0;have hn:news=#[]:=aix amn;subst hn;refine⟨cur,rfl,?_,λk=>by rw[An alV]⟩;show(storeCells (ad.add (sl*inf.size)) []).run P w=.ok () (w.setRow b cur);rw[setRow_self w b cur e (0,0) F];rfl
    ·have vz:=vz alV;subst vz;have hmul:(sl+m)*inf.size<=l*inf.size:=ahH _ Y;rw[ahK]at hmul;have xV:=run_storeCells_at P b (base+off*inf.size+sl*inf.size) e news.toList 0 cur w F alX q3;rw[aiv]at xV;refine⟨(cur.toList.take (base+off*inf.size+sl*inf.size)++news.toList++cur.toList.drop (base+off*inf.size+sl*inf.size+news.toList.length)).toArray,?_,?_,λk=>?_⟩
     ·simp;omega
     ·show(storeCells ((⟨b,base+off*inf.size,none⟩:Addr).add (sl*inf.size)) news.toList).run P w=.ok () _;rw[Addr.add_lit];exact xV
     ·have a0:=uX cur.toList news.toList (base+off*inf.size+sl*inf.size) k alX;rw[ajl,a0];simp only[ahV,ais,q1]
   obtain⟨r,c1,c2,c3⟩:=key;have L:=lG (P:=P) (w:=w) t G ty e inf d hu vO hd ma (some ad) sl l (a.eval x) m news (w.setRow b r) r1 Z Y c2;have hmul:(sl+m)*inf.size<=l*inf.size:=ahH _ Y;rw[ahK]at hmul
   have lB:=G7 (w1:=w.setRow b r) hc id E v g2 inf.size n2 Q q2 Lj sl g (g+1) inf.size n (sl+m) e f (λi=>bif Nat.blt i sl then f (off+i)else q2 (o+(i - sl))) hh b (base+off*inf.size) r alV (λhe=>absurd he alV)
    (.inr ⟨base,cur,C,F,c1.symm⟩) (setRow_heap w b cur _ e _ F) (by rw[c1,ahK];omega) (λb' _ v=>setRow_other w b b' _ v) alW rfl rfl rfl QW JA
    (λi j pv hi hj=>by
     have LZ:j<inf.size:=by rw[<-QW i hi];exact(Is.1 hj).1
     rw[c3];by_cases A:i<sl
     ·have D:Nat.blt i sl=true:=by simpa using A
      rw[D]at hj;simp only[ajI]at hj;have oQ:(i+1)*inf.size<=sl*inf.size:=ahH _ A;rw[ahK]at oQ;rw[An alV];obtain⟨u,q,O⟩:=kl (off+i) j pv alV hj;refine⟨u,?_,O⟩;rw[<-q];congr 1;rw[ahK];omega
     ·have D:Nat.blt i sl=false:=by
       cases a1:Nat.blt i sl with
       | true=>exact(A (by simpa using a1)).elim
       | false=>rfl
      rw[D]at hj;simp only[ajv]at hj;have y:i*inf.size=sl*inf.size+(i - sl)*inf.size:=by rw[<-ahK];congr 1;omega
      have e2:(i - sl+1)*inf.size<=m*inf.size:=ahH _ alV;rw[ahK]at e2;rw[As alV];obtain⟨u,q,O⟩:=I (i - sl) j pv alV hj;exact⟨u,by rw[<-q];congr 1;omega,O⟩) off o (J alV)
   obtain⟨N,M⟩:=lB;refine eD.gv (j8 B rfl L) hK ?_ M N;show bg _ _ _ _ _ _ _ _;unfold bg;rw[ahQ v,ain hid];refine⟨⟨_,_,_,rfl⟩,ahy _,λ_=>⟨by omega,?_⟩⟩;rw[bp];refine⟨ad,l,rfl,Y,λXH=>?_,r,e,_,setRow_heap w b cur _ e _ F,?_⟩
   ·rw[vz XH,Nat.zero_mul,aiv]
   ·rw[c1,ahx];omega
 ·-- it a2
  obtain⟨r1,_⟩:=q4 w (cc.refl w);obtain⟨_,Z⟩:=q4 w.drew (cc.drew w);obtain⟨_,s2⟩:=o4 w.drew (cc.drew w);rw[B]at s2;have L:=qA (P:=P) (w:=w) t G ty e inf zv d hu vO hd ma hz sa sl l (a.eval x) m xW news r1 s2 Z alV aa H;have OL:=grownCap_ge w (sl+m) l e
  have lB:=G7 (w1:=w.drew.alloc (.cells (xW++news++Builtin.zeroCells zv.cells (grownCap w (sl+m) l e - (sl+m))) e)) hc id E v g2 inf.size n2 Q q2 Lj sl g (g+1) inf.size n (sl+m) e f (λi=>bif Nat.blt i sl then f (off+i)else q2 (o+(i - sl))) hh
   w.heap.size 0 (xW++news++Builtin.zeroCells zv.cells (grownCap w (sl+m) l e - (sl+m))) alV (λhe=>absurd he alV) (.inl (ahy _)) (heap_alloc_new w.drew _)
   (by simp only[ajj,o1,q1,ahK];omega) (λb bO _=>heap_alloc_old w.drew _ bO) alW rfl rfl rfl QW JA
   (λi j pv hi hj=>by
    rw[ahx];exact Eu o1 q1 o2 I Fe Em i j pv hi hj) off o (J alV)
  obtain⟨N,M⟩:=lB;refine eD.gv (j8 B rfl L) hK ?_ M N;show bg _ _ _ _ _ _ _ _;unfold bg;rw[ahQ v,ain hid];refine⟨⟨_,_,_,rfl⟩,ahy _,λ_=>⟨by omega,?_⟩⟩;rw[bp];refine⟨_,grownCap w (sl+m) l e,rfl,OL,λ_=>by simp,_,e,_,heap_alloc_new w.drew _,?_⟩;simp only[ajj,rW,QR,o1,q1,ahx];have:grownCap w (sl+m) l e*inf.size=(sl+m)*inf.size+(grownCap w (sl+m) l e - (sl+m))*inf.size:=by rw[<-ahK];congr 1;omega
  rw[ahK]at this;omega
theorem I1 (u:da P T) (hc:Core μ h S w) (W:∀t,bz μ h S w (env t) (a.tmps.getD t undef)) (args:Array Operand) (H:Array TypeId) (hp:pop P T (.call ⟨.builtin .append,args,H⟩) env h K):
  eD P ⟨dst,.call ⟨.builtin .append,args,H⟩,ty,pos,after,guard⟩ a μ h S w K:=by
 obtain⟨args⟩:=args;obtain⟨H⟩:=H;simp only[pop]at hp;split at hp
 ·rename_i s x t C;have hs:=bM W s;have b:=bM W x
  have main:∀(e sz bytes:Nat) (zero:List PV) (d:TypeDesc),T.get t=.slice e sz bytes zero->P.underlying C=some d->((∃c,d=.slice c)\/d=.string)->NV e sz bytes (ev env s) (ev env x) h K->
    eD P ⟨dst,.call ⟨.builtin .append,#[s,x],#[t,C]⟩,ty,pos,after,guard⟩ a μ h S w K:=by
   intro e sz bytes zero d k l hd hp;have E:=(u.slice _ _ _ _ _ k).2.1;cases hp with
   | move hp=>
    unfold Ln at hp;split at hp
    ·rename_i o TV m v hex;rw[v]at hs;rw[hex]at b;split at hp
     ·rename_i y oZ n2 c q hg;obtain⟨rfl,hp⟩:=hp;replace hp:=bw hp;obtain⟨p,z,A⟩:=hp;obtain rfl:=ahz p;have r:=dz hg;have I:o<h.length:=(Is.1 r).1;have D:=pD (P:=P) hc o y 0 m sz n2 c q r _ b E
      have J:0+m<=n2:=by
       have B:=b.pT;unfold bg at B;rw[r]at B;exact(B.2.2 rfl).1
      obtain⟨F,X⟩:=rS (w1:=w) hc sz 0 e (λ_=>[]) none rfl (cc.refl w) (λi hi=>absurd hi (ahP _)) (λi j pv hi=>absurd hi (ahP _));have Y:(h++[al.row 0 sz 0 e (λ_=>[])])[h.length]? =some (.row 0 sz 0 e (λ_=>[])):=by simp
      have G:(h++[al.row 0 sz 0 e (λ_=>[])])[o]? =some (.row y sz n2 c q):=by rw[aia I];exact r
      have Ev:bz (oV μ h.length none) (h++[al.row 0 sz 0 e (λ_=>[])]) S w (.own h.length 0 0 0) (a.eval s):=by
       rw[hs.rP];show bg _ _ w h.length 0 0 0 _;unfold bg;rw[Y,bp];exact⟨⟨_,_,_,rfl⟩,ahy _,λ_=>⟨ahy _,rfl⟩⟩
      have L:=bz.fr F hc.ok b;have M:=pD (P:=P) X o y 0 m sz n2 c q G _ L E
      have key:=BZ (dst:=dst) (pos:=pos) (after:=after) (guard:=guard) (ty:=ty) (K:=K) u X t C e sz bytes zero d k l hd s x h.length 0 0 0 0 (λ_=>[]) Y Ev o alV y n2 c q 0 m G J M (by rw[ahx];exact z) (by
       have N:(λi=>bif Nat.blt i 0 then([]:List PV)else q (0+(i - 0)))=q:=by funext i;rw[ahx];rfl
       rw[N,ahx m];exact A)
      exact eD.WG F hc.ok key
     ·exact alc
    ·rename_i id gen len o TV m v hex;rw[v]at hs;rw[hex]at b;split at hp
     ·rename_i g Z n c f hg;split at hp
      ·rename_i y oZ n2 e2 q O;obtain⟨rfl,rfl,hp⟩:=hp;replace hp:=bw hp;obtain⟨p,z,A⟩:=hp;simp only[No,aid]at p;obtain⟨h1,h2,h3,h4⟩:=p;obtain rfl:=ahz h1;obtain rfl:=ahz h2;obtain rfl:=ahz h3;have pW:o≠id:=Nat.ne_of_beq_eq_false h4;have r:=dz O
       have J:0+m<=n2:=by
        have B:=b.pT;unfold bg at B;rw[r]at B;exact(B.2.2 rfl).1
       have D:=pD (P:=P) hc o y 0 m sz n2 e2 q r _ b E;refine BZ u hc t C e sz bytes zero d k l hd s x id g 0 len n f (dz hg) hs o pW y n2 e2 q 0 m r J D z ?_;have N:(λi=>bif Nat.blt i len then f (0+i)else q (0+(i - len)))=fjn f len q:=by funext i;rw[ahx,ahx];rfl
       rw[N];exact A
      ·exact alc
     ·exact alc
    ·exact alc
   | keep hp=>
   unfold xB at hp;split at hp
   ·rename_i v;rw[v]at hs;obtain⟨_,g,⟨z,m,f',rfl,Q,A⟩,D,R⟩:=Bq (P:=P) hc _ _ b sz E _ hp;exact eD.rows (Ll u hc t C e sz bytes zero d k l hd s x hs.rP m g D R z ⟨_,dE.snoc _ _ _ _ _ _ _ Q,A⟩)
   ·rename_i id gen off len v;rw[v]at hs;split at hp
    ·rename_i g Z n c f hg;obtain⟨rfl,hp⟩:=hp;replace hp:=bw hp;obtain⟨p,hp⟩:=hp;simp only[No]at p;obtain rfl:=ahz p.1;obtain rfl:=ahz p.2;obtain⟨m,q,⟨z,n',f',rfl,Q,A⟩,D,U⟩:=Bq (P:=P) hc _ _ b sz E _ hp;exact eD.rows (NU u hc t C e sz bytes zero d k l hd s x id g off len n f (dz hg) hs m q D U z ⟨_,dE.set _ _ _ _ _ _ _ _ Q,A⟩)
    ·exact alc
   ·exact alc
  split at hp
  ·rename_i e sz bytes zero c Z aa ad k V;exact main e sz bytes zero _ k (u.slice _ _ _ _ _ V).1 (.inl ⟨_,rfl⟩) hp
  ·rename_i e sz bytes zero k V;exact main e sz bytes zero _ k (u.str _ V) (.inr rfl) hp
  ·exact alc
 ·exact alc
theorem bz.WK {pv:PV} {v:Value} (a:jz μ h S w pv v):bz μ h S w pv v:=by
 cases pv with
 | eG ps=>exact(show False from a).elim
 | _=>exact a
theorem NW (hc:Core μ h S w) (o:∀t,bz μ h S w (env t) (a.tmps.getD t undef)) (g:Operand) (args:Array Operand) (l:Array TypeId) (hp:pop P T (.call ⟨.value g,args,l⟩) env h K):
  eD P ⟨dst,.call ⟨.value g,args,l⟩,ty,pos,after,guard⟩ a μ h S w K:=by
 have m:=bM o g;simp only[pop]at hp;split at hp
 ·rename_i f d;rw[d]at m;replace hp:=bw hp;obtain⟨i,R,⟨⟨fn,c,q,r,s⟩,hA⟩,y⟩:=hp;simp only[ahC]at i
  have z:=hA w (args.map a.eval) μ S hc.heap hc.ok alW (λj pv hj=>by
   rw[ahT]at hj;cases b:args.toList[j]? with
   | none=>rw[b]at hj;cases hj
   | some x=>
    rw[b]at hj;injection hj with hj;subst hj;refine⟨a.eval x,by rw[ajq];simp only[ahV]at b;rw[b];rfl,?_⟩;have hv:=bM o x;have k:=i x (ahJ b);cases he:ev env x with
    | eG ps=>rw[he]at k;cases k
    | _=>rw[he]at hv;exact hv)
  intro next Q hn
  have A:(execOp a.eval ⟨dst,.call ⟨.value g,args,l⟩,ty,pos,after,guard⟩).run P w=.ok (.enter f (args.map a.eval)) w:=by
   simp only[execOp,resolve,m.S5,Deferred.ofValue,invoke,callFunc,Sem.run_bind,Sem.run_pure,Result.andThen_ok,Array.append_empty,ajr];have B:¬fn.name= "runtime.NumGoroutine" :=by simpa using s
   simp [program,Sem.run,Result.andThen,q,B,r]
  unfold Oper.wp;rw[A];show Calls P f (args.map a.eval) w _;refine z.mono λe w' ⟨v,res,h',μ',S',he,C,hv,hH,hM,D⟩=>?_;subst he;exact hn res v h' μ' S' w' (y res h' C) hv ⟨hH,hM⟩ D
 ·rename_i f bJ d;rw[d]at m;replace hp:=bw hp;obtain⟨i,R,⟨⟨fn,c,q,r,s⟩,hA⟩,y⟩:=hp;simp only[ahC]at i;obtain⟨vs,E,F,G⟩:=(show qv μ h w f bJ (a.eval g)from m)
  have z:=hA w (args.map a.eval++vs) μ S hc.heap hc.ok (by simp [F]) (λj pv hj=>by
   by_cases n:j<args.size
   ·rw[aia (by simpa using n),ahT]at hj;cases b:args.toList[j]? with
    | none=>rw[b]at hj;cases hj
    | some x=>
     rw[b]at hj;injection hj with hj;subst hj;refine⟨a.eval x,by rw[ail (by simpa using n),ajq];simp only[ahV]at b;rw[b];rfl,?_⟩;have hv:=bM o x;have k:=i x (ahJ b);cases he:ev env x with
     | eG ps=>rw[he]at k;cases k
     | _=>rw[he]at hv;exact hv
   ·rw[ahU (by simpa using Nat.le_of_not_lt n),ahT]at hj;simp only[aiY,ais]at hj;cases b:bJ[j - args.size]? with
    | none=>rw[b]at hj;cases hj
    | some p=>
     rw[b]at hj;injection hj with hj;subst hj;obtain⟨u,q1,q2⟩:=G _ p b;exact⟨u,by rw[Array.getElem?_append_right (by simpa using Nat.le_of_not_lt n)];simpa using q1,q2⟩)
  intro next Q hn
  have A:(execOp a.eval ⟨dst,.call ⟨.value g,args,l⟩,ty,pos,after,guard⟩).run P w=.ok (.enter f (args.map a.eval++vs)) w:=by
   simp only[execOp,resolve,E,Deferred.ofValue,invoke,callFunc,Sem.run_bind,Sem.run_pure,Result.andThen_ok,ajr];have B:¬fn.name= "runtime.NumGoroutine" :=by simpa using s
   simp [program,Sem.run,Result.andThen,q,B,r]
  unfold Oper.wp;rw[A];show Calls P f (args.map a.eval++vs) w _;refine z.mono λe w' ⟨v,res,h',μ',S',he,C,hv,hH,hM,D⟩=>?_;subst he;exact hn res v h' μ' S' w' (y res h' C) hv ⟨hH,hM⟩ D
 ·exact alc
theorem Au:∀(z xs d:List PV) (b:Bool),GJ z xs d=some b->b=true->∀(j:Nat) (p q:PV),xs[j]? =some p->d[j]? =some q->p=q/\((∃k n,p=.int k n)\/(∃b,p=.bool b)\/∃s,p=.str s)
 | z,xs,d,b,a,f,j,p,q,hp,hq=>by
  subst f;unfold GJ at a;split at a
  ·simp at hp
  ·obtain⟨hg,c,hc,e⟩:=cj a;simp only[No]at hg;obtain rfl:=ez hg.1;obtain rfl:=ez hg.2;have e:=e.symm;simp only[No,aio]at e;obtain⟨rfl,rfl⟩:=e;cases j with
   | zero=>simp at hp hq;subst hp;subst hq;exact⟨rfl,.inl ⟨_,_,rfl⟩⟩
   | succ j=>exact Au _ _ _ _ hc rfl j p q amj amr
  ·obtain⟨hg,c,hc,e⟩:=cj a;have e:=e.symm;simp only[No,aio]at e;obtain⟨rfl,rfl⟩:=e;cases j with
   | zero=>simp at hp hq;subst hp;subst hq;exact⟨rfl,.inr (.inl ⟨_,rfl⟩)⟩
   | succ j=>exact Au _ _ _ _ hc rfl j p q amj amr
  ·obtain⟨hg,c,hc,e⟩:=cj a;have e:=e.symm;simp only[No,aio]at e;obtain⟨rfl,rfl⟩:=e;cases j with
   | zero=>simp at hp hq;subst hp;subst hq;exact⟨rfl,.inr (.inr ⟨_,rfl⟩)⟩
   | succ j=>exact Au _ _ _ _ hc rfl j p q amj amr
  ·cases a
theorem Av:∀(z xs d:List PV) (b:Bool),GJ z xs d=some b->d.length=xs.length
 | z,xs,d,b,a=>by
  unfold GJ at a;split at a
  ·rfl
  ·obtain⟨_,c,hc,_⟩:=cj a;simp [Av _ _ _ c hc]
  ·obtain⟨_,c,hc,_⟩:=cj a;simp [Av _ _ _ c hc]
  ·obtain⟨_,c,hc,_⟩:=cj a;simp [Av _ _ _ c hc]
  ·cases a
theorem NX (s:List UInt8):((ByteArray.mk ⟨s⟩)==(ByteArray.mk ⟨s⟩))=true:=by
 show((Array.mk s)==(Array.mk s))=true;simp
theorem Bs (n:Nat) {p:PV} {u v:Value} (hp:(∃k n,p=.int k n)\/(∃b,p=.bool b)\/∃s,p=.str s) (hu:vA p u) (hv:bK μ h S w p v):Instr.sameBits n u v=true:=by
 rcases hp with⟨k,m,rfl⟩ | ⟨b,rfl⟩ | ⟨s,rfl⟩
 ·have hu:u=_:=hu;have hv:aR S w (.int k m) v:=hv;cases hv;subst hu;cases n<;>simp [Instr.sameBits]
 ·have hu:u=_:=hu;have hv:aR S w (.bool b) v:=hv;cases hv;subst hu;cases n<;>simp [Instr.sameBits]
 ·have hu:u=_:=hu;have hv:aR S w (.str s) v:=hv;cases hv;subst hu;cases n<;>simp [Instr.sameBits,NX]
theorem TW {ti:TI} {k kp:PV} {key d:Value} (f:bz μ h S w k key) (hs:tF kp d) (hq:kA ti k kp=some true):Instr.sameBits 10000 d key=true:=by
 unfold kA at hq;split at hq
 ·obtain⟨hg,c,hc,e⟩:=cj hq;simp only[No]at hg;obtain rfl:=ez hg.1;obtain rfl:=ez hg.2;have e:=e.symm;simp only[No,aio]at e;obtain⟨rfl,_⟩:=e;exact Bs (μ:=μ) (h:=h) (S:=S) (w:=w) 10000 (.inl ⟨_,_,rfl⟩) hs f
 ·have hq:=aim hq;rw[aio]at hq;subst hq;exact Bs (μ:=μ) (h:=h) (S:=S) (w:=w) 10000 (.inr (.inr ⟨_,rfl⟩)) hs f
 ·split at hq
  ·rename_i z xs g _ _;obtain⟨m,rfl,n,o⟩:=(show jz μ h S w (.agg xs) key from f);obtain⟨i,rfl,y1,y2⟩:=(show ∃vs:Array Value,d=.agg vs/\vs.size=g.length/\∀(j:Nat) (pv:PV),g[j]? =some pv->∃u:Value,vs[j]? =some u/\vA pv u from hs);have hl:=Av _ _ _ _ hq;rw[show 10000=9999+1 from rfl,Instr.sameBits];rw[No];refine⟨by rw[aio,n,y1,hl],ahC.2 (λp hp=>?_)⟩;obtain⟨j,hj,rfl⟩:=aiw.1 hp;have q:=hj;rw[List.length_zip,ais,ais]at q;have a:j<xs.length:=by omega
   have b:j<g.length:=by omega
   obtain⟨r,e2⟩:=Au _ _ _ _ hq rfl j _ _ (abF a) (abF b);obtain⟨u,hu,l⟩:=y2 j _ (abF b);obtain⟨v,hv,s⟩:=o j _ (abF a);rw[<-r]at l;have:=Bs 9999 e2 l s;rw[List.getElem_zip];simp only[Array.getElem_toList];have h1:i[j]'alV=u:=by rw[ahX alV]at hu;exact aim hu
   have h2:m[j]'alV=v:=by rw[ahX alV]at hv;exact aim hv
   rw[h1,h2];exact this
  ·cases hq
 ·cases hq
theorem TX {w1:World} (hc:Core μ h S w) (id g sz n l:Nat) (e:TypeId) (f m:Nat->List PV) (hh:h[id]? =some (al.row g sz n e f)) (b base:Nat) (es:Array MapEntry) (c:Nat) (W:μ id=some (b,base))
  (r:w.heap[b]? =some (.map es c)) (N:Array MapEntry) (c1:Nat) (hw:w1.heap[b]? =some (.map N c1)) (G:∀a,a≠b->w1.heap[a]? =w.heap[a]?) (vC:w1.heap.size=w.heap.size) (X:w1.os=w.os)
  (KP:w1.tape=w.tape) (ND:w1.output=w.output) (hl:∀i,i<l->(m i).length=sz)
  (O:N.size=l/\∀i,i<l->∃(kp P:PV) (en:MapEntry),m i=[kp,P]/\kO kp=true/\kO P=true/\N[i]? =some en/\tF kp en.key/\tF P en.val):
  Fr μ h S w μ (h.set id (.row (g+1) sz l e m)) S w1/\Core μ (h.set id (.row (g+1) sz l e m)) S w1:=by
 have hid:id<h.length:=(Is.1 hh).1;have Q:(h.set id (al.row (g+1) sz l e m))[id]? =some (al.row (g+1) sz l e m):=by simp [hid]
 have t:∀j,j≠id->(h.set id (al.row (g+1) sz l e m))[j]? =h[j]?:=λj hj=>by rw[ahQ (aiI hj)]
 have XO:CV μ h b:=⟨id,g,sz,n,e,f,base,hh,W⟩;have AO:cf μ h b:=.inl XO
 have yT:∀a,CV μ (h.set id (al.row (g+1) sz l e m)) a->CV μ h a:=λa s=>by
  obtain⟨j,u,A,B,C,D,oW,hj,hm⟩:=s;by_cases d:j=id
  ·subst d;exact⟨j,g,sz,n,e,f,oW,hh,hm⟩
  ·rw[t j d]at hj;exact⟨j,u,A,B,C,D,oW,hj,hm⟩
 have R:∀j x y b,cV (h.set id (al.row (g+1) sz l e m)) j x y b->cV h j x y b:=λj x y b ⟨u,A,B,C,D,H,I,J,K,F',q1,q2,q3,q4⟩=>by
  by_cases d:j=id
  ·subst d;rw[Q]at q1;injection q1 with q1;injection q1 with T e2 L U M;subst L M;obtain⟨kp,P,en,r1,r2,r3,_⟩:=O.2 x q2;rw[r1]at q3
   match y,q3 with
   | 0,q3=>simp at q3;rw[q3]at r2;cases r2
   | 1,q3=>simp at q3;rw[q3]at r3;cases r3
   | y+2,q3=>simp at q3
  ·rw[t j d]at q1;exact alQ
 have Y:∀a,cf μ (h.set id (al.row (g+1) sz l e m)) a->cf μ h a:=λa s=>by
  rcases s with s | ⟨x,y,z,s⟩
  ·exact .inl (yT _ s)
  ·exact .inr ⟨x,y,z,R _ _ _ _ s⟩
 have um:∀j x y a,cV h j x y a->w1.heap[a]? =w.heap[a]?:=λj x y a E=>G a (by
  rintro rfl;exact hc.ok.hv a XO j x y E)
 have Z:Fr μ h S w μ (h.set id (.row (g+1) sz l e m)) S w1:=by
  refine⟨by simp,λa _ wo=>G a (λhe=>wo (he▸AO)),λ_ r=>r,λ_ r=>.inl r,λa s=>.inl (Y a s),by omega,X,KP,ND,λj u A B C D hj=>?_,λj hj=>?_,λa k _ dy=>?_,λj u A B C D a oC hj hm nF=>?_,λa j x y E nF=>let⟨F,c2,q⟩:=nF;⟨F,c2,(um j x y a E).trans q⟩⟩
  ·by_cases d:j=id
   ·subst d;rw[hh]at hj;injection hj with hj;injection hj with T e2 L U M;subst T e2 L U M;rw[Q];exact⟨by omega,λhe=>absurd he alV⟩
   ·rw[t j d,hj];exact alN
  ·have d:j≠id:=by rintro rfl;rw[hh]at hj;cases hj
   rw[t j d];exact hj
  ·have pW:a≠b:=by
    rintro rfl;exact dy.yJ ⟨es,c,r⟩
   exact jV.of_same (G a pW) dy
  ·have hex:∃g' H I J K,(h.set id (al.row (g+1) sz l e m))[j]? =some (al.row g' H I J K):=by
    by_cases d:j=id
    ·subst d;exact⟨_,_,_,_,_,Q⟩
    ·exact⟨_,_,_,_,_,(t j d).trans hj⟩
   refine⟨?_,.inr ⟨hex,hm⟩⟩;by_cases V:a=b
   ·subst V;exact⟨N,c1,hw⟩
   ·obtain⟨F,c2,q⟩:=nF;exact⟨F,c2,(G a V).trans q⟩
 refine⟨Z,⟨λj u A B C D hj=>?_,⟨λb r=>hc.ok.apart b (Y b r),λb r=>by rw[vC];exact hc.ok.lt b (Y b r),λb r=>by rw[vC];exact hc.ok.slt b r,?_,hc.ok.Bj Z,λb r x y z E=>hc.ok.hv b (yT b r) x y z (R _ _ _ _ E),λb _ _ _ _ _ _ E hy=>hc.ok.hh b _ _ _ _ _ _ (R _ _ _ _ E) (R _ _ _ _ hy)⟩⟩⟩
 ·by_cases d:j=id
  ·subst d;rw[Q]at hj;injection hj with hj;injection hj with T e2 L U M;subst T e2 L U M;refine⟨hl,?_⟩;rw[W];exact⟨_,hw,O⟩
  ·rw[t j d]at hj;obtain⟨h1,h2⟩:=hc.heap j u A B C D hj;refine⟨h1,?_⟩;cases hm:μ j with
   | none=>rw[hm]at h2;exact h2
   | some p=>
    obtain⟨a,oC⟩:=p;rw[hm]at h2;obtain⟨o,q1,q2⟩:=h2
    have V:a≠b:=by
     rintro rfl;exact d (hc.ok.inj j id _ _ _ _ _ _ _ _ _ _ _ _ _ hj hh hm W)
    exact⟨o,(G a V).trans q1,q2.mono (λi y pv v hi hy O=>O.fr Z hc.ok (λH I J K F' he b2 eK=>um j i y b2 ⟨_,_,_,_,_,_,_,_,_,_,hj,hi,he▸hy,eK⟩))⟩
 ·intro i j gi P1 ni ei fi u A B C D a o o' hi hj oQ nN
  have back:∀k gk XP nk ek fk,(h.set id (al.row (g+1) sz l e m))[k]? =some (al.row gk XP nk ek fk)->∃g' H I J K,h[k]? =some (al.row g' H I J K):=λk gk XP nk ek fk hk=>by
   by_cases yP:k=id
   ·subst yP;exact⟨_,_,_,_,_,hh⟩
   ·rw[t k yP]at hk;exact⟨_,_,_,_,_,hk⟩
  obtain⟨_,_,_,_,_,h1⟩:=back _ _ _ _ _ _ hi;obtain⟨_,_,_,_,_,h2⟩:=back _ _ _ _ _ _ hj;exact hc.ok.inj i j _ _ _ _ _ _ _ _ _ _ _ _ _ h1 h2 oQ nN
theorem Qo {w1:World} (hc:Core μ h S w) (ha:cc w w1) (b:Nat) (z:w.heap.size<=b) (A:b<w1.heap.size):Fr μ h S w μ h (λx=>S x\/x=b) w1/\Core μ h (λx=>S x\/x=b) w1:=by
 have f:Fr μ h S w μ h (λx=>S x\/x=b) w1:=by
  refine⟨ahy _,λa e _=>ha.blocks a e,λ_ hs=>.inl hs,λa e=>?_,λ_ d=>.inl d,ha.size,ha.os,ha.tape,ha.output,λj g l m n r hj=>?_,λ_ hd=>hd,λa k d B=>?_,λj g l m n r a C hj hm s=>?_,λa j x y D s=>let⟨t,E,q⟩:=s;⟨t,E,(ha.blocks a (hc.ok.lt a (.inr ⟨j,x,y,D⟩))).trans q⟩⟩
  ·rcases e with e | rfl
   ·exact .inl e
   ·exact .inr (.inr z)
  ·rw[hj];exact⟨ahy _,λ_=>⟨rfl,rfl,rfl,rfl⟩⟩
  ·exact jV.of_same (ha.blocks a (hc.ok.lt a d)) B
  ·obtain⟨es,c,q⟩:=s;exact⟨⟨es,c,(ha.blocks a (hc.ok.lt a (.inl ⟨_,_,_,_,_,_,_,hj,hm⟩))).trans q⟩,.inr ⟨⟨_,_,_,_,_,hj⟩,hm⟩⟩
 refine⟨f,⟨λj g l m n r hj=>?_,⟨λa d hs=>?_,λa d=>ahS (hc.ok.lt a d) ha.size,λa hs=>?_,hc.ok.inj,hc.ok.Bj f,hc.ok.hv,hc.ok.hh⟩⟩⟩
 ·obtain⟨h1,h2⟩:=hc.heap j g l m n r hj;refine⟨h1,?_⟩;cases hm:μ j with
  | none=>rw[hm]at h2;exact h2
  | some p=>
   obtain⟨a,C⟩:=p;rw[hm]at h2;obtain⟨o,q1,q2⟩:=h2;exact⟨o,(ha.blocks a (hc.ok.lt a (.inl ⟨_,_,_,_,_,_,_,hj,hm⟩))).trans q1,q2.mono (λi y pv v hi hy F=>F.fr f hc.ok (λH I J K L he u G=>ha.blocks u (hc.ok.lt u (.inr ⟨j,i,y,_,_,_,_,_,_,_,_,_,_,hj,hi,he▸hy,G⟩))))⟩
 ·rcases hs with hs | rfl
  ·exact hc.ok.apart a d hs
  ·exact absurd (hc.ok.lt a d) alV
 ·rcases hs with hs | rfl
  ·exact ahS (hc.ok.slt a hs) ha.size
  ·exact A
theorem Ex (c:da P T) (hc:Core μ h S w) (l:∀t,bz μ h S w (env t) (a.tmps.getD t undef)) (s d:Nat) (x:Operand) (hp:pop P T (.convert s d x) env h K):eD P ⟨dst,.convert s d x,ty,pos,after,guard⟩ a μ h S w K:=by
 simp only[pop]at hp;split at hp
 ·rename_i e sz u z b hs hd n;split at hp
  ·rename_i he;obtain⟨m,f,o⟩:=hp;have hv:=bM l x;rw[n]at hv;have p:=Lib.run_convert_string_bytes (P:=P) w s d e ⟨⟨b⟩⟩ (c.str _ hs) (c.slice _ _ _ _ _ hd).1 (c.int _ _ he)
   have g:cc w (Lib.bytesWorld w e ⟨⟨b⟩⟩):=by
    have:=Lib.bytesWorld_below w e ⟨⟨b⟩⟩;exact⟨this.block,this.size,this.os,this.tape,this.output⟩
   obtain⟨q,r⟩:=Qo hc g w.heap.size (ahy _) (by rw[Lib.bytesWorld_size];omega);refine eD.gv (val:=.slice (some ⟨w.heap.size,0,none⟩) b.length (grownCap w b.length 0 e)) (cQ rfl ?_) o ?_ r q
   ·rw[hv.oI];exact p
   ·show aR _ _ (.fF 1 b.length m) _;refine .fF 1 b.length m w.heap.size 0 _ (λi _=>.int .u8 (b.getD i 0).toNat) (.inr rfl) (λi hi=>by rw[f i hi];rfl) ?_ (λi j pv hi hj=>?_) (λi j pv hi hj=>?_)
    ·have:=grownCap_ge w b.length 0 e;omega
    ·rw[f i hi]at hj
     have k:j=0:=by
      have:=(Is.1 hj).1;simpa using this
     subst k;have:=Lib.bytesWorld_cell w e ⟨⟨b⟩⟩ i (by show i<b.length;exact hi);rw[show 0+i*1+0=i by omega];exact this
    ·rw[f i hi]at hj
     have k:j=0:=by
      have:=(Is.1 hj).1;simpa using this
     subst k;simp at hj;subst hj;exact .int _ _
  ·exact alc
 ·exact .uo hc (pz c hc.heap l hp)
theorem Ge (f:da P T) (hc:Core μ h S w) (t:Nat) (hp:pop P T (.makeMap t none) env h K):eD P ⟨dst,.makeMap t none,ty,pos,after,guard⟩ a μ h S w K:=by
 simp only[pop]at hp;split at hp
 ·rename_i kt g k l;obtain⟨b,c⟩:=hp;obtain⟨d,e⟩:=GO (w1:=w.alloc (.map #[] 0)) hc 2 0 t b (some (w.heap.size,0)) ⟨ahy _,_,heap_alloc_new w _,rfl,λi hi=>absurd hi (ahP _)⟩ (nG w _) (λi hi=>absurd hi (ahP _)) (λi j pv hi=>absurd hi (ahP _));refine eD.gv (val:=.map (some w.heap.size)) (cQ rfl rfl) c ?_ e d;show gg _ _ _ _ _;unfold gg;rw[ahU (ahy _),aiM];exact⟨⟨_,rfl⟩,w.heap.size,0,bp _ _ _,⟨_,_,heap_alloc_new w _⟩,rfl⟩
 ·exact alc
theorem Aw:∀(z xs d:List PV) (b:Bool),GJ z xs d=some b->xs.all wU=true/\xs.all nE=true
 | z,xs,d,b,a=>by
  unfold GJ at a;split at a
  ·exact⟨rfl,rfl⟩
  ·obtain⟨_,c,hc,_⟩:=cj a;obtain⟨h1,h2⟩:=Aw _ _ _ c hc;simp [wU,nE,h1,h2]
  ·obtain⟨_,c,hc,_⟩:=cj a;obtain⟨h1,h2⟩:=Aw _ _ _ c hc;simp [wU,nE,h1,h2]
  ·obtain⟨_,c,hc,_⟩:=cj a;obtain⟨h1,h2⟩:=Aw _ _ _ c hc;simp [wU,nE,h1,h2]
  ·cases a
theorem TZ {ti:TI} {a kp:PV} {q:Bool} (h0:kA ti a kp=some q):kO a=true/\storable a=true:=by
 unfold kA at h0;split at h0
 ·exact⟨rfl,rfl⟩
 ·exact⟨rfl,rfl⟩
 ·split at h0
  ·exact Aw _ _ _ _ h0
  ·cases h0
 ·cases h0
theorem Ax {pv:PV} {v:Value} (hs:wU pv=true) (hj:nE pv=true) (hv:bK μ h S w pv v):vA pv v:=by
 cases pv with
 | int k n=>have hv:aR S w (.int k n) v:=hv;cases hv;rfl
 | bool b=>have hv:aR S w (.bool b) v:=hv;cases hv;rfl
 | str s=>have hv:aR S w (.str s) v:=hv;cases hv;rfl
 | jw=>cases hj
 | _=>cases hs
theorem O1 {pv:PV} {v:Value} (hs:kO pv=true) (hj:storable pv=true) (hv:bz μ h S w pv v):tF pv v:=by
 cases pv with
 | agg cs=>
  obtain⟨vs,rfl,h1,h2⟩:=(show jz μ h S w (.agg cs) v from hv);refine⟨vs,rfl,h1,λj pv a=>?_⟩;obtain⟨u,q1,q2⟩:=h2 j pv a;have hm:=ahJ a;exact⟨u,q1,Ax (ahC.1 hs pv hm) (ahC.1 hj pv hm) q2⟩
 | int k n=>exact Ax (μ:=μ) (h:=h) (S:=S) (w:=w) (pv:=.int k n) hs hj hv
 | bool b=>exact Ax (μ:=μ) (h:=h) (S:=S) (w:=w) (pv:=.bool b) hs hj hv
 | str s=>exact Ax (μ:=μ) (h:=h) (S:=S) (w:=w) (pv:=.str s) hs hj hv
 | jw=>cases hj
 | _=>cases hs
theorem I2 {old new:Value} {w':World} (h1:Instr.sameBits 10000 old new=true):(Instr.keyThatStays old new).run P w'=.ok new w':=by
 simp [Instr.keyThatStays,h1]
theorem Qp {w:World} {b:Nat} {o a:Obj} (c:w.heap[b]? =some o):({w with heap:=w.heap.setIfInBounds b a}:World).heap[b]? =some a:=by
 have:=(ahB.1 c).1;simp [this]
theorem NY {w:World} {b a:Nat} {c:Obj} (d:a≠b):({w with heap:=w.heap.setIfInBounds b c}:World).heap[a]? =w.heap[a]?:=by
 simp [Array.getElem?_setIfInBounds,aiI d]
theorem CG (hT:da P T) (hc:Core μ h S w) (J:∀t,bz μ h S w (env t) (a.tmps.getD t undef)) (t:Nat) (m k x:Operand) (hp:pop P T (.mapUpdate t m k x) env h K):
  eD P ⟨dst,.mapUpdate t m k x,ty,pos,after,guard⟩ a μ h S w K:=by
 have hm:=bM J m;have L:=bM J k;have hx:=bM J x;simp only[pop]at hp;split at hp
 ·rename_i kt et zv id gf M;rw[M]at hm;split at hp
  ·rename_i g sz n e f GK;replace hp:=bw (bT (bT hp));obtain⟨sZ,N,f',O,hK⟩:=hp;simp only[No]at sZ;obtain⟨⟨⟨Q,R⟩,U⟩,V⟩:=sZ;obtain rfl:=(ahz V);obtain⟨hu,inf,z,ma,hz,iB,U7,xV⟩:=hT.map _ _ _ _ gf;have hh:=dz GK;obtain⟨q,base,es,c,eu,ex,u,hn,H⟩:=D0 hc.heap hh hm.Ir;obtain⟨q0,h0⟩:=Option.isSome_iff_exists.1 Q;obtain⟨d,s,hd,Px,S9⟩:=OJ hT L h0;obtain⟨W,X⟩:=TZ h0;have A:=O1 W X L;have B:=O1 R U hx
   have z8:∀m,m<=n->GN (T.get kt) f m (ev env k)->∀j,j<m->∀y:MapEntry,es.toList[j]? =some y->wT P kt d s (a.eval k) y.key false:=λm ai hM j hj y hy=>by
    obtain⟨kp,C,h1,h2⟩:=hM j hj;obtain⟨Y,Z,en,h3,_,_,h4,h5,_⟩:=H j alV;rw[h1]at h3;injection h3 with D e2;subst D;have:y=en:=by rw[ahV]at hy;exact aim (hy.symm.trans h4)
    subst this;exact S9 kp y.key false h5 h2
   have main:∀(v:Array MapEntry) (I:Nat),(Instr.mapUpdate t (.map (some q)) (a.eval k) (a.eval x)).run P w=.ok () {w with heap:=w.heap.setIfInBounds q (.map v I)}->
     (v.size=N/\∀i,i<N->∃(kp C:PV) (en:MapEntry),f' i=[kp,C]/\kO kp=true/\kO C=true/\v[i]? =some en/\tF kp en.key/\tF C en.val)->
     eD P ⟨dst,.mapUpdate t m k x,ty,pos,after,guard⟩ a μ h S w K:=by
    intro v I mS hr
    obtain⟨ju,pQ⟩:=TX (w1:={w with heap:=w.heap.setIfInBounds q (.map v I)}) hc id g 2 n N e f f' hh q base es c eu u v I (Qp u) (λb' nv=>NY nv) alW rfl rfl rfl
     (λi hi=>by obtain⟨kp,C,en,h1,_⟩:=hr.2 i hi;rw[h1];rfl) hr
    refine eD.ON ?_ hK pQ ju;have D:(execOp a.eval ⟨dst,.mapUpdate t m k x,ty,pos,after,guard⟩)=(do Instr.mapUpdate t (a.eval m) (a.eval k) (a.eval x);pure .skip:Sem Next):=rfl;rw[D,ex];simp only[Sem.run_bind,mS,Result.andThen,Sem.run_pure]
   rcases O with⟨E,r,⟨aa,hM,ad,V8,F⟩,b,A8,Oy⟩ | ⟨hM,b,A8,Oy⟩
   ·obtain⟨Y,Z,en,h3,h8,h6,h4,h5,h7⟩:=H E aa;rw[V8]at h3;injection h3 with D e2;injection e2 with e2 _;subst D e2;have D9:=D3 (P:=P) (w':=w) hd es.toList E en (z8 E alV hM) (by rw[ahV];exact h4) (S9 ad en.key true h5 F);have ag:=I2 (P:=P) (w':=w) (TW L h5 F);refine main (es.modify E λe=>{e with key:=a.eval k,val:=a.eval x}) c ?_ ⟨by simp [hn,b],λi hi=>?_⟩
    ·simp [Instr.mapUpdate,run_underlying hu,run_getObj_map w q es c u,Px,D9,h4,ag,MapKept.run_setObj_map _ u]
    ·by_cases G:i=E
     ·subst G;refine⟨_,_,{en with key:=a.eval k,val:=a.eval x},A8,W,R,?_,A,B⟩;rw[ajm,As rfl,h4];rfl
     ·obtain⟨l,o,p,g1,g2,g3,g4,g5,g6⟩:=H i alV;refine⟨l,o,p,by rw[Oy i alV G,g1],g2,g3,?_,g5,g6⟩;rw[ajm,An (aiI G),g4]
   ·have D9:=zX (P:=P) (w':=w) hd es.toList (λj y hy=>z8 n (ahy _) hM j (by
      have:=(Is.1 hy).1;rw[<-hn];simpa using this) y hy)
    refine main (es.push {key:=a.eval k,val:=a.eval x,born:=c}) (c+1) ?_ ⟨by simp [hn,b],λi hi=>?_⟩
    ·simp [Instr.mapUpdate,run_underlying hu,run_getObj_map w q es c u,Px,D9,MapKept.run_setObj_map _ u]
    ·by_cases G:i=n
     ·subst G;refine⟨_,_,{key:=a.eval k,val:=a.eval x,born:=c},A8,W,R,?_,A,B⟩;rw[<-hn];simp
     ·obtain⟨l,o,p,g1,g2,g3,g4,g5,g6⟩:=H i alV;refine⟨l,o,p,by rw[Oy i alV,g1],g2,g3,?_,g5,g6⟩;rw[Array.getElem?_push,An alV,g4]
  ·exact alc
 ·exact alc
theorem I3 (j:da P T) (hc:Core μ h S w) (i:∀t,bz μ h S w (env t) (a.tmps.getD t undef)) (k:BinOp) (t l:TypeId) (x y:Operand) (hp:pop P T (.binOp k t x y l) env h K):
  eD P ⟨dst,.binOp k t x y l,ty,pos,after,guard⟩ a μ h S w K:=by
 simp only[pop]at hp;split at hp
 ·rename_i e sz s z m n f o p hy;obtain⟨h1,h2⟩:=hp;have rx:=bM i x;have g:=bM i y;rw[p]at rx;rw[hy]at g;have rx:aR S w (.fF m n f) (a.eval x):=rx;have g:aR S w .az (a.eval y):=g
  have q:a.eval y=.slice none 0 0:=by
   generalize a.eval y=v at g;cases g;rfl
  obtain⟨d,c,ex,hn⟩:∃d c,a.eval x=.slice d n c/\(d=none->n=0):=by
   generalize a.eval x=v at rx;cases rx with
   | qH _ _ d c=>exact⟨d,c,rfl,λ_=>rfl⟩
   | fF _ _ _ b off c u _ _ _ _ _=>exact⟨_,c,rfl,λh0=>by cases h0⟩
  obtain⟨hu,_⟩:=j.slice _ _ _ _ _ o;have hg:eqGuard .eql t x y (a.eval x) (a.eval y)=pure ():=by rw[ex];apply eqGuard_at_slice
  have r:K (.bool d.isNone) h:=by
   cases d with
   | none=>exact h1 (hn rfl)
   | some _=>exact h2
  refine .uo hc (.mk (v:=.bool d.isNone) r (aR.bool _) λw' _=>BQ (OH hg ?_));rw[ex,q];first | exact Lib.run_eql_slice_nil _ _ _ _ _ _ _ _ hu | exact run_eql_slice_nil _ _ _ _ _ _ hu
 ·exact .uo hc (pz j hc.heap i hp)
theorem I4 {i j:Nat} (h:Nat.blt i j=false):j<=i:=by
 rcases aip i j with hl | hl
 ·have:Nat.blt i j=true:=by simpa using hl
  rw[this]at h;cases h
 ·exact hl
theorem G8 {s x:Operand} {t b:TypeId} {sv c d:Value} {w':World} (hs:a.eval s=sv) (e:a.eval x=c) (f:(Builtin.copy_ #[t,b] ty #[sv,c]).run P w=.ok d w'):
  (execOp a.eval ⟨dst,.call ⟨.builtin .copy,#[s,x],#[t,b]⟩,ty,pos,after,guard⟩).run P w=.ok (.value d) w':=by
 simp only[execOp,resolve,invoke,builtin,Sem.run_bind,Sem.run_pure,Result.andThen_ok,ajy,ahE,ahR,hs,e,f]
theorem Lq (t j ty e:TypeId) (i:TypeInfo) (h:P.underlying t=some (.slice e)) (hi:P.info? e=some i)
  (d:Option Addr) (f k:Nat) (g:Value) (m:Nat) (news:Array Value) (w':World) (hlen:(Builtin.lenOf g).run P w=.ok m w) (c:(Builtin.firstCells i.size m g).run P w=.ok news w) (hle:m<=f)
  (b:match d with | some a=>(storeCells a news.toList).run P w=.ok () w' | none=>w'=w):
  (Builtin.copy_ #[t,j] ty #[.slice d f k,g]).run P w=.ok (.int .i64 m) w':=by
 have hm:Nat.min m f=m:=Nat.min_eq_left hle;cases d with
 | none=>
  have b:w'=w:=b;subst b;simp [Builtin.copy_,run_underlying h,sizeOf,typeInfo,hi,hlen,hm,c,goInt]
 | some a=>
  have b:(storeCells a news.toList).run P w=.ok () w':=b;simp [Builtin.copy_,run_underlying h,sizeOf,typeInfo,hi,hlen,hm,c,b,goInt]
theorem T0 (hT:da P T) (hc:Core μ h S w) (t I e sz bytes:Nat) (zero:List PV) (gf:T.get t=.slice e sz bytes zero)
  (s x:Operand) (id g off len n:Nat) (f:Nat->List PV) (hh:h[id]? =some (al.row g sz n e f)) (hs:bz μ h S w (.own id g off len) (a.eval s)) (m:Nat) (q:Nat->List PV) (xX:Src P μ h S w (a.eval x) sz m q) (J:∀(i j:Nat) (pv:PV),i<m->(q i)[j]? =some pv->dj pv=false)
  (hb:m<=len) (E:∃h2,dE (h.set id (.row g sz n e (TH f off m q))) h2/\K (.int .i64 m) h2):
  eD P ⟨dst,.call ⟨.builtin .copy,#[s,x],#[t,I]⟩,ty,pos,after,guard⟩ a μ h S w K:=by
 obtain⟨hu,iB,inf,zv,U,qW,U8,hz,QR,S8,QS⟩:=hT.slice _ _ _ _ _ gf;subst qW U8;have hid:id<h.length:=(Is.1 hh).1;obtain⟨Em,news,q1,q2,q3,q4⟩:=xX;have c:=hs.pT;unfold bg at c;rw[hh]at c;obtain⟨⟨V,sl,F,y⟩,_,c⟩:=c;obtain⟨hle,c⟩:=c rfl;obtain⟨Fe,xW,o1,o2,o3,o4⟩:=pD (P:=P) hc id g off len inf.size n e f hh _ hs iB
 have MQ:sl=len:=by
  obtain⟨r,_⟩:=o4 w (cc.refl w);rw[y]at r;simp [Builtin.lenOf]at r;exact r
 subst MQ;obtain⟨hl,W⟩:=hc.heap id g _ n e f hh;obtain⟨r1,X⟩:=q4 w (cc.refl w);refine eD.rows ?_;rcases aiq m with h0 | h0
 ·subst h0;have hn:news=#[]:=aix amn;subst hn;have L:=Lq (P:=P) (w:=w) t I ty e inf hu U V sl F (a.eval x) 0 #[] w r1 X (aih _) (by cases V<;>rfl);obtain⟨h2,he,E⟩:=E;refine eD.gv (h':=h) (μ':=μ) (S':=S) (G8 y rfl L) ⟨h2,?_,E⟩ (.int _ _) hc Fr.refl
  have e0:TH f off 0 q=f:=by
   funext i;unfold TH;cases wo:Nat.blt i off
   ·rfl
   ·rfl
  rw[e0]at he
  have es:h.set id (al.row g inf.size n e f)=h:=by
   refine aiT λj=>?_;rw[aiG];by_cases hj:id=j
   ·subst hj;rw[As rfl,As hid,hh]
   ·rw[An hj]
  rwa [es]at he
 ·cases z:μ id with
  | none=>
   rw[z]at c;rw[y]at c;injection c with r e2 v;omega
  | some p=>
   obtain⟨b,base⟩:=p;rw[z]at c W;obtain⟨ad,cap,hv,Pd,M,N⟩:=c
   have JA:∀b base,μ id=some (b,base)->¬pr w b:=λY oC G=>by
    rw[z]at G;injection G with G;injection G with h1 h2;subst h1;exact N.yJ
   rw[y]at hv;injection hv with r e2 v;subst r v;obtain⟨cur,H,vN,Z⟩:=bH.cells N W
   have Lm:base+(off+F)*inf.size<=cur.size:=by
    obtain⟨Bi,e',z',o,O⟩:=N;rw[H]at o;injection o with o;injection o with o _ _;subst o;exact O
   rw[ahK]at Lm;have M:=M alV;subst M;have hmul:m*inf.size<=F*inf.size:=ahH _ alV;have Q:=run_storeCells_at P b (base+off*inf.size) e news.toList 0 cur w H alX q3;rw[aiv]at Q;generalize A:(cur.toList.take (base+off*inf.size)++news.toList++cur.toList.drop (base+off*inf.size+news.toList.length)).toArray=B at Q;have c1:B.size=cur.size:=by subst A;simp;omega
   have c3:∀k:Nat,B[k]? =if base+off*inf.size<=k/\k<base+off*inf.size+m*inf.size then news[k - (base+off*inf.size)]? else cur[k]?:=λk=>by
    subst A;have R:=uX cur.toList news.toList (base+off*inf.size) k alX;rw[ajl,R];simp only[ahV,ais,q1]
   have L:=Lq (P:=P) (w:=w) t I ty e inf hu U (some ⟨b,base+off*inf.size,none⟩) sl F (a.eval x) m news (w.setRow b B) r1 X hb Q
   have QW:∀i,i<n->(TH f off m q i).length=inf.size:=λi hi=>by
    unfold TH;cases d:Nat.blt i off
    ·cases l:Nat.blt i (off+m)
     ·exact hl i hi
     ·have C:=I4 d;have D:i<off+m:=by simpa using l
      exact Em _ alV
    ·exact hl i hi
   have lB:=ue (w1:=w.setRow b B) hc id g g inf.size n n e f (TH f off m q) hh b base B (ahy _) (λ_=>⟨z,rfl⟩)
    (.inr ⟨base,cur,z,H,c1.symm⟩) (setRow_heap w b cur _ e _ H) (by rw[c1];exact vN) (λY _ pW=>setRow_other w b Y _ pW) alW rfl rfl rfl QW JA
    (λi j pv hi hj=>by
     have LZ:j<inf.size:=by rw[<-QW i hi];exact(Is.1 hj).1
     rw[c3];have r:i*inf.size+inf.size=(i+1)*inf.size:=by rw[ahK,Nat.one_mul]
     unfold TH at hj;cases d:Nat.blt i off
     ·rw[d]at hj;have C:off<=i:=I4 d;have e2:off*inf.size<=i*inf.size:=ahH _ C;cases l:Nat.blt i (off+m)
      ·rw[l]at hj;simp only[ajv]at hj;have D:off+m<=i:=I4 l;have v:(off+m)*inf.size<=i*inf.size:=ahH _ D;rw[ahK]at v;rw[An alV];exact Z i j pv hi hj
      ·rw[l]at hj;simp only[ajv,ajI]at hj;have D:i<off+m:=by simpa using l
       have v:(i+1)*inf.size<=(off+m)*inf.size:=ahH _ D;have e5:(off+m)*inf.size=off*inf.size+m*inf.size:=ahK _ _ _;rw[As alV];obtain⟨u,o,O⟩:=q2 (i - off) j pv alV hj;refine⟨u,?_,O⟩;rw[<-o];congr 1;have e4:i*inf.size=off*inf.size+(i - off)*inf.size:=by rw[<-ahK];congr 1;omega
       omega
     ·rw[d]at hj;simp only[ajI]at hj;have C:i<off:=by simpa using d
      have v:(i+1)*inf.size<=off*inf.size:=ahH _ C;rw[An alV];exact Z i j pv hi hj) 0 (λi j bF n' e' f' F' hi hj=>by
    rw[ahx];refine⟨hi,?_⟩;unfold TH at hj;cases d:Nat.blt i off
    ·rw[d]at hj;have C:off<=i:=I4 d;cases l:Nat.blt i (off+m)
     ·rw[l]at hj;exact hj
     ·rw[l]at hj;have D:i<off+m:=by simpa using l
      have:=J (i - off) j _ alV hj;cases this
    ·rw[d]at hj;exact hj)
   obtain⟨ju,pQ⟩:=lB;exact eD.gv (G8 y rfl L) E (.int _ _) pQ ju
theorem NZ (j:da P T) (hc:Core μ h S w) (k:∀t,bz μ h S w (env t) (a.tmps.getD t undef)) (args:Array Operand) (c:Array TypeId) (hp:pop P T (.call ⟨.builtin .copy,args,c⟩) env h K):
  eD P ⟨dst,.call ⟨.builtin .copy,args,c⟩,ty,pos,after,guard⟩ a μ h S w K:=by
 obtain⟨args⟩:=args;obtain⟨c⟩:=c;simp only[pop]at hp;split at hp
 ·rename_i s x t l;have hs:=bM k s;have o:=bM k x
  have main:∀(e sz bytes:Nat) (zero:List PV),T.get t=.slice e sz bytes zero->Ey e sz (ev env s) (ev env x) h K->
    eD P ⟨dst,.call ⟨.builtin .copy,#[s,x],#[t,l]⟩,ty,pos,after,guard⟩ a μ h S w K:=by
   intro e sz bytes zero b hp;have p:=(j.slice _ _ _ _ _ b).2.1;unfold Ey at hp;split at hp
   ·rename_i id gen off len r;rw[r]at hs;split at hp
    ·rename_i g u n v f hg;obtain⟨rfl,hp⟩:=hp;replace hp:=bw hp;obtain⟨d,hp⟩:=hp;simp only[No]at d;obtain rfl:=ahz d.1;obtain rfl:=ahz d.2;obtain⟨m,q,⟨y,F,z,A⟩,B,i⟩:=Bq (P:=P) hc _ _ o sz p _ hp;exact T0 j hc t l e sz bytes zero b s x id g off len n f (dz hg) hs m q B i y ⟨_,dE.set _ _ _ _ _ _ _ _ z,A⟩
    ·exact alc
   ·exact alc
  split at hp
  ·rename_i e sz bytes zero v u C D b E;exact main e sz bytes zero b hp
  ·rename_i e sz bytes zero b E;exact main e sz bytes zero b hp
  ·exact alc
 ·exact alc
theorem G9 (e:da P T) (hc:Core μ h S w) (f:∀t,bz μ h S w (env t) (a.tmps.getD t undef)) {op:Op} (hp:pop P T op env h K):
  eD P ⟨dst,op,ty,pos,after,guard⟩ a μ h S w K:=by
 cases op with
 | store t j x=>exact KT e hc f t j x hp
 | makeSlice t l c=>exact NF e hc f t l c hp
 | box t x=>exact P4 hc f t x hp
 | alloc t=>exact KV e hc t hp
 | buildSlice t len parts=>exact Bl e hc f t len parts hp
 | convert s d x=>exact Ex e hc f s d x hp
 | binOp n t x y o=>exact I3 e hc f n t o x y hp
 | makeMap t r=>cases r with
  | none=>exact Ge e hc t hp
  | some r=>exact hp.elim
 | mapUpdate t m k x=>exact CG e hc f t m k x hp
 | call c=>
  obtain⟨g,args,i⟩:=c;cases g with
  | value p=>exact NW hc f p args i hp
  | invoke r m=>exact .uo hc (pz e hc.heap f hp)
  | builtin b=>cases b with
   | append=>exact I1 e hc f args i hp
   | copy=>exact NZ e hc f args i hp
   | _=>exact .uo hc (pz e hc.heap f hp)
 | _=>exact .uo hc (pz e hc.heap f hp)
end
section
variable {P:Program}{T:rO}{μ:Mu}{h η:List al}{k:List Nat}{S:Nat->Prop}{w:World}{m:Nat}
theorem vn.get:∀(l r:List PV),vn h η k l r->r.length=l.length/\∀(j:Nat) (pv pv':PV),l[j]? =some pv->r[j]? =some pv'->Fz h η k pv pv'
 | [],[],_=>⟨rfl,λj pv pv' hj=>by simp at hj⟩
 | [],_::_,hh=>hh.elim
 | _::_,[],hh=>hh.elim
 | a::l,b::r,hh=>by
  obtain⟨h1,h2⟩:=hh;obtain⟨q1,q2⟩:=vn.get l r h2;refine⟨by simp [q1],λj pv pv' hj c=>?_⟩;cases j with
  | zero=>
   simp at hj c;subst hj c;exact h1
  | succ j=>exact q2 j pv pv' amc (by simpa using c)
theorem pF:∀(l:List al) (r:List Nat) (i:Nat),kV h η k m i l r->l.length=r.length/\∀(j:Nat) (o:al),l[j]? =some o->∃id,r[j]? =some id/\vQ h η k m o (i+j) id
 | [],[],i,_=>⟨rfl,λj o hj=>by simp at hj⟩
 | [],_::_,_,hh=>hh.elim
 | _::_,[],_,hh=>hh.elim
 | o::l,id::r,i,hh=>by
  obtain⟨h1,h2⟩:=hh;obtain⟨q1,q2⟩:=pF l r (i+1) h2;refine⟨by simp [q1],λj b hj=>?_⟩;cases j with
  | zero=>
   simp at hj;subst hj;exact⟨id,rfl,h1⟩
  | succ j=>
   simp at hj;obtain⟨a,r1,c⟩:=q2 j b hj;exact⟨a,by simpa using r1,by rw[show i+(j+1)=i+1+j from by omega];exact c⟩
def ns (μ:Mu) (h:List al) (k:List Nat):Mu:=λa=>match k[a]? with | some id=>(match h[id]? with | some _=>μ id | none=>none) | none=>none
theorem va {μ:Mu} {h:List al} {k:List Nat} {id a:Nat} {o:al} (b:k[a]? =some id) (c:h[id]? =some o):ns μ h k a=μ id:=by unfold ns;rw[b];simp only[c]
theorem Ha {μ:Mu} {h:List al} {k:List Nat} {id a:Nat} (b:k[a]? =some id) (c:h[id]? =none):ns μ h k a=none:=by unfold ns;rw[b];simp only[c]
def Hb (μ:Mu) (h:List al) (k:List Nat) (S:Nat->Prop):Nat->Prop:=
 λb=>S b\/∃(id g sz n:Nat) (e:TypeId) (f:Nat->List PV) (base:Nat),id∉k/\h[id]? =some (al.row g sz n e f)/\(μ id=some (b,base)\/∃i j,cV h id i j b)
theorem T3 {S S':Nat->Prop} {w:World} (s:∀b,S b->S' b) {pv:PV} {v:Value} (h:nq S w pv v):∀pv',CE pv pv'->(∀sz n e f F,pv=.bu sz n e f F->∀b,F b->S' b)->aR S' w pv' v:=by
 induction h with
 | nil sz e f F o=>
  intro pv' m _;cases m;exact .qH _ _ _ _
 | Aa sz n e f F b off c a cur t o u hlen hc ha D x y E z G A=>
  intro pv' m l;have l:=l _ _ _ _ _ rfl;cases m with
  | mk _ _ _ _ p _ hl hf d hp=>
   rcases aiq n with h0 | h0
   ·subst h0;exact .qH _ _ _ _
   ·obtain rfl:=ha alV
    have get:∀(i j:Nat) (pv':PV),i<n->(p i)[j]? =some pv'->∃pv,(f i)[j]? =some pv:=λi j pv' hi hj=>by
     have B:j<(f i).length:=by rw[<-hl i hi];exact(Is.1 hj).1
     exact⟨_,abF B⟩
    refine .fF sz n p b off c t (l b o) (λi hi=>by rw[hl i hi];exact hlen i hi) hc (λi j pv' hi hj=>?_) (λi j pv' hi hj=>?_)
    ·obtain⟨pv,g⟩:=get i j pv' hi hj;rw[cell_of_row w b _ cur e (0,0) u,<-x i j pv hi g]
    ·obtain⟨pv,g⟩:=get i j pv' hi hj;cases k:dj pv with
     | false=>
      rw[hf i j pv pv' hi g hj k];rcases y i j pv hi g with q | ⟨_,_,_,_,_,q⟩
      ·exact q.mono (λ_ _=>rfl) s
      ·rw[q]at k;cases k
     | true=>
      have d:=d i j pv pv' hi g hj k;cases pv with
      | bu oZ n2 e2 f2 F2=>exact A i j oZ n2 e2 f2 F2 hi g pv' d (λ_ _ _ _ _ he r C=>by
        injection he with _ _ _ _ he;subst he;exact l r (z i j _ _ _ _ _ hi g r C).1)
      | _=>cases k
theorem xC {μ':Mu} {h':List al} {S':Nat->Prop} {pv:PV} {v:Value} (hp:bx pv=true) (hc:bK μ' h' S' w pv v):aR S' w pv v:=by
 cases pv<;>first | exact hc | cases hp
theorem uf (hc:Core μ h S w) (hh:kV h η k m 0 η k) {pv pv':PV} (Y:Fz h η k pv pv'):
  (∀v,bK μ h S w pv v->bK (ns μ h k) η (Hb μ h k S) w pv' v)/\(∀v,jz μ h S w pv v->jz (ns μ h k) η (Hb μ h k S) w pv' v)/\(∀v,bz μ h S w pv v->bz (ns μ h k) η (Hb μ h k S) w pv' v):=by
 have up:∀pv v,aR S w pv v->aR (Hb μ h k S) w pv v:=λpv v hp=>aR.mono (λ_ _=>rfl) (λb I=>.inl I) hp
 have same:∀pv:PV,(∀v,bK μ h S w pv v->aR S w pv v)->(∀v,jz μ h S w pv v->bK μ h S w pv v)->(∀v,bz μ h S w pv v->jz μ h S w pv v)->∀pv':PV,(∀v,aR S w pv v->aR (Hb μ h k S) w pv' v)->
   (∀v,bK μ h S w pv v->bK (ns μ h k) η (Hb μ h k S) w pv' v)/\(∀v,jz μ h S w pv v->bK (ns μ h k) η (Hb μ h k S) w pv' v)/\(∀v,bz μ h S w pv v->bK (ns μ h k) η (Hb μ h k S) w pv' v):=
  λpv h1 h2 h3 pv' hp=>⟨λv hv=>bK.kN (hp v (h1 v hv)),λv hv=>bK.kN (hp v (h1 v (h2 v hv))),λv hv=>bK.kN (hp v (h1 v (h2 v (h3 v hv))))⟩
 induction Y with
 | int Z n=>exact same (.int Z n) (λ_ h=>h) (λ_ h=>h) (λ_ h=>h) _ (up _)
 | bool b=>exact same (.bool b) (λ_ h=>h) (λ_ h=>h) (λ_ h=>h) _ (up _)
 | str s=>exact same (.str s) (λ_ h=>h) (λ_ h=>h) (λ_ h=>h) _ (up _)
 | az=>exact same .az (λ_ h=>h) (λ_ h=>h) (λ_ h=>h) _ (up _)
 | iH=>exact same .iH (λ_ h=>h) (λ_ h=>h) (λ_ h=>h) _ (up _)
 | X5 sz f=>exact same .az (λ_ h=>h) (λ_ h=>h) (λ_ h=>h) (.fF sz 0 f) (λv hv=>by cases hv;exact .qH _ _ _ _)
 | adv id d x D E r o l hη=>
  have key:∀v,v=Value.slice none 0 0->bg (ns μ h k) η w d x 0 0 v:=λv hv=>by
   unfold bg;rw[hη];refine⟨⟨_,_,_,hv⟩,ahy _,λ_=>⟨ahy _,?_⟩⟩;rw[Ha o l];exact hv
  have inv:∀v,aR S w .az v->v=Value.slice none 0 0:=λv hv=>by cases hv;rfl
  exact⟨λv hv=>key v (inv v hv),λv hv=>key v (inv v hv),λv hv=>key v (inv v hv)⟩
 | fn f=>exact same (.fn f) (λ_ h=>h) (λ_ h=>h) (λ_ h=>h) _ (up _)
 | fC cs=>exact same (.fC cs) (λ_ h=>h) (λ_ h=>h) (λ_ h=>h) _ (up _)
 | fF sz n f r hf=>
  exact same (.fF sz n f) (λ_ h=>h) (λ_ h=>h) (λ_ h=>h) (.fF sz n r) (λv hv=>by
   have hv:=up _ _ hv;cases hv with
   | qH _ _ a c=>exact .qH _ _ _ _
   | fF _ _ _ b off c vf h1 h2 h3 h4 h5=>
    exact .fF sz n r b off c vf h1 (λi hi=>by rw[hf i hi];exact h2 i hi) h3 (λi j pv hi hj=>h4 i j pv hi amm) (λi j pv hi hj=>h5 i j pv hi amm))
 | jw pv=>exact⟨λv hv=>hv.one,λ_ _=>trivial,λ_ _=>trivial⟩
 | bu sz n e f F=>exact⟨λv hv=>hv,λv hv=>hv,λv hv=>hv⟩
 | zq sz e f=>exact⟨λv hv=>bK.one hv,λv hv=>bK.one (pv:=.az) (μ:=μ) (h:=h) hv,λv hv=>bK.one (pv:=.az) (μ:=μ) (h:=h) hv⟩
 | own id d g x sz D n J off len e E f r o l hη hn=>
  have key:∀v,bg μ h w id g off len v->bg (ns μ h k) η w d x off len v:=λv hv=>by
   unfold bg at hv ⊢;rw[l]at hv;rw[hη];obtain⟨h1,_,z⟩:=hv;have K:=z rfl;clear z;obtain⟨h2,h3⟩:=K;obtain⟨_,cH⟩:=pF η k 0 hh;obtain⟨T,r1,q⟩:=cH d _ hη;rw[o]at r1;injection r1 with r1;subst r1;unfold vQ at q;rw[l]at q;obtain⟨_,rfl,_,_⟩:=q;refine⟨h1,ahy _,λ_=>⟨hn,?_⟩⟩;have hm:ns μ h k d=μ id:=va o l;rw[hm];exact h3
  exact⟨key,key,key⟩
 | aF id d g x sz D n J i off e E f r o l hη hn=>
  have key:∀v,bS μ h w id g i off v->bS (ns μ h k) η w d x i off v:=λv hv=>by
   unfold bS at hv ⊢;rw[l]at hv;rw[hη];obtain⟨h1,_,z⟩:=hv;have K:=z rfl;clear z;obtain⟨h2,h3⟩:=K;obtain⟨_,cH⟩:=pF η k 0 hh;obtain⟨T,r1,q⟩:=cH d _ hη;rw[o]at r1;injection r1 with r1;subst r1;unfold vQ at q;rw[l]at q;obtain⟨_,rfl,_,rfl,_⟩:=q;refine⟨h1,ahy _,λ_=>⟨hn,?_⟩⟩;have hm:ns μ h k d=μ id:=va o l;rw[hm];exact h3
  exact⟨key,key,key⟩
 | qE f bJ Ah hl L=>
  have key:∀v,qv μ h w f bJ v->qv (ns μ h k) η w f Ah v:=λv hv=>by
   obtain⟨vs,h1,h2,h3⟩:=hv;refine⟨vs,h1,h2.trans hl.symm,λj U hj=>?_⟩;have V:j<bJ.length:=by rw[<-hl];exact(Is.1 hj).1
   obtain⟨o,⟨sz,n,e,g,l⟩,D,J,E,x,hη,hn⟩:=L j _ U (abF V) hj;obtain⟨u,q1,q2⟩:=h3 j _ (abF V);refine⟨u,q1,?_⟩;unfold bS at q2 ⊢;rw[l]at q2;rw[hη];obtain⟨M,_,G⟩:=q2;have N:=G rfl;clear G;obtain⟨W,a5⟩:=N;obtain⟨_,cH⟩:=pF η k 0 hh;obtain⟨T,r1,q⟩:=cH U.1 _ hη;rw[o]at r1;injection r1 with r1;subst r1;unfold vQ at q;rw[l]at q;obtain⟨_,rfl,_,rfl,_⟩:=q;refine⟨M,ahy _,λ_=>⟨hn,?_⟩⟩;rw[va o l];exact a5
  exact⟨key,key,key⟩
 | ke id d g x sz D n J e E f r o l hη=>
  have key:∀v,gg μ h w id v->gg (ns μ h k) η w d v:=λv hv=>by
   unfold gg at hv ⊢;rw[l]at hv;rw[hη];obtain⟨h1,b,base,q1,q2,q3⟩:=hv;exact⟨h1,b,base,(va o l).trans q1,q2,q3⟩
  exact⟨key,key,key⟩
 | frz id g sz n off len e f r o l hl hp hf A=>
  have key:∀v,bg μ h w id g off len v->bK (ns μ h k) η (Hb μ h k S) w (.fF sz len r) v:=λv hv=>by
   refine bK.kN ?_;unfold bg at hv;rw[l]at hv;obtain⟨_,_,hv⟩:=hv;obtain⟨hle,hv⟩:=hv rfl;obtain⟨O,H⟩:=hc.heap id g sz n e f l;cases P:μ id with
   | none=>
    rw[P]at hv H;have hn:n=0:=H;have h0:len=0:=by omega
    subst h0;have hv:v=.slice none 0 0:=hv;subst hv;exact .qH _ _ _ _
   | some p=>
    obtain⟨b,base⟩:=p;rw[P]at hv H;obtain⟨ad,cap,rfl,Pd,Q,FL⟩:=hv;obtain⟨cur,mb,vN,kl⟩:=bH.cells FL H;rcases aiq len with h0 | h0
    ·subst h0;exact .qH _ _ _ _
    ·have Q:=Q alV;subst Q
     have B:∀(i j:Nat) (pv':PV),i<len->(r i)[j]? =some pv'->∃u,w.cell? ⟨b,base+off*sz+i*sz+j,none⟩=some u/\aR (Hb μ h k S) w pv' u:=λi j pv' hi hj=>by
      have C:j<(f (off+i)).length:=by rw[<-hl i hi];exact(Is.1 hj).1
      have t:=abF C;obtain⟨u,h1,h2⟩:=kl (off+i) j _ alV t
      have h3:aR (Hb μ h k S) w pv' u:=by
       by_cases y:CE (f (off+i))[j] pv'
       ·generalize aa:(f (off+i))[j]=pv at y h2 t;cases y with
        | mk oZ n2 e2 f2 R F2 M G N W=>
         exact T3 (λb I=>.inl I) (show nq S w (.bu oZ n2 e2 f2 F2) u from h2) _ (.mk oZ n2 e2 f2 R F2 M G N W) (λ_ _ _ _ _ he b' nv=>by
          injection he with _ _ _ _ he;subst he;exact .inr ⟨id,g,sz,n,e,f,base,o,l,.inr ⟨off+i,j,_,_,_,_,_,_,_,_,_,_,l,by omega,t,nv⟩⟩)
       ·exact xC (hp i j pv' hi hj) ((A i j _ pv' hi t hj y).1 u h2.c)
      refine⟨u,?_,h3⟩;rw[cell_of_row w b _ cur e (0,0) mb,<-h1];congr 1;rw[ahK];omega
     refine .fF sz len r b (base+off*sz) cap (λi j=>(w.cell? ⟨b,base+off*sz+i*sz+j,none⟩).getD undef) (.inr ⟨id,g,sz,n,e,f,base,o,l,.inl P⟩) (λi hi=>by rw[hl i hi];exact O _ alV) Pd (λi j pv hi hj=>?_) (λi j pv hi hj=>?_)
     ·obtain⟨u,h1,_⟩:=B i j pv hi hj;rw[h1];rfl
     ·obtain⟨u,h1,h2⟩:=B i j pv hi hj;simp only[h1,ajN];exact h2
  exact⟨key,key,key⟩
 | agg cs X hl L A=>
  have key:∀v,jz μ h S w (.agg cs) v->jz (ns μ h k) η (Hb μ h k S) w (.agg X) v:=λv hv=>by
   obtain⟨vs,h1,h2,h3⟩:=hv;refine⟨vs,h1,h2.trans hl.symm,λj pv' hj=>?_⟩;have C:j<cs.length:=by rw[<-hl];exact(Is.1 hj).1
   have t:=abF C;obtain⟨u,q1,q2⟩:=h3 j _ t;exact⟨u,q1,(A j _ pv' t hj).1 u q2⟩
  exact⟨λ_ hv=>(show False from hv).elim,key,key⟩
 | eG cs X hl L A=>
  refine⟨λ_ hv=>(show False from hv).elim,λ_ hv=>(show False from hv).elim,λv hv=>?_⟩;obtain⟨vs,h1,h2,h3⟩:=hv;refine⟨vs,h1,h2.trans hl.symm,λj pv' hj=>?_⟩;have C:j<cs.length:=by rw[<-hl];exact(Is.1 hj).1
  have t:=abF C;obtain⟨u,q1,q2⟩:=h3 j _ t;exact⟨u,q1,(A j _ pv' t hj).2.1 u q2⟩
end
section
variable {P:Program}{T:rO}{μ:Mu}{h η:List al}{k:List Nat}{S:Nat->Prop}{w:World}{m:Nat}
theorem T4 {a c:PV} (d:Fz h η k a c) (ha:wU a=true):wU c=true/\∀v,vA a v->vA c v:=by
 cases d with
 | int e n=>exact⟨rfl,λ_ h=>h⟩
 | bool b=>exact⟨rfl,λ_ h=>h⟩
 | str s=>exact⟨rfl,λ_ h=>h⟩
 | jw _=>exact⟨rfl,λv h=>by
   cases a<;>first | (cases ha;done) | (have h:v=_:=h;subst h;rfl) | exact h⟩
 | _=>cases ha
theorem O2 {a c:PV} (e:Fz h η k a c) (ha:kO a=true):kO c=true/\∀v,tF a v->tF c v:=by
 cases e with
 | int m n=>exact⟨rfl,λ_ h=>h⟩
 | bool b=>exact⟨rfl,λ_ h=>h⟩
 | str s=>exact⟨rfl,λ_ h=>h⟩
 | jw _=>exact⟨rfl,λ_ _=>trivial⟩
 | agg cs f hl hc=>
  have el:∀j pv',f[j]? =some pv'->∃pv,cs[j]? =some pv/\wU pv'=true/\∀v,vA pv v->vA pv' v:=λj pv' hj=>by
   have d:j<cs.length:=by rw[<-hl];exact(Is.1 hj).1
   have h1:=abF d;have h2:=T4 (hc j _ _ h1 hj) (ahC.1 ha _ (ahD d));exact⟨_,h1,h2⟩
  refine⟨ahC.2 (λx g=>?_),λv hv=>?_⟩
  ·obtain⟨j,hj,rfl⟩:=aiw.1 g;obtain⟨_,_,h2,_⟩:=el j _ (abF hj);exact h2
  ·obtain⟨vs,q1,q2,q3⟩:=hv;refine⟨vs,q1,q2.trans hl.symm,λj pv' hj=>?_⟩;obtain⟨pv,i,_,e2⟩:=el j pv' hj;obtain⟨u,hu,l⟩:=q3 j pv i;exact⟨u,hu,e2 u l⟩
 | _=>cases ha
theorem Ez:∀{l:List Nat} {x i:Nat},l[i]? =some x->Qq l x=true
 | [],x,i,h=>by simp at h
 | a::r,x,0,h=>by
  simp at h;subst h;unfold Qq;rw[show Nat.beq a a=true from aiX a]
 | a::r,x,i+1,h=>by
  unfold Qq;cases Nat.beq a x
  ·exact Ez amg
  ·rfl
theorem xD:∀{η:List al} {k:List Nat} {i id g sz n:Nat} {e:TypeId} {f:Nat->List PV},η[i]? =some (al.row g sz n e f)->k[i]? =some id->∃j:Nat,(oU η k)[j]? =some id
 | [],_,i,_,_,_,_,_,_,h,_=>by simp at h
 | _::_,[],i,_,_,_,_,_,_,_,h=>by simp at h
 | .row _ _ _ _ _::r,a::is,0,id,_,_,_,_,_,_,h=>by simp at h;subst h;exact⟨0,rfl⟩
 | .dead::r,a::is,0,id,_,_,_,_,_,h,_=>by simp at h
 | .row _ _ _ _ _::r,a::is,i+1,id,_,_,_,_,_,h1,h2=>by
  obtain⟨j,hj⟩:=xD (i:=i) amk amf;exact⟨j+1,by simpa[oU]using hj⟩
 | .dead::r,a::is,i+1,id,_,_,_,_,_,h1,h2=>by
  obtain⟨j,hj⟩:=xD (i:=i) amk amf;exact⟨j,by simpa[oU]using hj⟩
theorem xE:∀{η:List al} {k:List Nat} {i j id g sz n b c d:Nat} {e l:TypeId} {f m:Nat->List PV},pt (oU η k)=true->η[i]? =some (al.row g sz n e f)->k[i]? =some id->η[j]? =some (al.row b c d l m)->k[j]? =some id->i=j
 | [],_,i,_,_,_,_,_,_,_,_,_,_,_,_,_,h,_,_,_=>by simp at h
 | _::_,[],i,_,_,_,_,_,_,_,_,_,_,_,_,_,_,h,_,_=>by simp at h
 | .row _ _ _ _ _::r,a::is,0,0,_,_,_,_,_,_,_,_,_,_,_,_,_,_,_,_=>rfl
 | .row _ _ _ _ _::r,a::is,0,j+1,id,_,_,_,_,_,_,_,_,_,_,hn,_,h2,h3,h4=>by
  simp at h2;subst h2;obtain⟨q,hq⟩:=xD (η:=r) (k:=is) (i:=j) (by simpa using h3) (by simpa using h4);unfold oU pt at hn;rw[Ez hq]at hn;cases hn
 | .row _ _ _ _ _::r,a::is,i+1,0,id,_,_,_,_,_,_,_,_,_,_,hn,h1,h2,_,h4=>by
  simp at h4;subst h4;obtain⟨q,hq⟩:=xD (η:=r) (k:=is) (i:=i) amk amf;unfold oU pt at hn;rw[Ez hq]at hn;cases hn
 | .row _ _ _ _ _::r,a::is,i+1,j+1,id,_,_,_,_,_,_,_,_,_,_,hn,h1,h2,h3,h4=>by
  unfold oU pt at hn;cases hm:Qq (oU r is) a with
  | true=>rw[hm]at hn;cases hn
  | false=>
   rw[hm]at hn;rw[xE (η:=r) (k:=is) (i:=i) (j:=j) hn amk amf (by simpa using h3) (by simpa using h4)]
 | .dead::r,a::is,0,_,_,_,_,_,_,_,_,_,_,_,_,_,h,_,_,_=>by simp at h
 | .dead::r,a::is,_+1,0,_,_,_,_,_,_,_,_,_,_,_,_,_,_,h,_=>by simp at h
 | .dead::r,a::is,i+1,j+1,id,_,_,_,_,_,_,_,_,_,_,hn,h1,h2,h3,h4=>by
  rw[xE (η:=r) (k:=is) (i:=i) (j:=j) hn amk amf (by simpa using h3) (by simpa using h4)]
theorem xy (hc:Core μ h S w) (hh:kV h η k m 0 η k) (hk:pt (oU η k)=true):Core (ns μ h k) η (Hb μ h k S) w/\(∀b,cf (ns μ h k) η b->cf μ h b)/\∀b,Hb μ h k S b->S b\/cf μ h b:=by
 obtain⟨hlen,cH⟩:=pF η k 0 hh
 have back:∀(a A s r:Nat) (t:TypeId) (v:Nat->List PV),η[a]? =some (al.row A s r t v)->(r=0/\ns μ h k a=none)\/∃(id g:Nat) (f:Nat->List PV),k[a]? =some id/\(∃n,h[id]? =some (al.row g s n t f)/\r<=n/\(r=n\/s≠2))/\ns μ h k a=μ id/\
   ∀i,i<r->(v i).length=(f i).length/\∀(j:Nat) (pv pv':PV),(f i)[j]? =some pv->(v i)[j]? =some pv'->Fz h η k pv pv':=λa A s r t v hη=>by
  obtain⟨id,r1,l⟩:=cH a _ hη;unfold vQ at l;cases E:h[id]? with
  | none=>rw[E]at l;exact .inl ⟨l.2,Ha r1 E⟩
  | some o=>
   cases o with
   | dead=>rw[E]at l;exact l.elim
   | row g sz n e f=>
    rw[E]at l;obtain⟨_,rfl,U,rfl,G⟩:=l;refine .inr ⟨id,g,f,r1,⟨n,E,?_⟩,va r1 E,λi hi=>vn.get _ _ (G i hi)⟩;rcases U with rfl | ⟨_,r5,r6⟩
    ·exact⟨ahy _,.inl rfl⟩
    ·exact⟨r6,.inr r5⟩
 have V:∀b,CV (ns μ h k) η b->∃id,id∈k/\∃g sz n e f base,h[id]? =some (al.row g sz n e f)/\μ id=some (b,base):=λb d=>by
  obtain⟨a,A,s,r,t,v,base,hη,hm⟩:=d;rcases back a A s r t v hη with⟨_,q3⟩ | ⟨id,g,f,q1,⟨n,q2,_⟩,q3,_⟩
  ·rw[q3]at hm;cases hm
  ·rw[q3]at hm;exact⟨id,ahJ q1,g,s,n,t,f,base,q2,hm⟩
 have J:∀{pv:PV} {sz n:Nat} {e:TypeId} {f:Nat->List PV} {F:Nat->Prop},Fz h η k pv (.bu sz n e f F)->pv=.bu sz n e f F\/(pv=.az/\n=0/\∀b,¬F b):=λR=>by
  cases R with
  | bu=>exact .inl rfl
  | zq=>exact .inr ⟨rfl,rfl,λ_ h=>h⟩
 have K:∀a i j b,cV η a i j b->∃id,k[a]? =some id/\cV h id i j b/\∃g sz n e f,η[a]? =some (al.row g sz n e f):=λa i j b ⟨A,s,r,t,v,oZ,n2,e2,f2,F2,q1,q2,q3,q4⟩=>by
  rcases back a A s r t v q1 with⟨r1,_⟩ | ⟨id,g,f,r1,⟨n,l,hle,_⟩,G,U⟩
  ·omega
  ·obtain⟨W,L⟩:=U i q2;have X:j<(f i).length:=by rw[<-W];exact(Is.1 q3).1
   have M:=abF X;rcases J (L j _ _ M q3)with this | ⟨_,_,this⟩
   ·exact⟨id,r1,⟨g,s,n,t,f,_,_,_,_,_,l,by omega,by rw[M,this],q4⟩,_,_,_,_,_,q1⟩
   ·exact absurd q4 (this b)
 have Y:∀b,cf (ns μ h k) η b->cf μ h b:=λb d=>by
  rcases d with d | ⟨x,y,z,d⟩
  ·obtain⟨id,_,g,sz,n,e,f,base,q2,hm⟩:=V b d;exact .inl ⟨id,g,sz,n,e,f,base,q2,hm⟩
  ·obtain⟨id,_,q,_⟩:=K x y z b d;exact alU
 have hs:∀b,Hb μ h k S b->S b\/cf μ h b:=λb d=>by
  rcases d with d | ⟨id,g,sz,n,e,f,base,_,h1,h2 | ⟨i,j,h2⟩⟩
  ·exact .inl d
  ·exact .inr (.inl ⟨id,g,sz,n,e,f,base,h1,h2⟩)
  ·exact .inr (.inr ⟨_,_,_,h2⟩)
 refine⟨⟨λa A s r t v hη=>?_,?_⟩,Y,hs⟩
 ·rcases back a A s r t v hη with⟨rfl,q3⟩ | ⟨id,g,f,q1,⟨n,q2,hle,Z⟩,q3,q4⟩
  ·exact⟨λi hi=>absurd hi (ahP _),by rw[q3]⟩
  obtain⟨r1,l⟩:=hc.heap id g s n t f q2;refine⟨λi hi=>(q4 i hi).1.trans (r1 i (ahS hi hle)),?_⟩;rw[q3];cases hm:μ id with
  | none=>rw[hm]at l;have l:n=0:=l;show r=0;omega
  | some p=>
   obtain⟨b,base⟩:=p;rw[hm]at l;obtain⟨o,W,L⟩:=l;refine⟨o,W,?_⟩;cases o with
   | cells cur e2 z=>
    obtain⟨x1,x2,x3,T⟩:=L;refine⟨x1,x2,air (Nat.add_le_add_left (ahH _ hle) _) x3,λi j pv' hi hj=>?_⟩;have X:j<(f i).length:=by rw[<-(q4 i hi).1];exact(Is.1 hj).1
    have M:=abF X;obtain⟨u,t1,B⟩:=T i j _ (ahS hi hle) M;have R:=(q4 i hi).2 j _ pv' M hj;refine⟨u,t1,?_⟩;cases H:dj pv' with
    | false=>exact bK.k ((uf hc hh R).1 u B.c) H
    | true=>
     cases pv' with
     | bu oZ n2 e2 f2 F2=>
      rcases J R with hq | ⟨hq,rfl,hF⟩
      ·rw[hq]at B;exact nq.mono (λ_ _=>rfl) (λb d=>.inl d) (show nq S w (.bu oZ n2 e2 f2 F2) u from B) (λ_ _ _ _ _ _ _ _=>rfl)
      ·rw[hq]at B;have B:aR S w .az u:=B;cases B;exact nq.nil _ _ _ _ hF
     | _=>cases H
   | map es c=>
    obtain⟨x1,T⟩:=L
    have hn:r=n:=by
     rcases Z with h0 | h0
     ·exact h0
     ·rcases aiq n with h1 | h1
      ·omega
      ·obtain⟨kp,vp,en,y1,_⟩:=T 0 h1;have:=r1 0 h1;rw[y1]at this;exact absurd this.symm h0
    subst hn;refine⟨x1,λi hi=>?_⟩;obtain⟨kp,vp,en,y1,y2,y3,y4,y5,y6⟩:=T i hi;obtain⟨z1,z2⟩:=q4 i hi;rw[y1]at z1 z2;generalize GP:v i=l' at z1 z2 ⊢;rcases l' with _ | ⟨N,_ | ⟨O,_ | ⟨c3,l3⟩⟩⟩<;>simp at z1;have w1:=O2 (z2 0 kp N rfl rfl) y2;have w2:=O2 (z2 1 vp O rfl rfl) y3;exact⟨N,O,en,rfl,w1.1,w2.1,y4,w1.2 _ y5,w2.2 _ y6⟩
   | _=>exact L.elim
 ·refine⟨λb d C=>?_,λb d=>hc.ok.lt b (Y b d),λb d=>?_,?_,hc.ok.known.keep (λ_ _=>rfl) (λ_ d=>.inl d),λb d x y z H=>?_,λb i x y j x' y' H vO=>?_⟩;rotate_right 2
  ·obtain⟨id,_,g,sz,n,e,f,base,q2,hm⟩:=V b d;obtain⟨I,_,q,_⟩:=K x y z b H;exact hc.ok.hv b ⟨id,g,sz,n,e,f,base,q2,hm⟩ _ _ _ q
  ·obtain⟨P,k1,q1,_,_,_,_,_,r1⟩:=K i x y b H;obtain⟨I,k2,q2,_,_,_,_,_,l⟩:=K j x' y' b vO;obtain⟨e1,e2,e3⟩:=hc.ok.hh b _ _ _ _ _ _ q1 q2;subst e1;exact⟨xE hk r1 k1 l k2,e2,e3⟩
  ·rcases C with C | ⟨I,g2,oZ,n2,e2,f2,aa,Q,h1,h2⟩
   ·exact hc.ok.apart b (Y b d) C
   ·rcases d with d | ⟨x,y,z,d⟩
    ·obtain⟨id,D,g,sz,n,e,f,base,q2,hm⟩:=V b d;rcases h2 with h2 | ⟨i,j,h2⟩
     ·have:=hc.ok.inj id I _ _ _ _ _ _ _ _ _ _ _ _ _ q2 h1 hm h2;subst this;exact Q D
     ·exact hc.ok.hv b ⟨id,g,sz,n,e,f,base,q2,hm⟩ _ _ _ h2
    ·obtain⟨id,D,q,_⟩:=K x y z b d;rcases h2 with h2 | ⟨i,j,h2⟩
     ·exact hc.ok.hv b ⟨I,g2,oZ,n2,e2,f2,aa,h1,h2⟩ _ _ _ q
     ·obtain⟨e1,_,_⟩:=hc.ok.hh b _ _ _ _ _ _ q h2;subst e1;exact Q (ahJ D)
  ·rcases hs b d with h1 | h1
   ·exact hc.ok.slt b h1
   ·exact hc.ok.lt b h1
  ·intro i j gi P1 ni ei fi gj lM nj ej fj b o o' hi hj oQ nN;rcases back i gi P1 ni ei fi hi with⟨_,q3⟩ | ⟨P,g1,f1,q1,⟨ad,q2,_⟩,q3,_⟩
   ·rw[q3]at oQ;cases oQ
   rcases back j gj lM nj ej fj hj with⟨_,G⟩ | ⟨I,g2,f2,r1,⟨ag,l,_⟩,G,_⟩
   ·rw[G]at nN;cases nN
   rw[q3]at oQ;rw[G]at nN;have:=hc.ok.inj P I _ _ _ _ _ _ _ _ _ _ _ _ _ q2 l oQ nN;subst this;exact xE hk hi q1 hj r1
structure Start where
 μ:Mu
 h:List al
 S:Nat->Prop
 w:World
 nt:Nat
theorem SJ {C:Start} (hc:Core μ h S w) (hf:Fr C.μ C.h C.S C.w μ h S w) (hh:kV h η k C.h.length 0 η k) (E:pt (oU η k)=true) (hm:C.h.length<=k.length):
  Fr C.μ C.h C.S C.w (ns μ h k) η (Hb μ h k S) w:=by
 obtain⟨hlen,cH⟩:=pF η k 0 hh;obtain⟨_,F,hs⟩:=xy hc hh E
 have idx:∀id,id<C.h.length->∃o a,η[id]? =some o/\k[id]? =some a/\vQ h η k C.h.length o id a:=λid hid=>by
  have x:id<η.length:=by omega
  obtain⟨a,r1,d⟩:=cH id _ (abF x);rw[ahx]at d;exact⟨_,a,abF x,r1,d⟩
 refine⟨by omega,hf.blocks,λb i=>.inl (hf.sub b i),λb i=>?_,λb i=>hf.own b (F b i),hf.size,hf.os,hf.tape,hf.output,λid l m p q r h0=>?_,λid h0=>?_,hf.bJ,λid l m p q r b base h0 s G=>?_,hf.yj⟩;rotate_right
 ·have hid:id<C.h.length:=(Is.1 h0).1;obtain⟨o,a,q1,q2,q3⟩:=idx id hid;obtain⟨r1,d⟩:=hf.maps id l m p q r b base h0 s G;refine⟨r1,?_⟩;rw[q1];unfold vQ at q3;cases o with
  | dead=>exact .inl rfl
  | row y z A B D=>
   cases c:h[a]? with
   | none=>rw[c]at q3;exact absurd q3.1 alV
   | some j=>
    cases j with
    | dead=>rw[c]at q3;exact q3.elim
    | row g sz n e f=>
     rw[c]at q3;obtain⟨t,rfl,u,rfl,_⟩:=q3;obtain⟨rfl,rfl⟩:=t hid;obtain rfl:=u.resolve_right (λv=>absurd v.1 alV);rw[c]at d;rcases d with d | ⟨_,H⟩
     ·cases d
     ·exact .inr ⟨⟨_,_,_,_,_,rfl⟩,(va q2 c).trans H⟩
 ·rcases hs b i with h1 | h1
  ·exact hf.new b h1
  ·rcases hf.own b h1 with h2 | h2
   ·exact .inr (.inl h2)
   ·exact .inr (.inr h2)
 ·have hid:id<C.h.length:=(Is.1 h0).1;obtain⟨o,a,q1,q2,q3⟩:=idx id hid;have hg:=hf.Ed id l m p q r h0;rw[q1];unfold vQ at q3;cases o with
  | dead=>trivial
  | row y z A B D=>
   cases c:h[a]? with
   | none=>rw[c]at q3;exact absurd q3.1 alV
   | some j=>
    cases j with
    | dead=>rw[c]at q3;exact q3.elim
    | row g sz n e f=>
     rw[c]at q3;obtain⟨r1,rfl,d,rfl,_⟩:=q3;obtain⟨rfl,rfl⟩:=r1 hid;obtain rfl:=d.resolve_right (λv=>absurd v.1 alV);rw[c]at hg;refine⟨hg.1,λhe=>?_⟩;obtain⟨t,u,I,J⟩:=hg.2 he;exact⟨by rw[va q2 c];exact t,u,I,J⟩
 ·have hid:id<C.h.length:=(Is.1 h0).1;obtain⟨o,a,q1,q2,q3⟩:=idx id hid;have hd:=hf.dead id h0;rw[q1];unfold vQ at q3;cases o with
  | dead=>rfl
  | row y z A B D=>
   cases c:h[a]? with
   | none=>rw[c]at q3;exact absurd q3.1 alV
   | some j=>
    cases j with
    | dead=>rw[c]at q3;exact q3.elim
    | row g sz n e f=>
     rw[c]at q3;obtain⟨rfl,rfl⟩:=q3.1 hid;rw[c]at hd;cases hd
structure qq (C:Start) (μ:Mu) (h:List al) (S:Nat->Prop) (env:Env) (a:Act) (w:World):Prop where
 core:Core μ h S w
 fr:Fr C.μ C.h C.S C.w μ h S w
 tmps:∀t,bz μ h S w (env t) (a.tmps.getD t undef)
 size:a.tmps.size=C.nt
 far:∀t,C.nt<=t->env t=.jw
 defers:a.defers=[]
variable {C:Start}{env:Env}{a:Act}
theorem EA (env:Env) (t:Nat) (v:PV):sB env t v t=v:=by simp [sB]
theorem I5 (env:Env) {t j:Nat} (v:PV) (hj:j≠t):sB env t v j=env j:=by
 unfold sB
 have:Nat.beq j t=false:=by
  cases a:Nat.beq j t with
  | true=>exact(hj (ahz a)).elim
  | false=>rfl
 rw[this];rfl
def rX (nt:Nat) (o:Oper):Bool:=match o.dst with | some t=>Nat.blt t nt | none=>true
theorem qq.put (hs:qq C μ h S env a w) {μ':Mu} {h':List al} {S':Nat->Prop} {w':World} (hf:Fr μ h S w μ' h' S' w') (hc:Core μ' h' S' w') {dst:Option Nat} {v:PV} {val:Value} (hv:bz μ' h' S' w' v val)
  (hd:∀t,dst=some t->t<C.nt):qq C μ' h' S' (eg env dst v) (a.put dst val) w':=by
 refine⟨hc,hs.fr.trans hf,λt=>?_,?_,λt c=>?_,?_⟩
 ·cases dst with
  | none=>exact(hs.tmps t).fr hf hs.core.ok
  | some d=>
   have e:=hd d rfl;by_cases b:t=d
   ·subst b;show bz μ' h' S' w' (sB env t v t) _;rw[EA]
    have:((a.put (some t) val).tmps).getD t undef=val:=by
     have f:t<a.tmps.size:=by rw[hs.size];exact e
     simp [Act.put,f]
    rw[this];exact hv
   ·show bz μ' h' S' w' (sB env d v t) _;rw[I5 env v b]
    have:((a.put (some d) val).tmps).getD t undef=a.tmps.getD t undef:=by
     simp [Act.put,ajC (aiI b)]
    rw[this];exact(hs.tmps t).fr hf hs.core.ok
 ·cases dst with
  | none=>exact hs.size
  | some d=>simp [Act.put,hs.size]
 ·cases dst with
  | none=>exact hs.far t c
  | some d=>
   have e:=hd d rfl;show sB env d v t=_;rw[I5 env v alV];exact hs.far t c
 ·cases dst with
  | none=>exact hs.defers
  | some d=>exact hs.defers
theorem qq.EB (hs:qq C μ h S env a w) {t:Nat} {b:Bool} (he:env t=.bool b):qq C μ h S (sB env t (.bool b)) a w:=by
 have:sB env t (.bool b)=env:=by
  funext j;by_cases hj:j=t
  ·subst hj;rw[EA,he]
  ·rw[I5 env _ hj]
 rw[this];exact hs
def EC (C:Start) (Q:XQ):Exit->Act->World->Prop:=λe a w=>∃μ h S env,qq C μ h S env a w/\Q e env h
theorem yV (hs:qq C μ h S env a w) {ops:Array Oper} {j t:Nat} {b:Bool} (hj:(ops.toList[j]?).bind (·.dst)=some t) (he:env t=.bool b):yielded ops a.tmps j=some b:=by
 have hv:=hs.tmps t;rw[he]at hv;have hv:=hv.nQ
 have c:t<a.tmps.size:=by
  rcases aip t a.tmps.size with h1 | h1
  ·exact h1
  ·rw[hs.far t (by rw[<-hs.size];exact h1)]at he;cases he
 unfold yielded;rw[ahV]at hj;rw[hj];simp only[ajQ]
 have:a.tmps[t]? =some (.bool b):=by
  rw[ahX c];simp [c]at hv;rw[hv]
 rw[this]
theorem yW:bz μ h S w (.eG []) undef:=⟨#[],rfl,rfl,λj pv hj=>by simp at hj⟩
theorem vb (hs:qq C μ h S env a w) {ops:Array Oper} {j t:Nat} (hj:(ops.toList[j]?).bind (·.dst)=some t) (he:env t=.eG []):yielded ops a.tmps j=none:=by
 have hv:=hs.tmps t;rw[he]at hv;obtain⟨vs,hv,_⟩:=hv;unfold yielded;rw[ahV]at hj;rw[hj];simp only[ajQ];rcases aip t a.tmps.size with h1 | h1
 ·have:a.tmps[t]? =some (.tuple vs):=by
   rw[ahX h1];simp [h1]at hv;rw[hv]
  rw[this]
 ·rw[Array.getElem?_eq_none h1]
theorem yX {K:Env->List al->Prop} (all:List Oper) (o:Oper) (rest:List Oper) (env:Env) (h:List al) {j:Nat} {want:Bool} (hg:o.guard=some (j,want)):
  xj P T all K (o::rest) env h=(match(all[j]?).bind (·.dst)with
     | some t=>match env t with
      | .bool b=>ef b
        (match(generalizing:=false) want with
         | true=>pop P T o.op (sB env t (.bool true)) h (λv h'=>xj P T all K rest (eg (sB env t (.bool true)) o.dst v) h')
         | false=>xj P T all K rest (eg (sB env t (.bool true)) o.dst (.eG [])) h)
        (match(generalizing:=false) want with
         | true=>xj P T all K rest (eg (sB env t (.bool false)) o.dst (.eG [])) h
         | false=>pop P T o.op (sB env t (.bool false)) h (λv h'=>xj P T all K rest (eg (sB env t (.bool false)) o.dst v) h'))
      | .eG []=>xj P T all K rest (eg env o.dst (.eG [])) h
      | _=>False
     | none=>False):=by
 obtain⟨dst,op,ty,pos,after,guard⟩:=o;have hg:guard=some (j,want):=hg;rw[hg];rfl
theorem yY (e:da P T) (ops:Array Oper) {K:Env->List al->Prop} {Q:Exit->Act->World->Prop} (f:∀env h a w μ S,K env h->qq C μ h S env a w->Q .normal a w):
  ∀(l:List Oper) (env:Env) (h:List al) (a:Act) (w:World) (μ:Mu) (S:Nat->Prop),xj P T ops.toList K l env h->(∀o∈l,rX C.nt o=true)->qq C μ h S env a w->wpList P ops Q l a w
 | [],env,h,a,w,μ,S,hp,_,hs=>f env h a w μ S hp hs
 | o::rest,env,h,a,w,μ,S,hp,hd,hs=>by
  have k:∀t,o.dst=some t->t<C.nt:=λt g=>by
   have:=hd o alW;unfold rX at this;rw[g]at this;simpa using this
  have d:∀o∈rest,rX C.nt o=true:=λo m=>hd o (by simp [m])
  have run:∀env',qq C μ h S env' a w->pop P T o.op env' h (λv h'=>xj P T ops.toList K rest (eg env' o.dst v) h')->o.wp P a w (wpList P ops Q rest) Q:=λenv' c i=>by
   obtain⟨dst,op,ty,pos,after,guard⟩:=o;refine G9 (env:=env') e c.core c.tmps i _ _ λv val h' μ' S' w' n hv hc hf=>?_;exact yY e ops f rest _ h' _ w' μ' S' n d (c.put hf hc hv k)
  have skip:∀env',qq C μ h S env' a w->xj P T ops.toList K rest (eg env' o.dst (.eG [])) h->wpList P ops Q rest (a.put o.dst undef) w:=λenv' c i=>
   yY e ops f rest _ h _ w μ S i d (c.put Fr.refl c.core yW k)
  unfold wpList;cases hg:o.guard with
  | none=>
   have hp:pop P T o.op env h (λv h'=>xj P T ops.toList K rest (eg env o.dst v) h'):=by
    exact akw
   rw[As (by simp [Region.wanted,hg])];exact .inl (run env hs hp)
  | some p=>
   obtain⟨j,want⟩:=p;rw[yX ops.toList o rest env h hg]at hp;split at hp
   ·rename_i t hj;split at hp
    ·rename_i b he;have hy:=yV hs hj he;obtain⟨g,hf⟩:=lD hp;have c:=hs.EB he;cases b with
     | true=>
      have hp:=g rfl;cases want with
      | true=>rw[As amb];exact .inl (run _ c hp)
      | false=>rw[An amb];exact skip _ c hp
     | false=>
      have hp:=hf rfl;cases want with
      | true=>rw[An amb];exact skip _ c hp
      | false=>rw[As amb];exact .inl (run _ c hp)
    ·rename_i he;rw[An amp];exact skip _ hs hp
    ·exact alc
   ·exact alc
end
end Go.Am
