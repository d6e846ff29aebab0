/- Texts of the proof, joined and shortened. -/
import Derived.Test.YtmkelbnaodipcaaDoorPk1
import Derived.MapKept
import Derived.Lib.ConvBytes
import Derived.Lib.AtoiErrMem
import Derived.Deep.LoopGhost
set_option linter.unusedVariables false
set_option linter.unusedSimpArgs false
namespace Go.Am
open Go Go.RowKit
section
variable {P:Program}{T:ij}{μ:Mu}{h:List au}{S:Nat->Prop}{w:World}
theorem dk (t j ty e:TypeId) (i:TypeInfo) (d:TypeDesc) (k:P.underlying t=some (.slice e)) (hx:P.underlying j=some d) (hd:(∃l,d=.slice l)\/d=.string) (hi:P.info? e=some i)
  (f:Option Addr) (c g:Nat) (h:Value) (m:Nat) (news:Array Value) (w':World) (hlen:(Builtin.lenOf h).run P w=.ok m w) (n:(Builtin.firstCells i.size m h).run P w=.ok news w) (o:c+m<=g)
  (b:match f with | some a=>(storeCells (a.add (c*i.size)) news.toList).run P w=.ok () w' | none=>w'=w):
  (Builtin.append_ #[t,j] ty #[.slice f c g,h]).run P w=.ok (.slice f (c+m) g) w':=by
 rcases hd with⟨l,rfl⟩ | rfl<;>cases f with
 | none=>
  have b:w'=w:=b;subst b;simp [Builtin.append_,run_underlying k,run_underlying hx,sizeOf,typeInfo,hi,hlen,o,n]
 | some a=>
  have b:(storeCells (a.add (c*i.size)) news.toList).run P w=.ok () w':=b;simp [Builtin.append_,run_underlying k,run_underlying hx,sizeOf,typeInfo,hi,hlen,o,n,b]
theorem fE (t f ty e:TypeId) (i:TypeInfo) (z:Value) (d:TypeDesc) (k:P.underlying t=some (.slice e)) (hx:P.underlying f=some d) (hd:(∃g,d=.slice g)\/d=.string) (hi:P.info? e=some i) (l:i.zero=some z)
  (h:Option Addr) (a b:Nat) (c:Value) (m:Nat) (j news:Array Value) (hlen:(Builtin.lenOf c).run P w=.ok m w) (n:(Builtin.firstCells i.size a (.slice h a b)).run P w.drew=.ok j w.drew)
  (o:(Builtin.firstCells i.size m c).run P w.drew=.ok news w.drew) (hg:b<a+m) (p:0<i.bytes) (q:(a+m)*i.bytes<=140737488355328):
  (Builtin.append_ #[t,f] ty #[.slice h a b,c]).run P w=.ok (.slice (some ⟨w.heap.size,0,none⟩) (a+m) (grownCap w (a+m) b e))
   (w.drew.alloc (.cells (j++news++Builtin.zeroCells z.cells (grownCap w (a+m) b e - (a+m))) e)):=by
 have r:¬(a+m<=b):=by omega
 have hle:a+m<=(a+m)*i.bytes:=Nat.le_mul_of_pos_right _ p;have s:¬(9223372036854775807<((a:Int)+(m:Int))):=by omega
 have v:=growslice_fits hg q;have u:¬(281474976710656<Builtin.nextslicecap (a+m) b*i.bytes):=by omega
 rcases hd with⟨g,rfl⟩ | rfl<;>
  simp [Builtin.append_,run_underlying k,run_underlying hx,sizeOf,typeInfo,zeroValue,hi,l,hlen,r,s,u,Question.forced,o,n,newRow,grownCap]
theorem vL (b off m sz:Nat) (dp:0<sz) (g:Nat->List PV) (f:∀i,i<m->(g i).length=sz)
  (l:∀(i j:Nat) (pv:PV),i<m->(g i)[j]? =some pv->∃u,w.cell? ⟨b,off+i*sz+j,none⟩=some u/\gZ μ h S w pv u):
  ∃news:Array Value,news.size=m*sz/\(∀(i j:Nat) (pv:PV),i<m->(g i)[j]? =some pv->∃u,news[i*sz+j]? =some u/\gZ μ h S w pv u)/\
   (∀u∈news.toList,u.oneCell'=true)/\∀w',bg w w'->(loadCells ⟨b,off,none⟩ (m*sz)).run P w'=.ok news w':=by
 let F:Nat->Value:=λq=>(w.cell? ⟨b,off+q,none⟩).getD undef
 have a:∀(i j:Nat) (pv:PV),i<m->(g i)[j]? =some pv->w.cell? ⟨b,off+(i*sz+j),none⟩=some (F (i*sz+j))/\gZ μ h S w pv (F (i*sz+j)):=λi j pv hi hj=>by
  obtain⟨u,h1,h2⟩:=l i j pv hi hj;have e:off+(i*sz+j)=off+i*sz+j:=by omega
  have n:F (i*sz+j)=u:=by
   show(w.cell? ⟨b,off+(i*sz+j),none⟩).getD undef=u;rw[e,h1];rfl
  rw[n,e];exact⟨h1,h2⟩
 have hq:∀q,q<m*sz->∃pv,q / sz<m/\(g (q / sz))[q % sz]? =some pv:=λq hq=>by
  have h1:q / sz<m:=(Nat.div_lt_iff_lt_mul dp).2 hq;have h2:q % sz<(g (q / sz)).length:=by rw[f _ h1];exact Nat.mod_lt _ dp
  exact⟨_,h1,As h2⟩
 have k:∀q,q / sz*sz+q % sz=q:=λq=>by rw[Nat.mul_comm];exact Nat.div_add_mod q sz
 refine⟨((List.range (m*sz)).map F).toArray,by simp,λi j pv hi hj=>?_,λu hu=>?_,λw' ha=>?_⟩
 ·have p:j<sz:=by rw[<-f i hi];exact(an.1 hj).1
  have o:i*sz+j<m*sz:=by
   have:(i+1)*sz<=m*sz:=SC _ hi;rw[SD]at this;omega
  exact⟨F (i*sz+j),by simp [o],(a i j pv hi hj).2⟩
 ·simp only[SF,TB]at hu;obtain⟨q,d,rfl⟩:=hu;obtain⟨pv,h1,h2⟩:=hq q d;have:=(a _ _ pv h1 h2).2.c.one
  rwa [k]at this
 ·refine run_loadCells w' ⟨b,off,none⟩ (m*sz) F λq d=>?_;obtain⟨pv,h1,h2⟩:=hq q d;have:=(a _ _ pv h1 h2).1;rw[k]at this;rw[Addr.add_lit];exact ha.cell this
theorem yS:∀{l:List PV},La l=true->∀{j:Nat} {pv:PV},l[j]? =some pv->cg pv=false
 | [],_,j,pv,hj=>by simp at hj
 | c::r,h,0,pv,hj=>by
  simp at hj;subst hj;cases c<;>first | rfl | cases h
 | c::r,h,j+1,pv,hj=>yS (l:=r) (by cases c<;>first | exact h | cases h) UW
def Src (P:Program) (μ:Mu) (h:List au) (S:Nat->Prop) (w:World) (a:Value) (sz m:Nat) (g:Nat->List PV):Prop:=
 (∀i,i<m->(g i).length=sz)/\∃news:Array Value,news.size=m*sz/\(∀(i j:Nat) (pv:PV),i<m->(g i)[j]? =some pv->∃u,news[i*sz+j]? =some u/\gZ μ h S w pv u)/\
  (∀u∈news.toList,u.oneCell'=true)/\∀w',bg w w'->(Builtin.lenOf a).run P w'=.ok m w'/\(Builtin.firstCells sz m a).run P w'=.ok news w'
theorem Src.empty (b:Value) (sz:Nat) (g:Nat->List PV) (hx:∃a c,b=.slice a 0 c):Src P μ h S w b sz 0 g:=by
 obtain⟨a,c,rfl⟩:=hx;refine⟨λi hi=>absurd hi UN,#[],by simp,λi j pv hi=>absurd hi UN,λu hu=>by simp at hu,λw' _=>⟨rfl,?_⟩⟩;cases a with
 | none=>rfl
 | some a=>simp [Builtin.firstCells,loadCells,loadCellsFrom]
theorem fV (hc:Core μ h S w) (id g off len sz n:Nat) (e:TypeId) (f:Nat->List PV) (hh:h[id]? =some (au.row g sz n e f)) (v:Value) (hv:aX μ h S w (.own id g off len) v) (dp:0<sz):Src P μ h S w v sz len (λi=>f (off+i)):=by
 have a:=hv.gq;unfold aN at a;rw[hh]at a;obtain⟨_,_,a⟩:=a;obtain⟨hle,a⟩:=a rfl;obtain⟨k,c⟩:=hc.heap id g sz n e f hh;cases l:μ id with
 | none=>
  rw[l]at a c;have t:n=0:=c;have h0:len=0:=by omega
  subst h0;exact Src.empty v sz _ ⟨_,_,a⟩
 | some p=>
  obtain⟨b,base⟩:=p;rw[l]at a c;obtain⟨x,cap,hv,y,d,m⟩:=a;obtain⟨cur,o,z,q⟩:=bu.cells m c;rcases Ta len with h0 | h0
  ·subst h0;exact Src.empty v sz _ ⟨_,_,hv⟩
  ·have d:=d UN;subst d
   obtain⟨news,q1,q2,q3,q4⟩:=vL (P:=P) (μ:=μ) (h:=h) (S:=S) (w:=w) b (base+off*sz) len sz dp (λi=>f (off+i)) (λi hi=>k _ UN) (λi j pv hi hj=>by
    obtain⟨u,r,s⟩:=q (off+i) j pv UN hj;refine⟨u,?_,s⟩;rw[cell_of_row w b _ cur e (0,0) o,<-r];congr 1;rw[SD];omega)
   exact⟨λi hi=>k _ UN,news,q1,q2,q3,λw' ha=>⟨by rw[hv];rfl,by rw[hv];exact q4 w' ha⟩⟩
theorem sO (hc:Core μ h S w) (x:PV) (l:Value) (hx:aX μ h S w x l) (sz:Nat) (dp:0<sz) (K:Nat->(Nat->List PV)->Prop) (hp:xG x h sz K):∃m g,K m g/\Src P μ h S w l sz m g/\∀(i j:Nat) (pv:PV),i<m->(g i)[j]? =some pv->cg pv=false:=by
 unfold xG at hp;split at hp
 ·exact⟨_,_,hp,Src.empty _ _ _ ⟨_,_,hx.iL⟩,λi j pv hi=>absurd hi (S6 _)⟩
 ·rename_i q m g;replace hp:=aT hp;obtain⟨d,hp⟩:=hp;obtain rfl:=No d;refine⟨m,g,hp,?_⟩;rcases hx.lF with⟨a,c,ex,rfl⟩ | ⟨b,off,c,y,ex,z,p,A,r,o⟩
  ·exact⟨Src.empty _ _ _ ⟨_,_,ex⟩,λi j pv hi=>absurd hi (S6 _)⟩
  ·obtain⟨news,q1,q2,q3,q4⟩:=vL (P:=P) (μ:=μ) (h:=h) (S:=S) (w:=w) b off m sz dp g p (λi j pv hi hj=>⟨_,r i j pv hi hj,(bf.eX (o i j pv hi hj)).k (aI.no (o i j pv hi hj))⟩);exact⟨⟨p,news,q1,q2,q3,λw' ha=>⟨by rw[ex];rfl,by rw[ex];exact q4 w' ha⟩⟩,λi j pv hi hj=>aI.no (o i j pv hi hj)⟩
 ·rename_i id gen off m;split at hp
  ·rename_i g q n e f hg;obtain⟨rfl,t,hp⟩:=hp;replace hp:=aT hp;obtain⟨d,hp⟩:=hp;obtain rfl:=No d;exact⟨m,_,hp,fV hc id g off m sz n e f (ca hg) l hx dp,λi j pv hi hj=>yS (t i hi) hj⟩
  ·exact Uq
 ·rename_i s;replace hp:=aT hp;obtain⟨d,hp⟩:=hp;obtain rfl:=No d;refine⟨_,_,hp,⟨λi hi=>rfl,(s.map λb=>Value.int .u8 b.toNat).toArray,by simp,λi j pv hi hj=>?_,λu hu=>?_,λw' _=>⟨by rw[hx.gp];rfl,?_⟩⟩,λi j pv hi hj=>?_⟩
  ·cases j with
   | zero=>
    simp at hj;subst hj;refine⟨.int .u8 (s.getD i 0).toNat,?_,aI.int _ _⟩;rw[Sz,As hi];simp [hi]
   | succ j=>simp at hj
  ·simp at hu;obtain⟨b,_,rfl⟩:=hu;rfl
  ·rw[hx.gp];have v:(ByteArray.mk ⟨s⟩).extract 0 s.length=ByteArray.mk ⟨s⟩:=by rw[pq];simp
   simp only[Builtin.firstCells,v];simp
  ·cases j with
   | zero=>simp at hj;subst hj;rfl
   | succ j=>simp at hj
 ·exact Uq
end
section
variable {P:Program}{T:ij}{μ:Mu}{h:List au}{S:Nat->Prop}{w w1:World}
theorem zZ (hc:Core μ h S w) (a g sz n:Nat) (e:TypeId) (f:Nat->List PV) (hh:h[a]? =some (au.row g sz n e f)):Fr μ h S w μ (h.set a .dead) S w/\Core μ (h.set a .dead) S w:=by
 have hid:a<h.length:=(an.1 hh).1;have m:(h.set a au.dead)[a]? =some au.dead:=by simp [hid]
 have c:∀j,j≠a->(h.set a au.dead)[j]? =h[j]?:=λj hj=>by rw[SN (Tl hj)]
 have k:∀{j gj dQ nj ej fj},(h.set a au.dead)[j]? =some (au.row gj dQ nj ej fj)->j≠a:=λhj hx=>by subst hx;rw[m]at hj;cases hj
 have r:∀b,qD μ (h.set a au.dead) b->qD μ h b:=λb ⟨j,gj,dQ,nj,ej,fj,ff,hj,hm⟩=>by
  rw[c j (k hj)]at hj;exact⟨j,gj,dQ,nj,ej,fj,ff,hj,hm⟩
 have l:∀j x y b,bN (h.set a au.dead) j x y b->bN h j x y b:=λj x y b ⟨gj,dQ,nj,ej,fj,u,v,A,B,C,q1,q2,q3,q4⟩=>by
  rw[c j (k q1)]at q1;exact⟨_,_,_,_,_,_,_,_,_,_,q1,q2,q3,q4⟩
 have q:∀b,bA μ (h.set a au.dead) b->bA μ h b:=λb hb=>by
  rcases hb with hb | ⟨x,y,z,hb⟩
  ·exact .inl (r b hb)
  ·exact .inr ⟨x,y,z,l _ _ _ _ hb⟩
 have s:Fr μ h S w μ (h.set a .dead) S w:=by
  refine⟨by simp,λ_ _ _=>rfl,λ_ hb=>hb,λ_ hb=>.inl hb,λb hb=>.inl (q b hb),Sv _,rfl,rfl,rfl,λj gj dQ nj ej fj hj=>?_,λj hj=>?_,λ_ _ _ cr=>cr,λj gj dQ nj ej fj b base hj hm fe=>⟨fe,?_⟩,λ_ _ _ _ _ fe=>fe⟩
  ·by_cases d:j=a
   ·subst d;rw[m];trivial
   ·rw[c j d,hj];exact⟨Sv _,λ_=>⟨rfl,rfl,rfl,rfl⟩⟩
  ·have d:j≠a:=by rintro rfl;rw[hh]at hj;cases hj
   rw[c j d];exact hj
  ·by_cases d:j=a
   ·subst d;exact .inl m
   ·exact .inr ⟨⟨_,_,_,_,_,(c j d).trans hj⟩,hm⟩
 refine⟨s,⟨λj gj dQ nj ej fj hj=>?_,⟨λb hb=>hc.ok.apart b (q b hb),λb hb=>hc.ok.lt b (q b hb),hc.ok.slt,?_,hc.ok.known,λb hb x y z hx=>hc.ok.hv b (r b hb) x y z (l _ _ _ _ hx),λb _ _ _ _ _ _ hx hy=>hc.ok.hh b _ _ _ _ _ _ (l _ _ _ _ hx) (l _ _ _ _ hy)⟩⟩⟩
 ·rw[c j (k hj)]at hj;obtain⟨h1,h2⟩:=hc.heap j gj dQ nj ej fj hj;refine⟨h1,?_⟩;cases hm:μ j with
  | none=>rw[hm]at h2;exact h2
  | some p=>
   obtain⟨b,base⟩:=p;rw[hm]at h2;obtain⟨o,q1,q2⟩:=h2;exact⟨o,q1,q2.mono (λ_ _ _ _ _ _ t=>t.fr s hc.ok (λ_ _ _ _ _ _ _ _=>rfl))⟩
 ·intro i j D E F G fi gj dQ nj ej fj b o H hi hj eY eN;rw[c i (k hi)]at hi;rw[c j (k hj)]at hj;exact Ux
theorem sP (hc:Core μ h S w) (id a:Nat) (iu:a≠id) (g2 hU n2:Nat) (H:TypeId) (f2:Nat->List PV) (Z:h[a]? =some (au.row g2 hU n2 H f2)) (I:Nat) (g r sz n l:Nat) (e:TypeId) (f m:Nat->List PV) (hh:h[id]? =some (au.row g sz n e f)) (d K:Nat) (L:Array Value)
  (hg:g<=r) (Ku:r=g->μ id=some (d,K)/\l=n)
  (hb:w.heap.size<=d\/∃base cur,μ id=some (d,base)/\w.heap[d]? =some (.cells cur e (0,0))/\cur.size=L.size)
  (hw:w1.heap[d]? =some (.cells L e (0,0))) (kk:K+l*sz<=L.size)
  (cj:∀b,b<w.heap.size->b≠d->w1.heap[b]? =w.heap[b]?) (gY:w.heap.size<=w1.heap.size) (HN:w1.os=w.os) (qA:w1.tape=w.tape) (tX:w1.output=w.output)
  (hl:∀i,i<l->(m i).length=sz) (wv:∀b base,μ id=some (b,base)->¬ib w b)
  (aK:∀(i j:Nat) (pv:PV),i<l->(m i)[j]? =some pv->∃v:Value,L[K+i*sz+j]? =some v/\gZ μ h S w pv v) (vj dL:Nat)
  (jT:∀(i j M N:Nat) (J:TypeId) (O:Nat->List PV) (P:Nat->Prop),i<l->(m i)[j]? =some (.aG M N J O P)->(i<I/\vj+i<n/\(f (vj+i))[j]? =some (.aG M N J O P))\/(I<=i/\dL+(i - I)<n2/\(f2 (dL+(i - I)))[j]? =some (.aG M N J O P))):
  Fr μ h S w (fv μ id (some (d,K))) ((h.set id (.row r sz l e m)).set a .dead) S w1/\Core (fv μ id (some (d,K))) ((h.set id (.row r sz l e m)).set a .dead) S w1:=by
 have hid:id<h.length:=(an.1 hh).1;have ck:((h.set id (au.row r sz l e m)).set a .dead)[id]? =some (au.row r sz l e m):=by rw[SN iu];simp [hid]
 have Ik:a<h.length:=(an.1 Z).1;have ks:((h.set id (au.row r sz l e m)).set a .dead)[a]? =some au.dead:=by simp [Ik]
 have s:∀j,j≠id->j≠a->((h.set id (au.row r sz l e m)).set a .dead)[j]? =h[j]?:=λj hj t=>by rw[SN (Tl t),SN (Tl hj)]
 have u:∀{j gj dQ nj ej fj},((h.set id (au.row r sz l e m)).set a .dead)[j]? =some (au.row gj dQ nj ej fj)->j≠a:=λhj hx=>by subst hx;rw[ks]at hj;cases hj
 have vl:d<w1.heap.size:=(Su.1 hw).1
 have hB:d<w.heap.size->bA μ h d:=λA=>by
  rcases hb with hb | ⟨base,cur,hm,_,_⟩
  ·omega
  ·exact UL
 have R:∀j x y b,bN ((h.set id (au.row r sz l e m)).set a .dead) j x y b->j≠a/\∃E F,bN h E F y b/\((j≠id/\E=j/\F=x)\/(j=id/\x<I/\E=id/\F=vj+x)\/(j=id/\I<=x/\E=a/\F=dL+(x - I))):=λj x y b ⟨gj,dQ,nj,ej,fj,M,N,J,O,P,q1,q2,q3,q4⟩=>by
  refine⟨u q1,?_⟩;by_cases bO:j=id
  ·subst bO;rw[ck]at q1;injection q1 with q1;injection q1 with T H U V W;subst T H U V W;rcases jT x y _ _ _ _ _ q2 q3 with⟨r0,B,C⟩ | ⟨r0,B,C⟩
   ·exact⟨_,_,⟨_,_,_,_,_,_,_,_,_,_,hh,B,C,q4⟩,.inr (.inl ⟨rfl,r0,rfl,rfl⟩)⟩
   ·exact⟨_,_,⟨_,_,_,_,_,_,_,_,_,_,Z,B,C,q4⟩,.inr (.inr ⟨rfl,r0,rfl,rfl⟩)⟩
  ·have t:=u q1;rw[s j bO t]at q1;exact⟨_,_,⟨_,_,_,_,_,_,_,_,_,_,q1,q2,q3,q4⟩,.inl ⟨bO,rfl,rfl⟩⟩
 have X:∀j x y b,bN h j x y b->b<w.heap.size/\b≠d:=λj x y b hx=>by
  have A:=hc.ok.lt b (.inr ⟨j,x,y,hx⟩);refine⟨A,?_⟩;rintro rfl;rcases hb with hb | ⟨base,cur,hm,_,_⟩
  ·omega
  ·exact UC
 have Y:Fr μ h S w (fv μ id (some (d,K))) ((h.set id (.row r sz l e m)).set a .dead) S w1:=by
  refine⟨by simp,λb A ph=>?_,λ_ hb=>hb,λ_ hb=>.inl hb,λb Q=>?_,gY,HN,qA,tX,λj gj dQ nj ej fj hj=>?_,λj hj=>?_,λb k lW cr=>?_,λj gj dQ nj ej fj b base hj hm fe=>?_,λb j x y hx fe=>?_⟩;rotate_right
  ·obtain⟨q1,q2⟩:=X j x y b hx;exact Un
  ·by_cases D:b=d
   ·subst D;exact(ph (hB A)).elim
   ·exact cj b A D
  ·rcases Q with⟨j,gj,dQ,nj,ej,fj,ff,hj,hm⟩ | ⟨j,x,y,hx⟩;rotate_left
   ·obtain⟨_,E,F,G,_⟩:=R j x y b hx;exact .inl (.inr ⟨_,_,_,G⟩)
   by_cases bO:j=id
   ·subst bO;rw[aJ]at hm;injection hm with hm;injection hm with h1 h2;subst h1;rcases S5 d w.heap.size with A | sw
    ·exact .inl (hB A)
    ·exact .inr sw
   ·rw[s j bO (u hj)]at hj;rw[aZ μ _ bO]at hm;exact UG
  ·by_cases bO:j=id
   ·subst bO;rw[hh]at hj;injection hj with hj;injection hj with T H U V W;subst T H U V W;rw[ck];refine⟨hg,λhe=>?_⟩;exact Um
   ·by_cases t:j=a
    ·subst t;rw[ks];trivial
    ·rw[s j bO t,hj];exact UI
  ·have bO:j≠id:=by rintro rfl;rw[hh]at hj;cases hj
   have t:j≠a:=by rintro rfl;rw[Z]at hj;cases hj
   rw[s j bO t];exact hj
  ·by_cases D:b=d
   ·subst D;obtain⟨cur,J,z,q1,q2⟩:=cr;rcases hb with hb | ⟨base,kM,hm,dR,dp⟩
    ·have:=(Su.1 q1).1;omega
    ·rw[dR]at q1;injection q1 with q1;injection q1 with q1 _ _;subst q1;exact⟨L,e,_,hw,by omega⟩
   ·exact dZ.of_same (cj b cr.lt D) cr
  ·have bO:j≠id:=by rintro rfl;exact wv b base hm fe
   have D:b≠d:=by
    rintro rfl;obtain⟨es,c,q⟩:=fe;rcases hb with hb | ⟨fT,kM,pQ,dR,_⟩
    ·have:=(Su.1 q).1;omega
    ·rw[dR]at q;cases q
   obtain⟨es,c,q⟩:=fe;refine⟨⟨es,c,(cj b (Su.1 q).1 D).trans q⟩,?_⟩;by_cases t:j=a
   ·subst t;exact .inl ks
   ·exact .inr ⟨⟨_,_,_,_,_,(s j bO t).trans hj⟩,by rw[aZ μ _ bO];exact hm⟩
 refine⟨Y,⟨λj gj dQ nj ej fj hj=>?_,?_⟩⟩
 ·by_cases bO:j=id
  ·subst bO;rw[ck]at hj;injection hj with hj;injection hj with T H U V W;subst T H U V W;rw[aJ];refine⟨hl,bu.nJ ⟨L,hw,kk,λi k pv hi hk=>?_⟩⟩;obtain⟨v,h1,h2⟩:=aK i k pv hi hk;refine⟨v,h1,h2.fr Y hc.ok (λM N J O P he b Q=>?_)⟩;rw[he]at hk;rcases jT i k _ _ _ _ _ hi hk with⟨r0,B,C⟩ | ⟨r0,B,C⟩
   ·obtain⟨q1,q2⟩:=X _ _ k b ⟨_,_,_,_,_,_,_,_,_,_,hh,B,C,Q⟩;exact cj b q1 q2
   ·obtain⟨q1,q2⟩:=X _ _ k b ⟨_,_,_,_,_,_,_,_,_,_,Z,B,C,Q⟩;exact cj b q1 q2
  ·rw[s j bO (u hj)]at hj;obtain⟨h1,h2⟩:=hc.heap j gj dQ nj ej fj hj;refine⟨h1,?_⟩;rw[aZ μ _ bO];cases hm:μ j with
   | none=>rw[hm]at h2;exact h2
   | some p=>
    obtain⟨b,base⟩:=p;rw[hm]at h2;obtain⟨o,q1,q2⟩:=h2;have A:b<w.heap.size:=(Su.1 q1).1
    have D:b≠d:=by
     rintro rfl;rcases hb with hb | ⟨fT,kM,pQ,_⟩
     ·omega
     ·exact UB
    exact⟨o,(cj b A D).trans q1,q2.mono (λi y pv v hi hy hr=>hr.fr Y hc.ok (λM N J O P he b' Q=>by
     obtain⟨q1,q2⟩:=X j i y b' ⟨_,_,_,_,_,_,_,_,_,_,hj,hi,by rw[hy,he],Q⟩;exact cj b' q1 q2))⟩
 ·refine⟨λb lW tY=>?_,λb lW=>?_,λb tY=>SH (hc.ok.slt b tY) gY,?_,hc.ok.my Y,λb Dl j x y hx=>?_,λb j x y j' x' y' hx jb=>?_⟩;rotate_right 2
  ·obtain⟨_,E,F,G,_⟩:=R j x y b hx;obtain⟨q1,q2⟩:=X _ _ _ b G;obtain⟨k,gk,Dm,nk,ek,fk,qB,hk,hm⟩:=Dl;by_cases lh:k=id
   ·subst lh;rw[aJ]at hm;injection hm with hm;injection hm with h1 h2;exact q2 h1.symm
   ·rw[s k lh (u hk)]at hk;rw[aZ μ _ lh]at hm;exact hc.ok.hv b ⟨k,gk,Dm,nk,ek,fk,qB,hk,hm⟩ _ _ _ G
  ·obtain⟨k1,E,F,G,c0⟩:=R j x y b hx;obtain⟨k2,j1,x1,RC,c1⟩:=R j' x' y' b jb;obtain⟨B,C,r3⟩:=hc.ok.hh b _ _ _ _ _ _ G RC;subst B;subst C;rcases c0 with⟨a1,a2,a3⟩ | ⟨a1,a2,a3,a4⟩ | ⟨a1,a2,a3,a4⟩<;>rcases c1 with⟨d1,d2,d3⟩ | ⟨d1,d2,d3,d4⟩ | ⟨d1,d2,d3,d4⟩<;>refine⟨?_,?_,r3⟩<;>omega
  ·rcases Y.own b lW with h1 | h1
   ·exact hc.ok.apart b h1 tY
   ·have:=hc.ok.slt b tY;omega
  ·rcases lW with⟨j,gj,dQ,nj,ej,fj,ff,hj,hm⟩ | ⟨j,x,y,hx⟩;rotate_left
   ·obtain⟨_,E,F,G,_⟩:=R j x y b hx;exact SH (hc.ok.lt b (.inr ⟨_,_,_,G⟩)) gY
   by_cases bO:j=id
   ·subst bO;rw[aJ]at hm;injection hm with hm;injection hm with h1 h2;subst h1;exact vl
   ·rw[s j bO (u hj)]at hj;rw[aZ μ _ bO]at hm;exact Uz
  ·intro i j gi xo ni ei fi gj dQ nj ej fj b o o' hi hj eY eN;by_cases rE:i=id
   ·by_cases bO:j=id
    ·rw[rE,bO]
    ·subst rE;rw[aJ]at eY;injection eY with eY;injection eY with h1 h2;subst h1;rw[s j bO (u hj)]at hj;rw[aZ μ _ bO]at eN;rcases hb with hb | ⟨fT,kM,pQ,_⟩
     ·have:=hc.ok.lt _ (.inl ⟨j,gj,dQ,nj,ej,fj,o',hj,eN⟩);omega
     ·exact UE
   ·rw[s i rE (u hi)]at hi;rw[aZ μ _ rE]at eY;by_cases bO:j=id
    ·subst bO;rw[aJ]at eN;injection eN with eN;injection eN with h1 h2;subst h1;rcases hb with hb | ⟨fT,kM,pQ,_⟩
     ·have:=hc.ok.lt _ (.inl ⟨i,gi,xo,ni,ei,fi,o,hi,eY⟩);omega
     ·exact UF
    ·rw[s j bO (u hj)]at hj;rw[aZ μ _ bO]at eN;exact Ux
theorem sQ (hc:Core μ h S w) (id g r sz n d:Nat) (e:TypeId) (f m:Nat->List PV) (hh:h[id]? =some (au.row g sz n e f)) (a B:Nat) (C:Array Value)
  (hg:g<=r) (Ku:r=g->μ id=some (a,B)/\d=n)
  (hb:w.heap.size<=a\/∃base cur,μ id=some (a,base)/\w.heap[a]? =some (.cells cur e (0,0))/\cur.size=C.size)
  (hw:w1.heap[a]? =some (.cells C e (0,0))) (kk:B+d*sz<=C.size)
  (cj:∀b,b<w.heap.size->b≠a->w1.heap[b]? =w.heap[b]?) (gY:w.heap.size<=w1.heap.size) (HN:w1.os=w.os) (qA:w1.tape=w.tape) (tX:w1.output=w.output)
  (hl:∀i,i<d->(m i).length=sz) (wv:∀b base,μ id=some (b,base)->¬ib w b)
  (aK:∀(i j:Nat) (pv:PV),i<d->(m i)[j]? =some pv->∃v:Value,C[B+i*sz+j]? =some v/\gZ μ h S w pv v) (p:Nat->Nat) (xB:∀x x',x<d->x'<d->p x=p x'->x=x')
  (jT:∀(i j E F:Nat) (D:TypeId) (G:Nat->List PV) (H:Nat->Prop),i<d->(m i)[j]? =some (.aG E F D G H)->p i<n/\(f (p i))[j]? =some (.aG E F D G H)):
  Fr μ h S w (fv μ id (some (a,B))) (h.set id (.row r sz d e m)) S w1/\Core (fv μ id (some (a,B))) (h.set id (.row r sz d e m)) S w1:=by
 have hid:id<h.length:=(an.1 hh).1;have W:(h.set id (au.row r sz d e m))[id]? =some (au.row r sz d e m):=by simp [hid]
 have l:∀j,j≠id->(h.set id (au.row r sz d e m))[j]? =h[j]?:=λj hj=>by rw[SN (Tl hj)]
 have vl:a<w1.heap.size:=(Su.1 hw).1
 have hB:a<w.heap.size->bA μ h a:=λs=>by
  rcases hb with hb | ⟨base,cur,hm,_,_⟩
  ·omega
  ·exact UL
 have u:∀j x y b,bN (h.set id (au.row r sz d e m)) j x y b->bN h j (if j=id then p x else x) y b/\(j=id->x<d):=λj x y b ⟨gj,dQ,nj,ej,fj,E,F,D,G,H,q1,q2,q3,q4⟩=>by
  by_cases bO:j=id
  ·subst bO;rw[W]at q1;injection q1 with q1;injection q1 with I J K L M;subst I J K L M;obtain⟨N,A⟩:=jT x y _ _ _ _ _ q2 q3;rw[An rfl];exact⟨⟨_,_,_,_,_,_,_,_,_,_,hh,N,A,q4⟩,λ_=>q2⟩
  ·rw[l j bO]at q1;rw[Is bO];exact⟨⟨_,_,_,_,_,_,_,_,_,_,q1,q2,q3,q4⟩,λq=>absurd q bO⟩
 have Q:∀j x y b,bN h j x y b->b<w.heap.size/\b≠a:=λj x y b hx=>by
  have s:=hc.ok.lt b (.inr ⟨j,x,y,hx⟩);refine⟨s,?_⟩;rintro rfl;rcases hb with hb | ⟨base,cur,hm,_,_⟩
  ·omega
  ·exact UC
 have O:Fr μ h S w (fv μ id (some (a,B))) (h.set id (.row r sz d e m)) S w1:=by
  refine⟨by simp,λb s ph=>?_,λ_ hb=>hb,λ_ hb=>.inl hb,λb P=>?_,gY,HN,qA,tX,λj gj dQ nj ej fj hj=>?_,λj hj=>?_,λb k R cr=>?_,λj gj dQ nj ej fj b base hj hm fe=>?_,λb j x y hx fe=>?_⟩;rotate_right
  ·obtain⟨q1,q2⟩:=Q j x y b hx;exact Un
  ·by_cases t:b=a
   ·subst t;exact(ph (hB s)).elim
   ·exact cj b s t
  ·rcases P with⟨j,gj,dQ,nj,ej,fj,ff,hj,hm⟩ | ⟨j,x,y,hx⟩;rotate_left
   ·exact .inl (.inr ⟨_,_,_,(u j x y b hx).1⟩)
   by_cases bO:j=id
   ·subst bO;rw[aJ]at hm;injection hm with hm;injection hm with h1 h2;subst h1;rcases S5 a w.heap.size with s | sw
    ·exact .inl (hB s)
    ·exact .inr sw
   ·rw[l j bO]at hj;rw[aZ μ _ bO]at hm;exact UG
  ·by_cases bO:j=id
   ·subst bO;rw[hh]at hj;injection hj with hj;injection hj with I J K L M;subst I J K L M;rw[W];refine⟨hg,λhe=>?_⟩;exact Um
   ·rw[l j bO,hj];exact UI
  ·have bO:j≠id:=by rintro rfl;rw[hh]at hj;cases hj
   rw[l j bO];exact hj
  ·by_cases t:b=a
   ·subst t;obtain⟨cur,D,z,q1,q2⟩:=cr;rcases hb with hb | ⟨base,T,hm,X,dp⟩
    ·have:=(Su.1 q1).1;omega
    ·rw[X]at q1;injection q1 with q1;injection q1 with q1 _ _;subst q1;exact⟨C,e,_,hw,by omega⟩
   ·exact dZ.of_same (cj b cr.lt t) cr
  ·have bO:j≠id:=by rintro rfl;exact wv b base hm fe
   have t:b≠a:=by
    rintro rfl;obtain⟨es,c,q⟩:=fe;rcases hb with hb | ⟨Y,T,pQ,X,_⟩
    ·have:=(Su.1 q).1;omega
    ·rw[X]at q;cases q
   obtain⟨es,c,q⟩:=fe;exact⟨⟨es,c,(cj b (Su.1 q).1 t).trans q⟩,.inr ⟨⟨_,_,_,_,_,(l j bO).trans hj⟩,by rw[aZ μ _ bO];exact hm⟩⟩
 refine⟨O,⟨λj gj dQ nj ej fj hj=>?_,?_⟩⟩
 ·by_cases bO:j=id
  ·subst bO;rw[W]at hj;injection hj with hj;injection hj with I J K L M;subst I J K L M;rw[aJ];refine⟨hl,bu.nJ ⟨C,hw,kk,λi k pv hi hk=>?_⟩⟩;obtain⟨v,h1,h2⟩:=aK i k pv hi hk;refine⟨v,h1,h2.fr O hc.ok (λE F D G H he b P=>?_)⟩;rw[he]at hk;obtain⟨N,A⟩:=jT i k _ _ _ _ _ hi hk;obtain⟨q1,q2⟩:=Q j (p i) k b ⟨_,_,_,_,_,_,_,_,_,_,hh,N,A,P⟩;exact cj b q1 q2
  ·rw[l j bO]at hj;obtain⟨h1,h2⟩:=hc.heap j gj dQ nj ej fj hj;refine⟨h1,?_⟩;rw[aZ μ _ bO];cases hm:μ j with
   | none=>rw[hm]at h2;exact h2
   | some p=>
    obtain⟨b,base⟩:=p;rw[hm]at h2;obtain⟨o,q1,q2⟩:=h2;have s:b<w.heap.size:=(Su.1 q1).1
    have t:b≠a:=by
     rintro rfl;rcases hb with hb | ⟨Y,T,pQ,_⟩
     ·omega
     ·exact UB
    exact⟨o,(cj b s t).trans q1,q2.mono (λi y pv v hi hy hr=>hr.fr O hc.ok (λE F D G H he b' P=>by
     obtain⟨q1,q2⟩:=Q j i y b' ⟨_,_,_,_,_,_,_,_,_,_,hj,hi,by rw[hy,he],P⟩;exact cj b' q1 q2))⟩
 ·refine⟨λb R U=>?_,λb R=>?_,λb U=>SH (hc.ok.slt b U) gY,?_,hc.ok.my O,λb Dl j x y hx=>?_,λb j x y j' x' y' hx jb=>?_⟩;rotate_right 2
  ·obtain⟨q1,q2⟩:=Q _ _ _ b (u j x y b hx).1;obtain⟨k,gk,Dm,nk,ek,fk,qB,hk,hm⟩:=Dl;by_cases Z:k=id
   ·subst Z;rw[aJ]at hm;injection hm with hm;injection hm with h1 h2;exact q2 h1.symm
   ·rw[l k Z]at hk;rw[aZ μ _ Z]at hm;exact hc.ok.hv b ⟨k,gk,Dm,nk,ek,fk,qB,hk,hm⟩ _ _ _ (u j x y b hx).1
  ·obtain⟨N,A,r3⟩:=hc.ok.hh b _ _ _ _ _ _ (u j x y b hx).1 (u j' x' y' b jb).1;subst N;refine⟨rfl,?_,r3⟩;split at A
   ·rename_i q;exact xB _ _ ((u j x y b hx).2 q) ((u j x' y' b jb).2 q) A
   ·exact A
  ·rcases O.own b R with h1 | h1
   ·exact hc.ok.apart b h1 U
   ·have:=hc.ok.slt b U;omega
  ·rcases R with⟨j,gj,dQ,nj,ej,fj,ff,hj,hm⟩ | ⟨j,x,y,hx⟩;rotate_left
   ·exact SH (hc.ok.lt b (.inr ⟨_,_,_,(u j x y b hx).1⟩)) gY
   by_cases bO:j=id
   ·subst bO;rw[aJ]at hm;injection hm with hm;injection hm with h1 h2;subst h1;exact vl
   ·rw[l j bO]at hj;rw[aZ μ _ bO]at hm;exact Uz
  ·intro i j gi xo ni ei fi gj dQ nj ej fj b o o' hi hj eY eN;by_cases V:i=id
   ·by_cases bO:j=id
    ·rw[V,bO]
    ·subst V;rw[aJ]at eY;injection eY with eY;injection eY with h1 h2;subst h1;rw[l j bO]at hj;rw[aZ μ _ bO]at eN;rcases hb with hb | ⟨Y,T,pQ,_⟩
     ·have:=hc.ok.lt _ (.inl ⟨j,gj,dQ,nj,ej,fj,o',hj,eN⟩);omega
     ·exact UE
   ·rw[l i V]at hi;rw[aZ μ _ V]at eY;by_cases bO:j=id
    ·subst bO;rw[aJ]at eN;injection eN with eN;injection eN with h1 h2;subst h1;rcases hb with hb | ⟨Y,T,pQ,_⟩
     ·have:=hc.ok.lt _ (.inl ⟨i,gi,xo,ni,ei,fi,o,hi,eY⟩);omega
     ·exact UF
    ·rw[l j bO]at hj;rw[aZ μ _ bO]at eN;exact Ux
end
section
variable {P:Program}{T:ij}{μ:Mu}{h:List au}{S:Nat->Prop}{w:World}
theorem jC (hc:Core μ h S w) (id g a sz n:Nat) (e:TypeId) (f c:Nat->List PV) (hh:h[id]? =some (au.row g sz n e f)) (k:μ id=none) (hg:g<a):
  Fr μ h S w μ (h.set id (.row a sz 0 e c)) S w/\Core μ (h.set id (.row a sz 0 e c)) S w:=by
 have hid:id<h.length:=(an.1 hh).1;have u:(h.set id (au.row a sz 0 e c))[id]? =some (au.row a sz 0 e c):=by simp [hid]
 have d:∀j,j≠id->(h.set id (au.row a sz 0 e c))[j]? =h[j]?:=λj hj=>by rw[SN (Tl hj)]
 have A:∀b,qD μ (h.set id (au.row a sz 0 e c)) b->qD μ h b:=λb hb=>by
  obtain⟨j,gj,dQ,nj,ej,fj,ff,hj,hm⟩:=hb;by_cases bO:j=id
  ·subst bO;rw[k]at hm;cases hm
  ·rw[d j bO]at hj;exact⟨j,gj,dQ,nj,ej,fj,ff,hj,hm⟩
 have l:∀j x y b,bN (h.set id (au.row a sz 0 e c)) j x y b->bN h j x y b:=λj x y b ⟨gj,dQ,nj,ej,fj,E,F,G,H,I,q1,q2,q3,q4⟩=>by
  by_cases bO:j=id
  ·subst bO;rw[u]at q1;injection q1 with q1;injection q1 with m q r s t;omega
  ·rw[d j bO]at q1;exact UH
 have v:∀b,bA μ (h.set id (au.row a sz 0 e c)) b->bA μ h b:=λb hb=>by
  rcases hb with hb | ⟨x,y,z,hb⟩
  ·exact .inl (A b hb)
  ·exact .inr ⟨x,y,z,l _ _ _ _ hb⟩
 have B:Fr μ h S w μ (h.set id (.row a sz 0 e c)) S w:=by
  refine⟨by simp,λ_ _ _=>rfl,λ_ hb=>hb,λ_ hb=>.inl hb,λb hb=>.inl (v b hb),Sv _,rfl,rfl,rfl,λj gj dQ nj ej fj hj=>?_,λj hj=>?_,λ_ _ _ cr=>cr,λj gj dQ nj ej fj b base hj hm fe=>⟨fe,.inr ⟨⟨_,_,_,_,_,(d j (by rintro rfl;rw[k]at hm;cases hm)).trans hj⟩,hm⟩⟩,λ_ _ _ _ _ fe=>fe⟩
  ·by_cases bO:j=id
   ·subst bO;rw[hh]at hj;injection hj with hj;injection hj with m q r s t;subst m q r s t;rw[u];exact⟨by omega,λhe=>absurd he UN⟩
   ·rw[d j bO,hj];exact UD
  ·have bO:j≠id:=by rintro rfl;rw[hh]at hj;cases hj
   rw[d j bO];exact hj
 refine⟨B,⟨λj gj dQ nj ej fj hj=>?_,⟨λb hb=>hc.ok.apart b (v b hb),λb hb=>hc.ok.lt b (v b hb),hc.ok.slt,?_,hc.ok.known,λb hb x y z hx=>hc.ok.hv b (A b hb) x y z (l _ _ _ _ hx),λb _ _ _ _ _ _ hx hy=>hc.ok.hh b _ _ _ _ _ _ (l _ _ _ _ hx) (l _ _ _ _ hy)⟩⟩⟩
 ·by_cases bO:j=id
  ·subst bO;rw[u]at hj;injection hj with hj;injection hj with m q r s t;subst m q r s t;refine⟨λi hi=>absurd hi UN,?_⟩;rw[k]
  ·rw[d j bO]at hj;obtain⟨h1,h2⟩:=hc.heap j gj dQ nj ej fj hj;refine⟨h1,?_⟩;cases hm:μ j with
   | none=>rw[hm]at h2;exact h2
   | some p=>
    obtain⟨b,base⟩:=p;rw[hm]at h2;obtain⟨o,q1,q2⟩:=h2;exact⟨o,q1,q2.mono (λ_ _ _ _ _ _ C=>C.fr B hc.ok (λ_ _ _ _ _ _ _ _=>rfl))⟩
 ·intro i j J K L M fi gj dQ nj ej fj b o N hi hj eY eN;have D:i≠id:=by rintro rfl;rw[k]at eY;cases eY
  have bO:j≠id:=by rintro rfl;rw[k]at eN;cases eN
  rw[d i D]at hi;rw[d j bO]at hj;exact Ux
variable {a:Act}{env:Env}{K:PV->List au->Prop}{dst:Option Tmp}{ty:TypeId}{pos:String}{after:Array Edge}{guard:Option (Nat×Bool)}
theorem gy (z:Array Value) (n:Nat):(Builtin.zeroCells z n).size=n*z.size:=by simp [Builtin.zeroCells]
theorem cM {s x:Operand} {t b:TypeId} {c d e:Value} {w':World} (hs:a.eval s=c) (hx:a.eval x=d) (f:(Builtin.append_ #[t,b] ty #[c,d]).run P w=.ok e w'):
  (execOp a.eval ⟨dst,.call ⟨.builtin .append,#[s,x],#[t,b]⟩,ty,pos,after,guard⟩).run P w=.ok (.value e) w':=by
 simp only[execOp,resolve,invoke,builtin,Sem.run_bind,Sem.run_pure,Result.andThen_ok,T3,SE,SS,hs,hx,f]
theorem mE {sz l m:Nat} {f q:Nat->List PV} {a news rest:Array Value} (c:a.size=l*sz) (d:news.size=m*sz)
  (h1:∀(i j:Nat) (pv:PV),i<l->(f i)[j]? =some pv->∃u,a[i*sz+j]? =some u/\gZ μ h S w pv u)
  (h2:∀(i j:Nat) (pv:PV),i<m->(q i)[j]? =some pv->∃u,news[i*sz+j]? =some u/\gZ μ h S w pv u)
  (e:∀i,i<l->(f i).length=sz) (g:∀i,i<m->(q i).length=sz):
  ∀(i j:Nat) (pv:PV),i<l+m->(bif Nat.blt i l then f i else q (i - l))[j]? =some pv->∃u,(a++news++rest)[i*sz+j]? =some u/\gZ μ h S w pv u:=by
 intro i j pv hi hj;by_cases iv:i<l
 ·have hb:Nat.blt i l=true:=by simpa using iv
  rw[hb]at hj;simp only[cond_true]at hj;obtain⟨u,q1,q2⟩:=h1 i j pv iv hj;have b:i*sz+j<a.size:=(Su.1 q1).1;exact⟨u,by rw[S9 US,S9 b];exact q1,q2⟩
 ·have hb:Nat.blt i l=false:=by
   cases hh:Nat.blt i l with
   | true=>exact(iv Vb).elim
   | false=>rfl
  rw[hb]at hj;simp only[TX]at hj;obtain⟨u,q1,q2⟩:=h2 (i - l) j pv UN hj;have b:(i - l)*sz+j<news.size:=(Su.1 q1).1;have hmul:i*sz=l*sz+(i - l)*sz:=by rw[<-SD];congr 1;omega
  refine⟨u,?_,q2⟩;rw[S9 US,Array.getElem?_append_right UN,<-q1];congr 1;omega
theorem qU {sz l m:Nat} {f q:Nat->List PV} (a:∀i,i<l->(f i).length=sz) (b:∀i,i<m->(q i).length=sz):∀i,i<l+m->(bif Nat.blt i l then f i else q (i - l)).length=sz:=by
 intro i hi;by_cases iv:i<l
 ·have hb:Nat.blt i l=true:=by simpa using iv
  rw[hb];exact a i iv
 ·have hb:Nat.blt i l=false:=by
   cases hh:Nat.blt i l with
   | true=>exact(iv Vb).elim
   | false=>rfl
  rw[hb];exact b _ UN
theorem oQ (w:World) (o:Obj):bg w (w.drew.alloc o):=(bg.drew w).trans (fU w.drew o)
theorem vM (p:bR P T) (hc:Core μ h S w) (t b e sz bytes:Nat) (zero:List PV) (d:TypeDesc) (q:T.get t=.slice e sz bytes zero) (r:P.underlying b=some d) (hd:(∃D,d=.slice D)\/d=.string)
  (s x:Operand) (hs:a.eval s=.slice none 0 0) (m:Nat) (g:Nat->List PV) (E:Src P μ h S w (a.eval x) sz m g) (v:∀(i j:Nat) (pv:PV),i<m->(g i)[j]? =some pv->cg pv=false) (hb:m*bytes<=140737488355328) (y:K (.own h.length 0 0 m) (h++[.row 0 sz m e g])):
  cC P ⟨dst,.call ⟨.builtin .append,#[s,x],#[t,b]⟩,ty,pos,after,guard⟩ a μ h S w K:=by
 obtain⟨hu,dp,inf,z,A,F,G,H,I,Q,R⟩:=p.slice _ _ _ _ _ q;have J:=p.bytes _ _ _ _ _ q;subst F G;obtain⟨B,news,q1,q2,q3,q4⟩:=E;rcases Ta m with h0 | h0
 ·subst h0;have L:news=#[]:=S7 UZ;subst L;obtain⟨k,l⟩:=q4 w (bg.refl w);have f:=dk (P:=P) (w:=w) t b ty e inf d hu r hd A none 0 0 (a.eval x) 0 #[] w k l (Sv _) rfl;obtain⟨n,o⟩:=iP (w1:=w) hc inf.size 0 e g none rfl (bg.refl w) B v;refine cC.cK (cM hs rfl f) y ?_ o n;show aN _ _ _ _ _ _ _ _;unfold aN;rw[SP (Sv _),Tm];refine⟨⟨_,_,_,rfl⟩,Sv _,λ_=>⟨by omega,?_⟩⟩;rw[aJ]
 ·obtain⟨k,_⟩:=q4 w (bg.refl w);obtain⟨_,l⟩:=q4 w.drew (bg.drew w);have f:=fE (P:=P) (w:=w) t b ty e inf z d hu r hd A H none 0 0 (a.eval x) m #[] news k rfl l UN J (by rw[Sx];exact hb);rw[Sx]at f
  obtain⟨n,o⟩:=iP (w1:=w.drew.alloc (.cells (#[]++news++Builtin.zeroCells z.cells (grownCap w m 0 e - m)) e)) hc inf.size m e g (some (w.heap.size,0))
   ⟨Sv _,_,heap_alloc_new w.drew _,by simp [q1],λi j pv hi hj=>by
    obtain⟨u,C,M⟩:=q2 i j pv hi hj;have N:=(Su.1 C).1;exact⟨u,by rw[TL,Sx,S9 N];exact C,M.c⟩⟩ (oQ w _) B v
  refine cC.cK (cM hs rfl f) y ?_ o n;show aN _ _ _ _ _ _ _ _;unfold aN;rw[SP (Sv _),Tm];refine⟨⟨_,_,_,rfl⟩,Sv _,λ_=>⟨by omega,?_⟩⟩;rw[aJ];have O:=grownCap_ge w m 0 e;refine⟨_,grownCap w m 0 e,rfl,O,λ_=>by simp,_,e,_,heap_alloc_new w.drew _,?_⟩;simp only[Tt,gy,I,q1];simp only[Sx];have:grownCap w m 0 e*inf.size=m*inf.size+(grownCap w m 0 e - m)*inf.size:=by rw[<-SD];congr 1;omega
  simp;omega
theorem xH (hT:bR P T) (hc:Core μ h S w) (t B e sz bytes:Nat) (zero:List PV) (d:TypeDesc) (c8:T.get t=.slice e sz bytes zero) (N:P.underlying B=some d) (hd:(∃z,d=.slice z)\/d=.string)
  (s x:Operand) (id g off len n:Nat) (f:Nat->List PV) (hh:h[id]? =some (au.row g sz n e f)) (hs:aX μ h S w (.own id g off len) (a.eval s)) (m:Nat) (q:Nat->List PV) (lX:Src P μ h S w (a.eval x) sz m q) (O5:∀(i j:Nat) (pv:PV),i<m->(q i)[j]? =some pv->cg pv=false)
  (hb:(len+m)*bytes<=140737488355328)
  (O:K (.own id (g+1) 0 (len+m)) (h.set id (.row (g+1) sz (len+m) e (λi=>bif Nat.blt i len then f (off+i)else q (i - len))))):
  cC P ⟨dst,.call ⟨.builtin .append,#[s,x],#[t,B]⟩,ty,pos,after,guard⟩ a μ h S w K:=by
 obtain⟨hu,dp,inf,Q,R,ir,Dn,hz,zH,BV,Au⟩:=hT.slice _ _ _ _ _ c8;have Il:=hT.bytes _ _ _ _ _ c8;subst ir Dn;have hid:id<h.length:=(an.1 hh).1;obtain⟨CL,U,o1,o2,o3,o4⟩:=fV (P:=P) hc id g off len inf.size n e f hh _ hs dp;obtain⟨zX,news,q1,q2,q3,q4⟩:=lX;have V:=qU CL zX
 have FL:∀{sl:Nat},off+sl<=n->∀(i j W X:Nat) (z:TypeId) (Y:Nat->List PV) (Z:Nat->Prop),i<sl+m->(bif Nat.blt i sl then f (off+i)else q (i - sl))[j]? =some (.aG W X z Y Z)->off+i<n/\(f (off+i))[j]? =some (.aG W X z Y Z):=λ{sl} I1 i j W X z Y Z hi hj=>by
  by_cases iv:i<sl
  ·have hb:Nat.blt i sl=true:=by simpa using iv
   rw[hb]at hj;exact⟨by omega,hj⟩
  ·have hb:Nat.blt i sl=false:=by
    cases hh:Nat.blt i sl with
    | true=>exact(iv Vb).elim
    | false=>rfl
   rw[hb]at hj;have:=O5 (i - sl) j _ UN hj;cases this
 have jX:=hs.gq;unfold aN at jX;rw[hh]at jX;obtain⟨⟨sa,sl,c,v⟩,_,jX⟩:=jX;obtain⟨hle,jX⟩:=jX rfl
 have zF:sl=len:=by
  obtain⟨r,_⟩:=o4 w (bg.refl w);rw[v]at r;simp [Builtin.lenOf]at r;exact r
 subst zF;obtain⟨hl,aK⟩:=hc.heap id g _ n e f hh
 have wv:∀b base,μ id=some (b,base)->¬ib w b:=λb base y=>by
  rw[y]at jX;exact Up
 by_cases G:sl+m<=c
 ·-- in place
  obtain⟨H,I⟩:=q4 w (bg.refl w);cases y:μ id with
  | none=>
   rw[y]at jX aK;rw[v]at jX;injection jX with r J e3;subst r J e3;have hm:m=0:=by omega
   subst hm;have hn:news=#[]:=S7 UZ;subst hn;have C:=dk (P:=P) (w:=w) t B ty e inf d hu N hd R none 0 0 (a.eval x) 0 #[] w H I (Sv _) rfl;obtain⟨D,E⟩:=jC hc id g (g+1) inf.size n e f (λi=>bif Nat.blt i 0 then f (off+i)else q (i - 0)) hh y (TT g);refine cC.cK (cM v rfl C) O ?_ E D;show aN _ _ _ _ _ _ _ _;unfold aN;rw[SV hid];refine⟨⟨_,_,_,rfl⟩,Sv _,λ_=>⟨by omega,?_⟩⟩;rw[y]
  | some p=>
   obtain⟨b,base⟩:=p;rw[y]at jX aK;obtain⟨L,cap,hv,Fk,M,cr⟩:=jX;rw[v]at hv;injection hv with r J e3;subst r e3;obtain⟨cur,A,kk,ep⟩:=bu.cells cr aK
   have vN:base+(off+c)*inf.size<=cur.size:=by
    obtain⟨kM,z,z',l,F⟩:=cr;rw[A]at l;injection l with l;injection l with l _ _;subst l;exact F
   rw[SD]at vN
   have key:∃o:Array Value,o.size=cur.size/\(match(some L:Option Addr)with | some a=>(storeCells (a.add (sl*inf.size)) news.toList).run P w=.ok () (w.setRow b o) | none=>w.setRow b o=w)/\
     ∀k,o[k]? =if base+off*inf.size+sl*inf.size<=k/\k<base+off*inf.size+sl*inf.size+m*inf.size then news[k - (base+off*inf.size+sl*inf.size)]? else cur[k]?:=by
    rcases Ta m with h0 | h0
    ·subst h0;have hn:news=#[]:=S7 UZ;subst hn;refine⟨cur,rfl,?_,λk=>by rw[Is UN]⟩;show(storeCells (L.add (sl*inf.size)) []).run P w=.ok () (w.setRow b cur);rw[setRow_self w b cur e (0,0) A];rfl
    ·have M:=M UN;subst M;have hmul:(sl+m)*inf.size<=c*inf.size:=SC _ G;rw[SD]at hmul;have pP:=run_storeCells_at P b (base+off*inf.size+sl*inf.size) e news.toList 0 cur w A US q3;rw[Td]at pP;refine⟨(cur.toList.take (base+off*inf.size+sl*inf.size)++news.toList++cur.toList.drop (base+off*inf.size+sl*inf.size+news.toList.length)).toArray,?_,?_,λk=>?_⟩
     ·simp;omega
     ·show(storeCells ((⟨b,base+off*inf.size,none⟩:Addr).add (sl*inf.size)) news.toList).run P w=.ok () _;rw[Addr.add_lit];exact pP
     ·have HQ:=km cur.toList news.toList (base+off*inf.size+sl*inf.size) k US;rw[TC,HQ];simp only[SQ,S8,q1]
   obtain⟨o,c1,c2,c3⟩:=key;have C:=dk (P:=P) (w:=w) t B ty e inf d hu N hd R (some L) sl c (a.eval x) m news (w.setRow b o) H I G c2;have hmul:(sl+m)*inf.size<=c*inf.size:=SC _ G;rw[SD]at hmul
   have fy:=core_set (w1:=w.setRow b o) hc id g (g+1) inf.size n (sl+m) e f (λi=>bif Nat.blt i sl then f (off+i)else q (i - sl)) hh b (base+off*inf.size) o UN (λhe=>absurd he UN)
    (.inr ⟨base,cur,y,A,c1.symm⟩) (setRow_heap w b cur _ e _ A) (by rw[c1,SD];omega) (λb' _ iu=>setRow_other w b b' _ iu) UQ rfl rfl rfl V wv
    (λi j pv hi hj=>by
     have wx:j<inf.size:=by rw[<-V i hi];exact(an.1 hj).1
     rw[c3];by_cases iv:i<sl
     ·have CM:Nat.blt i sl=true:=by simpa using iv
      rw[CM]at hj;simp only[cond_true]at hj;have eY:(i+1)*inf.size<=sl*inf.size:=SC _ iv;rw[SD]at eY;rw[Is UN];obtain⟨u,l,F⟩:=ep (off+i) j pv UN hj;refine⟨u,?_,F⟩;rw[<-l];congr 1;rw[SD];omega
     ·have CM:Nat.blt i sl=false:=by
       cases Fx:Nat.blt i sl with
       | true=>exact(iv (by simpa using Fx)).elim
       | false=>rfl
      rw[CM]at hj;simp only[TX]at hj;have r:i*inf.size=sl*inf.size+(i - sl)*inf.size:=by rw[<-SD];congr 1;omega
      have J:(i - sl+1)*inf.size<=m*inf.size:=SC _ UN;rw[SD]at J;rw[An UN];obtain⟨u,l,F⟩:=q2 (i - sl) j pv UN hj;exact⟨u,by rw[<-l];congr 1;omega,F⟩) off (FL UN)
   obtain⟨D,E⟩:=fy;refine cC.cK (cM v rfl C) O ?_ E D;show aN _ _ _ _ _ _ _ _;unfold aN;rw[SV hid];refine⟨⟨_,_,_,rfl⟩,Sv _,λ_=>⟨by omega,?_⟩⟩;rw[aJ];refine⟨L,c,rfl,G,λFB=>?_,o,e,_,setRow_heap w b cur _ e _ A,?_⟩
   ·rw[M FB,Nat.zero_mul,Td]
   ·rw[c1,Sx];omega
 ·-- it aa
  obtain⟨H,_⟩:=q4 w (bg.refl w);obtain⟨_,I⟩:=q4 w.drew (bg.drew w);obtain⟨_,s2⟩:=o4 w.drew (bg.drew w);rw[v]at s2;have C:=fE (P:=P) (w:=w) t B ty e inf Q d hu N hd R hz sa sl c (a.eval x) m U news H s2 I UN Il hb;have sw:=grownCap_ge w (sl+m) c e
  have fy:=core_set (w1:=w.drew.alloc (.cells (U++news++Builtin.zeroCells Q.cells (grownCap w (sl+m) c e - (sl+m))) e)) hc id g (g+1) inf.size n (sl+m) e f (λi=>bif Nat.blt i sl then f (off+i)else q (i - sl)) hh
   w.heap.size 0 (U++news++Builtin.zeroCells Q.cells (grownCap w (sl+m) c e - (sl+m))) UN (λhe=>absurd he UN) (.inl (Sv _)) (heap_alloc_new w.drew _)
   U9 (λb bb _=>heap_alloc_old w.drew _ bb) UQ rfl rfl rfl V wv
   (λi j pv hi hj=>by
    rw[Sx];exact mE o1 q1 o2 q2 CL zX i j pv hi hj) off (FL UN)
  obtain⟨D,E⟩:=fy;refine cC.cK (cM v rfl C) O ?_ E D;show aN _ _ _ _ _ _ _ _;unfold aN;rw[SV hid];refine⟨⟨_,_,_,rfl⟩,Sv _,λ_=>⟨by omega,?_⟩⟩;rw[aJ];refine⟨_,grownCap w (sl+m) c e,rfl,sw,λ_=>by simp,_,e,_,heap_alloc_new w.drew _,?_⟩;simp only[Tt,gy,zH,o1,q1,Sx];have:grownCap w (sl+m) c e*inf.size=(sl+m)*inf.size+(grownCap w (sl+m) c e - (sl+m))*inf.size:=by rw[<-SD];congr 1;omega
  rw[SD]at this;omega
theorem um (hT:bR P T) (hc:Core μ h S w) (t B e sz bytes:Nat) (zero:List PV) (d:TypeDesc) (c8:T.get t=.slice e sz bytes zero) (G:P.underlying B=some d) (hd:(∃z,d=.slice z)\/d=.string)
  (s x:Operand) (id g off len n:Nat) (f:Nat->List PV) (hh:h[id]? =some (au.row g sz n e f)) (hs:aX μ h S w (.own id g off len) (a.eval s)) (m c:Nat) (lX:Src P μ h S w (a.eval x) sz m (λi=>f (c+i))) (xI:c+m<=n) (Ar:off+len<=c)
  (hb:(len+m)*bytes<=140737488355328)
  (O:K (.own id (g+1) 0 (len+m)) (h.set id (.row (g+1) sz (len+m) e (λi=>bif Nat.blt i len then f (off+i)else f (c+(i - len)))))):
  cC P ⟨dst,.call ⟨.builtin .append,#[s,x],#[t,B]⟩,ty,pos,after,guard⟩ a μ h S w K:=by
 obtain⟨hu,dp,inf,Q,R,ir,Dn,hz,zH,BV,Au⟩:=hT.slice _ _ _ _ _ c8;have Il:=hT.bytes _ _ _ _ _ c8;subst ir Dn;have hid:id<h.length:=(an.1 hh).1;obtain⟨CL,U,o1,o2,o3,o4⟩:=fV (P:=P) hc id g off len inf.size n e f hh _ hs dp;obtain⟨zX,news,q1,q2,q3,q4⟩:=lX;have V:=qU CL zX
 have FL:∀{sl:Nat},off+sl<=n->∀(i j W X:Nat) (z:TypeId) (Y:Nat->List PV) (Z:Nat->Prop),i<sl+m->(bif Nat.blt i sl then f (off+i)else f (c+(i - sl)))[j]? =some (.aG W X z Y Z)->(bif Nat.blt i sl then off+i else c+(i - sl))<n/\(f (bif Nat.blt i sl then off+i else c+(i - sl)))[j]? =some (.aG W X z Y Z):=λ{sl} I1 i j W X z Y Z hi hj=>by
  by_cases iv:i<sl
  ·have hb:Nat.blt i sl=true:=by simpa using iv
   rw[hb]at hj ⊢;exact⟨by show off+i<n;omega,hj⟩
  ·have hb:Nat.blt i sl=false:=by
    cases hh:Nat.blt i sl with
    | true=>exact(iv Vb).elim
    | false=>rfl
   rw[hb]at hj ⊢;exact⟨by show c+(i - sl)<n;omega,hj⟩
 have Di:∀{sl:Nat},off+sl<=c->∀x x',x<sl+m->x'<sl+m->(bif Nat.blt x sl then off+x else c+(x - sl))=(bif Nat.blt x' sl then off+x' else c+(x' - sl))->x=x':=λ{sl} Oo x x' hx G he=>by
  cases h1:Nat.blt x sl<;>cases h2:Nat.blt x' sl<;>rw[h1,h2]at he<;>simp only[cond_true,TX]at he<;>
   have k1:(Nat.blt x sl=true↔x<sl):=by simp
  all_goals have k2:(Nat.blt x' sl=true↔x'<sl):=by simp
  all_goals rw[h1]at k1
  all_goals rw[h2]at k2
  all_goals simp at k1 k2
  all_goals omega
 have jX:=hs.gq;unfold aN at jX;rw[hh]at jX;obtain⟨⟨sa,sl,l,v⟩,_,jX⟩:=jX;obtain⟨hle,jX⟩:=jX rfl
 have zF:sl=len:=by
  obtain⟨r,_⟩:=o4 w (bg.refl w);rw[v]at r;simp [Builtin.lenOf]at r;exact r
 subst zF;obtain⟨hl,aK⟩:=hc.heap id g _ n e f hh
 have wv:∀b base,μ id=some (b,base)->¬ib w b:=λb base y=>by
  rw[y]at jX;exact Up
 by_cases H:sl+m<=l
 ·-- in place
  obtain⟨I,J⟩:=q4 w (bg.refl w);cases y:μ id with
  | none=>
   rw[y]at jX aK;rw[v]at jX;injection jX with r L e3;subst r L e3;have hm:m=0:=by omega
   subst hm;have hn:news=#[]:=S7 UZ;subst hn;have C:=dk (P:=P) (w:=w) t B ty e inf d hu G hd R none 0 0 (a.eval x) 0 #[] w I J (Sv _) rfl;obtain⟨D,E⟩:=jC hc id g (g+1) inf.size n e f (λi=>bif Nat.blt i 0 then f (off+i)else f (c+(i - 0))) hh y (TT g);refine cC.cK (cM v rfl C) O ?_ E D;show aN _ _ _ _ _ _ _ _;unfold aN;rw[SV hid];refine⟨⟨_,_,_,rfl⟩,Sv _,λ_=>⟨by omega,?_⟩⟩;rw[y]
  | some p=>
   obtain⟨b,base⟩:=p;rw[y]at jX aK;obtain⟨M,cap,hv,Fk,N,cr⟩:=jX;rw[v]at hv;injection hv with r L e3;subst r e3;obtain⟨cur,A,kk,ep⟩:=bu.cells cr aK
   have vN:base+(off+l)*inf.size<=cur.size:=by
    obtain⟨kM,z,z',o,F⟩:=cr;rw[A]at o;injection o with o;injection o with o _ _;subst o;exact F
   rw[SD]at vN
   have key:∃q:Array Value,q.size=cur.size/\(match(some M:Option Addr)with | some a=>(storeCells (a.add (sl*inf.size)) news.toList).run P w=.ok () (w.setRow b q) | none=>w.setRow b q=w)/\
     ∀k,q[k]? =if base+off*inf.size+sl*inf.size<=k/\k<base+off*inf.size+sl*inf.size+m*inf.size then news[k - (base+off*inf.size+sl*inf.size)]? else cur[k]?:=by
    rcases Ta m with h0 | h0
    ·subst h0;have hn:news=#[]:=S7 UZ;subst hn;refine⟨cur,rfl,?_,λk=>by rw[Is UN]⟩;show(storeCells (M.add (sl*inf.size)) []).run P w=.ok () (w.setRow b cur);rw[setRow_self w b cur e (0,0) A];rfl
    ·have N:=N UN;subst N;have hmul:(sl+m)*inf.size<=l*inf.size:=SC _ H;rw[SD]at hmul;have pP:=run_storeCells_at P b (base+off*inf.size+sl*inf.size) e news.toList 0 cur w A US q3;rw[Td]at pP;refine⟨(cur.toList.take (base+off*inf.size+sl*inf.size)++news.toList++cur.toList.drop (base+off*inf.size+sl*inf.size+news.toList.length)).toArray,?_,?_,λk=>?_⟩
     ·simp;omega
     ·show(storeCells ((⟨b,base+off*inf.size,none⟩:Addr).add (sl*inf.size)) news.toList).run P w=.ok () _;rw[Addr.add_lit];exact pP
     ·have HQ:=km cur.toList news.toList (base+off*inf.size+sl*inf.size) k US;rw[TC,HQ];simp only[SQ,S8,q1]
   obtain⟨q,c1,c2,c3⟩:=key;have C:=dk (P:=P) (w:=w) t B ty e inf d hu G hd R (some M) sl l (a.eval x) m news (w.setRow b q) I J H c2;have hmul:(sl+m)*inf.size<=l*inf.size:=SC _ H;rw[SD]at hmul
   have fy:=sQ (w1:=w.setRow b q) hc id g (g+1) inf.size n (sl+m) e f (λi=>bif Nat.blt i sl then f (off+i)else f (c+(i - sl))) hh b (base+off*inf.size) q UN (λhe=>absurd he UN)
    (.inr ⟨base,cur,y,A,c1.symm⟩) (setRow_heap w b cur _ e _ A) (by rw[c1,SD];omega) (λb' _ iu=>setRow_other w b b' _ iu) UQ rfl rfl rfl V wv
    (λi j pv hi hj=>by
     have wx:j<inf.size:=by rw[<-V i hi];exact(an.1 hj).1
     rw[c3];by_cases iv:i<sl
     ·have CM:Nat.blt i sl=true:=by simpa using iv
      rw[CM]at hj;simp only[cond_true]at hj;have eY:(i+1)*inf.size<=sl*inf.size:=SC _ iv;rw[SD]at eY;rw[Is UN];obtain⟨u,o,F⟩:=ep (off+i) j pv UN hj;refine⟨u,?_,F⟩;rw[<-o];congr 1;rw[SD];omega
     ·have CM:Nat.blt i sl=false:=by
       cases Fx:Nat.blt i sl with
       | true=>exact(iv (by simpa using Fx)).elim
       | false=>rfl
      rw[CM]at hj;simp only[TX]at hj;have r:i*inf.size=sl*inf.size+(i - sl)*inf.size:=by rw[<-SD];congr 1;omega
      have L:(i - sl+1)*inf.size<=m*inf.size:=SC _ UN;rw[SD]at L;rw[An UN];obtain⟨u,o,F⟩:=q2 (i - sl) j pv UN hj;exact⟨u,by rw[<-o];congr 1;omega,F⟩) (λi=>bif Nat.blt i sl then off+i else c+(i - sl)) (Di UN) (FL UN)
   obtain⟨D,E⟩:=fy;refine cC.cK (cM v rfl C) O ?_ E D;show aN _ _ _ _ _ _ _ _;unfold aN;rw[SV hid];refine⟨⟨_,_,_,rfl⟩,Sv _,λ_=>⟨by omega,?_⟩⟩;rw[aJ];refine⟨M,l,rfl,H,λFB=>?_,q,e,_,setRow_heap w b cur _ e _ A,?_⟩
   ·rw[N FB,Nat.zero_mul,Td]
   ·rw[c1,Sx];omega
 ·-- it aa
  obtain⟨I,_⟩:=q4 w (bg.refl w);obtain⟨_,J⟩:=q4 w.drew (bg.drew w);obtain⟨_,s2⟩:=o4 w.drew (bg.drew w);rw[v]at s2;have C:=fE (P:=P) (w:=w) t B ty e inf Q d hu G hd R hz sa sl l (a.eval x) m U news I s2 J UN Il hb;have sw:=grownCap_ge w (sl+m) l e
  have fy:=sQ (w1:=w.drew.alloc (.cells (U++news++Builtin.zeroCells Q.cells (grownCap w (sl+m) l e - (sl+m))) e)) hc id g (g+1) inf.size n (sl+m) e f (λi=>bif Nat.blt i sl then f (off+i)else f (c+(i - sl))) hh
   w.heap.size 0 (U++news++Builtin.zeroCells Q.cells (grownCap w (sl+m) l e - (sl+m))) UN (λhe=>absurd he UN) (.inl (Sv _)) (heap_alloc_new w.drew _)
   U9 (λb bb _=>heap_alloc_old w.drew _ bb) UQ rfl rfl rfl V wv
   (λi j pv hi hj=>by
    rw[Sx];exact mE o1 q1 o2 q2 CL zX i j pv hi hj) (λi=>bif Nat.blt i sl then off+i else c+(i - sl)) (Di UN) (FL UN)
  obtain⟨D,E⟩:=fy;refine cC.cK (cM v rfl C) O ?_ E D;show aN _ _ _ _ _ _ _ _;unfold aN;rw[SV hid];refine⟨⟨_,_,_,rfl⟩,Sv _,λ_=>⟨by omega,?_⟩⟩;rw[aJ];refine⟨_,grownCap w (sl+m) l e,rfl,sw,λ_=>by simp,_,e,_,heap_alloc_new w.drew _,?_⟩;simp only[Tt,gy,zH,o1,q1,Sx];have:grownCap w (sl+m) l e*inf.size=(sl+m)*inf.size+(grownCap w (sl+m) l e - (sl+m))*inf.size:=by rw[<-SD];congr 1;omega
  rw[SD]at this;omega
theorem cC.EE {o:Oper} {a:Act} {K:PV->List au->Prop} {μ1:Mu} {h1:List au} (hf:Fr μ h S w μ1 h1 S w) (hm:kl μ h S w) (b:cC P o a μ1 h1 S w K):cC P o a μ h S w K:=by
 intro next Q c
 exact b next Q λv val h' μ' S' w' d hv hc e=>c v val h' μ' S' w' d hv hc (hf.trans e)
theorem pC (hT:bR P T) (hc:Core μ h S w) (t E e sz bytes:Nat) (zero:List PV) (d:TypeDesc) (c8:T.get t=.slice e sz bytes zero) (Z:P.underlying E=some d) (hd:(∃y,d=.slice y)\/d=.string)
  (s x:Operand) (id g off len n:Nat) (f:Nat->List PV) (hh:h[id]? =some (au.row g sz n e f)) (hs:aX μ h S w (.own id g off len) (a.eval s)) (B:Nat) (r:B≠id) (J C:Nat) (L:TypeId) (q2:Nat->List PV) (l m:Nat) (rU:h[B]? =some (au.row J sz C L q2)) (xI:l+m<=C) (lX:Src P μ h S w (a.eval x) sz m (λi=>q2 (l+i)))
  (hb:(len+m)*bytes<=140737488355328)
  (hK:K (.own id (g+1) 0 (len+m)) ((h.set id (.row (g+1) sz (len+m) e (λi=>bif Nat.blt i len then f (off+i)else q2 (l+(i - len))))).set B .dead)):
  cC P ⟨dst,.call ⟨.builtin .append,#[s,x],#[t,E]⟩,ty,pos,after,guard⟩ a μ h S w K:=by
 obtain⟨hu,dp,inf,zv,eL,ir,Dn,hz,zH,BV,Au⟩:=hT.slice _ _ _ _ _ c8;have Il:=hT.bytes _ _ _ _ _ c8;subst ir Dn;have hid:id<h.length:=(an.1 hh).1;obtain⟨CL,kr,o1,o2,o3,o4⟩:=fV (P:=P) hc id g off len inf.size n e f hh _ hs dp;obtain⟨zX,news,q1,Qt,q3,q4⟩:=lX;have zR:=qU CL zX
 have FL:∀{sl:Nat},off+sl<=n->∀(i j M N:Nat) (y:TypeId) (O:Nat->List PV) (Q:Nat->Prop),i<sl+m->(bif Nat.blt i sl then f (off+i)else q2 (l+(i - sl)))[j]? =some (.aG M N y O Q)->(i<sl/\off+i<n/\(f (off+i))[j]? =some (.aG M N y O Q))\/(sl<=i/\l+(i - sl)<C/\(q2 (l+(i - sl)))[j]? =some (.aG M N y O Q)):=λ{sl} I1 i j M N y O Q hi hj=>by
  by_cases iv:i<sl
  ·have hb:Nat.blt i sl=true:=by simpa using iv
   rw[hb]at hj;exact .inl ⟨iv,by omega,hj⟩
  ·have hb:Nat.blt i sl=false:=by
    cases hh:Nat.blt i sl with
    | true=>exact(iv Vb).elim
    | false=>rfl
   rw[hb]at hj;exact .inr ⟨by omega,by omega,hj⟩
 have jX:=hs.gq;unfold aN at jX;rw[hh]at jX;obtain⟨⟨sa,sl,c,z⟩,_,jX⟩:=jX;obtain⟨hle,jX⟩:=jX rfl
 have zF:sl=len:=by
  obtain⟨v,_⟩:=o4 w (bg.refl w);rw[z]at v;simp [Builtin.lenOf]at v;exact v
 subst zF;obtain⟨hl,aK⟩:=hc.heap id g _ n e f hh
 have wv:∀b base,μ id=some (b,base)->¬ib w b:=λb base A=>by
  rw[A]at jX;exact Up
 by_cases R:sl+m<=c
 ·-- in place
  obtain⟨U,V⟩:=q4 w (bg.refl w);cases A:μ id with
  | none=>
   rw[A]at jX aK;rw[z]at jX;injection jX with v W e3;subst v W e3;have hm:m=0:=by omega
   subst hm;have hn:news=#[]:=S7 UZ;subst hn;have F:=dk (P:=P) (w:=w) t E ty e inf d hu Z hd eL none 0 0 (a.eval x) 0 #[] w U V (Sv _) rfl;obtain⟨O6,O7⟩:=jC hc id g (g+1) inf.size n e f (λi=>bif Nat.blt i 0 then f (off+i)else q2 (l+(i - 0))) hh A (TT g);obtain⟨O8,G⟩:=zZ O7 B J inf.size C L q2 (by rw[SN (Tl r)];exact rU);have H:=O6.trans O8;refine cC.cK (cM z rfl F) hK ?_ G H;show aN _ _ _ _ _ _ _ _;unfold aN;rw[SN r,SV hid];refine⟨⟨_,_,_,rfl⟩,Sv _,λ_=>⟨by omega,?_⟩⟩;rw[A]
  | some p=>
   obtain⟨b,base⟩:=p;rw[A]at jX aK;obtain⟨X,cap,hv,Fk,Y,cr⟩:=jX;rw[z]at hv;injection hv with v W e3;subst v e3;obtain⟨cur,D,kk,ep⟩:=bu.cells cr aK
   have vN:base+(off+c)*inf.size<=cur.size:=by
    obtain⟨kM,y,z',o,I⟩:=cr;rw[D]at o;injection o with o;injection o with o _ _;subst o;exact I
   rw[SD]at vN
   have key:∃q:Array Value,q.size=cur.size/\(match(some X:Option Addr)with | some a=>(storeCells (a.add (sl*inf.size)) news.toList).run P w=.ok () (w.setRow b q) | none=>w.setRow b q=w)/\
     ∀k,q[k]? =if base+off*inf.size+sl*inf.size<=k/\k<base+off*inf.size+sl*inf.size+m*inf.size then news[k - (base+off*inf.size+sl*inf.size)]? else cur[k]?:=by
    rcases Ta m with h0 | h0
    ·subst h0;have hn:news=#[]:=S7 UZ;subst hn;refine⟨cur,rfl,?_,λk=>by rw[Is UN]⟩;show(storeCells (X.add (sl*inf.size)) []).run P w=.ok () (w.setRow b cur);rw[setRow_self w b cur e (0,0) D];rfl
    ·have Y:=Y UN;subst Y;have hmul:(sl+m)*inf.size<=c*inf.size:=SC _ R;rw[SD]at hmul;have pP:=run_storeCells_at P b (base+off*inf.size+sl*inf.size) e news.toList 0 cur w D US q3;rw[Td]at pP;refine⟨(cur.toList.take (base+off*inf.size+sl*inf.size)++news.toList++cur.toList.drop (base+off*inf.size+sl*inf.size+news.toList.length)).toArray,?_,?_,λk=>?_⟩
     ·simp;omega
     ·show(storeCells ((⟨b,base+off*inf.size,none⟩:Addr).add (sl*inf.size)) news.toList).run P w=.ok () _;rw[Addr.add_lit];exact pP
     ·have HQ:=km cur.toList news.toList (base+off*inf.size+sl*inf.size) k US;rw[TC,HQ];simp only[SQ,S8,q1]
   obtain⟨q,c1,c2,c3⟩:=key;have F:=dk (P:=P) (w:=w) t E ty e inf d hu Z hd eL (some X) sl c (a.eval x) m news (w.setRow b q) U V R c2;have hmul:(sl+m)*inf.size<=c*inf.size:=SC _ R;rw[SD]at hmul
   have fy:=sP (w1:=w.setRow b q) hc id B r J inf.size C L q2 rU sl g (g+1) inf.size n (sl+m) e f (λi=>bif Nat.blt i sl then f (off+i)else q2 (l+(i - sl))) hh b (base+off*inf.size) q UN (λhe=>absurd he UN)
    (.inr ⟨base,cur,A,D,c1.symm⟩) (setRow_heap w b cur _ e _ D) (by rw[c1,SD];omega) (λb' _ r=>setRow_other w b b' _ r) UQ rfl rfl rfl zR wv
    (λi j pv hi hj=>by
     have wx:j<inf.size:=by rw[<-zR i hi];exact(an.1 hj).1
     rw[c3];by_cases iv:i<sl
     ·have CM:Nat.blt i sl=true:=by simpa using iv
      rw[CM]at hj;simp only[cond_true]at hj;have eY:(i+1)*inf.size<=sl*inf.size:=SC _ iv;rw[SD]at eY;rw[Is UN];obtain⟨u,o,I⟩:=ep (off+i) j pv UN hj;refine⟨u,?_,I⟩;rw[<-o];congr 1;rw[SD];omega
     ·have CM:Nat.blt i sl=false:=by
       cases Fx:Nat.blt i sl with
       | true=>exact(iv (by simpa using Fx)).elim
       | false=>rfl
      rw[CM]at hj;simp only[TX]at hj;have v:i*inf.size=sl*inf.size+(i - sl)*inf.size:=by rw[<-SD];congr 1;omega
      have W:(i - sl+1)*inf.size<=m*inf.size:=SC _ UN;rw[SD]at W;rw[An UN];obtain⟨u,o,I⟩:=Qt (i - sl) j pv UN hj;exact⟨u,by rw[<-o];congr 1;omega,I⟩) off l (FL UN)
   obtain⟨H,G⟩:=fy;refine cC.cK (cM z rfl F) hK ?_ G H;show aN _ _ _ _ _ _ _ _;unfold aN;rw[SN r,SV hid];refine⟨⟨_,_,_,rfl⟩,Sv _,λ_=>⟨by omega,?_⟩⟩;rw[aJ];refine⟨X,c,rfl,R,λFB=>?_,q,e,_,setRow_heap w b cur _ e _ D,?_⟩
   ·rw[Y FB,Nat.zero_mul,Td]
   ·rw[c1,Sx];omega
 ·-- it aa
  obtain⟨U,_⟩:=q4 w (bg.refl w);obtain⟨_,V⟩:=q4 w.drew (bg.drew w);obtain⟨_,s2⟩:=o4 w.drew (bg.drew w);rw[z]at s2;have F:=fE (P:=P) (w:=w) t E ty e inf zv d hu Z hd eL hz sa sl c (a.eval x) m kr news U s2 V UN Il hb;have sw:=grownCap_ge w (sl+m) c e
  have fy:=sP (w1:=w.drew.alloc (.cells (kr++news++Builtin.zeroCells zv.cells (grownCap w (sl+m) c e - (sl+m))) e)) hc id B r J inf.size C L q2 rU sl g (g+1) inf.size n (sl+m) e f (λi=>bif Nat.blt i sl then f (off+i)else q2 (l+(i - sl))) hh
   w.heap.size 0 (kr++news++Builtin.zeroCells zv.cells (grownCap w (sl+m) c e - (sl+m))) UN (λhe=>absurd he UN) (.inl (Sv _)) (heap_alloc_new w.drew _)
   U9 (λb bb _=>heap_alloc_old w.drew _ bb) UQ rfl rfl rfl zR wv
   (λi j pv hi hj=>by
    rw[Sx];exact mE o1 q1 o2 Qt CL zX i j pv hi hj) off l (FL UN)
  obtain⟨H,G⟩:=fy;refine cC.cK (cM z rfl F) hK ?_ G H;show aN _ _ _ _ _ _ _ _;unfold aN;rw[SN r,SV hid];refine⟨⟨_,_,_,rfl⟩,Sv _,λ_=>⟨by omega,?_⟩⟩;rw[aJ];refine⟨_,grownCap w (sl+m) c e,rfl,sw,λ_=>by simp,_,e,_,heap_alloc_new w.drew _,?_⟩;simp only[Tt,gy,zH,o1,q1,Sx];have:grownCap w (sl+m) c e*inf.size=(sl+m)*inf.size+(grownCap w (sl+m) c e - (sl+m))*inf.size:=by rw[<-SD];congr 1;omega
  rw[SD]at this;omega
theorem uo (y:bR P T) (hc:Core μ h S w) (M:∀t,aX μ h S w (env t) (a.tmps.getD t undef)) (args:Array Operand) (G:Array TypeId) (hp:pop P T (.call ⟨.builtin .append,args,G⟩) env h K):
  cC P ⟨dst,.call ⟨.builtin .append,args,G⟩,ty,pos,after,guard⟩ a μ h S w K:=by
 obtain⟨args⟩:=args;obtain⟨G⟩:=G;simp only[pop]at hp;split at hp
 ·rename_i s x t A;have hs:=bp M s;have hx:=bp M x
  have main:∀(e sz bytes:Nat) (zero:List PV) (d:TypeDesc),T.get t=.slice e sz bytes zero->P.underlying A=some d->((∃l,d=.slice l)\/d=.string)->xJ e sz bytes (ev env s) (ev env x) h K->
    cC P ⟨dst,.call ⟨.builtin .append,#[s,x],#[t,A]⟩,ty,pos,after,guard⟩ a μ h S w K:=by
   intro e sz bytes zero d o C hd hp;have dp:=(y.slice _ _ _ _ _ o).2.1;cases hp with
   | shift hp=>
    unfold qV at hp;split at hp
    ·rename_i id gen len p N D m r hex;rw[r]at hs;rw[hex]at hx;split at hp
     ·rename_i g H n l f hg;obtain⟨rfl,rfl,hp⟩:=hp;replace hp:=aT hp;obtain⟨c,Ar,hb,u⟩:=hp;simp only[so]at c;obtain⟨h1,h2,I⟩:=c;obtain rfl:=No h1;obtain rfl:=No h2;obtain rfl:=No I;have b:=ca hg
      have E:D+m<=n:=by
       have k:=hx.gq;unfold aN at k;rw[b]at k;exact(k.2.2 rfl).1
      have z:=fV (P:=P) hc id g D m sz n e f b _ hx dp;refine um y hc t A e sz bytes zero d o C hd s x id g 0 len n f b hs m D z E UN hb ?_;have F:(λi=>bif Nat.blt i len then f (0+i)else f (D+(i - len)))=He f len (λi=>f (D+i)):=by funext i;rw[Sx];rfl
      rw[F];exact u
     ·exact Uq
    ·exact Uq
   | move hp=>
    unfold vP at hp;split at hp
    ·rename_i p N m r hex;rw[r]at hs;rw[hex]at hx;split at hp
     ·rename_i B W v l q hg;obtain⟨rfl,hp⟩:=hp;replace hp:=aT hp;obtain⟨c,hb,u⟩:=hp;obtain rfl:=No c;have b:=ca hg;have X:p<h.length:=(an.1 b).1;have z:=fV (P:=P) hc p B 0 m sz v l q b _ hx dp
      have E:0+m<=v:=by
       have k:=hx.gq;unfold aN at k;rw[b]at k;exact(k.2.2 rfl).1
      obtain⟨O,Q⟩:=iP (w1:=w) hc sz 0 e (λ_=>[]) none rfl (bg.refl w) (λi hi=>absurd hi (S6 _)) (λi j pv hi=>absurd hi (S6 _));have R:(h++[au.row 0 sz 0 e (λ_=>[])])[h.length]? =some (.row 0 sz 0 e (λ_=>[])):=by simp
      have U:(h++[au.row 0 sz 0 e (λ_=>[])])[p]? =some (.row B sz v l q):=by rw[SR X];exact b
      have Y:aX (fv μ h.length none) (h++[au.row 0 sz 0 e (λ_=>[])]) S w (.own h.length 0 0 0) (a.eval s):=by
       rw[hs.iL];show aN _ _ w h.length 0 0 0 _;unfold aN;rw[R,aJ];exact⟨⟨_,_,_,rfl⟩,Sv _,λ_=>⟨Sv _,rfl⟩⟩
      have Z:=aX.fr O hc.ok hx;have Lh:=fV (P:=P) Q p B 0 m sz v l q U _ Z dp
      have key:=pC (dst:=dst) (pos:=pos) (after:=after) (guard:=guard) (ty:=ty) (K:=K) y Q t A e sz bytes zero d o C hd s x h.length 0 0 0 0 (λ_=>[]) R Y p UN B v l q 0 m U E Lh (by rw[Sx];exact hb) (by
       have F:(λi=>bif Nat.blt i 0 then([]:List PV)else q (0+(i - 0)))=q:=by funext i;rw[Sx];rfl
       rw[F,Sx m];exact u)
      exact cC.EE O hc.ok key
     ·exact Uq
    ·rename_i id gen len p N m r hex;rw[r]at hs;rw[hex]at hx;split at hp
     ·rename_i g H n l f hg;split at hp
      ·rename_i B W v V q OZ;obtain⟨rfl,rfl,hp⟩:=hp;replace hp:=aT hp;obtain⟨c,hb,u⟩:=hp;simp only[so,SX]at c;obtain⟨h1,h2,I,h4⟩:=c;obtain rfl:=No h1;obtain rfl:=No h2;obtain rfl:=No I;have iu:p≠id:=Nat.ne_of_beq_eq_false h4;have b:=ca OZ
       have E:0+m<=v:=by
        have k:=hx.gq;unfold aN at k;rw[b]at k;exact(k.2.2 rfl).1
       have z:=fV (P:=P) hc p B 0 m sz v V q b _ hx dp;refine pC y hc t A e sz bytes zero d o C hd s x id g 0 len n f (ca hg) hs p iu B v V q 0 m b E z hb ?_;have F:(λi=>bif Nat.blt i len then f (0+i)else q (0+(i - len)))=He f len q:=by funext i;rw[Sx,Sx];rfl
       rw[F];exact u
      ·exact Uq
     ·exact Uq
    ·exact Uq
   | fG hp=>
   unfold lL at hp;split at hp
   ·rename_i r;rw[r]at hs;obtain⟨_,g,⟨hb,m,f',rfl,J,u⟩,z,L3⟩:=sO (P:=P) hc _ _ hx sz dp _ hp;exact cC.rows (vM y hc t A e sz bytes zero d o C hd s x hs.iL m g z L3 hb ⟨_,cn.snoc _ _ _ _ _ _ _ J,u⟩)
   ·rename_i id gen off len r;rw[r]at hs;split at hp
    ·rename_i g H n l f hg;obtain⟨rfl,hp⟩:=hp;replace hp:=aT hp;obtain⟨c,hp⟩:=hp;simp only[so]at c;obtain rfl:=No c.1;obtain rfl:=No c.2;obtain⟨m,q,⟨hb,n',f',rfl,J,u⟩,z,O5⟩:=sO (P:=P) hc _ _ hx sz dp _ hp;exact cC.rows (xH y hc t A e sz bytes zero d o C hd s x id g off len n f (ca hg) hs m q z O5 hb ⟨_,cn.set _ _ _ _ _ _ _ _ J,u⟩)
    ·exact Uq
   ·exact Uq
  split at hp
  ·rename_i e sz bytes zero l H O9 Qu o L;exact main e sz bytes zero _ o (y.slice _ _ _ _ _ L).1 (.inl ⟨_,rfl⟩) hp
  ·rename_i e sz bytes zero o L;exact main e sz bytes zero _ o (y.str _ L) (.inr rfl) hp
  ·exact Uq
 ·exact Uq
theorem aX.EH {pv:PV} {v:Value} (a:dP μ h S w pv v):aX μ h S w pv v:=by
 cases pv with
 | db b=>exact(show False from a).elim
 | _=>exact a
theorem xK (hc:Core μ h S w) (m:∀t,aX μ h S w (env t) (a.tmps.getD t undef)) (b:Operand) (args:Array Operand) (i:Array TypeId) (hp:pop P T (.call ⟨.value b,args,i⟩) env h K):
  cC P ⟨dst,.call ⟨.value b,args,i⟩,ty,pos,after,guard⟩ a μ h S w K:=by
 have k:=bp m b;simp only[pop]at hp;split at hp
 ·rename_i f n;rw[n]at k;replace hp:=aT hp;obtain⟨d,R,⟨⟨fn,c,o,q,r⟩,s⟩,y⟩:=hp;simp only[Sy]at d
  have z:=s w (args.map a.eval) μ S hc.heap hc.ok UQ (λj pv hj=>by
   rw[SL]at hj;cases hx:args.toList[j]? with
   | none=>rw[hx]at hj;cases hj
   | some x=>
    rw[hx]at hj;injection hj with hj;subst hj;refine⟨a.eval x,by rw[TZ];simp only[SQ]at hx;rw[hx];rfl,?_⟩;have hv:=bp m x;have g:=d x (SJ hx);cases he:ev env x with
    | db H=>rw[he]at g;cases g
    | _=>rw[he]at hv;exact hv)
  intro next Q A
  have B:(execOp a.eval ⟨dst,.call ⟨.value b,args,i⟩,ty,pos,after,guard⟩).run P w=.ok (.enter f (args.map a.eval)) w:=by
   simp only[execOp,resolve,k.BS,Deferred.ofValue,invoke,callFunc,Sem.run_bind,Sem.run_pure,Result.andThen_ok,Array.append_empty,TL];have C:¬fn.name= "runtime.NumGoroutine" :=by simpa using r
   simp [program,Sem.run,Result.andThen,o,C,q]
  unfold Oper.wp;rw[B];show Calls P f (args.map a.eval) w _;refine z.mono λe w' ⟨v,res,h',μ',S',he,D,hv,E,F,G⟩=>?_;subst he;exact A res v h' μ' S' w' (y res h' D) hv ⟨E,F⟩ G
 ·rename_i f bC n;rw[n]at k;replace hp:=aT hp;obtain⟨d,R,⟨⟨fn,c,o,q,r⟩,s⟩,y⟩:=hp;simp only[Sy]at d;obtain⟨vs,I,J,L⟩:=(show iQ μ h w f bC (a.eval b)from k)
  have z:=s w (args.map a.eval++vs) μ S hc.heap hc.ok (by simp [J]) (λj pv hj=>by
   by_cases l:j<args.size
   ·rw[SR (by simpa using l),SL]at hj;cases hx:args.toList[j]? with
    | none=>rw[hx]at hj;cases hj
    | some x=>
     rw[hx]at hj;injection hj with hj;subst hj;refine⟨a.eval x,by rw[S9 (by simpa using l),TZ];simp only[SQ]at hx;rw[hx];rfl,?_⟩;have hv:=bp m x;have g:=d x (SJ hx);cases he:ev env x with
     | db H=>rw[he]at g;cases g
     | _=>rw[he]at hv;exact hv
   ·rw[SP (by simpa using Nat.le_of_not_lt l),SL]at hj;simp only[TG,S8]at hj;cases hx:bC[j - args.size]? with
    | none=>rw[hx]at hj;cases hj
    | some p=>
     rw[hx]at hj;injection hj with hj;subst hj;obtain⟨u,q1,q2⟩:=L _ p hx;exact⟨u,by rw[Array.getElem?_append_right (by simpa using Nat.le_of_not_lt l)];simpa using q1,q2⟩)
  intro next Q A
  have B:(execOp a.eval ⟨dst,.call ⟨.value b,args,i⟩,ty,pos,after,guard⟩).run P w=.ok (.enter f (args.map a.eval++vs)) w:=by
   simp only[execOp,resolve,I,Deferred.ofValue,invoke,callFunc,Sem.run_bind,Sem.run_pure,Result.andThen_ok,TL];have C:¬fn.name= "runtime.NumGoroutine" :=by simpa using r
   simp [program,Sem.run,Result.andThen,o,C,q]
  unfold Oper.wp;rw[B];show Calls P f (args.map a.eval++vs) w _;refine z.mono λe w' ⟨v,res,h',μ',S',he,D,hv,E,F,G⟩=>?_;subst he;exact A res v h' μ' S' w' (y res h' D) hv ⟨E,F⟩ G
 ·exact Uq
theorem nS:∀(z xs a:List PV) (b:Bool),sj z xs a=some b->b=true->∀(j:Nat) (p q:PV),xs[j]? =some p->a[j]? =some q->p=q/\((∃k n,p=.int k n)\/(∃b,p=.bool b)\/∃s,p=.str s)
 | z,xs,a,b,hk,hb,j,p,q,hp,hq=>by
  subst hb;unfold sj at hk;split at hk
  ·simp at hp
  ·obtain⟨hg,c,hc,e⟩:=bw hk;simp only[so]at hg;obtain rfl:=cz hg.1;obtain rfl:=cz hg.2;have e:=e.symm;simp only[so,Ts]at e;obtain⟨rfl,rfl⟩:=e;cases j with
   | zero=>simp at hp hq;subst hp;subst hq;exact⟨rfl,.inl ⟨_,_,rfl⟩⟩
   | succ j=>exact nS _ _ _ _ hc rfl j p q U3 (by simpa using hq)
  ·obtain⟨hg,c,hc,e⟩:=bw hk;have e:=e.symm;simp only[so,Ts]at e;obtain⟨rfl,rfl⟩:=e;cases j with
   | zero=>simp at hp hq;subst hp;subst hq;exact⟨rfl,.inr (.inl ⟨_,rfl⟩)⟩
   | succ j=>exact nS _ _ _ _ hc rfl j p q U3 (by simpa using hq)
  ·obtain⟨hg,c,hc,e⟩:=bw hk;have e:=e.symm;simp only[so,Ts]at e;obtain⟨rfl,rfl⟩:=e;cases j with
   | zero=>simp at hp hq;subst hp;subst hq;exact⟨rfl,.inr (.inr ⟨_,rfl⟩)⟩
   | succ j=>exact nS _ _ _ _ hc rfl j p q U3 (by simpa using hq)
  ·cases hk
theorem nT:∀(z xs a:List PV) (b:Bool),sj z xs a=some b->a.length=xs.length
 | z,xs,a,b,hk=>by
  unfold sj at hk;split at hk
  ·rfl
  ·obtain⟨_,c,hc,_⟩:=bw hk;simp [nT _ _ _ c hc]
  ·obtain⟨_,c,hc,_⟩:=bw hk;simp [nT _ _ _ c hc]
  ·obtain⟨_,c,hc,_⟩:=bw hk;simp [nT _ _ _ c hc]
  ·cases hk
theorem xL (s:List UInt8):((ByteArray.mk ⟨s⟩)==(ByteArray.mk ⟨s⟩))=true:=by
 show((Array.mk s)==(Array.mk s))=true;simp
theorem oR (n:Nat) {p:PV} {u v:Value} (hp:(∃k n,p=.int k n)\/(∃b,p=.bool b)\/∃s,p=.str s) (hu:kG p u) (hv:bf μ h S w p v):Instr.sameBits n u v=true:=by
 rcases hp with⟨k,m,rfl⟩ | ⟨b,rfl⟩ | ⟨s,rfl⟩
 ·have hu:u=_:=hu;have hv:aI S w (.int k m) v:=hv;cases hv;subst hu;cases n<;>simp [Instr.sameBits]
 ·have hu:u=_:=hu;have hv:aI S w (.bool b) v:=hv;cases hv;subst hu;cases n<;>simp [Instr.sameBits]
 ·have hu:u=_:=hu;have hv:aI S w (.str s) v:=hv;cases hv;subst hu;cases n<;>simp [Instr.sameBits,xL]
theorem CN {ti:TI} {f g:PV} {key a:Value} (b:aX μ h S w f key) (hs:jy g a) (hq:fu ti f g=some true):Instr.sameBits 10000 a key=true:=by
 unfold fu at hq;split at hq
 ·obtain⟨hg,c,hc,e⟩:=bw hq;simp only[so]at hg;obtain rfl:=cz hg.1;obtain rfl:=cz hg.2;have e:=e.symm;simp only[so,Ts]at e;obtain⟨rfl,_⟩:=e;exact oR (μ:=μ) (h:=h) (S:=S) (w:=w) 10000 (.inl ⟨_,_,rfl⟩) hs b
 ·have hq:=SW hq;rw[Ts]at hq;subst hq;exact oR (μ:=μ) (h:=h) (S:=S) (w:=w) 10000 (.inr (.inr ⟨_,rfl⟩)) hs b
 ·split at hq
  ·rename_i z xs d _ _;obtain⟨m,rfl,n,o⟩:=(show dP μ h S w (.agg xs) key from b);obtain⟨q,rfl,r,s⟩:=(show ∃vs:Array Value,a=.agg vs/\vs.size=d.length/\∀(j:Nat) (pv:PV),d[j]? =some pv->∃u:Value,vs[j]? =some u/\kG pv u from hs);have t:=nT _ _ _ _ hq;rw[show 10000=9999+1 from rfl,Instr.sameBits];rw[so];refine⟨by rw[Ts,n,r,t],Sy.2 (λp hp=>?_)⟩;obtain⟨j,hj,rfl⟩:=Tb.1 hp;have x:=hj;rw[List.length_zip,S8,S8]at x;have i:j<xs.length:=by omega
   have k:j<d.length:=by omega
   obtain⟨y,A⟩:=nS _ _ _ _ hq rfl j _ _ (As i) (As k);obtain⟨u,hu,l⟩:=s j _ (As k);obtain⟨v,hv,B⟩:=o j _ (As i);rw[<-y]at l;have:=oR 9999 A l B;rw[List.getElem_zip];simp only[Array.getElem_toList];have h1:q[j]'UN=u:=by rw[SO UN]at hu;exact SW hu
   have h2:m[j]'UN=v:=by rw[SO UN]at hv;exact SW hv
   rw[h1,h2];exact this
  ·cases hq
 ·cases hq
theorem CO {w1:World} (hc:Core μ h S w) (id g sz n d:Nat) (e:TypeId) (f l:Nat->List PV) (hh:h[id]? =some (au.row g sz n e f)) (b base:Nat) (es:Array MapEntry) (c:Nat) (N:μ id=some (b,base))
  (hb:w.heap[b]? =some (.map es c)) (D:Array MapEntry) (U:Nat) (hw:w1.heap[b]? =some (.map D U)) (cj:∀a,a≠b->w1.heap[a]? =w.heap[a]?) (gY:w1.heap.size=w.heap.size) (HN:w1.os=w.os)
  (qA:w1.tape=w.tape) (tX:w1.output=w.output) (hl:∀i,i<d->(l i).length=sz)
  (E:D.size=d/\∀i,i<d->∃(F G:PV) (en:MapEntry),l i=[F,G]/\eA F=true/\eA G=true/\D[i]? =some en/\jy F en.key/\jy G en.val):
  Fr μ h S w μ (h.set id (.row (g+1) sz d e l)) S w1/\Core μ (h.set id (.row (g+1) sz d e l)) S w1:=by
 have hid:id<h.length:=(an.1 hh).1;have H:(h.set id (au.row (g+1) sz d e l))[id]? =some (au.row (g+1) sz d e l):=by simp [hid]
 have r:∀j,j≠id->(h.set id (au.row (g+1) sz d e l))[j]? =h[j]?:=λj hj=>by rw[SN (Tl hj)]
 have V:qD μ h b:=⟨id,g,sz,n,e,f,base,hh,N⟩;have lW:bA μ h b:=.inl V
 have W:∀a,qD μ (h.set id (au.row (g+1) sz d e l)) a->qD μ h a:=λa m=>by
  obtain⟨j,gj,dQ,nj,ej,fj,ff,hj,hm⟩:=m;by_cases bO:j=id
  ·subst bO;exact⟨j,g,sz,n,e,f,ff,hh,hm⟩
  ·rw[r j bO]at hj;exact⟨j,gj,dQ,nj,ej,fj,ff,hj,hm⟩
 have I:∀j x y b,bN (h.set id (au.row (g+1) sz d e l)) j x y b->bN h j x y b:=λj x y b ⟨gj,dQ,nj,ej,fj,s,t,u,A,F',q1,q2,q3,q4⟩=>by
  by_cases bO:j=id
  ·subst bO;rw[H]at q1;injection q1 with q1;injection q1 with J K B L C;subst B C;obtain⟨F,G,en,r1,X,Y,_⟩:=E.2 x q2;rw[r1]at q3
   match y,q3 with
   | 0,q3=>simp at q3;rw[q3]at X;cases X
   | 1,q3=>simp at q3;rw[q3]at Y;cases Y
   | y+2,q3=>simp at q3
  ·rw[r j bO]at q1;exact UH
 have O:∀a,bA μ (h.set id (au.row (g+1) sz d e l)) a->bA μ h a:=λa m=>by
  rcases m with m | ⟨x,y,z,m⟩
  ·exact .inl (W _ m)
  ·exact .inr ⟨x,y,z,I _ _ _ _ m⟩
 have Z:∀j x y a,bN h j x y a->w1.heap[a]? =w.heap[a]?:=λj x y a hx=>cj a (by
  rintro rfl;exact hc.ok.hv a V j x y hx)
 have P:Fr μ h S w μ (h.set id (.row (g+1) sz d e l)) S w1:=by
  refine⟨by simp,λa _ ph=>cj a (λhe=>ph (he▸lW)),λ_ hb=>hb,λ_ hb=>.inl hb,λa m=>.inl (O a m),by omega,HN,qA,tX,λj gj dQ nj ej fj hj=>?_,λj hj=>?_,λa k _ cr=>?_,λj gj dQ nj ej fj a fT hj hm fe=>?_,λa j x y hx fe=>let⟨Q,R,q⟩:=fe;⟨Q,R,(Z j x y a hx).trans q⟩⟩
  ·by_cases bO:j=id
   ·subst bO;rw[hh]at hj;injection hj with hj;injection hj with J K B L C;subst J K B L C;rw[H];exact⟨by omega,λhe=>absurd he UN⟩
   ·rw[r j bO,hj];exact UD
  ·have bO:j≠id:=by rintro rfl;rw[hh]at hj;cases hj
   rw[r j bO];exact hj
  ·have iu:a≠b:=by
    rintro rfl;exact cr.qC ⟨es,c,hb⟩
   exact dZ.of_same (cj a iu) cr
  ·have hex:∃T s t u A,(h.set id (au.row (g+1) sz d e l))[j]? =some (au.row T s t u A):=by
    by_cases bO:j=id
    ·subst bO;exact⟨_,_,_,_,_,H⟩
    ·exact⟨_,_,_,_,_,(r j bO).trans hj⟩
   refine⟨?_,.inr ⟨hex,hm⟩⟩;by_cases M:a=b
   ·subst M;exact⟨D,U,hw⟩
   ·obtain⟨Q,R,q⟩:=fe;exact⟨Q,R,(cj a M).trans q⟩
 refine⟨P,⟨λj gj dQ nj ej fj hj=>?_,⟨λb hb=>hc.ok.apart b (O b hb),λb hb=>by rw[gY];exact hc.ok.lt b (O b hb),λb hb=>by rw[gY];exact hc.ok.slt b hb,?_,hc.ok.my P,λb hb x y z hx=>hc.ok.hv b (W b hb) x y z (I _ _ _ _ hx),λb _ _ _ _ _ _ hx hy=>hc.ok.hh b _ _ _ _ _ _ (I _ _ _ _ hx) (I _ _ _ _ hy)⟩⟩⟩
 ·by_cases bO:j=id
  ·subst bO;rw[H]at hj;injection hj with hj;injection hj with J K B L C;subst J K B L C;refine⟨hl,?_⟩;rw[N];exact⟨_,hw,E⟩
  ·rw[r j bO]at hj;obtain⟨h1,h2⟩:=hc.heap j gj dQ nj ej fj hj;refine⟨h1,?_⟩;cases hm:μ j with
   | none=>rw[hm]at h2;exact h2
   | some p=>
    obtain⟨a,fT⟩:=p;rw[hm]at h2;obtain⟨o,q1,q2⟩:=h2
    have M:a≠b:=by
     rintro rfl;exact bO (hc.ok.inj j id _ _ _ _ _ _ _ _ _ _ _ _ _ hj hh hm N)
    exact⟨o,(cj a M).trans q1,q2.mono (λi y pv v hi hy E=>E.fr P hc.ok (λs t u A F' he b2 wh=>Z j i y b2 ⟨_,_,_,_,_,_,_,_,_,_,hj,hi,he▸hy,wh⟩))⟩
 ·intro i j gi xo ni ei fi gj dQ nj ej fj a o o' hi hj eY eN
  have back:∀k gk Dm nk ek fk,(h.set id (au.row (g+1) sz d e l))[k]? =some (au.row gk Dm nk ek fk)->∃T s t u A,h[k]? =some (au.row T s t u A):=λk gk Dm nk ek fk hk=>by
   by_cases lh:k=id
   ·subst lh;exact⟨_,_,_,_,_,hh⟩
   ·rw[r k lh]at hk;exact⟨_,_,_,_,_,hk⟩
  obtain⟨_,_,_,_,_,h1⟩:=back _ _ _ _ _ _ hi;obtain⟨_,_,_,_,_,h2⟩:=back _ _ _ _ _ _ hj;exact hc.ok.inj i j _ _ _ _ _ _ _ _ _ _ _ _ _ h1 h2 eY eN
theorem z6 {w1:World} (hc:Core μ h S w) (ha:bg w w1) (b:Nat) (hb:w.heap.size<=b) (l:b<w1.heap.size):Fr μ h S w μ h (λx=>S x\/x=b) w1/\Core μ h (λx=>S x\/x=b) w1:=by
 have f:Fr μ h S w μ h (λx=>S x\/x=b) w1:=by
  refine⟨Sv _,λa e _=>ha.blocks a e,λ_ hs=>.inl hs,λa e=>?_,λ_ d=>.inl d,ha.size,ha.os,ha.tape,ha.output,λj gj dQ nj ej fj hj=>?_,λ_ hd=>hd,λa k d cr=>?_,λj gj dQ nj ej fj a m hj hm fe=>?_,λa j x y hx fe=>let⟨n,r,q⟩:=fe;⟨n,r,(ha.blocks a (hc.ok.lt a (.inr ⟨j,x,y,hx⟩))).trans q⟩⟩
  ·rcases e with e | rfl
   ·exact .inl e
   ·exact .inr (.inr hb)
  ·rw[hj];exact⟨Sv _,λ_=>⟨rfl,rfl,rfl,rfl⟩⟩
  ·exact dZ.of_same (ha.blocks a (hc.ok.lt a d)) cr
  ·obtain⟨es,c,q⟩:=fe;exact⟨⟨es,c,(ha.blocks a (hc.ok.lt a (.inl ⟨_,_,_,_,_,_,_,hj,hm⟩))).trans q⟩,.inr ⟨⟨_,_,_,_,_,hj⟩,hm⟩⟩
 refine⟨f,⟨λj gj dQ nj ej fj hj=>?_,⟨λa d hs=>?_,λa d=>SH (hc.ok.lt a d) ha.size,λa hs=>?_,hc.ok.inj,hc.ok.my f,hc.ok.hv,hc.ok.hh⟩⟩⟩
 ·obtain⟨h1,h2⟩:=hc.heap j gj dQ nj ej fj hj;refine⟨h1,?_⟩;cases hm:μ j with
  | none=>rw[hm]at h2;exact h2
  | some p=>
   obtain⟨a,m⟩:=p;rw[hm]at h2;obtain⟨o,q1,q2⟩:=h2;exact⟨o,(ha.blocks a (hc.ok.lt a (.inl ⟨_,_,_,_,_,_,_,hj,hm⟩))).trans q1,q2.mono (λi y pv v hi hy s=>s.fr f hc.ok (λu z A B C he g t=>ha.blocks g (hc.ok.lt g (.inr ⟨j,i,y,_,_,_,_,_,_,_,_,_,_,hj,hi,he▸hy,t⟩))))⟩
 ·rcases hs with hs | rfl
  ·exact hc.ok.apart a d hs
  ·exact absurd (hc.ok.lt a d) UN
 ·rcases hs with hs | rfl
  ·exact SH (hc.ok.slt a hs) ha.size
  ·exact l
theorem qX (c:bR P T) (hc:Core μ h S w) (k:∀t,aX μ h S w (env t) (a.tmps.getD t undef)) (s d:Nat) (x:Operand) (hp:pop P T (.convert s d x) env h K):cC P ⟨dst,.convert s d x,ty,pos,after,guard⟩ a μ h S w K:=by
 simp only[pop]at hp;split at hp
 ·rename_i e sz r z b hs hd hx;split at hp
  ·rename_i he;obtain⟨l,f,m⟩:=hp;have hv:=bp k x;rw[hx]at hv;have n:=Lib.run_convert_string_bytes (P:=P) w s d e ⟨⟨b⟩⟩ (c.str _ hs) (c.slice _ _ _ _ _ hd).1 (c.int _ _ he)
   have o:bg w (Lib.bytesWorld w e ⟨⟨b⟩⟩):=by
    have:=Lib.bytesWorld_below w e ⟨⟨b⟩⟩;exact⟨this.block,this.size,this.os,this.tape,this.output⟩
   obtain⟨p,q⟩:=z6 hc o w.heap.size (Sv _) (by rw[Lib.bytesWorld_size];omega);refine cC.cK (val:=.slice (some ⟨w.heap.size,0,none⟩) b.length (grownCap w b.length 0 e)) (bQ rfl ?_) m ?_ q p
   ·rw[hv.gp];exact n
   ·show aI _ _ (.cP 1 b.length l) _;refine .cP 1 b.length l w.heap.size 0 _ (λi _=>.int .u8 (b.getD i 0).toNat) (.inr rfl) (λi hi=>by rw[f i hi];rfl) ?_ (λi j pv hi hj=>?_) (λi j pv hi hj=>?_)
    ·have:=grownCap_ge w b.length 0 e;omega
    ·rw[f i hi]at hj
     have g:j=0:=by
      have:=(an.1 hj).1;simpa using this
     subst g;have:=Lib.bytesWorld_cell w e ⟨⟨b⟩⟩ i (by show i<b.length;exact hi);rw[show 0+i*1+0=i by omega];exact this
    ·rw[f i hi]at hj
     have g:j=0:=by
      have:=(an.1 hj).1;simpa using this
     subst g;simp at hj;subst hj;exact .int _ _
  ·exact Uq
 ·exact .jU hc (gM c hc.heap k hp)
theorem rV (f:bR P T) (hc:Core μ h S w) (t:Nat) (hp:pop P T (.makeMap t none) env h K):cC P ⟨dst,.makeMap t none,ty,pos,after,guard⟩ a μ h S w K:=by
 simp only[pop]at hp;split at hp
 ·rename_i kt g k l;obtain⟨b,c⟩:=hp;obtain⟨d,e⟩:=sx (w1:=w.alloc (.map #[] 0)) hc 2 0 t b (some (w.heap.size,0)) ⟨Sv _,_,heap_alloc_new w _,rfl,λi hi=>absurd hi (S6 _)⟩ (fU w _) (λi hi=>absurd hi (S6 _)) (λi j pv hi=>absurd hi (S6 _));refine cC.cK (val:=.map (some w.heap.size)) (bQ rfl rfl) c ?_ e d;show cQ _ _ _ _ _;unfold cQ;rw[SP (Sv _),Tm];exact⟨⟨_,rfl⟩,w.heap.size,0,aJ _ _ _,⟨_,_,heap_alloc_new w _⟩,rfl⟩
 ·exact Uq
theorem nU:∀(z xs a:List PV) (b:Bool),sj z xs a=some b->xs.all lf=true/\xs.all fR=true
 | z,xs,a,b,hk=>by
  unfold sj at hk;split at hk
  ·exact⟨rfl,rfl⟩
  ·obtain⟨_,c,hc,_⟩:=bw hk;obtain⟨h1,h2⟩:=nU _ _ _ c hc;simp [lf,fR,h1,h2]
  ·obtain⟨_,c,hc,_⟩:=bw hk;obtain⟨h1,h2⟩:=nU _ _ _ c hc;simp [lf,fR,h1,h2]
  ·obtain⟨_,c,hc,_⟩:=bw hk;obtain⟨h1,h2⟩:=nU _ _ _ c hc;simp [lf,fR,h1,h2]
  ·cases hk
theorem CQ {ti:TI} {a b:PV} {q:Bool} (h0:fu ti a b=some q):eA a=true/\storable a=true:=by
 unfold fu at h0;split at h0
 ·exact⟨rfl,rfl⟩
 ·exact⟨rfl,rfl⟩
 ·split at h0
  ·exact nU _ _ _ _ h0
  ·cases h0
 ·cases h0
theorem nV {pv:PV} {v:Value} (hs:lf pv=true) (hj:fR pv=true) (hv:bf μ h S w pv v):kG pv v:=by
 cases pv with
 | int k n=>have hv:aI S w (.int k n) v:=hv;cases hv;rfl
 | bool b=>have hv:aI S w (.bool b) v:=hv;cases hv;rfl
 | str s=>have hv:aI S w (.str s) v:=hv;cases hv;rfl
 | dA=>cases hj
 | _=>cases hs
theorem yT {pv:PV} {v:Value} (hs:eA pv=true) (hj:storable pv=true) (hv:aX μ h S w pv v):jy pv v:=by
 cases pv with
 | agg cs=>
  obtain⟨vs,rfl,h1,h2⟩:=(show dP μ h S w (.agg cs) v from hv);refine⟨vs,rfl,h1,λj pv a=>?_⟩;obtain⟨u,q1,q2⟩:=h2 j pv a;have hm:=SJ a;exact⟨u,q1,nV (Sy.1 hs pv hm) (Sy.1 hj pv hm) q2⟩
 | int k n=>exact nV (μ:=μ) (h:=h) (S:=S) (w:=w) (pv:=.int k n) hs hj hv
 | bool b=>exact nV (μ:=μ) (h:=h) (S:=S) (w:=w) (pv:=.bool b) hs hj hv
 | str s=>exact nV (μ:=μ) (h:=h) (S:=S) (w:=w) (pv:=.str s) hs hj hv
 | dA=>cases hj
 | _=>cases hs
theorem uq {xA new:Value} {w':World} (h1:Instr.sameBits 10000 xA new=true):(Instr.keyThatStays xA new).run P w'=.ok new w':=by
 simp [Instr.keyThatStays,h1]
theorem z7 {w:World} {b:Nat} {o a:Obj} (hb:w.heap[b]? =some o):({w with heap:=w.heap.setIfInBounds b a}:World).heap[b]? =some a:=by
 have:=(Su.1 hb).1;simp [this]
theorem xM {w:World} {b a:Nat} {c:Obj} (hb:a≠b):({w with heap:=w.heap.setIfInBounds b c}:World).heap[a]? =w.heap[a]?:=by
 simp [Array.getElem?_setIfInBounds,Tl hb]
theorem pT (hT:bR P T) (hc:Core μ h S w) (H:∀t,aX μ h S w (env t) (a.tmps.getD t undef)) (t:Nat) (m k x:Operand) (hp:pop P T (.mapUpdate t m k x) env h K):
  cC P ⟨dst,.mapUpdate t m k x,ty,pos,after,guard⟩ a μ h S w K:=by
 have hm:=bp H m;have hk:=bp H k;have hx:=bp H x;simp only[pop]at hp;split at hp
 ·rename_i kt et zv id c8 RG;rw[RG]at hm;split at hp
  ·rename_i g sz n e f sq;replace hp:=aT (bm (bm hp));obtain⟨jn,I,f',RH,hK⟩:=hp;simp only[so]at jn;obtain⟨⟨⟨LZ,J⟩,Pb⟩,Pc⟩:=jn;obtain rfl:=(No Pc);obtain⟨hu,inf,z,eL,hz,dp,Fo,pP⟩:=hT.map _ _ _ _ c8;have hh:=ca sq;obtain⟨b,base,es,c,cW,ex,hb,C,D⟩:=qo hc.heap hh hm.tV;obtain⟨q0,h0⟩:=Option.isSome_iff_exists.1 LZ;obtain⟨d,s,hd,HI,BW⟩:=yA hT hk h0;obtain⟨L,Pd⟩:=CQ h0;have Qx:=yT L Pd hk;have L4:=yT J Pb hx
   have nI:∀m,m<=n->su (T.get kt) f m (ev env k)->∀j,j<m->∀y:MapEntry,es.toList[j]? =some y->lb P kt d s (a.eval k) y.key false:=λm Oj p j hj y hy=>by
    obtain⟨l,q,h1,h2⟩:=p j hj;obtain⟨IY,IZ,en,u,_,_,h4,E,_⟩:=D j UN;rw[h1]at u;injection u with v F;subst v;have:y=en:=by rw[SQ]at hy;exact SW (hy.symm.trans h4)
    subst this;exact BW l y.key false E h2
   have main:∀(o:Array MapEntry) (G:Nat),(Instr.mapUpdate t (.map (some b)) (a.eval k) (a.eval x)).run P w=.ok () {w with heap:=w.heap.setIfInBounds b (.map o G)}->
     (o.size=I/\∀i,i<I->∃(l q:PV) (en:MapEntry),f' i=[l,q]/\eA l=true/\eA q=true/\o[i]? =some en/\jy l en.key/\jy q en.val)->
     cC P ⟨dst,.mapUpdate t m k x,ty,pos,after,guard⟩ a μ h S w K:=by
    intro o G ft hr
    obtain⟨dt,iB⟩:=CO (w1:={w with heap:=w.heap.setIfInBounds b (.map o G)}) hc id g 2 n I e f f' hh b base es c cW hb o G (z7 hb) (λb' fA=>xM fA) UQ rfl rfl rfl
     (λi hi=>by obtain⟨l,q,en,h1,_⟩:=hr.2 i hi;rw[h1];rfl) hr
    refine cC.yC ?_ hK iB dt;have v:(execOp a.eval ⟨dst,.mapUpdate t m k x,ty,pos,after,guard⟩)=(do Instr.mapUpdate t (a.eval m) (a.eval k) (a.eval x);pure .skip:Sem Next):=rfl;rw[v,ex];simp only[Sem.run_bind,ft,Result.andThen,Sem.run_pure]
   rcases RH with⟨A,r,⟨Ok,p,RI,HL,OR⟩,M,N,O⟩ | ⟨p,M,N,O⟩
   ·obtain⟨IY,IZ,en,u,h8,h6,h4,E,h7⟩:=D A Ok;rw[HL]at u;injection u with v F;injection F with F _;subst v F;have Q:=qs (P:=P) (w':=w) hd es.toList A en (nI A UN p) (by rw[SQ];exact h4) (BW RI en.key true E OR);have Lk:=uq (P:=P) (w':=w) (CN hk E OR);refine main (es.modify A λe=>{e with key:=a.eval k,val:=a.eval x}) c ?_ ⟨by simp [C,M],λi hi=>?_⟩
    ·simp [Instr.mapUpdate,run_underlying hu,run_getObj_map w b es c hb,HI,Q,h4,Lk,MapKept.run_setObj_map _ hb]
    ·by_cases B:i=A
     ·subst B;refine⟨_,_,{en with key:=a.eval k,val:=a.eval x},N,L,J,?_,Qx,L4⟩;rw[Array.getElem?_modify,An rfl,h4];rfl
     ·obtain⟨R,U,V,W,X,Y,Z,g5,g6⟩:=D i UN;refine⟨R,U,V,by rw[O i UN B,W],X,Y,?_,g5,g6⟩;rw[Array.getElem?_modify,Is (Tl B),Z]
   ·have Q:=nF (P:=P) (w':=w) hd es.toList (λj y hy=>nI n (Sv _) p j (by
      have:=(an.1 hy).1;rw[<-C];simpa using this) y hy)
    refine main (es.push {key:=a.eval k,val:=a.eval x,born:=c}) (c+1) ?_ ⟨by simp [C,M],λi hi=>?_⟩
    ·simp [Instr.mapUpdate,run_underlying hu,run_getObj_map w b es c hb,HI,Q,MapKept.run_setObj_map _ hb]
    ·by_cases B:i=n
     ·subst B;refine⟨_,_,{key:=a.eval k,val:=a.eval x,born:=c},N,L,J,?_,Qx,L4⟩;rw[<-C];simp
     ·obtain⟨R,U,V,W,X,Y,Z,g5,g6⟩:=D i UN;refine⟨R,U,V,by rw[O i UN,W],X,Y,?_,g5,g6⟩;rw[Array.getElem?_push,Is UN,Z]
  ·exact Uq
 ·exact Uq
theorem ur (j:bR P T) (hc:Core μ h S w) (i:∀t,aX μ h S w (env t) (a.tmps.getD t undef)) (k:BinOp) (t l:TypeId) (x y:Operand) (hp:pop P T (.binOp k t x y l) env h K):
  cC P ⟨dst,.binOp k t x y l,ty,pos,after,guard⟩ a μ h S w K:=by
 simp only[pop]at hp;split at hp
 ·rename_i e sz s z m n f o hx hy;obtain⟨h1,h2⟩:=hp;have rx:=bp i x;have g:=bp i y;rw[hx]at rx;rw[hy]at g;have rx:aI S w (.cP m n f) (a.eval x):=rx;have g:aI S w .aD (a.eval y):=g
  have p:a.eval y=.slice none 0 0:=by
   generalize a.eval y=v at g;cases g;rfl
  obtain⟨d,c,ex,q⟩:∃d c,a.eval x=.slice d n c/\(d=none->n=0):=by
   generalize a.eval x=v at rx;cases rx with
   | iq _ _ d c=>exact⟨d,c,rfl,λ_=>rfl⟩
   | cP _ _ _ b off c u _ _ _ _ _=>exact⟨_,c,rfl,λh0=>by cases h0⟩
  obtain⟨hu,_⟩:=j.slice _ _ _ _ _ o;have hg:eqGuard .eql t x y (a.eval x) (a.eval y)=pure ():=by rw[ex];apply eqGuard_at_slice
  have r:K (.bool d.isNone) h:=by
   cases d with
   | none=>exact h1 (q rfl)
   | some _=>exact h2
  refine .jU hc (.mk (v:=.bool d.isNone) r (aI.bool _) λw' _=>pk (yw hg ?_));rw[ex,p];first | exact Lib.run_eql_slice_nil _ _ _ _ _ _ _ _ hu | exact run_eql_slice_nil _ _ _ _ _ _ hu
 ·exact .jU hc (gM j hc.heap i hp)
theorem sR (e:bR P T) (hc:Core μ h S w) (f:∀t,aX μ h S w (env t) (a.tmps.getD t undef)) {op:Op} (hp:pop P T op env h K):
  cC P ⟨dst,op,ty,pos,after,guard⟩ a μ h S w K:=by
 cases op with
 | store t i x=>exact vm e hc f t i x hp
 | makeSlice t l c=>exact xp e hc f t l c hp
 | box t x=>exact zL hc f t x hp
 | alloc t=>exact vo e hc t hp
 | buildSlice t len parts=>exact oP e hc f t len parts hp
 | convert s d x=>exact qX e hc f s d x hp
 | binOp j t x y n=>exact ur e hc f j t n x y hp
 | makeMap t r=>cases r with
  | none=>exact rV e hc t hp
  | some r=>exact hp.elim
 | mapUpdate t m k x=>exact pT e hc f t m k x hp
 | call c=>
  obtain⟨o,args,g⟩:=c;cases o with
  | value p=>exact xK hc f p args g hp
  | invoke r m=>exact .jU hc (gM e hc.heap f hp)
  | builtin b=>cases b with
   | append=>exact uo e hc f args g hp
   | _=>exact .jU hc (gM e hc.heap f hp)
 | _=>exact .jU hc (gM e hc.heap f hp)
end
section
variable {P:Program}{T:ij}{μ:Mu}{h η:List au}{k:List Nat}{S:Nat->Prop}{w:World}{m:Nat}
theorem mo.get:∀(l r:List PV),mo h η k l r->r.length=l.length/\∀(j:Nat) (pv c:PV),l[j]? =some pv->r[j]? =some c->Fz h η k pv c
 | [],[],_=>⟨rfl,λj pv c hj=>by simp at hj⟩
 | [],_::_,hh=>hh.elim
 | _::_,[],hh=>hh.elim
 | a::l,b::r,hh=>by
  obtain⟨h1,h2⟩:=hh;obtain⟨q1,q2⟩:=mo.get l r h2;refine⟨by simp [q1],λj pv c hj d=>?_⟩;cases j with
  | zero=>
   simp at hj d;subst hj d;exact h1
  | succ j=>exact q2 j pv c UW (by simpa using d)
theorem gP:∀(l:List au) (r:List Nat) (i:Nat),iW h η k m i l r->l.length=r.length/\∀(j:Nat) (o:au),l[j]? =some o->∃id,r[j]? =some id/\mT h η k m o (i+j) id
 | [],[],i,_=>⟨rfl,λj o hj=>by simp at hj⟩
 | [],_::_,_,hh=>hh.elim
 | _::_,[],_,hh=>hh.elim
 | o::l,id::r,i,hh=>by
  obtain⟨h1,h2⟩:=hh;obtain⟨q1,q2⟩:=gP l r (i+1) h2;refine⟨by simp [q1],λj b hj=>?_⟩;cases j with
  | zero=>
   simp at hj;subst hj;exact⟨id,rfl,h1⟩
  | succ j=>
   simp at hj;obtain⟨a,c,d⟩:=q2 j b hj;exact⟨a,by simpa using c,by rw[show i+(j+1)=i+1+j from by omega];exact d⟩
def fN (μ:Mu) (h:List au) (k:List Nat):Mu:=λa=>match k[a]? with | some id=>(match h[id]? with | some _=>μ id | none=>none) | none=>none
theorem ku {μ:Mu} {h:List au} {k:List Nat} {id a:Nat} {o:au} (hk:k[a]? =some id) (b:h[id]? =some o):fN μ h k a=μ id:=by unfold fN;rw[hk];simp only[b]
theorem sS {μ:Mu} {h:List au} {k:List Nat} {id a:Nat} (hk:k[a]? =some id) (b:h[id]? =none):fN μ h k a=none:=by unfold fN;rw[hk];simp only[b]
def sT (μ:Mu) (h:List au) (k:List Nat) (S:Nat->Prop):Nat->Prop:=
 λb=>S b\/∃(id g sz n:Nat) (e:TypeId) (f:Nat->List PV) (base:Nat),id∉k/\h[id]? =some (au.row g sz n e f)/\(μ id=some (b,base)\/∃i j,bN h id i j b)
theorem CS {S S':Nat->Prop} {w:World} (s:∀b,S b->S' b) {pv:PV} {v:Value} (h:fK S w pv v):∀d,qR pv d->(∀sz n e f F,pv=.aG sz n e f F->∀b,F b->S' b)->aI S' w d v:=by
 induction h with
 | nil sz e f F m=>
  intro d k _;cases k;exact .iq _ _ _ _
 | vS sz n e f F b off c a cur t m hb hlen hc ha cr u x I y J z=>
  intro d k hk;have hk:=hk _ _ _ _ _ rfl;cases k with
  | mk _ _ _ _ o _ p hf l hp=>
   rcases Ta n with h0 | h0
   ·subst h0;exact .iq _ _ _ _
   ·obtain rfl:=ha UN
    have get:∀(i j:Nat) (d:PV),i<n->(o i)[j]? =some d->∃pv,(f i)[j]? =some pv:=λi j d hi hj=>by
     have A:j<(f i).length:=by rw[<-p i hi];exact(an.1 hj).1
     exact⟨_,As A⟩
    refine .cP sz n o b off c t (hk b m) (λi hi=>by rw[p i hi];exact hlen i hi) hc (λi j d hi hj=>?_) (λi j d hi hj=>?_)
    ·obtain⟨pv,g⟩:=get i j d hi hj;rw[cell_of_row w b _ cur e (0,0) hb,<-u i j pv hi g]
    ·obtain⟨pv,g⟩:=get i j d hi hj;cases hx:cg pv with
     | false=>
      rw[hf i j pv d hi g hj hx];rcases x i j pv hi g with q | ⟨_,_,_,_,_,q⟩
      ·exact q.mono (λ_ _=>rfl) s
      ·rw[q]at hx;cases hx
     | true=>
      have l:=l i j pv d hi g hj hx;cases pv with
      | aG B C D E G=>exact z i j B C D E G hi g d l (λ_ _ _ _ _ he r H=>by
        injection he with _ _ _ _ he;subst he;exact hk r (y i j _ _ _ _ _ hi g r H).1)
      | _=>cases hx
theorem oS {μ':Mu} {h':List au} {S':Nat->Prop} {pv:PV} {v:Value} (hp:bn pv=true) (hc:bf μ' h' S' w pv v):aI S' w pv v:=by
 cases pv<;>first | exact hc | cases hp
theorem lx (hc:Core μ h S w) (hh:iW h η k m 0 η k) {pv l:PV} (hz:Fz h η k pv l):
  (∀v,bf μ h S w pv v->bf (fN μ h k) η (sT μ h k S) w l v)/\(∀v,dP μ h S w pv v->dP (fN μ h k) η (sT μ h k S) w l v)/\(∀v,aX μ h S w pv v->aX (fN μ h k) η (sT μ h k S) w l v):=by
 have up:∀pv v,aI S w pv v->aI (sT μ h k S) w pv v:=λpv v hp=>aI.mono (λ_ _=>rfl) (λb hb=>.inl hb) hp
 have same:∀pv:PV,(∀v,bf μ h S w pv v->aI S w pv v)->(∀v,dP μ h S w pv v->bf μ h S w pv v)->(∀v,aX μ h S w pv v->dP μ h S w pv v)->∀l:PV,(∀v,aI S w pv v->aI (sT μ h k S) w l v)->
   (∀v,bf μ h S w pv v->bf (fN μ h k) η (sT μ h k S) w l v)/\(∀v,dP μ h S w pv v->bf (fN μ h k) η (sT μ h k S) w l v)/\(∀v,aX μ h S w pv v->bf (fN μ h k) η (sT μ h k S) w l v):=
  λpv h1 h2 q l hp=>⟨λv hv=>bf.eX (hp v (h1 v hv)),λv hv=>bf.eX (hp v (h1 v (h2 v hv))),λv hv=>bf.eX (hp v (h1 v (h2 v (q v hv))))⟩
 induction hz with
 | int k' n=>exact same (.int k' n) (λ_ h=>h) (λ_ h=>h) (λ_ h=>h) _ (up _)
 | bool b=>exact same (.bool b) (λ_ h=>h) (λ_ h=>h) (λ_ h=>h) _ (up _)
 | str s=>exact same (.str s) (λ_ h=>h) (λ_ h=>h) (λ_ h=>h) _ (up _)
 | aD=>exact same .aD (λ_ h=>h) (λ_ h=>h) (λ_ h=>h) _ (up _)
 | dx=>exact same .dx (λ_ h=>h) (λ_ h=>h) (λ_ h=>h) _ (up _)
 | FI sz f=>exact same .aD (λ_ h=>h) (λ_ h=>h) (λ_ h=>h) (.cP sz 0 f) (λv hv=>by cases hv;exact .iq _ _ _ _)
 | K4 id d A H I y hk o hη=>
  have key:∀v,v=Value.slice none 0 0->aN (fN μ h k) η w d A 0 0 v:=λv hv=>by
   unfold aN;rw[hη];refine⟨⟨_,_,_,hv⟩,Sv _,λ_=>⟨Sv _,?_⟩⟩;rw[sS hk o];exact hv
  have inv:∀v,aI S w .aD v->v=Value.slice none 0 0:=λv hv=>by cases hv;rfl
  exact⟨λv hv=>key v (inv v hv),λv hv=>key v (inv v hv),λv hv=>key v (inv v hv)⟩
 | fn f=>exact same (.fn f) (λ_ h=>h) (λ_ h=>h) (λ_ h=>h) _ (up _)
 | cN cs=>exact same (.cN cs) (λ_ h=>h) (λ_ h=>h) (λ_ h=>h) _ (up _)
 | cP sz n f y hf=>
  exact same (.cP sz n f) (λ_ h=>h) (λ_ h=>h) (λ_ h=>h) (.cP sz n y) (λv hv=>by
   have hv:=up _ _ hv;cases hv with
   | iq _ _ a c=>exact .iq _ _ _ _
   | cP _ _ _ b off c vf h1 h2 q h4 h5=>
    exact .cP sz n y b off c vf h1 (λi hi=>by rw[hf i hi];exact h2 i hi) q (λi j pv hi hj=>h4 i j pv hi U2) (λi j pv hi hj=>h5 i j pv hi U2))
 | dA pv=>exact⟨λv hv=>hv.one,λ_ _=>trivial,λ_ _=>trivial⟩
 | aG sz n e f F=>exact⟨λv hv=>hv,λv hv=>hv,λv hv=>hv⟩
 | pK sz e f=>exact⟨λv hv=>bf.one hv,λv hv=>bf.one (pv:=.aD) (μ:=μ) (h:=h) hv,λv hv=>bf.one (pv:=.aD) (μ:=μ) (h:=h) hv⟩
 | own id d g A sz H n L off len e I f y hk o hη C=>
  have key:∀v,aN μ h w id g off len v->aN (fN μ h k) η w d A off len v:=λv hv=>by
   unfold aN at hv ⊢;rw[o]at hv;rw[hη];obtain⟨h1,_,D⟩:=hv;have M:=D rfl;clear D;obtain⟨h2,q⟩:=M;obtain⟨_,bG⟩:=gP η k 0 hh;obtain⟨U,r,t⟩:=bG d _ hη;rw[hk]at r;injection r with r;subst r;unfold mT at t;rw[o]at t;obtain⟨_,rfl,_,_⟩:=t;refine⟨h1,Sv _,λ_=>⟨C,?_⟩⟩;have hm:fN μ h k d=μ id:=ku hk o;rw[hm];exact q
  exact⟨key,key,key⟩
 | aH id d g A sz H n L i off e I f y hk o hη C=>
  have key:∀v,bh μ h w id g i off v->bh (fN μ h k) η w d A i off v:=λv hv=>by
   unfold bh at hv ⊢;rw[o]at hv;rw[hη];obtain⟨h1,_,D⟩:=hv;have M:=D rfl;clear D;obtain⟨h2,q⟩:=M;obtain⟨_,bG⟩:=gP η k 0 hh;obtain⟨U,r,t⟩:=bG d _ hη;rw[hk]at r;injection r with r;subst r;unfold mT at t;rw[o]at t;obtain⟨_,rfl,_,rfl,_⟩:=t;refine⟨h1,Sv _,λ_=>⟨C,?_⟩⟩;have hm:fN μ h k d=μ id:=ku hk o;rw[hm];exact q
  exact⟨key,key,key⟩
 | jK f bC vU x N=>
  have key:∀v,iQ μ h w f bC v->iQ (fN μ h k) η w f vU v:=λv hv=>by
   obtain⟨vs,h1,h2,q⟩:=hv;refine⟨vs,h1,h2.trans x.symm,λj V hj=>?_⟩;have W:j<bC.length:=by rw[<-x];exact(an.1 hj).1
   obtain⟨hk,⟨sz,n,e,g,o⟩,H,L,I,A,hη,C⟩:=N j _ V (As W) hj;obtain⟨u,q1,q2⟩:=q j _ (As W);refine⟨u,q1,?_⟩;unfold bh at q2 ⊢;rw[o]at q2;rw[hη];obtain⟨O,_,J⟩:=q2;have P:=J rfl;clear J;obtain⟨X,a5⟩:=P;obtain⟨_,bG⟩:=gP η k 0 hh;obtain⟨U,r,t⟩:=bG V.1 _ hη;rw[hk]at r;injection r with r;subst r;unfold mT at t;rw[o]at t;obtain⟨_,rfl,_,rfl,_⟩:=t;refine⟨O,Sv _,λ_=>⟨C,?_⟩⟩;rw[ku hk o];exact a5
  exact⟨key,key,key⟩
 | gS id d g A sz H n L e I f y hk o hη=>
  have key:∀v,cQ μ h w id v->cQ (fN μ h k) η w d v:=λv hv=>by
   unfold cQ at hv ⊢;rw[o]at hv;rw[hη];obtain⟨h1,b,base,q1,q2,q3⟩:=hv;exact⟨h1,b,base,(ku hk o).trans q1,q2,q3⟩
  exact⟨key,key,key⟩
 | KW id g sz n off len e f y hk o x hp hf E=>
  have key:∀v,aN μ h w id g off len v->bf (fN μ h k) η (sT μ h k S) w (.cP sz len y) v:=λv hv=>by
   refine bf.eX ?_;unfold aN at hv;rw[o]at hv;obtain⟨_,_,hv⟩:=hv;obtain⟨hle,hv⟩:=hv rfl;obtain⟨RJ,K⟩:=hc.heap id g sz n e f o;cases Q:μ id with
   | none=>
    rw[Q]at hv K;have C:n=0:=K;have h0:len=0:=by omega
    subst h0;have hv:v=.slice none 0 0:=hv;subst hv;exact .iq _ _ _ _
   | some p=>
    obtain⟨b,base⟩:=p;rw[Q]at hv K;obtain⟨ad,cap,rfl,Fk,R,xj⟩:=hv;obtain⟨cur,dR,kk,ep⟩:=bu.cells xj K;rcases Ta len with h0 | h0
    ·subst h0;exact .iq _ _ _ _
    ·have R:=R UN;subst R
     have Y:∀(i j:Nat) (l:PV),i<len->(y i)[j]? =some l->∃u,w.cell? ⟨b,base+off*sz+i*sz+j,none⟩=some u/\aI (sT μ h k S) w l u:=λi j l hi hj=>by
      have G:j<(f (off+i)).length:=by rw[<-x i hi];exact(an.1 hj).1
      have z:=As G;obtain⟨u,h1,h2⟩:=ep (off+i) j _ UN z
      have q:aI (sT μ h k S) w l u:=by
       by_cases B:qR (f (off+i))[j] l
       ·generalize aa:(f (off+i))[j]=pv at B h2 z;cases B with
        | mk Z n2 e2 f2 T F2 O J P X=>
         exact CS (λb hb=>.inl hb) (show fK S w (.aG Z n2 e2 f2 F2) u from h2) _ (.mk Z n2 e2 f2 T F2 O J P X) (λ_ _ _ _ _ he b' fA=>by
          injection he with _ _ _ _ he;subst he;exact .inr ⟨id,g,sz,n,e,f,base,hk,o,.inr ⟨off+i,j,_,_,_,_,_,_,_,_,_,_,o,by omega,z,fA⟩⟩)
       ·exact oS (hp i j l hi hj) ((E i j _ l hi z hj B).1 u h2.c)
      refine⟨u,?_,q⟩;rw[cell_of_row w b _ cur e (0,0) dR,<-h1];congr 1;rw[SD];omega
     refine .cP sz len y b (base+off*sz) cap (λi j=>(w.cell? ⟨b,base+off*sz+i*sz+j,none⟩).getD undef) (.inr ⟨id,g,sz,n,e,f,base,hk,o,.inl Q⟩) (λi hi=>by rw[x i hi];exact RJ _ UN) Fk (λi j pv hi hj=>?_) (λi j pv hi hj=>?_)
     ·obtain⟨u,h1,_⟩:=Y i j pv hi hj;rw[h1];rfl
     ·obtain⟨u,h1,h2⟩:=Y i j pv hi hj;simp only[h1,T2];exact h2
  exact⟨key,key,key⟩
 | agg cs rT x N E=>
  have key:∀v,dP μ h S w (.agg cs) v->dP (fN μ h k) η (sT μ h k S) w (.agg rT) v:=λv hv=>by
   obtain⟨vs,h1,h2,q⟩:=hv;refine⟨vs,h1,h2.trans x.symm,λj l hj=>?_⟩;have G:j<cs.length:=by rw[<-x];exact(an.1 hj).1
   have z:=As G;obtain⟨u,q1,q2⟩:=q j _ z;exact⟨u,q1,(E j _ l z hj).1 u q2⟩
  exact⟨λ_ hv=>(show False from hv).elim,key,key⟩
 | db cs rT x N E=>
  refine⟨λ_ hv=>(show False from hv).elim,λ_ hv=>(show False from hv).elim,λv hv=>?_⟩;obtain⟨vs,h1,h2,q⟩:=hv;refine⟨vs,h1,h2.trans x.symm,λj l hj=>?_⟩;have G:j<cs.length:=by rw[<-x];exact(an.1 hj).1
  have z:=As G;obtain⟨u,q1,q2⟩:=q j _ z;exact⟨u,q1,(E j _ l z hj).2.1 u q2⟩
end
section
variable {P:Program}{T:ij}{μ:Mu}{h η:List au}{k:List Nat}{S:Nat->Prop}{w:World}{m:Nat}
theorem CT {a c:PV} (d:Fz h η k a c) (ha:lf a=true):lf c=true/\∀v,kG a v->kG c v:=by
 cases d with
 | int e n=>exact⟨rfl,λ_ h=>h⟩
 | bool b=>exact⟨rfl,λ_ h=>h⟩
 | str s=>exact⟨rfl,λ_ h=>h⟩
 | dA _=>exact⟨rfl,λv h=>by
   cases a<;>first | (cases ha;done) | (have h:v=_:=h;subst h;rfl) | exact h⟩
 | _=>cases ha
theorem yV {a d:PV} (g:Fz h η k a d) (ha:eA a=true):eA d=true/\∀v,jy a v->jy d v:=by
 cases g with
 | int p n=>exact⟨rfl,λ_ h=>h⟩
 | bool b=>exact⟨rfl,λ_ h=>h⟩
 | str s=>exact⟨rfl,λ_ h=>h⟩
 | dA _=>exact⟨rfl,λ_ _=>trivial⟩
 | agg cs i e hc=>
  have el:∀j c,i[j]? =some c->∃pv,cs[j]? =some pv/\lf c=true/\∀v,kG pv v->kG c v:=λj c hj=>by
   have f:j<cs.length:=by rw[<-e];exact(an.1 hj).1
   have h1:=As f;have h2:=CT (hc j _ _ h1 hj) (Sy.1 ha _ (SM f));exact⟨_,h1,h2⟩
  refine⟨Sy.2 (λx hx=>?_),λv hv=>?_⟩
  ·obtain⟨j,hj,rfl⟩:=Tb.1 hx;obtain⟨_,_,h2,_⟩:=el j _ (As hj);exact h2
  ·obtain⟨vs,q1,q2,q3⟩:=hv;refine⟨vs,q1,q2.trans e.symm,λj c hj=>?_⟩;obtain⟨pv,l,_,m⟩:=el j c hj;obtain⟨u,hu,o⟩:=q3 j pv l;exact⟨u,hu,m u o⟩
 | _=>cases ha
theorem qY:∀{l:List Nat} {x i:Nat},l[i]? =some x->z8 l x=true
 | [],x,i,h=>by simp at h
 | a::r,x,0,h=>by
  simp at h;subst h;unfold z8;rw[show Nat.beq a a=true from Tn a]
 | a::r,x,i+1,h=>by
  unfold z8;cases Nat.beq a x
  ·exact qY U0
  ·rfl
theorem lM:∀{η:List au} {k:List Nat} {i id g sz n:Nat} {e:TypeId} {f:Nat->List PV},η[i]? =some (au.row g sz n e f)->k[i]? =some id->∃j:Nat,(hI η k)[j]? =some id
 | [],_,i,_,_,_,_,_,_,h,_=>by simp at h
 | _::_,[],i,_,_,_,_,_,_,_,h=>by simp at h
 | .row _ _ _ _ _::r,a::is,0,id,_,_,_,_,_,_,h=>by simp at h;subst h;exact⟨0,rfl⟩
 | .dead::r,a::is,0,id,_,_,_,_,_,h,_=>by simp at h
 | .row _ _ _ _ _::r,a::is,i+1,id,_,_,_,_,_,h1,h2=>by
  obtain⟨j,hj⟩:=lM (i:=i) U5 U4;exact⟨j+1,by simpa[hI]using hj⟩
 | .dead::r,a::is,i+1,id,_,_,_,_,_,h1,h2=>by
  obtain⟨j,hj⟩:=lM (i:=i) U5 U4;exact⟨j,by simpa[hI]using hj⟩
theorem lN:∀{η:List au} {k:List Nat} {i j id g sz n d l m:Nat} {e o:TypeId} {f p:Nat->List PV},ig (hI η k)=true->η[i]? =some (au.row g sz n e f)->k[i]? =some id->η[j]? =some (au.row d l m o p)->k[j]? =some id->i=j
 | [],_,i,_,_,_,_,_,_,_,_,_,_,_,_,_,h,_,_,_=>by simp at h
 | _::_,[],i,_,_,_,_,_,_,_,_,_,_,_,_,_,_,h,_,_=>by simp at h
 | .row _ _ _ _ _::r,a::is,0,0,_,_,_,_,_,_,_,_,_,_,_,_,_,_,_,_=>rfl
 | .row _ _ _ _ _::r,a::is,0,j+1,id,_,_,_,_,_,_,_,_,_,_,b,_,h2,c,h4=>by
  simp at h2;subst h2;obtain⟨q,hq⟩:=lM (η:=r) (k:=is) (i:=j) (by simpa using c) (by simpa using h4);unfold hI ig at b;rw[qY hq]at b;cases b
 | .row _ _ _ _ _::r,a::is,i+1,0,id,_,_,_,_,_,_,_,_,_,_,b,h1,h2,_,h4=>by
  simp at h4;subst h4;obtain⟨q,hq⟩:=lM (η:=r) (k:=is) (i:=i) U5 U4;unfold hI ig at b;rw[qY hq]at b;cases b
 | .row _ _ _ _ _::r,a::is,i+1,j+1,id,_,_,_,_,_,_,_,_,_,_,b,h1,h2,c,h4=>by
  unfold hI ig at b;cases hm:z8 (hI r is) a with
  | true=>rw[hm]at b;cases b
  | false=>
   rw[hm]at b;rw[lN (η:=r) (k:=is) (i:=i) (j:=j) b U5 U4 (by simpa using c) (by simpa using h4)]
 | .dead::r,a::is,0,_,_,_,_,_,_,_,_,_,_,_,_,_,h,_,_,_=>by simp at h
 | .dead::r,a::is,_+1,0,_,_,_,_,_,_,_,_,_,_,_,_,_,_,h,_=>by simp at h
 | .dead::r,a::is,i+1,j+1,id,_,_,_,_,_,_,_,_,_,_,b,h1,h2,c,h4=>by
  rw[lN (η:=r) (k:=is) (i:=i) (j:=j) b U5 U4 (by simpa using c) (by simpa using h4)]
theorem nW (hc:Core μ h S w) (hh:iW h η k m 0 η k) (hk:ig (hI η k)=true):Core (fN μ h k) η (sT μ h k S) w/\(∀b,bA (fN μ h k) η b->bA μ h b)/\∀b,sT μ h k S b->S b\/bA μ h b:=by
 obtain⟨hlen,bG⟩:=gP η k 0 hh
 have back:∀(a A r l:Nat) (t:TypeId) (v:Nat->List PV),η[a]? =some (au.row A r l t v)->(l=0/\fN μ h k a=none)\/∃(id g:Nat) (f:Nat->List PV),k[a]? =some id/\(∃n,h[id]? =some (au.row g r n t f)/\l<=n/\(l=n\/r≠2))/\fN μ h k a=μ id/\
   ∀i,i<l->(v i).length=(f i).length/\∀(j:Nat) (pv D:PV),(f i)[j]? =some pv->(v i)[j]? =some D->Fz h η k pv D:=λa A r l t v hη=>by
  obtain⟨id,s,d⟩:=bG a _ hη;unfold mT at d;cases E:h[id]? with
  | none=>rw[E]at d;exact .inl ⟨d.2,sS s E⟩
  | some o=>
   cases o with
   | dead=>rw[E]at d;exact d.elim
   | row g sz n e f=>
    rw[E]at d;obtain⟨_,rfl,T,rfl,G⟩:=d;refine .inr ⟨id,g,f,s,⟨n,E,?_⟩,ku s E,λi hi=>mo.get _ _ (G i hi)⟩;rcases T with rfl | ⟨_,r5,r6⟩
    ·exact⟨Sv _,.inl rfl⟩
    ·exact⟨r6,.inr r5⟩
 have U:∀b,qD (fN μ h k) η b->∃id,id∈k/\∃g sz n e f base,h[id]? =some (au.row g sz n e f)/\μ id=some (b,base):=λb hb=>by
  obtain⟨a,A,r,l,t,v,base,hη,hm⟩:=hb;rcases back a A r l t v hη with⟨_,q3⟩ | ⟨id,g,f,q1,⟨n,q2,_⟩,q3,_⟩
  ·rw[q3]at hm;cases hm
  ·rw[q3]at hm;exact⟨id,SJ q1,g,r,n,t,f,base,q2,hm⟩
 have Ll:∀{pv:PV} {sz n:Nat} {e:TypeId} {f:Nat->List PV} {F:Nat->Prop},Fz h η k pv (.aG sz n e f F)->pv=.aG sz n e f F\/(pv=.aD/\n=0/\∀b,¬F b):=λN=>by
  cases N with
  | aG=>exact .inl rfl
  | pK=>exact .inr ⟨rfl,rfl,λ_ h=>h⟩
 have I:∀a i j b,bN η a i j b->∃id,k[a]? =some id/\bN h id i j b/\∃g sz n e f,η[a]? =some (au.row g sz n e f):=λa i j b ⟨A,r,l,t,v,O,P,B,J,F2,q1,q2,q3,q4⟩=>by
  rcases back a A r l t v q1 with⟨s,_⟩ | ⟨id,g,f,s,⟨n,d,hle,_⟩,G,T⟩
  ·omega
  ·obtain⟨V,K⟩:=T i q2;have W:j<(f i).length:=by rw[<-V];exact(an.1 q3).1
   have L:=As W;rcases Ll (K j _ _ L q3)with this | ⟨_,_,this⟩
   ·exact⟨id,s,⟨g,r,n,t,f,_,_,_,_,_,d,by omega,by rw[L,this],q4⟩,_,_,_,_,_,q1⟩
   ·exact absurd q4 (this b)
 have X:∀b,bA (fN μ h k) η b->bA μ h b:=λb hb=>by
  rcases hb with hb | ⟨x,y,z,hb⟩
  ·obtain⟨id,_,g,sz,n,e,f,base,q2,hm⟩:=U b hb;exact .inl ⟨id,g,sz,n,e,f,base,q2,hm⟩
  ·obtain⟨id,_,q,_⟩:=I x y z b hb;exact UM
 have hs:∀b,sT μ h k S b->S b\/bA μ h b:=λb hb=>by
  rcases hb with hb | ⟨id,g,sz,n,e,f,base,_,h1,h2 | ⟨i,j,h2⟩⟩
  ·exact .inl hb
  ·exact .inr (.inl ⟨id,g,sz,n,e,f,base,h1,h2⟩)
  ·exact .inr (.inr ⟨_,_,_,h2⟩)
 refine⟨⟨λa A r l t v hη=>?_,?_⟩,X,hs⟩
 ·rcases back a A r l t v hη with⟨rfl,q3⟩ | ⟨id,g,f,q1,⟨n,q2,hle,Y⟩,q3,q4⟩
  ·exact⟨λi hi=>absurd hi (S6 _),by rw[q3]⟩
  obtain⟨s,d⟩:=hc.heap id g r n t f q2;refine⟨λi hi=>(q4 i hi).1.trans (s i (SH hi hle)),?_⟩;rw[q3];cases hm:μ id with
  | none=>rw[hm]at d;have d:n=0:=d;show l=0;omega
  | some p=>
   obtain⟨b,base⟩:=p;rw[hm]at d;obtain⟨o,V,K⟩:=d;refine⟨o,V,?_⟩;cases o with
   | cells cur B z=>
    obtain⟨Z,x2,x3,Q⟩:=K;refine⟨Z,x2,S4 (Nat.add_le_add_left (SC _ hle) _) x3,λi j D hi hj=>?_⟩;have W:j<(f i).length:=by rw[<-(q4 i hi).1];exact(an.1 hj).1
    have L:=As W;obtain⟨u,t1,C⟩:=Q i j _ (SH hi hle) L;have N:=(q4 i hi).2 j _ D L hj;refine⟨u,t1,?_⟩;cases hx:cg D with
    | false=>exact bf.k ((lx hc hh N).1 u C.c) hx
    | true=>
     cases D with
     | aG O P B J F2=>
      rcases Ll N with hq | ⟨hq,rfl,hF⟩
      ·rw[hq]at C;exact fK.mono (λ_ _=>rfl) (λb hb=>.inl hb) (show fK S w (.aG O P B J F2) u from C) (λ_ _ _ _ _ _ _ _=>rfl)
      ·rw[hq]at C;have C:aI S w .aD u:=C;cases C;exact fK.nil _ _ _ _ hF
     | _=>cases hx
   | map es c=>
    obtain⟨Z,Q⟩:=K
    have hn:l=n:=by
     rcases Y with h0 | h0
     ·exact h0
     ·rcases Ta n with h1 | h1
      ·omega
      ·obtain⟨kp,vp,en,y1,_⟩:=Q 0 h1;have:=s 0 h1;rw[y1]at this;exact absurd this.symm h0
    subst hn;refine⟨Z,λi hi=>?_⟩;obtain⟨kp,vp,en,y1,y2,y3,y4,y5,y6⟩:=Q i hi;obtain⟨z1,R⟩:=q4 i hi;rw[y1]at z1 R;generalize rF:v i=l' at z1 R ⊢;rcases l' with _ | ⟨IY,_ | ⟨IZ,_ | ⟨c3,l3⟩⟩⟩<;>simp at z1;have w1:=yV (R 0 kp IY rfl rfl) y2;have w2:=yV (R 1 vp IZ rfl rfl) y3;exact⟨IY,IZ,en,rfl,w1.1,w2.1,y4,w1.2 _ y5,w2.2 _ y6⟩
   | _=>exact K.elim
 ·refine⟨λb hb Pk=>?_,λb hb=>hc.ok.lt b (X b hb),λb hb=>?_,?_,hc.ok.known.fG (λ_ _=>rfl) (λ_ hb=>.inl hb),λb hb x y z hx=>?_,λb i x y j x' y' hx jb=>?_⟩;rotate_right 2
  ·obtain⟨id,_,g,sz,n,e,f,base,q2,hm⟩:=U b hb;obtain⟨H,_,q,_⟩:=I x y z b hx;exact hc.ok.hv b ⟨id,g,sz,n,e,f,base,q2,hm⟩ _ _ _ q
  ·obtain⟨I5,k1,q1,_,_,_,_,_,s⟩:=I i x y b hx;obtain⟨H,k2,q2,_,_,_,_,_,d⟩:=I j x' y' b jb;obtain⟨e1,B,e3⟩:=hc.ok.hh b _ _ _ _ _ _ q1 q2;subst e1;exact⟨lN hk s k1 d k2,B,e3⟩
  ·rcases Pk with Pk | ⟨H,g2,O,P,B,J,Lm,M,h1,h2⟩
   ·exact hc.ok.apart b (X b hb) Pk
   ·rcases hb with hb | ⟨x,y,z,hb⟩
    ·obtain⟨id,Kx,g,sz,n,e,f,base,q2,hm⟩:=U b hb;rcases h2 with h2 | ⟨i,j,h2⟩
     ·have:=hc.ok.inj id H _ _ _ _ _ _ _ _ _ _ _ _ _ q2 h1 hm h2;subst this;exact M Kx
     ·exact hc.ok.hv b ⟨id,g,sz,n,e,f,base,q2,hm⟩ _ _ _ h2
    ·obtain⟨id,Kx,q,_⟩:=I x y z b hb;rcases h2 with h2 | ⟨i,j,h2⟩
     ·exact hc.ok.hv b ⟨H,g2,O,P,B,J,Lm,h1,h2⟩ _ _ _ q
     ·obtain⟨e1,_,_⟩:=hc.ok.hh b _ _ _ _ _ _ q h2;subst e1;exact M (SJ Kx)
  ·rcases hs b hb with h1 | h1
   ·exact hc.ok.slt b h1
   ·exact hc.ok.lt b h1
  ·intro i j gi xo ni ei fi gj dQ nj ej fj b o o' hi hj eY eN;rcases back i gi xo ni ei fi hi with⟨_,q3⟩ | ⟨I5,g1,f1,q1,⟨Ss,q2,_⟩,q3,_⟩
   ·rw[q3]at eY;cases eY
   rcases back j gj dQ nj ej fj hj with⟨_,G⟩ | ⟨H,g2,J,s,⟨St,d,_⟩,G,_⟩
   ·rw[G]at eN;cases eN
   rw[q3]at eY;rw[G]at eN;have:=hc.ok.inj I5 H _ _ _ _ _ _ _ _ _ _ _ _ _ q2 d eY eN;subst this;exact lN hk hi q1 hj s
structure Start where
 μ:Mu
 h:List au
 S:Nat->Prop
 w:World
 nt:Nat
theorem FN {C:Start} (hc:Core μ h S w) (hf:Fr C.μ C.h C.S C.w μ h S w) (hh:iW h η k C.h.length 0 η k) (hk:ig (hI η k)=true) (hm:C.h.length<=k.length):
  Fr C.μ C.h C.S C.w (fN μ h k) η (sT μ h k S) w:=by
 obtain⟨hlen,bG⟩:=gP η k 0 hh;obtain⟨_,B,hs⟩:=nW hc hh hk
 have idx:∀id,id<C.h.length->∃o a,η[id]? =some o/\k[id]? =some a/\mT h η k C.h.length o id a:=λid hid=>by
  have u:id<η.length:=by omega
  obtain⟨a,i,d⟩:=bG id _ (As u);rw[Sx]at d;exact⟨_,a,As u,i,d⟩
 refine⟨by omega,hf.blocks,λb hb=>.inl (hf.sub b hb),λb hb=>?_,λb hb=>hf.own b (B b hb),hf.size,hf.os,hf.tape,hf.output,λid l m p q r h0=>?_,λid h0=>?_,hf.bC,λid l m p q r b base h0 D fe=>?_,hf.me⟩;rotate_right
 ·have hid:id<C.h.length:=(an.1 h0).1;obtain⟨o,a,q1,q2,q3⟩:=idx id hid;obtain⟨i,d⟩:=hf.maps id l m p q r b base h0 D fe;refine⟨i,?_⟩;rw[q1];unfold mT at q3;cases o with
  | dead=>exact .inl rfl
  | row v x y z A=>
   cases c:h[a]? with
   | none=>rw[c]at q3;exact absurd q3.1 UN
   | some j=>
    cases j with
    | dead=>rw[c]at q3;exact q3.elim
    | row g sz n e f=>
     rw[c]at q3;obtain⟨s,rfl,t,rfl,_⟩:=q3;obtain⟨rfl,rfl⟩:=s hid;obtain rfl:=t.resolve_right (λhx=>absurd hx.1 UN);rw[c]at d;rcases d with d | ⟨_,E⟩
     ·cases d
     ·exact .inr ⟨⟨_,_,_,_,_,rfl⟩,(ku q2 c).trans E⟩
 ·rcases hs b hb with h1 | h1
  ·exact hf.new b h1
  ·rcases hf.own b h1 with h2 | h2
   ·exact .inr (.inl h2)
   ·exact .inr (.inr h2)
 ·have hid:id<C.h.length:=(an.1 h0).1;obtain⟨o,a,q1,q2,q3⟩:=idx id hid;have hg:=hf.qE id l m p q r h0;rw[q1];unfold mT at q3;cases o with
  | dead=>trivial
  | row v x y z A=>
   cases c:h[a]? with
   | none=>rw[c]at q3;exact absurd q3.1 UN
   | some j=>
    cases j with
    | dead=>rw[c]at q3;exact q3.elim
    | row g sz n e f=>
     rw[c]at q3;obtain⟨i,rfl,d,rfl,_⟩:=q3;obtain⟨rfl,rfl⟩:=i hid;obtain rfl:=d.resolve_right (λhx=>absurd hx.1 UN);rw[c]at hg;refine⟨hg.1,λhe=>?_⟩;obtain⟨s,t,F,G⟩:=hg.2 he;exact⟨by rw[ku q2 c];exact s,t,F,G⟩
 ·have hid:id<C.h.length:=(an.1 h0).1;obtain⟨o,a,q1,q2,q3⟩:=idx id hid;have hd:=hf.dead id h0;rw[q1];unfold mT at q3;cases o with
  | dead=>rfl
  | row v x y z A=>
   cases c:h[a]? with
   | none=>rw[c]at q3;exact absurd q3.1 UN
   | some j=>
    cases j with
    | dead=>rw[c]at q3;exact q3.elim
    | row g sz n e f=>
     rw[c]at q3;obtain⟨rfl,rfl⟩:=q3.1 hid;rw[c]at hd;cases hd
structure gz (C:Start) (μ:Mu) (h:List au) (S:Nat->Prop) (env:Env) (a:Act) (w:World):Prop where
 core:Core μ h S w
 fr:Fr C.μ C.h C.S C.w μ h S w
 tmps:∀t,aX μ h S w (env t) (a.tmps.getD t undef)
 size:a.tmps.size=C.nt
 I6:∀t,C.nt<=t->env t=.dA
 defers:a.defers=[]
variable {C:Start}{env:Env}{a:Act}
theorem qZ (env:Env) (t:Nat) (v:PV):jh env t v t=v:=by simp [jh]
theorem uu (env:Env) {t j:Nat} (v:PV) (hj:j≠t):jh env t v j=env j:=by
 unfold jh
 have:Nat.beq j t=false:=by
  cases hb:Nat.beq j t with
  | true=>exact(hj (No hb)).elim
  | false=>rfl
 rw[this];rfl
def gA (nt:Nat) (o:Oper):Bool:=match o.dst with | some t=>Nat.blt t nt | none=>true
theorem gz.put (hs:gz C μ h S env a w) {μ':Mu} {h':List au} {S':Nat->Prop} {w':World} (hf:Fr μ h S w μ' h' S' w') (hc:Core μ' h' S' w') {dst:Option Nat} {v:PV} {val:Value} (hv:aX μ' h' S' w' v val)
  (hd:∀t,dst=some t->t<C.nt):gz C μ' h' S' (bV env dst v) (a.put dst val) w':=by
 refine⟨hc,hs.fr.trans hf,λt=>?_,?_,λt c=>?_,?_⟩
 ·cases dst with
  | none=>exact(hs.tmps t).fr hf hs.core.ok
  | some d=>
   have e:=hd d rfl;by_cases b:t=d
   ·subst b;show aX μ' h' S' w' (jh env t v t) _;rw[qZ]
    have:((a.put (some t) val).tmps).getD t undef=val:=by
     have f:t<a.tmps.size:=by rw[hs.size];exact e
     simp [Act.put,f]
    rw[this];exact hv
   ·show aX μ' h' S' w' (jh env d v t) _;rw[uu env v b]
    have:((a.put (some d) val).tmps).getD t undef=a.tmps.getD t undef:=by
     simp [Act.put,TU (Tl b)]
    rw[this];exact(hs.tmps t).fr hf hs.core.ok
 ·cases dst with
  | none=>exact hs.size
  | some d=>simp [Act.put,hs.size]
 ·cases dst with
  | none=>exact hs.I6 t c
  | some d=>
   have e:=hd d rfl;show jh env d v t=_;rw[uu env v UN];exact hs.I6 t c
 ·cases dst with
  | none=>exact hs.defers
  | some d=>exact hs.defers
theorem gz.re (hs:gz C μ h S env a w) {t:Nat} {b:Bool} (he:env t=.bool b):gz C μ h S (jh env t (.bool b)) a w:=by
 have:jh env t (.bool b)=env:=by
  funext j;by_cases hj:j=t
  ·subst hj;rw[qZ,he]
  ·rw[uu env _ hj]
 rw[this];exact hs
def oT (C:Start) (Q:XQ):Exit->Act->World->Prop:=λe a w=>∃μ h S env,gz C μ h S env a w/\Q e env h
theorem mF (hs:gz C μ h S env a w) {ops:Array Oper} {j t:Nat} {b:Bool} (hj:(ops.toList[j]?).bind (·.dst)=some t) (he:env t=.bool b):yielded ops a.tmps j=some b:=by
 have hv:=hs.tmps t;rw[he]at hv;have hv:=hv.gn
 have c:t<a.tmps.size:=by
  rcases S5 t a.tmps.size with h1 | h1
  ·exact h1
  ·rw[hs.I6 t (by rw[<-hs.size];exact h1)]at he;cases he
 unfold yielded;rw[SQ]at hj;rw[hj];simp only[T4]
 have:a.tmps[t]? =some (.bool b):=by
  rw[SO c];simp [c]at hv;rw[hv]
 rw[this]
theorem mG:aX μ h S w (.db []) undef:=⟨#[],rfl,rfl,λj pv hj=>by simp at hj⟩
theorem kx (hs:gz C μ h S env a w) {ops:Array Oper} {j t:Nat} (hj:(ops.toList[j]?).bind (·.dst)=some t) (he:env t=.db []):yielded ops a.tmps j=none:=by
 have hv:=hs.tmps t;rw[he]at hv;obtain⟨vs,hv,_⟩:=hv;unfold yielded;rw[SQ]at hj;rw[hj];simp only[T4];rcases S5 t a.tmps.size with h1 | h1
 ·have:a.tmps[t]? =some (.tuple vs):=by
   rw[SO h1];simp [h1]at hv;rw[hv]
  rw[this]
 ·rw[Array.getElem?_eq_none h1]
theorem mH {K:Env->List au->Prop} (all:List Oper) (o:Oper) (rest:List Oper) (env:Env) (h:List au) {j:Nat} {want:Bool} (hg:o.guard=some (j,want)):
  jY P T all K (o::rest) env h=(match(all[j]?).bind (·.dst)with
     | some t=>match env t with
      | .bool b=>cw b
        (match(generalizing:=false) want with
         | true=>pop P T o.op (jh env t (.bool true)) h (λv h'=>jY P T all K rest (bV (jh env t (.bool true)) o.dst v) h')
         | false=>jY P T all K rest (bV (jh env t (.bool true)) o.dst (.db [])) h)
        (match(generalizing:=false) want with
         | true=>jY P T all K rest (bV (jh env t (.bool false)) o.dst (.db [])) h
         | false=>pop P T o.op (jh env t (.bool false)) h (λv h'=>jY P T all K rest (bV (jh env t (.bool false)) o.dst v) h'))
      | .db []=>jY P T all K rest (bV env o.dst (.db [])) h
      | _=>False
     | none=>False):=by
 obtain⟨dst,op,ty,pos,after,guard⟩:=o;have hg:guard=some (j,want):=hg;rw[hg];rfl
theorem mI (d:bR P T) (ops:Array Oper) {K:Env->List au->Prop} {Q:Exit->Act->World->Prop} (e:∀env h a w μ S,K env h->gz C μ h S env a w->Q .normal a w):
  ∀(l:List Oper) (env:Env) (h:List au) (a:Act) (w:World) (μ:Mu) (S:Nat->Prop),jY P T ops.toList K l env h->(∀o∈l,gA C.nt o=true)->gz C μ h S env a w->wpList P ops Q l a w
 | [],env,h,a,w,μ,S,hp,_,hs=>e env h a w μ S hp hs
 | o::rest,env,h,a,w,μ,S,hp,hd,hs=>by
  have i:∀t,o.dst=some t->t<C.nt:=λt f=>by
   have:=hd o UQ;unfold gA at this;rw[f]at this;simpa using this
  have k:∀o∈rest,gA C.nt o=true:=λo m=>hd o (by simp [m])
  have run:∀env',gz C μ h S env' a w->pop P T o.op env' h (λv h'=>jY P T ops.toList K rest (bV env' o.dst v) h')->o.wp P a w (wpList P ops Q rest) Q:=λenv' c g=>by
   obtain⟨dst,op,ty,pos,after,guard⟩:=o;refine sR (env:=env') d c.core c.tmps g _ _ λv val h' μ' S' w' n hv hc hf=>?_;exact mI d ops e rest _ h' _ w' μ' S' n k (c.put hf hc hv i)
  have skip:∀env',gz C μ h S env' a w->jY P T ops.toList K rest (bV env' o.dst (.db [])) h->wpList P ops Q rest (a.put o.dst undef) w:=λenv' c g=>
   mI d ops e rest _ h _ w μ S g k (c.put Fr.refl c.core mG i)
  unfold wpList;cases hg:o.guard with
  | none=>
   have hp:pop P T o.op env h (λv h'=>jY P T ops.toList K rest (bV env o.dst v) h'):=by
    exact Ua
   rw[An (by simp [Region.wanted,hg])];exact .inl (run env hs hp)
  | some p=>
   obtain⟨j,want⟩:=p;rw[mH ops.toList o rest env h hg]at hp;split at hp
   ·rename_i t hj;split at hp
    ·rename_i b he;have hy:=mF hs hj he;obtain⟨f,hf⟩:=eM hp;have c:=hs.re he;cases b with
     | true=>
      have hp:=f rfl;cases want with
      | true=>rw[An UU];exact .inl (run _ c hp)
      | false=>rw[Is UU];exact skip _ c hp
     | false=>
      have hp:=hf rfl;cases want with
      | true=>rw[Is UU];exact skip _ c hp
      | false=>rw[An UU];exact .inl (run _ c hp)
    ·rename_i he;rw[Is U6];exact skip _ hs hp
    ·exact Uq
   ·exact Uq
end
end Go.Am
