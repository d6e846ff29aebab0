/- Texts of the proof, joined and shortened. -/
import Derived.Test.YtgakkhamfiegbaaGreatDoorPk1
import Derived.MapKept
import Derived.Lib.ConvBytes
import Derived.Lib.AtoiErrMem
import Derived.Deep.LoopGhost
set_option linter.unusedVariables false
set_option linter.unusedSimpArgs false
namespace Go.Am
open Go Go.RowKit
section
variable {P:Program}{T:sI}{μ:Mu}{h:List ar}{S:Nat->Prop}{w:World}
theorem mq (t tx ty e:TypeId) (i:TypeInfo) (d:TypeDesc) (k:P.underlying t=some (.slice e)) (l:P.underlying tx=some d) (hd:(∃n,d=.slice n)\/d=.string) (hi:P.info? e=some i)
  (g:Option Addr) (c h:Nat) (j:Value) (m:Nat) (news:Array Value) (w':World) (hlen:(Builtin.lenOf j).run P w=.ok m w) (f:(Builtin.firstCells i.size m j).run P w=.ok news w) (o:c+m<=h)
  (b:match g with | some a=>(storeCells (a.add (c*i.size)) news.toList).run P w=.ok () w' | none=>w'=w):
  (Builtin.append_ #[t,tx] ty #[.slice g c h,j]).run P w=.ok (.slice g (c+m) h) w':=by
 rcases hd with⟨n,rfl⟩ | rfl<;>cases g with
 | none=>
  have b:w'=w:=b;subst b;simp [Builtin.append_,run_underlying k,run_underlying l,sizeOf,typeInfo,hi,hlen,o,f]
 | some a=>
  have b:(storeCells (a.add (c*i.size)) news.toList).run P w=.ok () w':=b;simp [Builtin.append_,run_underlying k,run_underlying l,sizeOf,typeInfo,hi,hlen,o,f,b]
theorem rL (t tx ty e:TypeId) (i:TypeInfo) (z:Value) (d:TypeDesc) (o:P.underlying t=some (.slice e)) (p:P.underlying tx=some d) (hd:(∃k,d=.slice k)\/d=.string) (hi:P.info? e=some i) (q:i.zero=some z)
  (l:Option Addr) (a b:Nat) (c:Value) (m:Nat) (n news:Array Value) (hlen:(Builtin.lenOf c).run P w=.ok m w) (r:(Builtin.firstCells i.size a (.slice l a b)).run P w.drew=.ok n w.drew)
  (f:(Builtin.firstCells i.size m c).run P w.drew=.ok news w.drew) (hg:b<a+m) (g:0<i.bytes) (s:(a+m)*i.bytes<=140737488355328):
  (Builtin.append_ #[t,tx] ty #[.slice l a b,c]).run P w=.ok (.slice (some ⟨w.heap.size,0,none⟩) (a+m) (grownCap w (a+m) b e))
   (w.drew.alloc (.cells (n++news++Builtin.zeroCells z.cells (grownCap w (a+m) b e - (a+m))) e)):=by
 have u:¬(a+m<=b):=by omega
 have hle:a+m<=(a+m)*i.bytes:=Nat.le_mul_of_pos_right _ g;have h:¬(9223372036854775807<((a:Int)+(m:Int))):=by omega
 have v:=growslice_fits hg s;have j:¬(281474976710656<Builtin.nextslicecap (a+m) b*i.bytes):=by omega
 rcases hd with⟨k,rfl⟩ | rfl<;>
  simp [Builtin.append_,run_underlying o,run_underlying p,sizeOf,typeInfo,zeroValue,hi,q,hlen,u,h,j,Question.forced,f,r,newRow,grownCap]
theorem Lb (b off m sz:Nat) (k:0<sz) (g:Nat->List PV) (hl:∀i,i<m->(g i).length=sz)
  (n:∀(i j:Nat) (pv:PV),i<m->(g i)[j]? =some pv->∃u,w.cell? ⟨b,off+i*sz+j,none⟩=some u/\rH μ h S w pv u):
  ∃news:Array Value,news.size=m*sz/\(∀(i j:Nat) (pv:PV),i<m->(g i)[j]? =some pv->∃u,news[i*sz+j]? =some u/\rH μ h S w pv u)/\
   (∀u∈news.toList,u.oneCell'=true)/\∀w',da w w'->(loadCells ⟨b,off,none⟩ (m*sz)).run P w'=.ok news w':=by
 let F:Nat->Value:=λq=>(w.cell? ⟨b,off+q,none⟩).getD undef
 have f:∀(i j:Nat) (pv:PV),i<m->(g i)[j]? =some pv->w.cell? ⟨b,off+(i*sz+j),none⟩=some (F (i*sz+j))/\rH μ h S w pv (F (i*sz+j)):=λi j pv hi hj=>by
  obtain⟨u,h1,h2⟩:=n i j pv hi hj;have e:off+(i*sz+j)=off+i*sz+j:=by omega
  have e2:F (i*sz+j)=u:=by
   show(w.cell? ⟨b,off+(i*sz+j),none⟩).getD undef=u;rw[e,h1];rfl
  rw[e2,e];exact⟨h1,h2⟩
 have d:∀q,q<m*sz->∃pv,q / sz<m/\(g (q / sz))[q % sz]? =some pv:=λq d=>by
  have h1:q / sz<m:=(Nat.div_lt_iff_lt_mul k).2 d;have h2:q % sz<(g (q / sz)).length:=by rw[hl _ h1];exact Nat.mod_lt _ k
  exact⟨_,h1,No h2⟩
 have l:∀q,q / sz*sz+q % sz=q:=λq=>by rw[Nat.mul_comm];exact Nat.div_add_mod q sz
 refine⟨((List.range (m*sz)).map F).toArray,by simp,λi j pv hi hj=>?_,λu hu=>?_,λw' o=>?_⟩
 ·have r:j<sz:=by rw[<-hl i hi];exact(An.1 hj).1
  have p:i*sz+j<m*sz:=by
   have:(i+1)*sz<=m*sz:=agb _ hi;rw[aga]at this;omega
  exact⟨F (i*sz+j),by simp [p],(f i j pv hi hj).2⟩
 ·simp only[ags,ahC]at hu;obtain⟨q,a,rfl⟩:=hu;obtain⟨pv,h1,h2⟩:=d q a;have:=(f _ _ pv h1 h2).2.c.one
  rwa [l]at this
 ·refine run_loadCells w' ⟨b,off,none⟩ (m*sz) F λq a=>?_;obtain⟨pv,h1,h2⟩:=d q a;have:=(f _ _ pv h1 h2).1;rw[l]at this;rw[Addr.add_lit];exact o.cell this
theorem Oy:∀{l:List PV},noO l=true->∀{j:Nat} {pv:PV},l[j]? =some pv->dM pv=false
 | [],_,j,pv,hj=>by simp at hj
 | c::r,h,0,pv,hj=>by
  simp at hj;subst hj;cases c<;>first | rfl | cases h
 | c::r,h,j+1,pv,hj=>Oy (l:=r) (by cases c<;>first | exact h | cases h) ajy
def Src (P:Program) (μ:Mu) (h:List ar) (S:Nat->Prop) (w:World) (a:Value) (sz m:Nat) (g:Nat->List PV):Prop:=
 (∀i,i<m->(g i).length=sz)/\∃news:Array Value,news.size=m*sz/\(∀(i j:Nat) (pv:PV),i<m->(g i)[j]? =some pv->∃u,news[i*sz+j]? =some u/\rH μ h S w pv u)/\
  (∀u∈news.toList,u.oneCell'=true)/\∀w',da w w'->(Builtin.lenOf a).run P w'=.ok m w'/\(Builtin.firstCells sz m a).run P w'=.ok news w'
theorem Src.empty (b:Value) (sz:Nat) (g:Nat->List PV) (d:∃a c,b=.slice a 0 c):Src P μ h S w b sz 0 g:=by
 obtain⟨a,c,rfl⟩:=d;refine⟨λi hi=>absurd hi ajo,#[],by simp,λi j pv hi=>absurd hi ajo,λu hu=>by simp at hu,λw' _=>⟨rfl,?_⟩⟩;cases a with
 | none=>rfl
 | some a=>simp [Builtin.firstCells,loadCells,loadCellsFrom]
theorem sH (hc:Core μ h S w) (id g off len sz n:Nat) (e:TypeId) (f:Nat->List PV) (hh:h[id]? =some (ar.row g sz n e f)) (v:Value) (hv:cw μ h S w (.own id g off len) v) (l:0<sz):Src P μ h S w v sz len (λi=>f (off+i)):=by
 have a:=hv.sd;unfold cf at a;rw[hh]at a;obtain⟨_,_,a⟩:=a;obtain⟨hle,a⟩:=a rfl;obtain⟨hl,c⟩:=hc.heap id g sz n e f hh;cases k:μ id with
 | none=>
  rw[k]at a c;have t:n=0:=c;have h0:len=0:=by omega
  subst h0;exact Src.empty v sz _ ⟨_,_,a⟩
 | some p=>
  obtain⟨b,base⟩:=p;rw[k]at a c;obtain⟨x,cap,hv,y,d,m⟩:=a;obtain⟨cur,o,z,q⟩:=cW.cells m c;rcases agO len with h0 | h0
  ·subst h0;exact Src.empty v sz _ ⟨_,_,hv⟩
  ·have d:=d ajo;subst d
   obtain⟨news,q1,q2,q3,q4⟩:=Lb (P:=P) (μ:=μ) (h:=h) (S:=S) (w:=w) b (base+off*sz) len sz l (λi=>f (off+i)) (λi hi=>hl _ ajo) (λi j pv hi hj=>by
    obtain⟨u,r1,r⟩:=q (off+i) j pv ajo hj;refine⟨u,?_,r⟩;rw[cell_of_row w b _ cur e (0,0) o,<-r1];congr 1;rw[aga];omega)
   exact⟨λi hi=>hl _ ajo,news,q1,q2,q3,λw' s=>⟨by rw[hv];rfl,by rw[hv];exact q4 w' s⟩⟩
theorem GA (hc:Core μ h S w) (x:PV) (o:Value) (d:cw μ h S w x o) (sz:Nat) (q:0<sz) (K:Nat->(Nat->List PV)->Prop) (hp:Nn x h sz K):∃m g,K m g/\Src P μ h S w o sz m g/\∀(i j:Nat) (pv:PV),i<m->(g i)[j]? =some pv->dM pv=false:=by
 unfold Nn at hp;split at hp
 ·exact⟨_,_,hp,Src.empty _ _ _ ⟨_,_,d.tj⟩,λi j pv hi=>absurd hi (agz _)⟩
 ·rename_i r m g;replace hp:=ck hp;obtain⟨l,hp⟩:=hp;obtain rfl:=afM l;refine⟨m,g,hp,?_⟩;rcases d.xz with⟨a,c,ex,rfl⟩ | ⟨b,off,c,B,ex,C,hl,t,v,p⟩
  ·exact⟨Src.empty _ _ _ ⟨_,_,ex⟩,λi j pv hi=>absurd hi (agz _)⟩
  ·obtain⟨news,q1,q2,q3,q4⟩:=Lb (P:=P) (μ:=μ) (h:=h) (S:=S) (w:=w) b off m sz q g hl (λi j pv hi hj=>⟨_,v i j pv hi hj,(cD.my (p i j pv hi hj)).k (bz.no (p i j pv hi hj))⟩);exact⟨⟨hl,news,q1,q2,q3,λw' y=>⟨by rw[ex];rfl,by rw[ex];exact q4 w' y⟩⟩,λi j pv hi hj=>bz.no (p i j pv hi hj)⟩
 ·rename_i id gen off m;split at hp
  ·rename_i g r n e f hg;obtain⟨rfl,z,hp⟩:=hp;replace hp:=ck hp;obtain⟨l,hp⟩:=hp;obtain rfl:=afM l;exact⟨m,_,hp,sH hc id g off m sz n e f (ep hg) o d q,λi j pv hi hj=>Oy (z i hi) hj⟩
  ·exact aiI
 ·rename_i s;replace hp:=ck hp;obtain⟨l,hp⟩:=hp;obtain rfl:=afM l;refine⟨_,_,hp,⟨λi hi=>rfl,(s.map λb=>Value.int .u8 b.toNat).toArray,by simp,λi j pv hi hj=>?_,λu hu=>?_,λw' _=>⟨by rw[d.pF];rfl,?_⟩⟩,λi j pv hi hj=>?_⟩
  ·cases j with
   | zero=>
    simp at hj;subst hj;refine⟨.int .u8 (s.getD i 0).toNat,?_,bz.int _ _⟩;rw[afP,No hi];simp [hi]
   | succ j=>simp at hj
  ·simp at hu;obtain⟨b,_,rfl⟩:=hu;rfl
  ·rw[d.pF];have A:(ByteArray.mk ⟨s⟩).extract 0 s.length=ByteArray.mk ⟨s⟩:=by rw[Bl];simp
   simp only[Builtin.firstCells,A];simp
  ·cases j with
   | zero=>simp at hj;subst hj;rfl
   | succ j=>simp at hj
 ·exact aiI
end
section
variable {P:Program}{T:sI}{μ:Mu}{h:List ar}{S:Nat->Prop}{w w1:World}
theorem PW (hc:Core μ h S w) (a g sz n:Nat) (e:TypeId) (f:Nat->List PV) (hh:h[a]? =some (ar.row g sz n e f)):Fr μ h S w μ (h.set a .dead) S w/\Core μ (h.set a .dead) S w:=by
 have hid:a<h.length:=(An.1 hh).1;have v:(h.set a ar.dead)[a]? =some ar.dead:=by simp [hid]
 have q:∀j,j≠a->(h.set a ar.dead)[j]? =h[j]?:=λj hj=>by rw[agi (agX hj)]
 have s:∀{j c d k l m},(h.set a ar.dead)[j]? =some (ar.row c d k l m)->j≠a:=λhj t=>by subst t;rw[v]at hj;cases hj
 have C:∀b,Dw μ (h.set a ar.dead) b->Dw μ h b:=λb ⟨j,c,d,k,l,m,E,hj,hm⟩=>by
  rw[q j (s hj)]at hj;exact⟨j,c,d,k,l,m,E,hj,hm⟩
 have u:∀j x y b,dD (h.set a ar.dead) j x y b->dD h j x y b:=λj x y b ⟨c,d,k,l,m,H,I,J,K,L,q1,q2,q3,q4⟩=>by
  rw[q j (s q1)]at q1;exact⟨_,_,_,_,_,_,_,_,_,_,q1,q2,q3,q4⟩
 have A:∀b,dc μ (h.set a ar.dead) b->dc μ h b:=λb hb=>by
  rcases hb with hb | ⟨x,y,z,hb⟩
  ·exact .inl (C b hb)
  ·exact .inr ⟨x,y,z,u _ _ _ _ hb⟩
 have D:Fr μ h S w μ (h.set a .dead) S w:=by
  refine⟨by simp,λ_ _ _=>rfl,λ_ hb=>hb,λ_ hb=>.inl hb,λb hb=>.inl (A b hb),abF _,rfl,rfl,rfl,λj c d k l m hj=>?_,λj hj=>?_,λ_ _ _ F=>F,λj c d k l m b base hj hm B=>⟨B,?_⟩,λ_ _ _ _ _ B=>B⟩
  ·by_cases r:j=a
   ·subst r;rw[v];trivial
   ·rw[q j r,hj];exact⟨abF _,λ_=>⟨rfl,rfl,rfl,rfl⟩⟩
  ·have r:j≠a:=by rintro rfl;rw[hh]at hj;cases hj
   rw[q j r];exact hj
  ·by_cases r:j=a
   ·subst r;exact .inl v
   ·exact .inr ⟨⟨_,_,_,_,_,(q j r).trans hj⟩,hm⟩
 refine⟨D,⟨λj c d k l m hj=>?_,⟨λb hb=>hc.ok.apart b (A b hb),λb hb=>hc.ok.lt b (A b hb),hc.ok.slt,?_,hc.ok.known,λb hb x y z t=>hc.ok.hv b (C b hb) x y z (u _ _ _ _ t),λb _ _ _ _ _ _ t hy=>hc.ok.hh b _ _ _ _ _ _ (u _ _ _ _ t) (u _ _ _ _ hy)⟩⟩⟩
 ·rw[q j (s hj)]at hj;obtain⟨h1,h2⟩:=hc.heap j c d k l m hj;refine⟨h1,?_⟩;cases hm:μ j with
  | none=>rw[hm]at h2;exact h2
  | some p=>
   obtain⟨b,base⟩:=p;rw[hm]at h2;obtain⟨o,q1,q2⟩:=h2;exact⟨o,q1,q2.mono (λ_ _ _ _ _ _ G=>G.fr D hc.ok (λ_ _ _ _ _ _ _ _=>rfl))⟩
 ·intro i j M N O P Q c d k l m b o R hi hj qe oP;rw[q i (s hi)]at hi;rw[q j (s hj)]at hj;exact aja
theorem GB (hc:Core μ h S w) (id d:Nat) (rN:d≠id) (g2 qs n2:Nat) (e2:TypeId) (f2:Nat->List PV) (Lc:h[d]? =some (ar.row g2 qs n2 e2 f2)) (N:Nat) (g D sz n m:Nat) (e:TypeId) (f s:Nat->List PV) (hh:h[id]? =some (ar.row g sz n e f)) (l P:Nat) (Q:Array Value)
  (hg:g<=D) (aa:D=g->μ id=some (l,P)/\m=n)
  (hb:w.heap.size<=l\/∃base cur,μ id=some (l,base)/\w.heap[l]? =some (.cells cur e (0,0))/\cur.size=Q.size)
  (hw:w1.heap[l]? =some (.cells Q e (0,0))) (xU:P+m*sz<=Q.size)
  (K:∀b,b<w.heap.size->b≠l->w1.heap[b]? =w.heap[b]?) (wg:w.heap.size<=w1.heap.size) (ad:w1.os=w.os) (J5:w1.tape=w.tape) (MF:w1.output=w.output)
  (hl:∀i,i<m->(s i).length=sz) (RI:∀b base,μ id=some (b,base)->¬uE w b)
  (bQ:∀(i j:Nat) (pv:PV),i<m->(s i)[j]? =some pv->∃v:Value,Q[P+i*sz+j]? =some v/\rH μ h S w pv v) (J6 yO:Nat)
  (wW:∀(i j R T:Nat) (O:TypeId) (U:Nat->List PV) (V:Nat->Prop),i<m->(s i)[j]? =some (.aV R T O U V)->(i<N/\J6+i<n/\(f (J6+i))[j]? =some (.aV R T O U V))\/(N<=i/\yO+(i - N)<n2/\(f2 (yO+(i - N)))[j]? =some (.aV R T O U V))):
  Fr μ h S w (qm μ id (some (l,P))) ((h.set id (.row D sz m e s)).set d .dead) S w1/\Core (qm μ id (some (l,P))) ((h.set id (.row D sz m e s)).set d .dead) S w1:=by
 have hid:id<h.length:=(An.1 hh).1;have gG:((h.set id (ar.row D sz m e s)).set d .dead)[id]? =some (ar.row D sz m e s):=by rw[agi rN];simp [hid]
 have Zh:d<h.length:=(An.1 Lc).1;have vL:((h.set id (ar.row D sz m e s)).set d .dead)[d]? =some ar.dead:=by simp [Zh]
 have E:∀j,j≠id->j≠d->((h.set id (ar.row D sz m e s)).set d .dead)[j]? =h[j]?:=λj hj F=>by rw[agi (agX F),agi (agX hj)]
 have G:∀{j t u A B C},((h.set id (ar.row D sz m e s)).set d .dead)[j]? =some (ar.row t u A B C)->j≠d:=λhj r=>by subst r;rw[vL]at hj;cases hj
 have RN:l<w1.heap.size:=(afN.1 hw).1
 have wX:l<w.heap.size->dc μ h l:=λH=>by
  rcases hb with hb | ⟨base,cur,hm,_,_⟩
  ·omega
  ·exact .inl ⟨id,g,sz,n,e,f,base,hh,hm⟩
 have Y:∀j x y b,dD ((h.set id (ar.row D sz m e s)).set d .dead) j x y b->j≠d/\∃j0 L,dD h j0 L y b/\((j≠id/\j0=j/\L=x)\/(j=id/\x<N/\j0=id/\L=J6+x)\/(j=id/\N<=x/\j0=d/\L=yO+(x - N))):=λj x y b ⟨t,u,A,B,C,R,T,O,U,V,q1,q2,q3,q4⟩=>by
  refine⟨G q1,?_⟩;by_cases a:j=id
  ·subst a;rw[gG]at q1;injection q1 with q1;injection q1 with Z e2 e3 e4 e5;subst Z e2 e3 e4 e5;rcases wW x y _ _ _ _ _ q2 q3 with⟨r0,r1,I⟩ | ⟨r0,r1,I⟩
   ·exact⟨_,_,⟨_,_,_,_,_,_,_,_,_,_,hh,r1,I,q4⟩,.inr (.inl ⟨rfl,r0,rfl,rfl⟩)⟩
   ·exact⟨_,_,⟨_,_,_,_,_,_,_,_,_,_,Lc,r1,I,q4⟩,.inr (.inr ⟨rfl,r0,rfl,rfl⟩)⟩
  ·have F:=G q1;rw[E j a F]at q1;exact⟨_,_,⟨_,_,_,_,_,_,_,_,_,_,q1,q2,q3,q4⟩,.inl ⟨a,rfl,rfl⟩⟩
 have u5:∀j x y b,dD h j x y b->b<w.heap.size/\b≠l:=λj x y b r=>by
  have H:=hc.ok.lt b (.inr ⟨j,x,y,r⟩);refine⟨H,?_⟩;rintro rfl;rcases hb with hb | ⟨base,cur,hm,_,_⟩
  ·omega
  ·exact hc.ok.hv b ⟨id,g,sz,n,e,f,base,hh,hm⟩ j x y r
 have kC:Fr μ h S w (qm μ id (some (l,P))) ((h.set id (.row D sz m e s)).set d .dead) S w1:=by
  refine⟨by simp,λb H Ga=>?_,λ_ hb=>hb,λ_ hb=>.inl hb,λb W=>?_,wg,ad,J5,MF,λj t u A B C hj=>?_,λj hj=>?_,λb k yD fK=>?_,λj t u A B C b base hj hm oJ=>?_,λb j x y r oJ=>?_⟩;rotate_right
  ·obtain⟨q1,q2⟩:=u5 j x y b r;obtain⟨es,c,q⟩:=oJ;exact⟨es,c,(K b q1 q2).trans q⟩
  ·by_cases J:b=l
   ·subst J;exact(Ga (wX H)).elim
   ·exact K b H J
  ·rcases W with⟨j,t,u,A,B,C,qn,hj,hm⟩ | ⟨j,x,y,r⟩;rotate_left
   ·obtain⟨_,j0,L,M,_⟩:=Y j x y b r;exact .inl (.inr ⟨_,_,_,M⟩)
   by_cases a:j=id
   ·subst a;rw[cb]at hm;injection hm with hm;injection hm with h1 h2;subst h1;rcases agI l w.heap.size with H | N5
    ·exact .inl (wX H)
    ·exact .inr N5
   ·rw[E j a (G hj)]at hj;rw[dk μ _ a]at hm;exact .inl (.inl ⟨j,t,u,A,B,C,qn,hj,hm⟩)
  ·by_cases a:j=id
   ·subst a;rw[hh]at hj;injection hj with hj;injection hj with Z e2 e3 e4 e5;subst Z e2 e3 e4 e5;rw[gG];refine⟨hg,λhe=>?_⟩;obtain⟨h1,h2⟩:=aa he;exact⟨by rw[cb,h1],rfl,h2,rfl⟩
   ·by_cases F:j=d
    ·subst F;rw[vL];trivial
    ·rw[E j a F,hj];exact⟨abF _,λ_=>⟨dk μ _ a,rfl,rfl,rfl⟩⟩
  ·have a:j≠id:=by rintro rfl;rw[hh]at hj;cases hj
   have F:j≠d:=by rintro rfl;rw[Lc]at hj;cases hj
   rw[E j a F];exact hj
  ·by_cases J:b=l
   ·subst J;obtain⟨cur,O,z,q1,q2⟩:=fK;rcases hb with hb | ⟨base,B0,hm,pJ,lA⟩
    ·have:=(afN.1 q1).1;omega
    ·rw[pJ]at q1;injection q1 with q1;injection q1 with q1 _ _;subst q1;exact⟨Q,e,_,hw,by omega⟩
   ·exact lD.of_same (K b fK.lt J) fK
  ·have a:j≠id:=by rintro rfl;exact RI b base hm oJ
   have J:b≠l:=by
    rintro rfl;obtain⟨es,c,q⟩:=oJ;rcases hb with hb | ⟨rR,B0,X,pJ,_⟩
    ·have:=(afN.1 q).1;omega
    ·rw[pJ]at q;cases q
   obtain⟨es,c,q⟩:=oJ;refine⟨⟨es,c,(K b (afN.1 q).1 J).trans q⟩,?_⟩;by_cases F:j=d
   ·subst F;exact .inl vL
   ·exact .inr ⟨⟨_,_,_,_,_,(E j a F).trans hj⟩,by rw[dk μ _ a];exact hm⟩
 refine⟨kC,⟨λj t u A B C hj=>?_,?_⟩⟩
 ·by_cases a:j=id
  ·subst a;rw[gG]at hj;injection hj with hj;injection hj with Z e2 e3 e4 e5;subst Z e2 e3 e4 e5;rw[cb];refine⟨hl,cW.Dv ⟨Q,hw,xU,λi k pv hi hk=>?_⟩⟩;obtain⟨v,h1,h2⟩:=bQ i k pv hi hk;refine⟨v,h1,h2.fr kC hc.ok (λR T O U V he b W=>?_)⟩;rw[he]at hk;rcases wW i k _ _ _ _ _ hi hk with⟨r0,r1,I⟩ | ⟨r0,r1,I⟩
   ·obtain⟨q1,q2⟩:=u5 _ _ k b ⟨_,_,_,_,_,_,_,_,_,_,hh,r1,I,W⟩;exact K b q1 q2
   ·obtain⟨q1,q2⟩:=u5 _ _ k b ⟨_,_,_,_,_,_,_,_,_,_,Lc,r1,I,W⟩;exact K b q1 q2
  ·rw[E j a (G hj)]at hj;obtain⟨h1,h2⟩:=hc.heap j t u A B C hj;refine⟨h1,?_⟩;rw[dk μ _ a];cases hm:μ j with
   | none=>rw[hm]at h2;exact h2
   | some p=>
    obtain⟨b,base⟩:=p;rw[hm]at h2;obtain⟨o,q1,q2⟩:=h2;have H:b<w.heap.size:=(afN.1 q1).1
    have J:b≠l:=by
     rintro rfl;rcases hb with hb | ⟨rR,B0,X,_⟩
     ·omega
     ·exact a (hc.ok.inj j id _ _ _ _ _ _ _ _ _ _ _ _ _ hj hh hm X)
    exact⟨o,(K b H J).trans q1,q2.mono (λi y pv v hi hy hr=>hr.fr kC hc.ok (λR T O U V he b' W=>by
     obtain⟨q1,q2⟩:=u5 j i y b' ⟨_,_,_,_,_,_,_,_,_,_,hj,hi,by rw[hy,he],W⟩;exact K b' q1 q2))⟩
 ·refine⟨λb yD N6=>?_,λb yD=>?_,λb N6=>agc (hc.ok.slt b N6) wg,?_,hc.ok.AS kC,λb Wz j x y r=>?_,λb j x y j' x' y' r wx=>?_⟩;rotate_right 2
  ·obtain⟨_,j0,L,M,_⟩:=Y j x y b r;obtain⟨q1,q2⟩:=u5 _ _ _ b M;obtain⟨k,gk,WA,nk,ek,fk,J7,hk,hm⟩:=Wz;by_cases yE:k=id
   ·subst yE;rw[cb]at hm;injection hm with hm;injection hm with h1 h2;exact q2 h1.symm
   ·rw[E k yE (G hk)]at hk;rw[dk μ _ yE]at hm;exact hc.ok.hv b ⟨k,gk,WA,nk,ek,fk,J7,hk,hm⟩ _ _ _ M
  ·obtain⟨k1,j0,L,M,c0⟩:=Y j x y b r;obtain⟨k2,j1,x1,ag,c1⟩:=Y j' x' y' b wx;obtain⟨r1,I,r3⟩:=hc.ok.hh b _ _ _ _ _ _ M ag;subst r1;subst I;rcases c0 with⟨a1,a2,a3⟩ | ⟨a1,a2,a3,a4⟩ | ⟨a1,a2,a3,a4⟩<;>rcases c1 with⟨d1,d2,d3⟩ | ⟨d1,d2,d3,d4⟩ | ⟨d1,d2,d3,d4⟩<;>refine⟨?_,?_,r3⟩<;>omega
  ·rcases kC.own b yD with h1 | h1
   ·exact hc.ok.apart b h1 N6
   ·have:=hc.ok.slt b N6;omega
  ·rcases yD with⟨j,t,u,A,B,C,qn,hj,hm⟩ | ⟨j,x,y,r⟩;rotate_left
   ·obtain⟨_,j0,L,M,_⟩:=Y j x y b r;exact agc (hc.ok.lt b (.inr ⟨_,_,_,M⟩)) wg
   by_cases a:j=id
   ·subst a;rw[cb]at hm;injection hm with hm;injection hm with h1 h2;subst h1;exact RN
   ·rw[E j a (G hj)]at hj;rw[dk μ _ a]at hm;exact agc (hc.ok.lt b (.inl ⟨j,t,u,A,B,C,qn,hj,hm⟩)) wg
  ·intro i j gi Pg ni ei fi t u A B C b o o' hi hj qe oP;by_cases J8:i=id
   ·by_cases a:j=id
    ·rw[J8,a]
    ·subst J8;rw[cb]at qe;injection qe with qe;injection qe with h1 h2;subst h1;rw[E j a (G hj)]at hj;rw[dk μ _ a]at oP;rcases hb with hb | ⟨rR,B0,X,_⟩
     ·have:=hc.ok.lt _ (.inl ⟨j,t,u,A,B,C,o',hj,oP⟩);omega
     ·exact hc.ok.inj i j _ _ _ _ _ _ _ _ _ _ _ _ _ hh hj X oP
   ·rw[E i J8 (G hi)]at hi;rw[dk μ _ J8]at qe;by_cases a:j=id
    ·subst a;rw[cb]at oP;injection oP with oP;injection oP with h1 h2;subst h1;rcases hb with hb | ⟨rR,B0,X,_⟩
     ·have:=hc.ok.lt _ (.inl ⟨i,gi,Pg,ni,ei,fi,o,hi,qe⟩);omega
     ·exact hc.ok.inj i j _ _ _ _ _ _ _ _ _ _ _ _ _ hi hh qe X
    ·rw[E j a (G hj)]at hj;rw[dk μ _ a]at oP;exact aja
end
section
variable {P:Program}{T:sI}{μ:Mu}{h:List ar}{S:Nat->Prop}{w:World}
theorem yp (hc:Core μ h S w) (id g c sz n:Nat) (e:TypeId) (f d:Nat->List PV) (hh:h[id]? =some (ar.row g sz n e f)) (t:μ id=none) (hg:g<c):
  Fr μ h S w μ (h.set id (.row c sz 0 e d)) S w/\Core μ (h.set id (.row c sz 0 e d)) S w:=by
 have hid:id<h.length:=(An.1 hh).1;have D:(h.set id (ar.row c sz 0 e d))[id]? =some (ar.row c sz 0 e d):=by simp [hid]
 have k:∀j,j≠id->(h.set id (ar.row c sz 0 e d))[j]? =h[j]?:=λj hj=>by rw[agi (agX hj)]
 have H:∀b,Dw μ (h.set id (ar.row c sz 0 e d)) b->Dw μ h b:=λb hb=>by
  obtain⟨j,l,m,q,r,s,J,hj,hm⟩:=hb;by_cases a:j=id
  ·subst a;rw[t]at hm;cases hm
  ·rw[k j a]at hj;exact⟨j,l,m,q,r,s,J,hj,hm⟩
 have u:∀j x y b,dD (h.set id (ar.row c sz 0 e d)) j x y b->dD h j x y b:=λj x y b ⟨l,m,q,r,s,N,O,P,Q,R,q1,q2,q3,q4⟩=>by
  by_cases a:j=id
  ·subst a;rw[D]at q1;injection q1 with q1;injection q1 with v e2 A B C;omega
  ·rw[k j a]at q1;exact aji
 have E:∀b,dc μ (h.set id (ar.row c sz 0 e d)) b->dc μ h b:=λb hb=>by
  rcases hb with hb | ⟨x,y,z,hb⟩
  ·exact .inl (H b hb)
  ·exact .inr ⟨x,y,z,u _ _ _ _ hb⟩
 have I:Fr μ h S w μ (h.set id (.row c sz 0 e d)) S w:=by
  refine⟨by simp,λ_ _ _=>rfl,λ_ hb=>hb,λ_ hb=>.inl hb,λb hb=>.inl (E b hb),abF _,rfl,rfl,rfl,λj l m q r s hj=>?_,λj hj=>?_,λ_ _ _ K=>K,λj l m q r s b base hj hm F=>⟨F,.inr ⟨⟨_,_,_,_,_,(k j (by rintro rfl;rw[t]at hm;cases hm)).trans hj⟩,hm⟩⟩,λ_ _ _ _ _ F=>F⟩
  ·by_cases a:j=id
   ·subst a;rw[hh]at hj;injection hj with hj;injection hj with v e2 A B C;subst v e2 A B C;rw[D];exact⟨by omega,λhe=>absurd he ajo⟩
   ·rw[k j a,hj];exact ajg
  ·have a:j≠id:=by rintro rfl;rw[hh]at hj;cases hj
   rw[k j a];exact hj
 refine⟨I,⟨λj l m q r s hj=>?_,⟨λb hb=>hc.ok.apart b (E b hb),λb hb=>hc.ok.lt b (E b hb),hc.ok.slt,?_,hc.ok.known,λb hb x y z G=>hc.ok.hv b (H b hb) x y z (u _ _ _ _ G),λb _ _ _ _ _ _ G hy=>hc.ok.hh b _ _ _ _ _ _ (u _ _ _ _ G) (u _ _ _ _ hy)⟩⟩⟩
 ·by_cases a:j=id
  ·subst a;rw[D]at hj;injection hj with hj;injection hj with v e2 A B C;subst v e2 A B C;refine⟨λi hi=>absurd hi ajo,?_⟩;rw[t]
  ·rw[k j a]at hj;obtain⟨h1,h2⟩:=hc.heap j l m q r s hj;refine⟨h1,?_⟩;cases hm:μ j with
   | none=>rw[hm]at h2;exact h2
   | some p=>
    obtain⟨b,base⟩:=p;rw[hm]at h2;obtain⟨o,q1,q2⟩:=h2;exact⟨o,q1,q2.mono (λ_ _ _ _ _ _ L=>L.fr I hc.ok (λ_ _ _ _ _ _ _ _=>rfl))⟩
 ·intro i j T U V W X l m q r s b o Y hi hj qe oP;have M:i≠id:=by rintro rfl;rw[t]at qe;cases qe
  have a:j≠id:=by rintro rfl;rw[t]at oP;cases oP
  rw[k i M]at hi;rw[k j a]at hj;exact aja
variable {a:Act}{env:Env}{K:PV->List ar->Prop}{dst:Option Tmp}{ty:TypeId}{pos:String}{after:Array Edge}{guard:Option (Nat×Bool)}
theorem tF (z:Array Value) (n:Nat):(Builtin.zeroCells z n).size=n*z.size:=by simp [Builtin.zeroCells]
theorem ks {s x:Operand} {t tx:TypeId} {sv b c:Value} {w':World} (hs:a.eval s=sv) (d:a.eval x=b) (e:(Builtin.append_ #[t,tx] ty #[sv,b]).run P w=.ok c w'):
  (execOp a.eval ⟨dst,.call ⟨.builtin .append,#[s,x],#[t,tx]⟩,ty,pos,after,guard⟩).run P w=.ok (.value c) w':=by
 simp only[execOp,resolve,invoke,builtin,Sem.run_bind,Sem.run_pure,Result.andThen_ok,ahV,afO,afR,hs,d,e]
theorem D5 {sz l m:Nat} {f q:Nat->List PV} {a news rest:Array Value} (d:a.size=l*sz) (e:news.size=m*sz)
  (h1:∀(i j:Nat) (pv:PV),i<l->(f i)[j]? =some pv->∃u,a[i*sz+j]? =some u/\rH μ h S w pv u)
  (h2:∀(i j:Nat) (pv:PV),i<m->(q i)[j]? =some pv->∃u,news[i*sz+j]? =some u/\rH μ h S w pv u)
  (g:∀i,i<l->(f i).length=sz) (k:∀i,i<m->(q i).length=sz):
  ∀(i j:Nat) (pv:PV),i<l+m->(bif Nat.blt i l then f i else q (i - l))[j]? =some pv->∃u,(a++news++rest)[i*sz+j]? =some u/\rH μ h S w pv u:=by
 intro i j pv hi hj;by_cases b:i<l
 ·have hb:Nat.blt i l=true:=by simpa using b
  rw[hb]at hj;simp only[cond_true]at hj;obtain⟨u,q1,q2⟩:=h1 i j pv b hj;have c:i*sz+j<a.size:=(afN.1 q1).1;exact⟨u,by rw[agH ajs,agH c];exact q1,q2⟩
 ·have hb:Nat.blt i l=false:=by
   cases hh:Nat.blt i l with
   | true=>exact(b (by simpa using hh)).elim
   | false=>rfl
  rw[hb]at hj;simp only[cond_false]at hj;obtain⟨u,q1,q2⟩:=h2 (i - l) j pv ajo hj;have c:(i - l)*sz+j<news.size:=(afN.1 q1).1;have hmul:i*sz=l*sz+(i - l)*sz:=by rw[<-aga];congr 1;omega
  refine⟨u,?_,q2⟩;rw[agH ajs,Array.getElem?_append_right ajo,<-q1];congr 1;omega
theorem Ld {sz l m:Nat} {f q:Nat->List PV} (b:∀i,i<l->(f i).length=sz) (c:∀i,i<m->(q i).length=sz):∀i,i<l+m->(bif Nat.blt i l then f i else q (i - l)).length=sz:=by
 intro i hi;by_cases a:i<l
 ·have hb:Nat.blt i l=true:=by simpa using a
  rw[hb];exact b i a
 ·have hb:Nat.blt i l=false:=by
   cases hh:Nat.blt i l with
   | true=>exact(a (by simpa using hh)).elim
   | false=>rfl
  rw[hb];exact c _ ajo
theorem A2 (w:World) (o:Obj):da w (w.drew.alloc o):=(da.drew w).trans (oK w.drew o)
theorem Le (p:dL P T) (hc:Core μ h S w) (t tx e sz bytes:Nat) (zero:List PV) (d:TypeDesc) (q:T.get t=.slice e sz bytes zero) (r:P.underlying tx=some d) (hd:(∃A,d=.slice A)\/d=.string)
  (s x:Operand) (hs:a.eval s=.slice none 0 0) (m:Nat) (g:Nat->List PV) (B:Src P μ h S w (a.eval x) sz m g) (b:∀(i j:Nat) (pv:PV),i<m->(g i)[j]? =some pv->dM pv=false) (hb:m*bytes<=140737488355328) (v:K (.own h.length 0 0 m) (h++[.row 0 sz m e g])):
  gz P ⟨dst,.call ⟨.builtin .append,#[s,x],#[t,tx]⟩,ty,pos,after,guard⟩ a μ h S w K:=by
 obtain⟨hu,L,inf,zv,y,C,D,E,F,M,N⟩:=p.slice _ _ _ _ _ q;have k:=p.bytes _ _ _ _ _ q;subst C D;obtain⟨hl,news,q1,q2,q3,q4⟩:=B;rcases agO m with h0 | h0
 ·subst h0;have G:news=#[]:=agR ajN;subst G;obtain⟨r1,l⟩:=q4 w (da.refl w);have f:=mq (P:=P) (w:=w) t tx ty e inf d hu r hd y none 0 0 (a.eval x) 0 #[] w r1 l (abF _) rfl;obtain⟨n,o⟩:=tn (w1:=w) hc inf.size 0 e g none rfl (da.refl w) hl b;refine gz.jr (ks hs rfl f) v ?_ o n;show cf _ _ _ _ _ _ _ _;unfold cf;rw[agh (abF _),agY];refine⟨⟨_,_,_,rfl⟩,abF _,λ_=>⟨by omega,?_⟩⟩;rw[cb]
 ·obtain⟨r1,_⟩:=q4 w (da.refl w);obtain⟨_,l⟩:=q4 w.drew (da.drew w);have f:=rL (P:=P) (w:=w) t tx ty e inf zv d hu r hd y E none 0 0 (a.eval x) m #[] news r1 rfl l ajo k (by rw[so];exact hb);rw[so]at f
  obtain⟨n,o⟩:=tn (w1:=w.drew.alloc (.cells (#[]++news++Builtin.zeroCells zv.cells (grownCap w m 0 e - m)) e)) hc inf.size m e g (some (w.heap.size,0))
   ⟨abF _,_,heap_alloc_new w.drew _,by simp [q1],λi j pv hi hj=>by
    obtain⟨u,z,H⟩:=q2 i j pv hi hj;have I:=(afN.1 z).1;exact⟨u,by rw[ahz,so,agH I];exact z,H.c⟩⟩ (A2 w _) hl b
  refine gz.jr (ks hs rfl f) v ?_ o n;show cf _ _ _ _ _ _ _ _;unfold cf;rw[agh (abF _),agY];refine⟨⟨_,_,_,rfl⟩,abF _,λ_=>⟨by omega,?_⟩⟩;rw[cb];have J:=grownCap_ge w m 0 e;refine⟨_,grownCap w m 0 e,rfl,J,λ_=>by simp,_,e,_,heap_alloc_new w.drew _,?_⟩;simp only[ahs,tF,F,q1];simp only[so];have:grownCap w m 0 e*inf.size=m*inf.size+(grownCap w m 0 e - m)*inf.size:=by rw[<-aga];congr 1;omega
  simp;omega
theorem Np (hT:dL P T) (hc:Core μ h S w) (t tx e sz bytes:Nat) (zero:List PV) (d:TypeDesc) (iu:T.get t=.slice e sz bytes zero) (O:P.underlying tx=some d) (hd:(∃A,d=.slice A)\/d=.string)
  (s x:Operand) (id g off len n:Nat) (f:Nat->List PV) (hh:h[id]? =some (ar.row g sz n e f)) (hs:cw μ h S w (.own id g off len) (a.eval s)) (m:Nat) (q:Nat->List PV) (B9:Src P μ h S w (a.eval x) sz m q) (Q:∀(i j:Nat) (pv:PV),i<m->(q i)[j]? =some pv->dM pv=false)
  (hb:(len+m)*bytes<=140737488355328)
  (R:K (.own id (g+1) 0 (len+m)) (h.set id (.row (g+1) sz (len+m) e (λi=>bif Nat.blt i len then f (off+i)else q (i - len))))):
  gz P ⟨dst,.call ⟨.builtin .append,#[s,x],#[t,tx]⟩,ty,pos,after,guard⟩ a μ h S w K:=by
 obtain⟨hu,lA,inf,zv,U,tQ,WB,hz,RJ,TV,RL⟩:=hT.slice _ _ _ _ _ iu;have V:=hT.bytes _ _ _ _ _ iu;subst tQ WB;have hid:id<h.length:=(An.1 hh).1;obtain⟨wA,W,X,o2,o3,o4⟩:=sH (P:=P) hc id g off len inf.size n e f hh _ hs lA;obtain⟨EE,news,q1,q2,q3,q4⟩:=B9;have Y:=Ld wA EE
 have D:∀{sl:Nat},off+sl<=n->∀(i j Z n':Nat) (A:TypeId) (f':Nat->List PV) (F':Nat->Prop),i<sl+m->(bif Nat.blt i sl then f (off+i)else q (i - sl))[j]? =some (.aV Z n' A f' F')->off+i<n/\(f (off+i))[j]? =some (.aV Z n' A f' F'):=λ{sl} a0 i j Z n' A f' F' hi hj=>by
  by_cases B:i<sl
  ·have hb:Nat.blt i sl=true:=by simpa using B
   rw[hb]at hj;exact⟨by omega,hj⟩
  ·have hb:Nat.blt i sl=false:=by
    cases hh:Nat.blt i sl with
    | true=>exact(B (by simpa using hh)).elim
    | false=>rfl
   rw[hb]at hj;have:=Q (i - sl) j _ ajo hj;cases this
 have c:=hs.sd;unfold cf at c;rw[hh]at c;obtain⟨⟨sa,sl,l,y⟩,_,c⟩:=c;obtain⟨hle,c⟩:=c rfl
 have FW:sl=len:=by
  obtain⟨v,_⟩:=o4 w (da.refl w);rw[y]at v;simp [Builtin.lenOf]at v;exact v
 subst FW;obtain⟨hl,bQ⟩:=hc.heap id g _ n e f hh
 have RI:∀b base,μ id=some (b,base)->¬uE w b:=λb base z=>by
  rw[z]at c;obtain⟨_,_,_,_,_,I⟩:=c;exact I.HK
 by_cases J:sl+m<=l
 ·-- in place
  obtain⟨r1,L⟩:=q4 w (da.refl w);cases z:μ id with
  | none=>
   rw[z]at c bQ;rw[y]at c;injection c with v e2 e3;subst v e2 e3;have hm:m=0:=by omega
   subst hm;have hn:news=#[]:=agR ajN;subst hn;have E:=mq (P:=P) (w:=w) t tx ty e inf d hu O hd U none 0 0 (a.eval x) 0 #[] w r1 L (abF _) rfl;obtain⟨F,G⟩:=yp hc id g (g+1) inf.size n e f (λi=>bif Nat.blt i 0 then f (off+i)else q (i - 0)) hh z (ahZ g);refine gz.jr (ks y rfl E) R ?_ G F;show cf _ _ _ _ _ _ _ _;unfold cf;rw[agK hid];refine⟨⟨_,_,_,rfl⟩,abF _,λ_=>⟨by omega,?_⟩⟩;rw[z]
  | some p=>
   obtain⟨b,base⟩:=p;rw[z]at c bQ;obtain⟨M,cap,hv,T8,N,I⟩:=c;rw[y]at hv;injection hv with v e2 e3;subst v e3;obtain⟨cur,C,xU,nn⟩:=cW.cells I bQ
   have SZ:base+(off+l)*inf.size<=cur.size:=by
    obtain⟨B0,A,z',o,H⟩:=I;rw[C]at o;injection o with o;injection o with o _ _;subst o;exact H
   rw[aga]at SZ
   have key:∃r:Array Value,r.size=cur.size/\(match(some M:Option Addr)with | some a=>(storeCells (a.add (sl*inf.size)) news.toList).run P w=.ok () (w.setRow b r) | none=>w.setRow b r=w)/\
     ∀k,r[k]? =if base+off*inf.size+sl*inf.size<=k/\k<base+off*inf.size+sl*inf.size+m*inf.size then news[k - (base+off*inf.size+sl*inf.size)]? else cur[k]?:=by
    rcases agO m with h0 | h0
    ·subst h0;have hn:news=#[]:=agR ajN;subst hn;refine⟨cur,rfl,?_,λk=>by rw[mg ajo]⟩;show(storeCells (M.add (sl*inf.size)) []).run P w=.ok () (w.setRow b cur);rw[setRow_self w b cur e (0,0) C];rfl
    ·have N:=N ajo;subst N;have hmul:(sl+m)*inf.size<=l*inf.size:=agb _ J;rw[aga]at hmul;have Ds:=run_storeCells_at P b (base+off*inf.size+sl*inf.size) e news.toList 0 cur w C ajs q3;rw[agM]at Ds;refine⟨(cur.toList.take (base+off*inf.size+sl*inf.size)++news.toList++cur.toList.drop (base+off*inf.size+sl*inf.size+news.toList.length)).toArray,?_,?_,λk=>?_⟩
     ·simp;omega
     ·show(storeCells ((⟨b,base+off*inf.size,none⟩:Addr).add (sl*inf.size)) news.toList).run P w=.ok () _;rw[Addr.add_lit];exact Ds
     ·have aa:=yG cur.toList news.toList (base+off*inf.size+sl*inf.size) k ajs;rw[ahI,aa];simp only[agn,agL,q1]
   obtain⟨r,c1,c2,c3⟩:=key;have E:=mq (P:=P) (w:=w) t tx ty e inf d hu O hd U (some M) sl l (a.eval x) m news (w.setRow b r) r1 L J c2;have hmul:(sl+m)*inf.size<=l*inf.size:=agb _ J;rw[aga]at hmul
   have ri:=Du (w1:=w.setRow b r) hc id g (g+1) inf.size n (sl+m) e f (λi=>bif Nat.blt i sl then f (off+i)else q (i - sl)) hh b (base+off*inf.size) r ajo (λhe=>absurd he ajo)
    (.inr ⟨base,cur,z,C,c1.symm⟩) (setRow_heap w b cur _ e _ C) (by rw[c1,aga];omega) (λb' _ rN=>setRow_other w b b' _ rN) ajq rfl rfl rfl Y RI
    (λi j pv hi hj=>by
     have My:j<inf.size:=by rw[<-Y i hi];exact(An.1 hj).1
     rw[c3];by_cases B:i<sl
     ·have Zi:Nat.blt i sl=true:=by simpa using B
      rw[Zi]at hj;simp only[cond_true]at hj;have qe:(i+1)*inf.size<=sl*inf.size:=agb _ B;rw[aga]at qe;rw[mg ajo];obtain⟨u,o,H⟩:=nn (off+i) j pv ajo hj;refine⟨u,?_,H⟩;rw[<-o];congr 1;rw[aga];omega
     ·have Zi:Nat.blt i sl=false:=by
       cases ag:Nat.blt i sl with
       | true=>exact(B (by simpa using ag)).elim
       | false=>rfl
      rw[Zi]at hj;simp only[cond_false]at hj;have v:i*inf.size=sl*inf.size+(i - sl)*inf.size:=by rw[<-aga];congr 1;omega
      have e2:(i - sl+1)*inf.size<=m*inf.size:=agb _ ajo;rw[aga]at e2;rw[an ajo];obtain⟨u,o,H⟩:=q2 (i - sl) j pv ajo hj;exact⟨u,by rw[<-o];congr 1;omega,H⟩) off (D ajo)
   obtain⟨F,G⟩:=ri;refine gz.jr (ks y rfl E) R ?_ G F;show cf _ _ _ _ _ _ _ _;unfold cf;rw[agK hid];refine⟨⟨_,_,_,rfl⟩,abF _,λ_=>⟨by omega,?_⟩⟩;rw[cb];refine⟨M,l,rfl,J,λaq=>?_,r,e,_,setRow_heap w b cur _ e _ C,?_⟩
   ·rw[N aq,Nat.zero_mul,agM]
   ·rw[c1,so];omega
 ·-- it aA
  obtain⟨r1,_⟩:=q4 w (da.refl w);obtain⟨_,L⟩:=q4 w.drew (da.drew w);obtain⟨_,s2⟩:=o4 w.drew (da.drew w);rw[y]at s2;have E:=rL (P:=P) (w:=w) t tx ty e inf zv d hu O hd U hz sa sl l (a.eval x) m W news r1 s2 L ajo V hb;have N5:=grownCap_ge w (sl+m) l e
  have ri:=Du (w1:=w.drew.alloc (.cells (W++news++Builtin.zeroCells zv.cells (grownCap w (sl+m) l e - (sl+m))) e)) hc id g (g+1) inf.size n (sl+m) e f (λi=>bif Nat.blt i sl then f (off+i)else q (i - sl)) hh
   w.heap.size 0 (W++news++Builtin.zeroCells zv.cells (grownCap w (sl+m) l e - (sl+m))) ajo (λhe=>absurd he ajo) (.inl (abF _)) (heap_alloc_new w.drew _)
   (by simp only[ahs,X,q1,aga];omega) (λb cy _=>heap_alloc_old w.drew _ cy) ajq rfl rfl rfl Y RI
   (λi j pv hi hj=>by
    rw[so];exact D5 X q1 o2 q2 wA EE i j pv hi hj) off (D ajo)
  obtain⟨F,G⟩:=ri;refine gz.jr (ks y rfl E) R ?_ G F;show cf _ _ _ _ _ _ _ _;unfold cf;rw[agK hid];refine⟨⟨_,_,_,rfl⟩,abF _,λ_=>⟨by omega,?_⟩⟩;rw[cb];refine⟨_,grownCap w (sl+m) l e,rfl,N5,λ_=>by simp,_,e,_,heap_alloc_new w.drew _,?_⟩;simp only[ahs,tF,RJ,X,q1,so];have:grownCap w (sl+m) l e*inf.size=(sl+m)*inf.size+(grownCap w (sl+m) l e - (sl+m))*inf.size:=by rw[<-aga];congr 1;omega
  rw[aga]at this;omega
theorem gz.Vl {o:Oper} {a:Act} {K:PV->List ar->Prop} {μ1:Mu} {h1:List ar} (hf:Fr μ h S w μ1 h1 S w) (hm:vz μ h S w) (b:gz P o a μ1 h1 S w K):gz P o a μ h S w K:=by
 intro next Q c
 exact b next Q λv val h' μ' S' w' d hv hc e=>c v val h' μ' S' w' d hv hc (hf.trans e)
theorem Bw (hT:dL P T) (hc:Core μ h S w) (t tx e sz bytes:Nat) (zero:List PV) (d:TypeDesc) (iu:T.get t=.slice e sz bytes zero) (Z:P.underlying tx=some d) (hd:(∃z,d=.slice z)\/d=.string)
  (s x:Operand) (id g off len n:Nat) (f:Nat->List PV) (hh:h[id]? =some (ar.row g sz n e f)) (hs:cw μ h S w (.own id g off len) (a.eval s)) (D:Nat) (v:D≠id) (g2 n2:Nat) (M:TypeId) (q2:Nat->List PV) (o m:Nat) (Lc:h[D]? =some (ar.row g2 sz n2 M q2)) (Vn:o+m<=n2) (B9:Src P μ h S w (a.eval x) sz m (λi=>q2 (o+i)))
  (hb:(len+m)*bytes<=140737488355328)
  (hK:K (.own id (g+1) 0 (len+m)) ((h.set id (.row (g+1) sz (len+m) e (λi=>bif Nat.blt i len then f (off+i)else q2 (o+(i - len))))).set D .dead)):
  gz P ⟨dst,.call ⟨.builtin .append,#[s,x],#[t,tx]⟩,ty,pos,after,guard⟩ a μ h S w K:=by
 obtain⟨hu,lA,inf,zv,oy,tQ,WB,hz,RJ,TV,RL⟩:=hT.slice _ _ _ _ _ iu;have aa:=hT.bytes _ _ _ _ _ iu;subst tQ WB;have hid:id<h.length:=(An.1 hh).1;obtain⟨wA,yM,o1,o2,o3,o4⟩:=sH (P:=P) hc id g off len inf.size n e f hh _ hs lA;obtain⟨EE,news,q1,F,q3,q4⟩:=B9;have UK:=Ld wA EE
 have G:∀{sl:Nat},off+sl<=n->∀(i j N O:Nat) (z:TypeId) (Q:Nat->List PV) (R:Nat->Prop),i<sl+m->(bif Nat.blt i sl then f (off+i)else q2 (o+(i - sl)))[j]? =some (.aV N O z Q R)->(i<sl/\off+i<n/\(f (off+i))[j]? =some (.aV N O z Q R))\/(sl<=i/\o+(i - sl)<n2/\(q2 (o+(i - sl)))[j]? =some (.aV N O z Q R)):=λ{sl} a4 i j N O z Q R hi hj=>by
  by_cases A:i<sl
  ·have hb:Nat.blt i sl=true:=by simpa using A
   rw[hb]at hj;exact .inl ⟨A,by omega,hj⟩
  ·have hb:Nat.blt i sl=false:=by
    cases hh:Nat.blt i sl with
    | true=>exact(A (by simpa using hh)).elim
    | false=>rfl
   rw[hb]at hj;exact .inr ⟨by omega,by omega,hj⟩
 have c:=hs.sd;unfold cf at c;rw[hh]at c;obtain⟨⟨sa,sl,l,B⟩,_,c⟩:=c;obtain⟨hle,c⟩:=c rfl
 have FW:sl=len:=by
  obtain⟨y,_⟩:=o4 w (da.refl w);rw[B]at y;simp [Builtin.lenOf]at y;exact y
 subst FW;obtain⟨hl,bQ⟩:=hc.heap id g _ n e f hh
 have RI:∀b base,μ id=some (b,base)->¬uE w b:=λb base C=>by
  rw[C]at c;obtain⟨_,_,_,_,_,U⟩:=c;exact U.HK
 by_cases V:sl+m<=l
 ·-- in place
  obtain⟨r1,W⟩:=q4 w (da.refl w);cases C:μ id with
  | none=>
   rw[C]at c bQ;rw[B]at c;injection c with y e2 e3;subst y e2 e3;have hm:m=0:=by omega
   subst hm;have hn:news=#[]:=agR ajN;subst hn;have H:=mq (P:=P) (w:=w) t tx ty e inf d hu Z hd oy none 0 0 (a.eval x) 0 #[] w r1 W (abF _) rfl;obtain⟨ag,aq⟩:=yp hc id g (g+1) inf.size n e f (λi=>bif Nat.blt i 0 then f (off+i)else q2 (o+(i - 0))) hh C (ahZ g);obtain⟨aA,I⟩:=PW aq D g2 inf.size n2 M q2 (by rw[agi (agX v)];exact Lc);have J:=ag.trans aA;refine gz.jr (ks B rfl H) hK ?_ I J;show cf _ _ _ _ _ _ _ _;unfold cf;rw[agi v,agK hid];refine⟨⟨_,_,_,rfl⟩,abF _,λ_=>⟨by omega,?_⟩⟩;rw[C]
  | some p=>
   obtain⟨b,base⟩:=p;rw[C]at c bQ;obtain⟨X,cap,hv,T8,Y,U⟩:=c;rw[B]at hv;injection hv with y e2 e3;subst y e3;obtain⟨cur,E,xU,nn⟩:=cW.cells U bQ
   have SZ:base+(off+l)*inf.size<=cur.size:=by
    obtain⟨B0,z,z',q,L⟩:=U;rw[E]at q;injection q with q;injection q with q _ _;subst q;exact L
   rw[aga]at SZ
   have key:∃r:Array Value,r.size=cur.size/\(match(some X:Option Addr)with | some a=>(storeCells (a.add (sl*inf.size)) news.toList).run P w=.ok () (w.setRow b r) | none=>w.setRow b r=w)/\
     ∀k,r[k]? =if base+off*inf.size+sl*inf.size<=k/\k<base+off*inf.size+sl*inf.size+m*inf.size then news[k - (base+off*inf.size+sl*inf.size)]? else cur[k]?:=by
    rcases agO m with h0 | h0
    ·subst h0;have hn:news=#[]:=agR ajN;subst hn;refine⟨cur,rfl,?_,λk=>by rw[mg ajo]⟩;show(storeCells (X.add (sl*inf.size)) []).run P w=.ok () (w.setRow b cur);rw[setRow_self w b cur e (0,0) E];rfl
    ·have Y:=Y ajo;subst Y;have hmul:(sl+m)*inf.size<=l*inf.size:=agb _ V;rw[aga]at hmul;have Ds:=run_storeCells_at P b (base+off*inf.size+sl*inf.size) e news.toList 0 cur w E ajs q3;rw[agM]at Ds;refine⟨(cur.toList.take (base+off*inf.size+sl*inf.size)++news.toList++cur.toList.drop (base+off*inf.size+sl*inf.size+news.toList.length)).toArray,?_,?_,λk=>?_⟩
     ·simp;omega
     ·show(storeCells ((⟨b,base+off*inf.size,none⟩:Addr).add (sl*inf.size)) news.toList).run P w=.ok () _;rw[Addr.add_lit];exact Ds
     ·have a0:=yG cur.toList news.toList (base+off*inf.size+sl*inf.size) k ajs;rw[ahI,a0];simp only[agn,agL,q1]
   obtain⟨r,c1,c2,c3⟩:=key;have H:=mq (P:=P) (w:=w) t tx ty e inf d hu Z hd oy (some X) sl l (a.eval x) m news (w.setRow b r) r1 W V c2;have hmul:(sl+m)*inf.size<=l*inf.size:=agb _ V;rw[aga]at hmul
   have ri:=GB (w1:=w.setRow b r) hc id D v g2 inf.size n2 M q2 Lc sl g (g+1) inf.size n (sl+m) e f (λi=>bif Nat.blt i sl then f (off+i)else q2 (o+(i - sl))) hh b (base+off*inf.size) r ajo (λhe=>absurd he ajo)
    (.inr ⟨base,cur,C,E,c1.symm⟩) (setRow_heap w b cur _ e _ E) (by rw[c1,aga];omega) (λb' _ v=>setRow_other w b b' _ v) ajq rfl rfl rfl UK RI
    (λi j pv hi hj=>by
     have My:j<inf.size:=by rw[<-UK i hi];exact(An.1 hj).1
     rw[c3];by_cases A:i<sl
     ·have Zi:Nat.blt i sl=true:=by simpa using A
      rw[Zi]at hj;simp only[cond_true]at hj;have qe:(i+1)*inf.size<=sl*inf.size:=agb _ A;rw[aga]at qe;rw[mg ajo];obtain⟨u,q,L⟩:=nn (off+i) j pv ajo hj;refine⟨u,?_,L⟩;rw[<-q];congr 1;rw[aga];omega
     ·have Zi:Nat.blt i sl=false:=by
       cases a1:Nat.blt i sl with
       | true=>exact(A (by simpa using a1)).elim
       | false=>rfl
      rw[Zi]at hj;simp only[cond_false]at hj;have y:i*inf.size=sl*inf.size+(i - sl)*inf.size:=by rw[<-aga];congr 1;omega
      have e2:(i - sl+1)*inf.size<=m*inf.size:=agb _ ajo;rw[aga]at e2;rw[an ajo];obtain⟨u,q,L⟩:=F (i - sl) j pv ajo hj;exact⟨u,by rw[<-q];congr 1;omega,L⟩) off o (G ajo)
   obtain⟨J,I⟩:=ri;refine gz.jr (ks B rfl H) hK ?_ I J;show cf _ _ _ _ _ _ _ _;unfold cf;rw[agi v,agK hid];refine⟨⟨_,_,_,rfl⟩,abF _,λ_=>⟨by omega,?_⟩⟩;rw[cb];refine⟨X,l,rfl,V,λa2=>?_,r,e,_,setRow_heap w b cur _ e _ E,?_⟩
   ·rw[Y a2,Nat.zero_mul,agM]
   ·rw[c1,so];omega
 ·-- it a3
  obtain⟨r1,_⟩:=q4 w (da.refl w);obtain⟨_,W⟩:=q4 w.drew (da.drew w);obtain⟨_,s2⟩:=o4 w.drew (da.drew w);rw[B]at s2;have H:=rL (P:=P) (w:=w) t tx ty e inf zv d hu Z hd oy hz sa sl l (a.eval x) m yM news r1 s2 W ajo aa hb;have N5:=grownCap_ge w (sl+m) l e
  have ri:=GB (w1:=w.drew.alloc (.cells (yM++news++Builtin.zeroCells zv.cells (grownCap w (sl+m) l e - (sl+m))) e)) hc id D v g2 inf.size n2 M q2 Lc sl g (g+1) inf.size n (sl+m) e f (λi=>bif Nat.blt i sl then f (off+i)else q2 (o+(i - sl))) hh
   w.heap.size 0 (yM++news++Builtin.zeroCells zv.cells (grownCap w (sl+m) l e - (sl+m))) ajo (λhe=>absurd he ajo) (.inl (abF _)) (heap_alloc_new w.drew _)
   (by simp only[ahs,o1,q1,aga];omega) (λb cy _=>heap_alloc_old w.drew _ cy) ajq rfl rfl rfl UK RI
   (λi j pv hi hj=>by
    rw[so];exact D5 o1 q1 o2 F wA EE i j pv hi hj) off o (G ajo)
  obtain⟨J,I⟩:=ri;refine gz.jr (ks B rfl H) hK ?_ I J;show cf _ _ _ _ _ _ _ _;unfold cf;rw[agi v,agK hid];refine⟨⟨_,_,_,rfl⟩,abF _,λ_=>⟨by omega,?_⟩⟩;rw[cb];refine⟨_,grownCap w (sl+m) l e,rfl,N5,λ_=>by simp,_,e,_,heap_alloc_new w.drew _,?_⟩;simp only[ahs,tF,RJ,o1,q1,so];have:grownCap w (sl+m) l e*inf.size=(sl+m)*inf.size+(grownCap w (sl+m) l e - (sl+m))*inf.size:=by rw[<-aga];congr 1;omega
  rw[aga]at this;omega
theorem Is (u:dL P T) (hc:Core μ h S w) (R:∀t,cw μ h S w (env t) (a.tmps.getD t undef)) (args:Array Operand) (G:Array TypeId) (hp:pop P T (.call ⟨.builtin .append,args,G⟩) env h K):
  gz P ⟨dst,.call ⟨.builtin .append,args,G⟩,ty,pos,after,guard⟩ a μ h S w K:=by
 obtain⟨args⟩:=args;obtain⟨G⟩:=G;simp only[pop]at hp;split at hp
 ·rename_i s x t tx;have hs:=cM R s;have b:=cM R x
  have main:∀(e sz bytes:Nat) (zero:List PV) (d:TypeDesc),T.get t=.slice e sz bytes zero->P.underlying tx=some d->((∃c,d=.slice c)\/d=.string)->Nq e sz bytes (ev env s) (ev env x) h K->
    gz P ⟨dst,.call ⟨.builtin .append,#[s,x],#[t,tx]⟩,ty,pos,after,guard⟩ a μ h S w K:=by
   intro e sz bytes zero d k l hd hp;have D:=(u.slice _ _ _ _ _ k).2.1;cases hp with
   | move hp=>
    unfold Lg at hp;split at hp
    ·rename_i o X m v hex;rw[v]at hs;rw[hex]at b;split at hp
     ·rename_i y qs n2 c q hg;obtain⟨rfl,hp⟩:=hp;replace hp:=ck hp;obtain⟨p,hb,z⟩:=hp;obtain rfl:=afM p;have r:=ep hg;have Y:o<h.length:=(An.1 r).1;have C:=sH (P:=P) hc o y 0 m sz n2 c q r _ b D
      have H:0+m<=n2:=by
       have A:=b.sd;unfold cf at A;rw[r]at A;exact(A.2.2 rfl).1
      obtain⟨E,U⟩:=tn (w1:=w) hc sz 0 e (λ_=>[]) none rfl (da.refl w) (λi hi=>absurd hi (agz _)) (λi j pv hi=>absurd hi (agz _));have V:(h++[ar.row 0 sz 0 e (λ_=>[])])[h.length]? =some (.row 0 sz 0 e (λ_=>[])):=by simp
      have F:(h++[ar.row 0 sz 0 e (λ_=>[])])[o]? =some (.row y sz n2 c q):=by rw[ago Y];exact r
      have Z:cw (qm μ h.length none) (h++[ar.row 0 sz 0 e (λ_=>[])]) S w (.own h.length 0 0 0) (a.eval s):=by
       rw[hs.tj];show cf _ _ w h.length 0 0 0 _;unfold cf;rw[V,cb];exact⟨⟨_,_,_,rfl⟩,abF _,λ_=>⟨abF _,rfl⟩⟩
      have I:=cw.fr E hc.ok b;have J:=sH (P:=P) U o y 0 m sz n2 c q F _ I D
      have key:=Bw (dst:=dst) (pos:=pos) (after:=after) (guard:=guard) (ty:=ty) (K:=K) u U t tx e sz bytes zero d k l hd s x h.length 0 0 0 0 (λ_=>[]) V Z o ajo y n2 c q 0 m F H J (by rw[so];exact hb) (by
       have L:(λi=>bif Nat.blt i 0 then([]:List PV)else q (0+(i - 0)))=q:=by funext i;rw[so];rfl
       rw[L,so m];exact z)
      exact gz.Vl E hc.ok key
     ·exact aiI
    ·rename_i id gen len o X m v hex;rw[v]at hs;rw[hex]at b;split at hp
     ·rename_i g W n c f hg;split at hp
      ·rename_i y qs n2 e2 q M;obtain⟨rfl,rfl,hp⟩:=hp;replace hp:=ck hp;obtain⟨p,hb,z⟩:=hp;simp only[As,agA]at p;obtain⟨h1,h2,h3,h4⟩:=p;obtain rfl:=afM h1;obtain rfl:=afM h2;obtain rfl:=afM h3;have rN:o≠id:=Nat.ne_of_beq_eq_false h4;have r:=ep M
       have H:0+m<=n2:=by
        have A:=b.sd;unfold cf at A;rw[r]at A;exact(A.2.2 rfl).1
       have C:=sH (P:=P) hc o y 0 m sz n2 e2 q r _ b D;refine Bw u hc t tx e sz bytes zero d k l hd s x id g 0 len n f (ep hg) hs o rN y n2 e2 q 0 m r H C hb ?_;have L:(λi=>bif Nat.blt i len then f (0+i)else q (0+(i - len)))=fjn f len q:=by funext i;rw[so,so];rfl
       rw[L];exact z
      ·exact aiI
     ·exact aiI
    ·exact aiI
   | oY hp=>
   unfold xE at hp;split at hp
   ·rename_i v;rw[v]at hs;obtain⟨_,g,⟨hb,m,f',rfl,N,z⟩,C,O⟩:=GA (P:=P) hc _ _ b sz D _ hp;exact gz.rows (Le u hc t tx e sz bytes zero d k l hd s x hs.tj m g C O hb ⟨_,eA.snoc _ _ _ _ _ _ _ N,z⟩)
   ·rename_i id gen off len v;rw[v]at hs;split at hp
    ·rename_i g W n c f hg;obtain⟨rfl,hp⟩:=hp;replace hp:=ck hp;obtain⟨p,hp⟩:=hp;simp only[As]at p;obtain rfl:=afM p.1;obtain rfl:=afM p.2;obtain⟨m,q,⟨hb,n',f',rfl,N,z⟩,C,Q⟩:=GA (P:=P) hc _ _ b sz D _ hp;exact gz.rows (Np u hc t tx e sz bytes zero d k l hd s x id g off len n f (ep hg) hs m q C Q hb ⟨_,eA.set _ _ _ _ _ _ _ _ N,z⟩)
    ·exact aiI
   ·exact aiI
  split at hp
  ·rename_i e sz bytes zero c W aa ad k B;exact main e sz bytes zero _ k (u.slice _ _ _ _ _ B).1 (.inl ⟨_,rfl⟩) hp
  ·rename_i e sz bytes zero k B;exact main e sz bytes zero _ k (u.str _ B) (.inr rfl) hp
  ·exact aiI
 ·exact aiI
theorem cw.Vo {pv:PV} {v:Value} (a:jG μ h S w pv v):cw μ h S w pv v:=by
 cases pv with
 | hJ b=>exact(show False from a).elim
 | _=>exact a
theorem Nr (hc:Core μ h S w) (o:∀t,cw μ h S w (env t) (a.tmps.getD t undef)) (g:Operand) (args:Array Operand) (l:Array TypeId) (hp:pop P T (.call ⟨.value g,args,l⟩) env h K):
  gz P ⟨dst,.call ⟨.value g,args,l⟩,ty,pos,after,guard⟩ a μ h S w K:=by
 have m:=cM o g;simp only[pop]at hp;split at hp
 ·rename_i f d;rw[d]at m;replace hp:=ck hp;obtain⟨i,R,⟨⟨fn,c,q,r,s⟩,y⟩,z⟩:=hp;simp only[afS]at i
  have A:=y w (args.map a.eval) μ S hc.heap hc.ok ajq (λj pv hj=>by
   rw[agd]at hj;cases b:args.toList[j]? with
   | none=>rw[b]at hj;cases hj
   | some x=>
    rw[b]at hj;injection hj with hj;subst hj;refine⟨a.eval x,by rw[ahO];simp only[agn]at b;rw[b];rfl,?_⟩;have hv:=cM o x;have k:=i x (afX b);cases he:ev env x with
    | hJ M=>rw[he]at k;cases k
    | _=>rw[he]at hv;exact hv)
  intro next Q B
  have C:(execOp a.eval ⟨dst,.call ⟨.value g,args,l⟩,ty,pos,after,guard⟩).run P w=.ok (.enter f (args.map a.eval)) w:=by
   simp only[execOp,resolve,m.RF,Deferred.ofValue,invoke,callFunc,Sem.run_bind,Sem.run_pure,Result.andThen_ok,Array.append_empty,ahz];have D:¬fn.name= "runtime.NumGoroutine" :=by simpa using s
   simp [program,Sem.run,Result.andThen,q,D,r]
  unfold Oper.wp;rw[C];show Calls P f (args.map a.eval) w _;refine A.mono λe w' ⟨v,res,h',μ',S',he,E,hv,F,G,H⟩=>?_;subst he;exact B res v h' μ' S' w' (z res h' E) hv ⟨F,G⟩ H
 ·rename_i f df d;rw[d]at m;replace hp:=ck hp;obtain⟨i,R,⟨⟨fn,c,q,r,s⟩,y⟩,z⟩:=hp;simp only[afS]at i;obtain⟨vs,I,J,L⟩:=(show tq μ h w f df (a.eval g)from m)
  have A:=y w (args.map a.eval++vs) μ S hc.heap hc.ok (by simp [J]) (λj pv hj=>by
   by_cases n:j<args.size
   ·rw[ago (by simpa using n),agd]at hj;cases b:args.toList[j]? with
    | none=>rw[b]at hj;cases hj
    | some x=>
     rw[b]at hj;injection hj with hj;subst hj;refine⟨a.eval x,by rw[agH (by simpa using n),ahO];simp only[agn]at b;rw[b];rfl,?_⟩;have hv:=cM o x;have k:=i x (afX b);cases he:ev env x with
     | hJ M=>rw[he]at k;cases k
     | _=>rw[he]at hv;exact hv
   ·rw[agh (by simpa using Nat.le_of_not_lt n),agd]at hj;simp only[ahp,agL]at hj;cases b:df[j - args.size]? with
    | none=>rw[b]at hj;cases hj
    | some p=>
     rw[b]at hj;injection hj with hj;subst hj;obtain⟨u,q1,q2⟩:=L _ p b;exact⟨u,by rw[Array.getElem?_append_right (by simpa using Nat.le_of_not_lt n)];simpa using q1,q2⟩)
  intro next Q B
  have C:(execOp a.eval ⟨dst,.call ⟨.value g,args,l⟩,ty,pos,after,guard⟩).run P w=.ok (.enter f (args.map a.eval++vs)) w:=by
   simp only[execOp,resolve,I,Deferred.ofValue,invoke,callFunc,Sem.run_bind,Sem.run_pure,Result.andThen_ok,ahz];have D:¬fn.name= "runtime.NumGoroutine" :=by simpa using s
   simp [program,Sem.run,Result.andThen,q,D,r]
  unfold Oper.wp;rw[C];show Calls P f (args.map a.eval++vs) w _;refine A.mono λe w' ⟨v,res,h',μ',S',he,E,hv,F,G,H⟩=>?_;subst he;exact B res v h' μ' S' w' (z res h' E) hv ⟨F,G⟩ H
 ·exact aiI
theorem Ac:∀(z xs d:List PV) (b:Bool),FU z xs d=some b->b=true->∀(j:Nat) (p q:PV),xs[j]? =some p->d[j]? =some q->p=q/\((∃k n,p=.int k n)\/(∃b,p=.bool b)\/∃s,p=.str s)
 | z,xs,d,b,hk,hb,j,p,q,hp,a=>by
  subst hb;unfold FU at hk;split at hk
  ·simp at hp
  ·obtain⟨hg,c,hc,e⟩:=cQ hk;simp only[As]at hg;obtain rfl:=eY hg.1;obtain rfl:=eY hg.2;have e:=e.symm;simp only[As,agJ]at e;obtain⟨rfl,rfl⟩:=e;cases j with
   | zero=>simp at hp a;subst hp;subst a;exact⟨rfl,.inl ⟨_,_,rfl⟩⟩
   | succ j=>exact Ac _ _ _ _ hc rfl j p q ajF (by simpa using a)
  ·obtain⟨hg,c,hc,e⟩:=cQ hk;have e:=e.symm;simp only[As,agJ]at e;obtain⟨rfl,rfl⟩:=e;cases j with
   | zero=>simp at hp a;subst hp;subst a;exact⟨rfl,.inr (.inl ⟨_,rfl⟩)⟩
   | succ j=>exact Ac _ _ _ _ hc rfl j p q ajF (by simpa using a)
  ·obtain⟨hg,c,hc,e⟩:=cQ hk;have e:=e.symm;simp only[As,agJ]at e;obtain⟨rfl,rfl⟩:=e;cases j with
   | zero=>simp at hp a;subst hp;subst a;exact⟨rfl,.inr (.inr ⟨_,rfl⟩)⟩
   | succ j=>exact Ac _ _ _ _ hc rfl j p q ajF (by simpa using a)
  ·cases hk
theorem Ad:∀(z xs a:List PV) (b:Bool),FU z xs a=some b->a.length=xs.length
 | z,xs,a,b,hk=>by
  unfold FU at hk;split at hk
  ·rfl
  ·obtain⟨_,c,hc,_⟩:=cQ hk;simp [Ad _ _ _ c hc]
  ·obtain⟨_,c,hc,_⟩:=cQ hk;simp [Ad _ _ _ c hc]
  ·obtain⟨_,c,hc,_⟩:=cQ hk;simp [Ad _ _ _ c hc]
  ·cases hk
theorem Ns (s:List UInt8):((ByteArray.mk ⟨s⟩)==(ByteArray.mk ⟨s⟩))=true:=by
 show((Array.mk s)==(Array.mk s))=true;simp
theorem A3 (n:Nat) {p:PV} {u v:Value} (hp:(∃k n,p=.int k n)\/(∃b,p=.bool b)\/∃s,p=.str s) (hu:wc p u) (hv:cD μ h S w p v):Instr.sameBits n u v=true:=by
 rcases hp with⟨k,m,rfl⟩ | ⟨b,rfl⟩ | ⟨s,rfl⟩
 ·have hu:u=_:=hu;have hv:bz S w (.int k m) v:=hv;cases hv;subst hu;cases n<;>simp [Instr.sameBits]
 ·have hu:u=_:=hu;have hv:bz S w (.bool b) v:=hv;cases hv;subst hu;cases n<;>simp [Instr.sameBits]
 ·have hu:u=_:=hu;have hv:bz S w (.str s) v:=hv;cases hv;subst hu;cases n<;>simp [Instr.sameBits,Ns]
theorem S5 {ti:TI} {kv l:PV} {key f:Value} (g:cw μ h S w kv key) (hs:uC l f) (a:nM ti kv l=some true):Instr.sameBits 10000 f key=true:=by
 unfold nM at a;split at a
 ·obtain⟨hg,c,hc,e⟩:=cQ a;simp only[As]at hg;obtain rfl:=eY hg.1;obtain rfl:=eY hg.2;have e:=e.symm;simp only[As,agJ]at e;obtain⟨rfl,_⟩:=e;exact A3 (μ:=μ) (h:=h) (S:=S) (w:=w) 10000 (.inl ⟨_,_,rfl⟩) hs g
 ·have a:=agy a;rw[agJ]at a;subst a;exact A3 (μ:=μ) (h:=h) (S:=S) (w:=w) 10000 (.inr (.inr ⟨_,rfl⟩)) hs g
 ·split at a
  ·rename_i z xs i _ _;obtain⟨n,rfl,o,q⟩:=(show jG μ h S w (.agg xs) key from g);obtain⟨k,rfl,y1,y2⟩:=(show ∃vs:Array Value,f=.agg vs/\vs.size=i.length/\∀(j:Nat) (pv:PV),i[j]? =some pv->∃u:Value,vs[j]? =some u/\wc pv u from hs);have hl:=Ad _ _ _ _ a;rw[show 10000=9999+1 from rfl,Instr.sameBits];rw[As];refine⟨by rw[agJ,o,y1,hl],afS.2 (λp hp=>?_)⟩;obtain⟨j,hj,rfl⟩:=agr.1 hp;have r:=hj;rw[List.length_zip,agL,agL]at r;have b:j<xs.length:=by omega
   have d:j<i.length:=by omega
   obtain⟨s,e2⟩:=Ac _ _ _ _ a rfl j _ _ (No b) (No d);obtain⟨u,hu,m⟩:=y2 j _ (No d);obtain⟨v,hv,t⟩:=q j _ (No b);rw[<-s]at m;have:=A3 9999 e2 m t;rw[List.getElem_zip];simp only[Array.getElem_toList];have h1:k[j]'ajo=u:=by rw[agk ajo]at hu;exact agy hu
   have h2:n[j]'ajo=v:=by rw[agk ajo]at hv;exact agy hv
   rw[h1,h2];exact this
  ·cases a
 ·cases a
theorem S6 {w1:World} (hc:Core μ h S w) (id g sz n l:Nat) (e:TypeId) (f m:Nat->List PV) (hh:h[id]? =some (ar.row g sz n e f)) (b base:Nat) (es:Array MapEntry) (c:Nat) (W:μ id=some (b,base))
  (hb:w.heap[b]? =some (.map es c)) (M:Array MapEntry) (c1:Nat) (hw:w1.heap[b]? =some (.map M c1)) (F:∀a,a≠b->w1.heap[a]? =w.heap[a]?) (wg:w1.heap.size=w.heap.size) (X:w1.os=w.os)
  (J5:w1.tape=w.tape) (MF:w1.output=w.output) (hl:∀i,i<l->(m i).length=sz)
  (N:M.size=l/\∀i,i<l->∃(O P:PV) (en:MapEntry),m i=[O,P]/\lC O=true/\lC P=true/\M[i]? =some en/\uC O en.key/\uC P en.val):
  Fr μ h S w μ (h.set id (.row (g+1) sz l e m)) S w1/\Core μ (h.set id (.row (g+1) sz l e m)) S w1:=by
 have hid:id<h.length:=(An.1 hh).1;have Q:(h.set id (ar.row (g+1) sz l e m))[id]? =some (ar.row (g+1) sz l e m):=by simp [hid]
 have s:∀j,j≠id->(h.set id (ar.row (g+1) sz l e m))[j]? =h[j]?:=λj hj=>by rw[agi (agX hj)]
 have Wz:Dw μ h b:=⟨id,g,sz,n,e,f,base,hh,W⟩;have yD:dc μ h b:=.inl Wz
 have yN:∀a,Dw μ (h.set id (ar.row (g+1) sz l e m)) a->Dw μ h a:=λa r=>by
  obtain⟨j,t,u,A,B,C,qn,hj,hm⟩:=r;by_cases d:j=id
  ·subst d;exact⟨j,g,sz,n,e,f,qn,hh,hm⟩
  ·rw[s j d]at hj;exact⟨j,t,u,A,B,C,qn,hj,hm⟩
 have R:∀j x y b,dD (h.set id (ar.row (g+1) sz l e m)) j x y b->dD h j x y b:=λj x y b ⟨t,u,A,B,C,G,H,I,J,F',q1,q2,q3,q4⟩=>by
  by_cases d:j=id
  ·subst d;rw[Q]at q1;injection q1 with q1;injection q1 with T e2 K U L;subst K L;obtain⟨O,P,en,r1,r2,r3,_⟩:=N.2 x q2;rw[r1]at q3
   match y,q3 with
   | 0,q3=>simp at q3;rw[q3]at r2;cases r2
   | 1,q3=>simp at q3;rw[q3]at r3;cases r3
   | y+2,q3=>simp at q3
  ·rw[s j d]at q1;exact aji
 have Y:∀a,dc μ (h.set id (ar.row (g+1) sz l e m)) a->dc μ h a:=λa r=>by
  rcases r with r | ⟨x,y,z,r⟩
  ·exact .inl (yN _ r)
  ·exact .inr ⟨x,y,z,R _ _ _ _ r⟩
 have u5:∀j x y a,dD h j x y a->w1.heap[a]? =w.heap[a]?:=λj x y a D=>F a (by
  rintro rfl;exact hc.ok.hv a Wz j x y D)
 have Z:Fr μ h S w μ (h.set id (.row (g+1) sz l e m)) S w1:=by
  refine⟨by simp,λa _ Ga=>F a (λhe=>Ga (he▸yD)),λ_ hb=>hb,λ_ hb=>.inl hb,λa r=>.inl (Y a r),by omega,X,J5,MF,λj t u A B C hj=>?_,λj hj=>?_,λa k _ fK=>?_,λj t u A B C a rR hj hm oJ=>?_,λa j x y D oJ=>let⟨E,c2,q⟩:=oJ;⟨E,c2,(u5 j x y a D).trans q⟩⟩
  ·by_cases d:j=id
   ·subst d;rw[hh]at hj;injection hj with hj;injection hj with T e2 K U L;subst T e2 K U L;rw[Q];exact⟨by omega,λhe=>absurd he ajo⟩
   ·rw[s j d,hj];exact ajg
  ·have d:j≠id:=by rintro rfl;rw[hh]at hj;cases hj
   rw[s j d];exact hj
  ·have rN:a≠b:=by
    rintro rfl;exact fK.HK ⟨es,c,hb⟩
   exact lD.of_same (F a rN) fK
  ·have hex:∃g' G H I J,(h.set id (ar.row (g+1) sz l e m))[j]? =some (ar.row g' G H I J):=by
    by_cases d:j=id
    ·subst d;exact⟨_,_,_,_,_,Q⟩
    ·exact⟨_,_,_,_,_,(s j d).trans hj⟩
   refine⟨?_,.inr ⟨hex,hm⟩⟩;by_cases V:a=b
   ·subst V;exact⟨M,c1,hw⟩
   ·obtain⟨E,c2,q⟩:=oJ;exact⟨E,c2,(F a V).trans q⟩
 refine⟨Z,⟨λj t u A B C hj=>?_,⟨λb hb=>hc.ok.apart b (Y b hb),λb hb=>by rw[wg];exact hc.ok.lt b (Y b hb),λb hb=>by rw[wg];exact hc.ok.slt b hb,?_,hc.ok.AS Z,λb hb x y z D=>hc.ok.hv b (yN b hb) x y z (R _ _ _ _ D),λb _ _ _ _ _ _ D hy=>hc.ok.hh b _ _ _ _ _ _ (R _ _ _ _ D) (R _ _ _ _ hy)⟩⟩⟩
 ·by_cases d:j=id
  ·subst d;rw[Q]at hj;injection hj with hj;injection hj with T e2 K U L;subst T e2 K U L;refine⟨hl,?_⟩;rw[W];exact⟨_,hw,N⟩
  ·rw[s j d]at hj;obtain⟨h1,h2⟩:=hc.heap j t u A B C hj;refine⟨h1,?_⟩;cases hm:μ j with
   | none=>rw[hm]at h2;exact h2
   | some p=>
    obtain⟨a,rR⟩:=p;rw[hm]at h2;obtain⟨o,q1,q2⟩:=h2
    have V:a≠b:=by
     rintro rfl;exact d (hc.ok.inj j id _ _ _ _ _ _ _ _ _ _ _ _ _ hj hh hm W)
    exact⟨o,(F a V).trans q1,q2.mono (λi y pv v hi hy N=>N.fr Z hc.ok (λG H I J F' he b2 qT=>u5 j i y b2 ⟨_,_,_,_,_,_,_,_,_,_,hj,hi,he▸hy,qT⟩))⟩
 ·intro i j gi Pg ni ei fi t u A B C a o o' hi hj qe oP
  have back:∀k gk WA nk ek fk,(h.set id (ar.row (g+1) sz l e m))[k]? =some (ar.row gk WA nk ek fk)->∃g' G H I J,h[k]? =some (ar.row g' G H I J):=λk gk WA nk ek fk hk=>by
   by_cases yE:k=id
   ·subst yE;exact⟨_,_,_,_,_,hh⟩
   ·rw[s k yE]at hk;exact⟨_,_,_,_,_,hk⟩
  obtain⟨_,_,_,_,_,h1⟩:=back _ _ _ _ _ _ hi;obtain⟨_,_,_,_,_,h2⟩:=back _ _ _ _ _ _ hj;exact hc.ok.inj i j _ _ _ _ _ _ _ _ _ _ _ _ _ h1 h2 qe oP
theorem PX {w1:World} (hc:Core μ h S w) (d:da w w1) (b:Nat) (hb:w.heap.size<=b) (A:b<w1.heap.size):Fr μ h S w μ h (λx=>S x\/x=b) w1/\Core μ h (λx=>S x\/x=b) w1:=by
 have g:Fr μ h S w μ h (λx=>S x\/x=b) w1:=by
  refine⟨abF _,λa f _=>d.blocks a f,λ_ hs=>.inl hs,λa f=>?_,λ_ e=>.inl e,d.size,d.os,d.tape,d.output,λj l m n r s hj=>?_,λ_ hd=>hd,λa k e B=>?_,λj l m n r s a C hj hm t=>?_,λa j x y D t=>let⟨u,E,q⟩:=t;⟨u,E,(d.blocks a (hc.ok.lt a (.inr ⟨j,x,y,D⟩))).trans q⟩⟩
  ·rcases f with f | rfl
   ·exact .inl f
   ·exact .inr (.inr hb)
  ·rw[hj];exact⟨abF _,λ_=>⟨rfl,rfl,rfl,rfl⟩⟩
  ·exact lD.of_same (d.blocks a (hc.ok.lt a e)) B
  ·obtain⟨es,c,q⟩:=t;exact⟨⟨es,c,(d.blocks a (hc.ok.lt a (.inl ⟨_,_,_,_,_,_,_,hj,hm⟩))).trans q⟩,.inr ⟨⟨_,_,_,_,_,hj⟩,hm⟩⟩
 refine⟨g,⟨λj l m n r s hj=>?_,⟨λa e hs=>?_,λa e=>agc (hc.ok.lt a e) d.size,λa hs=>?_,hc.ok.inj,hc.ok.AS g,hc.ok.hv,hc.ok.hh⟩⟩⟩
 ·obtain⟨h1,h2⟩:=hc.heap j l m n r s hj;refine⟨h1,?_⟩;cases hm:μ j with
  | none=>rw[hm]at h2;exact h2
  | some p=>
   obtain⟨a,C⟩:=p;rw[hm]at h2;obtain⟨o,q1,q2⟩:=h2;exact⟨o,(d.blocks a (hc.ok.lt a (.inl ⟨_,_,_,_,_,_,_,hj,hm⟩))).trans q1,q2.mono (λi y pv v hi hy F=>F.fr g hc.ok (λH I J K L he z G=>d.blocks z (hc.ok.lt z (.inr ⟨j,i,y,_,_,_,_,_,_,_,_,_,_,hj,hi,he▸hy,G⟩))))⟩
 ·rcases hs with hs | rfl
  ·exact hc.ok.apart a e hs
  ·exact absurd (hc.ok.lt a e) ajo
 ·rcases hs with hs | rfl
  ·exact agc (hc.ok.slt a hs) d.size
  ·exact A
theorem D7 (c:dL P T) (hc:Core μ h S w) (l:∀t,cw μ h S w (env t) (a.tmps.getD t undef)) (s d:Nat) (x:Operand) (hp:pop P T (.convert s d x) env h K):gz P ⟨dst,.convert s d x,ty,pos,after,guard⟩ a μ h S w K:=by
 simp only[pop]at hp;split at hp
 ·rename_i e sz u z b hs hd n;split at hp
  ·rename_i he;obtain⟨m,f,o⟩:=hp;have hv:=cM l x;rw[n]at hv;have p:=Lib.run_convert_string_bytes (P:=P) w s d e ⟨⟨b⟩⟩ (c.str _ hs) (c.slice _ _ _ _ _ hd).1 (c.int _ _ he)
   have g:da w (Lib.bytesWorld w e ⟨⟨b⟩⟩):=by
    have:=Lib.bytesWorld_below w e ⟨⟨b⟩⟩;exact⟨this.block,this.size,this.os,this.tape,this.output⟩
   obtain⟨q,r⟩:=PX hc g w.heap.size (abF _) (by rw[Lib.bytesWorld_size];omega);refine gz.jr (val:=.slice (some ⟨w.heap.size,0,none⟩) b.length (grownCap w b.length 0 e)) (dz rfl ?_) o ?_ r q
   ·rw[hv.pF];exact p
   ·show bz _ _ (.gn 1 b.length m) _;refine .gn 1 b.length m w.heap.size 0 _ (λi _=>.int .u8 (b.getD i 0).toNat) (.inr rfl) (λi hi=>by rw[f i hi];rfl) ?_ (λi j pv hi hj=>?_) (λi j pv hi hj=>?_)
    ·have:=grownCap_ge w b.length 0 e;omega
    ·rw[f i hi]at hj
     have k:j=0:=by
      have:=(An.1 hj).1;simpa using this
     subst k;have:=Lib.bytesWorld_cell w e ⟨⟨b⟩⟩ i (by show i<b.length;exact hi);rw[show 0+i*1+0=i by omega];exact this
    ·rw[f i hi]at hj
     have k:j=0:=by
      have:=(An.1 hj).1;simpa using this
     subst k;simp at hj;subst hj;exact .int _ _
  ·exact aiI
 ·exact .u6 hc (qB c hc.heap l hp)
theorem FC (f:dL P T) (hc:Core μ h S w) (t:Nat) (hp:pop P T (.makeMap t none) env h K):gz P ⟨dst,.makeMap t none,ty,pos,after,guard⟩ a μ h S w K:=by
 simp only[pop]at hp;split at hp
 ·rename_i kt g zv k;obtain⟨b,c⟩:=hp;obtain⟨d,e⟩:=Gb (w1:=w.alloc (.map #[] 0)) hc 2 0 t b (some (w.heap.size,0)) ⟨abF _,_,heap_alloc_new w _,rfl,λi hi=>absurd hi (agz _)⟩ (oK w _) (λi hi=>absurd hi (agz _)) (λi j pv hi=>absurd hi (agz _));refine gz.jr (val:=.map (some w.heap.size)) (dz rfl rfl) c ?_ e d;show gy _ _ _ _ _;unfold gy;rw[agh (abF _),agY];exact⟨⟨_,rfl⟩,w.heap.size,0,cb _ _ _,⟨_,_,heap_alloc_new w _⟩,rfl⟩
 ·exact aiI
theorem Ae:∀(z xs a:List PV) (b:Bool),FU z xs a=some b->xs.all wV=true/\xs.all oI=true
 | z,xs,a,b,hk=>by
  unfold FU at hk;split at hk
  ·exact ajb
  ·obtain⟨_,c,hc,_⟩:=cQ hk;obtain⟨h1,h2⟩:=Ae _ _ _ c hc;simp [wV,oI,h1,h2]
  ·obtain⟨_,c,hc,_⟩:=cQ hk;obtain⟨h1,h2⟩:=Ae _ _ _ c hc;simp [wV,oI,h1,h2]
  ·obtain⟨_,c,hc,_⟩:=cQ hk;obtain⟨h1,h2⟩:=Ae _ _ _ c hc;simp [wV,oI,h1,h2]
  ·cases hk
theorem S8 {ti:TI} {kv a:PV} {q:Bool} (h0:nM ti kv a=some q):lC kv=true/\storable kv=true:=by
 unfold nM at h0;split at h0
 ·exact ajb
 ·exact ajb
 ·split at h0
  ·exact Ae _ _ _ _ h0
  ·cases h0
 ·cases h0
theorem Af {pv:PV} {v:Value} (hs:wV pv=true) (hj:oI pv=true) (hv:cD μ h S w pv v):wc pv v:=by
 cases pv with
 | int k n=>have hv:bz S w (.int k n) v:=hv;cases hv;rfl
 | bool b=>have hv:bz S w (.bool b) v:=hv;cases hv;rfl
 | str s=>have hv:bz S w (.str s) v:=hv;cases hv;rfl
 | jI=>cases hj
 | _=>cases hs
theorem Oz {pv:PV} {v:Value} (hs:lC pv=true) (hj:storable pv=true) (hv:cw μ h S w pv v):uC pv v:=by
 cases pv with
 | agg cs=>
  obtain⟨vs,rfl,h1,h2⟩:=(show jG μ h S w (.agg cs) v from hv);refine⟨vs,rfl,h1,λj pv a=>?_⟩;obtain⟨u,q1,q2⟩:=h2 j pv a;have hm:=afX a;exact⟨u,q1,Af (afS.1 hs pv hm) (afS.1 hj pv hm) q2⟩
 | int k n=>exact Af (μ:=μ) (h:=h) (S:=S) (w:=w) (pv:=.int k n) hs hj hv
 | bool b=>exact Af (μ:=μ) (h:=h) (S:=S) (w:=w) (pv:=.bool b) hs hj hv
 | str s=>exact Af (μ:=μ) (h:=h) (S:=S) (w:=w) (pv:=.str s) hs hj hv
 | jI=>cases hj
 | _=>cases hs
theorem It {MM new:Value} {w':World} (h1:Instr.sameBits 10000 MM new=true):(Instr.keyThatStays MM new).run P w'=.ok new w':=by
 simp [Instr.keyThatStays,h1]
theorem PY {w:World} {b:Nat} {o a:Obj} (hb:w.heap[b]? =some o):({w with heap:=w.heap.setIfInBounds b a}:World).heap[b]? =some a:=by
 have:=(afN.1 hb).1;simp [this]
theorem Nt {w:World} {b a:Nat} {c:Obj} (hb:a≠b):({w with heap:=w.heap.setIfInBounds b c}:World).heap[a]? =w.heap[a]?:=by
 simp [Array.getElem?_setIfInBounds,agX hb]
theorem Ca (hT:dL P T) (hc:Core μ h S w) (L:∀t,cw μ h S w (env t) (a.tmps.getD t undef)) (t:Nat) (m k x:Operand) (hp:pop P T (.mapUpdate t m k x) env h K):
  gz P ⟨dst,.mapUpdate t m k x,ty,pos,after,guard⟩ a μ h S w K:=by
 have hm:=cM L m;have hk:=cM L k;have hx:=cM L x;simp only[pop]at hp;split at hp
 ·rename_i kt et zv id iu M;rw[M]at hm;split at hp
  ·rename_i g sz n e f FV;replace hp:=ck (cG (cG hp));obtain⟨ua,N,f',O,hK⟩:=hp;simp only[As]at ua;obtain⟨⟨⟨Q,R⟩,U⟩,V⟩:=ua;obtain rfl:=(afM V);obtain⟨hu,inf,z,oy,hz,lA,Wy,Ds⟩:=hT.map _ _ _ _ iu;have hh:=ep FV;obtain⟨bl,base,es,c,iz,ex,hb,H,I⟩:=Di hc.heap hh hm.HI;obtain⟨q0,h0⟩:=Option.isSome_iff_exists.1 Q;obtain⟨d,s,hd,TR,RM⟩:=N3 hT hk h0;obtain⟨W,X⟩:=S8 h0;have v:=Oz W X hk;have A:=Oz R U hx
   have zM:∀m,m<=n->FZ (T.get kt) f m (ev env k)->∀j,j<m->∀y:MapEntry,es.toList[j]? =some y->wU P kt d s (a.eval k) y.key false:=λm aq B j hj y hy=>by
    obtain⟨q,C,h1,h2⟩:=B j hj;obtain⟨Y,Z,en,h3,_,_,h4,h5,_⟩:=I j ajo;rw[h1]at h3;injection h3 with D e2;subst D;have:y=en:=by rw[agn]at hy;exact agy (hy.symm.trans h4)
    subst this;exact RM q y.key false h5 h2
   have main:∀(u:Array MapEntry) (J:Nat),(Instr.mapUpdate t (.map (some bl)) (a.eval k) (a.eval x)).run P w=.ok () {w with heap:=w.heap.setIfInBounds bl (.map u J)}->
     (u.size=N/\∀i,i<N->∃(q C:PV) (en:MapEntry),f' i=[q,C]/\lC q=true/\lC C=true/\u[i]? =some en/\uC q en.key/\uC C en.val)->
     gz P ⟨dst,.mapUpdate t m k x,ty,pos,after,guard⟩ a μ h S w K:=by
    intro u J nL hr
    obtain⟨kC,uQ⟩:=S6 (w1:={w with heap:=w.heap.setIfInBounds bl (.map u J)}) hc id g 2 n N e f f' hh bl base es c iz hb u J (PY hb) (λb' oR=>Nt oR) ajq rfl rfl rfl
     (λi hi=>by obtain⟨q,C,en,h1,_⟩:=hr.2 i hi;rw[h1];rfl) hr
    refine gz.N7 ?_ hK uQ kC;have D:(execOp a.eval ⟨dst,.mapUpdate t m k x,ty,pos,after,guard⟩)=(do Instr.mapUpdate t (a.eval m) (a.eval k) (a.eval x);pure .skip:Sem Next):=rfl;rw[D,ex];simp only[Sem.run_bind,nL,Result.andThen,Sem.run_pure]
   rcases O with⟨E,r,⟨aa,B,ad,YH,F⟩,b,OA,S9⟩ | ⟨B,b,OA,S9⟩
   ·obtain⟨Y,Z,en,h3,h8,h6,h4,h5,h7⟩:=I E aa;rw[YH]at h3;injection h3 with D e2;injection e2 with e2 _;subst D e2;have Dt:=Dl (P:=P) (w':=w) hd es.toList E en (zM E ajo B) (by rw[agn];exact h4) (RM ad en.key true h5 F);have ag:=It (P:=P) (w':=w) (S5 hk h5 F);refine main (es.modify E λe=>{e with key:=a.eval k,val:=a.eval x}) c ?_ ⟨by simp [H,b],λi hi=>?_⟩
    ·simp [Instr.mapUpdate,run_underlying hu,run_getObj_map w bl es c hb,TR,Dt,h4,ag,MapKept.run_setObj_map _ hb]
    ·by_cases G:i=E
     ·subst G;refine⟨_,_,{en with key:=a.eval k,val:=a.eval x},OA,W,R,?_,v,A⟩;rw[Array.getElem?_modify,an rfl,h4];rfl
     ·obtain⟨l,o,p,g1,g2,g3,g4,g5,g6⟩:=I i ajo;refine⟨l,o,p,by rw[S9 i ajo G,g1],g2,g3,?_,g5,g6⟩;rw[Array.getElem?_modify,mg (agX G),g4]
   ·have Dt:=zJ (P:=P) (w':=w) hd es.toList (λj y hy=>zM n (abF _) B j (by
      have:=(An.1 hy).1;rw[<-H];simpa using this) y hy)
    refine main (es.push {key:=a.eval k,val:=a.eval x,born:=c}) (c+1) ?_ ⟨by simp [H,b],λi hi=>?_⟩
    ·simp [Instr.mapUpdate,run_underlying hu,run_getObj_map w bl es c hb,TR,Dt,MapKept.run_setObj_map _ hb]
    ·by_cases G:i=n
     ·subst G;refine⟨_,_,{key:=a.eval k,val:=a.eval x,born:=c},OA,W,R,?_,v,A⟩;rw[<-H];simp
     ·obtain⟨l,o,p,g1,g2,g3,g4,g5,g6⟩:=I i ajo;refine⟨l,o,p,by rw[S9 i ajo,g1],g2,g3,?_,g5,g6⟩;rw[Array.getElem?_push,mg ajo,g4]
  ·exact aiI
 ·exact aiI
theorem Iu (j:dL P T) (hc:Core μ h S w) (i:∀t,cw μ h S w (env t) (a.tmps.getD t undef)) (k:BinOp) (t l:TypeId) (x y:Operand) (hp:pop P T (.binOp k t x y l) env h K):
  gz P ⟨dst,.binOp k t x y l,ty,pos,after,guard⟩ a μ h S w K:=by
 simp only[pop]at hp;split at hp
 ·rename_i e sz u z m n f o p hy;obtain⟨h1,h2⟩:=hp;have rx:=cM i x;have g:=cM i y;rw[p]at rx;rw[hy]at g;have rx:bz S w (.gn m n f) (a.eval x):=rx;have g:bz S w .au (a.eval y):=g
  have q:a.eval y=.slice none 0 0:=by
   generalize a.eval y=v at g;cases g;rfl
  obtain⟨d,c,ex,r⟩:∃d c,a.eval x=.slice d n c/\(d=none->n=0):=by
   generalize a.eval x=v at rx;cases rx with
   | tM _ _ d c=>exact⟨d,c,rfl,λ_=>rfl⟩
   | gn _ _ _ b off c A _ _ _ _ _=>exact⟨_,c,rfl,λh0=>by cases h0⟩
  obtain⟨hu,_⟩:=j.slice _ _ _ _ _ o;have hg:eqGuard .eql t x y (a.eval x) (a.eval y)=pure ():=by rw[ex];apply eqGuard_at_slice
  have s:K (.bool d.isNone) h:=by
   cases d with
   | none=>exact h1 (r rfl)
   | some _=>exact h2
  refine .u6 hc (.mk (v:=.bool d.isNone) s (bz.bool _) λw' _=>Bj (N0 hg ?_));rw[ex,q];first | exact Lib.run_eql_slice_nil _ _ _ _ _ _ _ _ hu | exact run_eql_slice_nil _ _ _ _ _ _ hu
 ·exact .u6 hc (qB j hc.heap i hp)
theorem GC (e:dL P T) (hc:Core μ h S w) (f:∀t,cw μ h S w (env t) (a.tmps.getD t undef)) {op:Op} (hp:pop P T op env h K):
  gz P ⟨dst,op,ty,pos,after,guard⟩ a μ h S w K:=by
 cases op with
 | store t j x=>exact J9 e hc f t j x hp
 | makeSlice t l c=>exact MG e hc f t l c hp
 | box t x=>exact Pj hc f t x hp
 | alloc t=>exact Kb e hc t hp
 | buildSlice t len parts=>exact AV e hc f t len parts hp
 | convert s d x=>exact D7 e hc f s d x hp
 | binOp n t x y o=>exact Iu e hc f n t o x y hp
 | makeMap t r=>cases r with
  | none=>exact FC e hc t hp
  | some r=>exact hp.elim
 | mapUpdate t m k x=>exact Ca e hc f t m k x hp
 | call c=>
  obtain⟨g,args,i⟩:=c;cases g with
  | value p=>exact Nr hc f p args i hp
  | invoke r m=>exact .u6 hc (qB e hc.heap f hp)
  | builtin b=>cases b with
   | append=>exact Is e hc f args i hp
   | _=>exact .u6 hc (qB e hc.heap f hp)
 | _=>exact .u6 hc (qB e hc.heap f hp)
end
section
variable {P:Program}{T:sI}{μ:Mu}{h η:List ar}{k:List Nat}{S:Nat->Prop}{w:World}{m:Nat}
theorem wB.get:∀(l r:List PV),wB h η k l r->r.length=l.length/\∀(j:Nat) (pv c:PV),l[j]? =some pv->r[j]? =some c->Fz h η k pv c
 | [],[],_=>⟨rfl,λj pv c hj=>by simp at hj⟩
 | [],_::_,hh=>hh.elim
 | _::_,[],hh=>hh.elim
 | a::l,b::r,hh=>by
  obtain⟨h1,h2⟩:=hh;obtain⟨q1,q2⟩:=wB.get l r h2;refine⟨by simp [q1],λj pv c hj d=>?_⟩;cases j with
  | zero=>
   simp at hj d;subst hj d;exact h1
  | succ j=>exact q2 j pv c ajy (by simpa using d)
theorem qL:∀(l:List ar) (r:List Nat) (i:Nat),mW h η k m i l r->l.length=r.length/\∀(j:Nat) (o:ar),l[j]? =some o->∃id,r[j]? =some id/\xP h η k m o (i+j) id
 | [],[],i,_=>⟨rfl,λj o hj=>by simp at hj⟩
 | [],_::_,_,hh=>hh.elim
 | _::_,[],_,hh=>hh.elim
 | o::l,id::r,i,hh=>by
  obtain⟨h1,h2⟩:=hh;obtain⟨q1,q2⟩:=qL l r (i+1) h2;refine⟨by simp [q1],λj b hj=>?_⟩;cases j with
  | zero=>
   simp at hj;subst hj;exact⟨id,rfl,h1⟩
  | succ j=>
   simp at hj;obtain⟨a,r1,c⟩:=q2 j b hj;exact⟨a,by simpa using r1,by rw[show i+(j+1)=i+1+j from by omega];exact c⟩
def oB (μ:Mu) (h:List ar) (k:List Nat):Mu:=λa=>match k[a]? with | some id=>(match h[id]? with | some _=>μ id | none=>none) | none=>none
theorem vM {μ:Mu} {h:List ar} {k:List Nat} {id a:Nat} {o:ar} (hk:k[a]? =some id) (b:h[id]? =some o):oB μ h k a=μ id:=by unfold oB;rw[hk];simp only[b]
theorem GD {μ:Mu} {h:List ar} {k:List Nat} {id a:Nat} (hk:k[a]? =some id) (b:h[id]? =none):oB μ h k a=none:=by unfold oB;rw[hk];simp only[b]
def GF (μ:Mu) (h:List ar) (k:List Nat) (S:Nat->Prop):Nat->Prop:=
 λb=>S b\/∃(id g sz n:Nat) (e:TypeId) (f:Nat->List PV) (base:Nat),id∉k/\h[id]? =some (ar.row g sz n e f)/\(μ id=some (b,base)\/∃i j,dD h id i j b)
theorem Ta {S S':Nat->Prop} {w:World} (s:∀b,S b->S' b) {pv:PV} {v:Value} (h:oz S w pv v):∀d,B5 pv d->(∀sz n e f F,pv=.aV sz n e f F->∀b,F b->S' b)->bz S' w d v:=by
 induction h with
 | nil sz e f F o=>
  intro d m _;cases m;exact .tM _ _ _ _
 | Lj sz n e f F b off c a cur t o hb hlen hc u E x y G z H A=>
  intro d m hk;have hk:=hk _ _ _ _ _ rfl;cases m with
  | mk _ _ _ _ p _ hl hf g hp=>
   rcases agO n with h0 | h0
   ·subst h0;exact .tM _ _ _ _
   ·obtain rfl:=u ajo
    have get:∀(i j:Nat) (d:PV),i<n->(p i)[j]? =some d->∃pv,(f i)[j]? =some pv:=λi j d hi hj=>by
     have B:j<(f i).length:=by rw[<-hl i hi];exact(An.1 hj).1
     exact⟨_,No B⟩
    refine .gn sz n p b off c t (hk b o) (λi hi=>by rw[hl i hi];exact hlen i hi) hc (λi j d hi hj=>?_) (λi j d hi hj=>?_)
    ·obtain⟨pv,k⟩:=get i j d hi hj;rw[cell_of_row w b _ cur e (0,0) hb,<-x i j pv hi k]
    ·obtain⟨pv,k⟩:=get i j d hi hj;cases l:dM pv with
     | false=>
      rw[hf i j pv d hi k hj l];rcases y i j pv hi k with q | ⟨_,_,_,_,_,q⟩
      ·exact q.mono (λ_ _=>rfl) s
      ·rw[q]at l;cases l
     | true=>
      have g:=g i j pv d hi k hj l;cases pv with
      | aV qs n2 e2 f2 C=>exact A i j qs n2 e2 f2 C hi k d g (λ_ _ _ _ _ he r D=>by
        injection he with _ _ _ _ he;subst he;exact hk r (z i j _ _ _ _ _ hi k r D).1)
      | _=>cases l
theorem A4 {μ':Mu} {h':List ar} {S':Nat->Prop} {pv:PV} {v:Value} (hp:bW pv=true) (hc:cD μ' h' S' w pv v):bz S' w pv v:=by
 cases pv<;>first | exact hc | cases hp
theorem xj (hc:Core μ h S w) (hh:mW h η k m 0 η k) {pv l:PV} (Z:Fz h η k pv l):
  (∀v,cD μ h S w pv v->cD (oB μ h k) η (GF μ h k S) w l v)/\(∀v,jG μ h S w pv v->jG (oB μ h k) η (GF μ h k S) w l v)/\(∀v,cw μ h S w pv v->cw (oB μ h k) η (GF μ h k S) w l v):=by
 have up:∀pv v,bz S w pv v->bz (GF μ h k S) w pv v:=λpv v hp=>bz.mono (λ_ _=>rfl) (λb hb=>.inl hb) hp
 have same:∀pv:PV,(∀v,cD μ h S w pv v->bz S w pv v)->(∀v,jG μ h S w pv v->cD μ h S w pv v)->(∀v,cw μ h S w pv v->jG μ h S w pv v)->∀l:PV,(∀v,bz S w pv v->bz (GF μ h k S) w l v)->
   (∀v,cD μ h S w pv v->cD (oB μ h k) η (GF μ h k S) w l v)/\(∀v,jG μ h S w pv v->cD (oB μ h k) η (GF μ h k S) w l v)/\(∀v,cw μ h S w pv v->cD (oB μ h k) η (GF μ h k S) w l v):=
  λpv h1 h2 h3 l hp=>⟨λv hv=>cD.my (hp v (h1 v hv)),λv hv=>cD.my (hp v (h1 v (h2 v hv))),λv hv=>cD.my (hp v (h1 v (h2 v (h3 v hv))))⟩
 induction Z with
 | int k' n=>exact same (.int k' n) (λ_ h=>h) (λ_ h=>h) (λ_ h=>h) _ (up _)
 | bool b=>exact same (.bool b) (λ_ h=>h) (λ_ h=>h) (λ_ h=>h) _ (up _)
 | str s=>exact same (.str s) (λ_ h=>h) (λ_ h=>h) (λ_ h=>h) _ (up _)
 | au=>exact same .au (λ_ h=>h) (λ_ h=>h) (λ_ h=>h) _ (up _)
 | jq=>exact same .jq (λ_ h=>h) (λ_ h=>h) (λ_ h=>h) _ (up _)
 | WS sz f=>exact same .au (λ_ h=>h) (λ_ h=>h) (λ_ h=>h) (.gn sz 0 f) (λv hv=>by cases hv;exact .tM _ _ _ _)
 | abY id d x D E r hk o hη=>
  have key:∀v,v=Value.slice none 0 0->cf (oB μ h k) η w d x 0 0 v:=λv hv=>by
   unfold cf;rw[hη];refine⟨⟨_,_,_,hv⟩,abF _,λ_=>⟨abF _,?_⟩⟩;rw[GD hk o];exact hv
  have inv:∀v,bz S w .au v->v=Value.slice none 0 0:=λv hv=>by cases hv;rfl
  exact⟨λv hv=>key v (inv v hv),λv hv=>key v (inv v hv),λv hv=>key v (inv v hv)⟩
 | fn f=>exact same (.fn f) (λ_ h=>h) (λ_ h=>h) (λ_ h=>h) _ (up _)
 | fT cs=>exact same (.fT cs) (λ_ h=>h) (λ_ h=>h) (λ_ h=>h) _ (up _)
 | gn sz n f r hf=>
  exact same (.gn sz n f) (λ_ h=>h) (λ_ h=>h) (λ_ h=>h) (.gn sz n r) (λv hv=>by
   have hv:=up _ _ hv;cases hv with
   | tM _ _ a c=>exact .tM _ _ _ _
   | gn _ _ _ b off c vf h1 h2 h3 h4 h5=>
    exact .gn sz n r b off c vf h1 (λi hi=>by rw[hf i hi];exact h2 i hi) h3 (λi j pv hi hj=>h4 i j pv hi ajE) (λi j pv hi hj=>h5 i j pv hi ajE))
 | jI pv=>exact⟨λv hv=>hv.one,λ_ _=>trivial,λ_ _=>trivial⟩
 | aV sz n e f F=>exact⟨λv hv=>hv,λv hv=>hv,λv hv=>hv⟩
 | pK sz e f=>exact⟨λv hv=>cD.one hv,λv hv=>cD.one (pv:=.au) (μ:=μ) (h:=h) hv,λv hv=>cD.one (pv:=.au) (μ:=μ) (h:=h) hv⟩
 | own id d g x sz D n I off len e E f r hk o hη z=>
  have key:∀v,cf μ h w id g off len v->cf (oB μ h k) η w d x off len v:=λv hv=>by
   unfold cf at hv ⊢;rw[o]at hv;rw[hη];obtain⟨h1,_,A⟩:=hv;have J:=A rfl;clear A;obtain⟨h2,h3⟩:=J;obtain⟨_,dx⟩:=qL η k 0 hh;obtain⟨R,r1,q⟩:=dx d _ hη;rw[hk]at r1;injection r1 with r1;subst r1;unfold xP at q;rw[o]at q;obtain⟨_,rfl,_,_⟩:=q;refine⟨h1,abF _,λ_=>⟨z,?_⟩⟩;have hm:oB μ h k d=μ id:=vM hk o;rw[hm];exact h3
  exact⟨key,key,key⟩
 | bE id d g x sz D n I i off e E f r hk o hη z=>
  have key:∀v,cE μ h w id g i off v->cE (oB μ h k) η w d x i off v:=λv hv=>by
   unfold cE at hv ⊢;rw[o]at hv;rw[hη];obtain⟨h1,_,A⟩:=hv;have J:=A rfl;clear A;obtain⟨h2,h3⟩:=J;obtain⟨_,dx⟩:=qL η k 0 hh;obtain⟨R,r1,q⟩:=dx d _ hη;rw[hk]at r1;injection r1 with r1;subst r1;unfold xP at q;rw[o]at q;obtain⟨_,rfl,_,rfl,_⟩:=q;refine⟨h1,abF _,λ_=>⟨z,?_⟩⟩;have hm:oB μ h k d=μ id:=vM hk o;rw[hm];exact h3
  exact⟨key,key,key⟩
 | uP f df Lm hl K=>
  have key:∀v,tq μ h w f df v->tq (oB μ h k) η w f Lm v:=λv hv=>by
   obtain⟨vs,h1,h2,h3⟩:=hv;refine⟨vs,h1,h2.trans hl.symm,λj T hj=>?_⟩;have U:j<df.length:=by rw[<-hl];exact(An.1 hj).1
   obtain⟨hk,⟨sz,n,e,g,o⟩,D,I,E,x,hη,z⟩:=K j _ T (No U) hj;obtain⟨u,q1,q2⟩:=h3 j _ (No U);refine⟨u,q1,?_⟩;unfold cE at q2 ⊢;rw[o]at q2;rw[hη];obtain⟨L,_,G⟩:=q2;have M:=G rfl;clear G;obtain⟨V,a5⟩:=M;obtain⟨_,dx⟩:=qL η k 0 hh;obtain⟨R,r1,q⟩:=dx T.1 _ hη;rw[hk]at r1;injection r1 with r1;subst r1;unfold xP at q;rw[o]at q;obtain⟨_,rfl,_,rfl,_⟩:=q;refine⟨L,abF _,λ_=>⟨z,?_⟩⟩;rw[vM hk o];exact a5
  exact⟨key,key,key⟩
 | ql id d g x sz D n I e E f r hk o hη=>
  have key:∀v,gy μ h w id v->gy (oB μ h k) η w d v:=λv hv=>by
   unfold gy at hv ⊢;rw[o]at hv;rw[hη];obtain⟨h1,b,base,q1,q2,q3⟩:=hv;exact⟨h1,b,base,(vM hk o).trans q1,q2,q3⟩
  exact⟨key,key,key⟩
 | frz id g sz n off len e f r hk o hl hp hf B=>
  have key:∀v,cf μ h w id g off len v->cD (oB μ h k) η (GF μ h k S) w (.gn sz len r) v:=λv hv=>by
   refine cD.my ?_;unfold cf at hv;rw[o]at hv;obtain⟨_,_,hv⟩:=hv;obtain⟨hle,hv⟩:=hv rfl;obtain⟨N,H⟩:=hc.heap id g sz n e f o;cases O:μ id with
   | none=>
    rw[O]at hv H;have z:n=0:=H;have h0:len=0:=by omega
    subst h0;have hv:v=.slice none 0 0:=hv;subst hv;exact .tM _ _ _ _
   | some p=>
    obtain⟨b,base⟩:=p;rw[O]at hv H;obtain⟨ad,cap,rfl,T8,P,MA⟩:=hv;obtain⟨cur,pJ,xU,nn⟩:=cW.cells MA H;rcases agO len with h0 | h0
    ·subst h0;exact .tM _ _ _ _
    ·have P:=P ajo;subst P
     have W:∀(i j:Nat) (l:PV),i<len->(r i)[j]? =some l->∃u,w.cell? ⟨b,base+off*sz+i*sz+j,none⟩=some u/\bz (GF μ h k S) w l u:=λi j l hi hj=>by
      have C:j<(f (off+i)).length:=by rw[<-hl i hi];exact(An.1 hj).1
      have t:=No C;obtain⟨u,h1,h2⟩:=nn (off+i) j _ ajo t
      have h3:bz (GF μ h k S) w l u:=by
       by_cases y:B5 (f (off+i))[j] l
       ·generalize aa:(f (off+i))[j]=pv at y h2 t;cases y with
        | mk qs n2 e2 f2 Q X L G M V=>
         exact Ta (λb hb=>.inl hb) (show oz S w (.aV qs n2 e2 f2 X) u from h2) _ (.mk qs n2 e2 f2 Q X L G M V) (λ_ _ _ _ _ he b' oR=>by
          injection he with _ _ _ _ he;subst he;exact .inr ⟨id,g,sz,n,e,f,base,hk,o,.inr ⟨off+i,j,_,_,_,_,_,_,_,_,_,_,o,by omega,t,oR⟩⟩)
       ·exact A4 (hp i j l hi hj) ((B i j _ l hi t hj y).1 u h2.c)
      refine⟨u,?_,h3⟩;rw[cell_of_row w b _ cur e (0,0) pJ,<-h1];congr 1;rw[aga];omega
     refine .gn sz len r b (base+off*sz) cap (λi j=>(w.cell? ⟨b,base+off*sz+i*sz+j,none⟩).getD undef) (.inr ⟨id,g,sz,n,e,f,base,hk,o,.inl O⟩) (λi hi=>by rw[hl i hi];exact N _ ajo) T8 (λi j pv hi hj=>?_) (λi j pv hi hj=>?_)
     ·obtain⟨u,h1,_⟩:=W i j pv hi hj;rw[h1];rfl
     ·obtain⟨u,h1,h2⟩:=W i j pv hi hj;simp only[h1,ahH];exact h2
  exact⟨key,key,key⟩
 | agg cs Y hl K B=>
  have key:∀v,jG μ h S w (.agg cs) v->jG (oB μ h k) η (GF μ h k S) w (.agg Y) v:=λv hv=>by
   obtain⟨vs,h1,h2,h3⟩:=hv;refine⟨vs,h1,h2.trans hl.symm,λj l hj=>?_⟩;have C:j<cs.length:=by rw[<-hl];exact(An.1 hj).1
   have t:=No C;obtain⟨u,q1,q2⟩:=h3 j _ t;exact⟨u,q1,(B j _ l t hj).1 u q2⟩
  exact⟨λ_ hv=>(show False from hv).elim,key,key⟩
 | hJ cs Y hl K B=>
  refine⟨λ_ hv=>(show False from hv).elim,λ_ hv=>(show False from hv).elim,λv hv=>?_⟩;obtain⟨vs,h1,h2,h3⟩:=hv;refine⟨vs,h1,h2.trans hl.symm,λj l hj=>?_⟩;have C:j<cs.length:=by rw[<-hl];exact(An.1 hj).1
  have t:=No C;obtain⟨u,q1,q2⟩:=h3 j _ t;exact⟨u,q1,(B j _ l t hj).2.1 u q2⟩
end
section
variable {P:Program}{T:sI}{μ:Mu}{h η:List ar}{k:List Nat}{S:Nat->Prop}{w:World}{m:Nat}
theorem Tb {a c:PV} (e:Fz h η k a c) (d:wV a=true):wV c=true/\∀v,wc a v->wc c v:=by
 cases e with
 | int f n=>exact⟨rfl,λ_ h=>h⟩
 | bool b=>exact⟨rfl,λ_ h=>h⟩
 | str s=>exact⟨rfl,λ_ h=>h⟩
 | jI _=>exact⟨rfl,λv h=>by
   cases a<;>first | (cases d;done) | (have h:v=_:=h;subst h;rfl) | exact h⟩
 | _=>cases d
theorem OC {a d:PV} (g:Fz h η k a d) (e:lC a=true):lC d=true/\∀v,uC a v->uC d v:=by
 cases g with
 | int p n=>exact⟨rfl,λ_ h=>h⟩
 | bool b=>exact⟨rfl,λ_ h=>h⟩
 | str s=>exact⟨rfl,λ_ h=>h⟩
 | jI _=>exact⟨rfl,λ_ _=>trivial⟩
 | agg cs i hl hc=>
  have el:∀j c,i[j]? =some c->∃pv,cs[j]? =some pv/\wV c=true/\∀v,wc pv v->wc c v:=λj c hj=>by
   have f:j<cs.length:=by rw[<-hl];exact(An.1 hj).1
   have h1:=No f;have h2:=Tb (hc j _ _ h1 hj) (afS.1 e _ (afQ f));exact⟨_,h1,h2⟩
  refine⟨afS.2 (λx l=>?_),λv hv=>?_⟩
  ·obtain⟨j,hj,rfl⟩:=agr.1 l;obtain⟨_,_,h2,_⟩:=el j _ (No hj);exact h2
  ·obtain⟨vs,q1,q2,q3⟩:=hv;refine⟨vs,q1,q2.trans hl.symm,λj c hj=>?_⟩;obtain⟨pv,m,_,e2⟩:=el j c hj;obtain⟨u,hu,o⟩:=q3 j pv m;exact⟨u,hu,e2 u o⟩
 | _=>cases e
theorem D8:∀{l:List Nat} {x i:Nat},l[i]? =some x->PZ l x=true
 | [],x,i,h=>by simp at h
 | a::r,x,0,h=>by
  simp at h;subst h;unfold PZ;rw[show Nat.beq a a=true from ahc a]
 | a::r,x,i+1,h=>by
  unfold PZ;cases Nat.beq a x
  ·exact D8 ajC
  ·rfl
theorem xF:∀{η:List ar} {k:List Nat} {i id g sz n:Nat} {e:TypeId} {f:Nat->List PV},η[i]? =some (ar.row g sz n e f)->k[i]? =some id->∃j:Nat,(rq η k)[j]? =some id
 | [],_,i,_,_,_,_,_,_,h,_=>by simp at h
 | _::_,[],i,_,_,_,_,_,_,_,h=>by simp at h
 | .row _ _ _ _ _::r,a::is,0,id,_,_,_,_,_,_,h=>by simp at h;subst h;exact⟨0,rfl⟩
 | .dead::r,a::is,0,id,_,_,_,_,_,h,_=>by simp at h
 | .row _ _ _ _ _::r,a::is,i+1,id,_,_,_,_,_,h1,h2=>by
  obtain⟨j,hj⟩:=xF (i:=i) ajH ajG;exact⟨j+1,by simpa[rq]using hj⟩
 | .dead::r,a::is,i+1,id,_,_,_,_,_,h1,h2=>by
  obtain⟨j,hj⟩:=xF (i:=i) ajH ajG;exact⟨j,by simpa[rq]using hj⟩
theorem xG:∀{η:List ar} {k:List Nat} {i j id g sz n d l m:Nat} {e o:TypeId} {f p:Nat->List PV},rK (rq η k)=true->η[i]? =some (ar.row g sz n e f)->k[i]? =some id->η[j]? =some (ar.row d l m o p)->k[j]? =some id->i=j
 | [],_,i,_,_,_,_,_,_,_,_,_,_,_,_,_,h,_,_,_=>by simp at h
 | _::_,[],i,_,_,_,_,_,_,_,_,_,_,_,_,_,_,h,_,_=>by simp at h
 | .row _ _ _ _ _::r,a::is,0,0,_,_,_,_,_,_,_,_,_,_,_,_,_,_,_,_=>rfl
 | .row _ _ _ _ _::r,a::is,0,j+1,id,_,_,_,_,_,_,_,_,_,_,b,_,h2,h3,h4=>by
  simp at h2;subst h2;obtain⟨q,c⟩:=xF (η:=r) (k:=is) (i:=j) (by simpa using h3) (by simpa using h4);unfold rq rK at b;rw[D8 c]at b;cases b
 | .row _ _ _ _ _::r,a::is,i+1,0,id,_,_,_,_,_,_,_,_,_,_,b,h1,h2,_,h4=>by
  simp at h4;subst h4;obtain⟨q,c⟩:=xF (η:=r) (k:=is) (i:=i) ajH ajG;unfold rq rK at b;rw[D8 c]at b;cases b
 | .row _ _ _ _ _::r,a::is,i+1,j+1,id,_,_,_,_,_,_,_,_,_,_,b,h1,h2,h3,h4=>by
  unfold rq rK at b;cases hm:PZ (rq r is) a with
  | true=>rw[hm]at b;cases b
  | false=>
   rw[hm]at b;rw[xG (η:=r) (k:=is) (i:=i) (j:=j) b ajH ajG (by simpa using h3) (by simpa using h4)]
 | .dead::r,a::is,0,_,_,_,_,_,_,_,_,_,_,_,_,_,h,_,_,_=>by simp at h
 | .dead::r,a::is,_+1,0,_,_,_,_,_,_,_,_,_,_,_,_,_,_,h,_=>by simp at h
 | .dead::r,a::is,i+1,j+1,id,_,_,_,_,_,_,_,_,_,_,b,h1,h2,h3,h4=>by
  rw[xG (η:=r) (k:=is) (i:=i) (j:=j) b ajH ajG (by simpa using h3) (by simpa using h4)]
theorem Ag (hc:Core μ h S w) (hh:mW h η k m 0 η k) (hk:rK (rq η k)=true):Core (oB μ h k) η (GF μ h k S) w/\(∀b,dc (oB μ h k) η b->dc μ h b)/\∀b,GF μ h k S b->S b\/dc μ h b:=by
 obtain⟨hlen,dx⟩:=qL η k 0 hh
 have back:∀(a v r l:Nat) (s:TypeId) (t:Nat->List PV),η[a]? =some (ar.row v r l s t)->(l=0/\oB μ h k a=none)\/∃(id g:Nat) (f:Nat->List PV),k[a]? =some id/\(∃n,h[id]? =some (ar.row g r n s f)/\l<=n/\(l=n\/r≠2))/\oB μ h k a=μ id/\
   ∀i,i<l->(t i).length=(f i).length/\∀(j:Nat) (pv C:PV),(f i)[j]? =some pv->(t i)[j]? =some C->Fz h η k pv C:=λa v r l s t hη=>by
  obtain⟨id,r1,d⟩:=dx a _ hη;unfold xP at d;cases D:h[id]? with
  | none=>rw[D]at d;exact .inl ⟨d.2,GD r1 D⟩
  | some o=>
   cases o with
   | dead=>rw[D]at d;exact d.elim
   | row g sz n e f=>
    rw[D]at d;obtain⟨_,rfl,U,rfl,E⟩:=d;refine .inr ⟨id,g,f,r1,⟨n,D,?_⟩,vM r1 D,λi hi=>wB.get _ _ (E i hi)⟩;rcases U with rfl | ⟨_,r5,r6⟩
    ·exact⟨abF _,.inl rfl⟩
    ·exact⟨r6,.inr r5⟩
 have V:∀b,Dw (oB μ h k) η b->∃id,id∈k/\∃g sz n e f base,h[id]? =some (ar.row g sz n e f)/\μ id=some (b,base):=λb hb=>by
  obtain⟨a,v,r,l,s,t,base,hη,hm⟩:=hb;rcases back a v r l s t hη with⟨_,q3⟩ | ⟨id,g,f,q1,⟨n,q2,_⟩,q3,_⟩
  ·rw[q3]at hm;cases hm
  ·rw[q3]at hm;exact⟨id,afX q1,g,r,n,s,f,base,q2,hm⟩
 have I:∀{pv:PV} {sz n:Nat} {e:TypeId} {f:Nat->List PV} {F:Nat->Prop},Fz h η k pv (.aV sz n e f F)->pv=.aV sz n e f F\/(pv=.au/\n=0/\∀b,¬F b):=λQ=>by
  cases Q with
  | aV=>exact .inl rfl
  | pK=>exact .inr ⟨rfl,rfl,λ_ h=>h⟩
 have J:∀a i j b,dD η a i j b->∃id,k[a]? =some id/\dD h id i j b/\∃g sz n e f,η[a]? =some (ar.row g sz n e f):=λa i j b ⟨v,r,l,s,t,qs,n2,e2,f2,F2,q1,q2,q3,q4⟩=>by
  rcases back a v r l s t q1 with⟨r1,_⟩ | ⟨id,g,f,r1,⟨n,d,hle,_⟩,E,U⟩
  ·omega
  ·obtain⟨s1,K⟩:=U i q2;have W:j<(f i).length:=by rw[<-s1];exact(An.1 q3).1
   have L:=No W;rcases I (K j _ _ L q3)with this | ⟨_,_,this⟩
   ·exact⟨id,r1,⟨g,r,n,s,f,_,_,_,_,_,d,by omega,by rw[L,this],q4⟩,_,_,_,_,_,q1⟩
   ·exact absurd q4 (this b)
 have X:∀b,dc (oB μ h k) η b->dc μ h b:=λb hb=>by
  rcases hb with hb | ⟨x,y,z,hb⟩
  ·obtain⟨id,_,g,sz,n,e,f,base,q2,hm⟩:=V b hb;exact .inl ⟨id,g,sz,n,e,f,base,q2,hm⟩
  ·obtain⟨id,_,q,_⟩:=J x y z b hb;exact ajn
 have hs:∀b,GF μ h k S b->S b\/dc μ h b:=λb hb=>by
  rcases hb with hb | ⟨id,g,sz,n,e,f,base,_,h1,h2 | ⟨i,j,h2⟩⟩
  ·exact .inl hb
  ·exact .inr (.inl ⟨id,g,sz,n,e,f,base,h1,h2⟩)
  ·exact .inr (.inr ⟨_,_,_,h2⟩)
 refine⟨⟨λa v r l s t hη=>?_,?_⟩,X,hs⟩
 ·rcases back a v r l s t hη with⟨rfl,q3⟩ | ⟨id,g,f,q1,⟨n,q2,hle,Y⟩,q3,q4⟩
  ·exact⟨λi hi=>absurd hi (agz _),by rw[q3]⟩
  obtain⟨r1,d⟩:=hc.heap id g r n s f q2;refine⟨λi hi=>(q4 i hi).1.trans (r1 i (agc hi hle)),?_⟩;rw[q3];cases hm:μ id with
  | none=>rw[hm]at d;have d:n=0:=d;show l=0;omega
  | some p=>
   obtain⟨b,base⟩:=p;rw[hm]at d;obtain⟨o,s1,K⟩:=d;refine⟨o,s1,?_⟩;cases o with
   | cells cur e2 z=>
    obtain⟨Z,x2,x3,R⟩:=K;refine⟨Z,x2,agq (Nat.add_le_add_left (agb _ hle) _) x3,λi j C hi hj=>?_⟩;have W:j<(f i).length:=by rw[<-(q4 i hi).1];exact(An.1 hj).1
    have L:=No W;obtain⟨u,t1,t2⟩:=R i j _ (agc hi hle) L;have Q:=(q4 i hi).2 j _ C L hj;refine⟨u,t1,?_⟩;cases G:dM C with
    | false=>exact cD.k ((xj hc hh Q).1 u t2.c) G
    | true=>
     cases C with
     | aV qs n2 e2 f2 F2=>
      rcases I Q with hq | ⟨hq,rfl,hF⟩
      ·rw[hq]at t2;exact oz.mono (λ_ _=>rfl) (λb hb=>.inl hb) (show oz S w (.aV qs n2 e2 f2 F2) u from t2) (λ_ _ _ _ _ _ _ _=>rfl)
      ·rw[hq]at t2;have t2:bz S w .au u:=t2;cases t2;exact oz.nil _ _ _ _ hF
     | _=>cases G
   | map es c=>
    obtain⟨Z,R⟩:=K
    have hn:l=n:=by
     rcases Y with h0 | h0
     ·exact h0
     ·rcases agO n with h1 | h1
      ·omega
      ·obtain⟨kp,vp,en,y1,_⟩:=R 0 h1;have:=r1 0 h1;rw[y1]at this;exact absurd this.symm h0
    subst hn;refine⟨Z,λi hi=>?_⟩;obtain⟨kp,vp,en,y1,y2,y3,y4,y5,y6⟩:=R i hi;obtain⟨z1,T⟩:=q4 i hi;rw[y1]at z1 T;generalize IW:t i=l' at z1 T ⊢;rcases l' with _ | ⟨M,_ | ⟨N,_ | ⟨c3,l3⟩⟩⟩<;>simp at z1;have w1:=OC (T 0 kp M rfl rfl) y2;have w2:=OC (T 1 vp N rfl rfl) y3;exact⟨M,N,en,rfl,w1.1,w2.1,y4,w1.2 _ y5,w2.2 _ y6⟩
   | _=>exact K.elim
 ·refine⟨λb hb A=>?_,λb hb=>hc.ok.lt b (X b hb),λb hb=>?_,?_,hc.ok.known.oY (λ_ _=>rfl) (λ_ hb=>.inl hb),λb hb x y z G=>?_,λb i x y j x' y' G wx=>?_⟩;rotate_right 2
  ·obtain⟨id,_,g,sz,n,e,f,base,q2,hm⟩:=V b hb;obtain⟨H,_,q,_⟩:=J x y z b G;exact hc.ok.hv b ⟨id,g,sz,n,e,f,base,q2,hm⟩ _ _ _ q
  ·obtain⟨O,k1,q1,_,_,_,_,_,r1⟩:=J i x y b G;obtain⟨H,k2,q2,_,_,_,_,_,d⟩:=J j x' y' b wx;obtain⟨e1,e2,e3⟩:=hc.ok.hh b _ _ _ _ _ _ q1 q2;subst e1;exact⟨xG hk r1 k1 d k2,e2,e3⟩
  ·rcases A with A | ⟨H,g2,qs,n2,e2,f2,aa,P,h1,h2⟩
   ·exact hc.ok.apart b (X b hb) A
   ·rcases hb with hb | ⟨x,y,z,hb⟩
    ·obtain⟨id,B,g,sz,n,e,f,base,q2,hm⟩:=V b hb;rcases h2 with h2 | ⟨i,j,h2⟩
     ·have:=hc.ok.inj id H _ _ _ _ _ _ _ _ _ _ _ _ _ q2 h1 hm h2;subst this;exact P B
     ·exact hc.ok.hv b ⟨id,g,sz,n,e,f,base,q2,hm⟩ _ _ _ h2
    ·obtain⟨id,B,q,_⟩:=J x y z b hb;rcases h2 with h2 | ⟨i,j,h2⟩
     ·exact hc.ok.hv b ⟨H,g2,qs,n2,e2,f2,aa,h1,h2⟩ _ _ _ q
     ·obtain⟨e1,_,_⟩:=hc.ok.hh b _ _ _ _ _ _ q h2;subst e1;exact P (afX B)
  ·rcases hs b hb with h1 | h1
   ·exact hc.ok.slt b h1
   ·exact hc.ok.lt b h1
  ·intro i j gi Pg ni ei fi gj mw nj ej fj b o o' hi hj qe oP;rcases back i gi Pg ni ei fi hi with⟨_,q3⟩ | ⟨O,g1,f1,q1,⟨ad,q2,_⟩,q3,_⟩
   ·rw[q3]at qe;cases qe
   rcases back j gj mw nj ej fj hj with⟨_,E⟩ | ⟨H,g2,f2,r1,⟨ag,d,_⟩,E,_⟩
   ·rw[E]at oP;cases oP
   rw[q3]at qe;rw[E]at oP;have:=hc.ok.inj O H _ _ _ _ _ _ _ _ _ _ _ _ _ q2 d qe oP;subst this;exact xG hk hi q1 hj r1
structure Start where
 μ:Mu
 h:List ar
 S:Nat->Prop
 w:World
 nt:Nat
theorem W6 {C:Start} (hc:Core μ h S w) (hf:Fr C.μ C.h C.S C.w μ h S w) (hh:mW h η k C.h.length 0 η k) (hk:rK (rq η k)=true) (hm:C.h.length<=k.length):
  Fr C.μ C.h C.S C.w (oB μ h k) η (GF μ h k S) w:=by
 obtain⟨hlen,dx⟩:=qL η k 0 hh;obtain⟨_,B,hs⟩:=Ag hc hh hk
 have idx:∀id,id<C.h.length->∃o a,η[id]? =some o/\k[id]? =some a/\xP h η k C.h.length o id a:=λid hid=>by
  have u:id<η.length:=by omega
  obtain⟨a,r1,d⟩:=dx id _ (No u);rw[so]at d;exact⟨_,a,No u,r1,d⟩
 refine⟨by omega,hf.blocks,λb hb=>.inl (hf.sub b hb),λb hb=>?_,λb hb=>hf.own b (B b hb),hf.size,hf.os,hf.tape,hf.output,λid j l m p q h0=>?_,λid h0=>?_,hf.df,λid j l m p q b base h0 r D=>?_,hf.yg⟩;rotate_right
 ·have hid:id<C.h.length:=(An.1 h0).1;obtain⟨o,a,q1,q2,q3⟩:=idx id hid;obtain⟨r1,d⟩:=hf.maps id j l m p q b base h0 r D;refine⟨r1,?_⟩;rw[q1];unfold xP at q3;cases o with
  | dead=>exact .inl rfl
  | row v x y z A=>
   cases c:h[a]? with
   | none=>rw[c]at q3;exact absurd q3.1 ajo
   | some i=>
    cases i with
    | dead=>rw[c]at q3;exact q3.elim
    | row g sz n e f=>
     rw[c]at q3;obtain⟨s1,rfl,s,rfl,_⟩:=q3;obtain⟨rfl,rfl⟩:=s1 hid;obtain rfl:=s.resolve_right (λt=>absurd t.1 ajo);rw[c]at d;rcases d with d | ⟨_,E⟩
     ·cases d
     ·exact .inr ⟨⟨_,_,_,_,_,rfl⟩,(vM q2 c).trans E⟩
 ·rcases hs b hb with h1 | h1
  ·exact hf.new b h1
  ·rcases hf.own b h1 with h2 | h2
   ·exact .inr (.inl h2)
   ·exact .inr (.inr h2)
 ·have hid:id<C.h.length:=(An.1 h0).1;obtain⟨o,a,q1,q2,q3⟩:=idx id hid;have hg:=hf.Dx id j l m p q h0;rw[q1];unfold xP at q3;cases o with
  | dead=>trivial
  | row v x y z A=>
   cases c:h[a]? with
   | none=>rw[c]at q3;exact absurd q3.1 ajo
   | some i=>
    cases i with
    | dead=>rw[c]at q3;exact q3.elim
    | row g sz n e f=>
     rw[c]at q3;obtain⟨r1,rfl,d,rfl,_⟩:=q3;obtain⟨rfl,rfl⟩:=r1 hid;obtain rfl:=d.resolve_right (λt=>absurd t.1 ajo);rw[c]at hg;refine⟨hg.1,λhe=>?_⟩;obtain⟨s1,s,F,G⟩:=hg.2 he;exact⟨by rw[vM q2 c];exact s1,s,F,G⟩
 ·have hid:id<C.h.length:=(An.1 h0).1;obtain⟨o,a,q1,q2,q3⟩:=idx id hid;have hd:=hf.dead id h0;rw[q1];unfold xP at q3;cases o with
  | dead=>rfl
  | row v x y z A=>
   cases c:h[a]? with
   | none=>rw[c]at q3;exact absurd q3.1 ajo
   | some i=>
    cases i with
    | dead=>rw[c]at q3;exact q3.elim
    | row g sz n e f=>
     rw[c]at q3;obtain⟨rfl,rfl⟩:=q3.1 hid;rw[c]at hd;cases hd
structure rv (C:Start) (μ:Mu) (h:List ar) (S:Nat->Prop) (env:Env) (a:Act) (w:World):Prop where
 core:Core μ h S w
 fr:Fr C.μ C.h C.S C.w μ h S w
 tmps:∀t,cw μ h S w (env t) (a.tmps.getD t undef)
 size:a.tmps.size=C.nt
 far:∀t,C.nt<=t->env t=.jI
 defers:a.defers=[]
variable {C:Start}{env:Env}{a:Act}
theorem D9 (env:Env) (t:Nat) (v:PV):tR env t v t=v:=by simp [tR]
theorem Iv (env:Env) {t j:Nat} (v:PV) (hj:j≠t):tR env t v j=env j:=by
 unfold tR
 have:Nat.beq j t=false:=by
  cases hb:Nat.beq j t with
  | true=>exact(hj (afM hb)).elim
  | false=>rfl
 rw[this];rfl
def tG (nt:Nat) (o:Oper):Bool:=match o.dst with | some t=>Nat.blt t nt | none=>true
theorem rv.put (hs:rv C μ h S env a w) {μ':Mu} {h':List ar} {S':Nat->Prop} {w':World} (hf:Fr μ h S w μ' h' S' w') (hc:Core μ' h' S' w') {dst:Option Nat} {v:PV} {val:Value} (hv:cw μ' h' S' w' v val)
  (hd:∀t,dst=some t->t<C.nt):rv C μ' h' S' (eQ env dst v) (a.put dst val) w':=by
 refine⟨hc,hs.fr.trans hf,λt=>?_,?_,λt c=>?_,?_⟩
 ·cases dst with
  | none=>exact(hs.tmps t).fr hf hs.core.ok
  | some d=>
   have e:=hd d rfl;by_cases b:t=d
   ·subst b;show cw μ' h' S' w' (tR env t v t) _;rw[D9]
    have:((a.put (some t) val).tmps).getD t undef=val:=by
     have f:t<a.tmps.size:=by rw[hs.size];exact e
     simp [Act.put,f]
    rw[this];exact hv
   ·show cw μ' h' S' w' (tR env d v t) _;rw[Iv env v b]
    have:((a.put (some d) val).tmps).getD t undef=a.tmps.getD t undef:=by
     simp [Act.put,ahJ (agX b)]
    rw[this];exact(hs.tmps t).fr hf hs.core.ok
 ·cases dst with
  | none=>exact hs.size
  | some d=>simp [Act.put,hs.size]
 ·cases dst with
  | none=>exact hs.far t c
  | some d=>
   have e:=hd d rfl;show tR env d v t=_;rw[Iv env v ajo];exact hs.far t c
 ·cases dst with
  | none=>exact hs.defers
  | some d=>exact hs.defers
theorem rv.Ea (hs:rv C μ h S env a w) {t:Nat} {b:Bool} (he:env t=.bool b):rv C μ h S (tR env t (.bool b)) a w:=by
 have:tR env t (.bool b)=env:=by
  funext j;by_cases hj:j=t
  ·subst hj;rw[D9,he]
  ·rw[Iv env _ hj]
 rw[this];exact hs
def Eb (C:Start) (Q:XQ):Exit->Act->World->Prop:=λe a w=>∃μ h S env,rv C μ h S env a w/\Q e env h
theorem yP (hs:rv C μ h S env a w) {ops:Array Oper} {j t:Nat} {b:Bool} (hj:(ops.toList[j]?).bind (·.dst)=some t) (he:env t=.bool b):yielded ops a.tmps j=some b:=by
 have hv:=hs.tmps t;rw[he]at hv;have hv:=hv.oZ
 have c:t<a.tmps.size:=by
  rcases agI t a.tmps.size with h1 | h1
  ·exact h1
  ·rw[hs.far t (by rw[<-hs.size];exact h1)]at he;cases he
 unfold yielded;rw[agn]at hj;rw[hj];simp only[ahW]
 have:a.tmps[t]? =some (.bool b):=by
  rw[agk c];simp [c]at hv;rw[hv]
 rw[this]
theorem yQ:cw μ h S w (.hJ []) undef:=⟨#[],rfl,rfl,λj pv hj=>by simp at hj⟩
theorem vN (hs:rv C μ h S env a w) {ops:Array Oper} {j t:Nat} (hj:(ops.toList[j]?).bind (·.dst)=some t) (he:env t=.hJ []):yielded ops a.tmps j=none:=by
 have hv:=hs.tmps t;rw[he]at hv;obtain⟨vs,hv,_⟩:=hv;unfold yielded;rw[agn]at hj;rw[hj];simp only[ahW];rcases agI t a.tmps.size with h1 | h1
 ·have:a.tmps[t]? =some (.tuple vs):=by
   rw[agk h1];simp [h1]at hv;rw[hv]
  rw[this]
 ·rw[Array.getElem?_eq_none h1]
theorem yR {K:Env->List ar->Prop} (all:List Oper) (o:Oper) (rest:List Oper) (env:Env) (h:List ar) {j:Nat} {want:Bool} (hg:o.guard=some (j,want)):
  xk P T all K (o::rest) env h=(match(all[j]?).bind (·.dst)with
     | some t=>match env t with
      | .bool b=>eN b
        (match(generalizing:=false) want with
         | true=>pop P T o.op (tR env t (.bool true)) h (λv h'=>xk P T all K rest (eQ (tR env t (.bool true)) o.dst v) h')
         | false=>xk P T all K rest (eQ (tR env t (.bool true)) o.dst (.hJ [])) h)
        (match(generalizing:=false) want with
         | true=>xk P T all K rest (eQ (tR env t (.bool false)) o.dst (.hJ [])) h
         | false=>pop P T o.op (tR env t (.bool false)) h (λv h'=>xk P T all K rest (eQ (tR env t (.bool false)) o.dst v) h'))
      | .hJ []=>xk P T all K rest (eQ env o.dst (.hJ [])) h
      | _=>False
     | none=>False):=by
 obtain⟨dst,op,ty,pos,after,guard⟩:=o;have hg:guard=some (j,want):=hg;rw[hg];rfl
theorem yS (e:dL P T) (ops:Array Oper) {K:Env->List ar->Prop} {Q:Exit->Act->World->Prop} (f:∀env h a w μ S,K env h->rv C μ h S env a w->Q .normal a w):
  ∀(l:List Oper) (env:Env) (h:List ar) (a:Act) (w:World) (μ:Mu) (S:Nat->Prop),xk P T ops.toList K l env h->(∀o∈l,tG C.nt o=true)->rv C μ h S env a w->wpList P ops Q l a w
 | [],env,h,a,w,μ,S,hp,_,hs=>f env h a w μ S hp hs
 | o::rest,env,h,a,w,μ,S,hp,hd,hs=>by
  have k:∀t,o.dst=some t->t<C.nt:=λt g=>by
   have:=hd o ajq;unfold tG at this;rw[g]at this;simpa using this
  have d:∀o∈rest,tG C.nt o=true:=λo m=>hd o (by simp [m])
  have run:∀env',rv C μ h S env' a w->pop P T o.op env' h (λv h'=>xk P T ops.toList K rest (eQ env' o.dst v) h')->o.wp P a w (wpList P ops Q rest) Q:=λenv' c i=>by
   obtain⟨dst,op,ty,pos,after,guard⟩:=o;refine GC (env:=env') e c.core c.tmps i _ _ λv val h' μ' S' w' n hv hc hf=>?_;exact yS e ops f rest _ h' _ w' μ' S' n d (c.put hf hc hv k)
  have skip:∀env',rv C μ h S env' a w->xk P T ops.toList K rest (eQ env' o.dst (.hJ [])) h->wpList P ops Q rest (a.put o.dst undef) w:=λenv' c i=>
   yS e ops f rest _ h _ w μ S i d (c.put Fr.refl c.core yQ k)
  unfold wpList;cases hg:o.guard with
  | none=>
   have hp:pop P T o.op env h (λv h'=>xk P T ops.toList K rest (eQ env o.dst v) h'):=by
    exact aiq
   rw[an (by simp [Region.wanted,hg])];exact .inl (run env hs hp)
  | some p=>
   obtain⟨j,want⟩:=p;rw[yR ops.toList o rest env h hg]at hp;split at hp
   ·rename_i t hj;split at hp
    ·rename_i b he;have hy:=yP hs hj he;obtain⟨g,hf⟩:=lZ hp;have c:=hs.Ea he;cases b with
     | true=>
      have hp:=g rfl;cases want with
      | true=>rw[an ajw];exact .inl (run _ c hp)
      | false=>rw[mg ajw];exact skip _ c hp
     | false=>
      have hp:=hf rfl;cases want with
      | true=>rw[mg ajw];exact skip _ c hp
      | false=>rw[an ajw];exact .inl (run _ c hp)
    ·rename_i he;rw[mg ajL];exact skip _ hs hp
    ·exact aiI
   ·exact aiI
end
end Go.Am
