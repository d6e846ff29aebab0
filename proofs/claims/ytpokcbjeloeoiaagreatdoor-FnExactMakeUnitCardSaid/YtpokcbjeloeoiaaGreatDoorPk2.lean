/- Texts of the proof, joined and shortened. -/
import Derived.Test.YtpokcbjeloeoiaaGreatDoorPk1
import Derived.MapKept
import Derived.Lib.ConvBytes
import Derived.Lib.AtoiErrMem
import Derived.Deep.LoopGhost
set_option linter.unusedVariables false
set_option linter.unusedSimpArgs false
namespace Go.Am
open Go Go.RowKit
section
variable {P:Program}{T:sf}{μ:Mu}{h:List aq}{S:Nat->Prop}{w:World}
theorem mu (t tx ty e:TypeId) (i:TypeInfo) (d:TypeDesc) (k:P.underlying t=some (.slice e)) (hx:P.underlying tx=some d) (hd:(∃e',d=.slice e')\/d=.string) (hi:P.info? e=some i)
  (g:Option Addr) (c h:Nat) (j:Value) (m:Nat) (news:Array Value) (w':World) (hlen:(Builtin.lenOf j).run P w=.ok m w) (f:(Builtin.firstCells i.size m j).run P w=.ok news w) (l:c+m<=h)
  (b:match g with | some a=>(storeCells (a.add (c*i.size)) news.toList).run P w=.ok () w' | none=>w'=w):
  (Builtin.append_ #[t,tx] ty #[.slice g c h,j]).run P w=.ok (.slice g (c+m) h) w':=by
 rcases hd with⟨e',rfl⟩ | rfl<;>cases g with
 | none=>
  have b:w'=w:=b;subst b;simp [Builtin.append_,run_underlying k,run_underlying hx,sizeOf,typeInfo,hi,hlen,l,f]
 | some a=>
  have b:(storeCells (a.add (c*i.size)) news.toList).run P w=.ok () w':=b;simp [Builtin.append_,run_underlying k,run_underlying hx,sizeOf,typeInfo,hi,hlen,l,f,b]
theorem qZ (t tx ty e:TypeId) (i:TypeInfo) (z:Value) (d:TypeDesc) (l:P.underlying t=some (.slice e)) (hx:P.underlying tx=some d) (hd:(∃e',d=.slice e')\/d=.string) (hi:P.info? e=some i) (n:i.zero=some z)
  (j:Option Addr) (a b:Nat) (c:Value) (m:Nat) (k news:Array Value) (hlen:(Builtin.lenOf c).run P w=.ok m w) (o:(Builtin.firstCells i.size a (.slice j a b)).run P w.drew=.ok k w.drew)
  (f:(Builtin.firstCells i.size m c).run P w.drew=.ok news w.drew) (hg:b<a+m) (L9:0<i.bytes) (p:(a+m)*i.bytes<=140737488355328):
  (Builtin.append_ #[t,tx] ty #[.slice j a b,c]).run P w=.ok (.slice (some ⟨w.heap.size,0,none⟩) (a+m) (grownCap w (a+m) b e))
   (w.drew.alloc (.cells (k++news++Builtin.zeroCells z.cells (grownCap w (a+m) b e - (a+m))) e)):=by
 have q:¬(a+m<=b):=by omega
 have hle:a+m<=(a+m)*i.bytes:=Nat.le_mul_of_pos_right _ L9;have g:¬(9223372036854775807<((a:Int)+(m:Int))):=by omega
 have r:=growslice_fits hg p;have h:¬(281474976710656<Builtin.nextslicecap (a+m) b*i.bytes):=by omega
 rcases hd with⟨e',rfl⟩ | rfl<;>
  simp [Builtin.append_,run_underlying l,run_underlying hx,sizeOf,typeInfo,zeroValue,hi,n,hlen,q,g,h,Question.forced,f,o,newRow,grownCap]
theorem Pt (b off m sz:Nat) (k:0<sz) (g:Nat->List PV) (l:∀i,i<m->(g i).length=sz)
  (o:∀(i j:Nat) (pv:PV),i<m->(g i)[j]? =some pv->∃u,w.cell? ⟨b,off+i*sz+j,none⟩=some u/\qT μ h S w pv u):
  ∃news:Array Value,news.size=m*sz/\(∀(i j:Nat) (pv:PV),i<m->(g i)[j]? =some pv->∃u,news[i*sz+j]? =some u/\qT μ h S w pv u)/\
   (∀u∈news.toList,u.oneCell'=true)/\∀w',dt w w'->(loadCells ⟨b,off,none⟩ (m*sz)).run P w'=.ok news w':=by
 let F:Nat->Value:=λq=>(w.cell? ⟨b,off+q,none⟩).getD undef
 have f:∀(i j:Nat) (pv:PV),i<m->(g i)[j]? =some pv->w.cell? ⟨b,off+(i*sz+j),none⟩=some (F (i*sz+j))/\qT μ h S w pv (F (i*sz+j)):=λi j pv hi hj=>by
  obtain⟨u,h1,h2⟩:=o i j pv hi hj;have e:off+(i*sz+j)=off+i*sz+j:=by omega
  have e2:F (i*sz+j)=u:=by
   show(w.cell? ⟨b,off+(i*sz+j),none⟩).getD undef=u;rw[e,h1];rfl
  rw[e2,e];exact⟨h1,h2⟩
 have d:∀q,q<m*sz->∃pv,q / sz<m/\(g (q / sz))[q % sz]? =some pv:=λq d=>by
  have h1:q / sz<m:=(Nat.div_lt_iff_lt_mul k).2 d;have h2:q % sz<(g (q / sz)).length:=by rw[l _ h1];exact Nat.mod_lt _ k
  exact⟨_,h1,abF h2⟩
 have n:∀q,q / sz*sz+q % sz=q:=λq=>by rw[Nat.mul_comm];exact Nat.div_add_mod q sz
 refine⟨((List.range (m*sz)).map F).toArray,by simp,λi j pv hi hj=>?_,λu hu=>?_,λw' p=>?_⟩
 ·have s:j<sz:=by rw[<-l i hi];exact(N2.1 hj).1
  have r:i*sz+j<m*sz:=by
   have:(i+1)*sz<=m*sz:=aOF _ hi;rw[aOA]at this;omega
  exact⟨F (i*sz+j),by simp [r],(f i j pv hi hj).2⟩
 ·simp only[aPg,aQl]at hu;obtain⟨q,a,rfl⟩:=hu;obtain⟨pv,h1,h2⟩:=d q a;have:=(f _ _ pv h1 h2).2.c.one
  rwa [n]at this
 ·refine run_loadCells w' ⟨b,off,none⟩ (m*sz) F λq a=>?_;obtain⟨pv,h1,h2⟩:=d q a;have:=(f _ _ pv h1 h2).1;rw[n]at this;rw[Addr.add_lit];exact p.cell this
theorem U3:∀{l:List PV},noO l=true->∀{j:Nat} {pv:PV},l[j]? =some pv->eV pv=false
 | [],_,j,pv,hj=>by simp at hj
 | c::r,h,0,pv,hj=>by
  simp at hj;subst hj;cases c<;>first | rfl | cases h
 | c::r,h,j+1,pv,hj=>U3 (l:=r) (by cases c<;>first | exact h | cases h) aRZ
def Src (P:Program) (μ:Mu) (h:List aq) (S:Nat->Prop) (w:World) (a:Value) (sz m:Nat) (g:Nat->List PV):Prop:=
 (∀i,i<m->(g i).length=sz)/\∃news:Array Value,news.size=m*sz/\(∀(i j:Nat) (pv:PV),i<m->(g i)[j]? =some pv->∃u,news[i*sz+j]? =some u/\qT μ h S w pv u)/\
  (∀u∈news.toList,u.oneCell'=true)/\∀w',dt w w'->(Builtin.lenOf a).run P w'=.ok m w'/\(Builtin.firstCells sz m a).run P w'=.ok news w'
theorem Src.empty (b:Value) (sz:Nat) (g:Nat->List PV) (hx:∃a c,b=.slice a 0 c):Src P μ h S w b sz 0 g:=by
 obtain⟨a,c,rfl⟩:=hx;refine⟨λi hi=>absurd hi aRK,#[],by simp,λi j pv hi=>absurd hi aRK,λu hu=>by simp at hu,λw' _=>⟨rfl,?_⟩⟩;cases a with
 | none=>rfl
 | some a=>simp [Builtin.firstCells,loadCells,loadCellsFrom]
theorem rI (hc:Core μ h S w) (id g off len sz n:Nat) (e:TypeId) (f:Nat->List PV) (hh:h[id]? =some (aq.row g sz n e f)) (v:Value) (hv:cj μ h S w (.own id g off len) v) (m:0<sz):Src P μ h S w v sz len (λi=>f (off+i)):=by
 have a:=hv.ru;unfold bK at a;rw[hh]at a;obtain⟨_,_,a⟩:=a;obtain⟨hle,a⟩:=a rfl;obtain⟨k,c⟩:=hc.heap id g sz n e f hh;cases l:μ id with
 | none=>
  rw[l]at a c;have y:n=0:=c;have h0:len=0:=by omega
  subst h0;exact Src.empty v sz _ ⟨_,_,a⟩
 | some p=>
  obtain⟨b,base⟩:=p;rw[l]at a c;obtain⟨z,cap,hv,o,d,q⟩:=a;obtain⟨cur,r,A,s⟩:=dB.cells q c;rcases aPA len with h0 | h0
  ·subst h0;exact Src.empty v sz _ ⟨_,_,hv⟩
  ·have d:=d aRK;subst d
   obtain⟨news,q1,q2,q3,q4⟩:=Pt (P:=P) (μ:=μ) (h:=h) (S:=S) (w:=w) b (base+off*sz) len sz m (λi=>f (off+i)) (λi hi=>k _ aRK) (λi j pv hi hj=>by
    obtain⟨u,r1,t⟩:=s (off+i) j pv aRK hj;refine⟨u,?_,t⟩;rw[cell_of_row w b _ cur e (0,0) r,<-r1];congr 1;rw[aOA];omega)
   exact⟨λi hi=>k _ aRK,news,q1,q2,q3,λw' x=>⟨by rw[hv];rfl,by rw[hv];exact q4 w' x⟩⟩
theorem JN (hc:Core μ h S w) (x:PV) (l:Value) (hx:cj μ h S w x l) (sz:Nat) (p:0<sz) (K:Nat->(Nat->List PV)->Prop) (hp:Td x h sz K):∃m g,K m g/\Src P μ h S w l sz m g/\∀(i j:Nat) (pv:PV),i<m->(g i)[j]? =some pv->eV pv=false:=by
 unfold Td at hp;split at hp
 ·exact⟨_,_,hp,Src.empty _ _ _ ⟨_,_,hx.sg⟩,λi j pv hi=>absurd hi (aOX _)⟩
 ·rename_i r m g;replace hp:=bW hp;obtain⟨d,hp⟩:=hp;obtain rfl:=abL d;refine⟨m,g,hp,?_⟩;rcases hx.yj with⟨a,c,ex,rfl⟩ | ⟨b,off,c,B,ex,C,q,t,v,o⟩
  ·exact⟨Src.empty _ _ _ ⟨_,_,ex⟩,λi j pv hi=>absurd hi (aOX _)⟩
  ·obtain⟨news,q1,q2,q3,q4⟩:=Pt (P:=P) (μ:=μ) (h:=h) (S:=S) (w:=w) b off m sz p g q (λi j pv hi hj=>⟨_,v i j pv hi hj,(cV.mK (o i j pv hi hj)).k (ba.no (o i j pv hi hj))⟩);exact⟨⟨q,news,q1,q2,q3,λw' y=>⟨by rw[ex];rfl,by rw[ex];exact q4 w' y⟩⟩,λi j pv hi hj=>ba.no (o i j pv hi hj)⟩
 ·rename_i id gen off m;split at hp
  ·rename_i g r n e f hg;obtain⟨rfl,z,hp⟩:=hp;replace hp:=bW hp;obtain⟨d,hp⟩:=hp;obtain rfl:=abL d;exact⟨m,_,hp,rI hc id g off m sz n e f (fO hg) l hx p,λi j pv hi hj=>U3 (z i hi) hj⟩
  ·exact aRg
 ·rename_i s;replace hp:=bW hp;obtain⟨d,hp⟩:=hp;obtain rfl:=abL d;refine⟨_,_,hp,⟨λi hi=>rfl,(s.map λb=>Value.int .u8 b.toNat).toArray,by simp,λi j pv hi hj=>?_,λu hu=>?_,λw' _=>⟨by rw[hx.oX];rfl,?_⟩⟩,λi j pv hi hj=>?_⟩
  ·cases j with
   | zero=>
    simp at hj;subst hj;refine⟨.int .u8 (s.getD i 0).toNat,?_,ba.int _ _⟩;rw[aOp,abF hi];simp [hi]
   | succ j=>simp at hj
  ·simp at hu;obtain⟨b,_,rfl⟩:=hu;rfl
  ·rw[hx.oX];have A:(ByteArray.mk ⟨s⟩).extract 0 s.length=ByteArray.mk ⟨s⟩:=by rw[C7];simp
   simp only[Builtin.firstCells,A];simp
  ·cases j with
   | zero=>simp at hj;subst hj;rfl
   | succ j=>simp at hj
 ·exact aRg
end
section
variable {P:Program}{T:sf}{μ:Mu}{h:List aq}{S:Nat->Prop}{w w1:World}
theorem Xh (hc:Core μ h S w) (a g sz n:Nat) (e:TypeId) (f:Nat->List PV) (hh:h[a]? =some (aq.row g sz n e f)):Fr μ h S w μ (h.set a .dead) S w/\Core μ (h.set a .dead) S w:=by
 have hid:a<h.length:=(N2.1 hh).1;have v:(h.set a aq.dead)[a]? =some aq.dead:=by simp [hid]
 have r:∀j,j≠a->(h.set a aq.dead)[j]? =h[j]?:=λj hj=>by rw[aOI (aPB hj)]
 have t:∀{j d k l m q},(h.set a aq.dead)[j]? =some (aq.row d k l m q)->j≠a:=λhj hx=>by subst hx;rw[v]at hj;cases hj
 have C:∀b,FW μ (h.set a aq.dead) b->FW μ h b:=λb ⟨j,d,k,l,m,q,E,hj,hm⟩=>by
  rw[r j (t hj)]at hj;exact⟨j,d,k,l,m,q,E,hj,hm⟩
 have u:∀j x y b,eK (h.set a aq.dead) j x y b->eK h j x y b:=λj x y b ⟨d,k,l,m,q,H,I,e',J,K,q1,q2,q3,q4⟩=>by
  rw[r j (t q1)]at q1;exact⟨_,_,_,_,_,_,_,_,_,_,q1,q2,q3,q4⟩
 have A:∀b,dE μ (h.set a aq.dead) b->dE μ h b:=λb c=>by
  rcases c with c | ⟨x,y,z,c⟩
  ·exact .inl (C b c)
  ·exact .inr ⟨x,y,z,u _ _ _ _ c⟩
 have D:Fr μ h S w μ (h.set a .dead) S w:=by
  refine⟨by simp,λ_ _ _=>rfl,λ_ c=>c,λ_ c=>.inl c,λb c=>.inl (A b c),Of _,rfl,rfl,rfl,λj d k l m q hj=>?_,λj hj=>?_,λ_ _ _ F=>F,λj d k l m q b base hj hm B=>⟨B,?_⟩,λ_ _ _ _ _ B=>B⟩
  ·by_cases s:j=a
   ·subst s;rw[v];trivial
   ·rw[r j s,hj];exact⟨Of _,λ_=>⟨rfl,rfl,rfl,rfl⟩⟩
  ·have s:j≠a:=by rintro rfl;rw[hh]at hj;cases hj
   rw[r j s];exact hj
  ·by_cases s:j=a
   ·subst s;exact .inl v
   ·exact .inr ⟨⟨_,_,_,_,_,(r j s).trans hj⟩,hm⟩
 refine⟨D,⟨λj d k l m q hj=>?_,⟨λb c=>hc.ok.apart b (A b c),λb c=>hc.ok.lt b (A b c),hc.ok.slt,?_,hc.ok.known,λb c x y z hx=>hc.ok.hv b (C b c) x y z (u _ _ _ _ hx),λb _ _ _ _ _ _ hx hy=>hc.ok.hh b _ _ _ _ _ _ (u _ _ _ _ hx) (u _ _ _ _ hy)⟩⟩⟩
 ·rw[r j (t hj)]at hj;obtain⟨h1,h2⟩:=hc.heap j d k l m q hj;refine⟨h1,?_⟩;cases hm:μ j with
  | none=>rw[hm]at h2;exact h2
  | some p=>
   obtain⟨b,base⟩:=p;rw[hm]at h2;obtain⟨o,q1,q2⟩:=h2;exact⟨o,q1,q2.mono (λ_ _ _ _ _ _ G=>G.fr D hc.ok (λ_ _ _ _ _ _ _ _=>rfl))⟩
 ·intro i j L M N O P d k l m q b o Q hi hj pz oA;rw[r i (t hi)]at hi;rw[r j (t hj)]at hj;exact aRq
theorem JO (hc:Core μ h S w) (id d:Nat) (pU:d≠id) (g2 mY n2:Nat) (e2:TypeId) (f2:Nat->List PV) (Pu:h[d]? =some (aq.row g2 mY n2 e2 f2)) (O:Nat) (g E sz n s:Nat) (e:TypeId) (f t:Nat->List PV) (hh:h[id]? =some (aq.row g sz n e f)) (l P:Nat) (Q:Array Value)
  (hg:g<=E) (aa:E=g->μ id=some (l,P)/\s=n)
  (m:w.heap.size<=l\/∃base cur,μ id=some (l,base)/\w.heap[l]? =some (.cells cur e (0,0))/\cur.size=Q.size)
  (hw:w1.heap[l]? =some (.cells Q e (0,0))) (yM:P+s*sz<=Q.size)
  (L:∀b,b<w.heap.size->b≠l->w1.heap[b]? =w.heap[b]?) (wv:w.heap.size<=w1.heap.size) (ad:w1.os=w.os) (Oo:w1.tape=w.tape) (Sn:w1.output=w.output)
  (hl:∀i,i<s->(t i).length=sz) (Wv:∀b base,μ id=some (b,base)->¬tV w b)
  (bD:∀(i j:Nat) (pv:PV),i<s->(t i)[j]? =some pv->∃v:Value,Q[P+i*sz+j]? =some v/\qT μ h S w pv v) (Oq Ag:Nat)
  (xz:∀(i j R T:Nat) (e':TypeId) (U:Nat->List PV) (V:Nat->Prop),i<s->(t i)[j]? =some (.eg R T e' U V)->(i<O/\Oq+i<n/\(f (Oq+i))[j]? =some (.eg R T e' U V))\/(O<=i/\Ag+(i - O)<n2/\(f2 (Ag+(i - O)))[j]? =some (.eg R T e' U V))):
  Fr μ h S w (pF μ id (some (l,P))) ((h.set id (.row E sz s e t)).set d .dead) S w1/\Core (pF μ id (some (l,P))) ((h.set id (.row E sz s e t)).set d .dead) S w1:=by
 have hid:id<h.length:=(N2.1 hh).1;have iv:((h.set id (aq.row E sz s e t)).set d .dead)[id]? =some (aq.row E sz s e t):=by rw[aOI pU];simp [hid]
 have ag:d<h.length:=(N2.1 Pu).1;have vJ:((h.set id (aq.row E sz s e t)).set d .dead)[d]? =some aq.dead:=by simp [ag]
 have F:∀j,j≠id->j≠d->((h.set id (aq.row E sz s e t)).set d .dead)[j]? =h[j]?:=λj hj G=>by rw[aOI (aPB G),aOI (aPB hj)]
 have H:∀{j u A B C D},((h.set id (aq.row E sz s e t)).set d .dead)[j]? =some (aq.row u A B C D)->j≠d:=λhj hx=>by subst hx;rw[vJ]at hj;cases hj
 have a5:l<w1.heap.size:=(amb.1 hw).1
 have xA:l<w.heap.size->dE μ h l:=λI=>by
  rcases m with m | ⟨base,cur,hm,_,_⟩
  ·omega
  ·exact .inl ⟨id,g,sz,n,e,f,base,hh,hm⟩
 have Y:∀j x y b,eK ((h.set id (aq.row E sz s e t)).set d .dead) j x y b->j≠d/\∃M N,eK h M N y b/\((j≠id/\M=j/\N=x)\/(j=id/\x<O/\M=id/\N=Oq+x)\/(j=id/\O<=x/\M=d/\N=Ag+(x - O))):=λj x y b ⟨u,A,B,C,D,R,T,e',U,V,q1,q2,q3,q4⟩=>by
  refine⟨H q1,?_⟩;by_cases a:j=id
  ·subst a;rw[iv]at q1;injection q1 with q1;injection q1 with Z e2 e3 e4 e5;subst Z e2 e3 e4 e5;rcases xz x y _ _ _ _ _ q2 q3 with⟨r0,r1,J⟩ | ⟨r0,r1,J⟩
   ·exact⟨_,_,⟨_,_,_,_,_,_,_,_,_,_,hh,r1,J,q4⟩,.inr (.inl ⟨rfl,r0,rfl,rfl⟩)⟩
   ·exact⟨_,_,⟨_,_,_,_,_,_,_,_,_,_,Pu,r1,J,q4⟩,.inr (.inr ⟨rfl,r0,rfl,rfl⟩)⟩
  ·have G:=H q1;rw[F j a G]at q1;exact⟨_,_,⟨_,_,_,_,_,_,_,_,_,_,q1,q2,q3,q4⟩,.inl ⟨a,rfl,rfl⟩⟩
 have uG:∀j x y b,eK h j x y b->b<w.heap.size/\b≠l:=λj x y b hx=>by
  have I:=hc.ok.lt b (.inr ⟨j,x,y,hx⟩);refine⟨I,?_⟩;rintro rfl;rcases m with m | ⟨base,cur,hm,_,_⟩
  ·omega
  ·exact hc.ok.hv b ⟨id,g,sz,n,e,f,base,hh,hm⟩ j x y hx
 have kP:Fr μ h S w (pF μ id (some (l,P))) ((h.set id (.row E sz s e t)).set d .dead) S w1:=by
  refine⟨by simp,λb I Bb=>?_,λ_ m=>m,λ_ m=>.inl m,λb W=>?_,wv,ad,Oo,Sn,λj u A B C D hj=>?_,λj hj=>?_,λb k BR il=>?_,λj u A B C D b base hj hm om=>?_,λb j x y hx om=>?_⟩;rotate_right
  ·obtain⟨q1,q2⟩:=uG j x y b hx;obtain⟨es,c,q⟩:=om;exact⟨es,c,(L b q1 q2).trans q⟩
  ·by_cases K:b=l
   ·subst K;exact(Bb (xA I)).elim
   ·exact L b I K
  ·rcases W with⟨j,u,A,B,C,D,pG,hj,hm⟩ | ⟨j,x,y,hx⟩;rotate_left
   ·obtain⟨_,M,N,r,_⟩:=Y j x y b hx;exact .inl (.inr ⟨_,_,_,r⟩)
   by_cases a:j=id
   ·subst a;rw[bF]at hm;injection hm with hm;injection hm with h1 h2;subst h1;rcases aPf l w.heap.size with I | Uq
    ·exact .inl (xA I)
    ·exact .inr Uq
   ·rw[F j a (H hj)]at hj;rw[dN μ _ a]at hm;exact .inl (.inl ⟨j,u,A,B,C,D,pG,hj,hm⟩)
  ·by_cases a:j=id
   ·subst a;rw[hh]at hj;injection hj with hj;injection hj with Z e2 e3 e4 e5;subst Z e2 e3 e4 e5;rw[iv];refine⟨hg,λhe=>?_⟩;obtain⟨h1,h2⟩:=aa he;exact⟨by rw[bF,h1],rfl,h2,rfl⟩
   ·by_cases G:j=d
    ·subst G;rw[vJ];trivial
    ·rw[F j a G,hj];exact⟨Of _,λ_=>⟨dN μ _ a,rfl,rfl,rfl⟩⟩
  ·have a:j≠id:=by rintro rfl;rw[hh]at hj;cases hj
   have G:j≠d:=by rintro rfl;rw[Pu]at hj;cases hj
   rw[F j a G];exact hj
  ·by_cases K:b=l
   ·subst K;obtain⟨cur,e',z,q1,q2⟩:=il;rcases m with m | ⟨base,DO,hm,o9,j5⟩
    ·have:=(amb.1 q1).1;omega
    ·rw[o9]at q1;injection q1 with q1;injection q1 with q1 _ _;subst q1;exact⟨Q,e,_,hw,by omega⟩
   ·exact lH.of_same (L b il.lt K) il
  ·have a:j≠id:=by rintro rfl;exact Wv b base hm om
   have K:b≠l:=by
    rintro rfl;obtain⟨es,c,q⟩:=om;rcases m with m | ⟨ri,DO,X,o9,_⟩
    ·have:=(amb.1 q).1;omega
    ·rw[o9]at q;cases q
   obtain⟨es,c,q⟩:=om;refine⟨⟨es,c,(L b (amb.1 q).1 K).trans q⟩,?_⟩;by_cases G:j=d
   ·subst G;exact .inl vJ
   ·exact .inr ⟨⟨_,_,_,_,_,(F j a G).trans hj⟩,by rw[dN μ _ a];exact hm⟩
 refine⟨kP,⟨λj u A B C D hj=>?_,?_⟩⟩
 ·by_cases a:j=id
  ·subst a;rw[iv]at hj;injection hj with hj;injection hj with Z e2 e3 e4 e5;subst Z e2 e3 e4 e5;rw[bF];refine⟨hl,dB.FV ⟨Q,hw,yM,λi k pv hi hk=>?_⟩⟩;obtain⟨v,h1,h2⟩:=bD i k pv hi hk;refine⟨v,h1,h2.fr kP hc.ok (λR T e' U V he b W=>?_)⟩;rw[he]at hk;rcases xz i k _ _ _ _ _ hi hk with⟨r0,r1,J⟩ | ⟨r0,r1,J⟩
   ·obtain⟨q1,q2⟩:=uG _ _ k b ⟨_,_,_,_,_,_,_,_,_,_,hh,r1,J,W⟩;exact L b q1 q2
   ·obtain⟨q1,q2⟩:=uG _ _ k b ⟨_,_,_,_,_,_,_,_,_,_,Pu,r1,J,W⟩;exact L b q1 q2
  ·rw[F j a (H hj)]at hj;obtain⟨h1,h2⟩:=hc.heap j u A B C D hj;refine⟨h1,?_⟩;rw[dN μ _ a];cases hm:μ j with
   | none=>rw[hm]at h2;exact h2
   | some p=>
    obtain⟨b,base⟩:=p;rw[hm]at h2;obtain⟨o,q1,q2⟩:=h2;have I:b<w.heap.size:=(amb.1 q1).1
    have K:b≠l:=by
     rintro rfl;rcases m with m | ⟨ri,DO,X,_⟩
     ·omega
     ·exact a (hc.ok.inj j id _ _ _ _ _ _ _ _ _ _ _ _ _ hj hh hm X)
    exact⟨o,(L b I K).trans q1,q2.mono (λi y pv v hi hy hr=>hr.fr kP hc.ok (λR T e' U V he b' W=>by
     obtain⟨q1,q2⟩:=uG j i y b' ⟨_,_,_,_,_,_,_,_,_,_,hj,hi,by rw[hy,he],W⟩;exact L b' q1 q2))⟩
 ·refine⟨λb BR Ur=>?_,λb BR=>?_,λb Ur=>aOE (hc.ok.slt b Ur) wv,?_,hc.ok.Cw kP,λb a6 j x y hx=>?_,λb j x y j' x' y' hx tr=>?_⟩;rotate_right 2
  ·obtain⟨_,M,N,r,_⟩:=Y j x y b hx;obtain⟨q1,q2⟩:=uG _ _ _ b r;obtain⟨k,gk,a8,nk,ek,fk,Ot,hk,hm⟩:=a6;by_cases zO:k=id
   ·subst zO;rw[bF]at hm;injection hm with hm;injection hm with h1 h2;exact q2 h1.symm
   ·rw[F k zO (H hk)]at hk;rw[dN μ _ zO]at hm;exact hc.ok.hv b ⟨k,gk,a8,nk,ek,fk,Ot,hk,hm⟩ _ _ _ r
  ·obtain⟨k1,M,N,r,c0⟩:=Y j x y b hx;obtain⟨k2,j1,x1,a9,c1⟩:=Y j' x' y' b tr;obtain⟨r1,J,r3⟩:=hc.ok.hh b _ _ _ _ _ _ r a9;subst r1;subst J;rcases c0 with⟨a1,a2,a3⟩ | ⟨a1,a2,a3,a4⟩ | ⟨a1,a2,a3,a4⟩<;>rcases c1 with⟨d1,d2,d3⟩ | ⟨d1,d2,d3,d4⟩ | ⟨d1,d2,d3,d4⟩<;>refine⟨?_,?_,r3⟩<;>omega
  ·rcases kP.own b BR with h1 | h1
   ·exact hc.ok.apart b h1 Ur
   ·have:=hc.ok.slt b Ur;omega
  ·rcases BR with⟨j,u,A,B,C,D,pG,hj,hm⟩ | ⟨j,x,y,hx⟩;rotate_left
   ·obtain⟨_,M,N,r,_⟩:=Y j x y b hx;exact aOE (hc.ok.lt b (.inr ⟨_,_,_,r⟩)) wv
   by_cases a:j=id
   ·subst a;rw[bF]at hm;injection hm with hm;injection hm with h1 h2;subst h1;exact a5
   ·rw[F j a (H hj)]at hj;rw[dN μ _ a]at hm;exact aOE (hc.ok.lt b (.inl ⟨j,u,A,B,C,D,pG,hj,hm⟩)) wv
  ·intro i j gi WD ni ei fi u A B C D b o o' hi hj pz oA;by_cases Mb:i=id
   ·by_cases a:j=id
    ·rw[Mb,a]
    ·subst Mb;rw[bF]at pz;injection pz with pz;injection pz with h1 h2;subst h1;rw[F j a (H hj)]at hj;rw[dN μ _ a]at oA;rcases m with m | ⟨ri,DO,X,_⟩
     ·have:=hc.ok.lt _ (.inl ⟨j,u,A,B,C,D,o',hj,oA⟩);omega
     ·exact hc.ok.inj i j _ _ _ _ _ _ _ _ _ _ _ _ _ hh hj X oA
   ·rw[F i Mb (H hi)]at hi;rw[dN μ _ Mb]at pz;by_cases a:j=id
    ·subst a;rw[bF]at oA;injection oA with oA;injection oA with h1 h2;subst h1;rcases m with m | ⟨ri,DO,X,_⟩
     ·have:=hc.ok.lt _ (.inl ⟨i,gi,WD,ni,ei,fi,o,hi,pz⟩);omega
     ·exact hc.ok.inj i j _ _ _ _ _ _ _ _ _ _ _ _ _ hi hh pz X
    ·rw[F j a (H hj)]at hj;rw[dN μ _ a]at oA;exact aRq
end
section
variable {P:Program}{T:sf}{μ:Mu}{h:List aq}{S:Nat->Prop}{w:World}
theorem zm (hc:Core μ h S w) (id g d sz n:Nat) (e:TypeId) (f k:Nat->List PV) (hh:h[id]? =some (aq.row g sz n e f)) (u:μ id=none) (hg:g<d):
  Fr μ h S w μ (h.set id (.row d sz 0 e k)) S w/\Core μ (h.set id (.row d sz 0 e k)) S w:=by
 have hid:id<h.length:=(N2.1 hh).1;have E:(h.set id (aq.row d sz 0 e k))[id]? =some (aq.row d sz 0 e k):=by simp [hid]
 have l:∀j,j≠id->(h.set id (aq.row d sz 0 e k))[j]? =h[j]?:=λj hj=>by rw[aOI (aPB hj)]
 have H:∀b,FW μ (h.set id (aq.row d sz 0 e k)) b->FW μ h b:=λb a=>by
  obtain⟨j,m,q,r,s,t,J,hj,hm⟩:=a;by_cases c:j=id
  ·subst c;rw[u]at hm;cases hm
  ·rw[l j c]at hj;exact⟨j,m,q,r,s,t,J,hj,hm⟩
 have v:∀j x y b,eK (h.set id (aq.row d sz 0 e k)) j x y b->eK h j x y b:=λj x y b ⟨m,q,r,s,t,N,O,e',P,Q,q1,q2,q3,q4⟩=>by
  by_cases c:j=id
  ·subst c;rw[E]at q1;injection q1 with q1;injection q1 with A e2 B C D;omega
  ·rw[l j c]at q1;exact aRA
 have F:∀b,dE μ (h.set id (aq.row d sz 0 e k)) b->dE μ h b:=λb a=>by
  rcases a with a | ⟨x,y,z,a⟩
  ·exact .inl (H b a)
  ·exact .inr ⟨x,y,z,v _ _ _ _ a⟩
 have I:Fr μ h S w μ (h.set id (.row d sz 0 e k)) S w:=by
  refine⟨by simp,λ_ _ _=>rfl,λ_ a=>a,λ_ a=>.inl a,λb a=>.inl (F b a),Of _,rfl,rfl,rfl,λj m q r s t hj=>?_,λj hj=>?_,λ_ _ _ K=>K,λj m q r s t b base hj hm G=>⟨G,.inr ⟨⟨_,_,_,_,_,(l j (by rintro rfl;rw[u]at hm;cases hm)).trans hj⟩,hm⟩⟩,λ_ _ _ _ _ G=>G⟩
  ·by_cases c:j=id
   ·subst c;rw[hh]at hj;injection hj with hj;injection hj with A e2 B C D;subst A e2 B C D;rw[E];exact⟨by omega,λhe=>absurd he aRK⟩
   ·rw[l j c,hj];exact aRx
  ·have c:j≠id:=by rintro rfl;rw[hh]at hj;cases hj
   rw[l j c];exact hj
 refine⟨I,⟨λj m q r s t hj=>?_,⟨λb a=>hc.ok.apart b (F b a),λb a=>hc.ok.lt b (F b a),hc.ok.slt,?_,hc.ok.known,λb a x y z hx=>hc.ok.hv b (H b a) x y z (v _ _ _ _ hx),λb _ _ _ _ _ _ hx hy=>hc.ok.hh b _ _ _ _ _ _ (v _ _ _ _ hx) (v _ _ _ _ hy)⟩⟩⟩
 ·by_cases c:j=id
  ·subst c;rw[E]at hj;injection hj with hj;injection hj with A e2 B C D;subst A e2 B C D;refine⟨λi hi=>absurd hi aRK,?_⟩;rw[u]
  ·rw[l j c]at hj;obtain⟨h1,h2⟩:=hc.heap j m q r s t hj;refine⟨h1,?_⟩;cases hm:μ j with
   | none=>rw[hm]at h2;exact h2
   | some p=>
    obtain⟨b,base⟩:=p;rw[hm]at h2;obtain⟨o,q1,q2⟩:=h2;exact⟨o,q1,q2.mono (λ_ _ _ _ _ _ L=>L.fr I hc.ok (λ_ _ _ _ _ _ _ _=>rfl))⟩
 ·intro i j R T U V W m q r s t b o X hi hj pz oA;have M:i≠id:=by rintro rfl;rw[u]at pz;cases pz
  have c:j≠id:=by rintro rfl;rw[u]at oA;cases oA
  rw[l i M]at hi;rw[l j c]at hj;exact aRq
variable {a:Act}{env:Env}{K:PV->List aq->Prop}{dst:Option Tmp}{ty:TypeId}{pos:String}{after:Array Edge}{guard:Option (Nat×Bool)}
theorem sC (z:Array Value) (n:Nat):(Builtin.zeroCells z n).size=n*z.size:=by simp [Builtin.zeroCells]
theorem kD {s x:Operand} {t tx:TypeId} {b c d:Value} {w':World} (hs:a.eval s=b) (hx:a.eval x=c) (e:(Builtin.append_ #[t,tx] ty #[b,c]).run P w=.ok d w'):
  (execOp a.eval ⟨dst,.call ⟨.builtin .append,#[s,x],#[t,tx]⟩,ty,pos,after,guard⟩).run P w=.ok (.value d) w':=by
 simp only[execOp,resolve,invoke,builtin,Sem.run_bind,Sem.run_pure,Result.andThen_ok,aQs,aOC,aPb,hs,hx,e]
theorem GM {sz l m:Nat} {f q:Nat->List PV} {a news rest:Array Value} (g:a.size=l*sz) (k:news.size=m*sz)
  (h1:∀(i j:Nat) (pv:PV),i<l->(f i)[j]? =some pv->∃u,a[i*sz+j]? =some u/\qT μ h S w pv u)
  (h2:∀(i j:Nat) (pv:PV),i<m->(q i)[j]? =some pv->∃u,news[i*sz+j]? =some u/\qT μ h S w pv u)
  (e:∀i,i<l->(f i).length=sz) (n:∀i,i<m->(q i).length=sz):
  ∀(i j:Nat) (pv:PV),i<l+m->(bif Nat.blt i l then f i else q (i - l))[j]? =some pv->∃u,(a++news++rest)[i*sz+j]? =some u/\qT μ h S w pv u:=by
 intro i j pv hi hj;by_cases b:i<l
 ·have c:Nat.blt i l=true:=by simpa using b
  rw[c]at hj;simp only[aPY]at hj;obtain⟨u,q1,q2⟩:=h1 i j pv b hj;have d:i*sz+j<a.size:=(amb.1 q1).1;exact⟨u,by rw[aPo aRT,aPo d];exact q1,q2⟩
 ·have c:Nat.blt i l=false:=by
   cases hh:Nat.blt i l with
   | true=>exact(b aSy).elim
   | false=>rfl
  rw[c]at hj;simp only[aPZ]at hj;obtain⟨u,q1,q2⟩:=h2 (i - l) j pv aRK hj;have d:(i - l)*sz+j<news.size:=(amb.1 q1).1;have hmul:i*sz=l*sz+(i - l)*sz:=by rw[<-aOA];congr 1;omega
  refine⟨u,?_,q2⟩;rw[aPo aRT,Array.getElem?_append_right aRK,<-q1];congr 1;omega
theorem Pv {sz l m:Nat} {f q:Nat->List PV} (a:∀i,i<l->(f i).length=sz) (d:∀i,i<m->(q i).length=sz):∀i,i<l+m->(bif Nat.blt i l then f i else q (i - l)).length=sz:=by
 intro i hi;by_cases b:i<l
 ·have c:Nat.blt i l=true:=by simpa using b
  rw[c];exact a i b
 ·have c:Nat.blt i l=false:=by
   cases hh:Nat.blt i l with
   | true=>exact(b aSy).elim
   | false=>rfl
  rw[c];exact d _ aRK
theorem CD (w:World) (o:Obj):dt w (w.drew.alloc o):=(dt.drew w).trans (oq w.drew o)
theorem Pw (r:e9 P T) (hc:Core μ h S w) (t tx e sz bytes:Nat) (zero:List PV) (d:TypeDesc) (v:T.get t=.slice e sz bytes zero) (y:P.underlying tx=some d) (hd:(∃e',d=.slice e')\/d=.string)
  (s x:Operand) (hs:a.eval s=.slice none 0 0) (m:Nat) (g:Nat->List PV) (E:Src P μ h S w (a.eval x) sz m g) (b:∀(i j:Nat) (pv:PV),i<m->(g i)[j]? =some pv->eV pv=false) (F:m*bytes<=140737488355328) (z:K (.own h.length 0 0 m) (h++[.row 0 sz m e g])):
  im P ⟨dst,.call ⟨.builtin .append,#[s,x],#[t,tx]⟩,ty,pos,after,guard⟩ a μ h S w K:=by
 obtain⟨hu,Q,inf,A,B,G,k,H,l,I,J⟩:=r.slice _ _ _ _ _ v;have n:=r.bytes _ _ _ _ _ v;subst G k;obtain⟨C,news,q1,q2,q3,q4⟩:=E;rcases aPA m with h0 | h0
 ·subst h0;have L:news=#[]:=aPx aSw;subst L;obtain⟨r1,o⟩:=q4 w (dt.refl w);have f:=mu (P:=P) (w:=w) t tx ty e inf d hu y hd B none 0 0 (a.eval x) 0 #[] w r1 o (Of _) rfl;obtain⟨p,q⟩:=qp (w1:=w) hc inf.size 0 e g none rfl (dt.refl w) C b;refine im.jT (kD hs rfl f) z ?_ q p;show bK _ _ _ _ _ _ _ _;unfold bK;rw[aOH (Of _),aPz];refine⟨⟨_,_,_,rfl⟩,Of _,λ_=>⟨by omega,?_⟩⟩;rw[bF]
 ·obtain⟨r1,_⟩:=q4 w (dt.refl w);obtain⟨_,o⟩:=q4 w.drew (dt.drew w);have f:=qZ (P:=P) (w:=w) t tx ty e inf A d hu y hd B H none 0 0 (a.eval x) m #[] news r1 rfl o aRK n (by rw[are];exact F);rw[are]at f
  obtain⟨p,q⟩:=qp (w1:=w.drew.alloc (.cells (#[]++news++Builtin.zeroCells A.cells (grownCap w m 0 e - m)) e)) hc inf.size m e g (some (w.heap.size,0))
   ⟨Of _,_,heap_alloc_new w.drew _,by simp [q1],λi j pv hi hj=>by
    obtain⟨u,D,M⟩:=q2 i j pv hi hj;have N:=(amb.1 D).1;exact⟨u,by rw[aPX,are,aPo N];exact D,M.c⟩⟩ (CD w _) C b
  refine im.jT (kD hs rfl f) z ?_ q p;show bK _ _ _ _ _ _ _ _;unfold bK;rw[aOH (Of _),aPz];refine⟨⟨_,_,_,rfl⟩,Of _,λ_=>⟨by omega,?_⟩⟩;rw[bF];have O:=grownCap_ge w m 0 e;refine⟨_,grownCap w m 0 e,rfl,O,λ_=>by simp,_,e,_,heap_alloc_new w.drew _,?_⟩;simp only[aPP,sC,l,q1];simp only[are];have:grownCap w m 0 e*inf.size=m*inf.size+(grownCap w m 0 e - m)*inf.size:=by rw[<-aOA];congr 1;omega
  simp;omega
theorem Te (hT:e9 P T) (hc:Core μ h S w) (t tx e sz bytes:Nat) (zero:List PV) (d:TypeDesc) (jl:T.get t=.slice e sz bytes zero) (U:P.underlying tx=some d) (hd:(∃e',d=.slice e')\/d=.string)
  (s x:Operand) (id g off len n:Nat) (f:Nat->List PV) (hh:h[id]? =some (aq.row g sz n e f)) (hs:cj μ h S w (.own id g off len) (a.eval s)) (m:Nat) (q:Nat->List PV) (DW:Src P μ h S w (a.eval x) sz m q) (V:∀(i j:Nat) (pv:PV),i<m->(q i)[j]? =some pv->eV pv=false)
  (E:(len+m)*bytes<=140737488355328)
  (W:K (.own id (g+1) 0 (len+m)) (h.set id (.row (g+1) sz (len+m) e (λi=>bif Nat.blt i len then f (off+i)else q (i - len))))):
  im P ⟨dst,.call ⟨.builtin .append,#[s,x],#[t,tx]⟩,ty,pos,after,guard⟩ a μ h S w K:=by
 obtain⟨hu,j5,inf,X,Y,sS,Z,hz,aa,a9,bj⟩:=hT.slice _ _ _ _ _ jl;have ag:=hT.bytes _ _ _ _ _ jl;subst sS Z;have hid:id<h.length:=(N2.1 hh).1;obtain⟨F,Ae,o1,o2,o3,o4⟩:=rI (P:=P) hc id g off len inf.size n e f hh _ hs j5;obtain⟨HV,news,q1,q2,q3,q4⟩:=DW;have y:=Pv F HV
 have G:∀{sl:Nat},off+sl<=n->∀(i j cW n':Nat) (e':TypeId) (f':Nat->List PV) (F':Nat->Prop),i<sl+m->(bif Nat.blt i sl then f (off+i)else q (i - sl))[j]? =some (.eg cW n' e' f' F')->off+i<n/\(f (off+i))[j]? =some (.eg cW n' e' f' F'):=λ{sl} bo i j cW n' e' f' F' hi hj=>by
  by_cases C:i<sl
  ·have E:Nat.blt i sl=true:=by simpa using C
   rw[E]at hj;exact⟨by omega,hj⟩
  ·have E:Nat.blt i sl=false:=by
    cases hh:Nat.blt i sl with
    | true=>exact(C aSy).elim
    | false=>rfl
   rw[E]at hj;have:=V (i - sl) j _ aRK hj;cases this
 have c:=hs.ru;unfold bK at c;rw[hh]at c;obtain⟨⟨sa,sl,l,z⟩,_,c⟩:=c;obtain⟨hle,c⟩:=c rfl
 have a2:sl=len:=by
  obtain⟨v,_⟩:=o4 w (dt.refl w);rw[z]at v;simp [Builtin.lenOf]at v;exact v
 subst a2;obtain⟨hl,bD⟩:=hc.heap id g _ n e f hh
 have Wv:∀b base,μ id=some (b,base)->¬tV w b:=λb base A=>by
  rw[A]at c;obtain⟨_,_,_,_,_,M⟩:=c;exact M.Li
 by_cases N:sl+m<=l
 ·-- in place
  obtain⟨r1,O⟩:=q4 w (dt.refl w);cases A:μ id with
  | none=>
   rw[A]at c bD;rw[z]at c;injection c with v e2 e3;subst v e2 e3;have hm:m=0:=by omega
   subst hm;have hn:news=#[]:=aPx aSw;subst hn;have H:=mu (P:=P) (w:=w) t tx ty e inf d hu U hd Y none 0 0 (a.eval x) 0 #[] w r1 O (Of _) rfl;obtain⟨I,J⟩:=zm hc id g (g+1) inf.size n e f (λi=>bif Nat.blt i 0 then f (off+i)else q (i - 0)) hh A (aOr g);refine im.jT (kD z rfl H) W ?_ J I;show bK _ _ _ _ _ _ _ _;unfold bK;rw[aPi hid];refine⟨⟨_,_,_,rfl⟩,Of _,λ_=>⟨by omega,?_⟩⟩;rw[A]
  | some p=>
   obtain⟨b,base⟩:=p;rw[A]at c bD;obtain⟨Q,cap,hv,br,R,M⟩:=c;rw[z]at hv;injection hv with v e2 e3;subst v e3;obtain⟨cur,D,yM,mU⟩:=dB.cells M bD
   have a3:base+(off+l)*inf.size<=cur.size:=by
    obtain⟨DO,e',z',o,L⟩:=M;rw[D]at o;injection o with o;injection o with o _ _;subst o;exact L
   rw[aOA]at a3
   have key:∃r:Array Value,r.size=cur.size/\(match(some Q:Option Addr)with | some a=>(storeCells (a.add (sl*inf.size)) news.toList).run P w=.ok () (w.setRow b r) | none=>w.setRow b r=w)/\
     ∀k,r[k]? =if base+off*inf.size+sl*inf.size<=k/\k<base+off*inf.size+sl*inf.size+m*inf.size then news[k - (base+off*inf.size+sl*inf.size)]? else cur[k]?:=by
    rcases aPA m with h0 | h0
    ·subst h0;have hn:news=#[]:=aPx aSw;subst hn;refine⟨cur,rfl,?_,λk=>by rw[mg aRK]⟩;show(storeCells (Q.add (sl*inf.size)) []).run P w=.ok () (w.setRow b cur);rw[setRow_self w b cur e (0,0) D];rfl
    ·have R:=R aRK;subst R;have hmul:(sl+m)*inf.size<=l*inf.size:=aOF _ N;rw[aOA]at hmul;have Bm:=run_storeCells_at P b (base+off*inf.size+sl*inf.size) e news.toList 0 cur w D aRT q3;rw[aPv]at Bm;refine⟨(cur.toList.take (base+off*inf.size+sl*inf.size)++news.toList++cur.toList.drop (base+off*inf.size+sl*inf.size+news.toList.length)).toArray,?_,?_,λk=>?_⟩
     ·simp;omega
     ·show(storeCells ((⟨b,base+off*inf.size,none⟩:Addr).add (sl*inf.size)) news.toList).run P w=.ok () _;rw[Addr.add_lit];exact Bm
     ·have a4:=zQ cur.toList news.toList (base+off*inf.size+sl*inf.size) k aRT;rw[aQe,a4];simp only[aOL,aPp,q1]
   obtain⟨r,c1,c2,c3⟩:=key;have H:=mu (P:=P) (w:=w) t tx ty e inf d hu U hd Y (some Q) sl l (a.eval x) m news (w.setRow b r) r1 O N c2;have hmul:(sl+m)*inf.size<=l*inf.size:=aOF _ N;rw[aOA]at hmul
   have qw:=FU (w1:=w.setRow b r) hc id g (g+1) inf.size n (sl+m) e f (λi=>bif Nat.blt i sl then f (off+i)else q (i - sl)) hh b (base+off*inf.size) r aRK (λhe=>absurd he aRK)
    (.inr ⟨base,cur,A,D,c1.symm⟩) (setRow_heap w b cur _ e _ D) (by rw[c1,aOA];omega) (λb' _ pU=>setRow_other w b b' _ pU) aRN rfl rfl rfl y Wv
    (λi j pv hi hj=>by
     have Sg:j<inf.size:=by rw[<-y i hi];exact(N2.1 hj).1
     rw[c3];by_cases C:i<sl
     ·have B:Nat.blt i sl=true:=by simpa using C
      rw[B]at hj;simp only[aPY]at hj;have pz:(i+1)*inf.size<=sl*inf.size:=aOF _ C;rw[aOA]at pz;rw[mg aRK];obtain⟨u,o,L⟩:=mU (off+i) j pv aRK hj;refine⟨u,?_,L⟩;rw[<-o];congr 1;rw[aOA];omega
     ·have B:Nat.blt i sl=false:=by
       cases a5:Nat.blt i sl with
       | true=>exact(C (by simpa using a5)).elim
       | false=>rfl
      rw[B]at hj;simp only[aPZ]at hj;have v:i*inf.size=sl*inf.size+(i - sl)*inf.size:=by rw[<-aOA];congr 1;omega
      have e2:(i - sl+1)*inf.size<=m*inf.size:=aOF _ aRK;rw[aOA]at e2;rw[An aRK];obtain⟨u,o,L⟩:=q2 (i - sl) j pv aRK hj;exact⟨u,by rw[<-o];congr 1;omega,L⟩) off (G aRK)
   obtain⟨I,J⟩:=qw;refine im.jT (kD z rfl H) W ?_ J I;show bK _ _ _ _ _ _ _ _;unfold bK;rw[aPi hid];refine⟨⟨_,_,_,rfl⟩,Of _,λ_=>⟨by omega,?_⟩⟩;rw[bF];refine⟨Q,l,rfl,N,λa6=>?_,r,e,_,setRow_heap w b cur _ e _ D,?_⟩
   ·rw[R a6,Nat.zero_mul,aPv]
   ·rw[c1,are];omega
 ·-- it a8
  obtain⟨r1,_⟩:=q4 w (dt.refl w);obtain⟨_,O⟩:=q4 w.drew (dt.drew w);obtain⟨_,s2⟩:=o4 w.drew (dt.drew w);rw[z]at s2;have H:=qZ (P:=P) (w:=w) t tx ty e inf X d hu U hd Y hz sa sl l (a.eval x) m Ae news r1 s2 O aRK ag E;have Uq:=grownCap_ge w (sl+m) l e
  have qw:=FU (w1:=w.drew.alloc (.cells (Ae++news++Builtin.zeroCells X.cells (grownCap w (sl+m) l e - (sl+m))) e)) hc id g (g+1) inf.size n (sl+m) e f (λi=>bif Nat.blt i sl then f (off+i)else q (i - sl)) hh
   w.heap.size 0 (Ae++news++Builtin.zeroCells X.cells (grownCap w (sl+m) l e - (sl+m))) aRK (λhe=>absurd he aRK) (.inl (Of _)) (heap_alloc_new w.drew _)
   (by simp only[aPP,o1,q1,aOA];omega) (λb bg _=>heap_alloc_old w.drew _ bg) aRN rfl rfl rfl y Wv
   (λi j pv hi hj=>by
    rw[are];exact GM o1 q1 o2 q2 F HV i j pv hi hj) off (G aRK)
  obtain⟨I,J⟩:=qw;refine im.jT (kD z rfl H) W ?_ J I;show bK _ _ _ _ _ _ _ _;unfold bK;rw[aPi hid];refine⟨⟨_,_,_,rfl⟩,Of _,λ_=>⟨by omega,?_⟩⟩;rw[bF];refine⟨_,grownCap w (sl+m) l e,rfl,Uq,λ_=>by simp,_,e,_,heap_alloc_new w.drew _,?_⟩;simp only[aPP,sC,aa,o1,q1,are];have:grownCap w (sl+m) l e*inf.size=(sl+m)*inf.size+(grownCap w (sl+m) l e - (sl+m))*inf.size:=by rw[<-aOA];congr 1;omega
  rw[aOA]at this;omega
theorem im.ai0 {o:Oper} {a:Act} {K:PV->List aq->Prop} {μ1:Mu} {h1:List aq} (hf:Fr μ h S w μ1 h1 S w) (hm:vz μ h S w) (b:im P o a μ1 h1 S w K):im P o a μ h S w K:=by
 intro next Q c
 exact b next Q λv val h' μ' S' w' d hv hc e=>c v val h' μ' S' w' d hv hc (hf.trans e)
theorem Dg (hT:e9 P T) (hc:Core μ h S w) (t tx e sz bytes:Nat) (zero:List PV) (d:TypeDesc) (jl:T.get t=.slice e sz bytes zero) (tr:P.underlying tx=some d) (hd:(∃e',d=.slice e')\/d=.string)
  (s x:Operand) (id g off len n:Nat) (f:Nat->List PV) (hh:h[id]? =some (aq.row g sz n e f)) (hs:cj μ h S w (.own id g off len) (a.eval s)) (F:Nat) (y:F≠id) (g2 n2:Nat) (r:TypeId) (q2:Nat->List PV) (o m:Nat) (Pu:h[F]? =some (aq.row g2 sz n2 r q2)) (Iy:o+m<=n2) (DW:Src P μ h S w (a.eval x) sz m (λi=>q2 (o+i)))
  (H:(len+m)*bytes<=140737488355328)
  (hK:K (.own id (g+1) 0 (len+m)) ((h.set id (.row (g+1) sz (len+m) e (λi=>bif Nat.blt i len then f (off+i)else q2 (o+(i - len))))).set F .dead)):
  im P ⟨dst,.call ⟨.builtin .append,#[s,x],#[t,tx]⟩,ty,pos,after,guard⟩ a μ h S w K:=by
 obtain⟨hu,j5,inf,zv,nR,sS,aa,hz,ag,bt,bw⟩:=hT.slice _ _ _ _ _ jl;have a2:=hT.bytes _ _ _ _ _ jl;subst sS aa;have hid:id<h.length:=(N2.1 hh).1;obtain⟨I,Ae,o1,o2,o3,o4⟩:=rI (P:=P) hc id g off len inf.size n e f hh _ hs j5;obtain⟨HV,news,q1,J,q3,q4⟩:=DW;have A:=Pv I HV
 have L:∀{sl:Nat},off+sl<=n->∀(i j R U:Nat) (e':TypeId) (V:Nat->List PV) (W:Nat->Prop),i<sl+m->(bif Nat.blt i sl then f (off+i)else q2 (o+(i - sl)))[j]? =some (.eg R U e' V W)->(i<sl/\off+i<n/\(f (off+i))[j]? =some (.eg R U e' V W))\/(sl<=i/\o+(i - sl)<n2/\(q2 (o+(i - sl)))[j]? =some (.eg R U e' V W)):=λ{sl} b0 i j R U e' V W hi hj=>by
  by_cases B:i<sl
  ·have H:Nat.blt i sl=true:=by simpa using B
   rw[H]at hj;exact .inl ⟨B,by omega,hj⟩
  ·have H:Nat.blt i sl=false:=by
    cases hh:Nat.blt i sl with
    | true=>exact(B aSy).elim
    | false=>rfl
   rw[H]at hj;exact .inr ⟨by omega,by omega,hj⟩
 have c:=hs.ru;unfold bK at c;rw[hh]at c;obtain⟨⟨sa,sl,l,C⟩,_,c⟩:=c;obtain⟨hle,c⟩:=c rfl
 have a3:sl=len:=by
  obtain⟨z,_⟩:=o4 w (dt.refl w);rw[C]at z;simp [Builtin.lenOf]at z;exact z
 subst a3;obtain⟨hl,bD⟩:=hc.heap id g _ n e f hh
 have Wv:∀b base,μ id=some (b,base)->¬tV w b:=λb base D=>by
  rw[D]at c;obtain⟨_,_,_,_,_,X⟩:=c;exact X.Li
 by_cases Y:sl+m<=l
 ·-- in place
  obtain⟨r1,Z⟩:=q4 w (dt.refl w);cases D:μ id with
  | none=>
   rw[D]at c bD;rw[C]at c;injection c with z e2 e3;subst z e2 e3;have hm:m=0:=by omega
   subst hm;have hn:news=#[]:=aPx aSw;subst hn;have M:=mu (P:=P) (w:=w) t tx ty e inf d hu tr hd nR none 0 0 (a.eval x) 0 #[] w r1 Z (Of _) rfl;obtain⟨a4,a5⟩:=zm hc id g (g+1) inf.size n e f (λi=>bif Nat.blt i 0 then f (off+i)else q2 (o+(i - 0))) hh D (aOr g);obtain⟨a6,N⟩:=Xh a5 F g2 inf.size n2 r q2 (by rw[aOI (aPB y)];exact Pu);have O:=a4.trans a6;refine im.jT (kD C rfl M) hK ?_ N O;show bK _ _ _ _ _ _ _ _;unfold bK;rw[aOI y,aPi hid];refine⟨⟨_,_,_,rfl⟩,Of _,λ_=>⟨by omega,?_⟩⟩;rw[D]
  | some p=>
   obtain⟨b,base⟩:=p;rw[D]at c bD;obtain⟨ad,cap,hv,b1,Az,X⟩:=c;rw[C]at hv;injection hv with z e2 e3;subst z e3;obtain⟨cur,G,yM,mU⟩:=dB.cells X bD
   have a8:base+(off+l)*inf.size<=cur.size:=by
    obtain⟨DO,e',z',q,Q⟩:=X;rw[G]at q;injection q with q;injection q with q _ _;subst q;exact Q
   rw[aOA]at a8
   have key:∃v:Array Value,v.size=cur.size/\(match(some ad:Option Addr)with | some a=>(storeCells (a.add (sl*inf.size)) news.toList).run P w=.ok () (w.setRow b v) | none=>w.setRow b v=w)/\
     ∀k,v[k]? =if base+off*inf.size+sl*inf.size<=k/\k<base+off*inf.size+sl*inf.size+m*inf.size then news[k - (base+off*inf.size+sl*inf.size)]? else cur[k]?:=by
    rcases aPA m with h0 | h0
    ·subst h0;have hn:news=#[]:=aPx aSw;subst hn;refine⟨cur,rfl,?_,λk=>by rw[mg aRK]⟩;show(storeCells (ad.add (sl*inf.size)) []).run P w=.ok () (w.setRow b cur);rw[setRow_self w b cur e (0,0) G];rfl
    ·have Az:=Az aRK;subst Az;have hmul:(sl+m)*inf.size<=l*inf.size:=aOF _ Y;rw[aOA]at hmul;have Bm:=run_storeCells_at P b (base+off*inf.size+sl*inf.size) e news.toList 0 cur w G aRT q3;rw[aPv]at Bm;refine⟨(cur.toList.take (base+off*inf.size+sl*inf.size)++news.toList++cur.toList.drop (base+off*inf.size+sl*inf.size+news.toList.length)).toArray,?_,?_,λk=>?_⟩
     ·simp;omega
     ·show(storeCells ((⟨b,base+off*inf.size,none⟩:Addr).add (sl*inf.size)) news.toList).run P w=.ok () _;rw[Addr.add_lit];exact Bm
     ·have a9:=zQ cur.toList news.toList (base+off*inf.size+sl*inf.size) k aRT;rw[aQe,a9];simp only[aOL,aPp,q1]
   obtain⟨v,c1,c2,c3⟩:=key;have M:=mu (P:=P) (w:=w) t tx ty e inf d hu tr hd nR (some ad) sl l (a.eval x) m news (w.setRow b v) r1 Z Y c2;have hmul:(sl+m)*inf.size<=l*inf.size:=aOF _ Y;rw[aOA]at hmul
   have qw:=JO (w1:=w.setRow b v) hc id F y g2 inf.size n2 r q2 Pu sl g (g+1) inf.size n (sl+m) e f (λi=>bif Nat.blt i sl then f (off+i)else q2 (o+(i - sl))) hh b (base+off*inf.size) v aRK (λhe=>absurd he aRK)
    (.inr ⟨base,cur,D,G,c1.symm⟩) (setRow_heap w b cur _ e _ G) (by rw[c1,aOA];omega) (λb' _ y=>setRow_other w b b' _ y) aRN rfl rfl rfl A Wv
    (λi j pv hi hj=>by
     have Sg:j<inf.size:=by rw[<-A i hi];exact(N2.1 hj).1
     rw[c3];by_cases B:i<sl
     ·have E:Nat.blt i sl=true:=by simpa using B
      rw[E]at hj;simp only[aPY]at hj;have pz:(i+1)*inf.size<=sl*inf.size:=aOF _ B;rw[aOA]at pz;rw[mg aRK];obtain⟨u,q,Q⟩:=mU (off+i) j pv aRK hj;refine⟨u,?_,Q⟩;rw[<-q];congr 1;rw[aOA];omega
     ·have E:Nat.blt i sl=false:=by
       cases bj:Nat.blt i sl with
       | true=>exact(B (by simpa using bj)).elim
       | false=>rfl
      rw[E]at hj;simp only[aPZ]at hj;have z:i*inf.size=sl*inf.size+(i - sl)*inf.size:=by rw[<-aOA];congr 1;omega
      have e2:(i - sl+1)*inf.size<=m*inf.size:=aOF _ aRK;rw[aOA]at e2;rw[An aRK];obtain⟨u,q,Q⟩:=J (i - sl) j pv aRK hj;exact⟨u,by rw[<-q];congr 1;omega,Q⟩) off o (L aRK)
   obtain⟨O,N⟩:=qw;refine im.jT (kD C rfl M) hK ?_ N O;show bK _ _ _ _ _ _ _ _;unfold bK;rw[aOI y,aPi hid];refine⟨⟨_,_,_,rfl⟩,Of _,λ_=>⟨by omega,?_⟩⟩;rw[bF];refine⟨ad,l,rfl,Y,λbo=>?_,v,e,_,setRow_heap w b cur _ e _ G,?_⟩
   ·rw[Az bo,Nat.zero_mul,aPv]
   ·rw[c1,are];omega
 ·-- it br
  obtain⟨r1,_⟩:=q4 w (dt.refl w);obtain⟨_,Z⟩:=q4 w.drew (dt.drew w);obtain⟨_,s2⟩:=o4 w.drew (dt.drew w);rw[C]at s2;have M:=qZ (P:=P) (w:=w) t tx ty e inf zv d hu tr hd nR hz sa sl l (a.eval x) m Ae news r1 s2 Z aRK a2 H;have Uq:=grownCap_ge w (sl+m) l e
  have qw:=JO (w1:=w.drew.alloc (.cells (Ae++news++Builtin.zeroCells zv.cells (grownCap w (sl+m) l e - (sl+m))) e)) hc id F y g2 inf.size n2 r q2 Pu sl g (g+1) inf.size n (sl+m) e f (λi=>bif Nat.blt i sl then f (off+i)else q2 (o+(i - sl))) hh
   w.heap.size 0 (Ae++news++Builtin.zeroCells zv.cells (grownCap w (sl+m) l e - (sl+m))) aRK (λhe=>absurd he aRK) (.inl (Of _)) (heap_alloc_new w.drew _)
   (by simp only[aPP,o1,q1,aOA];omega) (λb bg _=>heap_alloc_old w.drew _ bg) aRN rfl rfl rfl A Wv
   (λi j pv hi hj=>by
    rw[are];exact GM o1 q1 o2 J I HV i j pv hi hj) off o (L aRK)
  obtain⟨O,N⟩:=qw;refine im.jT (kD C rfl M) hK ?_ N O;show bK _ _ _ _ _ _ _ _;unfold bK;rw[aOI y,aPi hid];refine⟨⟨_,_,_,rfl⟩,Of _,λ_=>⟨by omega,?_⟩⟩;rw[bF];refine⟨_,grownCap w (sl+m) l e,rfl,Uq,λ_=>by simp,_,e,_,heap_alloc_new w.drew _,?_⟩;simp only[aPP,sC,ag,o1,q1,are];have:grownCap w (sl+m) l e*inf.size=(sl+m)*inf.size+(grownCap w (sl+m) l e - (sl+m))*inf.size:=by rw[<-aOA];congr 1;omega
  rw[aOA]at this;omega
theorem LJ (r:e9 P T) (hc:Core μ h S w) (R:∀t,cj μ h S w (env t) (a.tmps.getD t undef)) (args:Array Operand) (ts:Array TypeId) (hp:pop P T (.call ⟨.builtin .append,args,ts⟩) env h K):
  im P ⟨dst,.call ⟨.builtin .append,args,ts⟩,ty,pos,after,guard⟩ a μ h S w K:=by
 obtain⟨args⟩:=args;obtain⟨ts⟩:=ts;simp only[pop]at hp;split at hp
 ·rename_i s x t tx;have hs:=dk R s;have hx:=dk R x
  have main:∀(e sz bytes:Nat) (zero:List PV) (d:TypeDesc),T.get t=.slice e sz bytes zero->P.underlying tx=some d->((∃e',d=.slice e')\/d=.string)->Tf e sz bytes (ev env s) (ev env x) h K->
    im P ⟨dst,.call ⟨.builtin .append,#[s,x],#[t,tx]⟩,ty,pos,after,guard⟩ a μ h S w K:=by
   intro e sz bytes zero d c k hd hp;have C:=(r.slice _ _ _ _ _ c).2.1;cases hp with
   | move hp=>
    unfold Py at hp;split at hp
    ·rename_i l F m b hex;rw[b]at hs;rw[hex]at hx;split at hp
     ·rename_i u mY n2 e' q hg;obtain⟨rfl,hp⟩:=hp;replace hp:=bW hp;obtain⟨o,v,y⟩:=hp;obtain rfl:=abL o;have p:=fO hg;have G:l<h.length:=(N2.1 p).1;have B:=rI (P:=P) hc l u 0 m sz n2 e' q p _ hx C
      have H:0+m<=n2:=by
       have z:=hx.ru;unfold bK at z;rw[p]at z;exact(z.2.2 rfl).1
      obtain⟨D,c1⟩:=qp (w1:=w) hc sz 0 e (λ_=>[]) none rfl (dt.refl w) (λi hi=>absurd hi (aOX _)) (λi j pv hi=>absurd hi (aOX _));have U:(h++[aq.row 0 sz 0 e (λ_=>[])])[h.length]? =some (.row 0 sz 0 e (λ_=>[])):=by simp
      have E:(h++[aq.row 0 sz 0 e (λ_=>[])])[l]? =some (.row u sz n2 e' q):=by rw[aON G];exact p
      have W:cj (pF μ h.length none) (h++[aq.row 0 sz 0 e (λ_=>[])]) S w (.own h.length 0 0 0) (a.eval s):=by
       rw[hs.sg];show bK _ _ w h.length 0 0 0 _;unfold bK;rw[U,bF];exact⟨⟨_,_,_,rfl⟩,Of _,λ_=>⟨Of _,rfl⟩⟩
      have I:=cj.fr D hc.ok hx;have J:=rI (P:=P) c1 l u 0 m sz n2 e' q E _ I C
      have key:=Dg (dst:=dst) (pos:=pos) (after:=after) (guard:=guard) (ty:=ty) (K:=K) r c1 t tx e sz bytes zero d c k hd s x h.length 0 0 0 0 (λ_=>[]) U W l aRK u n2 e' q 0 m E H J (by rw[are];exact v) (by
       have L:(λi=>bif Nat.blt i 0 then([]:List PV)else q (0+(i - 0)))=q:=by funext i;rw[are];rfl
       rw[L,are m];exact y)
      exact im.ai0 D hc.ok key
     ·exact aRg
    ·rename_i id gen len l F m b hex;rw[b]at hs;rw[hex]at hx;split at hp
     ·rename_i g V n e' f hg;split at hp
      ·rename_i u mY n2 e2 q M;obtain⟨rfl,rfl,hp⟩:=hp;replace hp:=bW hp;obtain⟨o,v,y⟩:=hp;simp only[As,aPe]at o;obtain⟨h1,h2,X,h4⟩:=o;obtain rfl:=abL h1;obtain rfl:=abL h2;obtain rfl:=abL X;have Y:l≠id:=Nat.ne_of_beq_eq_false h4;have p:=fO M
       have H:0+m<=n2:=by
        have z:=hx.ru;unfold bK at z;rw[p]at z;exact(z.2.2 rfl).1
       have B:=rI (P:=P) hc l u 0 m sz n2 e2 q p _ hx C;refine Dg r hc t tx e sz bytes zero d c k hd s x id g 0 len n f (fO hg) hs l Y u n2 e2 q 0 m p H B v ?_;have L:(λi=>bif Nat.blt i len then f (0+i)else q (0+(i - len)))=SP f len q:=by funext i;rw[are,are];rfl
       rw[L];exact y
      ·exact aRg
     ·exact aRg
    ·exact aRg
   | ez hp=>
   unfold ym at hp;split at hp
   ·rename_i b;rw[b]at hs;obtain⟨_,g,⟨v,m,Z,rfl,N,y⟩,B,O⟩:=JN (P:=P) hc _ _ hx sz C _ hp;exact im.rows (Pw r hc t tx e sz bytes zero d c k hd s x hs.sg m g B O v ⟨_,fQ.snoc _ _ _ _ _ _ _ N,y⟩)
   ·rename_i id gen off len b;rw[b]at hs;split at hp
    ·rename_i g V n e' f hg;obtain⟨rfl,hp⟩:=hp;replace hp:=bW hp;obtain⟨o,hp⟩:=hp;simp only[As]at o;obtain rfl:=abL o.1;obtain rfl:=abL o.2;obtain⟨m,q,⟨v,n',Z,rfl,N,y⟩,B,Q⟩:=JN (P:=P) hc _ _ hx sz C _ hp;exact im.rows (Te r hc t tx e sz bytes zero d c k hd s x id g off len n f (fO hg) hs m q B Q v ⟨_,fQ.set _ _ _ _ _ _ _ _ N,y⟩)
    ·exact aRg
   ·exact aRg
  split at hp
  ·rename_i e sz bytes zero e' V aa ad c A;exact main e sz bytes zero _ c (r.slice _ _ _ _ _ A).1 (.inl ⟨_,rfl⟩) hp
  ·rename_i e sz bytes zero c A;exact main e sz bytes zero _ c (r.str _ A) (.inr rfl) hp
  ·exact aRg
 ·exact aRg
theorem cj.ai2 {pv:PV} {v:Value} (a:ky μ h S w pv v):cj μ h S w pv v:=by
 cases pv with
 | fV b=>exact(show False from a).elim
 | _=>exact a
theorem Tg (hc:Core μ h S w) (n:∀t,cj μ h S w (env t) (a.tmps.getD t undef)) (i:Operand) (args:Array Operand) (ts:Array TypeId) (hp:pop P T (.call ⟨.value i,args,ts⟩) env h K):
  im P ⟨dst,.call ⟨.value i,args,ts⟩,ty,pos,after,guard⟩ a μ h S w K:=by
 have l:=dk n i;simp only[pop]at hp;split at hp
 ·rename_i f d;rw[d]at l;replace hp:=bW hp;obtain⟨b,R,⟨⟨fn,c,g,o,q⟩,r⟩,s⟩:=hp;simp only[aOl]at b
  have y:=r w (args.map a.eval) μ S hc.heap hc.ok aRN (λj pv hj=>by
   rw[aOG]at hj;cases hx:args.toList[j]? with
   | none=>rw[hx]at hj;cases hj
   | some x=>
    rw[hx]at hj;injection hj with hj;subst hj;refine⟨a.eval x,by rw[aQm];simp only[aOL]at hx;rw[hx];rfl,?_⟩;have hv:=dk n x;have k:=b x (aOy hx);cases he:ev env x with
    | fV J=>rw[he]at k;cases k
    | _=>rw[he]at hv;exact hv)
  intro next Q z
  have A:(execOp a.eval ⟨dst,.call ⟨.value i,args,ts⟩,ty,pos,after,guard⟩).run P w=.ok (.enter f (args.map a.eval)) w:=by
   simp only[execOp,resolve,l.ac0,Deferred.ofValue,invoke,callFunc,Sem.run_bind,Sem.run_pure,Result.andThen_ok,Array.append_empty,aPX];have B:¬fn.name= "runtime.NumGoroutine" :=by simpa using q
   simp [program,Sem.run,Result.andThen,g,B,o]
  unfold Oper.wp;rw[A];show Calls P f (args.map a.eval) w _;refine y.mono λe w' ⟨v,res,h',μ',S',he,C,hv,D,E,F⟩=>?_;subst he;exact z res v h' μ' S' w' (s res h' C) hv ⟨D,E⟩ F
 ·rename_i f dG d;rw[d]at l;replace hp:=bW hp;obtain⟨b,R,⟨⟨fn,c,g,o,q⟩,r⟩,s⟩:=hp;simp only[aOl]at b;obtain⟨vs,G,H,I⟩:=(show sn μ h w f dG (a.eval i)from l)
  have y:=r w (args.map a.eval++vs) μ S hc.heap hc.ok (by simp [H]) (λj pv hj=>by
   by_cases m:j<args.size
   ·rw[aON (by simpa using m),aOG]at hj;cases hx:args.toList[j]? with
    | none=>rw[hx]at hj;cases hj
    | some x=>
     rw[hx]at hj;injection hj with hj;subst hj;refine⟨a.eval x,by rw[aPo (by simpa using m),aQm];simp only[aOL]at hx;rw[hx];rfl,?_⟩;have hv:=dk n x;have k:=b x (aOy hx);cases he:ev env x with
     | fV J=>rw[he]at k;cases k
     | _=>rw[he]at hv;exact hv
   ·rw[aOH (by simpa using Nat.le_of_not_lt m),aOG]at hj;simp only[aPU,aPp]at hj;cases hx:dG[j - args.size]? with
    | none=>rw[hx]at hj;cases hj
    | some p=>
     rw[hx]at hj;injection hj with hj;subst hj;obtain⟨u,q1,q2⟩:=I _ p hx;exact⟨u,by rw[Array.getElem?_append_right (by simpa using Nat.le_of_not_lt m)];simpa using q1,q2⟩)
  intro next Q z
  have A:(execOp a.eval ⟨dst,.call ⟨.value i,args,ts⟩,ty,pos,after,guard⟩).run P w=.ok (.enter f (args.map a.eval++vs)) w:=by
   simp only[execOp,resolve,G,Deferred.ofValue,invoke,callFunc,Sem.run_bind,Sem.run_pure,Result.andThen_ok,aPX];have B:¬fn.name= "runtime.NumGoroutine" :=by simpa using q
   simp [program,Sem.run,Result.andThen,g,B,o]
  unfold Oper.wp;rw[A];show Calls P f (args.map a.eval++vs) w _;refine y.mono λe w' ⟨v,res,h',μ',S',he,C,hv,D,E,F⟩=>?_;subst he;exact z res v h' μ' S' w' (s res h' C) hv ⟨D,E⟩ F
 ·exact aRg
theorem Bz:∀(z xs d:List PV) (b:Bool),Je z xs d=some b->b=true->∀(j:Nat) (p q:PV),xs[j]? =some p->d[j]? =some q->p=q/\((∃k n,p=.int k n)\/(∃b,p=.bool b)\/∃s,p=.str s)
 | z,xs,d,b,hk,f,j,p,q,hp,a=>by
  subst f;unfold Je at hk;split at hk
  ·simp at hp
  ·obtain⟨hg,c,hc,e⟩:=dA hk;simp only[As]at hg;obtain rfl:=gy hg.1;obtain rfl:=gy hg.2;have e:=e.symm;simp only[As,aOm]at e;obtain⟨rfl,rfl⟩:=e;cases j with
   | zero=>simp at hp a;subst hp;subst a;exact⟨rfl,.inl ⟨_,_,rfl⟩⟩
   | succ j=>exact Bz _ _ _ _ hc rfl j p q aSo (by simpa using a)
  ·obtain⟨hg,c,hc,e⟩:=dA hk;have e:=e.symm;simp only[As,aOm]at e;obtain⟨rfl,rfl⟩:=e;cases j with
   | zero=>simp at hp a;subst hp;subst a;exact⟨rfl,.inr (.inl ⟨_,rfl⟩)⟩
   | succ j=>exact Bz _ _ _ _ hc rfl j p q aSo (by simpa using a)
  ·obtain⟨hg,c,hc,e⟩:=dA hk;have e:=e.symm;simp only[As,aOm]at e;obtain⟨rfl,rfl⟩:=e;cases j with
   | zero=>simp at hp a;subst hp;subst a;exact⟨rfl,.inr (.inr ⟨_,rfl⟩)⟩
   | succ j=>exact Bz _ _ _ _ hc rfl j p q aSo (by simpa using a)
  ·cases hk
theorem BA:∀(z xs a:List PV) (b:Bool),Je z xs a=some b->a.length=xs.length
 | z,xs,a,b,hk=>by
  unfold Je at hk;split at hk
  ·rfl
  ·obtain⟨_,c,hc,_⟩:=dA hk;simp [BA _ _ _ c hc]
  ·obtain⟨_,c,hc,_⟩:=dA hk;simp [BA _ _ _ c hc]
  ·obtain⟨_,c,hc,_⟩:=dA hk;simp [BA _ _ _ c hc]
  ·cases hk
theorem Th (s:List UInt8):((ByteArray.mk ⟨s⟩)==(ByteArray.mk ⟨s⟩))=true:=by
 show((Array.mk s)==(Array.mk s))=true;simp
theorem CF (n:Nat) {p:PV} {u v:Value} (hp:(∃k n,p=.int k n)\/(∃b,p=.bool b)\/∃s,p=.str s) (hu:wq p u) (hv:cV μ h S w p v):Instr.sameBits n u v=true:=by
 rcases hp with⟨k,m,rfl⟩ | ⟨b,rfl⟩ | ⟨s,rfl⟩
 ·have hu:u=_:=hu;have hv:ba S w (.int k m) v:=hv;cases hv;subst hu;cases n<;>simp [Instr.sameBits]
 ·have hu:u=_:=hu;have hv:ba S w (.bool b) v:=hv;cases hv;subst hu;cases n<;>simp [Instr.sameBits]
 ·have hu:u=_:=hu;have hv:ba S w (.str s) v:=hv;cases hv;subst hu;cases n<;>simp [Instr.sameBits,Th]
theorem afM {ti:TI} {m n:PV} {key g:Value} (b:cj μ h S w m key) (hs:tT n g) (a:mj ti m n=some true):Instr.sameBits 10000 g key=true:=by
 unfold mj at a;split at a
 ·obtain⟨hg,c,hc,e⟩:=dA a;simp only[As]at hg;obtain rfl:=gy hg.1;obtain rfl:=gy hg.2;have e:=e.symm;simp only[As,aOm]at e;obtain⟨rfl,_⟩:=e;exact CF (μ:=μ) (h:=h) (S:=S) (w:=w) 10000 (.inl ⟨_,_,rfl⟩) hs b
 ·have a:=aOY a;rw[aOm]at a;subst a;exact CF (μ:=μ) (h:=h) (S:=S) (w:=w) 10000 (.inr (.inr ⟨_,rfl⟩)) hs b
 ·split at a
  ·rename_i z xs i _ _;obtain⟨k,rfl,q,r⟩:=(show ky μ h S w (.agg xs) key from b);obtain⟨l,rfl,y1,s⟩:=(show ∃vs:Array Value,g=.agg vs/\vs.size=i.length/\∀(j:Nat) (pv:PV),i[j]? =some pv->∃u:Value,vs[j]? =some u/\wq pv u from hs);have t:=BA _ _ _ _ a;rw[show 10000=9999+1 from rfl,Instr.sameBits];rw[As];refine⟨by rw[aOm,q,y1,t],aOl.2 (λp hp=>?_)⟩;obtain⟨j,hj,rfl⟩:=aPL.1 hp;have x:=hj;rw[List.length_zip,aPp,aPp]at x;have d:j<xs.length:=by omega
   have f:j<i.length:=by omega
   obtain⟨y,e2⟩:=Bz _ _ _ _ a rfl j _ _ (abF d) (abF f);obtain⟨u,hu,o⟩:=s j _ (abF f);obtain⟨v,hv,A⟩:=r j _ (abF d);rw[<-y]at o;have:=CF 9999 e2 o A;rw[List.getElem_zip];simp only[Array.getElem_toList];have h1:l[j]'aRK=u:=by rw[aOJ aRK]at hu;exact aOY hu
   have h2:k[j]'aRK=v:=by rw[aOJ aRK]at hv;exact aOY hv
   rw[h1,h2];exact this
  ·cases a
 ·cases a
theorem afN {w1:World} (hc:Core μ h S w) (id g sz n l:Nat) (e:TypeId) (f m:Nat->List PV) (hh:h[id]? =some (aq.row g sz n e f)) (b base:Nat) (es:Array MapEntry) (c:Nat) (X:μ id=some (b,base))
  (r:w.heap[b]? =some (.map es c)) (s:Array MapEntry) (c1:Nat) (hw:w1.heap[b]? =some (.map s c1)) (G:∀a,a≠b->w1.heap[a]? =w.heap[a]?) (wv:w1.heap.size=w.heap.size) (Y:w1.os=w.os)
  (Oo:w1.tape=w.tape) (Sn:w1.output=w.output) (hl:∀i,i<l->(m i).length=sz)
  (O:s.size=l/\∀i,i<l->∃(P Q:PV) (en:MapEntry),m i=[P,Q]/\lG P=true/\lG Q=true/\s[i]? =some en/\tT P en.key/\tT Q en.val):
  Fr μ h S w μ (h.set id (.row (g+1) sz l e m)) S w1/\Core μ (h.set id (.row (g+1) sz l e m)) S w1:=by
 have hid:id<h.length:=(N2.1 hh).1;have R:(h.set id (aq.row (g+1) sz l e m))[id]? =some (aq.row (g+1) sz l e m):=by simp [hid]
 have u:∀j,j≠id->(h.set id (aq.row (g+1) sz l e m))[j]? =h[j]?:=λj hj=>by rw[aOI (aPB hj)]
 have H:FW μ h b:=⟨id,g,sz,n,e,f,base,hh,X⟩;have BR:dE μ h b:=.inl H
 have Af:∀a,FW μ (h.set id (aq.row (g+1) sz l e m)) a->FW μ h a:=λa t=>by
  obtain⟨j,A,B,C,D,E,pG,hj,hm⟩:=t;by_cases d:j=id
  ·subst d;exact⟨j,g,sz,n,e,f,pG,hh,hm⟩
  ·rw[u j d]at hj;exact⟨j,A,B,C,D,E,pG,hj,hm⟩
 have T:∀j x y b,eK (h.set id (aq.row (g+1) sz l e m)) j x y b->eK h j x y b:=λj x y b ⟨A,B,C,D,E,I,J,e',K,F',q1,q2,q3,q4⟩=>by
  by_cases d:j=id
  ·subst d;rw[R]at q1;injection q1 with q1;injection q1 with U e2 L V M;subst L M;obtain⟨P,Q,en,r1,r2,r3,_⟩:=O.2 x q2;rw[r1]at q3
   match y,q3 with
   | 0,q3=>simp at q3;rw[q3]at r2;cases r2
   | 1,q3=>simp at q3;rw[q3]at r3;cases r3
   | y+2,q3=>simp at q3
  ·rw[u j d]at q1;exact aRA
 have Z:∀a,dE μ (h.set id (aq.row (g+1) sz l e m)) a->dE μ h a:=λa t=>by
  rcases t with t | ⟨x,y,z,t⟩
  ·exact .inl (Af _ t)
  ·exact .inr ⟨x,y,z,T _ _ _ _ t⟩
 have uG:∀j x y a,eK h j x y a->w1.heap[a]? =w.heap[a]?:=λj x y a hx=>G a (by
  rintro rfl;exact hc.ok.hv a H j x y hx)
 have kP:Fr μ h S w μ (h.set id (.row (g+1) sz l e m)) S w1:=by
  refine⟨by simp,λa _ Bb=>G a (λhe=>Bb (he▸BR)),λ_ r=>r,λ_ r=>.inl r,λa t=>.inl (Z a t),by omega,Y,Oo,Sn,λj A B C D E hj=>?_,λj hj=>?_,λa k _ il=>?_,λj A B C D E a ri hj hm om=>?_,λa j x y hx om=>let⟨F,c2,q⟩:=om;⟨F,c2,(uG j x y a hx).trans q⟩⟩
  ·by_cases d:j=id
   ·subst d;rw[hh]at hj;injection hj with hj;injection hj with U e2 L V M;subst U e2 L V M;rw[R];exact⟨by omega,λhe=>absurd he aRK⟩
   ·rw[u j d,hj];exact aRx
  ·have d:j≠id:=by rintro rfl;rw[hh]at hj;cases hj
   rw[u j d];exact hj
  ·have pU:a≠b:=by
    rintro rfl;exact il.Li ⟨es,c,r⟩
   exact lH.of_same (G a pU) il
  ·have hex:∃g' I J e' K,(h.set id (aq.row (g+1) sz l e m))[j]? =some (aq.row g' I J e' K):=by
    by_cases d:j=id
    ·subst d;exact⟨_,_,_,_,_,R⟩
    ·exact⟨_,_,_,_,_,(u j d).trans hj⟩
   refine⟨?_,.inr ⟨hex,hm⟩⟩;by_cases W:a=b
   ·subst W;exact⟨s,c1,hw⟩
   ·obtain⟨F,c2,q⟩:=om;exact⟨F,c2,(G a W).trans q⟩
 refine⟨kP,⟨λj A B C D E hj=>?_,⟨λb r=>hc.ok.apart b (Z b r),λb r=>by rw[wv];exact hc.ok.lt b (Z b r),λb r=>by rw[wv];exact hc.ok.slt b r,?_,hc.ok.Cw kP,λb r x y z hx=>hc.ok.hv b (Af b r) x y z (T _ _ _ _ hx),λb _ _ _ _ _ _ hx hy=>hc.ok.hh b _ _ _ _ _ _ (T _ _ _ _ hx) (T _ _ _ _ hy)⟩⟩⟩
 ·by_cases d:j=id
  ·subst d;rw[R]at hj;injection hj with hj;injection hj with U e2 L V M;subst U e2 L V M;refine⟨hl,?_⟩;rw[X];exact⟨_,hw,O⟩
  ·rw[u j d]at hj;obtain⟨h1,h2⟩:=hc.heap j A B C D E hj;refine⟨h1,?_⟩;cases hm:μ j with
   | none=>rw[hm]at h2;exact h2
   | some p=>
    obtain⟨a,ri⟩:=p;rw[hm]at h2;obtain⟨o,q1,q2⟩:=h2
    have W:a≠b:=by
     rintro rfl;exact d (hc.ok.inj j id _ _ _ _ _ _ _ _ _ _ _ _ _ hj hh hm X)
    exact⟨o,(G a W).trans q1,q2.mono (λi y pv v hi hy O=>O.fr kP hc.ok (λI J e' K F' he b2 yd=>uG j i y b2 ⟨_,_,_,_,_,_,_,_,_,_,hj,hi,he▸hy,yd⟩))⟩
 ·intro i j gi WD ni ei fi A B C D E a o o' hi hj pz oA
  have back:∀k gk N nk ek fk,(h.set id (aq.row (g+1) sz l e m))[k]? =some (aq.row gk N nk ek fk)->∃g' I J e' K,h[k]? =some (aq.row g' I J e' K):=λk gk N nk ek fk hk=>by
   by_cases zO:k=id
   ·subst zO;exact⟨_,_,_,_,_,hh⟩
   ·rw[u k zO]at hk;exact⟨_,_,_,_,_,hk⟩
  obtain⟨_,_,_,_,_,h1⟩:=back _ _ _ _ _ _ hi;obtain⟨_,_,_,_,_,h2⟩:=back _ _ _ _ _ _ hj;exact hc.ok.inj i j _ _ _ _ _ _ _ _ _ _ _ _ _ h1 h2 pz oA
theorem Xi {w1:World} (hc:Core μ h S w) (d:dt w w1) (b:Nat) (A:w.heap.size<=b) (B:b<w1.heap.size):Fr μ h S w μ h (λx=>S x\/x=b) w1/\Core μ h (λx=>S x\/x=b) w1:=by
 have g:Fr μ h S w μ h (λx=>S x\/x=b) w1:=by
  refine⟨Of _,λa f _=>d.blocks a f,λ_ hs=>.inl hs,λa f=>?_,λ_ e=>.inl e,d.size,d.os,d.tape,d.output,λj l m n r s hj=>?_,λ_ hd=>hd,λa k e C=>?_,λj l m n r s a D hj hm t=>?_,λa j x y hx t=>let⟨u,c2,q⟩:=t;⟨u,c2,(d.blocks a (hc.ok.lt a (.inr ⟨j,x,y,hx⟩))).trans q⟩⟩
  ·rcases f with f | rfl
   ·exact .inl f
   ·exact .inr (.inr A)
  ·rw[hj];exact⟨Of _,λ_=>⟨rfl,rfl,rfl,rfl⟩⟩
  ·exact lH.of_same (d.blocks a (hc.ok.lt a e)) C
  ·obtain⟨es,c,q⟩:=t;exact⟨⟨es,c,(d.blocks a (hc.ok.lt a (.inl ⟨_,_,_,_,_,_,_,hj,hm⟩))).trans q⟩,.inr ⟨⟨_,_,_,_,_,hj⟩,hm⟩⟩
 refine⟨g,⟨λj l m n r s hj=>?_,⟨λa e hs=>?_,λa e=>aOE (hc.ok.lt a e) d.size,λa hs=>?_,hc.ok.inj,hc.ok.Cw g,hc.ok.hv,hc.ok.hh⟩⟩⟩
 ·obtain⟨h1,h2⟩:=hc.heap j l m n r s hj;refine⟨h1,?_⟩;cases hm:μ j with
  | none=>rw[hm]at h2;exact h2
  | some p=>
   obtain⟨a,D⟩:=p;rw[hm]at h2;obtain⟨o,q1,q2⟩:=h2;exact⟨o,(d.blocks a (hc.ok.lt a (.inl ⟨_,_,_,_,_,_,_,hj,hm⟩))).trans q1,q2.mono (λi y pv v hi hy E=>E.fr g hc.ok (λG H e' I J he z F=>d.blocks z (hc.ok.lt z (.inr ⟨j,i,y,_,_,_,_,_,_,_,_,_,_,hj,hi,he▸hy,F⟩))))⟩
 ·rcases hs with hs | rfl
  ·exact hc.ok.apart a e hs
  ·exact absurd (hc.ok.lt a e) aRK
 ·rcases hs with hs | rfl
  ·exact aOE (hc.ok.slt a hs) d.size
  ·exact B
theorem GO (c:e9 P T) (hc:Core μ h S w) (l:∀t,cj μ h S w (env t) (a.tmps.getD t undef)) (s d:Nat) (x:Operand) (hp:pop P T (.convert s d x) env h K):im P ⟨dst,.convert s d x,ty,pos,after,guard⟩ a μ h S w K:=by
 simp only[pop]at hp;split at hp
 ·rename_i e sz n z b hs hd hx;split at hp
  ·rename_i he;obtain⟨m,f,o⟩:=hp;have hv:=dk l x;rw[hx]at hv;have p:=Lib.run_convert_string_bytes (P:=P) w s d e ⟨⟨b⟩⟩ (c.str _ hs) (c.slice _ _ _ _ _ hd).1 (c.int _ _ he)
   have g:dt w (Lib.bytesWorld w e ⟨⟨b⟩⟩):=by
    have:=Lib.bytesWorld_below w e ⟨⟨b⟩⟩;exact⟨this.block,this.size,this.os,this.tape,this.output⟩
   obtain⟨q,r⟩:=Xi hc g w.heap.size (Of _) (by rw[Lib.bytesWorld_size];omega);refine im.jT (val:=.slice (some ⟨w.heap.size,0,none⟩) b.length (grownCap w b.length 0 e)) (er rfl ?_) o ?_ r q
   ·rw[hv.oX];exact p
   ·show ba _ _ (.iT 1 b.length m) _;refine .iT 1 b.length m w.heap.size 0 _ (λi _=>.int .u8 (b.getD i 0).toNat) (.inr rfl) (λi hi=>by rw[f i hi];rfl) ?_ (λi j pv hi hj=>?_) (λi j pv hi hj=>?_)
    ·have:=grownCap_ge w b.length 0 e;omega
    ·rw[f i hi]at hj
     have k:j=0:=by
      have:=(N2.1 hj).1;simpa using this
     subst k;have:=Lib.bytesWorld_cell w e ⟨⟨b⟩⟩ i (by show i<b.length;exact hi);rw[show 0+i*1+0=i by omega];exact this
    ·rw[f i hi]at hj
     have k:j=0:=by
      have:=(N2.1 hj).1;simpa using this
     subst k;simp at hj;subst hj;exact .int _ _
  ·exact aRg
 ·exact .uH hc (pT c hc.heap l hp)
theorem Iz (f:e9 P T) (hc:Core μ h S w) (t:Nat) (hp:pop P T (.makeMap t none) env h K):im P ⟨dst,.makeMap t none,ty,pos,after,guard⟩ a μ h S w K:=by
 simp only[pop]at hp;split at hp
 ·rename_i kt g k l;obtain⟨b,c⟩:=hp;obtain⟨d,e⟩:=Jj (w1:=w.alloc (.map #[] 0)) hc 2 0 t b (some (w.heap.size,0)) ⟨Of _,_,heap_alloc_new w _,rfl,λi hi=>absurd hi (aOX _)⟩ (oq w _) (λi hi=>absurd hi (aOX _)) (λi j pv hi=>absurd hi (aOX _));refine im.jT (val:=.map (some w.heap.size)) (er rfl rfl) c ?_ e d;show ik _ _ _ _ _;unfold ik;rw[aOH (Of _),aPz];exact⟨⟨_,rfl⟩,w.heap.size,0,bF _ _ _,⟨_,_,heap_alloc_new w _⟩,rfl⟩
 ·exact aRg
theorem BB:∀(z xs a:List PV) (b:Bool),Je z xs a=some b->xs.all xy=true/\xs.all oh=true
 | z,xs,a,b,hk=>by
  unfold Je at hk;split at hk
  ·exact⟨rfl,rfl⟩
  ·obtain⟨_,c,hc,_⟩:=dA hk;obtain⟨h1,h2⟩:=BB _ _ _ c hc;simp [xy,oh,h1,h2]
  ·obtain⟨_,c,hc,_⟩:=dA hk;obtain⟨h1,h2⟩:=BB _ _ _ c hc;simp [xy,oh,h1,h2]
  ·obtain⟨_,c,hc,_⟩:=dA hk;obtain⟨h1,h2⟩:=BB _ _ _ c hc;simp [xy,oh,h1,h2]
  ·cases hk
theorem afO {ti:TI} {a b:PV} {q:Bool} (h0:mj ti a b=some q):lG a=true/\storable a=true:=by
 unfold mj at h0;split at h0
 ·exact⟨rfl,rfl⟩
 ·exact⟨rfl,rfl⟩
 ·split at h0
  ·exact BB _ _ _ _ h0
  ·cases h0
 ·cases h0
theorem BC {pv:PV} {v:Value} (hs:xy pv=true) (hj:oh pv=true) (hv:cV μ h S w pv v):wq pv v:=by
 cases pv with
 | int k n=>have hv:ba S w (.int k n) v:=hv;cases hv;rfl
 | bool b=>have hv:ba S w (.bool b) v:=hv;cases hv;rfl
 | str s=>have hv:ba S w (.str s) v:=hv;cases hv;rfl
 | j3=>cases hj
 | _=>cases hs
theorem U4 {pv:PV} {v:Value} (hs:lG pv=true) (hj:storable pv=true) (hv:cj μ h S w pv v):tT pv v:=by
 cases pv with
 | agg cs=>
  obtain⟨vs,rfl,h1,h2⟩:=(show ky μ h S w (.agg cs) v from hv);refine⟨vs,rfl,h1,λj pv a=>?_⟩;obtain⟨u,q1,q2⟩:=h2 j pv a;have hm:=aOy a;exact⟨u,q1,BC (aOl.1 hs pv hm) (aOl.1 hj pv hm) q2⟩
 | int k n=>exact BC (μ:=μ) (h:=h) (S:=S) (w:=w) (pv:=.int k n) hs hj hv
 | bool b=>exact BC (μ:=μ) (h:=h) (S:=S) (w:=w) (pv:=.bool b) hs hj hv
 | str s=>exact BC (μ:=μ) (h:=h) (S:=S) (w:=w) (pv:=.str s) hs hj hv
 | j3=>cases hj
 | _=>cases hs
theorem LK {SS new:Value} {w':World} (h1:Instr.sameBits 10000 SS new=true):(Instr.keyThatStays SS new).run P w'=.ok new w':=by
 simp [Instr.keyThatStays,h1]
theorem Xj {w:World} {b:Nat} {o a:Obj} (c:w.heap[b]? =some o):({w with heap:=w.heap.setIfInBounds b a}:World).heap[b]? =some a:=by
 have:=(amb.1 c).1;simp [this]
theorem Ti {w:World} {b a:Nat} {c:Obj} (d:a≠b):({w with heap:=w.heap.setIfInBounds b c}:World).heap[a]? =w.heap[a]?:=by
 simp [Array.getElem?_setIfInBounds,aPB d]
theorem DX (hT:e9 P T) (hc:Core μ h S w) (R:∀t,cj μ h S w (env t) (a.tmps.getD t undef)) (t:Nat) (m k x:Operand) (hp:pop P T (.mapUpdate t m k x) env h K):
  im P ⟨dst,.mapUpdate t m k x,ty,pos,after,guard⟩ a μ h S w K:=by
 have hm:=dk R m;have hk:=dk R k;have hx:=dk R x;simp only[pop]at hp;split at hp
 ·rename_i kt et zv id jl U;rw[U]at hm;split at hp
  ·rename_i g sz n e f Jf;replace hp:=bW (df (df hp));obtain⟨tq,V,f',W,hK⟩:=hp;simp only[As]at tq;obtain⟨⟨⟨X,l⟩,Y⟩,Z⟩:=tq;obtain rfl:=(abL Z);obtain⟨hu,inf,z,nR,hz,j5,a6,Bm⟩:=hT.map _ _ _ _ jl;have hh:=fO Jf;obtain⟨bl,base,es,c,jq,ex,A,N,O⟩:=FJ hc.heap hh hm.Lg;obtain⟨q0,h0⟩:=Option.isSome_iff_exists.1 X;obtain⟨d,s,hd,C,D⟩:=Uo hT hk h0;obtain⟨XB,aa⟩:=afO h0;have E:=U4 XB aa hk;have F:=U4 l Y hx
   have Bn:∀m,m<=n->Ji (T.get kt) f m (ev env k)->∀j,j<m->∀y:MapEntry,es.toList[j]? =some y->xx P kt d s (a.eval k) y.key false:=λm a8 G j hj y hy=>by
    obtain⟨B,H,h1,h2⟩:=G j hj;obtain⟨ad,ag,en,I,_,_,h4,Q,_⟩:=O j aRK;rw[h1]at I;injection I with J e2;subst J;have:y=en:=by rw[aOL]at hy;exact aOY (hy.symm.trans h4)
    subst this;exact D B y.key false Q h2
   have main:∀(b:Array MapEntry) (c1:Nat),(Instr.mapUpdate t (.map (some bl)) (a.eval k) (a.eval x)).run P w=.ok () {w with heap:=w.heap.setIfInBounds bl (.map b c1)}->
     (b.size=V/\∀i,i<V->∃(B H:PV) (en:MapEntry),f' i=[B,H]/\lG B=true/\lG H=true/\b[i]? =some en/\tT B en.key/\tT H en.val)->
     im P ⟨dst,.mapUpdate t m k x,ty,pos,after,guard⟩ a μ h S w K:=by
    intro b c1 nD hr
    obtain⟨kP,ue⟩:=afN (w1:={w with heap:=w.heap.setIfInBounds bl (.map b c1)}) hc id g 2 n V e f f' hh bl base es c jq A b c1 (Xj A) (λb' pq=>Ti pq) aRN rfl rfl rfl
     (λi hi=>by obtain⟨B,H,en,h1,_⟩:=hr.2 i hi;rw[h1];rfl) hr
    refine im.Us ?_ hK ue kP;have J:(execOp a.eval ⟨dst,.mapUpdate t m k x,ty,pos,after,guard⟩)=(do Instr.mapUpdate t (a.eval m) (a.eval k) (a.eval x);pure .skip:Sem Next):=rfl;rw[J,ex];simp only[Sem.run_bind,nD,Result.andThen,Sem.run_pure]
   rcases W with⟨i0,r,⟨a2,G,a3,a4,L⟩,o,U5,p⟩ | ⟨G,o,U5,p⟩
   ·obtain⟨ad,ag,en,I,h8,h6,h4,Q,h7⟩:=O i0 a2;rw[a4]at I;injection I with J e2;injection e2 with e2 _;subst J e2;have FT:=FM (P:=P) (w':=w) hd es.toList i0 en (Bn i0 aRK G) (by rw[aOL];exact h4) (D a3 en.key true Q L);have a5:=LK (P:=P) (w':=w) (afM hk Q L);refine main (es.modify i0 λe=>{e with key:=a.eval k,val:=a.eval x}) c ?_ ⟨by simp [N,o],λi hi=>?_⟩
    ·simp [Instr.mapUpdate,run_underlying hu,run_getObj_map w bl es c A,C,FT,h4,a5,MapKept.run_setObj_map _ A]
    ·by_cases M:i=i0
     ·subst M;refine⟨_,_,{en with key:=a.eval k,val:=a.eval x},U5,XB,l,?_,E,F⟩;rw[Array.getElem?_modify,An rfl,h4];rfl
     ·obtain⟨q,u,v,g1,g2,g3,g4,g5,g6⟩:=O i aRK;refine⟨q,u,v,by rw[p i aRK M,g1],g2,g3,?_,g5,g6⟩;rw[Array.getElem?_modify,mg (aPB M),g4]
   ·have FT:=Bi (P:=P) (w':=w) hd es.toList (λj y hy=>Bn n (Of _) G j (by
      have:=(N2.1 hy).1;rw[<-N];simpa using this) y hy)
    refine main (es.push {key:=a.eval k,val:=a.eval x,born:=c}) (c+1) ?_ ⟨by simp [N,o],λi hi=>?_⟩
    ·simp [Instr.mapUpdate,run_underlying hu,run_getObj_map w bl es c A,C,FT,MapKept.run_setObj_map _ A]
    ·by_cases M:i=n
     ·subst M;refine⟨_,_,{key:=a.eval k,val:=a.eval x,born:=c},U5,XB,l,?_,E,F⟩;rw[<-N];simp
     ·obtain⟨q,u,v,g1,g2,g3,g4,g5,g6⟩:=O i aRK;refine⟨q,u,v,by rw[p i aRK,g1],g2,g3,?_,g5,g6⟩;rw[Array.getElem?_push,mg aRK,g4]
  ·exact aRg
 ·exact aRg
theorem LL (j:e9 P T) (hc:Core μ h S w) (i:∀t,cj μ h S w (env t) (a.tmps.getD t undef)) (k:BinOp) (t l:TypeId) (x y:Operand) (hp:pop P T (.binOp k t x y l) env h K):
  im P ⟨dst,.binOp k t x y l,ty,pos,after,guard⟩ a μ h S w K:=by
 simp only[pop]at hp;split at hp
 ·rename_i e sz m z o n f p hx hy;obtain⟨h1,h2⟩:=hp;have rx:=dk i x;have g:=dk i y;rw[hx]at rx;rw[hy]at g;have rx:ba S w (.iT o n f) (a.eval x):=rx;have g:ba S w .ck (a.eval y):=g
  have q:a.eval y=.slice none 0 0:=by
   generalize a.eval y=v at g;cases g;rfl
  obtain⟨d,c,ex,r⟩:∃d c,a.eval x=.slice d n c/\(d=none->n=0):=by
   generalize a.eval x=v at rx;cases rx with
   | uE _ _ d c=>exact⟨d,c,rfl,λ_=>rfl⟩
   | iT _ _ _ b off c u _ _ _ _ _=>exact⟨_,c,rfl,λh0=>by cases h0⟩
  obtain⟨hu,_⟩:=j.slice _ _ _ _ _ p;have hg:eqGuard .eql t x y (a.eval x) (a.eval y)=pure ():=by rw[ex];apply eqGuard_at_slice
  have s:K (.bool d.isNone) h:=by
   cases d with
   | none=>exact h1 (r rfl)
   | some _=>exact h2
  refine .uH hc (.mk (v:=.bool d.isNone) s (ba.bool _) λw' _=>C5 (Ul hg ?_));rw[ex,q];first | exact Lib.run_eql_slice_nil _ _ _ _ _ _ _ _ hu | exact run_eql_slice_nil _ _ _ _ _ _ hu
 ·exact .uH hc (pT j hc.heap i hp)
theorem JP (e:e9 P T) (hc:Core μ h S w) (f:∀t,cj μ h S w (env t) (a.tmps.getD t undef)) {op:Op} (hp:pop P T op env h K):
  im P ⟨dst,op,ty,pos,after,guard⟩ a μ h S w K:=by
 cases op with
 | store t i x=>exact Ou e hc f t i x hp
 | makeSlice t l c=>exact So e hc f t l c hp
 | box t x=>exact WI hc f t x hp
 | alloc t=>exact Ow e hc t hp
 | buildSlice t len parts=>exact Cy e hc f t len parts hp
 | convert s d x=>exact GO e hc f s d x hp
 | binOp j t x y n=>exact LL e hc f j t n x y hp
 | makeMap t r=>cases r with
  | none=>exact Iz e hc t hp
  | some r=>exact hp.elim
 | mapUpdate t m k x=>exact DX e hc f t m k x hp
 | call c=>
  obtain⟨g,args,ts⟩:=c;cases g with
  | value o=>exact Tg hc f o args ts hp
  | invoke r m=>exact .uH hc (pT e hc.heap f hp)
  | builtin b=>cases b with
   | append=>exact LJ e hc f args ts hp
   | _=>exact .uH hc (pT e hc.heap f hp)
 | _=>exact .uH hc (pT e hc.heap f hp)
end
section
variable {P:Program}{T:sf}{μ:Mu}{h η:List aq}{k:List Nat}{S:Nat->Prop}{w:World}{m:Nat}
theorem z7.get:∀(l r:List PV),z7 h η k l r->r.length=l.length/\∀(j:Nat) (pv c:PV),l[j]? =some pv->r[j]? =some c->Fz h η k pv c
 | [],[],_=>⟨rfl,λj pv c hj=>by simp at hj⟩
 | [],_::_,hh=>hh.elim
 | _::_,[],hh=>hh.elim
 | a::l,b::r,hh=>by
  obtain⟨h1,h2⟩:=hh;obtain⟨q1,q2⟩:=z7.get l r h2;refine⟨by simp [q1],λj pv c hj d=>?_⟩;cases j with
  | zero=>
   simp at hj d;subst hj d;exact h1
  | succ j=>exact q2 j pv c aRZ (by simpa using d)
theorem p9:∀(l:List aq) (r:List Nat) (i:Nat),mW h η k m i l r->l.length=r.length/\∀(j:Nat) (o:aq),l[j]? =some o->∃id,r[j]? =some id/\Aa h η k m o (i+j) id
 | [],[],i,_=>⟨rfl,λj o hj=>by simp at hj⟩
 | [],_::_,_,hh=>hh.elim
 | _::_,[],_,hh=>hh.elim
 | o::l,id::r,i,hh=>by
  obtain⟨h1,h2⟩:=hh;obtain⟨q1,q2⟩:=p9 l r (i+1) h2;refine⟨by simp [q1],λj b hj=>?_⟩;cases j with
  | zero=>
   simp at hj;subst hj;exact⟨id,rfl,h1⟩
  | succ j=>
   simp at hj;obtain⟨a,r1,c⟩:=q2 j b hj;exact⟨a,by simpa using r1,by rw[show i+(j+1)=i+1+j from by omega];exact c⟩
def nW (μ:Mu) (h:List aq) (k:List Nat):Mu:=λa=>match k[a]? with | some id=>(match h[id]? with | some _=>μ id | none=>none) | none=>none
theorem vK {μ:Mu} {h:List aq} {k:List Nat} {id a:Nat} {o:aq} (hk:k[a]? =some id) (b:h[id]? =some o):nW μ h k a=μ id:=by unfold nW;rw[hk];simp only[b]
theorem JQ {μ:Mu} {h:List aq} {k:List Nat} {id a:Nat} (hk:k[a]? =some id) (b:h[id]? =none):nW μ h k a=none:=by unfold nW;rw[hk];simp only[b]
def JR (μ:Mu) (h:List aq) (k:List Nat) (S:Nat->Prop):Nat->Prop:=
 λb=>S b\/∃(id g sz n:Nat) (e:TypeId) (f:Nat->List PV) (base:Nat),id∉k/\h[id]? =some (aq.row g sz n e f)/\(μ id=some (b,base)\/∃i j,eK h id i j b)
theorem afP {S S':Nat->Prop} {w:World} (s:∀b,S b->S' b) {pv:PV} {v:Value} (h:nU S w pv v):∀d,Gv pv d->(∀sz n e f F,pv=.eg sz n e f F->∀b,F b->S' b)->ba S' w d v:=by
 induction h with
 | nil sz e f F m=>
  intro d l _;cases l;exact .uE _ _ _ _
 | PB sz n e f F b off c a cur t m u hlen hc x G y z H A I B=>
  intro d l hk;have hk:=hk _ _ _ _ _ rfl;cases l with
  | mk _ _ _ _ o _ p hf g hp=>
   rcases aPA n with h0 | h0
   ·subst h0;exact .uE _ _ _ _
   ·obtain rfl:=x aRK
    have get:∀(i j:Nat) (d:PV),i<n->(o i)[j]? =some d->∃pv,(f i)[j]? =some pv:=λi j d hi hj=>by
     have C:j<(f i).length:=by rw[<-p i hi];exact(N2.1 hj).1
     exact⟨_,abF C⟩
    refine .iT sz n o b off c t (hk b m) (λi hi=>by rw[p i hi];exact hlen i hi) hc (λi j d hi hj=>?_) (λi j d hi hj=>?_)
    ·obtain⟨pv,k⟩:=get i j d hi hj;rw[cell_of_row w b _ cur e (0,0) u,<-y i j pv hi k]
    ·obtain⟨pv,k⟩:=get i j d hi hj;cases hx:eV pv with
     | false=>
      rw[hf i j pv d hi k hj hx];rcases z i j pv hi k with q | ⟨_,_,_,_,_,q⟩
      ·exact q.mono (λ_ _=>rfl) s
      ·rw[q]at hx;cases hx
     | true=>
      have g:=g i j pv d hi k hj hx;cases pv with
      | eg mY n2 e2 f2 D=>exact B i j mY n2 e2 f2 D hi k d g (λ_ _ _ _ _ he r E=>by
        injection he with _ _ _ _ he;subst he;exact hk r (A i j _ _ _ _ _ hi k r E).1)
      | _=>cases hx
theorem CG {μ':Mu} {h':List aq} {S':Nat->Prop} {pv:PV} {v:Value} (hp:cO pv=true) (hc:cV μ' h' S' w pv v):ba S' w pv v:=by
 cases pv<;>first | exact hc | cases hp
theorem xW (hc:Core μ h S w) (hh:mW h η k m 0 η k) {pv l:PV} (hz:Fz h η k pv l):
  (∀v,cV μ h S w pv v->cV (nW μ h k) η (JR μ h k S) w l v)/\(∀v,ky μ h S w pv v->ky (nW μ h k) η (JR μ h k S) w l v)/\(∀v,cj μ h S w pv v->cj (nW μ h k) η (JR μ h k S) w l v):=by
 have up:∀pv v,ba S w pv v->ba (JR μ h k S) w pv v:=λpv v hp=>ba.mono (λ_ _=>rfl) (λb L=>.inl L) hp
 have same:∀pv:PV,(∀v,cV μ h S w pv v->ba S w pv v)->(∀v,ky μ h S w pv v->cV μ h S w pv v)->(∀v,cj μ h S w pv v->ky μ h S w pv v)->∀l:PV,(∀v,ba S w pv v->ba (JR μ h k S) w l v)->
   (∀v,cV μ h S w pv v->cV (nW μ h k) η (JR μ h k S) w l v)/\(∀v,ky μ h S w pv v->cV (nW μ h k) η (JR μ h k S) w l v)/\(∀v,cj μ h S w pv v->cV (nW μ h k) η (JR μ h k S) w l v):=
  λpv h1 h2 q l hp=>⟨λv hv=>cV.mK (hp v (h1 v hv)),λv hv=>cV.mK (hp v (h1 v (h2 v hv))),λv hv=>cV.mK (hp v (h1 v (h2 v (q v hv))))⟩
 induction hz with
 | int k' n=>exact same (.int k' n) (λ_ h=>h) (λ_ h=>h) (λ_ h=>h) _ (up _)
 | bool b=>exact same (.bool b) (λ_ h=>h) (λ_ h=>h) (λ_ h=>h) _ (up _)
 | str s=>exact same (.str s) (λ_ h=>h) (λ_ h=>h) (λ_ h=>h) _ (up _)
 | ck=>exact same .ck (λ_ h=>h) (λ_ h=>h) (λ_ h=>h) _ (up _)
 | jS=>exact same .jS (λ_ h=>h) (λ_ h=>h) (λ_ h=>h) _ (up _)
 | ale sz f=>exact same .ck (λ_ h=>h) (λ_ h=>h) (λ_ h=>h) (.iT sz 0 f) (λv hv=>by cases hv;exact .uE _ _ _ _)
 | aGc id d z I e' x hk o hη=>
  have key:∀v,v=Value.slice none 0 0->bK (nW μ h k) η w d z 0 0 v:=λv hv=>by
   unfold bK;rw[hη];refine⟨⟨_,_,_,hv⟩,Of _,λ_=>⟨Of _,?_⟩⟩;rw[JQ hk o];exact hv
  have inv:∀v,ba S w .ck v->v=Value.slice none 0 0:=λv hv=>by cases hv;rfl
  exact⟨λv hv=>key v (inv v hv),λv hv=>key v (inv v hv),λv hv=>key v (inv v hv)⟩
 | fn f=>exact same (.fn f) (λ_ h=>h) (λ_ h=>h) (λ_ h=>h) _ (up _)
 | ia cs=>exact same (.ia cs) (λ_ h=>h) (λ_ h=>h) (λ_ h=>h) _ (up _)
 | iT sz n f x hf=>
  exact same (.iT sz n f) (λ_ h=>h) (λ_ h=>h) (λ_ h=>h) (.iT sz n x) (λv hv=>by
   have hv:=up _ _ hv;cases hv with
   | uE _ _ a c=>exact .uE _ _ _ _
   | iT _ _ _ b off c vf h1 h2 q h4 h5=>
    exact .iT sz n x b off c vf h1 (λi hi=>by rw[hf i hi];exact h2 i hi) q (λi j pv hi hj=>h4 i j pv hi aSn) (λi j pv hi hj=>h5 i j pv hi aSn))
 | j3 pv=>exact⟨λv hv=>hv.one,λ_ _=>trivial,λ_ _=>trivial⟩
 | eg sz n e f F=>exact⟨λv hv=>hv,λv hv=>hv,λv hv=>hv⟩
 | Dw sz e f=>exact⟨λv hv=>cV.one hv,λv hv=>cV.one (pv:=.ck) (μ:=μ) (h:=h) hv,λv hv=>cV.one (pv:=.ck) (μ:=μ) (h:=h) hv⟩
 | own id d g z sz I n M off len e e' f x hk o hη C=>
  have key:∀v,bK μ h w id g off len v->bK (nW μ h k) η w d z off len v:=λv hv=>by
   unfold bK at hv ⊢;rw[o]at hv;rw[hη];obtain⟨h1,_,D⟩:=hv;have N:=D rfl;clear D;obtain⟨h2,q⟩:=N;obtain⟨_,eJ⟩:=p9 η k 0 hh;obtain⟨V,r1,r⟩:=eJ d _ hη;rw[hk]at r1;injection r1 with r1;subst r1;unfold Aa at r;rw[o]at r;obtain⟨_,rfl,_,_⟩:=r;refine⟨h1,Of _,λ_=>⟨C,?_⟩⟩;have hm:nW μ h k d=μ id:=vK hk o;rw[hm];exact q
  exact⟨key,key,key⟩
 | aA id d g z sz I n M i off e e' f x hk o hη C=>
  have key:∀v,db μ h w id g i off v->db (nW μ h k) η w d z i off v:=λv hv=>by
   unfold db at hv ⊢;rw[o]at hv;rw[hη];obtain⟨h1,_,D⟩:=hv;have N:=D rfl;clear D;obtain⟨h2,q⟩:=N;obtain⟨_,eJ⟩:=p9 η k 0 hh;obtain⟨V,r1,r⟩:=eJ d _ hη;rw[hk]at r1;injection r1 with r1;subst r1;unfold Aa at r;rw[o]at r;obtain⟨_,rfl,_,rfl,_⟩:=r;refine⟨h1,Of _,λ_=>⟨C,?_⟩⟩;have hm:nW μ h k d=μ id:=vK hk o;rw[hm];exact q
  exact⟨key,key,key⟩
 | ud f dG PE t A=>
  have key:∀v,sn μ h w f dG v->sn (nW μ h k) η w f PE v:=λv hv=>by
   obtain⟨vs,h1,h2,q⟩:=hv;refine⟨vs,h1,h2.trans t.symm,λj W hj=>?_⟩;have X:j<dG.length:=by rw[<-t];exact(N2.1 hj).1
   obtain⟨hk,⟨sz,n,e,g,o⟩,I,M,e',z,hη,C⟩:=A j _ W (abF X) hj;obtain⟨u,q1,q2⟩:=q j _ (abF X);refine⟨u,q1,?_⟩;unfold db at q2 ⊢;rw[o]at q2;rw[hη];obtain⟨a1,_,J⟩:=q2;have O:=J rfl;clear J;obtain⟨Y,a5⟩:=O;obtain⟨_,eJ⟩:=p9 η k 0 hh;obtain⟨V,r1,r⟩:=eJ W.1 _ hη;rw[hk]at r1;injection r1 with r1;subst r1;unfold Aa at r;rw[o]at r;obtain⟨_,rfl,_,rfl,_⟩:=r;refine⟨a1,Of _,λ_=>⟨C,?_⟩⟩;rw[vK hk o];exact a5
  exact⟨key,key,key⟩
 | qc id d g z sz I n M e e' f x hk o hη=>
  have key:∀v,ik μ h w id v->ik (nW μ h k) η w d v:=λv hv=>by
   unfold ik at hv ⊢;rw[o]at hv;rw[hη];obtain⟨h1,b,base,q1,q2,q3⟩:=hv;exact⟨h1,b,base,(vK hk o).trans q1,q2,q3⟩
  exact⟨key,key,key⟩
 | frz id g sz n off len e f x hk o t hp hf E=>
  have key:∀v,bK μ h w id g off len v->cV (nW μ h k) η (JR μ h k S) w (.iT sz len x) v:=λv hv=>by
   refine cV.mK ?_;unfold bK at hv;rw[o]at hv;obtain⟨_,_,hv⟩:=hv;obtain⟨hle,hv⟩:=hv rfl;obtain⟨P,K⟩:=hc.heap id g sz n e f o;cases Q:μ id with
   | none=>
    rw[Q]at hv K;have C:n=0:=K;have h0:len=0:=by omega
    subst h0;have hv:v=.slice none 0 0:=hv;subst hv;exact .uE _ _ _ _
   | some p=>
    obtain⟨b,base⟩:=p;rw[Q]at hv K;obtain⟨ad,cap,rfl,R,T,Si⟩:=hv;obtain⟨cur,o9,yM,mU⟩:=dB.cells Si K;rcases aPA len with h0 | h0
    ·subst h0;exact .uE _ _ _ _
    ·have T:=T aRK;subst T
     have G:∀(i j:Nat) (l:PV),i<len->(x i)[j]? =some l->∃u,w.cell? ⟨b,base+off*sz+i*sz+j,none⟩=some u/\ba (JR μ h k S) w l u:=λi j l hi hj=>by
      have H:j<(f (off+i)).length:=by rw[<-t i hi];exact(N2.1 hj).1
      have y:=abF H;obtain⟨u,h1,h2⟩:=mU (off+i) j _ aRK y
      have q:ba (JR μ h k S) w l u:=by
       by_cases B:Gv (f (off+i))[j] l
       ·generalize aa:(f (off+i))[j]=pv at B h2 y;cases B with
        | mk mY n2 e2 f2 U Z a1 J O Y=>
         exact afP (λb L=>.inl L) (show nU S w (.eg mY n2 e2 f2 Z) u from h2) _ (.mk mY n2 e2 f2 U Z a1 J O Y) (λ_ _ _ _ _ he b' pq=>by
          injection he with _ _ _ _ he;subst he;exact .inr ⟨id,g,sz,n,e,f,base,hk,o,.inr ⟨off+i,j,_,_,_,_,_,_,_,_,_,_,o,by omega,y,pq⟩⟩)
       ·exact CG (hp i j l hi hj) ((E i j _ l hi y hj B).1 u h2.c)
      refine⟨u,?_,q⟩;rw[cell_of_row w b _ cur e (0,0) o9,<-h1];congr 1;rw[aOA];omega
     refine .iT sz len x b (base+off*sz) cap (λi j=>(w.cell? ⟨b,base+off*sz+i*sz+j,none⟩).getD undef) (.inr ⟨id,g,sz,n,e,f,base,hk,o,.inl Q⟩) (λi hi=>by rw[t i hi];exact P _ aRK) R (λi j pv hi hj=>?_) (λi j pv hi hj=>?_)
     ·obtain⟨u,h1,_⟩:=G i j pv hi hj;rw[h1];rfl
     ·obtain⟨u,h1,h2⟩:=G i j pv hi hj;simp only[h1,aQr];exact h2
  exact⟨key,key,key⟩
 | agg cs Eg t A E=>
  have key:∀v,ky μ h S w (.agg cs) v->ky (nW μ h k) η (JR μ h k S) w (.agg Eg) v:=λv hv=>by
   obtain⟨vs,h1,h2,q⟩:=hv;refine⟨vs,h1,h2.trans t.symm,λj l hj=>?_⟩;have H:j<cs.length:=by rw[<-t];exact(N2.1 hj).1
   have y:=abF H;obtain⟨u,q1,q2⟩:=q j _ y;exact⟨u,q1,(E j _ l y hj).1 u q2⟩
  exact⟨λ_ hv=>(show False from hv).elim,key,key⟩
 | fV cs Eg t A E=>
  refine⟨λ_ hv=>(show False from hv).elim,λ_ hv=>(show False from hv).elim,λv hv=>?_⟩;obtain⟨vs,h1,h2,q⟩:=hv;refine⟨vs,h1,h2.trans t.symm,λj l hj=>?_⟩;have H:j<cs.length:=by rw[<-t];exact(N2.1 hj).1
  have y:=abF H;obtain⟨u,q1,q2⟩:=q j _ y;exact⟨u,q1,(E j _ l y hj).2.1 u q2⟩
end
section
variable {P:Program}{T:sf}{μ:Mu}{h η:List aq}{k:List Nat}{S:Nat->Prop}{w:World}{m:Nat}
theorem afQ {a c:PV} (e:Fz h η k a c) (d:xy a=true):xy c=true/\∀v,wq a v->wq c v:=by
 cases e with
 | int f n=>exact⟨rfl,λ_ h=>h⟩
 | bool b=>exact⟨rfl,λ_ h=>h⟩
 | str s=>exact⟨rfl,λ_ h=>h⟩
 | j3 _=>exact⟨rfl,λv h=>by
   cases a<;>first | (cases d;done) | (have h:v=_:=h;subst h;rfl) | exact h⟩
 | _=>cases d
theorem U6 {a d:PV} (i:Fz h η k a d) (e:lG a=true):lG d=true/\∀v,tT a v->tT d v:=by
 cases i with
 | int p n=>exact⟨rfl,λ_ h=>h⟩
 | bool b=>exact⟨rfl,λ_ h=>h⟩
 | str s=>exact⟨rfl,λ_ h=>h⟩
 | j3 _=>exact⟨rfl,λ_ _=>trivial⟩
 | agg cs l f hc=>
  have el:∀j c,l[j]? =some c->∃pv,cs[j]? =some pv/\xy c=true/\∀v,wq pv v->wq c v:=λj c hj=>by
   have g:j<cs.length:=by rw[<-f];exact(N2.1 hj).1
   have h1:=abF g;have h2:=afQ (hc j _ _ h1 hj) (aOl.1 e _ (aOD g));exact⟨_,h1,h2⟩
  refine⟨aOl.2 (λx hx=>?_),λv hv=>?_⟩
  ·obtain⟨j,hj,rfl⟩:=aPL.1 hx;obtain⟨_,_,h2,_⟩:=el j _ (abF hj);exact h2
  ·obtain⟨vs,q1,q2,q3⟩:=hv;refine⟨vs,q1,q2.trans f.symm,λj c hj=>?_⟩;obtain⟨pv,m,_,e2⟩:=el j c hj;obtain⟨u,hu,o⟩:=q3 j pv m;exact⟨u,hu,e2 u o⟩
 | _=>cases e
theorem GP:∀{l:List Nat} {x i:Nat},l[i]? =some x->Xk l x=true
 | [],x,i,h=>by simp at h
 | a::r,x,0,h=>by
  simp at h;subst h;unfold Xk;rw[show Nat.beq a a=true from aPJ a]
 | a::r,x,i+1,h=>by
  unfold Xk;cases Nat.beq a x
  ·exact GP aSi
  ·rfl
theorem yn:∀{η:List aq} {k:List Nat} {i id g sz n:Nat} {e:TypeId} {f:Nat->List PV},η[i]? =some (aq.row g sz n e f)->k[i]? =some id->∃j:Nat,(qI η k)[j]? =some id
 | [],_,i,_,_,_,_,_,_,h,_=>by simp at h
 | _::_,[],i,_,_,_,_,_,_,_,h=>by simp at h
 | .row _ _ _ _ _::r,a::is,0,id,_,_,_,_,_,_,h=>by simp at h;subst h;exact⟨0,rfl⟩
 | .dead::r,a::is,0,id,_,_,_,_,_,h,_=>by simp at h
 | .row _ _ _ _ _::r,a::is,i+1,id,_,_,_,_,_,h1,h2=>by
  obtain⟨j,hj⟩:=yn (i:=i) aSq aSp;exact⟨j+1,by simpa[qI]using hj⟩
 | .dead::r,a::is,i+1,id,_,_,_,_,_,h1,h2=>by
  obtain⟨j,hj⟩:=yn (i:=i) aSq aSp;exact⟨j,by simpa[qI]using hj⟩
theorem yo:∀{η:List aq} {k:List Nat} {i j id g sz n l m o:Nat} {e e':TypeId} {f p:Nat->List PV},qX (qI η k)=true->η[i]? =some (aq.row g sz n e f)->k[i]? =some id->η[j]? =some (aq.row l m o e' p)->k[j]? =some id->i=j
 | [],_,i,_,_,_,_,_,_,_,_,_,_,_,_,_,h,_,_,_=>by simp at h
 | _::_,[],i,_,_,_,_,_,_,_,_,_,_,_,_,_,_,h,_,_=>by simp at h
 | .row _ _ _ _ _::r,a::is,0,0,_,_,_,_,_,_,_,_,_,_,_,_,_,_,_,_=>rfl
 | .row _ _ _ _ _::r,a::is,0,j+1,id,_,_,_,_,_,_,_,_,_,_,b,_,h2,c,h4=>by
  simp at h2;subst h2;obtain⟨q,d⟩:=yn (η:=r) (k:=is) (i:=j) (by simpa using c) (by simpa using h4);unfold qI qX at b;rw[GP d]at b;cases b
 | .row _ _ _ _ _::r,a::is,i+1,0,id,_,_,_,_,_,_,_,_,_,_,b,h1,h2,_,h4=>by
  simp at h4;subst h4;obtain⟨q,d⟩:=yn (η:=r) (k:=is) (i:=i) aSq aSp;unfold qI qX at b;rw[GP d]at b;cases b
 | .row _ _ _ _ _::r,a::is,i+1,j+1,id,_,_,_,_,_,_,_,_,_,_,b,h1,h2,c,h4=>by
  unfold qI qX at b;cases hm:Xk (qI r is) a with
  | true=>rw[hm]at b;cases b
  | false=>
   rw[hm]at b;rw[yo (η:=r) (k:=is) (i:=i) (j:=j) b aSq aSp (by simpa using c) (by simpa using h4)]
 | .dead::r,a::is,0,_,_,_,_,_,_,_,_,_,_,_,_,_,h,_,_,_=>by simp at h
 | .dead::r,a::is,_+1,0,_,_,_,_,_,_,_,_,_,_,_,_,_,_,h,_=>by simp at h
 | .dead::r,a::is,i+1,j+1,id,_,_,_,_,_,_,_,_,_,_,b,h1,h2,c,h4=>by
  rw[yo (η:=r) (k:=is) (i:=i) (j:=j) b aSq aSp (by simpa using c) (by simpa using h4)]
theorem BD (hc:Core μ h S w) (hh:mW h η k m 0 η k) (hk:qX (qI η k)=true):Core (nW μ h k) η (JR μ h k S) w/\(∀b,dE (nW μ h k) η b->dE μ h b)/\∀b,JR μ h k S b->S b\/dE μ h b:=by
 obtain⟨hlen,eJ⟩:=p9 η k 0 hh
 have back:∀(a v s r:Nat) (e':TypeId) (t:Nat->List PV),η[a]? =some (aq.row v s r e' t)->(r=0/\nW μ h k a=none)\/∃(id g:Nat) (f:Nat->List PV),k[a]? =some id/\(∃n,h[id]? =some (aq.row g s n e' f)/\r<=n/\(r=n\/s≠2))/\nW μ h k a=μ id/\
   ∀i,i<r->(t i).length=(f i).length/\∀(j:Nat) (pv D:PV),(f i)[j]? =some pv->(t i)[j]? =some D->Fz h η k pv D:=λa v s r e' t hη=>by
  obtain⟨id,r1,l⟩:=eJ a _ hη;unfold Aa at l;cases E:h[id]? with
  | none=>rw[E]at l;exact .inl ⟨l.2,JQ r1 E⟩
  | some o=>
   cases o with
   | dead=>rw[E]at l;exact l.elim
   | row g sz n e f=>
    rw[E]at l;obtain⟨_,rfl,U,rfl,G⟩:=l;refine .inr ⟨id,g,f,r1,⟨n,E,?_⟩,vK r1 E,λi hi=>z7.get _ _ (G i hi)⟩;rcases U with rfl | ⟨_,r5,r6⟩
    ·exact⟨Of _,.inl rfl⟩
    ·exact⟨r6,.inr r5⟩
 have V:∀b,FW (nW μ h k) η b->∃id,id∈k/\∃g sz n e f base,h[id]? =some (aq.row g sz n e f)/\μ id=some (b,base):=λb d=>by
  obtain⟨a,v,s,r,e',t,base,hη,hm⟩:=d;rcases back a v s r e' t hη with⟨_,q3⟩ | ⟨id,g,f,q1,⟨n,q2,_⟩,q3,_⟩
  ·rw[q3]at hm;cases hm
  ·rw[q3]at hm;exact⟨id,aOy q1,g,s,n,e',f,base,q2,hm⟩
 have I:∀{pv:PV} {sz n:Nat} {e:TypeId} {f:Nat->List PV} {F:Nat->Prop},Fz h η k pv (.eg sz n e f F)->pv=.eg sz n e f F\/(pv=.ck/\n=0/\∀b,¬F b):=λQ=>by
  cases Q with
  | eg=>exact .inl rfl
  | Dw=>exact .inr ⟨rfl,rfl,λ_ h=>h⟩
 have J:∀a i j b,eK η a i j b->∃id,k[a]? =some id/\eK h id i j b/\∃g sz n e f,η[a]? =some (aq.row g sz n e f):=λa i j b ⟨v,s,r,e',t,mY,n2,e2,f2,F2,q1,q2,q3,q4⟩=>by
  rcases back a v s r e' t q1 with⟨r1,_⟩ | ⟨id,g,f,r1,⟨n,l,hle,_⟩,G,U⟩
  ·omega
  ·obtain⟨W,K⟩:=U i q2;have X:j<(f i).length:=by rw[<-W];exact(N2.1 q3).1
   have L:=abF X;rcases I (K j _ _ L q3)with this | ⟨_,_,this⟩
   ·exact⟨id,r1,⟨g,s,n,e',f,_,_,_,_,_,l,by omega,by rw[L,this],q4⟩,_,_,_,_,_,q1⟩
   ·exact absurd q4 (this b)
 have Y:∀b,dE (nW μ h k) η b->dE μ h b:=λb d=>by
  rcases d with d | ⟨x,y,z,d⟩
  ·obtain⟨id,_,g,sz,n,e,f,base,q2,hm⟩:=V b d;exact .inl ⟨id,g,sz,n,e,f,base,q2,hm⟩
  ·obtain⟨id,_,q,_⟩:=J x y z b d;exact aRJ
 have hs:∀b,JR μ h k S b->S b\/dE μ h b:=λb d=>by
  rcases d with d | ⟨id,g,sz,n,e,f,base,_,h1,h2 | ⟨i,j,h2⟩⟩
  ·exact .inl d
  ·exact .inr (.inl ⟨id,g,sz,n,e,f,base,h1,h2⟩)
  ·exact .inr (.inr ⟨_,_,_,h2⟩)
 refine⟨⟨λa v s r e' t hη=>?_,?_⟩,Y,hs⟩
 ·rcases back a v s r e' t hη with⟨rfl,q3⟩ | ⟨id,g,f,q1,⟨n,q2,hle,Z⟩,q3,q4⟩
  ·exact⟨λi hi=>absurd hi (aOX _),by rw[q3]⟩
  obtain⟨r1,l⟩:=hc.heap id g s n e' f q2;refine⟨λi hi=>(q4 i hi).1.trans (r1 i (aOE hi hle)),?_⟩;rw[q3];cases hm:μ id with
  | none=>rw[hm]at l;have l:n=0:=l;show r=0;omega
  | some p=>
   obtain⟨b,base⟩:=p;rw[hm]at l;obtain⟨o,W,K⟩:=l;refine⟨o,W,?_⟩;cases o with
   | cells cur e2 z=>
    obtain⟨x1,x2,x3,R⟩:=K;refine⟨x1,x2,aPr (Nat.add_le_add_left (aOF _ hle) _) x3,λi j D hi hj=>?_⟩;have X:j<(f i).length:=by rw[<-(q4 i hi).1];exact(N2.1 hj).1
    have L:=abF X;obtain⟨u,t1,A⟩:=R i j _ (aOE hi hle) L;have Q:=(q4 i hi).2 j _ D L hj;refine⟨u,t1,?_⟩;cases hx:eV D with
    | false=>exact cV.k ((xW hc hh Q).1 u A.c) hx
    | true=>
     cases D with
     | eg mY n2 e2 f2 F2=>
      rcases I Q with hq | ⟨hq,rfl,hF⟩
      ·rw[hq]at A;exact nU.mono (λ_ _=>rfl) (λb d=>.inl d) (show nU S w (.eg mY n2 e2 f2 F2) u from A) (λ_ _ _ _ _ _ _ _=>rfl)
      ·rw[hq]at A;have A:ba S w .ck u:=A;cases A;exact nU.nil _ _ _ _ hF
     | _=>cases hx
   | map es c=>
    obtain⟨x1,R⟩:=K
    have hn:r=n:=by
     rcases Z with h0 | h0
     ·exact h0
     ·rcases aPA n with h1 | h1
      ·omega
      ·obtain⟨kp,vp,en,y1,_⟩:=R 0 h1;have:=r1 0 h1;rw[y1]at this;exact absurd this.symm h0
    subst hn;refine⟨x1,λi hi=>?_⟩;obtain⟨kp,vp,en,y1,y2,y3,y4,y5,y6⟩:=R i hi;obtain⟨z1,T⟩:=q4 i hi;rw[y1]at z1 T;generalize Mc:t i=l' at z1 T ⊢;rcases l' with _ | ⟨M,_ | ⟨N,_ | ⟨c3,l3⟩⟩⟩<;>simp at z1;have w1:=U6 (T 0 kp M rfl rfl) y2;have w2:=U6 (T 1 vp N rfl rfl) y3;exact⟨M,N,en,rfl,w1.1,w2.1,y4,w1.2 _ y5,w2.2 _ y6⟩
   | _=>exact K.elim
 ·refine⟨λb d B=>?_,λb d=>hc.ok.lt b (Y b d),λb d=>?_,?_,hc.ok.known.ez (λ_ _=>rfl) (λ_ d=>.inl d),λb d x y z hx=>?_,λb i x y j x' y' hx tr=>?_⟩;rotate_right 2
  ·obtain⟨id,_,g,sz,n,e,f,base,q2,hm⟩:=V b d;obtain⟨H,_,q,_⟩:=J x y z b hx;exact hc.ok.hv b ⟨id,g,sz,n,e,f,base,q2,hm⟩ _ _ _ q
  ·obtain⟨O,k1,q1,_,_,_,_,_,r1⟩:=J i x y b hx;obtain⟨H,k2,q2,_,_,_,_,_,l⟩:=J j x' y' b tr;obtain⟨e1,e2,e3⟩:=hc.ok.hh b _ _ _ _ _ _ q1 q2;subst e1;exact⟨yo hk r1 k1 l k2,e2,e3⟩
  ·rcases B with B | ⟨H,g2,mY,n2,e2,f2,aa,P,h1,h2⟩
   ·exact hc.ok.apart b (Y b d) B
   ·rcases d with d | ⟨x,y,z,d⟩
    ·obtain⟨id,C,g,sz,n,e,f,base,q2,hm⟩:=V b d;rcases h2 with h2 | ⟨i,j,h2⟩
     ·have:=hc.ok.inj id H _ _ _ _ _ _ _ _ _ _ _ _ _ q2 h1 hm h2;subst this;exact P C
     ·exact hc.ok.hv b ⟨id,g,sz,n,e,f,base,q2,hm⟩ _ _ _ h2
    ·obtain⟨id,C,q,_⟩:=J x y z b d;rcases h2 with h2 | ⟨i,j,h2⟩
     ·exact hc.ok.hv b ⟨H,g2,mY,n2,e2,f2,aa,h1,h2⟩ _ _ _ q
     ·obtain⟨e1,_,_⟩:=hc.ok.hh b _ _ _ _ _ _ q h2;subst e1;exact P (aOy C)
  ·rcases hs b d with h1 | h1
   ·exact hc.ok.slt b h1
   ·exact hc.ok.lt b h1
  ·intro i j gi WD ni ei fi gj mz nj ej fj b o o' hi hj pz oA;rcases back i gi WD ni ei fi hi with⟨_,q3⟩ | ⟨O,g1,f1,q1,⟨ad,q2,_⟩,q3,_⟩
   ·rw[q3]at pz;cases pz
   rcases back j gj mz nj ej fj hj with⟨_,G⟩ | ⟨H,g2,f2,r1,⟨ag,l,_⟩,G,_⟩
   ·rw[G]at oA;cases oA
   rw[q3]at pz;rw[G]at oA;have:=hc.ok.inj O H _ _ _ _ _ _ _ _ _ _ _ _ _ q2 l pz oA;subst this;exact yo hk hi q1 hj r1
structure Start where
 μ:Mu
 h:List aq
 S:Nat->Prop
 w:World
 nt:Nat
theorem alk {C:Start} (hc:Core μ h S w) (hf:Fr C.μ C.h C.S C.w μ h S w) (hh:mW h η k C.h.length 0 η k) (hk:qX (qI η k)=true) (hm:C.h.length<=k.length):
  Fr C.μ C.h C.S C.w (nW μ h k) η (JR μ h k S) w:=by
 obtain⟨hlen,eJ⟩:=p9 η k 0 hh;obtain⟨_,z,hs⟩:=BD hc hh hk
 have idx:∀id,id<C.h.length->∃o a,η[id]? =some o/\k[id]? =some a/\Aa h η k C.h.length o id a:=λid hid=>by
  have t:id<η.length:=by omega
  obtain⟨a,r1,d⟩:=eJ id _ (abF t);rw[are]at d;exact⟨_,a,abF t,r1,d⟩
 refine⟨by omega,hf.blocks,λb j=>.inl (hf.sub b j),λb j=>?_,λb j=>hf.own b (z b j),hf.size,hf.os,hf.tape,hf.output,λid m i p e0 f0 h0=>?_,λid h0=>?_,hf.dG,λid m i p e0 f0 b base h0 q A=>?_,hf.ze⟩;rotate_right
 ·have hid:id<C.h.length:=(N2.1 h0).1;obtain⟨o,a,q1,q2,q3⟩:=idx id hid;obtain⟨r1,d⟩:=hf.maps id m i p e0 f0 b base h0 q A;refine⟨r1,?_⟩;rw[q1];unfold Aa at q3;cases o with
  | dead=>exact .inl rfl
  | row u v x e' y=>
   cases c:h[a]? with
   | none=>rw[c]at q3;exact absurd q3.1 aRK
   | some l=>
    cases l with
    | dead=>rw[c]at q3;exact q3.elim
    | row g sz n e f=>
     rw[c]at q3;obtain⟨r,rfl,s,rfl,_⟩:=q3;obtain⟨rfl,rfl⟩:=r hid;obtain rfl:=s.resolve_right (λhx=>absurd hx.1 aRK);rw[c]at d;rcases d with d | ⟨_,B⟩
     ·cases d
     ·exact .inr ⟨⟨_,_,_,_,_,rfl⟩,(vK q2 c).trans B⟩
 ·rcases hs b j with h1 | h1
  ·exact hf.new b h1
  ·rcases hf.own b h1 with h2 | h2
   ·exact .inr (.inl h2)
   ·exact .inr (.inr h2)
 ·have hid:id<C.h.length:=(N2.1 h0).1;obtain⟨o,a,q1,q2,q3⟩:=idx id hid;have hg:=hf.FX id m i p e0 f0 h0;rw[q1];unfold Aa at q3;cases o with
  | dead=>trivial
  | row u v x e' y=>
   cases c:h[a]? with
   | none=>rw[c]at q3;exact absurd q3.1 aRK
   | some l=>
    cases l with
    | dead=>rw[c]at q3;exact q3.elim
    | row g sz n e f=>
     rw[c]at q3;obtain⟨r1,rfl,d,rfl,_⟩:=q3;obtain⟨rfl,rfl⟩:=r1 hid;obtain rfl:=d.resolve_right (λhx=>absurd hx.1 aRK);rw[c]at hg;refine⟨hg.1,λhe=>?_⟩;obtain⟨r,s,D,E⟩:=hg.2 he;exact⟨by rw[vK q2 c];exact r,s,D,E⟩
 ·have hid:id<C.h.length:=(N2.1 h0).1;obtain⟨o,a,q1,q2,q3⟩:=idx id hid;have hd:=hf.dead id h0;rw[q1];unfold Aa at q3;cases o with
  | dead=>rfl
  | row u v x e' y=>
   cases c:h[a]? with
   | none=>rw[c]at q3;exact absurd q3.1 aRK
   | some l=>
    cases l with
    | dead=>rw[c]at q3;exact q3.elim
    | row g sz n e f=>
     rw[c]at q3;obtain⟨rfl,rfl⟩:=q3.1 hid;rw[c]at hd;cases hd
structure qL (C:Start) (μ:Mu) (h:List aq) (S:Nat->Prop) (env:Env) (a:Act) (w:World):Prop where
 core:Core μ h S w
 fr:Fr C.μ C.h C.S C.w μ h S w
 tmps:∀t,cj μ h S w (env t) (a.tmps.getD t undef)
 size:a.tmps.size=C.nt
 far:∀t,C.nt<=t->env t=.j3
 defers:a.defers=[]
variable {C:Start}{env:Env}{a:Act}
theorem GQ (env:Env) (t:Nat) (v:PV):sT env t v t=v:=by simp [sT]
theorem LN (env:Env) {t j:Nat} (v:PV) (hj:j≠t):sT env t v j=env j:=by
 unfold sT
 have:Nat.beq j t=false:=by
  cases a:Nat.beq j t with
  | true=>exact(hj (abL a)).elim
  | false=>rfl
 rw[this];rfl
def sF (nt:Nat) (o:Oper):Bool:=match o.dst with | some t=>Nat.blt t nt | none=>true
theorem qL.put (hs:qL C μ h S env a w) {μ':Mu} {h':List aq} {S':Nat->Prop} {w':World} (hf:Fr μ h S w μ' h' S' w') (hc:Core μ' h' S' w') {dst:Option Nat} {v:PV} {val:Value} (hv:cj μ' h' S' w' v val)
  (hd:∀t,dst=some t->t<C.nt):qL C μ' h' S' (gn env dst v) (a.put dst val) w':=by
 refine⟨hc,hs.fr.trans hf,λt=>?_,?_,λt e=>?_,?_⟩
 ·cases dst with
  | none=>exact(hs.tmps t).fr hf hs.core.ok
  | some d=>
   have c:=hd d rfl;by_cases b:t=d
   ·subst b;show cj μ' h' S' w' (sT env t v t) _;rw[GQ]
    have:((a.put (some t) val).tmps).getD t undef=val:=by
     have f:t<a.tmps.size:=by rw[hs.size];exact c
     simp [Act.put,f]
    rw[this];exact hv
   ·show cj μ' h' S' w' (sT env d v t) _;rw[LN env v b]
    have:((a.put (some d) val).tmps).getD t undef=a.tmps.getD t undef:=by
     simp [Act.put,aQg (aPB b)]
    rw[this];exact(hs.tmps t).fr hf hs.core.ok
 ·cases dst with
  | none=>exact hs.size
  | some d=>simp [Act.put,hs.size]
 ·cases dst with
  | none=>exact hs.far t e
  | some d=>
   have c:=hd d rfl;show sT env d v t=_;rw[LN env v aRK];exact hs.far t e
 ·cases dst with
  | none=>exact hs.defers
  | some d=>exact hs.defers
theorem qL.GR (hs:qL C μ h S env a w) {t:Nat} {b:Bool} (he:env t=.bool b):qL C μ h S (sT env t (.bool b)) a w:=by
 have:sT env t (.bool b)=env:=by
  funext j;by_cases hj:j=t
  ·subst hj;rw[GQ,he]
  ·rw[LN env _ hj]
 rw[this];exact hs
def GS (C:Start) (Q:XQ):Exit->Act->World->Prop:=λe a w=>∃μ h S env,qL C μ h S env a w/\Q e env h
theorem Ah (hs:qL C μ h S env a w) {ops:Array Oper} {j t:Nat} {b:Bool} (hj:(ops.toList[j]?).bind (·.dst)=some t) (he:env t=.bool b):yielded ops a.tmps j=some b:=by
 have hv:=hs.tmps t;rw[he]at hv;have hv:=hv.oW
 have c:t<a.tmps.size:=by
  rcases aPf t a.tmps.size with h1 | h1
  ·exact h1
  ·rw[hs.far t (by rw[<-hs.size];exact h1)]at he;cases he
 unfold yielded;rw[aOL]at hj;rw[hj];simp only[aQt]
 have:a.tmps[t]? =some (.bool b):=by
  rw[aOJ c];simp [c]at hv;rw[hv]
 rw[this]
theorem Ai:cj μ h S w (.fV []) undef:=⟨#[],rfl,rfl,λj pv hj=>by simp at hj⟩
theorem vL (hs:qL C μ h S env a w) {ops:Array Oper} {j t:Nat} (hj:(ops.toList[j]?).bind (·.dst)=some t) (he:env t=.fV []):yielded ops a.tmps j=none:=by
 have hv:=hs.tmps t;rw[he]at hv;obtain⟨vs,hv,_⟩:=hv;unfold yielded;rw[aOL]at hj;rw[hj];simp only[aQt];rcases aPf t a.tmps.size with h1 | h1
 ·have:a.tmps[t]? =some (.tuple vs):=by
   rw[aOJ h1];simp [h1]at hv;rw[hv]
  rw[this]
 ·rw[Array.getElem?_eq_none h1]
theorem Aj {K:Env->List aq->Prop} (all:List Oper) (o:Oper) (rest:List Oper) (env:Env) (h:List aq) {j:Nat} {want:Bool} (hg:o.guard=some (j,want)):
  xX P T all K (o::rest) env h=(match(all[j]?).bind (·.dst)with
     | some t=>match env t with
      | .bool b=>iq b
        (match(generalizing:=false) want with
         | true=>pop P T o.op (sT env t (.bool true)) h (λv h'=>xX P T all K rest (gn (sT env t (.bool true)) o.dst v) h')
         | false=>xX P T all K rest (gn (sT env t (.bool true)) o.dst (.fV [])) h)
        (match(generalizing:=false) want with
         | true=>xX P T all K rest (gn (sT env t (.bool false)) o.dst (.fV [])) h
         | false=>pop P T o.op (sT env t (.bool false)) h (λv h'=>xX P T all K rest (gn (sT env t (.bool false)) o.dst v) h'))
      | .fV []=>xX P T all K rest (gn env o.dst (.fV [])) h
      | _=>False
     | none=>False):=by
 obtain⟨dst,op,ty,pos,after,guard⟩:=o;have hg:guard=some (j,want):=hg;rw[hg];rfl
theorem Ak (f:e9 P T) (ops:Array Oper) {K:Env->List aq->Prop} {Q:Exit->Act->World->Prop} (g:∀env h a w μ S,K env h->qL C μ h S env a w->Q .normal a w):
  ∀(l:List Oper) (env:Env) (h:List aq) (a:Act) (w:World) (μ:Mu) (S:Nat->Prop),xX P T ops.toList K l env h->(∀o∈l,sF C.nt o=true)->qL C μ h S env a w->wpList P ops Q l a w
 | [],env,h,a,w,μ,S,hp,_,hs=>g env h a w μ S hp hs
 | o::rest,env,h,a,w,μ,S,hp,hd,hs=>by
  have d:∀t,o.dst=some t->t<C.nt:=λt i=>by
   have:=hd o aRN;unfold sF at this;rw[i]at this;simpa using this
  have e:∀o∈rest,sF C.nt o=true:=λo n=>hd o (by simp [n])
  have run:∀env',qL C μ h S env' a w->pop P T o.op env' h (λv h'=>xX P T ops.toList K rest (gn env' o.dst v) h')->o.wp P a w (wpList P ops Q rest) Q:=λenv' c k=>by
   obtain⟨dst,op,ty,pos,after,guard⟩:=o;refine JP (env:=env') f c.core c.tmps k _ _ λv val h' μ' S' w' m hv hc hf=>?_;exact Ak f ops g rest _ h' _ w' μ' S' m e (c.put hf hc hv d)
  have skip:∀env',qL C μ h S env' a w->xX P T ops.toList K rest (gn env' o.dst (.fV [])) h->wpList P ops Q rest (a.put o.dst undef) w:=λenv' c k=>
   Ak f ops g rest _ h _ w μ S k e (c.put Fr.refl c.core Ai d)
  unfold wpList;cases hg:o.guard with
  | none=>
   have hp:pop P T o.op env h (λv h'=>xX P T ops.toList K rest (gn env o.dst v) h'):=by
    exact aQM
   rw[An (by simp [Region.wanted,hg])];exact .inl (run env hs hp)
  | some p=>
   obtain⟨j,want⟩:=p;rw[Aj ops.toList o rest env h hg]at hp;split at hp
   ·rename_i t hj;split at hp
    ·rename_i b he;have hy:=Ah hs hj he;obtain⟨i,hf⟩:=ml hp;have c:=hs.GR he;cases b with
     | true=>
      have hp:=i rfl;cases want with
      | true=>rw[An aRX];exact .inl (run _ c hp)
      | false=>rw[mg aRX];exact skip _ c hp
     | false=>
      have hp:=hf rfl;cases want with
      | true=>rw[mg aRX];exact skip _ c hp
      | false=>rw[An aRX];exact .inl (run _ c hp)
    ·rename_i he;rw[mg aSr];exact skip _ hs hp
    ·exact aRg
   ·exact aRg
end
end Go.Am
