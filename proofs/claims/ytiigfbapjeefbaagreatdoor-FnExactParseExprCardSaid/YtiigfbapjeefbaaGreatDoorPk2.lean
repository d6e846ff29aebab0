/- Texts of the proof, joined and shortened. -/
import Derived.Test.YtiigfbapjeefbaaGreatDoorPk1
import Derived.MapKept
import Derived.Lib.ConvBytes
import Derived.Lib.AtoiErrMem
import Derived.Deep.LoopGhost
set_option linter.unusedVariables false
set_option linter.unusedSimpArgs false
namespace Go.Am
open Go Go.RowKit
section
variable {P:Program} {T:o9} {μ:Mu} {h:List ak} {S:Nat->Prop} {w:World}
theorem kY (t tx ty e:TypeId) (i:TypeInfo) (d:TypeDesc) (ht:P.underlying t=some (.slice e)) (hx:P.underlying tx=some d) (hd:(∃e',d=.slice e')\/d=.string) (hi:P.info? e=some i)
  (sa:Option Addr) (pJ zu:Nat) (xv:Value) (m:Nat) (news:Array Value) (w':World) (hlen:(Builtin.lenOf xv).run P w=.ok m w) (hfc:(Builtin.firstCells i.size m xv).run P w=.ok news w) (qJ:pJ+m<=zu)
  (sy:match sa with | some a=>(storeCells (a.add (pJ*i.size)) news.toList).run P w=.ok () w' | none=>w'=w):
  (Builtin.append_ #[t,tx] ty #[.slice sa pJ zu,xv]).run P w=.ok (.slice sa (pJ+m) zu) w':=by
 rcases hd with ⟨e',rfl⟩ | rfl<;>cases sa with
 | none=>
  have sy:w'=w:=sy
  subst sy
  simp [Builtin.append_,run_underlying ht,run_underlying hx,sizeOf,typeInfo,hi,hlen,qJ,hfc]
 | some a=>
  have sy:(storeCells (a.add (pJ*i.size)) news.toList).run P w=.ok () w':=sy
  simp [Builtin.append_,run_underlying ht,run_underlying hx,sizeOf,typeInfo,hi,hlen,qJ,hfc,sy]
theorem ph (t tx ty e:TypeId) (i:TypeInfo) (z:Value) (d:TypeDesc) (ht:P.underlying t=some (.slice e)) (hx:P.underlying tx=some d) (hd:(∃e',d=.slice e')\/d=.string) (hi:P.info? e=some i) (hz:i.zero=some z)
  (sa:Option Addr) (pJ zu:Nat) (xv:Value) (m:Nat) (wc news:Array Value) (hlen:(Builtin.lenOf xv).run P w=.ok m w) (M5:(Builtin.firstCells i.size pJ (.slice sa pJ zu)).run P w.drew=.ok wc w.drew)
  (hfc:(Builtin.firstCells i.size m xv).run P w.drew=.ok news w.drew) (hg:zu<pJ+m) (Hr:0<i.bytes) (um:(pJ+m)*i.bytes<=140737488355328):
  (Builtin.append_ #[t,tx] ty #[.slice sa pJ zu,xv]).run P w=.ok (.slice (some ⟨w.heap.size,0,none⟩) (pJ+m) (grownCap w (pJ+m) zu e))
   (w.drew.alloc (.cells (wc++news++Builtin.zeroCells z.cells (grownCap w (pJ+m) zu e - (pJ+m))) e)):=by
 have hn:¬(pJ+m<=zu):=by omega
 have hle:pJ+m<=(pJ+m)*i.bytes:=Nat.le_mul_of_pos_right _ Hr
 have aFV:¬(9223372036854775807<((pJ:Int)+(m:Int))):=by omega
 have aGB:=growslice_fits hg um
 have aFW:¬(281474976710656<Builtin.nextslicecap (pJ+m) zu*i.bytes):=by omega
 rcases hd with ⟨e',rfl⟩ | rfl<;>
  simp [Builtin.append_,run_underlying ht,run_underlying hx,sizeOf,typeInfo,zeroValue,hi,hz,hlen,hn,aFV,aFW,Question.forced,hfc,M5,newRow,grownCap]
theorem Ku (b off m sz:Nat) (gK:0<sz) (g:Nat->List PV) (hl:∀i,i<m->(g i).length=sz)
  (bs:∀(i j:Nat) (pv:PV),i<m->(g i)[j]? =some pv->∃u,w.cell? ⟨b,off+i*sz+j,none⟩=some u/\pd μ h S w pv u):
  ∃news:Array Value,news.size=m*sz/\(∀(i j:Nat) (pv:PV),i<m->(g i)[j]? =some pv->∃u,news[i*sz+j]? =some u/\pd μ h S w pv u)/\
   (∀u∈news.toList,u.oneCell'=true)/\∀w',cD w w'->(loadCells ⟨b,off,none⟩ (m*sz)).run P w'=.ok news w':=by
 let F:Nat->Value:=λq=>(w.cell? ⟨b,off+q,none⟩).getD undef
 have hF:∀(i j:Nat) (pv:PV),i<m->(g i)[j]? =some pv->w.cell? ⟨b,off+(i*sz+j),none⟩=some (F (i*sz+j))/\pd μ h S w pv (F (i*sz+j)):=λi j pv hi hj=>by
  obtain ⟨u,h1,h2⟩:=bs i j pv hi hj
  have e:off+(i*sz+j)=off+i*sz+j:=by omega
  have e2:F (i*sz+j)=u:=by
   show (w.cell? ⟨b,off+(i*sz+j),none⟩).getD undef=u
   rw [e,h1];rfl
  rw [e2,e]
  exact ⟨h1,h2⟩
 have hq:∀q,q<m*sz->∃pv,q / sz<m/\(g (q / sz))[q % sz]? =some pv:=λq hq=>by
  have h1:q / sz<m:=(Nat.div_lt_iff_lt_mul gK).2 hq
  have h2:q % sz<(g (q / sz)).length:=by rw [hl _ h1];exact Nat.mod_lt _ gK
  exact ⟨_,h1,abF h2⟩
 have DB:∀q,q / sz*sz+q % sz=q:=λq=>by rw [Nat.mul_comm];exact Nat.div_add_mod q sz
 refine ⟨((List.range (m*sz)).map F).toArray,by simp,λi j pv hi hj=>?_,λu hu=>?_,λw' ha=>?_⟩
 ·have K0:j<sz:=by rw [<-hl i hi];exact (An.1 hj).1
  have bg:i*sz+j<m*sz:=by
   have:(i+1)*sz<=m*sz:=aHO _ hi
   rw [aHR] at this
   omega
  exact ⟨F (i*sz+j),by simp [bg],(hF i j pv hi hj).2⟩
 ·simp only [aHW,aJi] at hu
  obtain ⟨q,hql,rfl⟩:=hu
  obtain ⟨pv,h1,h2⟩:=hq q hql
  have:=(hF _ _ pv h1 h2).2.c.one
  rwa [DB] at this
 ·refine run_loadCells w' ⟨b,off,none⟩ (m*sz) F λq hql=>?_
  obtain ⟨pv,h1,h2⟩:=hq q hql
  have:=(hF _ _ pv h1 h2).1
  rw [DB] at this
  rw [Addr.add_lit]
  exact ha.cell this
theorem P2:∀{l:List PV},noO l=true->∀{j:Nat} {pv:PV},l[j]? =some pv->dW pv=false
 | [],_,j,pv,hj=>by simp at hj
 | c::r,h,0,pv,hj=>by
  simp at hj
  subst hj
  cases c<;>first | rfl | cases h
 | c::r,h,j+1,pv,hj=>P2 (l:=r) (by cases c<;>first | exact h | cases h) aKZ
def Src (P:Program) (μ:Mu) (h:List ak) (S:Nat->Prop) (w:World) (xv:Value) (sz m:Nat) (g:Nat->List PV):Prop:=
 (∀i,i<m->(g i).length=sz)/\∃news:Array Value,news.size=m*sz/\(∀(i j:Nat) (pv:PV),i<m->(g i)[j]? =some pv->∃u,news[i*sz+j]? =some u/\pd μ h S w pv u)/\
  (∀u∈news.toList,u.oneCell'=true)/\∀w',cD w w'->(Builtin.lenOf xv).run P w'=.ok m w'/\(Builtin.firstCells sz m xv).run P w'=.ok news w'
theorem Src.empty (xv:Value) (sz:Nat) (g:Nat->List PV) (hx:∃a c,xv=.slice a 0 c):Src P μ h S w xv sz 0 g:=by
 obtain ⟨a,c,rfl⟩:=hx
 refine ⟨λi hi=>absurd hi aKK,#[],by simp,λi j pv hi=>absurd hi aKK,λu hu=>by simp at hu,λw' _=>⟨rfl,?_⟩⟩
 cases a with
 | none=>rfl
 | some a=>simp [Builtin.firstCells,loadCells,loadCellsFrom]
theorem n8 (hc:Core μ h S w) (id g off len sz n:Nat) (e:TypeId) (f:Nat->List PV) (hh:h[id]? =some (ak.row g sz n e f)) (v:Value) (hv:bS μ h S w (.own id g off len) v) (gK:0<sz):Src P μ h S w v sz len (λi=>f (off+i)):=by
 have hr:=hv.om
 unfold bC at hr
 rw [hh] at hr
 obtain ⟨_,_,hr⟩:=hr
 obtain ⟨hle,hr⟩:=hr rfl
 obtain ⟨hl,bs⟩:=hc.heap id g sz n e f hh
 cases hC:μ id with
 | none=>
  rw [hC] at hr bs
  have hn:n=0:=bs
  have h0:len=0:=by omega
  subst h0
  exact Src.empty v sz _ ⟨_,_,hr⟩
 | some p=>
  obtain ⟨b,base⟩:=p
  rw [hC] at hr bs
  obtain ⟨ad,cap,hv,hlc,vH,M7⟩:=hr
  obtain ⟨cur,lu,um,jS⟩:=cZ.cells M7 bs
  rcases aIL len with h0 | h0
  ·subst h0
   exact Src.empty v sz _ ⟨_,_,hv⟩
  ·have vH:=vH aKK
   subst vH
   obtain ⟨news,q1,q2,q3,q4⟩:=Ku (P:=P) (μ:=μ) (h:=h) (S:=S) (w:=w) b (base+off*sz) len sz gK (λi=>f (off+i)) (λi hi=>hl _ aKK) (λi j pv hi hj=>by
    obtain ⟨u,r1,r2⟩:=jS (off+i) j pv aKK hj
    refine ⟨u,?_,r2⟩
    rw [cell_of_row w b _ cur e (0,0) lu,<-r1]
    congr 1
    rw [aHR]
    omega)
   exact ⟨λi hi=>hl _ aKK,news,q1,q2,q3,λw' ha=>⟨by rw [hv];rfl,by rw [hv];exact q4 w' ha⟩⟩
theorem zw (hc:Core μ h S w) (x:PV) (xv:Value) (hx:bS μ h S w x xv) (sz:Nat) (gK:0<sz) (K:Nat->(Nat->List PV)->Prop) (hp:Kv x h sz K):∃m g,K m g/\Src P μ h S w xv sz m g/\∀(i j:Nat) (pv:PV),i<m->(g i)[j]? =some pv->dW pv=false:=by
 unfold Kv at hp
 split at hp
 ·exact ⟨_,_,hp,Src.empty _ _ _ ⟨_,_,hx.p9⟩,λi j pv hi=>absurd hi (aIs _)⟩
 ·rename_i cr m g
  replace hp:=bI hp
  obtain ⟨yL,hp⟩:=hp
  obtain rfl:=Of yL
  refine ⟨m,g,hp,?_⟩
  rcases hx.vG with ⟨a,c,ex,rfl⟩ | ⟨b,off,c,vf,ex,hS,hl,hc',bs,pa⟩
  ·exact ⟨Src.empty _ _ _ ⟨_,_,ex⟩,λi j pv hi=>absurd hi (aIs _)⟩
  ·obtain ⟨news,q1,q2,q3,q4⟩:=Ku (P:=P) (μ:=μ) (h:=h) (S:=S) (w:=w) b off m sz gK g hl (λi j pv hi hj=>⟨_,bs i j pv hi hj,(cz.lp (pa i j pv hi hj)).k (aY.no (pa i j pv hi hj))⟩)
   exact ⟨⟨hl,news,q1,q2,q3,λw' ha=>⟨by rw [ex];rfl,by rw [ex];exact q4 w' ha⟩⟩,λi j pv hi hj=>aY.no (pa i j pv hi hj)⟩
 ·rename_i id gen off m
  split at hp
  ·rename_i g cr n e f hg
   obtain ⟨rfl,xB,hp⟩:=hp
   replace hp:=bI hp
   obtain ⟨yL,hp⟩:=hp
   obtain rfl:=Of yL
   exact ⟨m,_,hp,n8 hc id g off m sz n e f (ez hg) xv hx gK,λi j pv hi hj=>P2 (xB i hi) hj⟩
  ·exact aKm
 ·rename_i s
  replace hp:=bI hp
  obtain ⟨yL,hp⟩:=hp
  obtain rfl:=Of yL
  refine ⟨_,_,hp,⟨λi hi=>rfl,(s.map λb=>Value.int .u8 b.toNat).toArray,by simp,λi j pv hi hj=>?_,λu hu=>?_,λw' _=>⟨by rw [hx.nh];rfl,?_⟩⟩,λi j pv hi hj=>?_⟩
  ·cases j with
   | zero=>
    simp at hj
    subst hj
    refine ⟨.int .u8 (s.getD i 0).toNat,?_,aY.int _ _⟩
    rw [aHL,abF hi]
    simp [hi]
   | succ j=>simp at hj
  ·simp at hu
   obtain ⟨b,_,rfl⟩:=hu
   rfl
  ·rw [hx.nh]
   have e1:(ByteArray.mk ⟨s⟩).extract 0 s.length=ByteArray.mk ⟨s⟩:=by rw [zZ];simp
   simp only [Builtin.firstCells,e1]
   simp
  ·cases j with
   | zero=>simp at hj;subst hj;rfl
   | succ j=>simp at hj
 ·exact aKm
end
section
variable {P:Program} {T:o9} {μ:Mu} {h:List ak} {S:Nat->Prop} {w w1:World}
theorem RO (hc:Core μ h S w) (kZ g sz n:Nat) (e:TypeId) (f:Nat->List PV) (hh:h[kZ]? =some (ak.row g sz n e f)):Fr μ h S w μ (h.set kZ .dead) S w/\Core μ (h.set kZ .dead) S w:=by
 have hid:kZ<h.length:=(An.1 hh).1
 have tq:(h.set kZ ak.dead)[kZ]? =some ak.dead:=by simp [hid]
 have cM:∀j,j≠kZ->(h.set kZ ak.dead)[j]? =h[j]? :=λj hj=>by rw [aId (aIT hj)]
 have ml:∀{j gj k9 nj ej fj},(h.set kZ ak.dead)[j]? =some (ak.row gj k9 nj ej fj)->j≠kZ:=λhj hx=>by subst hx;rw [tq] at hj;cases hj
 have xl:∀b,CG μ (h.set kZ ak.dead) b->CG μ h b:=λb ⟨j,gj,k9,nj,ej,fj,nG,hj,hm⟩=>by
  rw [cM j (ml hj)] at hj;exact ⟨j,gj,k9,nj,ej,fj,nG,hj,hm⟩
 have n9:∀j x y b,dU (h.set kZ ak.dead) j x y b->dU h j x y b:=λj x y b ⟨gj,k9,nj,ej,fj,cr,n',e',f',F',q1,q2,q3,q4⟩=>by
  rw [cM j (ml q1)] at q1;exact ⟨_,_,_,_,_,_,_,_,_,_,q1,q2,q3,q4⟩
 have lE:∀b,di μ (h.set kZ ak.dead) b->di μ h b:=λb hb=>by
  rcases hb with hb | ⟨x,y,z,hb⟩
  ·exact .inl (xl b hb)
  ·exact .inr ⟨x,y,z,n9 _ _ _ _ hb⟩
 have jG:Fr μ h S w μ (h.set kZ .dead) S w:=by
  refine ⟨by simp,λ_ _ _=>rfl,λ_ hb=>hb,λ_ hb=>.inl hb,λb hb=>.inl (lE b hb),No _,rfl,rfl,rfl,λj gj k9 nj ej fj hj=>?_,λj hj=>?_,λ_ _ _ fY=>fY,λj gj k9 nj ej fj b base hj hm mu=>⟨mu,?_⟩,λ_ _ _ _ _ mu=>mu⟩
  ·by_cases AX:j=kZ
   ·subst AX;rw [tq];trivial
   ·rw [cM j AX,hj];exact ⟨No _,λ_=>⟨rfl,rfl,rfl,rfl⟩⟩
  ·have AX:j≠kZ:=by rintro rfl;rw [hh] at hj;cases hj
   rw [cM j AX];exact hj
  ·by_cases AX:j=kZ
   ·subst AX;exact .inl tq
   ·exact .inr ⟨⟨_,_,_,_,_,(cM j AX).trans hj⟩,hm⟩
 refine ⟨jG,⟨λj gj k9 nj ej fj hj=>?_,⟨λb hb=>hc.ok.apart b (lE b hb),λb hb=>hc.ok.lt b (lE b hb),hc.ok.slt,?_,hc.ok.known,λb hb x y z hx=>hc.ok.hv b (xl b hb) x y z (n9 _ _ _ _ hx),λb _ _ _ _ _ _ hx hy=>hc.ok.hh b _ _ _ _ _ _ (n9 _ _ _ _ hx) (n9 _ _ _ _ hy)⟩⟩⟩
 ·rw [cM j (ml hj)] at hj
  obtain ⟨h1,h2⟩:=hc.heap j gj k9 nj ej fj hj
  refine ⟨h1,?_⟩
  cases hm:μ j with
  | none=>rw [hm] at h2;exact h2
  | some p=>
   obtain ⟨b,base⟩:=p
   rw [hm] at h2
   obtain ⟨o,q1,q2⟩:=h2
   exact ⟨o,q1,q2.mono (λ_ _ _ _ _ _ hr=>hr.fr jG hc.ok (λ_ _ _ _ _ _ _ _=>rfl))⟩
 ·intro i j gi Rr ni ei fi gj k9 nj ej fj b o o' hi hj nB mF
  rw [cM i (ml hi)] at hi
  rw [cM j (ml hj)] at hj
  exact aKA
theorem Fp (hc:Core μ h S w) (id kZ:Nat) (mJ:kZ≠id) (g2 lG n2:Nat) (e2:TypeId) (f2:Nat->List PV) (Kw:h[kZ]? =some (ak.row g2 lG n2 e2 f2)) (l0:Nat) (g g1 sz n n1:Nat) (e:TypeId) (f f1:Nat->List PV) (hh:h[id]? =some (ak.row g sz n e f)) (b1 rY:Nat) (jR:Array Value)
  (hg:g<=g1) (hg1:g1=g->μ id=some (b1,rY)/\n1=n)
  (hb:w.heap.size<=b1\/∃base cur,μ id=some (b1,base)/\w.heap[b1]? =some (.cells cur e (0,0))/\cur.size=jR.size)
  (hw:w1.heap[b1]? =some (.cells jR e (0,0))) (um:rY+n1*sz<=jR.size)
  (gO:∀b,b<w.heap.size->b≠b1->w1.heap[b]? =w.heap[b]?) (tN:w.heap.size<=w1.heap.size) (hos:w1.os=w.os) (JR:w1.tape=w.tape) (Nc:w1.output=w.output)
  (hl:∀i,i<n1->(f1 i).length=sz) (JG:∀b base,μ id=some (b,base)->¬qc w b)
  (bs:∀(i j:Nat) (pv:PV),i<n1->(f1 i)[j]? =some pv->∃v:Value,jR[rY+i*sz+j]? =some v/\pd μ h S w pv v) (JT xm:Nat)
  (u7:∀(i j cr n':Nat) (e':TypeId) (f':Nat->List PV) (F':Nat->Prop),i<n1->(f1 i)[j]? =some (.dY cr n' e' f' F')->(i<l0/\JT+i<n/\(f (JT+i))[j]? =some (.dY cr n' e' f' F'))\/(l0<=i/\xm+(i - l0)<n2/\(f2 (xm+(i - l0)))[j]? =some (.dY cr n' e' f' F'))):
  Fr μ h S w (nF μ id (some (b1,rY))) ((h.set id (.row g1 sz n1 e f1)).set kZ .dead) S w1/\Core (nF μ id (some (b1,rY))) ((h.set id (.row g1 sz n1 e f1)).set kZ .dead) S w1:=by
 have hid:id<h.length:=(An.1 hh).1
 have gP:((h.set id (ak.row g1 sz n1 e f1)).set kZ .dead)[id]? =some (ak.row g1 sz n1 e f1):=by rw [aId mJ];simp [hid]
 have alE:kZ<h.length:=(An.1 Kw).1
 have tq:((h.set id (ak.row g1 sz n1 e f1)).set kZ .dead)[kZ]? =some ak.dead:=by simp [alE]
 have nv:∀j,j≠id->j≠kZ->((h.set id (ak.row g1 sz n1 e f1)).set kZ .dead)[j]? =h[j]? :=λj hj AX=>by rw [aId (aIT AX),aId (aIT hj)]
 have ml:∀{j gj k9 nj ej fj},((h.set id (ak.row g1 sz n1 e f1)).set kZ .dead)[j]? =some (ak.row gj k9 nj ej fj)->j≠kZ:=λhj hx=>by subst hx;rw [tq] at hj;cases hj
 have Zg:b1<w1.heap.size:=(abL.1 hw).1
 have u9:b1<w.heap.size->di μ h b1:=λbg=>by
  rcases hb with hb | ⟨base,cur,hm,_,_⟩
  ·omega
  ·exact .inl ⟨id,g,sz,n,e,f,base,hh,hm⟩
 have eN:∀j x y b,dU ((h.set id (ak.row g1 sz n1 e f1)).set kZ .dead) j x y b->j≠kZ/\∃j0 x0,dU h j0 x0 y b/\((j≠id/\j0=j/\x0=x)\/(j=id/\x<l0/\j0=id/\x0=JT+x)\/(j=id/\l0<=x/\j0=kZ/\x0=xm+(x - l0))):=λj x y b ⟨gj,k9,nj,ej,fj,cr,n',e',f',F',q1,q2,q3,q4⟩=>by
  refine ⟨ml q1,?_⟩
  by_cases fF:j=id
  ·subst fF
   rw [gP] at q1
   injection q1 with q1
   injection q1 with e1 e2 e3 e4 e5
   subst e1 e2 e3 e4 e5
   rcases u7 x y _ _ _ _ _ q2 q3 with ⟨r0,r1,r2⟩ | ⟨r0,r1,r2⟩
   ·exact ⟨_,_,⟨_,_,_,_,_,_,_,_,_,_,hh,r1,r2,q4⟩,.inr (.inl ⟨rfl,r0,rfl,rfl⟩)⟩
   ·exact ⟨_,_,⟨_,_,_,_,_,_,_,_,_,_,Kw,r1,r2,q4⟩,.inr (.inr ⟨rfl,r0,rfl,rfl⟩)⟩
  ·have AX:=ml q1
   rw [nv j fF AX] at q1
   exact ⟨_,_,⟨_,_,_,_,_,_,_,_,_,_,q1,q2,q3,q4⟩,.inl ⟨fF,rfl,rfl⟩⟩
 have rZ:∀j x y b,dU h j x y b->b<w.heap.size/\b≠b1:=λj x y b hx=>by
  have bg:=hc.ok.lt b (.inr ⟨j,x,y,hx⟩)
  refine ⟨bg,?_⟩
  rintro rfl
  rcases hb with hb | ⟨base,cur,hm,_,_⟩
  ·omega
  ·exact hc.ok.hv b ⟨id,g,sz,n,e,f,base,hh,hm⟩ j x y hx
 have jG:Fr μ h S w (nF μ id (some (b1,rY))) ((h.set id (.row g1 sz n1 e f1)).set kZ .dead) S w1:=by
  refine ⟨by simp,λb bg xB=>?_,λ_ hb=>hb,λ_ hb=>.inl hb,λb nA=>?_,tN,hos,JR,Nc,λj gj k9 nj ej fj hj=>?_,λj hj=>?_,λb k yM fY=>?_,λj gj k9 nj ej fj b base hj hm mu=>?_,λb j x y hx mu=>?_⟩
  rotate_right
  ·obtain ⟨q1,q2⟩:=rZ j x y b hx
   obtain ⟨es,c,q⟩:=mu
   exact ⟨es,c,(gO b q1 q2).trans q⟩
  ·by_cases A7:b=b1
   ·subst A7;exact (xB (u9 bg)).elim
   ·exact gO b bg A7
  ·rcases nA with ⟨j,gj,k9,nj,ej,fj,nG,hj,hm⟩ | ⟨j,x,y,hx⟩
   rotate_left
   ·obtain ⟨_,j0,x0,hx0,_⟩:=eN j x y b hx
    exact .inl (.inr ⟨_,_,_,hx0⟩)
   by_cases fF:j=id
   ·subst fF
    rw [bB] at hm
    injection hm with hm
    injection hm with h1 h2
    subst h1
    rcases aIE b1 w.heap.size with bg | Pw
    ·exact .inl (u9 bg)
    ·exact .inr Pw
   ·rw [nv j fF (ml hj)] at hj
    rw [dt μ _ fF] at hm
    exact .inl (.inl ⟨j,gj,k9,nj,ej,fj,nG,hj,hm⟩)
  ·by_cases fF:j=id
   ·subst fF
    rw [hh] at hj
    injection hj with hj
    injection hj with e1 e2 e3 e4 e5
    subst e1 e2 e3 e4 e5
    rw [gP]
    refine ⟨hg,λhe=>?_⟩
    obtain ⟨h1,h2⟩:=hg1 he
    exact ⟨by rw [bB,h1],rfl,h2,rfl⟩
   ·by_cases AX:j=kZ
    ·subst AX;rw [tq];trivial
    ·rw [nv j fF AX,hj]
     exact ⟨No _,λ_=>⟨dt μ _ fF,rfl,rfl,rfl⟩⟩
  ·have fF:j≠id:=by rintro rfl;rw [hh] at hj;cases hj
   have AX:j≠kZ:=by rintro rfl;rw [Kw] at hj;cases hj
   rw [nv j fF AX];exact hj
  ·by_cases A7:b=b1
   ·subst A7
    obtain ⟨cur,e',z,q1,q2⟩:=fY
    rcases hb with hb | ⟨base,zj,hm,lu,gK⟩
    ·have:=(abL.1 q1).1;omega
    ·rw [lu] at q1
     injection q1 with q1
     injection q1 with q1 _ _
     subst q1
     exact ⟨jR,e,_,hw,by omega⟩
   ·exact kq.of_same (gO b fY.lt A7) fY
  ·have fF:j≠id:=by rintro rfl;exact JG b base hm mu
   have A7:b≠b1:=by
    rintro rfl
    obtain ⟨es,c,q⟩:=mu
    rcases hb with hb | ⟨oM,zj,Ho,lu,_⟩
    ·have:=(abL.1 q).1;omega
    ·rw [lu] at q;cases q
   obtain ⟨es,c,q⟩:=mu
   refine ⟨⟨es,c,(gO b (abL.1 q).1 A7).trans q⟩,?_⟩
   by_cases AX:j=kZ
   ·subst AX;exact .inl tq
   ·exact .inr ⟨⟨_,_,_,_,_,(nv j fF AX).trans hj⟩,by rw [dt μ _ fF];exact hm⟩
 refine ⟨jG,⟨λj gj k9 nj ej fj hj=>?_,?_⟩⟩
 ·by_cases fF:j=id
  ·subst fF
   rw [gP] at hj
   injection hj with hj
   injection hj with e1 e2 e3 e4 e5
   subst e1 e2 e3 e4 e5
   rw [bB]
   refine ⟨hl,cZ.CE ⟨jR,hw,um,λi k pv hi hk=>?_⟩⟩
   obtain ⟨v,h1,h2⟩:=bs i k pv hi hk
   refine ⟨v,h1,h2.fr jG hc.ok (λcr n' e' f' F' he b nA=>?_)⟩
   rw [he] at hk
   rcases u7 i k _ _ _ _ _ hi hk with ⟨r0,r1,r2⟩ | ⟨r0,r1,r2⟩
   ·obtain ⟨q1,q2⟩:=rZ _ _ k b ⟨_,_,_,_,_,_,_,_,_,_,hh,r1,r2,nA⟩
    exact gO b q1 q2
   ·obtain ⟨q1,q2⟩:=rZ _ _ k b ⟨_,_,_,_,_,_,_,_,_,_,Kw,r1,r2,nA⟩
    exact gO b q1 q2
  ·rw [nv j fF (ml hj)] at hj
   obtain ⟨h1,h2⟩:=hc.heap j gj k9 nj ej fj hj
   refine ⟨h1,?_⟩
   rw [dt μ _ fF]
   cases hm:μ j with
   | none=>rw [hm] at h2;exact h2
   | some p=>
    obtain ⟨b,base⟩:=p
    rw [hm] at h2
    obtain ⟨o,q1,q2⟩:=h2
    have bg:b<w.heap.size:=(abL.1 q1).1
    have A7:b≠b1:=by
     rintro rfl
     rcases hb with hb | ⟨oM,zj,Ho,_⟩
     ·omega
     ·exact fF (hc.ok.inj j id _ _ _ _ _ _ _ _ _ _ _ _ _ hj hh hm Ho)
    exact ⟨o,(gO b bg A7).trans q1,q2.mono (λi y pv v hi hy hr=>hr.fr jG hc.ok (λcr n' e' f' F' he b' nA=>by
     obtain ⟨q1,q2⟩:=rZ j i y b' ⟨_,_,_,_,_,_,_,_,_,_,hj,hi,by rw [hy,he],nA⟩
     exact gO b' q1 q2))⟩
 ·refine ⟨λb yM Px=>?_,λb yM=>?_,λb Px=>aHX (hc.ok.slt b Px) tN,?_,hc.ok.zk jG,λb hvb j x y hx=>?_,λb j x y j' x' y' hx uo=>?_⟩
  rotate_right 2
  ·obtain ⟨_,j0,x0,hx0,_⟩:=eN j x y b hx
   obtain ⟨q1,q2⟩:=rZ _ _ _ b hx0
   obtain ⟨k,gk,szk,nk,ek,fk,JU,hk,hm⟩:=hvb
   by_cases xf:k=id
   ·subst xf
    rw [bB] at hm
    injection hm with hm
    injection hm with h1 h2
    exact q2 h1.symm
   ·rw [nv k xf (ml hk)] at hk
    rw [dt μ _ xf] at hm
    exact hc.ok.hv b ⟨k,gk,szk,nk,ek,fk,JU,hk,hm⟩ _ _ _ hx0
  ·obtain ⟨k1,j0,x0,hx0,c0⟩:=eN j x y b hx
   obtain ⟨k2,j1,x1,hx1,c1⟩:=eN j' x' y' b uo
   obtain ⟨r1,r2,r3⟩:=hc.ok.hh b _ _ _ _ _ _ hx0 hx1
   subst r1;subst r2
   rcases c0 with ⟨a1,a2,a3⟩ | ⟨a1,a2,a3,a4⟩ | ⟨a1,a2,a3,a4⟩<;>rcases c1 with ⟨d1,d2,d3⟩ | ⟨d1,d2,d3,d4⟩ | ⟨d1,d2,d3,d4⟩<;>refine ⟨?_,?_,r3⟩<;>omega
  ·rcases jG.own b yM with h1 | h1
   ·exact hc.ok.apart b h1 Px
   ·have:=hc.ok.slt b Px;omega
  ·rcases yM with ⟨j,gj,k9,nj,ej,fj,nG,hj,hm⟩ | ⟨j,x,y,hx⟩
   rotate_left
   ·obtain ⟨_,j0,x0,hx0,_⟩:=eN j x y b hx
    exact aHX (hc.ok.lt b (.inr ⟨_,_,_,hx0⟩)) tN
   by_cases fF:j=id
   ·subst fF
    rw [bB] at hm
    injection hm with hm
    injection hm with h1 h2
    subst h1
    exact Zg
   ·rw [nv j fF (ml hj)] at hj
    rw [dt μ _ fF] at hm
    exact aHX (hc.ok.lt b (.inl ⟨j,gj,k9,nj,ej,fj,nG,hj,hm⟩)) tN
  ·intro i j gi Rr ni ei fi gj k9 nj ej fj b o o' hi hj nB mF
   by_cases Hp:i=id
   ·by_cases fF:j=id
    ·rw [Hp,fF]
    ·subst Hp
     rw [bB] at nB
     injection nB with nB
     injection nB with h1 h2
     subst h1
     rw [nv j fF (ml hj)] at hj
     rw [dt μ _ fF] at mF
     rcases hb with hb | ⟨oM,zj,Ho,_⟩
     ·have:=hc.ok.lt _ (.inl ⟨j,gj,k9,nj,ej,fj,o',hj,mF⟩);omega
     ·exact hc.ok.inj i j _ _ _ _ _ _ _ _ _ _ _ _ _ hh hj Ho mF
   ·rw [nv i Hp (ml hi)] at hi
    rw [dt μ _ Hp] at nB
    by_cases fF:j=id
    ·subst fF
     rw [bB] at mF
     injection mF with mF
     injection mF with h1 h2
     subst h1
     rcases hb with hb | ⟨oM,zj,Ho,_⟩
     ·have:=hc.ok.lt _ (.inl ⟨i,gi,Rr,ni,ei,fi,o,hi,nB⟩);omega
     ·exact hc.ok.inj i j _ _ _ _ _ _ _ _ _ _ _ _ _ hi hh nB Ho
    ·rw [nv j fF (ml hj)] at hj
     rw [dt μ _ fF] at mF
     exact aKA
end
section
variable {P:Program} {T:o9} {μ:Mu} {h:List ak} {S:Nat->Prop} {w:World}
theorem wC (hc:Core μ h S w) (id g g1 sz n:Nat) (e:TypeId) (f f1:Nat->List PV) (hh:h[id]? =some (ak.row g sz n e f)) (hC:μ id=none) (hg:g<g1):
  Fr μ h S w μ (h.set id (.row g1 sz 0 e f1)) S w/\Core μ (h.set id (.row g1 sz 0 e f1)) S w:=by
 have hid:id<h.length:=(An.1 hh).1
 have gP:(h.set id (ak.row g1 sz 0 e f1))[id]? =some (ak.row g1 sz 0 e f1):=by simp [hid]
 have cM:∀j,j≠id->(h.set id (ak.row g1 sz 0 e f1))[j]? =h[j]? :=λj hj=>by rw [aId (aIT hj)]
 have xl:∀b,CG μ (h.set id (ak.row g1 sz 0 e f1)) b->CG μ h b:=λb hb=>by
  obtain ⟨j,gj,k9,nj,ej,fj,nG,hj,hm⟩:=hb
  by_cases fF:j=id
  ·subst fF;rw [hC] at hm;cases hm
  ·rw [cM j fF] at hj;exact ⟨j,gj,k9,nj,ej,fj,nG,hj,hm⟩
 have n9:∀j x y b,dU (h.set id (ak.row g1 sz 0 e f1)) j x y b->dU h j x y b:=λj x y b ⟨gj,k9,nj,ej,fj,cr,n',e',f',F',q1,q2,q3,q4⟩=>by
  by_cases fF:j=id
  ·subst fF
   rw [gP] at q1
   injection q1 with q1
   injection q1 with e1 e2 e3 e4 e5
   omega
  ·rw [cM j fF] at q1
   exact aKG
 have lE:∀b,di μ (h.set id (ak.row g1 sz 0 e f1)) b->di μ h b:=λb hb=>by
  rcases hb with hb | ⟨x,y,z,hb⟩
  ·exact .inl (xl b hb)
  ·exact .inr ⟨x,y,z,n9 _ _ _ _ hb⟩
 have jG:Fr μ h S w μ (h.set id (.row g1 sz 0 e f1)) S w:=by
  refine ⟨by simp,λ_ _ _=>rfl,λ_ hb=>hb,λ_ hb=>.inl hb,λb hb=>.inl (lE b hb),No _,rfl,rfl,rfl,λj gj k9 nj ej fj hj=>?_,λj hj=>?_,λ_ _ _ fY=>fY,λj gj k9 nj ej fj b base hj hm mu=>⟨mu,.inr ⟨⟨_,_,_,_,_,(cM j (by rintro rfl;rw [hC] at hm;cases hm)).trans hj⟩,hm⟩⟩,λ_ _ _ _ _ mu=>mu⟩
  ·by_cases fF:j=id
   ·subst fF
    rw [hh] at hj
    injection hj with hj
    injection hj with e1 e2 e3 e4 e5
    subst e1 e2 e3 e4 e5
    rw [gP]
    exact ⟨by omega,λhe=>absurd he aKK⟩
   ·rw [cM j fF,hj]
    exact aKF
  ·have fF:j≠id:=by rintro rfl;rw [hh] at hj;cases hj
   rw [cM j fF];exact hj
 refine ⟨jG,⟨λj gj k9 nj ej fj hj=>?_,⟨λb hb=>hc.ok.apart b (lE b hb),λb hb=>hc.ok.lt b (lE b hb),hc.ok.slt,?_,hc.ok.known,λb hb x y z hx=>hc.ok.hv b (xl b hb) x y z (n9 _ _ _ _ hx),λb _ _ _ _ _ _ hx hy=>hc.ok.hh b _ _ _ _ _ _ (n9 _ _ _ _ hx) (n9 _ _ _ _ hy)⟩⟩⟩
 ·by_cases fF:j=id
  ·subst fF
   rw [gP] at hj
   injection hj with hj
   injection hj with e1 e2 e3 e4 e5
   subst e1 e2 e3 e4 e5
   refine ⟨λi hi=>absurd hi aKK,?_⟩
   rw [hC]
  ·rw [cM j fF] at hj
   obtain ⟨h1,h2⟩:=hc.heap j gj k9 nj ej fj hj
   refine ⟨h1,?_⟩
   cases hm:μ j with
   | none=>rw [hm] at h2;exact h2
   | some p=>
    obtain ⟨b,base⟩:=p
    rw [hm] at h2
    obtain ⟨o,q1,q2⟩:=h2
    exact ⟨o,q1,q2.mono (λ_ _ _ _ _ _ hr=>hr.fr jG hc.ok (λ_ _ _ _ _ _ _ _=>rfl))⟩
 ·intro i j gi Rr ni ei fi gj k9 nj ej fj b o o' hi hj nB mF
  have Hp:i≠id:=by rintro rfl;rw [hC] at nB;cases nB
  have fF:j≠id:=by rintro rfl;rw [hC] at mF;cases mF
  rw [cM i Hp] at hi
  rw [cM j fF] at hj
  exact aKA
variable {a:Act} {env:Env} {K:PV->List ak->Prop} {dst:Option Tmp} {ty:TypeId} {pos:String} {after:Array Edge} {guard:Option (Nat×Bool)}
theorem qk (z:Array Value) (n:Nat):(Builtin.zeroCells z n).size=n*z.size:=by simp [Builtin.zeroCells]
theorem jJ {s x:Operand} {t tx:TypeId} {sv xv v':Value} {w':World} (hs:a.eval s=sv) (hx:a.eval x=xv) (hr:(Builtin.append_ #[t,tx] ty #[sv,xv]).run P w=.ok v' w'):
  (execOp a.eval ⟨dst,.call ⟨.builtin .append,#[s,x],#[t,tx]⟩,ty,pos,after,guard⟩).run P w=.ok (.value v') w':=by
 simp only [execOp,resolve,invoke,builtin,Sem.run_bind,Sem.run_pure,Result.andThen_ok,aJu,aHQ,aIr,hs,hx,hr]
theorem C3 {sz l m:Nat} {f q:Nat->List PV} {wc news rest:Array Value} (ho:wc.size=l*sz) (hn:news.size=m*sz)
  (h1:∀(i j:Nat) (pv:PV),i<l->(f i)[j]? =some pv->∃u,wc[i*sz+j]? =some u/\pd μ h S w pv u)
  (h2:∀(i j:Nat) (pv:PV),i<m->(q i)[j]? =some pv->∃u,news[i*sz+j]? =some u/\pd μ h S w pv u)
  (hl1:∀i,i<l->(f i).length=sz) (DS:∀i,i<m->(q i).length=sz):
  ∀(i j:Nat) (pv:PV),i<l+m->(bif Nat.blt i l then f i else q (i - l))[j]? =some pv->∃u,(wc++news++rest)[i*sz+j]? =some u/\pd μ h S w pv u:=by
 intro i j pv hi hj
 by_cases ru:i<l
 ·have hb:Nat.blt i l=true:=by simpa using ru
  rw [hb] at hj
  simp only [cond_true] at hj
  obtain ⟨u,q1,q2⟩:=h1 i j pv ru hj
  have bg:i*sz+j<wc.size:=(abL.1 q1).1
  exact ⟨u,by rw [aID aKT,aID bg];exact q1,q2⟩
 ·have hb:Nat.blt i l=false:=by
   cases hh:Nat.blt i l with
   | true=>exact (ru aLx).elim
   | false=>rfl
  rw [hb] at hj
  simp only [cond_false] at hj
  obtain ⟨u,q1,q2⟩:=h2 (i - l) j pv aKK hj
  have bg:(i - l)*sz+j<news.size:=(abL.1 q1).1
  have hmul:i*sz=l*sz+(i - l)*sz:=by rw [<-aHR];congr 1;omega
  refine ⟨u,?_,q2⟩
  rw [aID aKT,Array.getElem?_append_right aKK,<-q1]
  congr 1
  omega
theorem Kx {sz l m:Nat} {f q:Nat->List PV} (hl1:∀i,i<l->(f i).length=sz) (DS:∀i,i<m->(q i).length=sz):∀i,i<l+m->(bif Nat.blt i l then f i else q (i - l)).length=sz:=by
 intro i hi
 by_cases ru:i<l
 ·have hb:Nat.blt i l=true:=by simpa using ru
  rw [hb];exact hl1 i ru
 ·have hb:Nat.blt i l=false:=by
   cases hh:Nat.blt i l with
   | true=>exact (ru aLx).elim
   | false=>rfl
  rw [hb];exact DS _ aKK
theorem zx (w:World) (o:Obj):cD w (w.drew.alloc o):=(cD.drew w).trans (mv w.drew o)
theorem Ky (hT:dJ P T) (hc:Core μ h S w) (t tx e sz bytes:Nat) (zero:List PV) (d:TypeDesc) (gH:T.get t=.slice e sz bytes zero) (uo:P.underlying tx=some d) (hd:(∃e',d=.slice e')\/d=.string)
  (s x:Operand) (hs:a.eval s=.slice none 0 0) (m:Nat) (g:Nat->List PV) (we:Src P μ h S w (a.eval x) sz m g) (hgo:∀(i j:Nat) (pv:PV),i<m->(g i)[j]? =some pv->dW pv=false) (hb:m*bytes<=140737488355328) (hK:K (.own h.length 0 0 m) (h++[.row 0 sz m e g])):
  fG P ⟨dst,.call ⟨.builtin .append,#[s,x],#[t,tx]⟩,ty,pos,after,guard⟩ a μ h S w K:=by
 obtain ⟨hu,gK,inf,zv,lr,pH,hib,hz,Si,Ze,Sj⟩:=hT.slice _ _ _ _ _ gH
 have hbp:=hT.bytes _ _ _ _ _ gH
 subst pH hib
 obtain ⟨hl,news,q1,q2,q3,q4⟩:=we
 rcases aIL m with h0 | h0
 ·subst h0
  have hn:news=#[]:=aIF aLo
  subst hn
  obtain ⟨r1,r2⟩:=q4 w (cD.refl w)
  have hr:=kY (P:=P) (w:=w) t tx ty e inf d hu uo hd lr none 0 0 (a.eval x) 0 #[] w r1 r2 (No _) rfl
  obtain ⟨jG,qI⟩:=oN (w1:=w) hc inf.size 0 e g none rfl (cD.refl w) hl hgo
  refine fG.gQ (jJ hs rfl hr) hK ?_ qI jG
  show bC _ _ _ _ _ _ _ _
  unfold bC
  rw [aIc (No _),aIR]
  refine ⟨⟨_,_,_,rfl⟩,No _,λ_=>⟨by omega,?_⟩⟩
  rw [bB]
 ·obtain ⟨r1,_⟩:=q4 w (cD.refl w)
  obtain ⟨_,r2⟩:=q4 w.drew (cD.drew w)
  have hr:=ph (P:=P) (w:=w) t tx ty e inf zv d hu uo hd lr hz none 0 0 (a.eval x) m #[] news r1 rfl r2 aKK hbp (by rw [aHJ];exact hb)
  rw [aHJ] at hr
  obtain ⟨jG,qI⟩:=oN (w1:=w.drew.alloc (.cells (#[]++news++Builtin.zeroCells zv.cells (grownCap w m 0 e - m)) e)) hc inf.size m e g (some (w.heap.size,0))
   ⟨No _,_,heap_alloc_new w.drew _,by simp [q1],λi j pv hi hj=>by
    obtain ⟨u,p1,p2⟩:=q2 i j pv hi hj
    have bg:=(abL.1 p1).1
    exact ⟨u,by rw [aJp,aHJ,aID bg];exact p1,p2.c⟩⟩ (zx w _) hl hgo
  refine fG.gQ (jJ hs rfl hr) hK ?_ qI jG
  show bC _ _ _ _ _ _ _ _
  unfold bC
  rw [aIc (No _),aIR]
  refine ⟨⟨_,_,_,rfl⟩,No _,λ_=>⟨by omega,?_⟩⟩
  rw [bB]
  have Pw:=grownCap_ge w m 0 e
  refine ⟨_,grownCap w m 0 e,rfl,Pw,λ_=>by simp,_,e,_,heap_alloc_new w.drew _,?_⟩
  simp only [aJh,qk,Si,q1]
  simp only [aHJ]
  have:grownCap w m 0 e*inf.size=m*inf.size+(grownCap w m 0 e - m)*inf.size:=by rw [<-aHR];congr 1;omega
  simp
  omega
theorem NI (hT:dJ P T) (hc:Core μ h S w) (t tx e sz bytes:Nat) (zero:List PV) (d:TypeDesc) (gH:T.get t=.slice e sz bytes zero) (uo:P.underlying tx=some d) (hd:(∃e',d=.slice e')\/d=.string)
  (s x:Operand) (id g off len n:Nat) (f:Nat->List PV) (hh:h[id]? =some (ak.row g sz n e f)) (hs:bS μ h S w (.own id g off len) (a.eval s)) (m:Nat) (q:Nat->List PV) (we:Src P μ h S w (a.eval x) sz m q) (hqo:∀(i j:Nat) (pv:PV),i<m->(q i)[j]? =some pv->dW pv=false)
  (hb:(len+m)*bytes<=140737488355328)
  (hK:K (.own id (g+1) 0 (len+m)) (h.set id (.row (g+1) sz (len+m) e (λi=>bif Nat.blt i len then f (off+i) else q (i - len))))):
  fG P ⟨dst,.call ⟨.builtin .append,#[s,x],#[t,tx]⟩,ty,pos,after,guard⟩ a μ h S w K:=by
 obtain ⟨hu,gK,inf,zv,lr,pH,hib,hz,Si,Ze,Sj⟩:=hT.slice _ _ _ _ _ gH
 have hbp:=hT.bytes _ _ _ _ _ gH
 subst pH hib
 have hid:id<h.length:=(An.1 hh).1
 obtain ⟨hl1,wc,o1,o2,o3,o4⟩:=n8 (P:=P) hc id g off len inf.size n e f hh _ hs gK
 obtain ⟨DS,news,q1,q2,q3,q4⟩:=we
 have Sm:=Kx hl1 DS
 have hjo:∀{sl:Nat},off+sl<=n->∀(i j cr n':Nat) (e':TypeId) (f':Nat->List PV) (F':Nat->Prop),i<sl+m->(bif Nat.blt i sl then f (off+i) else q (i - sl))[j]? =some (.dY cr n' e' f' F')->off+i<n/\(f (off+i))[j]? =some (.dY cr n' e' f' F'):=λ{sl} hsn i j cr n' e' f' F' hi hj=>by
  by_cases ru:i<sl
  ·have hb:Nat.blt i sl=true:=by simpa using ru
   rw [hb] at hj
   exact ⟨by omega,hj⟩
  ·have hb:Nat.blt i sl=false:=by
    cases hh:Nat.blt i sl with
    | true=>exact (ru aLx).elim
    | false=>rfl
   rw [hb] at hj
   have:=hqo (i - sl) j _ aKK hj
   cases this
 have tr:=hs.om
 unfold bC at tr
 rw [hh] at tr
 obtain ⟨⟨sa,sl,lU,C4⟩,_,tr⟩:=tr
 obtain ⟨hle,tr⟩:=tr rfl
 have Ro:sl=len:=by
  obtain ⟨e1,_⟩:=o4 w (cD.refl w)
  rw [C4] at e1
  simp [Builtin.lenOf] at e1
  exact e1
 subst Ro
 obtain ⟨hl,bs⟩:=hc.heap id g _ n e f hh
 have JG:∀b base,μ id=some (b,base)->¬qc w b:=λb base hC=>by
  rw [hC] at tr
  obtain ⟨_,_,_,_,_,fY⟩:=tr
  exact fY.CF
 by_cases qJ:sl+m<=lU
 ·-- in place
  obtain ⟨r1,r2⟩:=q4 w (cD.refl w)
  cases hC:μ id with
  | none=>
   rw [hC] at tr bs
   rw [C4] at tr
   injection tr with e1 e2 e3
   subst e1 e2 e3
   have hm:m=0:=by omega
   subst hm
   have hn:news=#[]:=aIF aLo
   subst hn
   have hr:=kY (P:=P) (w:=w) t tx ty e inf d hu uo hd lr none 0 0 (a.eval x) 0 #[] w r1 r2 (No _) rfl
   obtain ⟨jG,qI⟩:=wC hc id g (g+1) inf.size n e f (λi=>bif Nat.blt i 0 then f (off+i) else q (i - 0)) hh hC (aHP g)
   refine fG.gQ (jJ C4 rfl hr) hK ?_ qI jG
   show bC _ _ _ _ _ _ _ _
   unfold bC
   rw [aIx hid]
   refine ⟨⟨_,_,_,rfl⟩,No _,λ_=>⟨by omega,?_⟩⟩
   rw [hC]
  | some p=>
   obtain ⟨b,base⟩:=p
   rw [hC] at tr bs
   obtain ⟨ad,cap,hv,hlc,vH,fY⟩:=tr
   rw [C4] at hv
   injection hv with e1 e2 e3
   subst e1 e3
   obtain ⟨cur,lu,um,jS⟩:=cZ.cells fY bs
   have Kz:base+(off+lU)*inf.size<=cur.size:=by
    obtain ⟨zj,e',z',p1,p2⟩:=fY
    rw [lu] at p1
    injection p1 with p1
    injection p1 with p1 _ _
    subst p1
    exact p2
   rw [aHR] at Kz
   have key:∃jR:Array Value,jR.size=cur.size/\(match (some ad:Option Addr) with | some a=>(storeCells (a.add (sl*inf.size)) news.toList).run P w=.ok () (w.setRow b jR) | none=>w.setRow b jR=w)/\
     ∀k,jR[k]? =if base+off*inf.size+sl*inf.size<=k/\k<base+off*inf.size+sl*inf.size+m*inf.size then news[k - (base+off*inf.size+sl*inf.size)]? else cur[k]? :=by
    rcases aIL m with h0 | h0
    ·subst h0
     have hn:news=#[]:=aIF aLo
     subst hn
     refine ⟨cur,rfl,?_,λk=>by rw [if_neg aKK]⟩
     show (storeCells (ad.add (sl*inf.size)) []).run P w=.ok () (w.setRow b cur)
     rw [setRow_self w b cur e (0,0) lu]
     rfl
    ·have vH:=vH aKK
     subst vH
     have hmul:(sl+m)*inf.size<=lU*inf.size:=aHO _ qJ
     rw [aHR] at hmul
     have sy:=run_storeCells_at P b (base+off*inf.size+sl*inf.size) e news.toList 0 cur w lu aKT q3
     rw [aIP] at sy
     refine ⟨(cur.toList.take (base+off*inf.size+sl*inf.size)++news.toList++cur.toList.drop (base+off*inf.size+sl*inf.size+news.toList.length)).toArray,?_,?_,λk=>?_⟩
     ·simp;omega
     ·show (storeCells ((⟨b,base+off*inf.size,none⟩:Addr).add (sl*inf.size)) news.toList).run P w=.ok () _
      rw [Addr.add_lit]
      exact sy
     ·have hsp:=tb cur.toList news.toList (base+off*inf.size+sl*inf.size) k aKT
      rw [aJj,hsp]
      simp only [aHZ,aIA,q1]
   obtain ⟨jR,c1,c2,c3⟩:=key
   have hr:=kY (P:=P) (w:=w) t tx ty e inf d hu uo hd lr (some ad) sl lU (a.eval x) m news (w.setRow b jR) r1 r2 qJ c2
   have hmul:(sl+m)*inf.size<=lU*inf.size:=aHO _ qJ
   rw [aHR] at hmul
   have nr:=yk (w1:=w.setRow b jR) hc id g (g+1) inf.size n (sl+m) e f (λi=>bif Nat.blt i sl then f (off+i) else q (i - sl)) hh b (base+off*inf.size) jR aKK (λhe=>absurd he aKK)
    (.inr ⟨base,cur,hC,lu,c1.symm⟩) (setRow_heap w b cur _ e _ lu) (by rw [c1,aHR];omega) (λb' _ mJ=>setRow_other w b b' _ mJ) aKN rfl rfl rfl Sm JG
    (λi j pv hi hj=>by
     have K0:j<inf.size:=by rw [<-Sm i hi];exact (An.1 hj).1
     rw [c3]
     by_cases ru:i<sl
     ·have hbl:Nat.blt i sl=true:=by simpa using ru
      rw [hbl] at hj
      simp only [cond_true] at hj
      have nB:(i+1)*inf.size<=sl*inf.size:=aHO _ ru
      rw [aHR] at nB
      rw [if_neg aKK]
      obtain ⟨u,p1,p2⟩:=jS (off+i) j pv aKK hj
      refine ⟨u,?_,p2⟩
      rw [<-p1]
      congr 1
      rw [aHR]
      omega
     ·have hbl:Nat.blt i sl=false:=by
       cases hh':Nat.blt i sl with
       | true=>exact (ru (by simpa using hh')).elim
       | false=>rfl
      rw [hbl] at hj
      simp only [cond_false] at hj
      have e1:i*inf.size=sl*inf.size+(i - sl)*inf.size:=by rw [<-aHR];congr 1;omega
      have e2:(i - sl+1)*inf.size<=m*inf.size:=aHO _ aKK
      rw [aHR] at e2
      rw [if_pos aKK]
      obtain ⟨u,p1,p2⟩:=q2 (i - sl) j pv aKK hj
      exact ⟨u,by rw [<-p1];congr 1;omega,p2⟩) off (hjo aKK)
   obtain ⟨jG,qI⟩:=nr
   refine fG.gQ (jJ C4 rfl hr) hK ?_ qI jG
   show bC _ _ _ _ _ _ _ _
   unfold bC
   rw [aIx hid]
   refine ⟨⟨_,_,_,rfl⟩,No _,λ_=>⟨by omega,?_⟩⟩
   rw [bB]
   refine ⟨ad,lU,rfl,qJ,λhc0=>?_,jR,e,_,setRow_heap w b cur _ e _ lu,?_⟩
   ·rw [vH hc0,Nat.zero_mul,aIP]
   ·rw [c1,aHJ];omega
 ·-- it grows
  obtain ⟨r1,_⟩:=q4 w (cD.refl w)
  obtain ⟨_,r2⟩:=q4 w.drew (cD.drew w)
  obtain ⟨_,s2⟩:=o4 w.drew (cD.drew w)
  rw [C4] at s2
  have hr:=ph (P:=P) (w:=w) t tx ty e inf zv d hu uo hd lr hz sa sl lU (a.eval x) m wc news r1 s2 r2 aKK hbp hb
  have Pw:=grownCap_ge w (sl+m) lU e
  have nr:=yk (w1:=w.drew.alloc (.cells (wc++news++Builtin.zeroCells zv.cells (grownCap w (sl+m) lU e - (sl+m))) e)) hc id g (g+1) inf.size n (sl+m) e f (λi=>bif Nat.blt i sl then f (off+i) else q (i - sl)) hh
   w.heap.size 0 (wc++news++Builtin.zeroCells zv.cells (grownCap w (sl+m) lU e - (sl+m))) aKK (λhe=>absurd he aKK) (.inl (No _)) (heap_alloc_new w.drew _)
   (by simp only [aJh,o1,q1,aHR];omega) (λb bg _=>heap_alloc_old w.drew _ bg) aKN rfl rfl rfl Sm JG
   (λi j pv hi hj=>by
    rw [aHJ]
    exact C3 o1 q1 o2 q2 hl1 DS i j pv hi hj) off (hjo aKK)
  obtain ⟨jG,qI⟩:=nr
  refine fG.gQ (jJ C4 rfl hr) hK ?_ qI jG
  show bC _ _ _ _ _ _ _ _
  unfold bC
  rw [aIx hid]
  refine ⟨⟨_,_,_,rfl⟩,No _,λ_=>⟨by omega,?_⟩⟩
  rw [bB]
  refine ⟨_,grownCap w (sl+m) lU e,rfl,Pw,λ_=>by simp,_,e,_,heap_alloc_new w.drew _,?_⟩
  simp only [aJh,qk,Si,o1,q1,aHJ]
  have:grownCap w (sl+m) lU e*inf.size=(sl+m)*inf.size+(grownCap w (sl+m) lU e - (sl+m))*inf.size:=by rw [<-aHR];congr 1;omega
  rw [aHR] at this
  omega
theorem fG.ad3 {o:Oper} {a:Act} {K:PV->List ak->Prop} {μ1:Mu} {h1:List ak} (hf:Fr μ h S w μ1 h1 S w) (hm:ta μ h S w) (hA:fG P o a μ1 h1 S w K):fG P o a μ h S w K:=by
 intro next Q hn
 exact hA next Q λv val h' μ' S' w' hK hv hc hF=>hn v val h' μ' S' w' hK hv hc (hf.trans hF)
theorem Ad (hT:dJ P T) (hc:Core μ h S w) (t tx e sz bytes:Nat) (zero:List PV) (d:TypeDesc) (gH:T.get t=.slice e sz bytes zero) (uo:P.underlying tx=some d) (hd:(∃e',d=.slice e')\/d=.string)
  (s x:Operand) (id g off len n:Nat) (f:Nat->List PV) (hh:h[id]? =some (ak.row g sz n e f)) (hs:bS μ h S w (.own id g off len) (a.eval s)) (kZ:Nat) (mJ:kZ≠id) (g2 n2:Nat) (ad4:TypeId) (q2:Nat->List PV) (xm m:Nat) (Kw:h[kZ]? =some (ak.row g2 sz n2 ad4 q2)) (El:xm+m<=n2) (we:Src P μ h S w (a.eval x) sz m (λi=>q2 (xm+i)))
  (hb:(len+m)*bytes<=140737488355328)
  (hK:K (.own id (g+1) 0 (len+m)) ((h.set id (.row (g+1) sz (len+m) e (λi=>bif Nat.blt i len then f (off+i) else q2 (xm+(i - len))))).set kZ .dead)):
  fG P ⟨dst,.call ⟨.builtin .append,#[s,x],#[t,tx]⟩,ty,pos,after,guard⟩ a μ h S w K:=by
 obtain ⟨hu,gK,inf,zv,lr,pH,hib,hz,Si,Ze,Sj⟩:=hT.slice _ _ _ _ _ gH
 have hbp:=hT.bytes _ _ _ _ _ gH
 subst pH hib
 have hid:id<h.length:=(An.1 hh).1
 obtain ⟨hl1,wc,o1,o2,o3,o4⟩:=n8 (P:=P) hc id g off len inf.size n e f hh _ hs gK
 obtain ⟨DS,news,q1,q2c,q3,q4⟩:=we
 have Sm:=Kx hl1 DS
 have hjo:∀{sl:Nat},off+sl<=n->∀(i j cr n':Nat) (e':TypeId) (f':Nat->List PV) (F':Nat->Prop),i<sl+m->(bif Nat.blt i sl then f (off+i) else q2 (xm+(i - sl)))[j]? =some (.dY cr n' e' f' F')->(i<sl/\off+i<n/\(f (off+i))[j]? =some (.dY cr n' e' f' F'))\/(sl<=i/\xm+(i - sl)<n2/\(q2 (xm+(i - sl)))[j]? =some (.dY cr n' e' f' F')):=λ{sl} hsn i j cr n' e' f' F' hi hj=>by
  by_cases ru:i<sl
  ·have hb:Nat.blt i sl=true:=by simpa using ru
   rw [hb] at hj
   exact .inl ⟨ru,by omega,hj⟩
  ·have hb:Nat.blt i sl=false:=by
    cases hh:Nat.blt i sl with
    | true=>exact (ru aLx).elim
    | false=>rfl
   rw [hb] at hj
   exact .inr ⟨by omega,by omega,hj⟩
 have tr:=hs.om
 unfold bC at tr
 rw [hh] at tr
 obtain ⟨⟨sa,sl,lU,C4⟩,_,tr⟩:=tr
 obtain ⟨hle,tr⟩:=tr rfl
 have Ro:sl=len:=by
  obtain ⟨e1,_⟩:=o4 w (cD.refl w)
  rw [C4] at e1
  simp [Builtin.lenOf] at e1
  exact e1
 subst Ro
 obtain ⟨hl,bs⟩:=hc.heap id g _ n e f hh
 have JG:∀b base,μ id=some (b,base)->¬qc w b:=λb base hC=>by
  rw [hC] at tr
  obtain ⟨_,_,_,_,_,fY⟩:=tr
  exact fY.CF
 by_cases qJ:sl+m<=lU
 ·-- in place
  obtain ⟨r1,r2⟩:=q4 w (cD.refl w)
  cases hC:μ id with
  | none=>
   rw [hC] at tr bs
   rw [C4] at tr
   injection tr with e1 e2 e3
   subst e1 e2 e3
   have hm:m=0:=by omega
   subst hm
   have hn:news=#[]:=aIF aLo
   subst hn
   have hr:=kY (P:=P) (w:=w) t tx ty e inf d hu uo hd lr none 0 0 (a.eval x) 0 #[] w r1 r2 (No _) rfl
   obtain ⟨aFX,aFY⟩:=wC hc id g (g+1) inf.size n e f (λi=>bif Nat.blt i 0 then f (off+i) else q2 (xm+(i - 0))) hh hC (aHP g)
   obtain ⟨aFZ,qI⟩:=RO aFY kZ g2 inf.size n2 ad4 q2 (by rw [aId (aIT mJ)];exact Kw)
   have jG:=aFX.trans aFZ
   refine fG.gQ (jJ C4 rfl hr) hK ?_ qI jG
   show bC _ _ _ _ _ _ _ _
   unfold bC
   rw [aId mJ,aIx hid]
   refine ⟨⟨_,_,_,rfl⟩,No _,λ_=>⟨by omega,?_⟩⟩
   rw [hC]
  | some p=>
   obtain ⟨b,base⟩:=p
   rw [hC] at tr bs
   obtain ⟨ad,cap,hv,hlc,vH,fY⟩:=tr
   rw [C4] at hv
   injection hv with e1 e2 e3
   subst e1 e3
   obtain ⟨cur,lu,um,jS⟩:=cZ.cells fY bs
   have Kz:base+(off+lU)*inf.size<=cur.size:=by
    obtain ⟨zj,e',z',p1,p2⟩:=fY
    rw [lu] at p1
    injection p1 with p1
    injection p1 with p1 _ _
    subst p1
    exact p2
   rw [aHR] at Kz
   have key:∃jR:Array Value,jR.size=cur.size/\(match (some ad:Option Addr) with | some a=>(storeCells (a.add (sl*inf.size)) news.toList).run P w=.ok () (w.setRow b jR) | none=>w.setRow b jR=w)/\
     ∀k,jR[k]? =if base+off*inf.size+sl*inf.size<=k/\k<base+off*inf.size+sl*inf.size+m*inf.size then news[k - (base+off*inf.size+sl*inf.size)]? else cur[k]? :=by
    rcases aIL m with h0 | h0
    ·subst h0
     have hn:news=#[]:=aIF aLo
     subst hn
     refine ⟨cur,rfl,?_,λk=>by rw [if_neg aKK]⟩
     show (storeCells (ad.add (sl*inf.size)) []).run P w=.ok () (w.setRow b cur)
     rw [setRow_self w b cur e (0,0) lu]
     rfl
    ·have vH:=vH aKK
     subst vH
     have hmul:(sl+m)*inf.size<=lU*inf.size:=aHO _ qJ
     rw [aHR] at hmul
     have sy:=run_storeCells_at P b (base+off*inf.size+sl*inf.size) e news.toList 0 cur w lu aKT q3
     rw [aIP] at sy
     refine ⟨(cur.toList.take (base+off*inf.size+sl*inf.size)++news.toList++cur.toList.drop (base+off*inf.size+sl*inf.size+news.toList.length)).toArray,?_,?_,λk=>?_⟩
     ·simp;omega
     ·show (storeCells ((⟨b,base+off*inf.size,none⟩:Addr).add (sl*inf.size)) news.toList).run P w=.ok () _
      rw [Addr.add_lit]
      exact sy
     ·have hsp:=tb cur.toList news.toList (base+off*inf.size+sl*inf.size) k aKT
      rw [aJj,hsp]
      simp only [aHZ,aIA,q1]
   obtain ⟨jR,c1,c2,c3⟩:=key
   have hr:=kY (P:=P) (w:=w) t tx ty e inf d hu uo hd lr (some ad) sl lU (a.eval x) m news (w.setRow b jR) r1 r2 qJ c2
   have hmul:(sl+m)*inf.size<=lU*inf.size:=aHO _ qJ
   rw [aHR] at hmul
   have nr:=Fp (w1:=w.setRow b jR) hc id kZ mJ g2 inf.size n2 ad4 q2 Kw sl g (g+1) inf.size n (sl+m) e f (λi=>bif Nat.blt i sl then f (off+i) else q2 (xm+(i - sl))) hh b (base+off*inf.size) jR aKK (λhe=>absurd he aKK)
    (.inr ⟨base,cur,hC,lu,c1.symm⟩) (setRow_heap w b cur _ e _ lu) (by rw [c1,aHR];omega) (λb' _ mJ=>setRow_other w b b' _ mJ) aKN rfl rfl rfl Sm JG
    (λi j pv hi hj=>by
     have K0:j<inf.size:=by rw [<-Sm i hi];exact (An.1 hj).1
     rw [c3]
     by_cases ru:i<sl
     ·have hbl:Nat.blt i sl=true:=by simpa using ru
      rw [hbl] at hj
      simp only [cond_true] at hj
      have nB:(i+1)*inf.size<=sl*inf.size:=aHO _ ru
      rw [aHR] at nB
      rw [if_neg aKK]
      obtain ⟨u,p1,p2⟩:=jS (off+i) j pv aKK hj
      refine ⟨u,?_,p2⟩
      rw [<-p1]
      congr 1
      rw [aHR]
      omega
     ·have hbl:Nat.blt i sl=false:=by
       cases hh':Nat.blt i sl with
       | true=>exact (ru (by simpa using hh')).elim
       | false=>rfl
      rw [hbl] at hj
      simp only [cond_false] at hj
      have e1:i*inf.size=sl*inf.size+(i - sl)*inf.size:=by rw [<-aHR];congr 1;omega
      have e2:(i - sl+1)*inf.size<=m*inf.size:=aHO _ aKK
      rw [aHR] at e2
      rw [if_pos aKK]
      obtain ⟨u,p1,p2⟩:=q2c (i - sl) j pv aKK hj
      exact ⟨u,by rw [<-p1];congr 1;omega,p2⟩) off xm (hjo aKK)
   obtain ⟨jG,qI⟩:=nr
   refine fG.gQ (jJ C4 rfl hr) hK ?_ qI jG
   show bC _ _ _ _ _ _ _ _
   unfold bC
   rw [aId mJ,aIx hid]
   refine ⟨⟨_,_,_,rfl⟩,No _,λ_=>⟨by omega,?_⟩⟩
   rw [bB]
   refine ⟨ad,lU,rfl,qJ,λhc0=>?_,jR,e,_,setRow_heap w b cur _ e _ lu,?_⟩
   ·rw [vH hc0,Nat.zero_mul,aIP]
   ·rw [c1,aHJ];omega
 ·-- it grows
  obtain ⟨r1,_⟩:=q4 w (cD.refl w)
  obtain ⟨_,r2⟩:=q4 w.drew (cD.drew w)
  obtain ⟨_,s2⟩:=o4 w.drew (cD.drew w)
  rw [C4] at s2
  have hr:=ph (P:=P) (w:=w) t tx ty e inf zv d hu uo hd lr hz sa sl lU (a.eval x) m wc news r1 s2 r2 aKK hbp hb
  have Pw:=grownCap_ge w (sl+m) lU e
  have nr:=Fp (w1:=w.drew.alloc (.cells (wc++news++Builtin.zeroCells zv.cells (grownCap w (sl+m) lU e - (sl+m))) e)) hc id kZ mJ g2 inf.size n2 ad4 q2 Kw sl g (g+1) inf.size n (sl+m) e f (λi=>bif Nat.blt i sl then f (off+i) else q2 (xm+(i - sl))) hh
   w.heap.size 0 (wc++news++Builtin.zeroCells zv.cells (grownCap w (sl+m) lU e - (sl+m))) aKK (λhe=>absurd he aKK) (.inl (No _)) (heap_alloc_new w.drew _)
   (by simp only [aJh,o1,q1,aHR];omega) (λb bg _=>heap_alloc_old w.drew _ bg) aKN rfl rfl rfl Sm JG
   (λi j pv hi hj=>by
    rw [aHJ]
    exact C3 o1 q1 o2 q2c hl1 DS i j pv hi hj) off xm (hjo aKK)
  obtain ⟨jG,qI⟩:=nr
  refine fG.gQ (jJ C4 rfl hr) hK ?_ qI jG
  show bC _ _ _ _ _ _ _ _
  unfold bC
  rw [aId mJ,aIx hid]
  refine ⟨⟨_,_,_,rfl⟩,No _,λ_=>⟨by omega,?_⟩⟩
  rw [bB]
  refine ⟨_,grownCap w (sl+m) lU e,rfl,Pw,λ_=>by simp,_,e,_,heap_alloc_new w.drew _,?_⟩
  simp only [aJh,qk,Si,o1,q1,aHJ]
  have:grownCap w (sl+m) lU e*inf.size=(sl+m)*inf.size+(grownCap w (sl+m) lU e - (sl+m))*inf.size:=by rw [<-aHR];congr 1;omega
  rw [aHR] at this
  omega
theorem G8 (hT:dJ P T) (hc:Core μ h S w) (ht:∀t,bS μ h S w (env t) (a.tmps.getD t undef)) (args:Array Operand) (ts:Array TypeId) (hp:pop P T (.call ⟨.builtin .append,args,ts⟩) env h K):
  fG P ⟨dst,.call ⟨.builtin .append,args,ts⟩,ty,pos,after,guard⟩ a μ h S w K:=by
 obtain ⟨args⟩:=args
 obtain ⟨ts⟩:=ts
 simp only [pop] at hp
 split at hp
 ·rename_i s x t tx
  have hs:=cA ht s
  have hx:=cA ht x
  have main:∀(e sz bytes:Nat) (zero:List PV) (d:TypeDesc),T.get t=.slice e sz bytes zero->P.underlying tx=some d->((∃e',d=.slice e')\/d=.string)->NJ e sz bytes (ev env s) (ev env x) h K->
    fG P ⟨dst,.call ⟨.builtin .append,#[s,x],#[t,tx]⟩,ty,pos,after,guard⟩ a μ h S w K:=by
   intro e sz bytes zero d gH hxu hd hp
   have gK:=(hT.slice _ _ _ _ _ gH).2.1
   cases hp with
   | move hp=>
    unfold KA at hp
    split at hp
    ·rename_i kZ Z7 m hes hex
     rw [hes] at hs
     rw [hex] at hx
     split at hp
     ·rename_i g' lG n2 e' q hg
      obtain ⟨rfl,hp⟩:=hp
      replace hp:=bI hp
      obtain ⟨yL,hb,hK⟩:=hp
      obtain rfl:=Of yL
      have Kw:=ez hg
      have alE:kZ<h.length:=(An.1 Kw).1
      have we:=n8 (P:=P) hc kZ g' 0 m sz n2 e' q Kw _ hx gK
      have El:0+m<=n2:=by
       have hr:=hx.om
       unfold bC at hr
       rw [Kw] at hr
       exact (hr.2.2 rfl).1
      obtain ⟨fr1,c1⟩:=oN (w1:=w) hc sz 0 e (λ_=>[]) none rfl (cD.refl w) (λi hi=>absurd hi (aIs _)) (λi j pv hi=>absurd hi (aIs _))
      have hN:(h++[ak.row 0 sz 0 e (λ_=>[])])[h.length]? =some (.row 0 sz 0 e (λ_=>[])):=by simp
      have aA4:(h++[ak.row 0 sz 0 e (λ_=>[])])[kZ]? =some (.row g' sz n2 e' q):=by rw [aIk alE];exact Kw
      have C4:bS (nF μ h.length none) (h++[ak.row 0 sz 0 e (λ_=>[])]) S w (.own h.length 0 0 0) (a.eval s):=by
       rw [hs.p9]
       show bC _ _ w h.length 0 0 0 _
       unfold bC
       rw [hN,bB]
       exact ⟨⟨_,_,_,rfl⟩,No _,λ_=>⟨No _,rfl⟩⟩
      have hxv:=bS.fr fr1 hc.ok hx
      have aA5:=n8 (P:=P) c1 kZ g' 0 m sz n2 e' q aA4 _ hxv gK
      have key:=Ad (dst:=dst) (pos:=pos) (after:=after) (guard:=guard) (ty:=ty) (K:=K) hT c1 t tx e sz bytes zero d gH hxu hd s x h.length 0 0 0 0 (λ_=>[]) hN C4 kZ aKK g' n2 e' q 0 m aA4 El aA5 (by rw [aHJ];exact hb) (by
       have e1:(λi=>bif Nat.blt i 0 then ([]:List PV) else q (0+(i - 0)))=q:=by funext i;rw [aHJ];rfl
       rw [e1,aHJ m];exact hK)
      exact fG.ad3 fr1 hc.ok key
     ·exact aKm
    ·rename_i id gen len kZ Z7 m hes hex
     rw [hes] at hs
     rw [hex] at hx
     split at hp
     ·rename_i g cr n e' f hg
      split at hp
      ·rename_i g' lG n2 e2 q hg2
       obtain ⟨rfl,rfl,hp⟩:=hp
       replace hp:=bI hp
       obtain ⟨yL,hb,hK⟩:=hp
       simp only [As,aIt] at yL
       obtain ⟨h1,h2,h3,h4⟩:=yL
       obtain rfl:=Of h1
       obtain rfl:=Of h2
       obtain rfl:=Of h3
       have mJ:kZ≠id:=Nat.ne_of_beq_eq_false h4
       have Kw:=ez hg2
       have El:0+m<=n2:=by
        have hr:=hx.om
        unfold bC at hr
        rw [Kw] at hr
        exact (hr.2.2 rfl).1
       have we:=n8 (P:=P) hc kZ g' 0 m sz n2 e2 q Kw _ hx gK
       refine Ad hT hc t tx e sz bytes zero d gH hxu hd s x id g 0 len n f (ez hg) hs kZ mJ g' n2 e2 q 0 m Kw El we hb ?_
       have e1:(λi=>bif Nat.blt i len then f (0+i) else q (0+(i - len)))=Mo f len q:=by funext i;rw [aHJ,aHJ];rfl
       rw [e1];exact hK
      ·exact aKm
     ·exact aKm
    ·exact aKm
   | fx hp=>
   unfold vJ at hp
   split at hp
   ·rename_i hes
    rw [hes] at hs
    obtain ⟨_,g,⟨hb,m,f',rfl,A9,hK⟩,we,hgo⟩:=zw (P:=P) hc _ _ hx sz gK _ hp
    exact fG.rows (Ky hT hc t tx e sz bytes zero d gH hxu hd s x hs.p9 m g we hgo hb ⟨_,eO.snoc _ _ _ _ _ _ _ A9,hK⟩)
   ·rename_i id gen off len hes
    rw [hes] at hs
    split at hp
    ·rename_i g cr n e' f hg
     obtain ⟨rfl,hp⟩:=hp
     replace hp:=bI hp
     obtain ⟨yL,hp⟩:=hp
     simp only [As] at yL
     obtain rfl:=Of yL.1
     obtain rfl:=Of yL.2
     obtain ⟨m,q,⟨hb,n',f',rfl,A9,hK⟩,we,hqo⟩:=zw (P:=P) hc _ _ hx sz gK _ hp
     exact fG.rows (NI hT hc t tx e sz bytes zero d gH hxu hd s x id g off len n f (ez hg) hs m q we hqo hb ⟨_,eO.set _ _ _ _ _ _ _ _ A9,hK⟩)
    ·exact aKm
   ·exact aKm
  split at hp
  ·rename_i e sz bytes zero e' cr alF aA6 gH htx
   exact main e sz bytes zero _ gH (hT.slice _ _ _ _ _ htx).1 (.inl ⟨_,rfl⟩) hp
  ·rename_i e sz bytes zero gH htx
   exact main e sz bytes zero _ gH (hT.str _ htx) (.inr rfl) hp
  ·exact aKm
 ·exact aKm
theorem bS.ad5 {pv:PV} {v:Value} (hr:jF μ h S w pv v):bS μ h S w pv v:=by
 cases pv with
 | fv ps=>exact (show False from hr).elim
 | _=>exact hr
theorem NK (hc:Core μ h S w) (ht:∀t,bS μ h S w (env t) (a.tmps.getD t undef)) (fo:Operand) (args:Array Operand) (ts:Array TypeId) (hp:pop P T (.call ⟨.value fo,args,ts⟩) env h K):
  fG P ⟨dst,.call ⟨.value fo,args,ts⟩,ty,pos,after,guard⟩ a μ h S w K:=by
 have M5:=cA ht fo
 simp only [pop] at hp
 split at hp
 ·rename_i f hef
  rw [hef] at M5
  replace hp:=bI hp
  obtain ⟨hnt,R,⟨⟨fn,c,hfn,KB,yn⟩,hA⟩,hK⟩:=hp
  simp only [aHH] at hnt
  have KC:=hA w (args.map a.eval) μ S hc.heap hc.ok aKN (λj pv hj=>by
   rw [aIb] at hj
   cases hx:args.toList[j]? with
   | none=>rw [hx] at hj;cases hj
   | some x=>
    rw [hx] at hj
    injection hj with hj
    subst hj
    refine ⟨a.eval x,by rw [aJo];simp only [aHZ] at hx;rw [hx];rfl,?_⟩
    have hv:=cA ht x
    have mJ:=hnt x (aHU hx)
    cases he:ev env x with
    | fv ps=>rw [he] at mJ;cases mJ
    | _=>rw [he] at hv;exact hv)
  intro next Q hn
  have lS:(execOp a.eval ⟨dst,.call ⟨.value fo,args,ts⟩,ty,pos,after,guard⟩).run P w=.ok (.enter f (args.map a.eval)) w:=by
   simp only [execOp,resolve,M5.Zb,Deferred.ofValue,invoke,callFunc,Sem.run_bind,Sem.run_pure,Result.andThen_ok,Array.append_empty,aJp]
   have C5:¬fn.name= "runtime.NumGoroutine" :=by simpa using yn
   simp [program,Sem.run,Result.andThen,hfn,C5,KB]
  unfold Oper.wp
  rw [lS]
  show Calls P f (args.map a.eval) w _
  refine KC.mono λe w' ⟨v,res,h',μ',S',he,hR,hv,hH,hM,hF⟩=>?_
  subst he
  exact hn res v h' μ' S' w' (hK res h' hR) hv ⟨hH,hM⟩ hF
 ·rename_i f cH hef
  rw [hef] at M5
  replace hp:=bI hp
  obtain ⟨hnt,R,⟨⟨fn,c,hfn,KB,yn⟩,hA⟩,hK⟩:=hp
  simp only [aHH] at hnt
  obtain ⟨vs,hvf,hvl,hvc⟩:=(show pc μ h w f cH (a.eval fo) from M5)
  have KC:=hA w (args.map a.eval++vs) μ S hc.heap hc.ok (by simp [hvl]) (λj pv hj=>by
   by_cases bg:j<args.size
   ·rw [aIk (by simpa using bg),aIb] at hj
    cases hx:args.toList[j]? with
    | none=>rw [hx] at hj;cases hj
    | some x=>
     rw [hx] at hj
     injection hj with hj
     subst hj
     refine ⟨a.eval x,by rw [aID (by simpa using bg),aJo];simp only [aHZ] at hx;rw [hx];rfl,?_⟩
     have hv:=cA ht x
     have mJ:=hnt x (aHU hx)
     cases he:ev env x with
     | fv ps=>rw [he] at mJ;cases mJ
     | _=>rw [he] at hv;exact hv
   ·rw [aIc (by simpa using Nat.le_of_not_lt bg),aIb] at hj
    simp only [aJm,aIA] at hj
    cases hx:cH[j - args.size]? with
    | none=>rw [hx] at hj;cases hj
    | some p=>
     rw [hx] at hj
     injection hj with hj
     subst hj
     obtain ⟨u,q1,q2⟩:=hvc _ p hx
     exact ⟨u,by rw [Array.getElem?_append_right (by simpa using Nat.le_of_not_lt bg)];simpa using q1,q2⟩)
  intro next Q hn
  have lS:(execOp a.eval ⟨dst,.call ⟨.value fo,args,ts⟩,ty,pos,after,guard⟩).run P w=.ok (.enter f (args.map a.eval++vs)) w:=by
   simp only [execOp,resolve,hvf,Deferred.ofValue,invoke,callFunc,Sem.run_bind,Sem.run_pure,Result.andThen_ok,aJp]
   have C5:¬fn.name= "runtime.NumGoroutine" :=by simpa using yn
   simp [program,Sem.run,Result.andThen,hfn,C5,KB]
  unfold Oper.wp
  rw [lS]
  show Calls P f (args.map a.eval++vs) w _
  refine KC.mono λe w' ⟨v,res,h',μ',S',he,hR,hv,hH,hM,hF⟩=>?_
  subst he
  exact hn res v h' μ' S' w' (hK res h' hR) hv ⟨hH,hM⟩ hF
 ·exact aKm
theorem yp:∀(z xs ys:List PV) (b:Bool),Fb z xs ys=some b->b=true->∀(j:Nat) (p q:PV),xs[j]? =some p->ys[j]? =some q->p=q/\((∃k n,p=.int k n)\/(∃b,p=.bool b)\/∃s,p=.str s)
 | z,xs,ys,b,hk,hb,j,p,q,hp,hq=>by
  subst hb
  unfold Fb at hk
  split at hk
  ·simp at hp
  ·obtain ⟨hg,c,hc,e⟩:=dc hk
   simp only [As] at hg
   obtain rfl:=fD hg.1
   obtain rfl:=fD hg.2
   have e:=e.symm
   simp only [As,beq_iff_eq] at e
   obtain ⟨rfl,rfl⟩:=e
   cases j with
   | zero=>simp at hp hq;subst hp;subst hq;exact ⟨rfl,.inl ⟨_,_,rfl⟩⟩
   | succ j=>exact yp _ _ _ _ hc rfl j p q (by simpa using hp) (by simpa using hq)
  ·obtain ⟨hg,c,hc,e⟩:=dc hk
   have e:=e.symm
   simp only [As,beq_iff_eq] at e
   obtain ⟨rfl,rfl⟩:=e
   cases j with
   | zero=>simp at hp hq;subst hp;subst hq;exact ⟨rfl,.inr (.inl ⟨_,rfl⟩)⟩
   | succ j=>exact yp _ _ _ _ hc rfl j p q (by simpa using hp) (by simpa using hq)
  ·obtain ⟨hg,c,hc,e⟩:=dc hk
   have e:=e.symm
   simp only [As,beq_iff_eq] at e
   obtain ⟨rfl,rfl⟩:=e
   cases j with
   | zero=>simp at hp hq;subst hp;subst hq;exact ⟨rfl,.inr (.inr ⟨_,rfl⟩)⟩
   | succ j=>exact yp _ _ _ _ hc rfl j p q (by simpa using hp) (by simpa using hq)
  ·cases hk
theorem yq:∀(z xs ys:List PV) (b:Bool),Fb z xs ys=some b->ys.length=xs.length
 | z,xs,ys,b,hk=>by
  unfold Fb at hk
  split at hk
  ·rfl
  ·obtain ⟨_,c,hc,_⟩:=dc hk
   simp [yq _ _ _ c hc]
  ·obtain ⟨_,c,hc,_⟩:=dc hk
   simp [yq _ _ _ c hc]
  ·obtain ⟨_,c,hc,_⟩:=dc hk
   simp [yq _ _ _ c hc]
  ·cases hk
theorem NL (s:List UInt8):((ByteArray.mk ⟨s⟩)==(ByteArray.mk ⟨s⟩))=true:=by
 show ((Array.mk s)==(Array.mk s))=true
 simp
theorem zy (n:Nat) {p:PV} {u v:Value} (hp:(∃k n,p=.int k n)\/(∃b,p=.bool b)\/∃s,p=.str s) (hu:tL p u) (hv:cz μ h S w p v):Instr.sameBits n u v=true:=by
 rcases hp with ⟨k,m,rfl⟩ | ⟨b,rfl⟩ | ⟨s,rfl⟩
 ·have hu:u=_:=hu
  have hv:aY S w (.int k m) v:=hv
  cases hv;subst hu
  cases n<;>simp [Instr.sameBits]
 ·have hu:u=_:=hu
  have hv:aY S w (.bool b) v:=hv
  cases hv;subst hu
  cases n<;>simp [Instr.sameBits]
 ·have hu:u=_:=hu
  have hv:aY S w (.str s) v:=hv
  cases hv;subst hu
  cases n<;>simp [Instr.sameBits,NL]
theorem Z8 {ti:TI} {kv kp:PV} {key ek:Value} (hkv:bS μ h S w kv key) (hs:qZ kp ek) (hq:nE ti kv kp=some true):Instr.sameBits 10000 ek key=true:=by
 unfold nE at hq
 split at hq
 ·obtain ⟨hg,c,hc,e⟩:=dc hq
  simp only [As] at hg
  obtain rfl:=fD hg.1
  obtain rfl:=fD hg.2
  have e:=e.symm
  simp only [As,beq_iff_eq] at e
  obtain ⟨rfl,_⟩:=e
  exact zy (μ:=μ) (h:=h) (S:=S) (w:=w) 10000 (.inl ⟨_,_,rfl⟩) hs hkv
 ·have hq:=aIv hq
  rw [beq_iff_eq] at hq
  subst hq
  exact zy (μ:=μ) (h:=h) (S:=S) (w:=w) 10000 (.inr (.inr ⟨_,rfl⟩)) hs hkv
 ·split at hq
  ·rename_i z xs ys _ _
   obtain ⟨vxs,rfl,x1,x2⟩:=(show jF μ h S w (.agg xs) key from hkv)
   obtain ⟨vys,rfl,y1,y2⟩:=(show ∃vs:Array Value,ek=.agg vs/\vs.size=ys.length/\∀(j:Nat) (pv:PV),ys[j]? =some pv->∃u:Value,vs[j]? =some u/\tL pv u from hs)
   have hl:=yq _ _ _ _ hq
   rw [show 10000=9999+1 from rfl,Instr.sameBits]
   rw [As]
   refine ⟨by rw [beq_iff_eq,x1,y1,hl],aHH.2 (λp hp=>?_)⟩
   obtain ⟨j,hj,rfl⟩:=aJc.1 hp
   have yK:=hj
   rw [List.length_zip,aIA,aIA] at yK
   have hjx:j<xs.length:=by omega
   have hjy:j<ys.length:=by omega
   obtain ⟨e1,e2⟩:=yp _ _ _ _ hq rfl j _ _ (abF hjx) (abF hjy)
   obtain ⟨u,hu,Pt⟩:=y2 j _ (abF hjy)
   obtain ⟨v,hv,rA⟩:=x2 j _ (abF hjx)
   rw [<-e1] at Pt
   have:=zy 9999 e2 Pt rA
   rw [List.getElem_zip]
   simp only [Array.getElem_toList]
   have h1:vys[j]'aKK=u:=by rw [aIa aKK] at hu;exact aIv hu
   have h2:vxs[j]'aKK=v:=by rw [aIa aKK] at hv;exact aIv hv
   rw [h1,h2]
   exact this
  ·cases hq
 ·cases hq
theorem Z9 {w1:World} (hc:Core μ h S w) (id g sz n n1:Nat) (e:TypeId) (f f1:Nat->List PV) (hh:h[id]? =some (ak.row g sz n e f)) (b base:Nat) (es:Array MapEntry) (c:Nat) (hC:μ id=some (b,base))
  (hb:w.heap[b]? =some (.map es c)) (es1:Array MapEntry) (c1:Nat) (hw:w1.heap[b]? =some (.map es1 c1)) (gO:∀b',b'≠b->w1.heap[b']? =w.heap[b']?) (tN:w1.heap.size=w.heap.size) (hos:w1.os=w.os)
  (JR:w1.tape=w.tape) (Nc:w1.output=w.output) (hl:∀i,i<n1->(f1 i).length=sz)
  (hr:es1.size=n1/\∀i,i<n1->∃(kp vp:PV) (en:MapEntry),f1 i=[kp,vp]/\ko kp=true/\ko vp=true/\es1[i]? =some en/\qZ kp en.key/\qZ vp en.val):
  Fr μ h S w μ (h.set id (.row (g+1) sz n1 e f1)) S w1/\Core μ (h.set id (.row (g+1) sz n1 e f1)) S w1:=by
 have hid:id<h.length:=(An.1 hh).1
 have gP:(h.set id (ak.row (g+1) sz n1 e f1))[id]? =some (ak.row (g+1) sz n1 e f1):=by simp [hid]
 have cM:∀j,j≠id->(h.set id (ak.row (g+1) sz n1 e f1))[j]? =h[j]? :=λj hj=>by rw [aId (aIT hj)]
 have hvb:CG μ h b:=⟨id,g,sz,n,e,f,base,hh,hC⟩
 have yM:di μ h b:=.inl hvb
 have xl:∀b',CG μ (h.set id (ak.row (g+1) sz n1 e f1)) b'->CG μ h b':=λb' nA=>by
  obtain ⟨j,gj,k9,nj,ej,fj,nG,hj,hm⟩:=nA
  by_cases fF:j=id
  ·subst fF;exact ⟨j,g,sz,n,e,f,nG,hh,hm⟩
  ·rw [cM j fF] at hj;exact ⟨j,gj,k9,nj,ej,fj,nG,hj,hm⟩
 have n9:∀j x y b,dU (h.set id (ak.row (g+1) sz n1 e f1)) j x y b->dU h j x y b:=λj x y b ⟨gj,k9,nj,ej,fj,cr,n',e',f',F',q1,q2,q3,q4⟩=>by
  by_cases fF:j=id
  ·subst fF
   rw [gP] at q1
   injection q1 with q1
   injection q1 with e1 e2 e3 e4 e5
   subst e3 e5
   obtain ⟨kp,vp,en,r1,r2,r3,_⟩:=hr.2 x q2
   rw [r1] at q3
   match y,q3 with
   | 0,q3=>simp at q3;rw [q3] at r2;cases r2
   | 1,q3=>simp at q3;rw [q3] at r3;cases r3
   | y+2,q3=>simp at q3
  ·rw [cM j fF] at q1
   exact aKG
 have lE:∀b',di μ (h.set id (ak.row (g+1) sz n1 e f1)) b'->di μ h b':=λb' nA=>by
  rcases nA with nA | ⟨x,y,z,nA⟩
  ·exact .inl (xl _ nA)
  ·exact .inr ⟨x,y,z,n9 _ _ _ _ nA⟩
 have rZ:∀j x y b',dU h j x y b'->w1.heap[b']? =w.heap[b']? :=λj x y b' hx=>gO b' (by
  rintro rfl
  exact hc.ok.hv b' hvb j x y hx)
 have jG:Fr μ h S w μ (h.set id (.row (g+1) sz n1 e f1)) S w1:=by
  refine ⟨by simp,λb' _ xB=>gO b' (λhe=>xB (he▸yM)),λ_ hb=>hb,λ_ hb=>.inl hb,λb' nA=>.inl (lE b' nA),by omega,hos,JR,Nc,λj gj k9 nj ej fj hj=>?_,λj hj=>?_,λb' k _ fY=>?_,λj gj k9 nj ej fj b' oM hj hm mu=>?_,λb' j x y hx mu=>let ⟨es2,c2,q⟩:=mu;⟨es2,c2,(rZ j x y b' hx).trans q⟩⟩
  ·by_cases fF:j=id
   ·subst fF
    rw [hh] at hj
    injection hj with hj
    injection hj with e1 e2 e3 e4 e5
    subst e1 e2 e3 e4 e5
    rw [gP]
    exact ⟨by omega,λhe=>absurd he aKK⟩
   ·rw [cM j fF,hj]
    exact aKF
  ·have fF:j≠id:=by rintro rfl;rw [hh] at hj;cases hj
   rw [cM j fF];exact hj
  ·have mJ:b'≠b:=by
    rintro rfl
    exact fY.CF ⟨es,c,hb⟩
   exact kq.of_same (gO b' mJ) fY
  ·have hex:∃g' cr n' e' f',(h.set id (ak.row (g+1) sz n1 e f1))[j]? =some (ak.row g' cr n' e' f'):=by
    by_cases fF:j=id
    ·subst fF;exact ⟨_,_,_,_,_,gP⟩
    ·exact ⟨_,_,_,_,_,(cM j fF).trans hj⟩
   refine ⟨?_,.inr ⟨hex,hm⟩⟩
   by_cases A7:b'=b
   ·subst A7;exact ⟨es1,c1,hw⟩
   ·obtain ⟨es2,c2,q⟩:=mu
    exact ⟨es2,c2,(gO b' A7).trans q⟩
 refine ⟨jG,⟨λj gj k9 nj ej fj hj=>?_,⟨λb hb=>hc.ok.apart b (lE b hb),λb hb=>by rw [tN];exact hc.ok.lt b (lE b hb),λb hb=>by rw [tN];exact hc.ok.slt b hb,?_,hc.ok.zk jG,λb hb x y z hx=>hc.ok.hv b (xl b hb) x y z (n9 _ _ _ _ hx),λb _ _ _ _ _ _ hx hy=>hc.ok.hh b _ _ _ _ _ _ (n9 _ _ _ _ hx) (n9 _ _ _ _ hy)⟩⟩⟩
 ·by_cases fF:j=id
  ·subst fF
   rw [gP] at hj
   injection hj with hj
   injection hj with e1 e2 e3 e4 e5
   subst e1 e2 e3 e4 e5
   refine ⟨hl,?_⟩
   rw [hC]
   exact ⟨_,hw,hr⟩
  ·rw [cM j fF] at hj
   obtain ⟨h1,h2⟩:=hc.heap j gj k9 nj ej fj hj
   refine ⟨h1,?_⟩
   cases hm:μ j with
   | none=>rw [hm] at h2;exact h2
   | some p=>
    obtain ⟨b',oM⟩:=p
    rw [hm] at h2
    obtain ⟨o,q1,q2⟩:=h2
    have A7:b'≠b:=by
     rintro rfl
     exact fF (hc.ok.inj j id _ _ _ _ _ _ _ _ _ _ _ _ _ hj hh hm hC)
    exact ⟨o,(gO b' A7).trans q1,q2.mono (λi y pv v hi hy hr=>hr.fr jG hc.ok (λcr n' e' f' F' he b2 sC=>rZ j i y b2 ⟨_,_,_,_,_,_,_,_,_,_,hj,hi,he▸hy,sC⟩))⟩
 ·intro i j gi Rr ni ei fi gj k9 nj ej fj b' o o' hi hj nB mF
  have back:∀k gk szk nk ek fk,(h.set id (ak.row (g+1) sz n1 e f1))[k]? =some (ak.row gk szk nk ek fk)->∃g' cr n' e' f',h[k]? =some (ak.row g' cr n' e' f'):=λk gk szk nk ek fk hk=>by
   by_cases xf:k=id
   ·subst xf;exact ⟨_,_,_,_,_,hh⟩
   ·rw [cM k xf] at hk;exact ⟨_,_,_,_,_,hk⟩
  obtain ⟨_,_,_,_,_,h1⟩:=back _ _ _ _ _ _ hi
  obtain ⟨_,_,_,_,_,h2⟩:=back _ _ _ _ _ _ hj
  exact hc.ok.inj i j _ _ _ _ _ _ _ _ _ _ _ _ _ h1 h2 nB mF
theorem RP {w1:World} (hc:Core μ h S w) (ha:cD w w1) (b:Nat) (hb:w.heap.size<=b) (lA:b<w1.heap.size):Fr μ h S w μ h (λx=>S x\/x=b) w1/\Core μ h (λx=>S x\/x=b) w1:=by
 have jG:Fr μ h S w μ h (λx=>S x\/x=b) w1:=by
  refine ⟨No _,λb' nA _=>ha.blocks b' nA,λ_ hs=>.inl hs,λb' nA=>?_,λ_ ho=>.inl ho,ha.size,ha.os,ha.tape,ha.output,λj gj k9 nj ej fj hj=>?_,λ_ hd=>hd,λb' k ho fY=>?_,λj gj k9 nj ej fj b' oM hj hm mu=>?_,λb' j x y hx mu=>let ⟨es2,c2,q⟩:=mu;⟨es2,c2,(ha.blocks b' (hc.ok.lt b' (.inr ⟨j,x,y,hx⟩))).trans q⟩⟩
  ·rcases nA with nA | rfl
   ·exact .inl nA
   ·exact .inr (.inr hb)
  ·rw [hj];exact ⟨No _,λ_=>⟨rfl,rfl,rfl,rfl⟩⟩
  ·exact kq.of_same (ha.blocks b' (hc.ok.lt b' ho)) fY
  ·obtain ⟨es,c,q⟩:=mu
   exact ⟨⟨es,c,(ha.blocks b' (hc.ok.lt b' (.inl ⟨_,_,_,_,_,_,_,hj,hm⟩))).trans q⟩,.inr ⟨⟨_,_,_,_,_,hj⟩,hm⟩⟩
 refine ⟨jG,⟨λj gj k9 nj ej fj hj=>?_,⟨λb' ho hs=>?_,λb' ho=>aHX (hc.ok.lt b' ho) ha.size,λb' hs=>?_,hc.ok.inj,hc.ok.zk jG,hc.ok.hv,hc.ok.hh⟩⟩⟩
 ·obtain ⟨h1,h2⟩:=hc.heap j gj k9 nj ej fj hj
  refine ⟨h1,?_⟩
  cases hm:μ j with
  | none=>rw [hm] at h2;exact h2
  | some p=>
   obtain ⟨b',oM⟩:=p
   rw [hm] at h2
   obtain ⟨o,q1,q2⟩:=h2
   exact ⟨o,(ha.blocks b' (hc.ok.lt b' (.inl ⟨_,_,_,_,_,_,_,hj,hm⟩))).trans q1,q2.mono (λi y pv v hi hy hr=>hr.fr jG hc.ok (λcr n' e' f' F' he b2 sC=>ha.blocks b2 (hc.ok.lt b2 (.inr ⟨j,i,y,_,_,_,_,_,_,_,_,_,_,hj,hi,he▸hy,sC⟩))))⟩
 ·rcases hs with hs | rfl
  ·exact hc.ok.apart b' ho hs
  ·exact absurd (hc.ok.lt b' ho) aKK
 ·rcases hs with hs | rfl
  ·exact aHX (hc.ok.slt b' hs) ha.size
  ·exact lA
theorem C6 (hT:dJ P T) (hc:Core μ h S w) (ht:∀t,bS μ h S w (env t) (a.tmps.getD t undef)) (s d:Nat) (x:Operand) (hp:pop P T (.convert s d x) env h K):fG P ⟨dst,.convert s d x,ty,pos,after,guard⟩ a μ h S w K:=by
 simp only [pop] at hp
 split at hp
 ·rename_i e sz Za z b hs hd hx
  split at hp
  ·rename_i he
   obtain ⟨f',A9,hK⟩:=hp
   have hv:=cA ht x
   rw [hx] at hv
   have lS:=Lib.run_convert_string_bytes (P:=P) w s d e ⟨⟨b⟩⟩ (hT.str _ hs) (hT.slice _ _ _ _ _ hd).1 (hT.int _ _ he)
   have hag:cD w (Lib.bytesWorld w e ⟨⟨b⟩⟩):=by
    have:=Lib.bytesWorld_below w e ⟨⟨b⟩⟩
    exact ⟨this.block,this.size,this.os,this.tape,this.output⟩
   obtain ⟨jG,qI⟩:=RP hc hag w.heap.size (No _) (by rw [Lib.bytesWorld_size];omega)
   refine fG.gQ (val:=.slice (some ⟨w.heap.size,0,none⟩) b.length (grownCap w b.length 0 e)) (dN rfl ?_) hK ?_ qI jG
   ·rw [hv.nh]
    exact lS
   ·show aY _ _ (.ig 1 b.length f') _
    refine .ig 1 b.length f' w.heap.size 0 _ (λi _=>.int .u8 (b.getD i 0).toNat) (.inr rfl) (λi hi=>by rw [A9 i hi];rfl) ?_ (λi j pv hi hj=>?_) (λi j pv hi hj=>?_)
    ·have:=grownCap_ge w b.length 0 e;omega
    ·rw [A9 i hi] at hj
     have th:j=0:=by
      have:=(An.1 hj).1
      simpa using this
     subst th
     have:=Lib.bytesWorld_cell w e ⟨⟨b⟩⟩ i (by show i<b.length;exact hi)
     rw [show 0+i*1+0=i by omega]
     exact this
    ·rw [A9 i hi] at hj
     have th:j=0:=by
      have:=(An.1 hj).1
      simpa using this
     subst th
     simp at hj
     subst hj
     exact .int _ _
  ·exact aKm
 ·exact .r7 hc (nX hT hc.heap ht hp)
theorem Eo (hT:dJ P T) (hc:Core μ h S w) (t:Nat) (hp:pop P T (.makeMap t none) env h K):fG P ⟨dst,.makeMap t none,ty,pos,after,guard⟩ a μ h S w K:=by
 simp only [pop] at hp
 split at hp
 ·rename_i kt et zv gH
  obtain ⟨f',hK⟩:=hp
  obtain ⟨jG,qI⟩:=Fg (w1:=w.alloc (.map #[] 0)) hc 2 0 t f' (some (w.heap.size,0)) ⟨No _,_,heap_alloc_new w _,rfl,λi hi=>absurd hi (aIs _)⟩ (mv w _) (λi hi=>absurd hi (aIs _)) (λi j pv hi=>absurd hi (aIs _))
  refine fG.gQ (val:=.map (some w.heap.size)) (dN rfl rfl) hK ?_ qI jG
  show gI _ _ _ _ _
  unfold gI
  rw [aIc (No _),aIR]
  exact ⟨⟨_,rfl⟩,w.heap.size,0,bB _ _ _,⟨_,_,heap_alloc_new w _⟩,rfl⟩
 ·exact aKm
theorem yr:∀(z xs ys:List PV) (b:Bool),Fb z xs ys=some b->xs.all u5=true/\xs.all mr=true
 | z,xs,ys,b,hk=>by
  unfold Fb at hk
  split at hk
  ·exact ⟨rfl,rfl⟩
  ·obtain ⟨_,c,hc,_⟩:=dc hk
   obtain ⟨h1,h2⟩:=yr _ _ _ c hc
   simp [u5,mr,h1,h2]
  ·obtain ⟨_,c,hc,_⟩:=dc hk
   obtain ⟨h1,h2⟩:=yr _ _ _ c hc
   simp [u5,mr,h1,h2]
  ·obtain ⟨_,c,hc,_⟩:=dc hk
   obtain ⟨h1,h2⟩:=yr _ _ _ c hc
   simp [u5,mr,h1,h2]
  ·cases hk
theorem aaa {ti:TI} {kv kp:PV} {q:Bool} (h0:nE ti kv kp=some q):ko kv=true/\storable kv=true:=by
 unfold nE at h0
 split at h0
 ·exact ⟨rfl,rfl⟩
 ·exact ⟨rfl,rfl⟩
 ·split at h0
  ·exact yr _ _ _ _ h0
  ·cases h0
 ·cases h0
theorem yt {pv:PV} {v:Value} (hs:u5 pv=true) (hj:mr pv=true) (hv:cz μ h S w pv v):tL pv v:=by
 cases pv with
 | int k n=>have hv:aY S w (.int k n) v:=hv;cases hv;rfl
 | bool b=>have hv:aY S w (.bool b) v:=hv;cases hv;rfl
 | str s=>have hv:aY S w (.str s) v:=hv;cases hv;rfl
 | jf=>cases hj
 | _=>cases hs
theorem P3 {pv:PV} {v:Value} (hs:ko pv=true) (hj:storable pv=true) (hv:bS μ h S w pv v):qZ pv v:=by
 cases pv with
 | agg cs=>
  obtain ⟨vs,rfl,h1,h2⟩:=(show jF μ h S w (.agg cs) v from hv)
  refine ⟨vs,rfl,h1,λj pv yK=>?_⟩
  obtain ⟨u,q1,q2⟩:=h2 j pv yK
  have hm:=aHU yK
  exact ⟨u,q1,yt (aHH.1 hs pv hm) (aHH.1 hj pv hm) q2⟩
 | int k n=>exact yt (μ:=μ) (h:=h) (S:=S) (w:=w) (pv:=.int k n) hs hj hv
 | bool b=>exact yt (μ:=μ) (h:=h) (S:=S) (w:=w) (pv:=.bool b) hs hj hv
 | str s=>exact yt (μ:=μ) (h:=h) (S:=S) (w:=w) (pv:=.str s) hs hj hv
 | jf=>cases hj
 | _=>cases hs
theorem G9 {Ni new:Value} {w':World} (h1:Instr.sameBits 10000 Ni new=true):(Instr.keyThatStays Ni new).run P w'=.ok new w':=by
 simp [Instr.keyThatStays,h1]
theorem RQ {w:World} {b:Nat} {o o':Obj} (hb:w.heap[b]? =some o):({w with heap:=w.heap.setIfInBounds b o'}:World).heap[b]? =some o':=by
 have:=(abL.1 hb).1
 simp [this]
theorem NM {w:World} {b b':Nat} {o':Obj} (hb:b'≠b):({w with heap:=w.heap.setIfInBounds b o'}:World).heap[b']? =w.heap[b']? :=by
 simp [Array.getElem?_setIfInBounds,aIT hb]
theorem AQ (hT:dJ P T) (hc:Core μ h S w) (ht:∀t,bS μ h S w (env t) (a.tmps.getD t undef)) (t:Nat) (m k x:Operand) (hp:pop P T (.mapUpdate t m k x) env h K):
  fG P ⟨dst,.mapUpdate t m k x,ty,pos,after,guard⟩ a μ h S w K:=by
 have hm:=cA ht m
 have hk:=cA ht k
 have hx:=cA ht x
 simp only [pop] at hp
 split at hp
 ·rename_i kt et zv id gH hem
  rw [hem] at hm
  split at hp
  ·rename_i g sz n e f Fc
   replace hp:=bI (cK (cK hp))
   obtain ⟨qF,n',f',hup,hK⟩:=hp
   simp only [As] at qF
   obtain ⟨⟨⟨hkk,hvs⟩,aF0⟩,aF1⟩:=qF
   obtain rfl:=(Of aF1)
   obtain ⟨hu,inf,z,lr,hz,gK,hsc,sy⟩:=hT.map _ _ _ _ gH
   have hh:=ez Fc
   obtain ⟨bl,base,es,c,hC,ex,hb,hn,Nb⟩:=Cs hc.heap hh hm.GP
   obtain ⟨q0,h0⟩:=Option.isSome_iff_exists.1 hkk
   obtain ⟨d,s,hd,hck,Zf⟩:=Pu hT hk h0
   obtain ⟨So,aF2⟩:=aaa h0
   have hkr:=P3 So aF2 hk
   have hvr:=P3 hvs aF0 hx
   have yj:∀m,m<=n->JQ (T.get kt) f m (ev env k)->∀j,j<m->∀y:MapEntry,es.toList[j]? =some y->u0 P kt d s (a.eval k) y.key false:=λm hmn hM j hj y hy=>by
    obtain ⟨kp,vp,h1,h2⟩:=hM j hj
    obtain ⟨kp',vp',en,h3,_,_,h4,h5,_⟩:=Nb j aKK
    rw [h1] at h3
    injection h3 with e1 e2
    subst e1
    have:y=en:=by rw [aHZ] at hy;exact aIv (hy.symm.trans h4)
    subst this
    exact Zf kp y.key false h5 h2
   have main:∀(es1:Array MapEntry) (c1:Nat),(Instr.mapUpdate t (.map (some bl)) (a.eval k) (a.eval x)).run P w=.ok () {w with heap:=w.heap.setIfInBounds bl (.map es1 c1)}->
     (es1.size=n'/\∀i,i<n'->∃(kp vp:PV) (en:MapEntry),f' i=[kp,vp]/\ko kp=true/\ko vp=true/\es1[i]? =some en/\qZ kp en.key/\qZ vp en.val)->
     fG P ⟨dst,.mapUpdate t m k x,ty,pos,after,guard⟩ a μ h S w K:=by
    intro es1 c1 lS hr
    obtain ⟨jG,qI⟩:=Z9 (w1:={w with heap:=w.heap.setIfInBounds bl (.map es1 c1)}) hc id g 2 n n' e f f' hh bl base es c hC hb es1 c1 (RQ hb) (λb' nA=>NM nA) aKN rfl rfl rfl
     (λi hi=>by obtain ⟨kp,vp,en,h1,_⟩:=hr.2 i hi;rw [h1];rfl) hr
    refine fG.Py ?_ hK qI jG
    have e1:(execOp a.eval ⟨dst,.mapUpdate t m k x,ty,pos,after,guard⟩)=(do Instr.mapUpdate t (a.eval m) (a.eval k) (a.eval x);pure .skip:Sem Next):=rfl
    rw [e1,ex]
    simp only [Sem.run_bind,lS,Result.andThen,Sem.run_pure]
   rcases hup with ⟨i0,r,⟨hi0,hM,kp0,hf0,hq0⟩,hn1,P4,hf2⟩ | ⟨hM,hn1,P4,hf2⟩
   ·obtain ⟨kp',vp',en,h3,h8,h6,h4,h5,h7⟩:=Nb i0 hi0
    rw [hf0] at h3
    injection h3 with e1 e2
    injection e2 with e2 _
    subst e1 e2
    have CB:=Cv (P:=P) (w':=w) hd es.toList i0 en (yj i0 aKK hM) (by rw [aHZ];exact h4) (Zf kp0 en.key true h5 hq0)
    have aA7:=G9 (P:=P) (w':=w) (Z8 hk h5 hq0)
    refine main (es.modify i0 λe=>{e with key:=a.eval k,val:=a.eval x}) c ?_ ⟨by simp [hn,hn1],λi hi=>?_⟩
    ·simp [Instr.mapUpdate,run_underlying hu,run_getObj_map w bl es c hb,hck,CB,h4,aA7,MapKept.run_setObj_map _ hb]
    ·by_cases Hp:i=i0
     ·subst Hp
      refine ⟨_,_,{en with key:=a.eval k,val:=a.eval x},P4,So,hvs,?_,hkr,hvr⟩
      rw [Array.getElem?_modify,if_pos rfl,h4]
      rfl
     ·obtain ⟨kp1,vp1,en1,g1,g2,g3,g4,g5,g6⟩:=Nb i aKK
      refine ⟨kp1,vp1,en1,by rw [hf2 i aKK Hp,g1],g2,g3,?_,g5,g6⟩
      rw [Array.getElem?_modify,if_neg (aIT Hp),g4]
   ·have CB:=yg (P:=P) (w':=w) hd es.toList (λj y hy=>yj n (No _) hM j (by
      have:=(An.1 hy).1
      rw [<-hn];simpa using this) y hy)
    refine main (es.push {key:=a.eval k,val:=a.eval x,born:=c}) (c+1) ?_ ⟨by simp [hn,hn1],λi hi=>?_⟩
    ·simp [Instr.mapUpdate,run_underlying hu,run_getObj_map w bl es c hb,hck,CB,MapKept.run_setObj_map _ hb]
    ·by_cases Hp:i=n
     ·subst Hp
      refine ⟨_,_,{key:=a.eval k,val:=a.eval x,born:=c},P4,So,hvs,?_,hkr,hvr⟩
      rw [<-hn]
      simp
     ·obtain ⟨kp1,vp1,en1,g1,g2,g3,g4,g5,g6⟩:=Nb i aKK
      refine ⟨kp1,vp1,en1,by rw [hf2 i aKK,g1],g2,g3,?_,g5,g6⟩
      rw [Array.getElem?_push,if_neg aKK,g4]
  ·exact aKm
 ·exact aKm
theorem Ha (hT:dJ P T) (hc:Core μ h S w) (ht:∀t,bS μ h S w (env t) (a.tmps.getD t undef)) (bo:BinOp) (t t':TypeId) (x y:Operand) (hp:pop P T (.binOp bo t x y t') env h K):
  fG P ⟨dst,.binOp bo t x y t',ty,pos,after,guard⟩ a μ h S w K:=by
 simp only [pop] at hp
 split at hp
 ·rename_i e sz Za z cr n f gH hx hy
  obtain ⟨h1,h2⟩:=hp
  have rx:=cA ht x
  have ry:=cA ht y
  rw [hx] at rx
  rw [hy] at ry
  have rx:aY S w (.ig cr n f) (a.eval x):=rx
  have ry:aY S w .cd (a.eval y):=ry
  have ey:a.eval y=.slice none 0 0:=by
   generalize a.eval y=v at ry
   cases ry
   rfl
  obtain ⟨ad,c,ex,hn⟩:∃ad c,a.eval x=.slice ad n c/\(ad=none->n=0):=by
   generalize a.eval x=v at rx
   cases rx with
   | uk _ _ ad c=>exact ⟨ad,c,rfl,λ_=>rfl⟩
   | ig _ _ _ b off c vf _ _ _ _ _=>exact ⟨_,c,rfl,λh0=>by cases h0⟩
  obtain ⟨hu,_⟩:=hT.slice _ _ _ _ _ gH
  have hg:eqGuard .eql t x y (a.eval x) (a.eval y)=pure ():=by rw [ex];apply eqGuard_at_slice
  have hK:K (.bool ad.isNone) h:=by
   cases ad with
   | none=>exact h1 (hn rfl)
   | some _=>exact h2
  refine .r7 hc (.mk (v:=.bool ad.isNone) hK (aY.bool _) λw' _=>zX (Pr hg ?_))
  rw [ex,ey]
  first | exact Lib.run_eql_slice_nil _ _ _ _ _ _ _ _ hu | exact run_eql_slice_nil _ _ _ _ _ _ hu
 ·exact .r7 hc (nX hT hc.heap ht hp)
theorem Hb {i j:Nat} (h:Nat.blt i j=false):j<=i:=by
 rcases aIE i j with hl | hl
 ·have:Nat.blt i j=true:=by simpa using hl
  rw [this] at h;cases h
 ·exact hl
theorem Fq {s x:Operand} {t tx:TypeId} {sv xv v':Value} {w':World} (hs:a.eval s=sv) (hx:a.eval x=xv) (hr:(Builtin.copy_ #[t,tx] ty #[sv,xv]).run P w=.ok v' w'):
  (execOp a.eval ⟨dst,.call ⟨.builtin .copy,#[s,x],#[t,tx]⟩,ty,pos,after,guard⟩).run P w=.ok (.value v') w':=by
 simp only [execOp,resolve,invoke,builtin,Sem.run_bind,Sem.run_pure,Result.andThen_ok,aJu,aHQ,aIr,hs,hx,hr]
theorem KD (t tx ty e:TypeId) (i:TypeInfo) (ht:P.underlying t=some (.slice e)) (hi:P.info? e=some i)
  (sa:Option Addr) (pJ zu:Nat) (xv:Value) (m:Nat) (news:Array Value) (w':World) (hlen:(Builtin.lenOf xv).run P w=.ok m w) (hfc:(Builtin.firstCells i.size m xv).run P w=.ok news w) (hle:m<=pJ)
  (sy:match sa with | some a=>(storeCells a news.toList).run P w=.ok () w' | none=>w'=w):
  (Builtin.copy_ #[t,tx] ty #[.slice sa pJ zu,xv]).run P w=.ok (.int .i64 m) w':=by
 have hm:Nat.min m pJ=m:=Nat.min_eq_left hle
 cases sa with
 | none=>
  have sy:w'=w:=sy
  subst sy
  simp [Builtin.copy_,run_underlying ht,sizeOf,typeInfo,hi,hlen,hm,hfc,goInt]
 | some a=>
  have sy:(storeCells a news.toList).run P w=.ok () w':=sy
  simp [Builtin.copy_,run_underlying ht,sizeOf,typeInfo,hi,hlen,hm,hfc,sy,goInt]
theorem aab (hT:dJ P T) (hc:Core μ h S w) (t tx e sz bytes:Nat) (zero:List PV) (gH:T.get t=.slice e sz bytes zero)
  (s x:Operand) (id g off len n:Nat) (f:Nat->List PV) (hh:h[id]? =some (ak.row g sz n e f)) (hs:bS μ h S w (.own id g off len) (a.eval s)) (m:Nat) (q:Nat->List PV) (we:Src P μ h S w (a.eval x) sz m q) (hqo:∀(i j:Nat) (pv:PV),i<m->(q i)[j]? =some pv->dW pv=false)
  (hb:m<=len) (hK:∃h2,eO (h.set id (.row g sz n e (cpF f off m q))) h2/\K (.int .i64 m) h2):
  fG P ⟨dst,.call ⟨.builtin .copy,#[s,x],#[t,tx]⟩,ty,pos,after,guard⟩ a μ h S w K:=by
 obtain ⟨hu,gK,inf,zv,lr,pH,hib,hz,Si,Ze,Sj⟩:=hT.slice _ _ _ _ _ gH
 subst pH hib
 have hid:id<h.length:=(An.1 hh).1
 obtain ⟨DS,news,q1,q2,q3,q4⟩:=we
 have tr:=hs.om
 unfold bC at tr
 rw [hh] at tr
 obtain ⟨⟨sa,sl,lU,C4⟩,_,tr⟩:=tr
 obtain ⟨hle,tr⟩:=tr rfl
 obtain ⟨hl1,wc,o1,o2,o3,o4⟩:=n8 (P:=P) hc id g off len inf.size n e f hh _ hs gK
 have Ro:sl=len:=by
  obtain ⟨e1,_⟩:=o4 w (cD.refl w)
  rw [C4] at e1
  simp [Builtin.lenOf] at e1
  exact e1
 subst Ro
 obtain ⟨hl,bs⟩:=hc.heap id g _ n e f hh
 obtain ⟨r1,r2⟩:=q4 w (cD.refl w)
 refine fG.rows ?_
 rcases aIL m with h0 | h0
 ·subst h0
  have hn:news=#[]:=aIF aLo
  subst hn
  have hr:=KD (P:=P) (w:=w) t tx ty e inf hu lr sa sl lU (a.eval x) 0 #[] w r1 r2 (aIS _) (by cases sa<;>rfl)
  obtain ⟨h2,he,hK⟩:=hK
  refine fG.gQ (h':=h) (μ':=μ) (S':=S) (Fq C4 rfl hr) ⟨h2,?_,hK⟩ (.int _ _) hc Fr.refl
  have e0:cpF f off 0 q=f:=by
   funext i
   unfold cpF
   cases xB:Nat.blt i off
   ·rfl
   ·rfl
  rw [e0] at he
  have es:h.set id (ak.row g inf.size n e f)=h:=by
   refine List.ext_getElem? λj=>?_
   rw [aJq]
   by_cases hj:id=j
   ·subst hj;rw [if_pos rfl,if_pos hid,hh]
   ·rw [if_neg hj]
  rwa [es] at he
 ·cases hC:μ id with
  | none=>
   rw [hC] at tr
   rw [C4] at tr
   injection tr with e1 e2 e3
   omega
  | some p=>
   obtain ⟨b,base⟩:=p
   rw [hC] at tr bs
   obtain ⟨ad,cap,hv,hlc,vH,fY⟩:=tr
   have JG:∀b base,μ id=some (b,base)->¬qc w b:=λb' oM ad6=>by
    rw [hC] at ad6
    injection ad6 with ad6
    injection ad6 with h1 h2
    subst h1
    exact fY.CF
   rw [C4] at hv
   injection hv with e1 e2 e3
   subst e1 e3
   obtain ⟨cur,lu,um,jS⟩:=cZ.cells fY bs
   have Kz:base+(off+lU)*inf.size<=cur.size:=by
    obtain ⟨zj,e',z',p1,p2⟩:=fY
    rw [lu] at p1
    injection p1 with p1
    injection p1 with p1 _ _
    subst p1
    exact p2
   rw [aHR] at Kz
   have vH:=vH aKK
   subst vH
   have hmul:m*inf.size<=lU*inf.size:=aHO _ aKK
   have sy:=run_storeCells_at P b (base+off*inf.size) e news.toList 0 cur w lu aKT q3
   rw [aIP] at sy
   generalize hc1:(cur.toList.take (base+off*inf.size)++news.toList++cur.toList.drop (base+off*inf.size+news.toList.length)).toArray=jR at sy
   have c1:jR.size=cur.size:=by subst hc1;simp;omega
   have c3:∀k:Nat,jR[k]? =if base+off*inf.size<=k/\k<base+off*inf.size+m*inf.size then news[k - (base+off*inf.size)]? else cur[k]? :=λk=>by
    subst hc1
    have hsp:=tb cur.toList news.toList (base+off*inf.size) k aKT
    rw [aJj,hsp]
    simp only [aHZ,aIA,q1]
   have hr:=KD (P:=P) (w:=w) t tx ty e inf hu lr (some ⟨b,base+off*inf.size,none⟩) sl lU (a.eval x) m news (w.setRow b jR) r1 r2 hb sy
   have Sm:∀i,i<n->(cpF f off m q i).length=inf.size:=λi hi=>by
    unfold cpF
    cases lA:Nat.blt i off
    ·cases sC:Nat.blt i (off+m)
     ·exact hl i hi
     ·have aac:=Hb lA
      have aad:i<off+m:=by simpa using sC
      exact DS _ aKK
    ·exact hl i hi
   have nr:=yk (w1:=w.setRow b jR) hc id g g inf.size n n e f (cpF f off m q) hh b base jR (No _) (λ_=>⟨hC,rfl⟩)
    (.inr ⟨base,cur,hC,lu,c1.symm⟩) (setRow_heap w b cur _ e _ lu) (by rw [c1];exact um) (λb' _ mJ=>setRow_other w b b' _ mJ) aKN rfl rfl rfl Sm JG
    (λi j pv hi hj=>by
     have K0:j<inf.size:=by rw [<-Sm i hi];exact (An.1 hj).1
     rw [c3]
     have e1:i*inf.size+inf.size=(i+1)*inf.size:=by rw [aHR,Nat.one_mul]
     unfold cpF at hj
     cases lA:Nat.blt i off
     ·rw [lA] at hj
      have aac:off<=i:=Hb lA
      have e2:off*inf.size<=i*inf.size:=aHO _ aac
      cases sC:Nat.blt i (off+m)
      ·rw [sC] at hj
       simp only [cond_false] at hj
       have aad:off+m<=i:=Hb sC
       have e3:(off+m)*inf.size<=i*inf.size:=aHO _ aad
       rw [aHR] at e3
       rw [if_neg aKK]
       exact jS i j pv hi hj
      ·rw [sC] at hj
       simp only [cond_false,cond_true] at hj
       have aad:i<off+m:=by simpa using sC
       have e3:(i+1)*inf.size<=(off+m)*inf.size:=aHO _ aad
       have e5:(off+m)*inf.size=off*inf.size+m*inf.size:=aHR _ _ _
       rw [if_pos aKK]
       obtain ⟨u,p1,p2⟩:=q2 (i - off) j pv aKK hj
       refine ⟨u,?_,p2⟩
       rw [<-p1]
       congr 1
       have e4:i*inf.size=off*inf.size+(i - off)*inf.size:=by rw [<-aHR];congr 1;omega
       omega
     ·rw [lA] at hj
      simp only [cond_true] at hj
      have aac:i<off:=by simpa using lA
      have e3:(i+1)*inf.size<=off*inf.size:=aHO _ aac
      rw [if_neg aKK]
      exact jS i j pv hi hj) 0 (λi j cr n' e' f' F' hi hj=>by
    rw [aHJ]
    refine ⟨hi,?_⟩
    unfold cpF at hj
    cases lA:Nat.blt i off
    ·rw [lA] at hj
     have aac:off<=i:=Hb lA
     cases sC:Nat.blt i (off+m)
     ·rw [sC] at hj;exact hj
     ·rw [sC] at hj
      have aad:i<off+m:=by simpa using sC
      have:=hqo (i - off) j _ aKK hj
      cases this
    ·rw [lA] at hj;exact hj)
   obtain ⟨jG,qI⟩:=nr
   exact fG.gQ (Fq C4 rfl hr) hK (.int _ _) qI jG
theorem NN (hT:dJ P T) (hc:Core μ h S w) (ht:∀t,bS μ h S w (env t) (a.tmps.getD t undef)) (args:Array Operand) (ts:Array TypeId) (hp:pop P T (.call ⟨.builtin .copy,args,ts⟩) env h K):
  fG P ⟨dst,.call ⟨.builtin .copy,args,ts⟩,ty,pos,after,guard⟩ a μ h S w K:=by
 obtain ⟨args⟩:=args
 obtain ⟨ts⟩:=ts
 simp only [pop] at hp
 split at hp
 ·rename_i s x t tx
  have hs:=cA ht s
  have hx:=cA ht x
  have main:∀(e sz bytes:Nat) (zero:List PV),T.get t=.slice e sz bytes zero->C7 e sz (ev env s) (ev env x) h K->
    fG P ⟨dst,.call ⟨.builtin .copy,#[s,x],#[t,tx]⟩,ty,pos,after,guard⟩ a μ h S w K:=by
   intro e sz bytes zero gH hp
   have gK:=(hT.slice _ _ _ _ _ gH).2.1
   unfold C7 at hp
   split at hp
   ·rename_i id gen off len hes
    rw [hes] at hs
    split at hp
    ·rename_i g cr n e' f hg
     obtain ⟨rfl,hp⟩:=hp
     replace hp:=bI hp
     obtain ⟨yL,hp⟩:=hp
     simp only [As] at yL
     obtain rfl:=Of yL.1
     obtain rfl:=Of yL.2
     obtain ⟨m,q,⟨hb,f',A9,hK⟩,we,hqo⟩:=zw (P:=P) hc _ _ hx sz gK _ hp
     exact aab hT hc t tx e sz bytes zero gH s x id g off len n f (ez hg) hs m q we hqo hb ⟨_,eO.set _ _ _ _ _ _ _ _ A9,hK⟩
    ·exact aKm
   ·exact aKm
  split at hp
  ·rename_i e sz bytes zero e' cr alF aA6 gH htx
   exact main e sz bytes zero gH hp
  ·rename_i e sz bytes zero gH htx
   exact main e sz bytes zero gH hp
  ·exact aKm
 ·exact aKm
theorem Fs (hT:dJ P T) (hc:Core μ h S w) (ht:∀t,bS μ h S w (env t) (a.tmps.getD t undef)) {op:Op} (hp:pop P T op env h K):
  fG P ⟨dst,op,ty,pos,after,guard⟩ a μ h S w K:=by
 cases op with
 | store t ad x=>exact JV hT hc ht t ad x hp
 | makeSlice t l c=>exact Nd hT hc ht t l c hp
 | box t x=>exact Rx hc ht t x hp
 | alloc t=>exact JX hT hc t hp
 | buildSlice t len parts=>exact zm hT hc ht t len parts hp
 | convert s d x=>exact C6 hT hc ht s d x hp
 | binOp bo t x y t'=>exact Ha hT hc ht bo t t' x y hp
 | makeMap t r=>cases r with
  | none=>exact Eo hT hc t hp
  | some r=>exact hp.elim
 | mapUpdate t m k x=>exact AQ hT hc ht t m k x hp
 | call c=>
  obtain ⟨cal,args,ts⟩:=c
  cases cal with
  | value fo=>exact NK hc ht fo args ts hp
  | invoke r m=>exact .r7 hc (nX hT hc.heap ht hp)
  | builtin b=>cases b with
   | append=>exact G8 hT hc ht args ts hp
   | copy=>exact NN hT hc ht args ts hp
   | _=>exact .r7 hc (nX hT hc.heap ht hp)
 | _=>exact .r7 hc (nX hT hc.heap ht hp)
end
section
variable {P:Program} {T:o9} {μ:Mu} {h η:List ak} {k:List Nat} {S:Nat->Prop} {w:World} {m:Nat}
theorem Aa.get:∀(l r:List PV),Aa h η k l r->r.length=l.length/\∀(j:Nat) (pv gw:PV),l[j]? =some pv->r[j]? =some gw->Fz h η k pv gw
 | [],[],_=>⟨rfl,λj pv gw hj=>by simp at hj⟩
 | [],_::_,hh=>hh.elim
 | _::_,[],hh=>hh.elim
 | a::l,b::r,hh=>by
  obtain ⟨h1,h2⟩:=hh
  obtain ⟨q1,q2⟩:=Aa.get l r h2
  refine ⟨by simp [q1],λj pv gw hj yK=>?_⟩
  cases j with
  | zero=>
   simp at hj yK
   subst hj yK
   exact h1
  | succ j=>exact q2 j pv gw aKZ (by simpa using yK)
theorem oa:∀(l:List ak) (r:List Nat) (i:Nat),qe h η k m i l r->l.length=r.length/\∀(j:Nat) (o:ak),l[j]? =some o->∃id,r[j]? =some id/\yN h η k m o (i+j) id
 | [],[],i,_=>⟨rfl,λj o hj=>by simp at hj⟩
 | [],_::_,_,hh=>hh.elim
 | _::_,[],_,hh=>hh.elim
 | o::l,id::r,i,hh=>by
  obtain ⟨h1,h2⟩:=hh
  obtain ⟨q1,q2⟩:=oa l r (i+1) h2
  refine ⟨by simp [q1],λj o' hj=>?_⟩
  cases j with
  | zero=>
   simp at hj
   subst hj
   exact ⟨id,rfl,h1⟩
  | succ j=>
   simp at hj
   obtain ⟨id',r1,r2⟩:=q2 j o' hj
   exact ⟨id',by simpa using r1,by rw [show i+(j+1)=i+1+j from by omega];exact r2⟩
def mm (μ:Mu) (h:List ak) (k:List Nat):Mu:=λid'=>match k[id']? with | some id=>(match h[id]? with | some _=>μ id | none=>none) | none=>none
theorem tt {μ:Mu} {h:List ak} {k:List Nat} {id id':Nat} {o:ak} (hk:k[id']? =some id) (ho:h[id]? =some o):mm μ h k id'=μ id:=by unfold mm;rw [hk];simp only [ho]
theorem Ft {μ:Mu} {h:List ak} {k:List Nat} {id id':Nat} (hk:k[id']? =some id) (ho:h[id]? =none):mm μ h k id'=none:=by unfold mm;rw [hk];simp only [ho]
def Fu (μ:Mu) (h:List ak) (k:List Nat) (S:Nat->Prop):Nat->Prop:=
 λb=>S b\/∃(id g sz n:Nat) (e:TypeId) (f:Nat->List PV) (base:Nat),id∉k/\h[id]? =some (ak.row g sz n e f)/\(μ id=some (b,base)\/∃i j,dU h id i j b)
theorem aae {S S':Nat->Prop} {w:World} (hS:∀b,S b->S' b) {pv:PV} {v:Value} (h:mg S w pv v):∀gw,CP pv gw->(∀sz n e f F,pv=.dY sz n e f F->∀b,F b->S' b)->aY S' w gw v:=by
 induction h with
 | nil sz e f F hF=>
  intro gw ho _
  cases ho
  exact .uk _ _ _ _
 | KE sz n e f F b off c a cur vf hF hb hlen hc ha fY bs pa u7 Ep KF ih=>
  intro gw ho hk
  have hk:=hk _ _ _ _ _ rfl
  cases ho with
  | mk _ _ _ _ f' _ hl hf hoo hp=>
   rcases aIL n with h0 | h0
   ·subst h0;exact .uk _ _ _ _
   ·obtain rfl:=ha aKK
    have get:∀(i j:Nat) (gw:PV),i<n->(f' i)[j]? =some gw->∃pv,(f i)[j]? =some pv:=λi j gw hi hj=>by
     have K7:j<(f i).length:=by rw [<-hl i hi];exact (An.1 hj).1
     exact ⟨_,abF K7⟩
    refine .ig sz n f' b off c vf (hk b hF) (λi hi=>by rw [hl i hi];exact hlen i hi) hc (λi j gw hi hj=>?_) (λi j gw hi hj=>?_)
    ·obtain ⟨pv,th⟩:=get i j gw hi hj
     rw [cell_of_row w b _ cur e (0,0) hb,<-bs i j pv hi th]
    ·obtain ⟨pv,th⟩:=get i j gw hi hj
     cases hx:dW pv with
     | false=>
      rw [hf i j pv gw hi th hj hx]
      rcases pa i j pv hi th with q | ⟨_,_,_,_,_,q⟩
      ·exact q.mono (λ_ _=>rfl) hS
      ·rw [q] at hx;cases hx
     | true=>
      have hoo:=hoo i j pv gw hi th hj hx
      cases pv with
      | dY lG n2 e2 f2 F2=>exact ih i j lG n2 e2 f2 F2 hi th gw hoo (λ_ _ _ _ _ he b' nA=>by
        injection he with _ _ _ _ he
        subst he
        exact hk b' (Ep i j _ _ _ _ _ hi th b' nA).1)
      | _=>cases hx
theorem zA {μ':Mu} {h':List ak} {S':Nat->Prop} {pv:PV} {v:Value} (hp:cu pv=true) (hc:cz μ' h' S' w pv v):aY S' w pv v:=by
 cases pv<;>first | exact hc | cases hp
theorem vw (hc:Core μ h S w) (hh:qe h η k m 0 η k) {pv gw:PV} (hz:Fz h η k pv gw):
  (∀v,cz μ h S w pv v->cz (mm μ h k) η (Fu μ h k S) w gw v)/\(∀v,jF μ h S w pv v->jF (mm μ h k) η (Fu μ h k S) w gw v)/\(∀v,bS μ h S w pv v->bS (mm μ h k) η (Fu μ h k S) w gw v):=by
 have up:∀pv v,aY S w pv v->aY (Fu μ h k S) w pv v:=λpv v hp=>aY.mono (λ_ _=>rfl) (λb hb=>.inl hb) hp
 have same:∀pv:PV,(∀v,cz μ h S w pv v->aY S w pv v)->(∀v,jF μ h S w pv v->cz μ h S w pv v)->(∀v,bS μ h S w pv v->jF μ h S w pv v)->∀gw:PV,(∀v,aY S w pv v->aY (Fu μ h k S) w gw v)->
   (∀v,cz μ h S w pv v->cz (mm μ h k) η (Fu μ h k S) w gw v)/\(∀v,jF μ h S w pv v->cz (mm μ h k) η (Fu μ h k S) w gw v)/\(∀v,bS μ h S w pv v->cz (mm μ h k) η (Fu μ h k S) w gw v):=
  λpv h1 h2 h3 gw hp=>⟨λv hv=>cz.lp (hp v (h1 v hv)),λv hv=>cz.lp (hp v (h1 v (h2 v hv))),λv hv=>cz.lp (hp v (h1 v (h2 v (h3 v hv))))⟩
 induction hz with
 | int k' n=>exact same (.int k' n) (λ_ h=>h) (λ_ h=>h) (λ_ h=>h) _ (up _)
 | bool b=>exact same (.bool b) (λ_ h=>h) (λ_ h=>h) (λ_ h=>h) _ (up _)
 | str s=>exact same (.str s) (λ_ h=>h) (λ_ h=>h) (λ_ h=>h) _ (up _)
 | cd=>exact same .cd (λ_ h=>h) (λ_ h=>h) (λ_ h=>h) _ (up _)
 | iC=>exact same .iC (λ_ h=>h) (λ_ h=>h) (λ_ h=>h) _ (up _)
 | age sz f=>exact same .cd (λ_ h=>h) (λ_ h=>h) (λ_ h=>h) (.ig sz 0 f) (λv hv=>by cases hv;exact .uk _ _ _ _)
 | aAI id id' g' cr e' f' hk ho hη=>
  have key:∀v,v=Value.slice none 0 0->bC (mm μ h k) η w id' g' 0 0 v:=λv hv=>by
   unfold bC
   rw [hη]
   refine ⟨⟨_,_,_,hv⟩,No _,λ_=>⟨No _,?_⟩⟩
   rw [Ft hk ho]
   exact hv
  have inv:∀v,aY S w .cd v->v=Value.slice none 0 0:=λv hv=>by cases hv;rfl
  exact ⟨λv hv=>key v (inv v hv),λv hv=>key v (inv v hv),λv hv=>key v (inv v hv)⟩
 | fn f=>exact same (.fn f) (λ_ h=>h) (λ_ h=>h) (λ_ h=>h) _ (up _)
 | gB cs=>exact same (.gB cs) (λ_ h=>h) (λ_ h=>h) (λ_ h=>h) _ (up _)
 | ig sz n f f' hf=>
  exact same (.ig sz n f) (λ_ h=>h) (λ_ h=>h) (λ_ h=>h) (.ig sz n f') (λv hv=>by
   have hv:=up _ _ hv
   cases hv with
   | uk _ _ a c=>exact .uk _ _ _ _
   | ig _ _ _ b off c vf h1 h2 h3 h4 h5=>
    exact .ig sz n f' b off c vf h1 (λi hi=>by rw [hf i hi];exact h2 i hi) h3 (λi j pv hi hj=>h4 i j pv hi aLn) (λi j pv hi hj=>h5 i j pv hi aLn))
 | jf pv=>exact ⟨λv hv=>hv.one,λ_ _=>trivial,λ_ _=>trivial⟩
 | dY sz n e f F=>exact ⟨λv hv=>hv,λv hv=>hv,λv hv=>hv⟩
 | Rt sz e f=>exact ⟨λv hv=>cz.one hv,λv hv=>cz.one (pv:=.cd) (μ:=μ) (h:=h) hv,λv hv=>cz.one (pv:=.cd) (μ:=μ) (h:=h) hv⟩
 | own id id' g g' sz cr n n' off len e e' f f' hk ho hη hn=>
  have key:∀v,bC μ h w id g off len v->bC (mm μ h k) η w id' g' off len v:=λv hv=>by
   unfold bC at hv ⊢
   rw [ho] at hv
   rw [hη]
   obtain ⟨h1,_,rA⟩:=hv
   have uC:=rA rfl
   clear rA
   obtain ⟨h2,h3⟩:=uC
   obtain ⟨_,dz⟩:=oa η k 0 hh
   obtain ⟨kZ,r1,r2⟩:=dz id' _ hη
   rw [hk] at r1
   injection r1 with r1
   subst r1
   unfold yN at r2
   rw [ho] at r2
   obtain ⟨_,rfl,_,_⟩:=r2
   refine ⟨h1,No _,λ_=>⟨hn,?_⟩⟩
   have hm:mm μ h k id'=μ id:=tt hk ho
   rw [hm]
   exact h3
  exact ⟨key,key,key⟩
 | aC id id' g g' sz cr n n' i off e e' f f' hk ho hη hn=>
  have key:∀v,cG μ h w id g i off v->cG (mm μ h k) η w id' g' i off v:=λv hv=>by
   unfold cG at hv ⊢
   rw [ho] at hv
   rw [hη]
   obtain ⟨h1,_,rA⟩:=hv
   have uC:=rA rfl
   clear rA
   obtain ⟨h2,h3⟩:=uC
   obtain ⟨_,dz⟩:=oa η k 0 hh
   obtain ⟨kZ,r1,r2⟩:=dz id' _ hη
   rw [hk] at r1
   injection r1 with r1
   subst r1
   unfold yN at r2
   rw [ho] at r2
   obtain ⟨_,rfl,_,rfl,_⟩:=r2
   refine ⟨h1,No _,λ_=>⟨hn,?_⟩⟩
   have hm:mm μ h k id'=μ id:=tt hk ho
   rw [hm]
   exact h3
  exact ⟨key,key,key⟩
 | qE f cH KG hl hcc=>
  have key:∀v,pc μ h w f cH v->pc (mm μ h k) η w f KG v:=λv hv=>by
   obtain ⟨vs,h1,h2,h3⟩:=hv
   refine ⟨vs,h1,h2.trans hl.symm,λj p' hj=>?_⟩
   have bg:j<cH.length:=by rw [<-hl];exact (An.1 hj).1
   obtain ⟨hk,⟨sz,n,e,g,ho⟩,cr,n',e',g',hη,hn⟩:=hcc j _ p' (abF bg) hj
   obtain ⟨u,q1,q2⟩:=h3 j _ (abF bg)
   refine ⟨u,q1,?_⟩
   unfold cG at q2 ⊢
   rw [ho] at q2
   rw [hη]
   obtain ⟨a1,_,a2⟩:=q2
   have a3:=a2 rfl
   clear a2
   obtain ⟨a4,a5⟩:=a3
   obtain ⟨_,dz⟩:=oa η k 0 hh
   obtain ⟨kZ,r1,r2⟩:=dz p'.1 _ hη
   rw [hk] at r1
   injection r1 with r1
   subst r1
   unfold yN at r2
   rw [ho] at r2
   obtain ⟨_,rfl,_,rfl,_⟩:=r2
   refine ⟨a1,No _,λ_=>⟨hn,?_⟩⟩
   rw [tt hk ho]
   exact a5
  exact ⟨key,key,key⟩
 | oL id id' g g' sz cr n n' e e' f f' hk ho hη=>
  have key:∀v,gI μ h w id v->gI (mm μ h k) η w id' v:=λv hv=>by
   unfold gI at hv ⊢
   rw [ho] at hv
   rw [hη]
   obtain ⟨h1,b,base,q1,q2,q3⟩:=hv
   exact ⟨h1,b,base,(tt hk ho).trans q1,q2,q3⟩
  exact ⟨key,key,key⟩
 | frz id g sz n off len e f f' hk ho hl hp hf ih=>
  have key:∀v,bC μ h w id g off len v->cz (mm μ h k) η (Fu μ h k S) w (.ig sz len f') v:=λv hv=>by
   refine cz.lp ?_
   unfold bC at hv
   rw [ho] at hv
   obtain ⟨_,_,hv⟩:=hv
   obtain ⟨hle,hv⟩:=hv rfl
   obtain ⟨hlr,bs⟩:=hc.heap id g sz n e f ho
   cases hC:μ id with
   | none=>
    rw [hC] at hv bs
    have hn:n=0:=bs
    have h0:len=0:=by omega
    subst h0
    have hv:v=.slice none 0 0:=hv
    subst hv
    exact .uk _ _ _ _
   | some p=>
    obtain ⟨b,base⟩:=p
    rw [hC] at hv bs
    obtain ⟨ad,cap,rfl,hlc,vH,M7⟩:=hv
    obtain ⟨cur,lu,um,jS⟩:=cZ.cells M7 bs
    rcases aIL len with h0 | h0
    ·subst h0
     exact .uk _ _ _ _
    ·have vH:=vH aKK
     subst vH
     have hcl:∀(i j:Nat) (gw:PV),i<len->(f' i)[j]? =some gw->∃u,w.cell? ⟨b,base+off*sz+i*sz+j,none⟩=some u/\aY (Fu μ h k S) w gw u:=λi j gw hi hj=>by
      have K7:j<(f (off+i)).length:=by rw [<-hl i hi];exact (An.1 hj).1
      have th:=abF K7
      obtain ⟨u,h1,h2⟩:=jS (off+i) j _ aKK th
      have h3:aY (Fu μ h k S) w gw u:=by
       by_cases hof:CP (f (off+i))[j] gw
       ·generalize hpv:(f (off+i))[j]=pv at hof h2 th
        cases hof with
        | mk lG n2 e2 f2 f2' F2 a1 a2 a3 a4=>
         exact aae (λb hb=>.inl hb) (show mg S w (.dY lG n2 e2 f2 F2) u from h2) _ (.mk lG n2 e2 f2 f2' F2 a1 a2 a3 a4) (λ_ _ _ _ _ he b' nA=>by
          injection he with _ _ _ _ he
          subst he
          exact .inr ⟨id,g,sz,n,e,f,base,hk,ho,.inr ⟨off+i,j,_,_,_,_,_,_,_,_,_,_,ho,by omega,th,nA⟩⟩)
       ·exact zA (hp i j gw hi hj) ((ih i j _ gw hi th hj hof).1 u h2.c)
      refine ⟨u,?_,h3⟩
      rw [cell_of_row w b _ cur e (0,0) lu,<-h1]
      congr 1
      rw [aHR]
      omega
     refine .ig sz len f' b (base+off*sz) cap (λi j=>(w.cell? ⟨b,base+off*sz+i*sz+j,none⟩).getD undef) (.inr ⟨id,g,sz,n,e,f,base,hk,ho,.inl hC⟩) (λi hi=>by rw [hl i hi];exact hlr _ aKK) hlc (λi j pv hi hj=>?_) (λi j pv hi hj=>?_)
     ·obtain ⟨u,h1,_⟩:=hcl i j pv hi hj
      rw [h1];rfl
     ·obtain ⟨u,h1,h2⟩:=hcl i j pv hi hj
      simp only [h1,aJC]
      exact h2
  exact ⟨key,key,key⟩
 | agg cs Ba hl hcc ih=>
  have key:∀v,jF μ h S w (.agg cs) v->jF (mm μ h k) η (Fu μ h k S) w (.agg Ba) v:=λv hv=>by
   obtain ⟨vs,h1,h2,h3⟩:=hv
   refine ⟨vs,h1,h2.trans hl.symm,λj gw hj=>?_⟩
   have K7:j<cs.length:=by rw [<-hl];exact (An.1 hj).1
   have th:=abF K7
   obtain ⟨u,q1,q2⟩:=h3 j _ th
   exact ⟨u,q1,(ih j _ gw th hj).1 u q2⟩
  exact ⟨λ_ hv=>(show False from hv).elim,key,key⟩
 | fv cs Ba hl hcc ih=>
  refine ⟨λ_ hv=>(show False from hv).elim,λ_ hv=>(show False from hv).elim,λv hv=>?_⟩
  obtain ⟨vs,h1,h2,h3⟩:=hv
  refine ⟨vs,h1,h2.trans hl.symm,λj gw hj=>?_⟩
  have K7:j<cs.length:=by rw [<-hl];exact (An.1 hj).1
  have th:=abF K7
  obtain ⟨u,q1,q2⟩:=h3 j _ th
  exact ⟨u,q1,(ih j _ gw th hj).2.1 u q2⟩
end
section
variable {P:Program} {T:o9} {μ:Mu} {h η:List ak} {k:List Nat} {S:Nat->Prop} {w:World} {m:Nat}
theorem aaf {a a':PV} (hz:Fz h η k a a') (ha:u5 a=true):u5 a'=true/\∀v,tL a v->tL a' v:=by
 cases hz with
 | int k' n=>exact ⟨rfl,λ_ h=>h⟩
 | bool b=>exact ⟨rfl,λ_ h=>h⟩
 | str s=>exact ⟨rfl,λ_ h=>h⟩
 | jf _=>exact ⟨rfl,λv h=>by
   cases a<;>first | (cases ha;done) | (have h:v=_:=h;subst h;rfl) | exact h⟩
 | _=>cases ha
theorem P5 {a a':PV} (hz:Fz h η k a a') (ha:ko a=true):ko a'=true/\∀v,qZ a v->qZ a' v:=by
 cases hz with
 | int k' n=>exact ⟨rfl,λ_ h=>h⟩
 | bool b=>exact ⟨rfl,λ_ h=>h⟩
 | str s=>exact ⟨rfl,λ_ h=>h⟩
 | jf _=>exact ⟨rfl,λ_ _=>trivial⟩
 | agg cs Ba hl hc=>
  have el:∀j gw,Ba[j]? =some gw->∃pv,cs[j]? =some pv/\u5 gw=true/\∀v,tL pv v->tL gw v:=λj gw hj=>by
   have bg:j<cs.length:=by rw [<-hl];exact (An.1 hj).1
   have h1:=abF bg
   have h2:=aaf (hc j _ _ h1 hj) (aHH.1 ha _ (aIh bg))
   exact ⟨_,h1,h2⟩
  refine ⟨aHH.2 (λx hx=>?_),λv hv=>?_⟩
  ·obtain ⟨j,hj,rfl⟩:=aJc.1 hx
   obtain ⟨_,_,h2,_⟩:=el j _ (abF hj)
   exact h2
  ·obtain ⟨vs,q1,q2,q3⟩:=hv
   refine ⟨vs,q1,q2.trans hl.symm,λj gw hj=>?_⟩
   obtain ⟨pv,e1,_,e2⟩:=el j gw hj
   obtain ⟨u,hu,hr⟩:=q3 j pv e1
   exact ⟨u,hu,e2 u hr⟩
 | _=>cases ha
theorem C8:∀{l:List Nat} {x i:Nat},l[i]? =some x->RR l x=true
 | [],x,i,h=>by simp at h
 | a::r,x,0,h=>by
  simp at h;subst h
  unfold RR
  rw [show Nat.beq a a=true from aIW a]
 | a::r,x,i+1,h=>by
  unfold RR
  cases Nat.beq a x
  ·exact C8 aLi
  ·rfl
theorem vK:∀{η:List ak} {k:List Nat} {i id g sz n:Nat} {e:TypeId} {f:Nat->List PV},η[i]? =some (ak.row g sz n e f)->k[i]? =some id->∃j:Nat,(oR η k)[j]? =some id
 | [],_,i,_,_,_,_,_,_,h,_=>by simp at h
 | _::_,[],i,_,_,_,_,_,_,_,h=>by simp at h
 | .row _ _ _ _ _::r,a::is,0,id,_,_,_,_,_,_,h=>by simp at h;subst h;exact ⟨0,rfl⟩
 | .dead::r,a::is,0,id,_,_,_,_,_,h,_=>by simp at h
 | .row _ _ _ _ _::r,a::is,i+1,id,_,_,_,_,_,h1,h2=>by
  obtain ⟨j,hj⟩:=vK (i:=i) aLr aLq
  exact ⟨j+1,by simpa [oR] using hj⟩
 | .dead::r,a::is,i+1,id,_,_,_,_,_,h1,h2=>by
  obtain ⟨j,hj⟩:=vK (i:=i) aLr aLq
  exact ⟨j,by simpa [oR] using hj⟩
theorem vL:∀{η:List ak} {k:List Nat} {i j id g sz n g' cr n':Nat} {e e':TypeId} {f f':Nat->List PV},pg (oR η k)=true->η[i]? =some (ak.row g sz n e f)->k[i]? =some id->η[j]? =some (ak.row g' cr n' e' f')->k[j]? =some id->i=j
 | [],_,i,_,_,_,_,_,_,_,_,_,_,_,_,_,h,_,_,_=>by simp at h
 | _::_,[],i,_,_,_,_,_,_,_,_,_,_,_,_,_,_,h,_,_=>by simp at h
 | .row _ _ _ _ _::r,a::is,0,0,_,_,_,_,_,_,_,_,_,_,_,_,_,_,_,_=>rfl
 | .row _ _ _ _ _::r,a::is,0,j+1,id,_,_,_,_,_,_,_,_,_,_,hn,_,h2,h3,h4=>by
  simp at h2;subst h2
  obtain ⟨q,hq⟩:=vK (η:=r) (k:=is) (i:=j) (by simpa using h3) (by simpa using h4)
  unfold oR pg at hn
  rw [C8 hq] at hn;cases hn
 | .row _ _ _ _ _::r,a::is,i+1,0,id,_,_,_,_,_,_,_,_,_,_,hn,h1,h2,_,h4=>by
  simp at h4;subst h4
  obtain ⟨q,hq⟩:=vK (η:=r) (k:=is) (i:=i) aLr aLq
  unfold oR pg at hn
  rw [C8 hq] at hn;cases hn
 | .row _ _ _ _ _::r,a::is,i+1,j+1,id,_,_,_,_,_,_,_,_,_,_,hn,h1,h2,h3,h4=>by
  unfold oR pg at hn
  cases hm:RR (oR r is) a with
  | true=>rw [hm] at hn;cases hn
  | false=>
   rw [hm] at hn
   rw [vL (η:=r) (k:=is) (i:=i) (j:=j) hn aLr aLq (by simpa using h3) (by simpa using h4)]
 | .dead::r,a::is,0,_,_,_,_,_,_,_,_,_,_,_,_,_,h,_,_,_=>by simp at h
 | .dead::r,a::is,_+1,0,_,_,_,_,_,_,_,_,_,_,_,_,_,_,h,_=>by simp at h
 | .dead::r,a::is,i+1,j+1,id,_,_,_,_,_,_,_,_,_,_,hn,h1,h2,h3,h4=>by
  rw [vL (η:=r) (k:=is) (i:=i) (j:=j) hn aLr aLq (by simpa using h3) (by simpa using h4)]
theorem yu (hc:Core μ h S w) (hh:qe h η k m 0 η k) (hk:pg (oR η k)=true):Core (mm μ h k) η (Fu μ h k S) w/\(∀b,di (mm μ h k) η b->di μ h b)/\∀b,Fu μ h k S b->S b\/di μ h b:=by
 obtain ⟨hlen,dz⟩:=oa η k 0 hh
 have back:∀(id' g' cr n':Nat) (e':TypeId) (f':Nat->List PV),η[id']? =some (ak.row g' cr n' e' f')->(n'=0/\mm μ h k id'=none)\/∃(id g:Nat) (f:Nat->List PV),k[id']? =some id/\(∃n,h[id]? =some (ak.row g cr n e' f)/\n'<=n/\(n'=n\/cr≠2))/\mm μ h k id'=μ id/\
   ∀i,i<n'->(f' i).length=(f i).length/\∀(j:Nat) (pv gw:PV),(f i)[j]? =some pv->(f' i)[j]? =some gw->Fz h η k pv gw:=λid' g' cr n' e' f' hη=>by
  obtain ⟨id,r1,r2⟩:=dz id' _ hη
  unfold yN at r2
  cases ho:h[id]? with
  | none=>rw [ho] at r2;exact .inl ⟨r2.2,Ft r1 ho⟩
  | some o=>
   cases o with
   | dead=>rw [ho] at r2;exact r2.elim
   | row g sz n e f=>
    rw [ho] at r2
    obtain ⟨_,rfl,r4,rfl,r3⟩:=r2
    refine .inr ⟨id,g,f,r1,⟨n,ho,?_⟩,tt r1 ho,λi hi=>Aa.get _ _ (r3 i hi)⟩
    rcases r4 with rfl | ⟨_,r5,r6⟩
    ·exact ⟨No _,.inl rfl⟩
    ·exact ⟨r6,.inr r5⟩
 have xl:∀b,CG (mm μ h k) η b->∃id,id∈k/\∃g sz n e f base,h[id]? =some (ak.row g sz n e f)/\μ id=some (b,base):=λb hb=>by
  obtain ⟨id',g',cr,n',e',f',base,hη,hm⟩:=hb
  rcases back id' g' cr n' e' f' hη with ⟨_,q3⟩ | ⟨id,g,f,q1,⟨n,q2,_⟩,q3,_⟩
  ·rw [q3] at hm;cases hm
  ·rw [q3] at hm
   exact ⟨id,aHU q1,g,cr,n,e',f,base,q2,hm⟩
 have aA8:∀{pv:PV} {sz n:Nat} {e:TypeId} {f:Nat->List PV} {F:Nat->Prop},Fz h η k pv (.dY sz n e f F)->pv=.dY sz n e f F\/(pv=.cd/\n=0/\∀b,¬F b):=λhz=>by
  cases hz with
  | dY=>exact .inl rfl
  | Rt=>exact .inr ⟨rfl,rfl,λ_ h=>h⟩
 have n9:∀id' i j b,dU η id' i j b->∃id,k[id']? =some id/\dU h id i j b/\∃g sz n e f,η[id']? =some (ak.row g sz n e f):=λid' i j b ⟨g',cr,n',e',f',lG,n2,e2,f2,F2,q1,q2,q3,q4⟩=>by
  rcases back id' g' cr n' e' f' q1 with ⟨r1,_⟩ | ⟨id,g,f,r1,⟨n,r2,hle,_⟩,r3,r4⟩
  ·omega
  ·obtain ⟨s1,s2⟩:=r4 i q2
   have K7:j<(f i).length:=by rw [<-s1];exact (An.1 q3).1
   have th:=abF K7
   rcases aA8 (s2 j _ _ th q3) with this | ⟨_,_,this⟩
   ·exact ⟨id,r1,⟨g,cr,n,e',f,_,_,_,_,_,r2,by omega,by rw [th,this],q4⟩,_,_,_,_,_,q1⟩
   ·exact absurd q4 (this b)
 have lE:∀b,di (mm μ h k) η b->di μ h b:=λb hb=>by
  rcases hb with hb | ⟨x,y,z,hb⟩
  ·obtain ⟨id,_,g,sz,n,e,f,base,q2,hm⟩:=xl b hb
   exact .inl ⟨id,g,sz,n,e,f,base,q2,hm⟩
  ·obtain ⟨id,_,q,_⟩:=n9 x y z b hb
   exact aKJ
 have hs:∀b,Fu μ h k S b->S b\/di μ h b:=λb hb=>by
  rcases hb with hb | ⟨id,g,sz,n,e,f,base,_,h1,h2 | ⟨i,j,h2⟩⟩
  ·exact .inl hb
  ·exact .inr (.inl ⟨id,g,sz,n,e,f,base,h1,h2⟩)
  ·exact .inr (.inr ⟨_,_,_,h2⟩)
 refine ⟨⟨λid' g' cr n' e' f' hη=>?_,?_⟩,lE,hs⟩
 ·rcases back id' g' cr n' e' f' hη with ⟨rfl,q3⟩ | ⟨id,g,f,q1,⟨n,q2,hle,hor⟩,q3,q4⟩
  ·exact ⟨λi hi=>absurd hi (aIs _),by rw [q3]⟩
  obtain ⟨r1,r2⟩:=hc.heap id g cr n e' f q2
  refine ⟨λi hi=>(q4 i hi).1.trans (r1 i (aHX hi hle)),?_⟩
  rw [q3]
  cases hm:μ id with
  | none=>rw [hm] at r2;have r2:n=0:=r2;show n'=0;omega
  | some p=>
   obtain ⟨b,base⟩:=p
   rw [hm] at r2
   obtain ⟨o,s1,s2⟩:=r2
   refine ⟨o,s1,?_⟩
   cases o with
   | cells cur e2 z=>
    obtain ⟨x1,x2,x3,s3⟩:=s2
    refine ⟨x1,x2,aIH (Nat.add_le_add_left (aHO _ hle) _) x3,λi j gw hi hj=>?_⟩
    have K7:j<(f i).length:=by rw [<-(q4 i hi).1];exact (An.1 hj).1
    have th:=abF K7
    obtain ⟨u,t1,t2⟩:=s3 i j _ (aHX hi hle) th
    have hz:=(q4 i hi).2 j _ gw th hj
    refine ⟨u,t1,?_⟩
    cases hx:dW gw with
    | false=>exact cz.k ((vw hc hh hz).1 u t2.c) hx
    | true=>
     cases gw with
     | dY lG n2 e2 f2 F2=>
      rcases aA8 hz with hq | ⟨hq,rfl,hF⟩
      ·rw [hq] at t2
       exact mg.mono (λ_ _=>rfl) (λb hb=>.inl hb) (show mg S w (.dY lG n2 e2 f2 F2) u from t2) (λ_ _ _ _ _ _ _ _=>rfl)
      ·rw [hq] at t2
       have t2:aY S w .cd u:=t2
       cases t2
       exact mg.nil _ _ _ _ hF
     | _=>cases hx
   | map es c=>
    obtain ⟨x1,s3⟩:=s2
    have hn:n'=n:=by
     rcases hor with h0 | h0
     ·exact h0
     ·rcases aIL n with h1 | h1
      ·omega
      ·obtain ⟨kp,vp,en,y1,_⟩:=s3 0 h1
       have:=r1 0 h1
       rw [y1] at this
       exact absurd this.symm h0
    subst hn
    refine ⟨x1,λi hi=>?_⟩
    obtain ⟨kp,vp,en,y1,y2,y3,y4,y5,y6⟩:=s3 i hi
    obtain ⟨z1,z2⟩:=q4 i hi
    rw [y1] at z1 z2
    generalize A9:f' i=l' at z1 z2 ⊢
    rcases l' with _ | ⟨kp',_ | ⟨vp',_ | ⟨c3,l3⟩⟩⟩<;>simp at z1
    have w1:=P5 (z2 0 kp kp' rfl rfl) y2
    have w2:=P5 (z2 1 vp vp' rfl rfl) y3
    exact ⟨kp',vp',en,rfl,w1.1,w2.1,y4,w1.2 _ y5,w2.2 _ y6⟩
   | _=>exact s2.elim
 ·refine ⟨λb hb hsb=>?_,λb hb=>hc.ok.lt b (lE b hb),λb hb=>?_,?_,hc.ok.known.fx (λ_ _=>rfl) (λ_ hb=>.inl hb),λb hb x y z hx=>?_,λb i x y j x' y' hx uo=>?_⟩
  rotate_right 2
  ·obtain ⟨id,_,g,sz,n,e,f,base,q2,hm⟩:=xl b hb
   obtain ⟨kZ,_,q,_⟩:=n9 x y z b hx
   exact hc.ok.hv b ⟨id,g,sz,n,e,f,base,q2,hm⟩ _ _ _ q
  ·obtain ⟨id1,k1,q1,_,_,_,_,_,r1⟩:=n9 i x y b hx
   obtain ⟨kZ,k2,q2,_,_,_,_,_,r2⟩:=n9 j x' y' b uo
   obtain ⟨e1,e2,e3⟩:=hc.ok.hh b _ _ _ _ _ _ q1 q2
   subst e1
   exact ⟨vL hk r1 k1 r2 k2,e2,e3⟩
  ·rcases hsb with hsb | ⟨kZ,g2,lG,n2,e2,f2,aA9,hnk,h1,h2⟩
   ·exact hc.ok.apart b (lE b hb) hsb
   ·rcases hb with hb | ⟨x,y,z,hb⟩
    ·obtain ⟨id,hik,g,sz,n,e,f,base,q2,hm⟩:=xl b hb
     rcases h2 with h2 | ⟨i,j,h2⟩
     ·have:=hc.ok.inj id kZ _ _ _ _ _ _ _ _ _ _ _ _ _ q2 h1 hm h2
      subst this
      exact hnk hik
     ·exact hc.ok.hv b ⟨id,g,sz,n,e,f,base,q2,hm⟩ _ _ _ h2
    ·obtain ⟨id,hik,q,_⟩:=n9 x y z b hb
     rcases h2 with h2 | ⟨i,j,h2⟩
     ·exact hc.ok.hv b ⟨kZ,g2,lG,n2,e2,f2,aA9,h1,h2⟩ _ _ _ q
     ·obtain ⟨e1,_,_⟩:=hc.ok.hh b _ _ _ _ _ _ q h2
      subst e1
      exact hnk (aHU hik)
  ·rcases hs b hb with h1 | h1
   ·exact hc.ok.slt b h1
   ·exact hc.ok.lt b h1
  ·intro i j gi Rr ni ei fi gj k9 nj ej fj b o o' hi hj nB mF
   rcases back i gi Rr ni ei fi hi with ⟨_,q3⟩ | ⟨id1,g1,f1,q1,⟨nn1,q2,_⟩,q3,_⟩
   ·rw [q3] at nB;cases nB
   rcases back j gj k9 nj ej fj hj with ⟨_,r3⟩ | ⟨kZ,g2,f2,r1,⟨nn2,r2,_⟩,r3,_⟩
   ·rw [r3] at mF;cases mF
   rw [q3] at nB
   rw [r3] at mF
   have:=hc.ok.inj id1 kZ _ _ _ _ _ _ _ _ _ _ _ _ _ q2 r2 nB mF
   subst this
   exact vL hk hi q1 hj r1
structure Start where
 μ:Mu
 h:List ak
 S:Nat->Prop
 w:World
 nt:Nat
theorem agk {C:Start} (hc:Core μ h S w) (hf:Fr C.μ C.h C.S C.w μ h S w) (hh:qe h η k C.h.length 0 η k) (hk:pg (oR η k)=true) (hm:C.h.length<=k.length):
  Fr C.μ C.h C.S C.w (mm μ h k) η (Fu μ h k S) w:=by
 obtain ⟨hlen,dz⟩:=oa η k 0 hh
 obtain ⟨_,lE,hs⟩:=yu hc hh hk
 have idx:∀id,id<C.h.length->∃o id',η[id]? =some o/\k[id]? =some id'/\yN h η k C.h.length o id id':=λid hid=>by
  have bg:id<η.length:=by omega
  obtain ⟨id',r1,r2⟩:=dz id _ (abF bg)
  rw [aHJ] at r2
  exact ⟨_,id',abF bg,r1,r2⟩
 refine ⟨by omega,hf.blocks,λb hb=>.inl (hf.sub b hb),λb hb=>?_,λb hb=>hf.own b (lE b hb),hf.size,hf.os,hf.tape,hf.output,λid g0 sz0 n0 e0 f0 h0=>?_,λid h0=>?_,hf.cH,λid g0 sz0 n0 e0 f0 b base h0 hm0 mu=>?_,hf.wv⟩
 rotate_right
 ·have hid:id<C.h.length:=(An.1 h0).1
  obtain ⟨o,id',q1,q2,q3⟩:=idx id hid
  obtain ⟨r1,r2⟩:=hf.maps id g0 sz0 n0 e0 f0 b base h0 hm0 mu
  refine ⟨r1,?_⟩
  rw [q1]
  unfold yN at q3
  cases o with
  | dead=>exact .inl rfl
  | row g' cr n' e' f'=>
   cases ho:h[id']? with
   | none=>rw [ho] at q3;exact absurd q3.1 aKK
   | some o2=>
    cases o2 with
    | dead=>rw [ho] at q3;exact q3.elim
    | row g sz n e f=>
     rw [ho] at q3
     obtain ⟨s1,rfl,s2,rfl,_⟩:=q3
     obtain ⟨rfl,rfl⟩:=s1 hid
     obtain rfl:=s2.resolve_right (λhx=>absurd hx.1 aKK)
     rw [ho] at r2
     rcases r2 with r2 | ⟨_,r3⟩
     ·cases r2
     ·exact .inr ⟨⟨_,_,_,_,_,rfl⟩,(tt q2 ho).trans r3⟩
 ·rcases hs b hb with h1 | h1
  ·exact hf.new b h1
  ·rcases hf.own b h1 with h2 | h2
   ·exact .inr (.inl h2)
   ·exact .inr (.inr h2)
 ·have hid:id<C.h.length:=(An.1 h0).1
  obtain ⟨o,id',q1,q2,q3⟩:=idx id hid
  have hg:=hf.CH id g0 sz0 n0 e0 f0 h0
  rw [q1]
  unfold yN at q3
  cases o with
  | dead=>trivial
  | row g' cr n' e' f'=>
   cases ho:h[id']? with
   | none=>rw [ho] at q3;exact absurd q3.1 aKK
   | some o2=>
    cases o2 with
    | dead=>rw [ho] at q3;exact q3.elim
    | row g sz n e f=>
     rw [ho] at q3
     obtain ⟨r1,rfl,r2,rfl,_⟩:=q3
     obtain ⟨rfl,rfl⟩:=r1 hid
     obtain rfl:=r2.resolve_right (λhx=>absurd hx.1 aKK)
     rw [ho] at hg
     refine ⟨hg.1,λhe=>?_⟩
     obtain ⟨s1,s2,s3,s4⟩:=hg.2 he
     exact ⟨by rw [tt q2 ho];exact s1,s2,s3,s4⟩
 ·have hid:id<C.h.length:=(An.1 h0).1
  obtain ⟨o,id',q1,q2,q3⟩:=idx id hid
  have hd:=hf.dead id h0
  rw [q1]
  unfold yN at q3
  cases o with
  | dead=>rfl
  | row g' cr n' e' f'=>
   cases ho:h[id']? with
   | none=>rw [ho] at q3;exact absurd q3.1 aKK
   | some o2=>
    cases o2 with
    | dead=>rw [ho] at q3;exact q3.elim
    | row g sz n e f=>
     rw [ho] at q3
     obtain ⟨rfl,rfl⟩:=q3.1 hid
     rw [ho] at hd
     cases hd
structure mH (C:Start) (μ:Mu) (h:List ak) (S:Nat->Prop) (env:Env) (a:Act) (w:World):Prop where
 core:Core μ h S w
 fr:Fr C.μ C.h C.S C.w μ h S w
 tmps:∀t,bS μ h S w (env t) (a.tmps.getD t undef)
 size:a.tmps.size=C.nt
 far:∀t,C.nt<=t->env t=.jf
 defers:a.defers=[]
variable {C:Start} {env:Env} {a:Act}
theorem C9 (env:Env) (t:Nat) (v:PV):qs env t v t=v:=by simp [qs]
theorem Hc (env:Env) {t j:Nat} (v:PV) (hj:j≠t):qs env t v j=env j:=by
 unfold qs
 have:Nat.beq j t=false:=by
  cases hb:Nat.beq j t with
  | true=>exact (hj (Of hb)).elim
  | false=>rfl
 rw [this];rfl
def mz (nt:Nat) (o:Oper):Bool:=match o.dst with | some t=>Nat.blt t nt | none=>true
theorem mH.put (hs:mH C μ h S env a w) {μ':Mu} {h':List ak} {S':Nat->Prop} {w':World} (hf:Fr μ h S w μ' h' S' w') (hc:Core μ' h' S' w') {dst:Option Nat} {v:PV} {val:Value} (hv:bS μ' h' S' w' v val)
  (hd:∀t,dst=some t->t<C.nt):mH C μ' h' S' (ee env dst v) (a.put dst val) w':=by
 refine ⟨hc,hs.fr.trans hf,λt=>?_,?_,λt ht=>?_,?_⟩
 ·cases dst with
  | none=>exact (hs.tmps t).fr hf hs.core.ok
  | some d=>
   have P0:=hd d rfl
   by_cases htd:t=d
   ·subst htd
    show bS μ' h' S' w' (qs env t v t) _
    rw [C9]
    have:((a.put (some t) val).tmps).getD t undef=val:=by
     have bg:t<a.tmps.size:=by rw [hs.size];exact P0
     simp [Act.put,bg]
    rw [this];exact hv
   ·show bS μ' h' S' w' (qs env d v t) _
    rw [Hc env v htd]
    have:((a.put (some d) val).tmps).getD t undef=a.tmps.getD t undef:=by
     simp [Act.put,aJv (aIT htd)]
    rw [this];exact (hs.tmps t).fr hf hs.core.ok
 ·cases dst with
  | none=>exact hs.size
  | some d=>simp [Act.put,hs.size]
 ·cases dst with
  | none=>exact hs.far t ht
  | some d=>
   have P0:=hd d rfl
   show qs env d v t=_
   rw [Hc env v aKK]
   exact hs.far t ht
 ·cases dst with
  | none=>exact hs.defers
  | some d=>exact hs.defers
theorem mH.Da (hs:mH C μ h S env a w) {t:Nat} {b:Bool} (he:env t=.bool b):mH C μ h S (qs env t (.bool b)) a w:=by
 have:qs env t (.bool b)=env:=by
  funext j
  by_cases hj:j=t
  ·subst hj;rw [C9,he]
  ·rw [Hc env _ hj]
 rw [this];exact hs
def yv (C:Start) (Q:XQ):Exit->Act->World->Prop:=λe a w=>∃μ h S env,mH C μ h S env a w/\Q e env h
theorem xn (hs:mH C μ h S env a w) {ops:Array Oper} {j t:Nat} {b:Bool} (hj:(ops.toList[j]?).bind (·.dst)=some t) (he:env t=.bool b):yielded ops a.tmps j=some b:=by
 have hv:=hs.tmps t
 rw [he] at hv
 have hv:=hv.ng
 have bg:t<a.tmps.size:=by
  rcases aIE t a.tmps.size with h1 | h1
  ·exact h1
  ·rw [hs.far t (by rw [<-hs.size];exact h1)] at he;cases he
 unfold yielded
 rw [aHZ] at hj
 rw [hj]
 simp only [aJD]
 have:a.tmps[t]? =some (.bool b):=by
  rw [aIa bg]
  simp [bg] at hv
  rw [hv]
 rw [this]
theorem xo:bS μ h S w (.fv []) undef:=⟨#[],rfl,rfl,λj pv hj=>by simp at hj⟩
theorem tu (hs:mH C μ h S env a w) {ops:Array Oper} {j t:Nat} (hj:(ops.toList[j]?).bind (·.dst)=some t) (he:env t=.fv []):yielded ops a.tmps j=none:=by
 have hv:=hs.tmps t
 rw [he] at hv
 obtain ⟨vs,hv,_⟩:=hv
 unfold yielded
 rw [aHZ] at hj
 rw [hj]
 simp only [aJD]
 rcases aIE t a.tmps.size with h1 | h1
 ·have:a.tmps[t]? =some (.tuple vs):=by
   rw [aIa h1]
   simp [h1] at hv
   rw [hv]
  rw [this]
 ·rw [Array.getElem?_eq_none h1]
theorem xp {K:Env->List ak->Prop} (all:List Oper) (o:Oper) (rest:List Oper) (env:Env) (h:List ak) {j:Nat} {want:Bool} (hg:o.guard=some (j,want)):
  rn P T all K (o::rest) env h=(match (all[j]?).bind (·.dst) with
     | some t=>match env t with
      | .bool b=>gJ b
        (match (generalizing:=false) want with
         | true=>pop P T o.op (qs env t (.bool true)) h (λv h'=>rn P T all K rest (ee (qs env t (.bool true)) o.dst v) h')
         | false=>rn P T all K rest (ee (qs env t (.bool true)) o.dst (.fv [])) h)
        (match (generalizing:=false) want with
         | true=>rn P T all K rest (ee (qs env t (.bool false)) o.dst (.fv [])) h
         | false=>pop P T o.op (qs env t (.bool false)) h (λv h'=>rn P T all K rest (ee (qs env t (.bool false)) o.dst v) h'))
      | .fv []=>rn P T all K rest (ee env o.dst (.fv [])) h
      | _=>False
     | none=>False):=by
 obtain ⟨dst,op,ty,pos,after,guard⟩:=o
 have hg:guard=some (j,want):=hg
 rw [hg]
 rfl
theorem xq (hT:dJ P T) (ops:Array Oper) {K:Env->List ak->Prop} {Q:Exit->Act->World->Prop} (hK:∀env h a w μ S,K env h->mH C μ h S env a w->Q .normal a w):
  ∀(l:List Oper) (env:Env) (h:List ak) (a:Act) (w:World) (μ:Mu) (S:Nat->Prop),rn P T ops.toList K l env h->(∀o∈l,mz C.nt o=true)->mH C μ h S env a w->wpList P ops Q l a w
 | [],env,h,a,w,μ,S,hp,_,hs=>hK env h a w μ S hp hs
 | o::rest,env,h,a,w,μ,S,hp,hd,hs=>by
  have hdo:∀t,o.dst=some t->t<C.nt:=λt ht=>by
   have:=hd o aKN
   unfold mz at this
   rw [ht] at this
   simpa using this
  have hdr:∀o∈rest,mz C.nt o=true:=λo ho=>hd o (by simp [ho])
  have run:∀env',mH C μ h S env' a w->pop P T o.op env' h (λv h'=>rn P T ops.toList K rest (ee env' o.dst v) h')->o.wp P a w (wpList P ops Q rest) Q:=λenv' kr xG=>by
   obtain ⟨dst,op,ty,pos,after,guard⟩:=o
   refine Fs (env:=env') hT kr.core kr.tmps xG _ _ λv val h' μ' S' w' hK' hv hc hf=>?_
   exact xq hT ops hK rest _ h' _ w' μ' S' hK' hdr (kr.put hf hc hv hdo)
  have skip:∀env',mH C μ h S env' a w->rn P T ops.toList K rest (ee env' o.dst (.fv [])) h->wpList P ops Q rest (a.put o.dst undef) w:=λenv' kr xG=>
   xq hT ops hK rest _ h _ w μ S xG hdr (kr.put Fr.refl kr.core xo hdo)
  unfold wpList
  cases hg:o.guard with
  | none=>
   have hp:pop P T o.op env h (λv h'=>rn P T ops.toList K rest (ee env o.dst v) h'):=by
    exact aJS
   rw [if_pos (by simp [Region.wanted,hg])]
   exact .inl (run env hs hp)
  | some p=>
   obtain ⟨j,want⟩:=p
   rw [xp ops.toList o rest env h hg] at hp
   split at hp
   ·rename_i t hj
    split at hp
    ·rename_i b he
     have hy:=xn hs hj he
     obtain ⟨ht,hf⟩:=kQ hp
     have kr:=hs.Da he
     cases b with
     | true=>
      have hp:=ht rfl
      cases want with
      | true=>rw [if_pos aKX];exact .inl (run _ kr hp)
      | false=>rw [if_neg aKX];exact skip _ kr hp
     | false=>
      have hp:=hf rfl
      cases want with
      | true=>rw [if_neg aKX];exact skip _ kr hp
      | false=>rw [if_pos aKX];exact .inl (run _ kr hp)
    ·rename_i he
     rw [if_neg aLt]
     exact skip _ hs hp
    ·exact aKm
   ·exact aKm
end
end Go.Am
