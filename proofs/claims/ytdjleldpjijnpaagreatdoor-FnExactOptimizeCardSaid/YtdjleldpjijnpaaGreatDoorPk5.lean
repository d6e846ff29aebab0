/- Texts of the proof, joined and shortened. -/
import Derived.Test.YtdjleldpjijnpaaGreatDoorPk4
import Derived.DataReads
import Derived.ChangeArms
set_option linter.unusedVariables false
set_option linter.unusedSimpArgs false
set_option maxRecDepth 20000
namespace Go.Am
open Go Go.RowKit Go.Proofs
def bD (S:Nat->Prop) (w:World) (a:List PV) (cs:List Value):Prop:=cs.length=a.length/\∀(j:Nat) (pv:PV),a[j]? =some pv->∃u,cs[j]? =some u/\aR S w pv u
theorem Q0 {α:Type} {l:List α} (h:l.length=2):∃a c,l=[a,c]:=by
 rcases l with _ | ⟨a,_ | ⟨c,_ | ⟨b,l⟩⟩⟩<;>simp at h;exact⟨a,c,rfl⟩
theorem abr {α:Type} {l:List α} (h:l.length=3):∃a c d,l=[a,c,d]:=by
 rcases l with _ | ⟨a,_ | ⟨c,_ | ⟨d,_ | ⟨b,l⟩⟩⟩⟩<;>simp at h;exact⟨a,c,d,rfl⟩
theorem Ym {α:Type} {l:List α} (h:l.length=4):∃a c d e,l=[a,c,d,e]:=by
 rcases l with _ | ⟨a,_ | ⟨c,_ | ⟨d,_ | ⟨e,_ | ⟨b,l⟩⟩⟩⟩⟩<;>simp at h;exact⟨a,c,d,e,rfl⟩
theorem Pc {α:Type} {l:List α} (h:l.length=5):∃a c d e f,l=[a,c,d,e,f]:=by
 rcases l with _ | ⟨a,_ | ⟨c,_ | ⟨d,_ | ⟨e,_ | ⟨f,_ | ⟨b,l⟩⟩⟩⟩⟩⟩<;>simp at h;exact⟨a,c,d,e,f,rfl⟩
theorem abt {α:Type} {l:List α} (h:l.length=6):∃a c d e f g,l=[a,c,d,e,f,g]:=by
 rcases l with _ | ⟨a,_ | ⟨c,_ | ⟨d,_ | ⟨e,_ | ⟨f,_ | ⟨g,_ | ⟨b,l⟩⟩⟩⟩⟩⟩⟩<;>simp at h;exact⟨a,c,d,e,f,g,rfl⟩
theorem len8 {α:Type} {l:List α} (h:l.length=8):∃a c d e f g i j,l=[a,c,d,e,f,g,i,j]:=by
 rcases l with _ | ⟨a,_ | ⟨c,_ | ⟨d,_ | ⟨e,_ | ⟨f,_ | ⟨g,_ | ⟨i,_ | ⟨j,_ | ⟨b,l⟩⟩⟩⟩⟩⟩⟩⟩⟩<;>simp at h;exact⟨a,c,d,e,f,g,i,j,rfl⟩
section
variable {P:Program}{H:Type}{enc:TypeId×Value->H}{w:World}{spare:Nat->Bool}{held:Bool}{S:Nat->Prop}
theorem Vd {α:Type} (cells:α->List PV) (sj:α->Prop) (m:α) {z o:TypeId} {sz:Nat} (hu:P.underlying z=some (.slice o)) (hc:P.cellsOf o=sz) (C:0<sz) (hlen:∀a,(cells a).length=sz)
  (D:∀b,b<w.heap.size->S b) {fuel:Nat} (E:∀n,n<fuel->∀(cs:List Value) (x:DataW H×List MemPlace),DataW.trod enc P w 0 spare held n o cs=some x->∃a,sj a/\bD S w (cells a) cs)
  {e:Value} {x:DataW H×List MemPlace} (h:DataW.trod enc P w 0 spare held fuel z [e]=some x):
  ∃(n:Nat) (f:Nat->α),n<=9223372036854775807/\(∀i,i<n->sj (f i))/\aR S w (.fF sz n (λi=>cells (f i))) e:=by
 rcases DataW.trod_slice hu h with⟨d,_⟩ | ⟨A,len,cap,elems,rest,F,G,d,_,Q,I,J,K,cH,_⟩
 ·simp at d;subst d;exact⟨0,λ_=>m,by omega,λi hi=>absurd hi (ahP _),.qH _ _ _ _⟩
 ·simp at d;subst d;rw[hc]at cH
  have each:∀i,∃a:α,i<len->sj a/\∃g,w.cells? 0 (A.add (i*sz)) sz=some g/\bD S w (cells a) g:=λi=>by
   by_cases hi:i<len
   ·have hg:=cH i hi;rw[abF alV]at hg;obtain⟨g,q1,q2⟩:=Option.bind_eq_some_iff.1 hg;obtain⟨a,L,g2⟩:=E F alV _ _ q2;exact⟨a,λ_=>⟨L,g,q1,g2⟩⟩
   ·exact⟨m,λh=>absurd h hi⟩
  obtain⟨p,B⟩:=Classical.axiomOfChoice each;rcases aiq len with q | c
  ·subst q;exact⟨0,λ_=>m,by omega,λi hi=>absurd hi (ahP _),.qH _ _ _ _⟩
  ·refine⟨len,p,by simp [maxLen]at J;omega,λi hi=>(B i hi).1,?_⟩;obtain⟨l,off,spot⟩:=A
   have r:∀i,i<len->∀j pv,(cells (p i))[j]? =some pv->∃u,w.cell? ((Addr.add ⟨l,off,spot⟩ (i*sz)).add j)=some u/\aR S w pv u:=λi hi j pv hj=>by
    obtain⟨_,g,q1,q2,q3⟩:=B i hi;obtain⟨u,hu,s⟩:=q3 j pv hj;obtain⟨_,_,M⟩:=World.cells?_some q1;have t:j<sz:=by have:=(Is.1 hj).1;rw[hlen]at this;exact this
    exact⟨u,by rw[M j t,hu],s⟩
   have h0:∃pv,(cells (p 0))[0]? =some pv:=⟨_,abF (by rw[hlen];exact C)⟩;obtain⟨N,v⟩:=h0;obtain⟨R,k,_⟩:=r 0 c 0 _ v
   have y:spot=none:=by
    have:=World.cell?_spot k;simpa[Addr.add]using this
   subst y
   have O:l<w.heap.size:=by
    have:=World.block_lt_of_cell? _ _ k;simpa[Addr.add_lit]using this
   refine .fF sz len _ l off cap (λi j=>(w.cell? ⟨l,off+i*sz+j,none⟩).getD undef) (D _ O) (λi hi=>hlen _) I (λi j pv hi hj=>?_) (λi j pv hi hj=>?_)
   ·obtain⟨u,hu,_⟩:=r i hi j pv hj;rw[Addr.add_lit,Addr.add_lit]at hu;rw[hu];rfl
   ·obtain⟨u,hu,s⟩:=r i hi j pv hj;rw[Addr.add_lit,Addr.add_lit]at hu;rw[hu];exact s
end
theorem Ve {P:Program} {H:Type} {enc:TypeId×Value->H} {w:World} {spare:Nat->Bool} {held:Bool} {S:Nat->Prop} {t:TypeId} (hu:P.underlying t=some (.string)) (fuel:Nat) (cs:List Value) (x:DataW H×List MemPlace)
  (h:DataW.trod enc P w 0 spare held fuel t cs=some x):∃l:List UInt8,l.length<=9223372036854775807/\bD S w [.str l] cs:=by
 obtain⟨a,e2,_,hs⟩:=DataW.trod_string hu h;subst e2;obtain⟨⟨l⟩⟩:=a;refine⟨l,by have h':l.length<=maxLen:=hs;simpa[maxLen]using h',rfl,λj pv hj=>?_⟩
 match j with
 | 0=>simp at hj;subst hj;exact⟨_,rfl,.str _⟩
 | j+1=>simp at hj
theorem aeg {H:Type} {enc:TypeId×Value->H} {w:World} {spare:Nat->Bool} {held:Bool} {α:Type} (cells:α->List PV) (sj:α->Prop) {P:Program} {t:TypeId}
  (c:∀(fuel:Nat) (cs:List Value) (x:DataW H×List MemPlace),DataW.trod enc P w 0 spare held fuel t cs=some x->∃a,sj a/\bD (λb=>b<w.heap.size) w (cells a) cs)
  {cs:Array Value} {d:DataW H} {p:List MemPlace} (h:DataW.Trod enc P w 0 spare held t (.agg cs) d p):∃a,sj a/\jz (λ_=>none) [] (λb=>b<w.heap.size) w (.agg (cells a)) (.agg cs):=by
 obtain⟨fuel,hf⟩:=h;obtain⟨a,ha,hl,hc⟩:=c fuel _ _ hf;refine⟨a,ha,cs,rfl,by have h':cs.toList.length=_:=hl;simpa using h',λj pv hj=>?_⟩;obtain⟨u,hu,e⟩:=hc j pv hj;exact⟨u,by have h':cs.toList[j]? =some u:=hu;simpa using h',bK.kN e⟩
theorem L2 {S:Nat->Prop} {w:World} {sz n:Nat} {f g:Nat->List PV} {v:Value} (h:aR S w (.fF sz n f) v) (e:∀i,i<n->f i=g i):aR S w (.fF sz n g) v:=by
 cases h with
 | qH=>exact .qH _ _ _ _
 | fF _ _ _ b off c a d hlen hc k l=>
  exact .fF sz n g b off c a d (λi hi=>by rw[<-e i hi];exact hlen i hi) hc (λi j pv hi hj=>k i j pv hi (by rw[e i hi];exact hj)) (λi j pv hi hj=>l i j pv hi (by rw[e i hi];exact hj))
theorem zg {P:Program} {H:Type} {enc:TypeId×Value->H} {w:World} {spare:Nat->Bool} {held:Bool} {S:Nat->Prop} {α:Type} (cells:α->List PV) (sj:α->Prop) (g:α) {d c:TypeId} {sz:Nat} (hu:P.underlying d=some (.slice c)) (hc:P.cellsOf c=sz) (j:0<sz) (hlen:∀a,(cells a).length=sz)
  (k:∀b,b<w.heap.size->S b) {fuel:Nat} (m:∀n,n<fuel->∀(cs:List Value) (x:DataW H×List MemPlace),DataW.trod enc P w 0 spare held n c cs=some x->∃a,sj a/\bD S w (cells a) cs)
  {e:Value} {x:DataW H×List MemPlace} (h:DataW.trod enc P w 0 spare held fuel d [e]=some x):
  ∃l:List α,l.length<=9223372036854775807/\(∀a∈l,sj a)/\aR S w (sl sz cells l) e:=by
 obtain⟨n,f,h1,h2,h3⟩:=Vd cells sj g hu hc j hlen k m h;have hl:((List.range n).map f).length=n:=by simp
 have hi:∀i,i<n->((List.range n).map f)[i]? =some (f i):=λi hi=>by simp [hi]
 refine⟨(List.range n).map f,by rw[hl];exact h1,λa ha=>?_,?_⟩
 ·obtain⟨i,hi,rfl⟩:=aif.1 ha;exact h2 i (ajk.1 hi)
 ·show aR S w (.fF sz ((List.range n).map f).length (row cells _)) e;rw[hl];exact L2 h3 (λi o=>(kn (hi i o)).symm)
theorem Q2 {P:Program} {f:FuncId} {args:List PV} {vs:Array Value} {w:World} (d:QG (λb=>b<w.heap.size) w) (hA:ACall P f args [] (λres _=>res=.bool true)) (k:vs.size=args.length)
  (ha:∀(j:Nat) (pv:PV),args[j]? =some pv->∃v,vs[j]? =some v/\jz (λ_=>none) [] (λb=>b<w.heap.size) w pv v):
  Calls P f vs w λe w'=>e=.returned (.bool true)/\Below w.heap.size w w':=by
 refine(hA.2 w vs (λ_=>none) (λb=>b<w.heap.size) (λid g sz n e f hid=>by simp at hid) ⟨λb a=>absurd a kC,λb a=>absurd a kC,λb a=>a,λi j g sz n e f l m p q r b o s hi=>by simp at hi,d,λb _ x y z h=>xo h,λb _ _ _ _ _ _ h=>absurd h xo⟩ k ha).mono ?_;rintro e w' ⟨v,res,h',μ',S',rfl,rfl,hv,hH,hM,c⟩;exact⟨by rw[hv.nQ],c.os,c.tape,c.output,c.size,λb a=>c.blocks b a kC⟩
section
variable {H:Type}{enc:TypeId×Value->H}{w:World}{spare:Nat->Bool}{held:Bool}{S:Nat->Prop}
theorem ct3:Tryz.prog.cellsOf 3=1:=by kernel_rfl
theorem ct4:Tryz.prog.cellsOf 4=1:=by kernel_rfl
theorem Vf:Tryz.prog.cellsOf 9=1:=by kernel_rfl
theorem aej:Tryz.prog.cellsOf 22=1:=by kernel_rfl
theorem aek:Tryz.prog.cellsOf 23=1:=by kernel_rfl
theorem ael:Tryz.prog.cellsOf 25=2:=by kernel_rfl
theorem aem:Tryz.prog.cellsOf 40=1:=by kernel_rfl
theorem aen:Tryz.prog.cellsOf 52=1:=by kernel_rfl
theorem aeo:Tryz.prog.cellsOf 53=1:=by kernel_rfl
theorem abv:Tryz.prog.cellsOf 55=6:=by kernel_rfl
theorem aep:Tryz.prog.cellsOf 57=1:=by kernel_rfl
theorem aeq:Tryz.prog.cellsOf 58=1:=by kernel_rfl
theorem abw:Tryz.prog.cellsOf 60=4:=by kernel_rfl
theorem Q3:Tryz.prog.cellsOf 140=2:=by kernel_rfl
theorem W7:Tryz.prog.cellsOf 142=5:=by kernel_rfl
theorem abx:Tryz.prog.cellsOf 144=1:=by kernel_rfl
theorem Q4:Tryz.prog.cellsOf 146=5:=by kernel_rfl
theorem W8:Tryz.prog.cellsOf 148=8:=by kernel_rfl
theorem W9:Tryz.prog.cellsOf 150=5:=by kernel_rfl
theorem Xa:Tryz.prog.cellsOf 215=3:=by kernel_rfl
theorem Xb:Tryz.prog.cellsOf 217=8:=by kernel_rfl
structure TParam.Ok (a:TParam):Prop where
 h0:a.ay.length<=9223372036854775807
theorem TParam.pU {w:World} {S:Nat->Prop} {cs:List Value} (h:∃a:TParam,a.Ok/\bD S w a.lit cs):∃a:TParam,a.Ok/\bD S w a.cells cs:=by
 obtain⟨a,h1,h2⟩:=h;exact⟨a,h1,by rw[TParam.aj];exact h2⟩
theorem C1 (l:∀b,b<w.heap.size->S b) (fuel:Nat) (cs:List Value) (x:DataW H×List MemPlace) (h:DataW.trod enc Tryz.prog w 0 spare held fuel 140 cs=some x):∃a:TParam,a.Ok/\bD S w a.lit cs:=by
 obtain⟨xs,n,hn,_,hl,hlen,hf⟩:=DataW.trod_struct Tryz.underlying140 h;have h0:=hf 0 _ rfl;have h1:=hf 1 _ rfl;rw[Q3]at hl;obtain⟨z0,e,rfl⟩:=Q0 hl;obtain⟨m,o,rfl⟩:=Q0 (show xs.length=2 from hlen);simp [ct4,Vf]at h0 h1;obtain⟨f,g,_,c⟩:=DataW.trod_string Tryz.underlying9 h0;obtain rfl:z0=_:=by simpa using g
 obtain⟨⟨d⟩⟩:=f;replace c:d.length<=9223372036854775807:=by have h':d.length<=maxLen:=c;simpa[maxLen]using h'
 obtain⟨i,k,_⟩:=DataW.trod_bool Tryz.underlying4 h1;obtain rfl:e=_:=by simpa using k
 refine⟨.mk d i,⟨c⟩,rfl,λj pv hj=>?_⟩
 match j with
 | 0=>cases hj;exact⟨_,rfl,.str _⟩
 | 1=>cases hj;exact⟨_,rfl,.bool _⟩
 | j+2=>simp [TParam.lit,sl]at hj
structure ak.Ok (a:ak):Prop where
 h0:a.fS.length<=9223372036854775807
 h1:a.fT.length<=9223372036854775807
theorem ak.pU {w:World} {S:Nat->Prop} {cs:List Value} (h:∃a:ak,a.Ok/\bD S w a.lit cs):∃a:ak,a.Ok/\bD S w a.cells cs:=by
 obtain⟨a,h1,h2⟩:=h;exact⟨a,h1,by rw[ak.aj];exact h2⟩
theorem Q5 (t:∀b,b<w.heap.size->S b) (fuel:Nat) (cs:List Value) (x:DataW H×List MemPlace) (h:DataW.trod enc Tryz.prog w 0 spare held fuel 142 cs=some x):∃a:ak,a.Ok/\bD S w a.lit cs:=by
 obtain⟨xs,n,hn,_,hl,hlen,hf⟩:=DataW.trod_struct Tryz.underlying142 h;have h0:=hf 0 _ rfl;have h1:=hf 1 _ rfl;have h2:=hf 2 _ rfl;have h3:=hf 3 _ rfl;have h4:=hf 4 _ rfl;rw[W7]at hl;obtain⟨z0,e,z2,f,g,rfl⟩:=Pc hl;obtain⟨u,v,y,z,A,rfl⟩:=Pc (show xs.length=5 from hlen);simp [ct3,Vf]at h0 h1 h2 h3 h4;obtain⟨i,k,_⟩:=DataW.trod_int Tryz.underlying3 h0;obtain rfl:z0=_:=by simpa using k
 obtain⟨l,m,_⟩:=DataW.trod_int Tryz.underlying3 h1;obtain rfl:e=_:=by simpa using m
 obtain⟨o,e2,_⟩:=DataW.trod_int Tryz.underlying3 h2;obtain rfl:z2=_:=by simpa using e2
 obtain⟨p,q,_,q3⟩:=DataW.trod_string Tryz.underlying9 h3;obtain rfl:f=_:=by simpa using q
 obtain⟨⟨c⟩⟩:=p;replace q3:c.length<=9223372036854775807:=by have h':c.length<=maxLen:=q3;simpa[maxLen]using h'
 obtain⟨r,s,_,q4⟩:=DataW.trod_string Tryz.underlying9 h4;obtain rfl:g=_:=by simpa using s
 obtain⟨⟨d⟩⟩:=r;replace q4:d.length<=9223372036854775807:=by have h':d.length<=maxLen:=q4;simpa[maxLen]using h'
 refine⟨.mk i l o c d,⟨q3,q4⟩,rfl,λj pv hj=>?_⟩
 match j with
 | 0=>cases hj;exact⟨_,rfl,.int _ _⟩
 | 1=>cases hj;exact⟨_,rfl,.int _ _⟩
 | 2=>cases hj;exact⟨_,rfl,.int _ _⟩
 | 3=>cases hj;exact⟨_,rfl,.str _⟩
 | 4=>cases hj;exact⟨_,rfl,.str _⟩
 | j+5=>simp [ak.lit,sl]at hj
structure ar.Ok (a:ar):Prop where
 h0:a.ay.length<=9223372036854775807
 h1:a.ao.length<=9223372036854775807
 h2:∀x∈a.ao,TParam.Ok x
 h3:a.aI.length<=9223372036854775807
 h4:∀x∈a.aI,TParam.Ok x
 h5:a.au.length<=9223372036854775807
 h6:∀x∈a.au,x.length<=9223372036854775807
 h7:a.ah.length<=9223372036854775807
 h8:∀x∈a.ah,ak.Ok x
theorem ar.pU {w:World} {S:Nat->Prop} {cs:List Value} (h:∃a:ar,a.Ok/\bD S w a.lit cs):∃a:ar,a.Ok/\bD S w a.cells cs:=by
 obtain⟨a,h1,h2⟩:=h;exact⟨a,h1,by rw[ar.aj];exact h2⟩
theorem Pe (c:∀b,b<w.heap.size->S b) (fuel:Nat) (cs:List Value) (x:DataW H×List MemPlace) (h:DataW.trod enc Tryz.prog w 0 spare held fuel 55 cs=some x):∃a:ar,a.Ok/\bD S w a.lit cs:=by
 obtain⟨xs,n,hn,_,hl,hlen,hf⟩:=DataW.trod_struct Tryz.underlying55 h;have h0:=hf 0 _ rfl;have h1:=hf 1 _ rfl;have h2:=hf 2 _ rfl;have h3:=hf 3 _ rfl;have h4:=hf 4 _ rfl;have h5:=hf 5 _ rfl;rw[abv]at hl;obtain⟨z0,D,z2,E,f,F,rfl⟩:=abt hl;obtain⟨G,I,J,K,L,M,rfl⟩:=abt (show xs.length=6 from hlen);simp [ct4,Vf,aem,aen,aeo]at h0 h1 h2 h3 h4 h5;obtain⟨g,i,_,d⟩:=DataW.trod_string Tryz.underlying9 h0;obtain rfl:z0=_:=by simpa using i
 obtain⟨⟨e⟩⟩:=g;replace d:e.length<=9223372036854775807:=by have h':e.length<=maxLen:=d;simpa[maxLen]using h'
 obtain⟨k,q1,o,p⟩:=zg TParam.cells TParam.Ok default Tryz.underlying52 Q3 ama (λa=>by rw[TParam.aj];rfl) c (λm hm cs x h=>TParam.pU (C1 c m cs x h)) h1;obtain⟨q,q2,g2,r⟩:=zg TParam.cells TParam.Ok default Tryz.underlying52 Q3 ama (λa=>by rw[TParam.aj];rfl) c (λm hm cs x h=>TParam.pU (C1 c m cs x h)) h2;obtain⟨s,q3,t,u⟩:=zg cS (λl=>l.length<=9223372036854775807) [] Tryz.underlying40 Vf ama (λ_=>rfl) c (λm _ cs x h=>Ve Tryz.underlying9 m cs x h) h3;obtain⟨v,y,_⟩:=DataW.trod_bool Tryz.underlying4 h4;obtain rfl:f=_:=by simpa using y
 obtain⟨z,A,B,C⟩:=zg ak.cells ak.Ok default Tryz.underlying53 W7 ama (λa=>by rw[ak.aj];rfl) c (λm hm cs x h=>ak.pU (Q5 c m cs x h)) h5;refine⟨.mk e k q s v z,⟨d,q1,o,q2,g2,q3,t,A,B⟩,rfl,λj pv hj=>?_⟩
 match j with
 | 0=>cases hj;exact⟨_,rfl,.str _⟩
 | 1=>cases hj;exact⟨_,rfl,p⟩
 | 2=>cases hj;exact⟨_,rfl,r⟩
 | 3=>cases hj;exact⟨_,rfl,u⟩
 | 4=>cases hj;exact⟨_,rfl,.bool _⟩
 | 5=>cases hj;exact⟨_,rfl,C⟩
 | j+6=>simp [ar.lit,sl]at hj
structure bW.Ok (a:bW):Prop where
 h0:a.bq.length<=9223372036854775807
theorem bW.pU {w:World} {S:Nat->Prop} {cs:List Value} (h:∃a:bW,a.Ok/\bD S w a.lit cs):∃a:bW,a.Ok/\bD S w a.cells cs:=by
 obtain⟨a,h1,h2⟩:=h;exact⟨a,h1,by rw[bW.aj];exact h2⟩
theorem Q6 (l:∀b,b<w.heap.size->S b) (fuel:Nat) (cs:List Value) (x:DataW H×List MemPlace) (h:DataW.trod enc Tryz.prog w 0 spare held fuel 215 cs=some x):∃a:bW,a.Ok/\bD S w a.lit cs:=by
 obtain⟨xs,n,hn,_,hl,hlen,hf⟩:=DataW.trod_struct Tryz.underlying215 h;have h0:=hf 0 _ rfl;have h1:=hf 1 _ rfl;have h2:=hf 2 _ rfl;rw[Xa]at hl;obtain⟨z0,d,z2,rfl⟩:=abr hl;obtain⟨m,o,p,rfl⟩:=abr (show xs.length=3 from hlen);simp [ct3,ct4,Vf]at h0 h1 h2;obtain⟨e,f,_⟩:=DataW.trod_bool Tryz.underlying4 h0;obtain rfl:z0=_:=by simpa using f
 obtain⟨g,i,_⟩:=DataW.trod_int Tryz.underlying3 h1;obtain rfl:d=_:=by simpa using i
 obtain⟨k,e2,_,q2⟩:=DataW.trod_string Tryz.underlying9 h2;obtain rfl:z2=_:=by simpa using e2
 obtain⟨⟨c⟩⟩:=k;replace q2:c.length<=9223372036854775807:=by have h':c.length<=maxLen:=q2;simpa[maxLen]using h'
 refine⟨.mk e g c,⟨q2⟩,rfl,λj pv hj=>?_⟩
 match j with
 | 0=>cases hj;exact⟨_,rfl,.bool _⟩
 | 1=>cases hj;exact⟨_,rfl,.int _ _⟩
 | 2=>cases hj;exact⟨_,rfl,.str _⟩
 | j+3=>simp [bW.lit,sl]at hj
mutual
inductive af.Ok:af->Prop where
 | mk (a0:bW) (a1:ae) (h0:bW.Ok a0) (h1:ae.Ok a1):af.Ok (.mk a0 a1)
inductive ae.Ok:ae->Prop where
 | mk (a0:Int) (a1:Int) (a2:aW) (a3:Int) (a4:List af) (h0:a2.length<=9223372036854775807) (h1:a4.length<=9223372036854775807) (h2:∀x∈a4,af.Ok x):ae.Ok (.mk a0 a1 a2 a3 a4)
end
theorem af.Ok.inv {a:af} (h:a.Ok):(bW.Ok a.ba)/\(ae.Ok a.a8):=by
 cases h;exact⟨by assumption,by assumption⟩
theorem ae.Ok.inv {a:ae} (h:a.Ok):(a.bq.length<=9223372036854775807)/\(a.aw.length<=9223372036854775807)/\(∀x∈a.aw,af.Ok x):=by
 cases h;exact⟨by assumption,by assumption,by assumption⟩
theorem af.pU {w:World} {S:Nat->Prop} {cs:List Value} (h:∃a:af,a.Ok/\bD S w a.lit cs):∃a:af,a.Ok/\bD S w a.cells cs:=by
 obtain⟨a,h1,h2⟩:=h;exact⟨a,h1,by rw[af.aj];exact h2⟩
theorem ae.pU {w:World} {S:Nat->Prop} {cs:List Value} (h:∃a:ae,a.Ok/\bD S w a.lit cs):∃a:ae,a.Ok/\bD S w a.cells cs:=by
 obtain⟨a,h1,h2⟩:=h;exact⟨a,h1,by rw[ae.aj];exact h2⟩
theorem JH (i:∀b,b<w.heap.size->S b):∀fuel:Nat,(∀(cs:List Value) (x:DataW H×List MemPlace),DataW.trod enc Tryz.prog w 0 spare held fuel 217 cs=some x->∃a:af,a.Ok/\bD S w a.lit cs)/\(∀(cs:List Value) (x:DataW H×List MemPlace),DataW.trod enc Tryz.prog w 0 spare held fuel 146 cs=some x->∃a:ae,a.Ok/\bD S w a.lit cs):=by
 intro fuel;induction fuel using Nat.strongRecOn with
 | _ fuel k=>
  refine⟨?_,?_⟩
  ·intro cs x h;obtain⟨xs,n,hn,_,hl,hlen,hf⟩:=DataW.trod_struct Tryz.underlying217 h;have h0:=hf 0 _ rfl;have h1:=hf 1 _ rfl;rw[Xb]at hl;obtain⟨z0,l,z2,o,p,D,E,F,rfl⟩:=len8 hl;obtain⟨q,r,rfl⟩:=Q0 (show xs.length=2 from hlen);simp [Q4,Xa]at h0 h1;obtain⟨d,s,e⟩:=Q6 i n _ _ h0;obtain⟨f,q1,c⟩:=(k n alV).2 _ _ h1;refine⟨.mk d f,.mk _ _ s q1,rfl,λj pv hj=>?_⟩
   match j with
   | 0=>exact e.2 0 pv hj
   | 1=>exact e.2 1 pv hj
   | 2=>exact e.2 2 pv hj
   | 3=>exact c.2 0 pv hj
   | 4=>exact c.2 1 pv hj
   | 5=>exact c.2 2 pv hj
   | 6=>exact c.2 3 pv hj
   | 7=>exact c.2 4 pv hj
   | j+8=>simp [af.lit,sl]at hj
  ·intro cs x h;obtain⟨xs,n,hn,_,hl,hlen,hf⟩:=DataW.trod_struct Tryz.underlying146 h;have h0:=hf 0 _ rfl;have h1:=hf 1 _ rfl;have h2:=hf 2 _ rfl;have h3:=hf 3 _ rfl;have h4:=hf 4 _ rfl;rw[Q4]at hl;obtain⟨z0,l,z2,o,p,rfl⟩:=Pc hl;obtain⟨q,r,G,I,J,rfl⟩:=Pc (show xs.length=5 from hlen);simp [ct3,Vf,abx]at h0 h1 h2 h3 h4;obtain⟨d,t,_⟩:=DataW.trod_int Tryz.underlying3 h0;obtain rfl:z0=_:=by simpa using t
   obtain⟨f,u,_⟩:=DataW.trod_int Tryz.underlying3 h1;obtain rfl:l=_:=by simpa using u
   obtain⟨v,e2,_,q2⟩:=DataW.trod_string Tryz.underlying9 h2;obtain rfl:z2=_:=by simpa using e2
   obtain⟨⟨g⟩⟩:=v;replace q2:g.length<=9223372036854775807:=by have h':g.length<=maxLen:=q2;simpa[maxLen]using h'
   obtain⟨y,z,_⟩:=DataW.trod_int Tryz.underlying3 h3;obtain rfl:o=_:=by simpa using z
   obtain⟨A,q4,B,C⟩:=zg af.cells af.Ok default Tryz.underlying144 Xb ama (λa=>by rw[af.aj];rfl) i (λm hm cs x h=>af.pU ((k m alV).1 cs x h)) h4;refine⟨.mk d f g y A,.mk _ _ _ _ _ q2 q4 B,rfl,λj pv hj=>?_⟩
   match j with
   | 0=>cases hj;exact⟨_,rfl,.int _ _⟩
   | 1=>cases hj;exact⟨_,rfl,.int _ _⟩
   | 2=>cases hj;exact⟨_,rfl,.str _⟩
   | 3=>cases hj;exact⟨_,rfl,.int _ _⟩
   | 4=>cases hj;exact⟨_,rfl,C⟩
   | j+5=>simp [ae.lit,sl]at hj
theorem L3 (c:∀b,b<w.heap.size->S b) (fuel:Nat) (cs:List Value) (x:DataW H×List MemPlace) (h:DataW.trod enc Tryz.prog w 0 spare held fuel 146 cs=some x):∃a:ae,a.Ok/\bD S w a.lit cs:=(JH c fuel).2 cs x h
structure aC.Ok (a:aC):Prop where
 h0:a.ay.length<=9223372036854775807
 h1:a.bL.length<=9223372036854775807
 h2:ae.Ok a.aQ
theorem aC.pU {w:World} {S:Nat->Prop} {cs:List Value} (h:∃a:aC,a.Ok/\bD S w a.lit cs):∃a:aC,a.Ok/\bD S w a.cells cs:=by
 obtain⟨a,h1,h2⟩:=h;exact⟨a,h1,by rw[aC.aj];exact h2⟩
theorem L4 (g:∀b,b<w.heap.size->S b) (fuel:Nat) (cs:List Value) (x:DataW H×List MemPlace) (h:DataW.trod enc Tryz.prog w 0 spare held fuel 148 cs=some x):∃a:aC,a.Ok/\bD S w a.lit cs:=by
 obtain⟨xs,n,hn,_,hl,hlen,hf⟩:=DataW.trod_struct Tryz.underlying148 h;have h0:=hf 0 _ rfl;have h1:=hf 1 _ rfl;have h2:=hf 2 _ rfl;have h3:=hf 3 _ rfl;rw[W8]at hl;obtain⟨z0,i,z2,r,s,t,u,v,rfl⟩:=len8 hl;obtain⟨y,z,A,B,rfl⟩:=Ym (show xs.length=4 from hlen);simp [ct4,Vf,Q4]at h0 h1 h2 h3;obtain⟨k,l,_,d⟩:=DataW.trod_string Tryz.underlying9 h0;obtain rfl:z0=_:=by simpa using l
 obtain⟨⟨e⟩⟩:=k;replace d:e.length<=9223372036854775807:=by have h':e.length<=maxLen:=d;simpa[maxLen]using h'
 obtain⟨m,o,_,q1⟩:=DataW.trod_string Tryz.underlying9 h1;obtain rfl:i=_:=by simpa using o
 obtain⟨⟨f⟩⟩:=m;replace q1:f.length<=9223372036854775807:=by have h':f.length<=maxLen:=q1;simpa[maxLen]using h'
 obtain⟨p,e2,_⟩:=DataW.trod_bool Tryz.underlying4 h2;obtain rfl:z2=_:=by simpa using e2
 obtain⟨q,q3,c⟩:=L3 g n _ _ h3;refine⟨.mk e f p q,⟨d,q1,q3⟩,rfl,λj pv hj=>?_⟩
 match j with
 | 0=>cases hj;exact⟨_,rfl,.str _⟩
 | 1=>cases hj;exact⟨_,rfl,.str _⟩
 | 2=>cases hj;exact⟨_,rfl,.bool _⟩
 | 3=>exact c.2 0 pv hj
 | 4=>exact c.2 1 pv hj
 | 5=>exact c.2 2 pv hj
 | 6=>exact c.2 3 pv hj
 | 7=>exact c.2 4 pv hj
 | j+8=>simp [aC.lit,sl]at hj
structure aD.Ok (a:aD):Prop where
 h0:a.ay.length<=9223372036854775807
 h1:a.bL.length<=9223372036854775807
 h2:a.me.length<=9223372036854775807
theorem aD.pU {w:World} {S:Nat->Prop} {cs:List Value} (h:∃a:aD,a.Ok/\bD S w a.lit cs):∃a:aD,a.Ok/\bD S w a.cells cs:=by
 obtain⟨a,h1,h2⟩:=h;exact⟨a,h1,by rw[aD.aj];exact h2⟩
theorem JI (v:∀b,b<w.heap.size->S b) (fuel:Nat) (cs:List Value) (x:DataW H×List MemPlace) (h:DataW.trod enc Tryz.prog w 0 spare held fuel 150 cs=some x):∃a:aD,a.Ok/\bD S w a.lit cs:=by
 obtain⟨xs,n,hn,_,hl,hlen,hf⟩:=DataW.trod_struct Tryz.underlying150 h;have h0:=hf 0 _ rfl;have h1:=hf 1 _ rfl;have h2:=hf 2 _ rfl;have h3:=hf 3 _ rfl;have h4:=hf 4 _ rfl;rw[W9]at hl;obtain⟨z0,g,z2,i,k,rfl⟩:=Pc hl;obtain⟨y,z,A,B,C,rfl⟩:=Pc (show xs.length=5 from hlen);simp [ct4,Vf]at h0 h1 h2 h3 h4;obtain⟨l,m,_,c⟩:=DataW.trod_string Tryz.underlying9 h0;obtain rfl:z0=_:=by simpa using m
 obtain⟨⟨d⟩⟩:=l;replace c:d.length<=9223372036854775807:=by have h':d.length<=maxLen:=c;simpa[maxLen]using h'
 obtain⟨o,p,_,q1⟩:=DataW.trod_string Tryz.underlying9 h1;obtain rfl:g=_:=by simpa using p
 obtain⟨⟨e⟩⟩:=o;replace q1:e.length<=9223372036854775807:=by have h':e.length<=maxLen:=q1;simpa[maxLen]using h'
 obtain⟨q,e2,_,q2⟩:=DataW.trod_string Tryz.underlying9 h2;obtain rfl:z2=_:=by simpa using e2
 obtain⟨⟨f⟩⟩:=q;replace q2:f.length<=9223372036854775807:=by have h':f.length<=maxLen:=q2;simpa[maxLen]using h'
 obtain⟨r,s,_⟩:=DataW.trod_bool Tryz.underlying4 h3;obtain rfl:i=_:=by simpa using s
 obtain⟨t,u,_⟩:=DataW.trod_bool Tryz.underlying4 h4;obtain rfl:k=_:=by simpa using u
 refine⟨.mk d e f r t,⟨c,q1,q2⟩,rfl,λj pv hj=>?_⟩
 match j with
 | 0=>cases hj;exact⟨_,rfl,.str _⟩
 | 1=>cases hj;exact⟨_,rfl,.str _⟩
 | 2=>cases hj;exact⟨_,rfl,.str _⟩
 | 3=>cases hj;exact⟨_,rfl,.bool _⟩
 | 4=>cases hj;exact⟨_,rfl,.bool _⟩
 | j+5=>simp [aD.lit,sl]at hj
structure aq.Ok (a:aq):Prop where
 h0:a.ay.length<=9223372036854775807
 h1:a.cE.length<=9223372036854775807
 h2:a.aM.length<=9223372036854775807
 h3:∀x∈a.aM,aC.Ok x
 h4:a.aP.length<=9223372036854775807
 h5:∀x∈a.aP,aD.Ok x
theorem aq.pU {w:World} {S:Nat->Prop} {cs:List Value} (h:∃a:aq,a.Ok/\bD S w a.lit cs):∃a:aq,a.Ok/\bD S w a.cells cs:=by
 obtain⟨a,h1,h2⟩:=h;exact⟨a,h1,by rw[aq.aj];exact h2⟩
theorem L5 (c:∀b,b<w.heap.size->S b) (fuel:Nat) (cs:List Value) (x:DataW H×List MemPlace) (h:DataW.trod enc Tryz.prog w 0 spare held fuel 60 cs=some x):∃a:aq,a.Ok/\bD S w a.lit cs:=by
 obtain⟨xs,n,hn,_,hl,hlen,hf⟩:=DataW.trod_struct Tryz.underlying60 h;have h0:=hf 0 _ rfl;have h1:=hf 1 _ rfl;have h2:=hf 2 _ rfl;have h3:=hf 3 _ rfl;rw[abw]at hl;obtain⟨z0,g,z2,u,rfl⟩:=Ym hl;obtain⟨v,y,z,A,rfl⟩:=Ym (show xs.length=4 from hlen);simp [Vf,aep,aeq]at h0 h1 h2 h3;obtain⟨i,k,_,d⟩:=DataW.trod_string Tryz.underlying9 h0;obtain rfl:z0=_:=by simpa using k
 obtain⟨⟨e⟩⟩:=i;replace d:e.length<=9223372036854775807:=by have h':e.length<=maxLen:=d;simpa[maxLen]using h'
 obtain⟨l,o,_,q1⟩:=DataW.trod_string Tryz.underlying9 h1;obtain rfl:g=_:=by simpa using o
 obtain⟨⟨f⟩⟩:=l;replace q1:f.length<=9223372036854775807:=by have h':f.length<=maxLen:=q1;simpa[maxLen]using h'
 obtain⟨p,q2,g2,q⟩:=zg aC.cells aC.Ok default Tryz.underlying57 W8 ama (λa=>by rw[aC.aj];rfl) c (λm hm cs x h=>aC.pU (L4 c m cs x h)) h2;obtain⟨r,q3,s,t⟩:=zg aD.cells aD.Ok default Tryz.underlying58 W9 ama (λa=>by rw[aD.aj];rfl) c (λm hm cs x h=>aD.pU (JI c m cs x h)) h3;refine⟨.mk e f p r,⟨d,q1,q2,g2,q3,s⟩,rfl,λj pv hj=>?_⟩
 match j with
 | 0=>cases hj;exact⟨_,rfl,.str _⟩
 | 1=>cases hj;exact⟨_,rfl,.str _⟩
 | 2=>cases hj;exact⟨_,rfl,q⟩
 | 3=>cases hj;exact⟨_,rfl,t⟩
 | j+4=>simp [aq.lit,sl]at hj
structure aE.Ok (a:aE):Prop where
 h0:a.aK.length<=9223372036854775807
 h1:∀x∈a.aK,ar.Ok x
 h2:a.aH.length<=9223372036854775807
 h3:∀x∈a.aH,aq.Ok x
theorem aE.pU {w:World} {S:Nat->Prop} {cs:List Value} (h:∃a:aE,a.Ok/\bD S w a.lit cs):∃a:aE,a.Ok/\bD S w a.cells cs:=by
 obtain⟨a,h1,h2⟩:=h;exact⟨a,h1,by rw[aE.aj];exact h2⟩
theorem Hr (c:∀b,b<w.heap.size->S b) (fuel:Nat) (cs:List Value) (x:DataW H×List MemPlace) (h:DataW.trod enc Tryz.prog w 0 spare held fuel 25 cs=some x):∃a:aE,a.Ok/\bD S w a.lit cs:=by
 obtain⟨xs,n,hn,_,hl,hlen,hf⟩:=DataW.trod_struct Tryz.underlying25 h;have h0:=hf 0 _ rfl;have h1:=hf 1 _ rfl;rw[ael]at hl;obtain⟨z0,o,rfl⟩:=Q0 hl;obtain⟨p,q,rfl⟩:=Q0 (show xs.length=2 from hlen);simp [aej,aek]at h0 h1;obtain⟨d,e,f,g⟩:=zg ar.cells ar.Ok default Tryz.underlying22 abv ama (λa=>by rw[ar.aj];rfl) c (λm hm cs x h=>ar.pU (Pe c m cs x h)) h0;obtain⟨i,q1,k,l⟩:=zg aq.cells aq.Ok default Tryz.underlying23 abw ama (λa=>by rw[aq.aj];rfl) c (λm hm cs x h=>aq.pU (L5 c m cs x h)) h1;refine⟨.mk d i,⟨e,f,q1,k⟩,rfl,λj pv hj=>?_⟩
 match j with
 | 0=>cases hj;exact⟨_,rfl,g⟩
 | 1=>cases hj;exact⟨_,rfl,l⟩
 | j+2=>simp [aE.lit,sl]at hj
end
end Go.Am
namespace Go.Am
open Go Go.RowKit
def Vg (f:Nat->List PV):Prop:=∀g:PV->PV,(∀x,bx x=true\/dj x=true->g x=x)->(λi=>(f i).map g)=f
theorem DR.Yo {α:Type} {D:List PV->α->Prop} {c:α->List PV} [hc:Jv D c] {n:Nat} {f:Nat->List PV} {l:List α} (d:DR D n f l):Vg f:=λg hg=>d.ren (c:=c) hg
theorem C2 {α:Type} {c:α->List PV} [hp:sf c] {l:List α}:Vg (row c l):=λg hg=>by
 funext i;exact Hs (λx a=>hg x (.inl (ahC.1 (jD hp.pure i) x a)))
theorem C3 {cs:List PV} (h:cs.all bx=true):Vg (λ_=>cs):=λg hg=>by
 funext i;exact Hs (λx a=>hg x (.inl (ahC.1 h x a)))
theorem rfx {f:Nat->List PV} (h:Vg f) (σ:Nat->Nat) (g sz n:Nat) (e:TypeId):uA σ (.row g sz n e f)=.row g sz n e f:=by
 show al.row g sz n e (λi=>(f i).map (nf σ))=_;rw[h _ (λx=>Q7)]
theorem C4 {cs:List PV} {σ:Nat->Nat} {g sz n:Nat} {e:TypeId}:uA σ (.row g sz n e (λ_=>cs))=.row g sz n e (λ_=>cs.map (nf σ)):=rfl
theorem AQ {σ:Nat->Nat}:uA σ .dead=.dead:=rfl
theorem nx {h h0 h1:List al} {is:List Nat} {r0 r1:PV} {K:PV->List al->Prop} (k:K r1 h1)
  (a:Ca (eo is h.length) r0=r1:=by simp only[Ca,zh,nf,eo,ahE,ahR,ahN,aii,aiJ,aiu,aiZ,Nat.reduceAdd,Nat.reduceSub];rfl)
  (hh:vI h is h0=h1:=by
   simp (disch:=first | rfl | exact DR.Yo ame | exact C2 | exact C3 rfl) only[vI,nR,rfx,C4,AQ,nf,eo,ahE,ahR,ajn,aib,List.drop_nil,ahN,aii,ajG,ajH,aiV,aiC,aiJ,aiu,aiZ,Nat.reduceAdd,Nat.reduceSub];rfl):∃r1 h1,Ca (eo is h.length) r0=r1/\vI h is h0=h1/\K r1 h1:=⟨r1,h1,a,hh,k⟩
section
variable {P:Program}{f:FuncId}{h:List al}{K:PV->List al->Prop}{r0 r1:PV}{h0 h1:List al}
theorem Q8 {hc:List al} {args a:List PV} (hA:ACall P f args hc (λres h=>res=r0/\h=h0)) (is:List Nat) (b:Xc h (eo is h.length) hc is) (k:K r1 h1)
  (c:Ca (eo is h.length) r0=r1:=by simp only[Ca,zh,nf,eo,ahE,ahR,ahN,aii,aiJ,aiu,aiZ,Nat.reduceAdd,Nat.reduceSub];rfl)
  (hh:vI h is h0=h1:=by
   simp (disch:=first | rfl | exact DR.Yo ame | exact C2 | exact C3 rfl) only[vI,nR,rfx,C4,AQ,nf,eo,ahE,ahR,ajn,aib,List.drop_nil,ahN,aii,ajG,ajH,aiV,aiC,aiJ,aiu,aiZ,Nat.reduceAdd,Nat.reduceSub];rfl)
  (hl:hc.length=is.length:=by rfl) (hd:is.Nodup:=by decide) (d:is.all (λid=>Nat.blt id h.length)=true:=by rfl) (e:a=args.map (zh (eo is h.length)):=by rfl):vV P f a h K:=
 ⟨_,hA.Q9 is h b hl hd d e,by rintro _ _ ⟨_,_,⟨rfl,rfl⟩,rfl,rfl⟩;rw[c,hh];exact k⟩
theorem UL {α:Type} {D:List PV->α->Prop} {n:Nat} {l:List α} {hc:List al} {args a:List PV} {X b:(Nat->List PV)->PV} {H H1:(Nat->List PV)->List al} (hA:ACall P f args hc (λres h=>∃F,DR D n F l/\res=X F/\h=H F)) (is:List Nat) (c:Xc h (eo is h.length) hc is) (k:∀F,DR D n F l->K (b F) (H1 F))
  (e:∀F,DR D n F l->Ca (eo is h.length) (X F)=b F:=by intro F d;simp only[Ca,zh,nf,eo,ahE,ahR,ahN,aii,aiJ,aiu,aiZ,Nat.reduceAdd,Nat.reduceSub];rfl)
  (hh:∀F,DR D n F l->vI h is (H F)=H1 F:=by
   intro F d;simp (disch:=first | rfl | exact DR.Yo ame | exact C2 | exact C3 rfl) only[vI,nR,rfx,C4,AQ,nf,eo,ahE,ahR,ajn,aib,List.drop_nil,ahN,aii,ajG,ajH,aiV,aiC,aiJ,aiu,aiZ,Nat.reduceAdd,Nat.reduceSub];rfl)
  (hl:hc.length=is.length:=by rfl) (hd:is.Nodup:=by decide) (g:is.all (λid=>Nat.blt id h.length)=true:=by rfl) (i:a=args.map (zh (eo is h.length)):=by rfl):vV P f a h K:=
 ⟨_,hA.Q9 is h c hl hd g i,by rintro _ _ ⟨_,_,⟨F,d,rfl,rfl⟩,rfl,rfl⟩;rw[e F d,hh F d];exact k F d⟩
end
theorem aG {a b:List PV} {off:Nat} {f:Nat->List PV}:∀j,j<1->ng (bP f 0 (eF a off b) j) ((λ_=>eF a off b) j):=one_set rfl
section
variable {h:List al}{id sub g sz n g2 oZ n2:Nat}{e e2:TypeId}{f2:Nat->List PV}{i j:Nat}{F:Nat->Prop}
theorem AI {f:Nat->List PV} {a b:List PV} (hi:i<n) (hp:∀k,k<n2->∀x,x∈f2 k->bx x=true\/dj x=true) (d:h[id]? =some (.row g sz n e (bP f i a)):=by rfl) (hj:a[j]? =some (.own sub g2 0 n2):=by rfl)
  (c:h[sub]? =some (.row g2 oZ n2 e2 f2):=by rfl) (hs:a.set j (.bu oZ n2 e2 f2 F)=b:=by rfl) (l:id≠sub:=by decide) {h2:List al} (h3:h2=(h.set id (.row g sz n e (bP f i b))).set sub .dead:=by rfl):Ht h id i j sub F h2:=
 aer a b (bP f i b) hi bh bh qI hp hj hs.symm d c l h3
end
theorem Fz.oe {h η:List al} {k:List Nat} {id a g b sz i j c n2 d:Nat} {e l:TypeId} {f m:Nat->List PV} (h1:c=n2:=by first | rfl | exact DR.len ame | exact(DR.len ame).symm) (h2:n2=d:=by first | rfl | exact DR.len ame | exact(DR.len ame).symm) (n:k[a]? =some id:=by rfl) (o:h[id]? =some (al.row g sz j e f):=by rfl) (hη:η[a]? =some (al.row b i d l m):=by rfl):Fz h η k (.own id g 0 c) (.own a b 0 n2):=Fz.od h1 h2 n o hη
section
variable {h η:List al}{k:List Nat}{m:Nat}
theorem vn.n:vn h η k [] []:=trivial
theorem vn.c {a b:PV} {l r:List PV} (h1:Fz h η k a b) (h2:vn h η k l r):vn h η k (a::l) (b::r):=⟨h1,h2⟩
theorem zi.n {env:Env}:zi h η k env []:=trivial
theorem zi.c {env:Env} {t:Nat} {v:PV} {r:List (Nat×PV)} (h1:Fz h η k (env t) v) (h2:zi h η k env r):zi h η k env ((t,v)::r):=⟨h1,h2⟩
theorem kV.n {i:Nat}:kV h η k m i [] []:=trivial
theorem kV.c {i id:Nat} {o:al} {r:List al} {a:List Nat} (h1:vQ h η k m o i id) (h2:kV h η k m (i+1) r a):kV h η k m i (o::r) (id::a):=⟨h1,h2⟩
theorem nwz {α:Type} {D:List PV->α->Prop} {c:α->List PV} {l:List α} {n:Nat} {f:Nat->List PV} (d:DR D n f l) [hc:Jv D c] {i id g j sz b a:Nat} {e:TypeId} (o:h[id]? =some (al.row g sz b e f):=by rfl) (hn:a=b:=by first | rfl | exact DR.len ame | exact(DR.len ame).symm) (hle:a=n:=by first | rfl | exact DR.len ame | exact(DR.len ame).symm) (hi:Nat.ble m i=true:=by rfl):vQ h η k m (.row j sz a e f) i id:=nwd (c:=c) d hn hle hi o
theorem odz {α:Type} {D:List PV->α->Prop} {c:α->List PV} {l:List α} {n:Nat} {f:Nat->List PV} (d:DR D n f l) [hc:Jv D c] {id g sz b a:Nat} {e:TypeId} (i:h[id]? =some (al.row g sz b e f):=by rfl) (hn:a=b:=by first | rfl | exact DR.len ame | exact(DR.len ame).symm) (hle:a=n:=by first | rfl | exact DR.len ame | exact(DR.len ame).symm):vQ h η k m (.row g sz a e f) id id:=odd (c:=c) d hn hle i
end
theorem vW {p:Prop} (h:p:=by exact nwz ame):p:=h
theorem oda {p:Prop} (h:p:=by exact odz ame):p:=h
theorem rs {α:Type} {D:List PV->α->Prop} {n:Nat} {f:Nat->List PV} {l:List α} (d:DR D n f l) {X:(Nat->List PV)->PV} {H:(Nat->List PV)->List al}:∃F,DR D l.length F l/\X f=X F/\H f=H F:=⟨f,d.self,rfl,rfl⟩
end Go.Am
namespace Go.Am
open Go Go.RowKit Go.Proofs
abbrev pI (x:Int):PV:=.int .i64 x
abbrev tu:=(Int×Bool)
abbrev zj:=(aW×Bool)
abbrev kP:=((Int) ⊕ Int)
abbrev uB:=((Unit) ⊕ Int)
abbrev eh:=((Unit) ⊕ Bool)
abbrev Ra:=((List Int)×Bool)
abbrev ty9:=(Int×(List af))
abbrev ty8:=((Unit) ⊕ (List ak))
abbrev Rb:=((Unit) ⊕ eh)
abbrev UM:=(((List Int)) ⊕ Ra)
abbrev ty5:=((Unit) ⊕ Rb)
abbrev ty4:=(((List zj)) ⊕ eh)
abbrev ty2:=(Int×Int×aW×Int×(List af)×Int)
abbrev ty3:=((List ar)×(List aq)×(List ar))
abbrev ty1:=(Int×Int×aW×Int×(List af)×Bool)
abbrev ty0:=(ty2 ⊕ (List ak))
def Vh (n:FuncId) (a:ae) (r:Bool):Prop:=ACall Tryz.prog n [.agg a.lit] [] (λres h=>res=.bool r/\h=[])
def Xd (n:FuncId) (a:aW) (r:Bool):Prop:=ACall Tryz.prog n [.str a] [] (λres h=>res=.bool r/\h=[])
def sg2 (n:FuncId) (a:ae) (b:ae) (r:Int):Prop:=ACall Tryz.prog n [.agg a.lit,.agg b.lit] [] (λres h=>res=pI r/\h=[])
def Yp (n:FuncId) (a:Int) (r:Bool):Prop:=ACall Tryz.prog n [pI a] [] (λres h=>res=.bool r/\h=[])
def sg4 (n:FuncId) (a:ar) (r:ar):Prop:=ACall Tryz.prog n [.agg a.lit] [] (λres h=>res=.agg [.str r.ay,.own 0 0 0 r.ao.length,.own 1 0 0 r.aI.length,.own 2 0 0 r.au.length,.bool r.bG,.own 3 0 0 r.ah.length]/\h=[.row 0 2 r.ao.length 119 (row TParam.cells r.ao),.row 0 2 r.aI.length 119 (row TParam.cells r.aI),.row 0 1 r.au.length 9 (row cS r.au),.row 0 5 r.ah.length 102 (row ak.cells r.ah)])
def sg5 (n:FuncId) (a:Int) (b:Int) (r:Int):Prop:=ACall Tryz.prog n [pI a,pI b] [] (λres h=>res=pI r/\h=[])
def sg6 (n:FuncId) (a:ae) (b:ae) (r:Bool):Prop:=ACall Tryz.prog n [.agg a.lit,.agg b.lit] [] (λres h=>res=.bool r/\h=[])
def sg7 (n:FuncId) (a:ae) (r:Int):Prop:=ACall Tryz.prog n [.agg a.lit] [] (λres h=>res=pI r/\h=[])
def sg8 (n:FuncId) (a:ar) (r:Bool):Prop:=ACall Tryz.prog n [.agg a.lit] [] (λres h=>res=.bool r/\h=[])
def sg9 (n:FuncId) (a:ar) (r:ar):Prop:=ACall Tryz.prog n [.agg a.lit] [] (λres h=>res=.agg r.lit/\h=[])
def Vi (n:FuncId) (a:ae) (b:Int) (r:Int):Prop:=ACall Tryz.prog n [.agg a.lit,pI b] [] (λres h=>res=pI r/\h=[])
def Vj (n:FuncId) (a:Int) (r:Bool):Prop:=ACall Tryz.prog n [.int .u8 a] [] (λres h=>res=.bool r/\h=[])
def Vk (n:FuncId) (a:ak) (r:Int):Prop:=ACall Tryz.prog n [.agg a.lit] [] (λres h=>res=pI r/\h=[])
def Yq (n:FuncId) (a:List af) (b:Int) (r:Int):Prop:=ACall Tryz.prog n [sl 8 af.cells a,pI b] [] (λres h=>res=pI r/\h=[])
def Vl (n:FuncId) (a:ae) (r:ae):Prop:=ACall Tryz.prog n [.agg a.lit] [] (λres h=>∃F0:Nat->List PV,DR af.D r.aw.length F0 r.aw/\res=.agg [pI r.aJ,pI r.bc,.str r.bq,pI r.bC,.own 0 0 0 r.aw.length]/\h=[.row 0 8 r.aw.length 124 F0])
def Yr (n:FuncId) (a:Int) (r:aW):Prop:=ACall Tryz.prog n [pI a] [] (λres h=>res=.str r/\h=[])
def Ys (n:FuncId) (a:aW) (r:Int×Bool):Prop:=ACall Tryz.prog n [.str a] [] (λres h=>res=.eG [pI r.1,.bool r.2]/\h=[])
def Yt (n:FuncId) (a:aW) (r:Int):Prop:=ACall Tryz.prog n [.str a] [] (λres h=>res=pI r/\h=[])
def Yu (n:FuncId) (a:Int) (r:Int):Prop:=ACall Tryz.prog n [pI a] [] (λres h=>res=pI r/\h=[])
def Yv (n:FuncId) (a:ak) (b:Int) (c:Int) (r:Bool):Prop:=ACall Tryz.prog n [.agg a.lit,pI b,pI c] [] (λres h=>res=.bool r/\h=[])
def Yw (n:FuncId) (a:aE) (r:Bool):Prop:=ACall Tryz.prog n [.agg a.lit] [] (λres h=>res=.bool r/\h=[])
def Yx (n:FuncId) (a:aE) (r:aE):Prop:=ACall Tryz.prog n [.agg a.lit] [] (λres h=>∃F0:Nat->List PV,∃F1:Nat->List PV,DR ar.D r.aK.length F0 r.aK/\DR aq.D r.aH.length F1 r.aH/\res=.agg [.own 0 0 0 r.aK.length,.own 1 0 0 r.aH.length]/\h=[.row 0 6 r.aK.length 43 F0,.row 0 4 r.aH.length 65 F1])
def aby (n:FuncId) (a:Int):Prop:=ACall Tryz.prog n [pI a] [] (λres h=>res=.agg [pI 2,pI a,.str [],pI 0,.az]/\h=[])
def abz (n:FuncId) (a:aW):Prop:=ACall Tryz.prog n [.str a] [] (λres h=>res=.agg [pI 3,pI 0,.str a,pI 0,.az]/\h=[])
def abA (n:FuncId) (a:List TParam) (r:(List TParam)):Prop:=ACall Tryz.prog n [sl 2 TParam.cells a] [] (λres h=>res=.own 0 0 0 r.length/\h=[.row 0 2 r.length 119 (row TParam.cells r)])
def abB (n:FuncId) (a:List ak) (r:(List ak)):Prop:=ACall Tryz.prog n [sl 5 ak.cells a] [] (λres h=>res=.own 0 0 0 r.length/\h=[.row 0 5 r.length 102 (row ak.cells r)])
def abC (n:FuncId) (a:List aD) (r:(List aD)):Prop:=ACall Tryz.prog n [sl 5 aD.cells a] [] (λres h=>res=.own 0 0 0 r.length/\h=[.row 0 5 r.length 77 (row aD.cells r)])
def aes (n:FuncId) (a:List af) (r:(List af)):Prop:=ACall Tryz.prog n [sl 8 af.cells a] [] (λres h=>∃F0:Nat->List PV,DR af.D r.length F0 r/\res=.own 0 0 0 r.length/\h=[.row 0 8 r.length 124 F0])
def aet (n:FuncId) (a:af) (r:af):Prop:=ACall Tryz.prog n [.agg a.lit] [] (λres h=>∃F0:Nat->List PV,DR af.D r.a8.aw.length F0 r.a8.aw/\res=.agg [.bool r.ba.dJ,pI r.ba.bc,.str r.ba.bq,pI r.a8.aJ,pI r.a8.bc,.str r.a8.bq,pI r.a8.bC,.own 0 0 0 r.a8.aw.length]/\h=[.row 0 8 r.a8.aw.length 124 F0])
theorem bB {p:Prop} (h:p:=by exact⟨(j6 rfl),⟨⟩⟩):p:=h
theorem dK {p:Prop} (h:p:=by exact⟨.p,.i,.b,⟨⟩⟩):p:=h
theorem pJ {p:Prop} (h:p:=by exact⟨(j6 rfl),(j6 rfl),⟨⟩⟩):p:=h
theorem Xe {p:Prop} (h:p:=by exact⟨(j6 rfl),(nb rfl ⟨.s,.az,.az,.az,.b,.az,⟨⟩⟩),(nb rfl ⟨.s,.o,.o,.o,.b,.o,⟨⟩⟩),nw,nw,nw,nw,nw,nw,⟨⟩⟩):p:=h
theorem Gn {p:Prop} (h:p:=by exact(.oS ⟨.cN ⟨.i,.i,.s,.i,.z,⟨⟩⟩,.i,⟨⟩⟩)):p:=h
theorem Xf {p:Prop} (h:p:=by exact⟨(j6 rfl),(nb rfl ⟨.s,.az,.az,.az,.b,.az,⟨⟩⟩),(nb rfl ⟨.s,.o,.o,.o,.b,.o,⟨⟩⟩),nw,nw,nw,nw,⟨⟩⟩):p:=h
theorem tO {p:Prop} (h:p:=by exact(.oS ⟨.i,.i,⟨⟩⟩)):p:=h
theorem tz7 {p:Prop} (h:p:=by exact⟨.p,.p,.p,(.Xg ⟨⟨rfl,⟨_,_,_,_,rfl⟩,⟨_,_,_,_,rfl,ajD⟩⟩,⟨rfl,⟨_,_,_,_,rfl⟩,⟨_,_,_,_,rfl,ajD⟩⟩,trivial⟩),⟨⟩⟩):p:=h
theorem Yy {p:Prop} (h:p:=by exact⟨(nb rfl ⟨.s,.az,.az,.az,.b,.az,⟨⟩⟩),(nb rfl ⟨.s,.o,.o,.o,.b,.o,⟨⟩⟩),nw,nw,nw,nw,⟨⟩⟩):p:=h
theorem QH {p:Prop} (h:p:=by exact⟨(j6 rfl),(j6 rfl),(nb rfl ⟨.i,.i,.s,.i,.az,⟨⟩⟩),⟨⟩⟩):p:=h
theorem AR {p:Prop} (h:p:=by exact(.oS ⟨.cN ⟨.i,.i,.s,.i,.l,⟨⟩⟩,.i,⟨⟩⟩)):p:=h
theorem Cb {p:Prop} (h:p:=by exact(.oS ⟨.cN ⟨.i,.i,.i,.s,.s,⟨⟩⟩,.b,⟨⟩⟩)):p:=h
theorem mo {p:Prop} (h:p:=by exact⟨.l,.i,.i,⟨⟩⟩):p:=h
theorem vJ {p:Prop} (h:p:=by exact⟨.i,.i,.p,.b,.b,.b,⟨⟩⟩):p:=h
theorem Pf {p:Prop} (h:p:=by exact⟨(nb rfl ⟨.oe,.oe,⟨⟩⟩),vW,vW,(nb rfl ⟨.oe,.oe,⟨⟩⟩),vW,vW,⟨⟩⟩):p:=h
theorem sq {p:Prop} (h:p:=by exact⟨(j6 rfl),nw,⟨⟩⟩):p:=h
theorem Yz {p:Prop} (h:p:=by exact⟨(j6 rfl),(nb rfl ⟨.s,.az,.az,.az,.b,.az,⟨⟩⟩),(nb rfl ⟨.s,.o,.o,.o,.b,(.ox ln),⟨⟩⟩),nw,nw,nw,(UN rfl ln),⟨⟩⟩):p:=h
theorem JJ {p:Prop} (h:p:=by exact(.oS ⟨.cN ⟨.i,.i,.s,.i,.z,⟨⟩⟩,.b,⟨⟩⟩)):p:=h
theorem L6 {p:Prop} (h:p:=by exact(.cN ⟨.i,.i,.s,.i,.z,⟨⟩⟩)):p:=h
theorem Rc {p:Prop} (h:p:=by exact⟨(j6 rfl),(nb rfl ⟨.s,.az,.az,.az,.b,.az,⟨⟩⟩),nw,⟨⟩⟩):p:=h
theorem oR {p:Prop} (h:p:=by exact⟨.p,.p,⟨⟩⟩):p:=h
theorem Hu {p:Prop} (h:p:=by exact(.cN ⟨.s,.o,.o,.o,.b,.o,⟨⟩⟩)):p:=h
theorem yu {p:Prop} (h:p:=by exact(.oS ⟨.i,.b,⟨⟩⟩)):p:=h
theorem Pg {p:Prop} (h:p:=by exact⟨(ob rfl ⟨.o,⟨⟩⟩),od,(ob rfl ⟨.o,⟨⟩⟩),od,⟨⟩⟩):p:=h
theorem kJ {p:Prop} (h:p:=by exact⟨.i,⟨⟩⟩):p:=h
theorem kQ {p:Prop} (h:p:=by exact⟨nw,⟨⟩⟩):p:=h
theorem JK {p:Prop} (h:p:=by exact⟨.i,.i,.p,.b,.b,.b,.i,.b,⟨⟩⟩):p:=h
theorem mq {p:Prop} (h:p:=by exact⟨oda,⟨⟩⟩):p:=h
theorem xM {p:Prop} (h:p:=by exact⟨.oe,.i,.i,⟨⟩⟩):p:=h
theorem YA {p:Prop} (h:p:=by exact⟨(nb rfl ⟨.oe,.oe,⟨⟩⟩),vW,vW,(nb rfl ⟨.oe,.oe,⟨⟩⟩),vW,vW,(j6 rfl),vW,⟨⟩⟩):p:=h
theorem xN {p:Prop} (h:p:=by exact⟨.p,.p,.b,⟨⟩⟩):p:=h
theorem xO {p:Prop} (h:p:=by exact⟨.l,.l,.i,⟨⟩⟩):p:=h
theorem Cc {p:Prop} (h:p:=by exact(.oS ⟨.s,.i,⟨⟩⟩)):p:=h
theorem Vm {p:Prop} (h:p:=by exact⟨(j6 rfl),(nb rfl ⟨.o,⟨⟩⟩),nw,(nb rfl ⟨.o,⟨⟩⟩),nw,⟨⟩⟩):p:=h
theorem zk {p:Prop} (h:p:=by exact⟨.p,.p,.i,⟨⟩⟩):p:=h
theorem Re {p:Prop} (h:p:=by exact(.cN ⟨.s,.r,.r,.r,.b,.r,⟨⟩⟩)):p:=h
theorem C5 {p:Prop} (h:p:=by exact⟨.p,.p,.p,.i,⟨⟩⟩):p:=h
theorem Hv {p:Prop} (h:p:=by exact⟨.p,.p,.l,.i,.i,⟨⟩⟩):p:=h
theorem abD {p:Prop} (h:p:=by exact⟨(nb rfl ⟨.s,.o,.o,.o,.b,.l,⟨⟩⟩),nw,nw,nw,(nb rfl ⟨.s,.az,.az,.az,.b,.az,⟨⟩⟩),⟨⟩⟩):p:=h
theorem Rf {p:Prop} (h:p:=by exact⟨od,(j6 rfl),(j6 rfl),(j6 rfl),⟨⟩⟩):p:=h
theorem abE {p:Prop} (h:p:=by exact⟨(nb rfl ⟨.s,.o,.o,.l,.b,.l,⟨⟩⟩),nw,nw,(nb rfl ⟨.s,.az,.az,.az,.b,.az,⟨⟩⟩),⟨⟩⟩):p:=h
theorem abG {p:Prop} (h:p:=by exact⟨(nb rfl ⟨.s,.o,.l,.l,.b,.l,⟨⟩⟩),nw,(nb rfl ⟨.s,.az,.az,.az,.b,.az,⟨⟩⟩),⟨⟩⟩):p:=h
theorem Ph {p:Prop} (h:p:=by exact⟨.p,.p,.i,.i,.i,.i,.b,⟨⟩⟩):p:=h
theorem Rg {p:Prop} (h:p:=by exact(.cN ⟨.i,.i,.s,.i,.az,⟨⟩⟩)):p:=h
theorem Hw {p:Prop} (h:p:=by exact⟨.p,.l,.i,.i,⟨⟩⟩):p:=h
theorem Hx {p:Prop} (h:p:=by exact⟨nw,nw,nw,nw,⟨⟩⟩):p:=h
theorem tR {p:Prop} (h:p:=by exact⟨vW,⟨⟩⟩):p:=h
theorem ss {p:Prop} (h:p:=by exact⟨od,⟨⟩⟩):p:=h
theorem abH {p:Prop} (h:p:=by exact⟨(nb rfl ⟨.i,.i,.s,.i,.oe,⟨⟩⟩),vW,(nb rfl ⟨.i,.i,.s,.i,.oe,⟨⟩⟩),vW,⟨⟩⟩):p:=h
theorem abI {p:Prop} (h:p:=by exact⟨(j6 rfl),(nb rfl ⟨.oe,.oe,⟨⟩⟩),vW,vW,(nb rfl ⟨.oe,.oe,⟨⟩⟩),vW,vW,⟨⟩⟩):p:=h
theorem L7 {p:Prop} (h:p:=by exact⟨.p,.m,.l,.i,.i,⟨⟩⟩):p:=h
theorem Pj {p:Prop} (h:p:=by exact⟨.i,.p,.p,.p,.i,.b,⟨⟩⟩):p:=h
theorem yv {p:Prop} (h:p:=by exact((.rx rfl))):p:=h
theorem tS {p:Prop} (h:p:=by exact⟨.p,⟨⟩⟩):p:=h
theorem JL {p:Prop} (h:p:=by exact⟨.i,.p,.i,.b,⟨⟩⟩):p:=h
theorem Fj {p:Prop} (h:p:=by exact⟨.l,.o,.i,⟨⟩⟩):p:=h
theorem AS {p:Prop} (h:p:=by exact⟨.p,.b,⟨⟩⟩):p:=h
theorem YB {p:Prop} (h:p:=by exact(.oS ⟨.cN ⟨.i,.i,.s,.i,.l,⟨⟩⟩,.b,⟨⟩⟩)):p:=h
theorem abJ {p:Prop} (h:p:=by exact⟨(j6 rfl),(j6 rfl),(nb rfl ⟨.i,.i,.s,.i,.az,⟨⟩⟩),(j6 rfl),⟨⟩⟩):p:=h
theorem Cd {p:Prop} (h:p:=by exact⟨.p,.i,⟨⟩⟩):p:=h
theorem Rh {p:Prop} (h:p:=by exact(.oS ⟨(.rx rfl),.b,⟨⟩⟩)):p:=h
theorem Ri {p:Prop} (h:p:=by exact⟨.p,.p,.p,.l,.i,.i,⟨⟩⟩):p:=h
theorem abK {p:Prop} (h:p:=by exact⟨(nb rfl ⟨.g,.g,⟨⟩⟩),gh,gh,(nb rfl ⟨.oe,.oe,⟨⟩⟩),vW,vW,⟨⟩⟩):p:=h
theorem JM {p:Prop} (h:p:=by exact⟨.l,.oe,.i,⟨⟩⟩):p:=h
theorem abL {p:Prop} (h:p:=by exact⟨(nb rfl ⟨.s,.az,.az,.az,.b,.az,⟨⟩⟩),(j6 rfl),⟨⟩⟩):p:=h
theorem Vn {p:Prop} (h:p:=by exact⟨.p,.p,.p,.o,.l,.o,.i,⟨⟩⟩):p:=h
theorem Vo {p:Prop} (h:p:=by exact⟨.p,.p,.l,.o,.l,.i,.i,⟨⟩⟩):p:=h
theorem Pk {p:Prop} (h:p:=by exact(.oS ⟨.z,.b,⟨⟩⟩)):p:=h
theorem Rj {p:Prop} (h:p:=by exact⟨.p,.o,.l,.i,.i,⟨⟩⟩):p:=h
theorem Rk {p:Prop} (h:p:=by exact⟨(j6 rfl),nw,nw,⟨⟩⟩):p:=h
theorem L8 {p:Prop} (h:p:=by exact⟨.s,.i,.i,⟨⟩⟩):p:=h
theorem L9 {p:Prop} (h:p:=by exact⟨.p,.i,.i,⟨⟩⟩):p:=h
theorem Rl {p:Prop} (h:p:=by exact⟨.l,(.ox ln),.i,⟨⟩⟩):p:=h
theorem Rm {p:Prop} (h:p:=by exact⟨.p,.o,.b,.i,⟨⟩⟩):p:=h
theorem abM {p:Prop} (h:p:=by exact(.cN ⟨.i,.i,.i,.s,.s,⟨⟩⟩)):p:=h
theorem JN {p:Prop} (h:p:=by exact⟨.s,.i,⟨⟩⟩):p:=h
theorem Rn {p:Prop} (h:p:=by exact⟨(UN rfl ln),⟨⟩⟩):p:=h
theorem Vp {p:Prop} (h:p:=by exact(.oS ⟨.b,.b,⟨⟩⟩)):p:=h
theorem Pl {p:Prop} (h:p:=by exact⟨.s,.b,⟨⟩⟩):p:=h
theorem Pm {p:Prop} (h:p:=by exact⟨.i,.b,⟨⟩⟩):p:=h
theorem Hy {p:Prop} (h:p:=by exact⟨.o,⟨⟩⟩):p:=h
set_option maxRecDepth 100000
def re (a:ak) (b:Int):Option (Int):=if(av (b - (a.fS.length:Int)))<0 then some (-1)else if(av ((av (b - (a.fS.length:Int))) - (a.fT.length:Int)))<0 then some (-1)else some (av ((av (b - (a.fS.length:Int))) - (a.fT.length:Int)))
theorem Ma {a:ak} {b:Int} {r:Int} (h:re a b=some r):ACall Tryz.prog 112 [.agg a.lit,pI b] [] (λres h=>res=pI r/\h=[]):=by
 refine bE Tryz.func112 ?_;unfold re at h;refine .d (.d ⟨rfl,rfl,_,rfl,(.d (.d (sD h (λc h=>?_) (λc h=>?_))))⟩);exact ala;refine .d ⟨rfl,rfl,_,rfl,(.d (.d (sD h (λe h=>?_) (λe h=>?_))))⟩;exact ala;exact ala
def ny (a:TParam) (b:Int):Option (Int):=if(av (b - (a.ay.length:Int)))<0 then some (-1)else some (av (b - (a.ay.length:Int)))
theorem Hz {a:TParam} {b:Int} {r:Int} (h:ny a b=some r):ACall Tryz.prog 111 [.agg a.lit,pI b] [] (λres h=>res=pI r/\h=[]):=by
 refine bE Tryz.func111 ?_;unfold ny at h;refine .d (.d ⟨rfl,rfl,_,rfl,(.d (.d (sD h (λc h=>?_) (λc h=>?_))))⟩);exact ala;exact ala
def kD (a:List ak) (c:Int) (b:Int):Option kP:=if b<(a.length:Int)then idx a b>>=λe=>re e c>>=λd=>if d<0 then some (.inr (-1))else kD a d (av (b+1))else some (.inl c) partial_fixpoint
def rh (a:List ak) (b:Int):Option (Int):=if(av (b - (a.length:Int)))<0 then some (-1)else((kD a (av (b - (a.length:Int))) 0:Option kP)>>=λc=>match c with | .inr r=>some r | .inl y2=>some y2)
theorem JO {a:List ak} {b:Int} {r:Int} (h:rh a b=some r):ACall Tryz.prog 68 [sl 5 ak.cells a,pI b] [] (λres h=>res=pI r/\h=[]):=by
 refine bE Tryz.func68 ?_;unfold rh at h;refine .d (.d (.d (.d (sD h (λj h=>?_) (λj h=>?_)))));exact ala;obtain⟨c,h,vR⟩:=bd h;refine .cut (λσ η=>∃y2,.inl y2=c/\σ=[(1,pI y2)]/\η=[]) ?_ ?_;refine .d ?_;refine le (kD.partial_correctness a (motive:=λe f g=>c=g->aA _ _ [(0,sl 5 ak.cells a),(1,pI e),(5,pI f)] []) ?_ (av (b - (a.length:Int))) 0 c h rfl) (tk [] mo ⟨⟩);intro p C6 e f g h k;subst k;refine aA.round (.d (.d (sD h (λl h=>?_) (λl h=>?_))));refine .d (.d (bk h λm i h=>⟨aB i,_,(ax i).trans (ak.aj m),(bk h λq n h=>(aT (Ma n) (.d (sD h (λo h=>?_) (λo h=>?_)))))⟩));refine .d ?_;exact akk;exact alw;exact ale;exact akc
def iJ (a:List TParam) (c:Int) (b:Int):Option kP:=if b<(a.length:Int)then idx a b>>=λe=>ny e c>>=λd=>if d<0 then some (.inr (-1))else iJ a d (av (b+1))else some (.inl c) partial_fixpoint
def lN (a:List TParam) (b:Int):Option (Int):=if(av (b - (a.length:Int)))<0 then some (-1)else((iJ a (av (b - (a.length:Int))) 0:Option kP)>>=λc=>match c with | .inr r=>some r | .inl y2=>some y2)
theorem xY {a:List TParam} {b:Int} {r:Int} (h:lN a b=some r):ACall Tryz.prog 66 [sl 2 TParam.cells a,pI b] [] (λres h=>res=pI r/\h=[]):=by
 refine bE Tryz.func66 ?_;unfold lN at h;refine .d (.d (.d (.d (sD h (λj h=>?_) (λj h=>?_)))));exact ala;obtain⟨c,h,vR⟩:=bd h;refine .cut (λσ η=>∃y2,.inl y2=c/\σ=[(1,pI y2)]/\η=[]) ?_ ?_;refine .d ?_;refine le (iJ.partial_correctness a (motive:=λe f g=>c=g->aA _ _ [(0,sl 2 TParam.cells a),(1,pI e),(5,pI f)] []) ?_ (av (b - (a.length:Int))) 0 c h rfl) (tk [] mo ⟨⟩);intro p C6 e f g h k;subst k;refine aA.round (.d (.d (sD h (λl h=>?_) (λl h=>?_))));refine .d (.d (bk h λm i h=>⟨aB i,_,(ax i).trans (TParam.aj m),(bk h λq n h=>(aT (Hz n) (.d (sD h (λo h=>?_) (λo h=>?_)))))⟩));refine .d ?_;exact akk;exact alw;exact ale;exact akc
def gT (a:List aW) (b:Int) (c:Int):Option kP:=if c<(a.length:Int)then idx a c>>=λd=>if(av (b - (d.length:Int)))<0 then some (.inr (-1))else gT a (av (b - (d.length:Int))) (av (c+1))else some (.inl b) partial_fixpoint
def mw (a:List aW) (b:Int):Option (Int):=if(av (b - (a.length:Int)))<0 then some (-1)else((gT a (av (b - (a.length:Int))) 0:Option kP)>>=λc=>match c with | .inr r=>some r | .inl y2=>some y2)
theorem C7 {a:List aW} {b:Int} {r:Int} (h:mw a b=some r):ACall Tryz.prog 67 [sl 1 cS a,pI b] [] (λres h=>res=pI r/\h=[]):=by
 refine bE Tryz.func67 ?_;unfold mw at h;refine .d (.d (.d (.d (sD h (λj h=>?_) (λj h=>?_)))));exact ala;obtain⟨c,h,vR⟩:=bd h;refine .cut (λσ η=>∃y2,.inl y2=c/\σ=[(1,pI y2)]/\η=[]) ?_ ?_;refine .d ?_;refine le (gT.partial_correctness a (motive:=λe f g=>c=g->aA _ _ [(0,sl 1 cS a),(1,pI e),(5,pI f)] []) ?_ (av (b - (a.length:Int))) 0 c h rfl) (tk [] mo ⟨⟩);intro n C6 e f g h k;subst k;refine aA.round (.d (.d (sD h (λl h=>?_) (λl h=>?_))));refine .d (.d (bk h λo i h=>⟨aB i,_,(ax i).trans rfl,(.d (sD h (λm h=>?_) (λm h=>?_)))⟩));refine .d ?_;exact akk;exact alw;exact ale;exact akc
def pc (a:ar) (c:Int):Option (Int):=if(av (c - (a.ay.length:Int)))<0 then some (-1)else lN a.ao (av (c - (a.ay.length:Int)))>>=λd=>if d<0 then some (-1)else lN a.aI d>>=λe=>if e<0 then some (-1)else mw a.au e>>=λf=>if f<0 then some (-1)else rh a.ah f>>=λb=>if b<0 then some (-1)else some b
theorem JP {a:ar} {b:Int} {r:Int} (h:pc a b=some r):ACall Tryz.prog 27 [.agg a.lit,pI b] [] (λres h=>res=pI r/\h=[]):=by
 refine bE Tryz.func27 ?_;unfold pc at h;refine .d (.d ⟨rfl,rfl,_,rfl,(.d (.d (sD h (λc h=>?_) (λc h=>?_))))⟩);exact ala;refine .d ⟨rfl,rfl,_,rfl,(bk h λo e h=>(aT (xY e) (.d (.d (sD h (λf h=>?_) (λf h=>?_))))))⟩;exact ala;refine .d ⟨rfl,rfl,_,rfl,(bk h λp g h=>(aT (xY g) (.d (.d (sD h (λi h=>?_) (λi h=>?_))))))⟩;exact ala;refine .d ⟨rfl,rfl,_,rfl,(bk h λq j h=>(aT (C7 j) (.d (.d (sD h (λk h=>?_) (λk h=>?_))))))⟩;exact ala;refine .d ⟨rfl,rfl,_,rfl,(bk h λl m h=>(aT (JO m) (.d (.d (sD h (λn h=>?_) (λn h=>?_))))))⟩;exact ala;exact ala
def jF (a:List ar) (c:Int) (b:Int):Option kP:=if b<(a.length:Int)then idx a b>>=λe=>pc e c>>=λd=>if d<0 then some (.inr (-1))else jF a d (av (b+1))else some (.inl c) partial_fixpoint
def pX (a:List ar) (b:Int):Option (Int):=if(av (b - (a.length:Int)))<0 then some (-1)else((jF a (av (b - (a.length:Int))) 0:Option kP)>>=λc=>match c with | .inr r=>some r | .inl y2=>some y2)
theorem HA {a:List ar} {b:Int} {r:Int} (h:pX a b=some r):ACall Tryz.prog 11 [sl 6 ar.cells a,pI b] [] (λres h=>res=pI r/\h=[]):=by
 refine bE Tryz.func11 ?_;unfold pX at h;refine .d (.d (.d (.d (sD h (λj h=>?_) (λj h=>?_)))));exact ala;obtain⟨c,h,vR⟩:=bd h;refine .cut (λσ η=>∃y2,.inl y2=c/\σ=[(1,pI y2)]/\η=[]) ?_ ?_;refine .d ?_;refine le (jF.partial_correctness a (motive:=λe f g=>c=g->aA _ _ [(0,sl 6 ar.cells a),(1,pI e),(5,pI f)] []) ?_ (av (b - (a.length:Int))) 0 c h rfl) (tk [] mo ⟨⟩);intro p C6 e f g h k;subst k;refine aA.round (.d (.d (sD h (λl h=>?_) (λl h=>?_))));refine .d (.d (bk h λm i h=>⟨aB i,_,(ax i).trans (ar.aj m),(bk h λq n h=>(aT (JP n) (.d (sD h (λo h=>?_) (λo h=>?_)))))⟩));refine .d ?_;exact akk;exact alw;exact ale;exact akc
def tT (a:bW) (b:Int):Option (Int):=if(av (b - (a.bq.length:Int)))<0 then some (-1)else some (av (b - (a.bq.length:Int)))
theorem Mc {a:bW} {b:Int} {r:Int} (h:tT a b=some r):ACall Tryz.prog 242 [.agg a.lit,pI b] [] (λres h=>res=pI r/\h=[]):=by
 refine bE Tryz.func242 ?_;unfold tT at h;refine .d (.d ⟨rfl,rfl,_,rfl,(.d (.d (sD h (λc h=>?_) (λc h=>?_))))⟩);exact ala;exact ala
mutual
def kX (a:ae) (b:Int):Option (Int):=if(av (b - (a.bq.length:Int)))<0 then some (-1)else qJ a.aw (av (b - (a.bq.length:Int)))>>=λc=>if c<0 then some (-1)else some c partial_fixpoint
def qJ (a:List af) (b:Int):Option (Int):=if(av (b - (a.length:Int)))<0 then some (-1)else((iK a (av (b - (a.length:Int))) 0:Option kP)>>=λc=>match c with | .inr r=>some r | .inl d=>some d) partial_fixpoint
def sF (c:af) (d:Int):Option (Int):=tT c.ba d>>=λa=>if a<0 then some (-1)else kX c.a8 a>>=λb=>if b<0 then some (-1)else some b partial_fixpoint
def iK (b:List af) (d:Int) (c:Int):Option kP:=if c<(b.length:Int)then idx b c>>=λe=>sF e d>>=λa=>if a<0 then some (.inr (-1))else iK b a (av (c+1))else some (.inl d) partial_fixpoint
end
def Rp (a:ae) (b:Int) (r:Int):Prop:=Vi 155 a b r
def Rq (a:List af) (b:Int) (r:Int):Prop:=Yq 193 a b r
def Md (a:af) (b:Int) (r:Int):Prop:=ACall Tryz.prog 219 [.agg a.lit,pI b] [] (λres h=>res=pI r/\h=[])
inductive ja:(List af)->Int->Int->kP->Prop
 | mk (abN:af->Int->Option (Int)) (ahe:∀a0 a1 r,abN a0 a1=some r->Md a0 a1 r) (sG:(List af)->Int->Int->Option kP) (Me:∀a0 Ce bb o,sG a0 Ce bb=some o->ja a0 Ce bb o) (a0:List af) (Ce:Int) (bb:Int) (o:(Int) ⊕ Int) (h:(
 (if bb<(a0.length:Int)then
 idx a0 bb>>=λbs=>
 abN bs Ce>>=λv20=>
 (if v20<0 then
 some (.inr (-1))
 else
 sG a0 v20 (av (bb+1)))
 else
 some (.inl Ce))
 )=some o):ja a0 Ce bb o
theorem C8:(∀a b r,kX a b=some r->Rp a b r)/\(∀a b r,qJ a b=some r->Rq a b r)/\(∀a c e o,iK a c e=some o->ja a c e o)/\(∀a b r,sF a b=some r->Md a b r):=by
 refine kX.mutual_partial_correctness Rp Rq ja Md ?_ ?_ ?_ ?_;intro _ p a b r h;refine bE Tryz.func155 ?_;refine .d (.d ⟨rfl,rfl,_,rfl,(.d (.d (sD h (λq h=>?_) (λq h=>?_))))⟩);exact ala;refine .d ⟨rfl,rfl,_,rfl,(bk h λM s h=>(aT (p _ _ _ s) (.d (.d (sD h (λt h=>?_) (λt h=>?_))))))⟩;exact ala;exact ala;intro _ g a b r h;refine bE Tryz.func193 ?_;refine .d (.d (.d (.d (sD h (λu h=>?_) (λu h=>?_)))));exact ala;obtain⟨l,h,C9⟩:=bd h;refine .cut (λσ η=>∃i,.inl i=l/\σ=[(1,pI i)]/\η=[]) ?_ ?_;refine .d ?_;have j:=g _ _ _ _ h;refine le (ja.rec (motive:=λf c e m _=>a=f->l=m->aA _ _ [(0,sl 8 af.cells a),(1,pI c),(5,pI e)] []) ?_ j rfl rfl) (tk [] mo ⟨⟩);intro _ k _ _ f c e m h v  w x;subst w;subst x;refine aA.round (.d (.d (sD h (λy h=>?_) (λy h=>?_))));refine .d (.d (bk h λz n h=>⟨aB n,_,(ax n).trans (af.aj z),(bk h λA B h=>(aT (k _ _ _ B) (.d (sD h (λC h=>?_) (λC h=>?_)))))⟩));refine .d ?_;obtain rfl:=si h;replace h:=C9;exact eI h;exact lg (v _ _ _ _ h rfl rfl) (tk [] mo ⟨⟩);exact ale;rintro _ _ ⟨i,rfl,rfl,rfl⟩;replace h:=C9;exact ala;intro F0 F1 D E a c e o h;exact .mk F1 E F0 D a c e o h;intro _ F a b r h;refine bE Tryz.func219 ?_;refine .d (.d ⟨rfl,rfl,_,rfl,(bk h λG H h=>(aT (Mc H) (.d (.d (sD h (λI h=>?_) (λI h=>?_))))))⟩);exact ala;refine .d ⟨rfl,rfl,_,rfl,(bk h λJ K h=>(aT (F _ _ _ K) (.d (.d (sD h (λL h=>?_) (λL h=>?_))))))⟩;exact ala;exact ala
theorem HB {a:ae} {b:Int} {r:Int} (h:kX a b=some r):Vi 155 a b r:=C8.1 a b r h
def nz (a:aC) (b:Int):Option (Int):=if(av (b - (a.ay.length:Int)))<0 then some (-1)else if(av ((av (b - (a.ay.length:Int))) - (a.bL.length:Int)))<0 then some (-1)else kX a.aQ (av ((av (b - (a.ay.length:Int))) - (a.bL.length:Int)))>>=λc=>if c<0 then some (-1)else some c
theorem HC {a:aC} {b:Int} {r:Int} (h:nz a b=some r):ACall Tryz.prog 113 [.agg a.lit,pI b] [] (λres h=>res=pI r/\h=[]):=by
 refine bE Tryz.func113 ?_;unfold nz at h;refine .d (.d ⟨rfl,rfl,_,rfl,(.d (.d (sD h (λc h=>?_) (λc h=>?_))))⟩);exact ala;refine .d ⟨rfl,rfl,_,rfl,(.d (.d (sD h (λe h=>?_) (λe h=>?_))))⟩;exact ala;refine .d ⟨rfl,rfl,_,rfl,(bk h λi f h=>(aT (HB f) (.d (.d (sD h (λg h=>?_) (λg h=>?_))))))⟩;exact ala;exact ala
def lO (a:aD) (b:Int):Option (Int):=if(av (b - (a.ay.length:Int)))<0 then some (-1)else if(av ((av (b - (a.ay.length:Int))) - (a.bL.length:Int)))<0 then some (-1)else if(av ((av ((av (b - (a.ay.length:Int))) - (a.bL.length:Int))) - (a.me.length:Int)))<0 then some (-1)else some (av ((av ((av (b - (a.ay.length:Int))) - (a.bL.length:Int))) - (a.me.length:Int)))
theorem Fk {a:aD} {b:Int} {r:Int} (h:lO a b=some r):ACall Tryz.prog 114 [.agg a.lit,pI b] [] (λres h=>res=pI r/\h=[]):=by
 refine bE Tryz.func114 ?_;unfold lO at h;refine .d (.d ⟨rfl,rfl,_,rfl,(.d (.d (sD h (λc h=>?_) (λc h=>?_))))⟩);exact ala;refine .d ⟨rfl,rfl,_,rfl,(.d (.d (sD h (λe h=>?_) (λe h=>?_))))⟩;exact ala;refine .d ⟨rfl,rfl,_,rfl,(.d (.d (sD h (λf h=>?_) (λf h=>?_))))⟩;exact ala;exact ala
def iL (a:List aC) (c:Int) (b:Int):Option kP:=if b<(a.length:Int)then idx a b>>=λe=>nz e c>>=λd=>if d<0 then some (.inr (-1))else iL a d (av (b+1))else some (.inl c) partial_fixpoint
def nS (a:List aC) (b:Int):Option (Int):=if(av (b - (a.length:Int)))<0 then some (-1)else((iL a (av (b - (a.length:Int))) 0:Option kP)>>=λc=>match c with | .inr r=>some r | .inl y2=>some y2)
theorem Fl {a:List aC} {b:Int} {r:Int} (h:nS a b=some r):ACall Tryz.prog 69 [sl 8 aC.cells a,pI b] [] (λres h=>res=pI r/\h=[]):=by
 refine bE Tryz.func69 ?_;unfold nS at h;refine .d (.d (.d (.d (sD h (λj h=>?_) (λj h=>?_)))));exact ala;obtain⟨c,h,vR⟩:=bd h;refine .cut (λσ η=>∃y2,.inl y2=c/\σ=[(1,pI y2)]/\η=[]) ?_ ?_;refine .d ?_;refine le (iL.partial_correctness a (motive:=λe f g=>c=g->aA _ _ [(0,sl 8 aC.cells a),(1,pI e),(5,pI f)] []) ?_ (av (b - (a.length:Int))) 0 c h rfl) (tk [] mo ⟨⟩);intro p C6 e f g h k;subst k;refine aA.round (.d (.d (sD h (λl h=>?_) (λl h=>?_))));refine .d (.d (bk h λm i h=>⟨aB i,_,(ax i).trans (aC.aj m),(bk h λq n h=>(aT (HC n) (.d (sD h (λo h=>?_) (λo h=>?_)))))⟩));refine .d ?_;exact akk;exact alw;exact ale;exact akc
def gU (a:List aD) (c:Int) (b:Int):Option kP:=if b<(a.length:Int)then idx a b>>=λe=>lO e c>>=λd=>if d<0 then some (.inr (-1))else gU a d (av (b+1))else some (.inl c) partial_fixpoint
def my (a:List aD) (b:Int):Option (Int):=if(av (b - (a.length:Int)))<0 then some (-1)else((gU a (av (b - (a.length:Int))) 0:Option kP)>>=λc=>match c with | .inr r=>some r | .inl y2=>some y2)
theorem Db {a:List aD} {b:Int} {r:Int} (h:my a b=some r):ACall Tryz.prog 70 [sl 5 aD.cells a,pI b] [] (λres h=>res=pI r/\h=[]):=by
 refine bE Tryz.func70 ?_;unfold my at h;refine .d (.d (.d (.d (sD h (λj h=>?_) (λj h=>?_)))));exact ala;obtain⟨c,h,vR⟩:=bd h;refine .cut (λσ η=>∃y2,.inl y2=c/\σ=[(1,pI y2)]/\η=[]) ?_ ?_;refine .d ?_;refine le (gU.partial_correctness a (motive:=λe f g=>c=g->aA _ _ [(0,sl 5 aD.cells a),(1,pI e),(5,pI f)] []) ?_ (av (b - (a.length:Int))) 0 c h rfl) (tk [] mo ⟨⟩);intro p C6 e f g h k;subst k;refine aA.round (.d (.d (sD h (λl h=>?_) (λl h=>?_))));refine .d (.d (bk h λm i h=>⟨aB i,_,(ax i).trans (aD.aj m),(bk h λq n h=>(aT (Fk n) (.d (sD h (λo h=>?_) (λo h=>?_)))))⟩));refine .d ?_;exact akk;exact alw;exact ale;exact akc
def nA (a:aq) (b:Int):Option (Int):=if(av (b - (a.ay.length:Int)))<0 then some (-1)else if(av ((av (b - (a.ay.length:Int))) - (a.cE.length:Int)))<0 then some (-1)else nS a.aM (av ((av (b - (a.ay.length:Int))) - (a.cE.length:Int)))>>=λc=>if c<0 then some (-1)else my a.aP c>>=λd=>if d<0 then some (-1)else some d
theorem HD {a:aq} {b:Int} {r:Int} (h:nA a b=some r):ACall Tryz.prog 28 [.agg a.lit,pI b] [] (λres h=>res=pI r/\h=[]):=by
 refine bE Tryz.func28 ?_;unfold nA at h;refine .d (.d ⟨rfl,rfl,_,rfl,(.d (.d (sD h (λc h=>?_) (λc h=>?_))))⟩);exact ala;refine .d ⟨rfl,rfl,_,rfl,(.d (.d (sD h (λe h=>?_) (λe h=>?_))))⟩;exact ala;refine .d ⟨rfl,rfl,_,rfl,(bk h λk f h=>(aT (Fl f) (.d (.d (sD h (λg h=>?_) (λg h=>?_))))))⟩;exact ala;refine .d ⟨rfl,rfl,_,rfl,(bk h λl i h=>(aT (Db i) (.d (.d (sD h (λj h=>?_) (λj h=>?_))))))⟩;exact ala;exact ala
def iM (a:List aq) (c:Int) (b:Int):Option kP:=if b<(a.length:Int)then idx a b>>=λe=>nA e c>>=λd=>if d<0 then some (.inr (-1))else iM a d (av (b+1))else some (.inl c) partial_fixpoint
def nT (a:List aq) (b:Int):Option (Int):=if(av (b - (a.length:Int)))<0 then some (-1)else((iM a (av (b - (a.length:Int))) 0:Option kP)>>=λc=>match c with | .inr r=>some r | .inl y2=>some y2)
theorem Fm {a:List aq} {b:Int} {r:Int} (h:nT a b=some r):ACall Tryz.prog 12 [sl 4 aq.cells a,pI b] [] (λres h=>res=pI r/\h=[]):=by
 refine bE Tryz.func12 ?_;unfold nT at h;refine .d (.d (.d (.d (sD h (λj h=>?_) (λj h=>?_)))));exact ala;obtain⟨c,h,vR⟩:=bd h;refine .cut (λσ η=>∃y2,.inl y2=c/\σ=[(1,pI y2)]/\η=[]) ?_ ?_;refine .d ?_;refine le (iM.partial_correctness a (motive:=λe f g=>c=g->aA _ _ [(0,sl 4 aq.cells a),(1,pI e),(5,pI f)] []) ?_ (av (b - (a.length:Int))) 0 c h rfl) (tk [] mo ⟨⟩);intro p C6 e f g h k;subst k;refine aA.round (.d (.d (sD h (λl h=>?_) (λl h=>?_))));refine .d (.d (bk h λm i h=>⟨aB i,_,(ax i).trans (aq.aj m),(bk h λq n h=>(aT (HD n) (.d (sD h (λo h=>?_) (λo h=>?_)))))⟩));refine .d ?_;exact akk;exact alw;exact ale;exact akc
def mz (a:aE) (d:Int):Option (Int):=pX a.aK d>>=λb=>if b<0 then some (-1)else nT a.aH b>>=λc=>if c<0 then some (-1)else some c
theorem Dc {a:aE} {b:Int} {r:Int} (h:mz a b=some r):ACall Tryz.prog 4 [.agg a.lit,pI b] [] (λres h=>res=pI r/\h=[]):=by
 refine bE Tryz.func4 ?_;unfold mz at h;refine .d (.d ⟨rfl,rfl,_,rfl,(bk h λi c h=>(aT (HA c) (.d (.d (sD h (λe h=>?_) (λe h=>?_))))))⟩);exact ala;refine .d ⟨rfl,rfl,_,rfl,(bk h λj f h=>(aT (Fm f) (.d (.d (sD h (λg h=>?_) (λg h=>?_))))))⟩;exact ala;exact ala
set_option maxRecDepth 100000
theorem JR (a:ak):ACall Tryz.prog 132 [.agg a.lit] [] (λres h=>res=.agg a.lit/\h=[]):=by
 refine bE Tryz.func132 ?_;refine .d (.d (.d ⟨rfl,rfl,_,rfl,rfl,rfl,_,_,rfl,aG,(.d ⟨rfl,rfl,_,rfl,rfl,rfl,_,_,rfl,aG,(.d ⟨rfl,rfl,_,rfl,?_⟩)⟩)⟩));refine⟨rfl,rfl,_,_,rfl,aG,(.d ⟨rfl,rfl,_,rfl,rfl,rfl,_,_,rfl,aG,(.d ⟨rfl,rfl,_,rfl,rfl,rfl,_,_,rfl,aG,(.d ⟨rfl,_,rfl,rfl,_,_,rfl,aG,?_⟩)⟩)⟩)⟩;exact⟨rfl,_,rfl,(en [] ⟨rfl,rfl⟩ abM ⟨⟩)⟩
theorem Fo (a:TParam):ACall Tryz.prog 131 [.agg a.lit] [] (λres h=>res=.agg a.lit/\h=[]):=by
 refine bE Tryz.func131 ?_;refine .d (.d (.d ⟨rfl,rfl,_,rfl,rfl,rfl,_,_,rfl,aG,(.d ⟨rfl,rfl,_,rfl,rfl,rfl,_,_,rfl,aG,(.d ⟨rfl,_,rfl,rfl,_,_,rfl,aG,?_⟩)⟩)⟩));exact⟨rfl,_,rfl,(en [] ⟨rfl,rfl⟩ (.cN ⟨.s,.b,⟨⟩⟩) ⟨⟩)⟩
theorem Dd (a:aD):ACall Tryz.prog 134 [.agg a.lit] [] (λres h=>res=.agg a.lit/\h=[]):=by
 refine bE Tryz.func134 ?_;refine .d (.d (.d ⟨rfl,rfl,_,rfl,rfl,rfl,_,_,rfl,aG,(.d ⟨rfl,rfl,_,rfl,rfl,rfl,_,_,rfl,aG,(.d ⟨rfl,rfl,_,rfl,?_⟩)⟩)⟩));refine⟨rfl,rfl,_,_,rfl,aG,(.d ⟨rfl,rfl,_,rfl,rfl,rfl,_,_,rfl,aG,(.d ⟨rfl,rfl,_,rfl,rfl,rfl,_,_,rfl,aG,(.d ⟨rfl,_,rfl,rfl,_,_,rfl,aG,?_⟩)⟩)⟩)⟩;exact⟨rfl,_,rfl,(en [] ⟨rfl,rfl⟩ (.cN ⟨.s,.s,.s,.b,.b,⟨⟩⟩) ⟨⟩)⟩
theorem JS (a:bW):ACall Tryz.prog 243 [.agg a.lit] [] (λres h=>res=.agg a.lit/\h=[]):=by
 refine bE Tryz.func243 ?_;refine .d (.d (.d ⟨rfl,rfl,_,rfl,rfl,rfl,_,_,rfl,aG,(.d ⟨rfl,rfl,_,rfl,rfl,rfl,_,_,rfl,aG,(.d ⟨rfl,rfl,_,rfl,?_⟩)⟩)⟩));exact⟨rfl,rfl,_,_,rfl,aG,(.d ⟨rfl,_,rfl,rfl,_,_,rfl,aG,rfl,_,rfl,(en [] ⟨rfl,rfl⟩ (.cN ⟨.b,.i,.s,⟨⟩⟩) ⟨⟩)⟩)⟩
def kE (b:List ak) (c:List ak) (a:Int):Option ((List ak)):=if a<(b.length:Int)then idx b a>>=λd=>idx c a>>=λe=>kE b (c.set a.toNat d) (av (a+1))else some c partial_fixpoint
def ri (a:List ak):Option ((List ak)):=(mf 56 (a.length:Int) (a.length:Int):Option (List ak))>>=λb=>(kE a b 0:Option ((List ak)))>>=λc=>some c
theorem JT {c:List ak} {r:(List ak)} (h:ri c=some r):abB 86 c r:=by
 refine bE Tryz.func86 ?_;unfold ri at h;refine .d (.d (bk h λf g h=>⟨mA g,f.length,row ak.cells f,jH g,rf g (ak.aj default) ⟨.same _,.same _,.same _,.same _,.same _,trivial⟩,?_⟩));obtain⟨i,h,n⟩:=bd h;refine .cut (λσ η=>∃a,a=i/\σ=[(3,.own 0 0 0 a.length)]/\η=[.row 0 5 a.length 102 (row ak.cells a)]) ?_ ?_;refine .d ?_;refine le (kE.partial_correctness c (motive:=λb j l=>i=l->aA _ _ [(0,sl 5 ak.cells c),(3,.own 0 0 0 b.length),(4,pI j)] [.row 0 5 b.length 102 (row ak.cells b)]) ?_ f 0 i h rfl) (tk [0] Fj kQ);intro o p b j l h q;subst q;refine aA.round (.d (.d (sD h (λs h=>?_) (λs h=>?_))));exact .d (bk h λe m h=>⟨aB m,_,(ax m).trans (ak.aj e),(aT (JR e) (bk h λt k h=>⟨rfl,aB k,_,ahx _,rfl,_,row ak.cells (b.set j.toNat e),((ax k).trans (ak.aj t)),ka (dO k) (ak.aj e) ⟨.same _,.same _,.same _,.same _,.same _,trivial⟩,(lg (p _ _ _ h rfl) (tk [0] Rl Rn))⟩))⟩);exact alu;rintro _ _ ⟨a,rfl,rfl,rfl⟩;replace h:=n;refine .d ?_;exact akM
def iN (b:List TParam) (c:List TParam) (a:Int):Option ((List TParam)):=if a<(b.length:Int)then idx b a>>=λd=>idx c a>>=λe=>iN b (c.set a.toNat d) (av (a+1))else some c partial_fixpoint
def lP (a:List TParam):Option ((List TParam)):=(mf 24 (a.length:Int) (a.length:Int):Option (List TParam))>>=λb=>(iN a b 0:Option ((List TParam)))>>=λc=>some c
theorem xZ {c:List TParam} {r:(List TParam)} (h:lP c=some r):abA 84 c r:=by
 refine bE Tryz.func84 ?_;unfold lP at h;refine .d (.d (bk h λf g h=>⟨mA g,f.length,row TParam.cells f,jH g,rf g (TParam.aj default) ⟨.same _,.same _,trivial⟩,?_⟩));obtain⟨i,h,n⟩:=bd h;refine .cut (λσ η=>∃a,a=i/\σ=[(3,.own 0 0 0 a.length)]/\η=[.row 0 2 a.length 119 (row TParam.cells a)]) ?_ ?_;refine .d ?_;refine le (iN.partial_correctness c (motive:=λb j l=>i=l->aA _ _ [(0,sl 2 TParam.cells c),(3,.own 0 0 0 b.length),(4,pI j)] [.row 0 2 b.length 119 (row TParam.cells b)]) ?_ f 0 i h rfl) (tk [0] Fj kQ);intro o p b j l h q;subst q;refine aA.round (.d (.d (sD h (λs h=>?_) (λs h=>?_))));exact .d (bk h λe m h=>⟨aB m,_,(ax m).trans (TParam.aj e),(aT (Fo e) (bk h λt k h=>⟨rfl,aB k,_,ahx _,rfl,_,row TParam.cells (b.set j.toNat e),((ax k).trans (TParam.aj t)),ka (dO k) (TParam.aj e) ⟨.same _,.same _,trivial⟩,(lg (p _ _ _ h rfl) (tk [0] Rl Rn))⟩))⟩);exact alu;rintro _ _ ⟨a,rfl,rfl,rfl⟩;replace h:=n;refine .d ?_;exact akM
def gV (b:List aW) (c:List aW) (a:Int):Option ((List aW)):=if a<(b.length:Int)then idx b a>>=λd=>idx c a>>=λe=>gV b (c.set a.toNat d) (av (a+1))else some c partial_fixpoint
def mC (a:List aW):Option ((List aW)):=(mf 16 (a.length:Int) (a.length:Int):Option (List aW))>>=λb=>(gV a b 0:Option ((List aW)))>>=λc=>some c
theorem De {c:List aW} {r:(List aW)} (h:mC c=some r):ACall Tryz.prog 85 [sl 1 cS c] [] (λres h=>res=.own 0 0 0 r.length/\h=[.row 0 1 r.length 9 (row cS r)]):=by
 refine bE Tryz.func85 ?_;unfold mC at h;refine .d (.d (bk h λe f h=>⟨mA f,e.length,row cS e,jH f,rf f rfl ⟨.same _,trivial⟩,?_⟩));obtain⟨g,h,m⟩:=bd h;refine .cut (λσ η=>∃a,a=g/\σ=[(3,.own 0 0 0 a.length)]/\η=[.row 0 1 a.length 9 (row cS a)]) ?_ ?_;refine .d ?_;refine le (gV.partial_correctness c (motive:=λb i k=>g=k->aA _ _ [(0,sl 1 cS c),(3,.own 0 0 0 b.length),(4,pI i)] [.row 0 1 b.length 9 (row cS b)]) ?_ e 0 g h rfl) (tk [0] Fj kQ);intro n o b i k h p;subst p;refine aA.round (.d (.d (sD h (λq h=>?_) (λq h=>?_))));exact .d (bk h λs l h=>⟨aB l,_,(ax l).trans rfl,(bk h λt j h=>⟨rfl,aB j,_,ahx _,rfl,_,row cS (b.set i.toNat s),((ax j).trans rfl),ka (dO j) rfl ⟨.same _,trivial⟩,(lg (o _ _ _ h rfl) (tk [0] Rl Rn))⟩)⟩);exact alu;rintro _ _ ⟨a,rfl,rfl,rfl⟩;replace h:=m;refine .d ?_;exact akM
def gW (b:List aD) (c:List aD) (a:Int):Option ((List aD)):=if a<(b.length:Int)then idx b a>>=λd=>idx c a>>=λe=>gW b (c.set a.toNat d) (av (a+1))else some c partial_fixpoint
def mD (a:List aD):Option ((List aD)):=(mf 56 (a.length:Int) (a.length:Int):Option (List aD))>>=λb=>(gW a b 0:Option ((List aD)))>>=λc=>some c
theorem Df {c:List aD} {r:(List aD)} (h:mD c=some r):abC 88 c r:=by
 refine bE Tryz.func88 ?_;unfold mD at h;refine .d (.d (bk h λf g h=>⟨mA g,f.length,row aD.cells f,jH g,rf g (aD.aj default) ⟨.same _,.same _,.same _,.same _,.same _,trivial⟩,?_⟩));obtain⟨i,h,n⟩:=bd h;refine .cut (λσ η=>∃a,a=i/\σ=[(3,.own 0 0 0 a.length)]/\η=[.row 0 5 a.length 77 (row aD.cells a)]) ?_ ?_;refine .d ?_;refine le (gW.partial_correctness c (motive:=λb j l=>i=l->aA _ _ [(0,sl 5 aD.cells c),(3,.own 0 0 0 b.length),(4,pI j)] [.row 0 5 b.length 77 (row aD.cells b)]) ?_ f 0 i h rfl) (tk [0] Fj kQ);intro o p b j l h q;subst q;refine aA.round (.d (.d (sD h (λs h=>?_) (λs h=>?_))));exact .d (bk h λe m h=>⟨aB m,_,(ax m).trans (aD.aj e),(aT (Dd e) (bk h λt k h=>⟨rfl,aB k,_,ahx _,rfl,_,row aD.cells (b.set j.toNat e),((ax k).trans (aD.aj t)),ka (dO k) (aD.aj e) ⟨.same _,.same _,.same _,.same _,.same _,trivial⟩,(lg (p _ _ _ h rfl) (tk [0] Rl Rn))⟩))⟩);exact alu;rintro _ _ ⟨a,rfl,rfl,rfl⟩;replace h:=n;refine .d ?_;exact akM
def rj (a:ar):Option (ar):=lP a.ao>>=λb=>lP a.aI>>=λc=>mC a.au>>=λd=>ri a.ah>>=λe=>some (ar.mk a.ay b c d a.bG e)
theorem JU {b:ar} {r:ar} (h:rj b=some r):sg4 40 b r:=by
 refine bE Tryz.func40 ?_;unfold rj at h;refine .d (.d (.d ⟨rfl,rfl,_,rfl,rfl,rfl,_,_,rfl,aG,(.d ⟨rfl,rfl,_,rfl,(bk h λa g h=>(Bz (xZ g) (.own 3 0 0 a.length) [.row 0 6 1 55 (λ_=>b.lit),.row 0 6 1 43 (λ_=>[.str [],.az,.az,.az,.bool false,.az]),.row 0 6 1 43 (λ_=>[.str b.ay,.az,.az,.az,.bool false,.az]),.row 0 2 a.length 119 (row TParam.cells a)] ⟨rfl,rfl,_,_,rfl,aG,(.d ?_)⟩))⟩)⟩));refine⟨rfl,rfl,_,rfl,(bk h λc i h=>(Bz (xZ i) (.own 4 0 0 c.length) [.row 0 6 1 55 (λ_=>b.lit),.row 0 6 1 43 (λ_=>[.str [],.az,.az,.az,.bool false,.az]),.row 0 6 1 43 (λ_=>[.str b.ay,.own 3 0 0 a.length,.az,.az,.bool false,.az]),.row 0 2 a.length 119 (row TParam.cells a),.row 0 2 c.length 119 (row TParam.cells c)] ⟨rfl,rfl,_,_,rfl,aG,(.d ⟨rfl,rfl,_,rfl,(bk h λe j h=>(Bz (De j) (.own 5 0 0 e.length) [.row 0 6 1 55 (λ_=>b.lit),.row 0 6 1 43 (λ_=>[.str [],.az,.az,.az,.bool false,.az]),.row 0 6 1 43 (λ_=>[.str b.ay,.own 3 0 0 a.length,.own 4 0 0 c.length,.az,.bool false,.az]),.row 0 2 a.length 119 (row TParam.cells a),.row 0 2 c.length 119 (row TParam.cells c),.row 0 1 e.length 9 (row cS e)] ⟨rfl,rfl,_,_,rfl,aG,(.d ⟨rfl,?_⟩)⟩))⟩)⟩))⟩;refine⟨rfl,_,rfl,rfl,rfl,_,_,rfl,aG,(.d ⟨rfl,rfl,_,rfl,(bk h λf k h=>(Bz (JT k) (.own 6 0 0 f.length) [.row 0 6 1 55 (λ_=>b.lit),.row 0 6 1 43 (λ_=>[.str [],.az,.az,.az,.bool false,.az]),.row 0 6 1 43 (λ_=>[.str b.ay,.own 3 0 0 a.length,.own 4 0 0 c.length,.own 5 0 0 e.length,.bool b.bG,.az]),.row 0 2 a.length 119 (row TParam.cells a),.row 0 2 c.length 119 (row TParam.cells c),.row 0 1 e.length 9 (row cS e),.row 0 5 f.length 102 (row ak.cells f)] ⟨rfl,rfl,_,_,rfl,aG,(.d ⟨rfl,_,rfl,rfl,_,_,rfl,aG,?_⟩)⟩))⟩)⟩;obtain rfl:=si h;exact⟨rfl,_,rfl,(en [3,4,5,6] ⟨rfl,rfl⟩ Hu Hx)⟩
def jI (c:List ar) (a:List ar) (b:Int):Option ((List ar)):=if b<(c.length:Int)then idx c b>>=λd=>rj d>>=λe=>idx a b>>=λf=>jI c (a.set b.toNat e) (av (b+1))else some a partial_fixpoint
def pY (a:List ar):Option ((List ar)):=(mf 120 (a.length:Int) (a.length:Int):Option (List ar))>>=λb=>(jI a b 0:Option ((List ar)))>>=λc=>some c
theorem zn {l:List ar} {r:(List ar)} (h:pY l=some r):ACall Tryz.prog 16 [sl 6 ar.cells l] [] (λres h=>∃F0:Nat->List PV,DR ar.D r.length F0 r/\res=.own 0 0 0 r.length/\h=[.row 0 6 r.length 43 F0]):=by
 refine bE Tryz.func16 ?_;unfold pY at h;refine .d (.d (bk h λb m h=>?_));have v:DR ar.D b.length (λi=>bif Nat.blt i b.length then[.str [],.bu 2 0 119 (row TParam.cells ([]:List TParam)) (λ_=>False),.bu 2 0 119 (row TParam.cells ([]:List TParam)) (λ_=>False),.bu 1 0 9 (row cS ([]:List aW)) (λ_=>False),.bool false,.bu 5 0 102 (row ak.cells ([]:List ak)) (λ_=>False)]else[]) b:=zo m (ar.tw (x:=(default:ar)) rfl rfl rfl rfl:ar.D [.str [],.bu 2 0 119 (row TParam.cells ([]:List TParam)) (λ_=>False),.bu 2 0 119 (row TParam.cells ([]:List TParam)) (λ_=>False),.bu 1 0 9 (row cS ([]:List aW)) (λ_=>False),.bool false,.bu 5 0 102 (row ak.cells ([]:List ak)) (λ_=>False)] (default:ar));refine⟨mA m,b.length,(λi=>bif Nat.blt i b.length then[.str [],.bu 2 0 119 (row TParam.cells ([]:List TParam)) (λ_=>False),.bu 2 0 119 (row TParam.cells ([]:List TParam)) (λ_=>False),.bu 1 0 9 (row cS ([]:List aW)) (λ_=>False),.bool false,.bu 5 0 102 (row ak.cells ([]:List ak)) (λ_=>False)]else[]),jH m,HF rfl ⟨.same _,.zq _ _ _,.zq _ _ _,.zq _ _ _,.same _,.zq _ _ _,trivial⟩,?_⟩;obtain⟨n,h,C9⟩:=bd h;refine .cut (λσ η=>∃o,∃f5:Nat->List PV,DR ar.D b.length f5 o/\o=n/\σ=[(3,.own 0 0 0 b.length)]/\η=[.row 0 6 b.length 43 f5]) ?_ ?_;refine .d ?_;refine le (jI.partial_correctness l (motive:=λe c s=>∀f11:Nat->List PV,DR ar.D b.length f11 e->n=s->aA _ _ [(0,sl 6 ar.cells l),(3,.own 0 0 0 b.length),(4,pI c)] [.row 0 6 b.length 43 f11]) ?_ b 0 n h (λi=>bif Nat.blt i b.length then[.str [],.bu 2 0 119 (row TParam.cells ([]:List TParam)) (λ_=>False),.bu 2 0 119 (row TParam.cells ([]:List TParam)) (λ_=>False),.bu 1 0 9 (row cS ([]:List aW)) (λ_=>False),.bool false,.bu 5 0 102 (row ak.cells ([]:List ak)) (λ_=>False)]else[]) v rfl) (tk [0] JM tR);intro w y e c s h f11 d12 z;subst z;refine aA.round (.d (.d (sD h (λA h=>?_) (λA h=>?_))));refine .d (bk h λB t h=>⟨aB t,_,(ax t).trans (ar.aj B),(bk h λa C h=>(Bz (JU C) (.agg [.str a.ay,.own 1 0 0 a.ao.length,.own 2 0 0 a.aI.length,.own 3 0 0 a.au.length,.bool a.bG,.own 4 0 0 a.ah.length]) [.row 0 6 b.length 43 f11,.row 0 2 a.ao.length 119 (row TParam.cells a.ao),.row 0 2 a.aI.length 119 (row TParam.cells a.aI),.row 0 1 a.au.length 9 (row cS a.au),.row 0 5 a.ah.length 102 (row ak.cells a.ah)] (bk h λH f h=>?_)))⟩);obtain⟨I,E,F,G,p⟩:=ar.tV (DR.idx d12 f);refine⟨rfl,DR.bd d12 f,_,ahx _,rfl,_,(bP f11 c.toNat [.str a.ay,.own 1 0 0 a.ao.length,.own 2 0 0 a.aI.length,.own 3 0 0 a.au.length,.bool a.bG,.own 4 0 0 a.ah.length]),p,pd ⟨.same _,.same _,.same _,.same _,.same _,.same _,trivial⟩,(.ab 0 c.toNat 1 1 _ (λ_=>AI (DR.lt d12 f) nU) λg=>(.ab 0 c.toNat 2 2 _ (λ_=>AI (DR.lt d12 f) nU) λu=>(.ab 0 c.toNat 3 3 _ (λ_=>AI (DR.lt d12 f) nU) λj=>(.ab 0 c.toNat 5 4 _ (λ_=>AI (DR.lt d12 f) nU) λk=>?_))))⟩;have q:DR ar.D b.length (bP f11 c.toNat [.str a.ay,.bu 2 a.ao.length 119 (row TParam.cells a.ao) g,.bu 2 a.aI.length 119 (row TParam.cells a.aI) u,.bu 1 a.au.length 9 (row cS a.au) j,.bool a.bG,.bu 5 a.ah.length 102 (row ak.cells a.ah) k]) (e.set c.toNat a):=DR.set d12 (dO f) (ar.tw (x:=a) rfl rfl rfl rfl:ar.D [.str a.ay,.bu 2 a.ao.length 119 (row TParam.cells a.ao) g,.bu 2 a.aI.length 119 (row TParam.cells a.aI) u,.bu 1 a.au.length 9 (row cS a.au) j,.bool a.bG,.bu 5 a.ah.length 102 (row ak.cells a.ah) k] a);exact lg (y _ _ _ h _ q rfl) (tk [0] JM tR);exact alL;rintro _ _ ⟨o,f5,d6,rfl,rfl,rfl⟩;replace h:=C9;refine .d ?_;exact akT
mutual
def kY (a:ae):Option (ae):=uF a.aw>>=λb=>some (ae.mk a.aJ a.bc a.bq a.bC b) partial_fixpoint
def uF (a:List af):Option ((List af)):=(mf 96 (a.length:Int) (a.length:Int):Option (List af))>>=λb=>(iP a b 0:Option ((List af)))>>=λc=>some c partial_fixpoint
def sJ (a:af):Option (af):=kY a.a8>>=λb=>some (af.mk a.ba b) partial_fixpoint
def iP (b:List af) (c:List af) (a:Int):Option ((List af)):=if a<(b.length:Int)then idx b a>>=λe=>sJ e>>=λd=>idx c a>>=λf=>iP b (c.set a.toNat d) (av (a+1))else some c partial_fixpoint
end
def Rs (a:ae) (r:ae):Prop:=Vl 172 a r
def Rt (a:List af) (r:(List af)):Prop:=aes 203 a r
def Mh (a:af) (r:af):Prop:=aet 225 a r
inductive jb:(List af)->(List af)->Int->((List af))->Prop
 | mk (abO:af->Option (af)) (ahf:∀a0 r,abO a0=some r->Mh a0 r) (sK:(List af)->(List af)->Int->Option ((List af))) (Mi:∀a0 AV mV o,sK a0 AV mV=some o->jb a0 AV mV o) (a0:List af) (AV:List af) (mV:Int) (o:(List af)) (h:(
 (if mV<(a0.length:Int)then
 idx a0 mV>>=λzd=>
 abO zd>>=λv26=>
 idx AV mV>>=λPo=>
 sK a0 (AV.set mV.toNat v26) (av (mV+1))
 else
 some AV)
 )=some o):jb a0 AV mV o
theorem Dg:(∀c r,kY c=some r->Rs c r)/\(∀c r,uF c=some r->Rt c r)/\(∀c k g o,iP c k g=some o->jb c k g o)/\(∀c r,sJ c=some r->Mh c r):=by
 refine kY.mutual_partial_correctness Rs Rt jb Mh ?_ ?_ ?_ ?_;intro _ J c r h;refine bE Tryz.func172 ?_;refine .d (.d (.d ⟨rfl,rfl,_,rfl,rfl,rfl,_,_,rfl,aG,(.d ⟨rfl,rfl,_,rfl,rfl,rfl,_,_,rfl,aG,(.d ⟨rfl,rfl,_,rfl,?_⟩)⟩)⟩));refine⟨rfl,rfl,_,_,rfl,aG,(.d ⟨rfl,rfl,_,rfl,rfl,rfl,_,_,rfl,aG,(.d ⟨rfl,rfl,_,rfl,(bk h λF K h=>(xP (J _ _ K) ?_))⟩)⟩)⟩;rintro _ _ ⟨f3,d4,rfl,rfl⟩;refine⟨.own 3 0 0 F.length,[.row 0 5 1 146 (λ_=>c.lit),.row 0 5 1 68 (λ_=>[pI 0,pI 0,.str [],pI 0,.az]),.row 0 5 1 68 (λ_=>[pI c.aJ,pI c.bc,.str c.bq,pI c.bC,.az]),.row 0 8 F.length 124 f3],rfl,amh,rfl,rfl,_,_,rfl,aG,(.d ⟨rfl,_,rfl,rfl,_,_,rfl,aG,?_⟩)⟩;obtain rfl:=si h;exact⟨rfl,_,rfl,(en [3] ⟨f3,d4.self,rfl,rfl⟩ (.cN ⟨.i,.i,.s,.i,.oe,⟨⟩⟩) tR)⟩;intro _ w c r h;refine bE Tryz.func203 ?_;refine .d (.d (bk h λf y h=>?_));have L:DR af.D f.length (λi=>bif Nat.blt i f.length then[.bool false,pI 0,.str [],pI 0,pI 0,.str [],pI 0,.bu 8 0 124 (λ_=>[]) (λ_=>False)]else[]) f:=zo y (af.tw (x:=(default:af)) DR.nil:af.D [.bool false,pI 0,.str [],pI 0,pI 0,.str [],pI 0,.bu 8 0 124 (λ_=>[]) (λ_=>False)] (default:af));refine⟨mA y,f.length,(λi=>bif Nat.blt i f.length then[.bool false,pI 0,.str [],pI 0,pI 0,.str [],pI 0,.bu 8 0 124 (λ_=>[]) (λ_=>False)]else[]),jH y,HF rfl ⟨.same _,.same _,.same _,.same _,.same _,.same _,.same _,.zq _ _ _,trivial⟩,?_⟩;obtain⟨G,h,M⟩:=bd h;refine .cut (λσ η=>∃z,∃f9:Nat->List PV,DR af.D f.length f9 z/\z=G/\σ=[(3,.own 0 0 0 f.length)]/\η=[.row 0 8 f.length 124 f9]) ?_ ?_;refine .d ?_;have A:=w _ _ _ _ h;refine le (jb.rec (motive:=λp k g H _=>∀e:Nat->List PV,DR af.D f.length e k->c=p->G=H->aA _ _ [(0,sl 8 af.cells c),(3,.own 0 0 0 f.length),(4,pI g)] [.row 0 8 f.length 124 e]) ?_ A (λi=>bif Nat.blt i f.length then[.bool false,pI 0,.str [],pI 0,pI 0,.str [],pI 0,.bu 8 0 124 (λ_=>[]) (λ_=>False)]else[]) L rfl rfl) (tk [0] JM tR);intro _ B _ _ p k g H h N e j O P;subst O;subst P;refine aA.round (.d (.d (sD h (λQ h=>?_) (λQ h=>?_))));refine .d (bk h λR I h=>⟨aB I,_,(ax I).trans (af.aj R),(bk h λa S h=>(xP (B _ _ S) ?_))⟩);rintro _ _ ⟨l,m,rfl,rfl⟩;refine⟨.agg [.bool a.ba.dJ,pI a.ba.bc,.str a.ba.bq,pI a.a8.aJ,pI a.a8.bc,.str a.a8.bq,pI a.a8.bC,.own 1 0 0 a.a8.aw.length],[.row 0 8 f.length 124 e,.row 0 8 a.a8.aw.length 124 l],rfl,(by simp only[ahE,ahR,shr,Fp m];rfl),(bk h λPo v h=>?_)⟩;obtain⟨T,U,C,V⟩:=af.tV (DR.idx j v);refine⟨rfl,DR.bd j v,_,ahx _,rfl,_,(bP e g.toNat [.bool a.ba.dJ,pI a.ba.bc,.str a.ba.bq,pI a.a8.aJ,pI a.a8.bc,.str a.a8.bq,pI a.a8.bC,.own 1 0 0 a.a8.aw.length]),C,pd ⟨.same _,.same _,.same _,.same _,.same _,.same _,.same _,.same _,trivial⟩,(.ab 0 g.toNat 7 1 _ (λ_=>AI (DR.lt j v) (m).po) λq=>?_)⟩;have E:DR af.D f.length (bP e g.toNat [.bool a.ba.dJ,pI a.ba.bc,.str a.ba.bq,pI a.a8.aJ,pI a.a8.bc,.str a.a8.bq,pI a.a8.bC,.bu 8 a.a8.aw.length 124 l q]) (k.set g.toNat a):=DR.set j (dO v) (af.tw (x:=a) m:af.D [.bool a.ba.dJ,pI a.ba.bc,.str a.ba.bq,pI a.a8.aJ,pI a.a8.bc,.str a.a8.bq,pI a.a8.bC,.bu 8 a.a8.aw.length 124 l q] a);exact lg (N _ _ _ _ h _ E rfl rfl) (tk [0] JM tR);exact ct ⟨_,e,j,si h,rfl,rfl⟩ (tk [0] ⟨.oe,⟨⟩⟩ tR);rintro _ _ ⟨z,f9,d10,rfl,rfl,rfl⟩;replace h:=M;refine .d ?_;obtain rfl:=si h;exact en [0] ⟨f9,d10.self,rfl,rfl⟩ (.oe) tR;intro F0 F1 W X c k g o h;exact .mk F1 X F0 W c k g o h;intro _ Y c r h;refine bE Tryz.func225 ?_;refine .d (.d (.d ⟨rfl,rfl,_,rfl,(aT (JS c.ba) ⟨rfl,rfl,_,_,rfl,aG,(.d ⟨rfl,rfl,_,rfl,(bk h λn Z h=>(xP (Y _ _ Z) ?_))⟩)⟩)⟩));rintro _ _ ⟨t,u,rfl,rfl⟩;refine⟨.agg [pI n.aJ,pI n.bc,.str n.bq,pI n.bC,.own 3 0 0 n.aw.length],[.row 0 8 1 217 (λ_=>c.lit),.row 0 8 1 124 (λ_=>[.bool false,pI 0,.str [],pI 0,pI 0,.str [],pI 0,.az]),.row 0 8 1 124 (λ_=>[.bool c.ba.dJ,pI c.ba.bc,.str c.ba.bq,pI 0,pI 0,.str [],pI 0,.az]),.row 0 8 n.aw.length 124 t],rfl,(by simp only[ahE,ahR,shr,Fp u];rfl),rfl,rfl,_,_,rfl,aG,(.d ⟨rfl,_,rfl,rfl,_,_,rfl,aG,?_⟩)⟩;obtain rfl:=si h;exact⟨rfl,_,rfl,(en [3] ⟨t,u.self,rfl,rfl⟩ (.cN ⟨.b,.i,.s,.i,.i,.s,.i,.oe,⟨⟩⟩) tR)⟩
theorem HG {a:ae} {r:ae} (h:kY a=some r):Vl 172 a r:=Dg.1 a r h
def pZ (a:aC):Option (aC):=kY a.aQ>>=λb=>some (aC.mk a.ay a.bL a.bI b)
theorem HH {a:aC} {r:aC} (h:pZ a=some r):ACall Tryz.prog 133 [.agg a.lit] [] (λres h=>∃F0:Nat->List PV,DR af.D r.aQ.aw.length F0 r.aQ.aw/\res=.agg [.str r.ay,.str r.bL,.bool r.bI,pI r.aQ.aJ,pI r.aQ.bc,.str r.aQ.bq,pI r.aQ.bC,.own 0 0 0 r.aQ.aw.length]/\h=[.row 0 8 r.aQ.aw.length 124 F0]):=by
 refine bE Tryz.func133 ?_;unfold pZ at h;refine .d (.d (.d ⟨rfl,rfl,_,rfl,rfl,rfl,_,_,rfl,aG,(.d ⟨rfl,rfl,_,rfl,rfl,rfl,_,_,rfl,aG,(.d ⟨rfl,rfl,_,rfl,?_⟩)⟩)⟩));refine⟨rfl,rfl,_,_,rfl,aG,(.d ⟨rfl,rfl,_,rfl,(bk h λc e h=>(xP (HG e) ?_))⟩)⟩;rintro _ _ ⟨f3,d4,rfl,rfl⟩;refine⟨.agg [pI c.aJ,pI c.bc,.str c.bq,pI c.bC,.own 3 0 0 c.aw.length],[.row 0 8 1 148 (λ_=>a.lit),.row 0 8 1 70 (λ_=>[.str [],.str [],.bool false,pI 0,pI 0,.str [],pI 0,.az]),.row 0 8 1 70 (λ_=>[.str a.ay,.str a.bL,.bool a.bI,pI 0,pI 0,.str [],pI 0,.az]),.row 0 8 c.aw.length 124 f3],rfl,amh,rfl,rfl,_,_,rfl,aG,(.d ⟨rfl,_,rfl,rfl,_,_,rfl,aG,?_⟩)⟩;obtain rfl:=si h;exact⟨rfl,_,rfl,(en [3] ⟨f3,d4.self,rfl,rfl⟩ (.cN ⟨.s,.s,.b,.i,.i,.s,.i,.oe,⟨⟩⟩) tR)⟩
def iQ (c:List aC) (a:List aC) (b:Int):Option ((List aC)):=if b<(c.length:Int)then idx c b>>=λd=>pZ d>>=λe=>idx a b>>=λf=>iQ c (a.set b.toNat e) (av (b+1))else some a partial_fixpoint
def nV (a:List aC):Option ((List aC)):=(mf 104 (a.length:Int) (a.length:Int):Option (List aC))>>=λb=>(iQ a b 0:Option ((List aC)))>>=λc=>some c
theorem Fq {j:List aC} {r:(List aC)} (h:nV j=some r):ACall Tryz.prog 87 [sl 8 aC.cells j] [] (λres h=>∃F0:Nat->List PV,DR aC.D r.length F0 r/\res=.own 0 0 0 r.length/\h=[.row 0 8 r.length 70 F0]):=by
 refine bE Tryz.func87 ?_;unfold nV at h;refine .d (.d (bk h λb l h=>?_));have u:DR aC.D b.length (λi=>bif Nat.blt i b.length then[.str [],.str [],.bool false,pI 0,pI 0,.str [],pI 0,.bu 8 0 124 (λ_=>[]) (λ_=>False)]else[]) b:=zo l (aC.tw (x:=(default:aC)) DR.nil:aC.D [.str [],.str [],.bool false,pI 0,pI 0,.str [],pI 0,.bu 8 0 124 (λ_=>[]) (λ_=>False)] (default:aC));refine⟨mA l,b.length,(λi=>bif Nat.blt i b.length then[.str [],.str [],.bool false,pI 0,pI 0,.str [],pI 0,.bu 8 0 124 (λ_=>[]) (λ_=>False)]else[]),jH l,HF rfl ⟨.same _,.same _,.same _,.same _,.same _,.same _,.same _,.zq _ _ _,trivial⟩,?_⟩;obtain⟨m,h,C9⟩:=bd h;refine .cut (λσ η=>∃n,∃f5:Nat->List PV,DR aC.D b.length f5 n/\n=m/\σ=[(3,.own 0 0 0 b.length)]/\η=[.row 0 8 b.length 70 f5]) ?_ ?_;refine .d ?_;refine le (iQ.partial_correctness j (motive:=λc g q=>∀f11:Nat->List PV,DR aC.D b.length f11 c->m=q->aA _ _ [(0,sl 8 aC.cells j),(3,.own 0 0 0 b.length),(4,pI g)] [.row 0 8 b.length 70 f11]) ?_ b 0 m h (λi=>bif Nat.blt i b.length then[.str [],.str [],.bool false,pI 0,pI 0,.str [],pI 0,.bu 8 0 124 (λ_=>[]) (λ_=>False)]else[]) u rfl) (tk [0] JM tR);intro v w c g q h f11 d12 y;subst y;refine aA.round (.d (.d (sD h (λz h=>?_) (λz h=>?_))));refine .d (bk h λA s h=>⟨aB s,_,(ax s).trans (aC.aj A),(bk h λa B h=>(xP (HH B) ?_))⟩);rintro _ _ ⟨e,f,rfl,rfl⟩;refine⟨.agg [.str a.ay,.str a.bL,.bool a.bI,pI a.aQ.aJ,pI a.aQ.bc,.str a.aQ.bq,pI a.aQ.bC,.own 1 0 0 a.aQ.aw.length],[.row 0 8 b.length 70 f11,.row 0 8 a.aQ.aw.length 124 e],rfl,(by simp only[ahE,ahR,shr,Fp f];rfl),(bk h λG k h=>?_)⟩;obtain⟨C,E,o,F⟩:=aC.tV (DR.idx d12 k);refine⟨rfl,DR.bd d12 k,_,ahx _,rfl,_,(bP f11 g.toNat [.str a.ay,.str a.bL,.bool a.bI,pI a.aQ.aJ,pI a.aQ.bc,.str a.aQ.bq,pI a.aQ.bC,.own 1 0 0 a.aQ.aw.length]),o,pd ⟨.same _,.same _,.same _,.same _,.same _,.same _,.same _,.same _,trivial⟩,(.ab 0 g.toNat 7 1 _ (λ_=>AI (DR.lt d12 k) (f).po) λt=>?_)⟩;have p:DR aC.D b.length (bP f11 g.toNat [.str a.ay,.str a.bL,.bool a.bI,pI a.aQ.aJ,pI a.aQ.bc,.str a.aQ.bq,pI a.aQ.bC,.bu 8 a.aQ.aw.length 124 e t]) (c.set g.toNat a):=DR.set d12 (dO k) (aC.tw (x:=a) f:aC.D [.str a.ay,.str a.bL,.bool a.bI,pI a.aQ.aJ,pI a.aQ.bc,.str a.aQ.bq,pI a.aQ.bC,.bu 8 a.aQ.aw.length 124 e t] a);exact lg (w _ _ _ h _ p rfl) (tk [0] JM tR);exact alL;rintro _ _ ⟨n,f5,d6,rfl,rfl,rfl⟩;replace h:=C9;refine .d ?_;exact akT
def p6 (a:aq):Option (aq):=nV a.aM>>=λb=>mD a.aP>>=λc=>some (aq.mk a.ay a.cE b c)
theorem HI {a:aq} {r:aq} (h:p6 a=some r):ACall Tryz.prog 41 [.agg a.lit] [] (λres h=>∃F0:Nat->List PV,DR aC.D r.aM.length F0 r.aM/\res=.agg [.str r.ay,.str r.cE,.own 0 0 0 r.aM.length,.own 1 0 0 r.aP.length]/\h=[.row 0 8 r.aM.length 70 F0,.row 0 5 r.aP.length 77 (row aD.cells r.aP)]):=by
 refine bE Tryz.func41 ?_;unfold p6 at h;refine .d (.d (.d ⟨rfl,rfl,_,rfl,rfl,rfl,_,_,rfl,aG,(.d ⟨rfl,rfl,_,rfl,rfl,rfl,_,_,rfl,aG,(.d ⟨rfl,rfl,_,rfl,?_⟩)⟩)⟩));refine bk h λb e h=>(xP (Fq e) ?_);rintro _ _ ⟨f3,d4,rfl,rfl⟩;refine⟨.own 3 0 0 b.length,[.row 0 4 1 60 (λ_=>a.lit),.row 0 4 1 65 (λ_=>[.str [],.str [],.az,.az]),.row 0 4 1 65 (λ_=>[.str a.ay,.str a.cE,.az,.az]),.row 0 8 b.length 70 f3],rfl,amh,rfl,rfl,_,_,rfl,aG,(.d ⟨rfl,rfl,_,rfl,(bk h λc f h=>(Bz (Df f) (.own 4 0 0 c.length) [.row 0 4 1 60 (λ_=>a.lit),.row 0 4 1 65 (λ_=>[.str [],.str [],.az,.az]),.row 0 4 1 65 (λ_=>[.str a.ay,.str a.cE,.own 3 0 0 b.length,.az]),.row 0 8 b.length 70 f3,.row 0 5 c.length 77 (row aD.cells c)] ⟨rfl,rfl,_,_,rfl,aG,(.d ⟨rfl,_,rfl,rfl,_,_,rfl,aG,?_⟩)⟩))⟩)⟩;obtain rfl:=si h;exact⟨rfl,_,rfl,(en [3,4] ⟨f3,d4.self,rfl,rfl⟩ (.cN ⟨.s,.s,.oe,.o,⟨⟩⟩) ⟨vW,nw,⟨⟩⟩)⟩
def iR (c:List aq) (a:List aq) (b:Int):Option ((List aq)):=if b<(c.length:Int)then idx c b>>=λd=>p6 d>>=λe=>idx a b>>=λf=>iR c (a.set b.toNat e) (av (b+1))else some a partial_fixpoint
def nW (a:List aq):Option ((List aq)):=(mf 80 (a.length:Int) (a.length:Int):Option (List aq))>>=λb=>(iR a b 0:Option ((List aq)))>>=λc=>some c
theorem ya {m:List aq} {r:(List aq)} (h:nW m=some r):ACall Tryz.prog 17 [sl 4 aq.cells m] [] (λres h=>∃F0:Nat->List PV,DR aq.D r.length F0 r/\res=.own 0 0 0 r.length/\h=[.row 0 4 r.length 65 F0]):=by
 refine bE Tryz.func17 ?_;unfold nW at h;refine .d (.d (bk h λb n h=>?_));have v:DR aq.D b.length (λi=>bif Nat.blt i b.length then[.str [],.str [],.bu 8 0 70 (λ_=>[]) (λ_=>False),.bu 5 0 77 (row aD.cells ([]:List aD)) (λ_=>False)]else[]) b:=zo n (aq.tw (x:=(default:aq)) DR.nil rfl:aq.D [.str [],.str [],.bu 8 0 70 (λ_=>[]) (λ_=>False),.bu 5 0 77 (row aD.cells ([]:List aD)) (λ_=>False)] (default:aq));refine⟨mA n,b.length,(λi=>bif Nat.blt i b.length then[.str [],.str [],.bu 8 0 70 (λ_=>[]) (λ_=>False),.bu 5 0 77 (row aD.cells ([]:List aD)) (λ_=>False)]else[]),jH n,HF rfl ⟨.same _,.same _,.zq _ _ _,.zq _ _ _,trivial⟩,?_⟩;obtain⟨o,h,C9⟩:=bd h;refine .cut (λσ η=>∃p,∃f5:Nat->List PV,DR aq.D b.length f5 p/\p=o/\σ=[(3,.own 0 0 0 b.length)]/\η=[.row 0 4 b.length 65 f5]) ?_ ?_;refine .d ?_;refine le (iR.partial_correctness m (motive:=λc e t=>∀f11:Nat->List PV,DR aq.D b.length f11 c->o=t->aA _ _ [(0,sl 4 aq.cells m),(3,.own 0 0 0 b.length),(4,pI e)] [.row 0 4 b.length 65 f11]) ?_ b 0 o h (λi=>bif Nat.blt i b.length then[.str [],.str [],.bu 8 0 70 (λ_=>[]) (λ_=>False),.bu 5 0 77 (row aD.cells ([]:List aD)) (λ_=>False)]else[]) v rfl) (tk [0] JM tR);intro w y c e t h f11 d12 z;subst z;refine aA.round (.d (.d (sD h (λA h=>?_) (λA h=>?_))));refine .d (bk h λB u h=>⟨aB u,_,(ax u).trans (aq.aj B),(bk h λa C h=>(xP (HI C) ?_))⟩);rintro _ _ ⟨f,g,rfl,rfl⟩;refine⟨.agg [.str a.ay,.str a.cE,.own 1 0 0 a.aM.length,.own 2 0 0 a.aP.length],[.row 0 4 b.length 65 f11,.row 0 8 a.aM.length 70 f,.row 0 5 a.aP.length 77 (row aD.cells a.aP)],rfl,(by simp only[ahE,ahR,shr,Fp g];rfl),(bk h λI j h=>?_)⟩;obtain⟨E,F,G,q,H⟩:=aq.tV (DR.idx d12 j);refine⟨rfl,DR.bd d12 j,_,ahx _,rfl,_,(bP f11 e.toNat [.str a.ay,.str a.cE,.own 1 0 0 a.aM.length,.own 2 0 0 a.aP.length]),q,pd ⟨.same _,.same _,.same _,.same _,trivial⟩,(.ab 0 e.toNat 2 1 _ (λ_=>AI (DR.lt d12 j) (g).po) λk=>(.ab 0 e.toNat 3 2 _ (λ_=>AI (DR.lt d12 j) nU) λl=>?_))⟩;have s:DR aq.D b.length (bP f11 e.toNat [.str a.ay,.str a.cE,.bu 8 a.aM.length 70 f k,.bu 5 a.aP.length 77 (row aD.cells a.aP) l]) (c.set e.toNat a):=DR.set d12 (dO j) (aq.tw (x:=a) g rfl:aq.D [.str a.ay,.str a.cE,.bu 8 a.aM.length 70 f k,.bu 5 a.aP.length 77 (row aD.cells a.aP) l] a);exact lg (y _ _ _ h _ s rfl) (tk [0] JM tR);exact alL;rintro _ _ ⟨p,f5,d6,rfl,rfl,rfl⟩;replace h:=C9;refine .d ?_;exact akT
def dM (a:aE):Option (aE):=pY a.aK>>=λb=>nW a.aH>>=λc=>some (aE.mk b c)
theorem rm {a:aE} {r:aE} (h:dM a=some r):ACall Tryz.prog 6 [.agg a.lit] [] (λres h=>res=.agg r.lit/\h=[]):=by
 refine bE Tryz.func6 ?_;unfold dM at h;refine .d (.d (.d ⟨rfl,rfl,_,rfl,(bk h λb f h=>(xP (zn f) ?_))⟩));rintro _ _ ⟨f3,d4,rfl,rfl⟩;refine⟨.own 3 0 0 b.length,[.row 0 2 1 25 (λ_=>a.lit),.row 0 2 1 30 (λ_=>[.az,.az]),.row 0 2 1 30 (λ_=>[.az,.az]),.row 0 6 b.length 43 f3],rfl,amh,rfl,rfl,_,_,rfl,aG,(.d ⟨rfl,rfl,_,rfl,(bk h λc g h=>(xP (ya g) ?_))⟩)⟩;rintro _ _ ⟨i,e,rfl,rfl⟩;refine⟨.own 4 0 0 c.length,[.row 0 2 1 25 (λ_=>a.lit),.row 0 2 1 30 (λ_=>[.az,.az]),.row 0 2 1 30 (λ_=>[.own 3 0 0 b.length,.az]),.row 0 6 b.length 43 f3,.row 0 4 c.length 65 i],rfl,(by simp only[ahE,ahR,shr,Fp e];rfl),rfl,rfl,_,_,rfl,aG,(.d ⟨rfl,_,rfl,rfl,_,_,rfl,aG,?_⟩)⟩;obtain rfl:=si h;exact⟨rfl,_,rfl,(en [] ⟨rfl,rfl⟩ (.cN ⟨(.rd d4),(.rd e),⟨⟩⟩) ⟨⟩)⟩
theorem Ch {a:aE} {r:aE} (h:dM a=some r):Yx 6 a r:=by
 refine bE Tryz.func6 ?_;unfold dM at h;refine .d (.d (.d ⟨rfl,rfl,_,rfl,(bk h λb g h=>(xP (zn g) ?_))⟩));rintro _ _ ⟨f3,d4,rfl,rfl⟩;refine⟨.own 3 0 0 b.length,[.row 0 2 1 25 (λ_=>a.lit),.row 0 2 1 30 (λ_=>[.az,.az]),.row 0 2 1 30 (λ_=>[.az,.az]),.row 0 6 b.length 43 f3],rfl,amh,rfl,rfl,_,_,rfl,aG,(.d ⟨rfl,rfl,_,rfl,(bk h λc i h=>(xP (ya i) ?_))⟩)⟩;rintro _ _ ⟨e,f,rfl,rfl⟩;refine⟨.own 4 0 0 c.length,[.row 0 2 1 25 (λ_=>a.lit),.row 0 2 1 30 (λ_=>[.az,.az]),.row 0 2 1 30 (λ_=>[.own 3 0 0 b.length,.az]),.row 0 6 b.length 43 f3,.row 0 4 c.length 65 e],rfl,(by simp only[ahE,ahR,shr,Fp f];rfl),rfl,rfl,_,_,rfl,aG,(.d ⟨rfl,_,rfl,rfl,_,_,rfl,aG,?_⟩)⟩;obtain rfl:=si h;exact⟨rfl,_,rfl,(en [3,4] ⟨f3,e,d4.self,f.self,rfl,rfl⟩ (.cN ⟨.oe,.oe,⟨⟩⟩) ⟨vW,vW,⟨⟩⟩)⟩
set_option maxRecDepth 100000
def tW (a:ak) (b:ak):Option (Bool):=if a.aN=b.aN then if a.fA=b.fA then if a.fB=b.fB then if a.fS=b.fS then if a.fT=b.fT then some true else some false else some false else some false else some false else some false
theorem Mk {a:ak} {b:ak} {r:Bool} (h:tW a b=some r):ACall Tryz.prog 152 [.agg a.lit,.agg b.lit] [] (λres h=>res=.bool r/\h=[]):=by
 refine bE Tryz.func152 ?_;unfold tW at h;refine .d (.d (.d ⟨rfl,rfl,_,rfl,rfl,rfl,_,rfl,(sN h (λc h=>?_) (λc h=>?_))⟩));exact alb;refine .d (.d ⟨rfl,rfl,_,rfl,rfl,rfl,_,rfl,(sN h (λe h=>?_) (λe h=>?_))⟩);exact alb;refine .d (.d ⟨rfl,rfl,_,rfl,rfl,rfl,_,rfl,(sN h (λf h=>?_) (λf h=>?_))⟩);exact alb;refine .d (.d ⟨rfl,rfl,_,rfl,rfl,rfl,_,rfl,(nX h (λg h=>?_) (λg h=>?_))⟩);exact alb;refine .d (.d ⟨rfl,rfl,_,rfl,rfl,rfl,_,rfl,(nX h (λi h=>?_) (λi h=>?_))⟩);exact alb;exact alb
def p7 (a:TParam) (b:TParam):Option (Bool):=if a.ay=b.ay then if a.Ml=b.Ml then some true else some false else some false
theorem HJ {a:TParam} {b:TParam} {r:Bool} (h:p7 a b=some r):ACall Tryz.prog 151 [.agg a.lit,.agg b.lit] [] (λres h=>res=.bool r/\h=[]):=by
 refine bE Tryz.func151 ?_;unfold p7 at h;refine .d (.d (.d ⟨rfl,rfl,_,rfl,rfl,rfl,_,rfl,(nX h (λc h=>?_) (λc h=>?_))⟩));exact alb;refine .d (.d ⟨rfl,rfl,_,rfl,rfl,rfl,_,rfl,(nX h (λe h=>?_) (λe h=>?_))⟩);exact alb;exact alb
def kG (b:List ak) (c:List ak) (a:Int):Option eh:=if a<(b.length:Int)then idx b a>>=λd=>idx c a>>=λe=>tW d e>>=λf=>if f then kG b c (av (a+1))else some (.inr false)else some (.inl ()) partial_fixpoint
def rn (a:List ak) (b:List ak):Option (Bool):=if(a.length:Int)=(b.length:Int)then((kG a b 0:Option eh)>>=λc=>match c with | .inr r=>some r | .inl _=>some true)else some false
theorem JW {a:List ak} {b:List ak} {r:Bool} (h:rn a b=some r):ACall Tryz.prog 106 [sl 5 ak.cells a,sl 5 ak.cells b] [] (λres h=>res=.bool r/\h=[]):=by
 refine bE Tryz.func106 ?_;unfold rn at h;refine .d (.d (.d (sN h (λj h=>?_) (λj h=>?_))));exact alb;obtain⟨c,h,c8⟩:=bd h;refine .cut (λσ η=>.inl ()=c/\σ=[]/\η=[]) ?_ ?_;refine .d ?_;refine le (kG.partial_correctness a b (motive:=λe f=>c=f->aA _ _ [(0,sl 5 ak.cells a),(1,sl 5 ak.cells b),(5,pI e)] []) ?_ 0 c h rfl) (tk [] xO ⟨⟩);intro q Fa e f h k;subst k;refine aA.round (.d (.d (sD h (λl h=>?_) (λl h=>?_))));refine .d (.d (.float [(0,true),(1,true),(2,true),(3,true),(4,true),(5,true),(6,true),(7,true),(8,false),(9,true)] alZ ?_));refine bk h λm g h=>⟨aB g,_,(ax g).trans (ak.aj m),(bk h λn i h=>⟨aB i,_,(ax i).trans (ak.aj n),(bk h λs o h=>(aT (Mk o) (fG h (λp h=>?_) (λp h=>?_))))⟩)⟩;refine .d ?_;exact akl;exact alz;exact ald;exact akd
def iS (b:List TParam) (c:List TParam) (a:Int):Option eh:=if a<(b.length:Int)then idx b a>>=λd=>idx c a>>=λe=>p7 d e>>=λf=>if f then iS b c (av (a+1))else some (.inr false)else some (.inl ()) partial_fixpoint
def lQ (a:List TParam) (b:List TParam):Option (Bool):=if(a.length:Int)=(b.length:Int)then((iS a b 0:Option eh)>>=λc=>match c with | .inr r=>some r | .inl _=>some true)else some false
theorem yb {a:List TParam} {b:List TParam} {r:Bool} (h:lQ a b=some r):ACall Tryz.prog 104 [sl 2 TParam.cells a,sl 2 TParam.cells b] [] (λres h=>res=.bool r/\h=[]):=by
 refine bE Tryz.func104 ?_;unfold lQ at h;refine .d (.d (.d (sN h (λj h=>?_) (λj h=>?_))));exact alb;obtain⟨c,h,c8⟩:=bd h;refine .cut (λσ η=>.inl ()=c/\σ=[]/\η=[]) ?_ ?_;refine .d ?_;refine le (iS.partial_correctness a b (motive:=λe f=>c=f->aA _ _ [(0,sl 2 TParam.cells a),(1,sl 2 TParam.cells b),(5,pI e)] []) ?_ 0 c h rfl) (tk [] xO ⟨⟩);intro q Fa e f h k;subst k;refine aA.round (.d (.d (sD h (λl h=>?_) (λl h=>?_))));refine .d (.d (.float [(0,true),(1,true),(2,true),(3,true),(4,true),(5,true),(6,true),(7,true),(8,false),(9,true)] alZ ?_));refine bk h λm g h=>⟨aB g,_,(ax g).trans (TParam.aj m),(bk h λn i h=>⟨aB i,_,(ax i).trans (TParam.aj n),(bk h λs o h=>(aT (HJ o) (fG h (λp h=>?_) (λp h=>?_))))⟩)⟩;refine .d ?_;exact akl;exact alz;exact ald;exact akd
def gX (b:List aW) (c:List aW) (a:Int):Option eh:=if a<(b.length:Int)then idx b a>>=λd=>idx c a>>=λe=>if d=e then gX b c (av (a+1))else some (.inr false)else some (.inl ()) partial_fixpoint
def mE (a:List aW) (b:List aW):Option (Bool):=if(a.length:Int)=(b.length:Int)then((gX a b 0:Option eh)>>=λc=>match c with | .inr r=>some r | .inl _=>some true)else some false
theorem Di {a:List aW} {b:List aW} {r:Bool} (h:mE a b=some r):ACall Tryz.prog 105 [sl 1 cS a,sl 1 cS b] [] (λres h=>res=.bool r/\h=[]):=by
 refine bE Tryz.func105 ?_;unfold mE at h;refine .d (.d (.d (sN h (λj h=>?_) (λj h=>?_))));exact alb;obtain⟨c,h,c8⟩:=bd h;refine .cut (λσ η=>.inl ()=c/\σ=[]/\η=[]) ?_ ?_;refine .d ?_;refine le (gX.partial_correctness a b (motive:=λe f=>c=f->aA _ _ [(0,sl 1 cS a),(1,sl 1 cS b),(5,pI e)] []) ?_ 0 c h rfl) (tk [] xO ⟨⟩);intro n Fa e f h k;subst k;refine aA.round (.d (.d (sD h (λl h=>?_) (λl h=>?_))));refine .d (.d (bk h λo g h=>⟨aB g,_,(ax g).trans rfl,(bk h λp i h=>⟨aB i,_,(ax i).trans rfl,(nX h (λm h=>?_) (λm h=>?_))⟩)⟩));refine .d ?_;exact akl;exact alz;exact ald;exact akd
def rp (a:ar) (b:ar):Option (Bool):=if a.ay=b.ay then lQ a.ao b.ao>>=λd=>if d then lQ a.aI b.aI>>=λe=>if e then mE a.au b.au>>=λf=>if f then if a.bG=b.bG then rn a.ah b.ah>>=λc=>if c then some true else some false else some false else some false else some false else some false else some false
theorem JX {a:ar} {b:ar} {r:Bool} (h:rp a b=some r):ACall Tryz.prog 53 [.agg a.lit,.agg b.lit] [] (λres h=>res=.bool r/\h=[]):=by
 refine bE Tryz.func53 ?_;unfold rp at h;refine .d (.d (.d ⟨rfl,rfl,_,rfl,rfl,rfl,_,rfl,(nX h (λc h=>?_) (λc h=>?_))⟩));exact alb;refine .d (.d ⟨rfl,rfl,_,rfl,rfl,rfl,_,rfl,(bk h λp e h=>(aT (yb e) (fG h (λf h=>?_) (λf h=>?_))))⟩);exact alb;refine .d (.d ⟨rfl,rfl,_,rfl,rfl,rfl,_,rfl,(bk h λq g h=>(aT (yb g) (fG h (λi h=>?_) (λi h=>?_))))⟩);exact alb;refine .d (.d ⟨rfl,rfl,_,rfl,rfl,rfl,_,rfl,(bk h λs j h=>(aT (Di j) (fG h (λk h=>?_) (λk h=>?_))))⟩);exact alb;refine .d (.d ⟨rfl,rfl,_,rfl,rfl,rfl,_,rfl,(nX h (λl h=>?_) (λl h=>?_))⟩);exact alb;refine .d (.d ⟨rfl,rfl,_,rfl,rfl,rfl,_,rfl,(bk h λm n h=>(aT (JW n) (fG h (λo h=>?_) (λo h=>?_))))⟩);exact alb;exact alb
def jJ (b:List ar) (c:List ar) (a:Int):Option eh:=if a<(b.length:Int)then idx b a>>=λd=>idx c a>>=λe=>rp d e>>=λf=>if f then jJ b c (av (a+1))else some (.inr false)else some (.inl ()) partial_fixpoint
def p8 (a:List ar) (b:List ar):Option (Bool):=if(a.length:Int)=(b.length:Int)then((jJ a b 0:Option eh)>>=λc=>match c with | .inr r=>some r | .inl _=>some true)else some false
theorem HK {a:List ar} {b:List ar} {r:Bool} (h:p8 a b=some r):ACall Tryz.prog 21 [sl 6 ar.cells a,sl 6 ar.cells b] [] (λres h=>res=.bool r/\h=[]):=by
 refine bE Tryz.func21 ?_;unfold p8 at h;refine .d (.d (.d (sN h (λj h=>?_) (λj h=>?_))));exact alb;obtain⟨c,h,c8⟩:=bd h;refine .cut (λσ η=>.inl ()=c/\σ=[]/\η=[]) ?_ ?_;refine .d ?_;refine le (jJ.partial_correctness a b (motive:=λe f=>c=f->aA _ _ [(0,sl 6 ar.cells a),(1,sl 6 ar.cells b),(5,pI e)] []) ?_ 0 c h rfl) (tk [] xO ⟨⟩);intro q Fa e f h k;subst k;refine aA.round (.d (.d (sD h (λl h=>?_) (λl h=>?_))));refine .d (.d (.float [(0,true),(1,true),(2,true),(3,true),(4,true),(5,true),(6,true),(7,true),(8,false),(9,true)] alZ ?_));refine bk h λm g h=>⟨aB g,_,(ax g).trans (ar.aj m),(bk h λn i h=>⟨aB i,_,(ax i).trans (ar.aj n),(bk h λs o h=>(aT (JX o) (fG h (λp h=>?_) (λp h=>?_))))⟩)⟩;refine .d ?_;exact akl;exact alz;exact ald;exact akd
def tX (a:bW) (b:bW):Option (Bool):=if a.dJ=b.dJ then if a.bc=b.bc then if a.bq=b.bq then some true else some false else some false else some false
theorem Mm {a:bW} {b:bW} {r:Bool} (h:tX a b=some r):ACall Tryz.prog 254 [.agg a.lit,.agg b.lit] [] (λres h=>res=.bool r/\h=[]):=by
 refine bE Tryz.func254 ?_;unfold tX at h;refine .d (.d (.d ⟨rfl,rfl,_,rfl,rfl,rfl,_,rfl,(nX h (λc h=>?_) (λc h=>?_))⟩));exact alb;refine .d (.d ⟨rfl,rfl,_,rfl,rfl,rfl,_,rfl,(sN h (λe h=>?_) (λe h=>?_))⟩);exact alb;refine .d (.d ⟨rfl,rfl,_,rfl,rfl,rfl,_,rfl,(nX h (λf h=>?_) (λf h=>?_))⟩);exact alb;exact alb
mutual
def kZ (a:ae) (b:ae):Option (Bool):=if a.aJ=b.aJ then if a.bc=b.bc then if a.bq=b.bq then if a.bC=b.bC then uG a.aw b.aw>>=λc=>if c then some true else some false else some false else some false else some false else some false partial_fixpoint
def uG (a:List af) (b:List af):Option (Bool):=if(a.length:Int)=(b.length:Int)then((fP a b 0:Option eh)>>=λc=>match c with | .inr r=>some r | .inl _=>some true)else some false partial_fixpoint
def sL (b:af) (c:af):Option (Bool):=tX b.ba c.ba>>=λa=>if a then kZ b.a8 c.a8>>=λd=>if d then some true else some false else some false partial_fixpoint
def fP (b:List af) (d:List af) (a:Int):Option eh:=if a<(b.length:Int)then idx b a>>=λe=>idx d a>>=λf=>sL e f>>=λc=>if c then fP b d (av (a+1))else some (.inr false)else some (.inl ()) partial_fixpoint
end
def Rx (a:ae) (b:ae) (r:Bool):Prop:=sg6 192 a b r
def Ry (a:List af) (b:List af) (r:Bool):Prop:=ACall Tryz.prog 218 [sl 8 af.cells a,sl 8 af.cells b] [] (λres h=>res=.bool r/\h=[])
def Mn (a:af) (b:af) (r:Bool):Prop:=ACall Tryz.prog 241 [.agg a.lit,.agg b.lit] [] (λres h=>res=.bool r/\h=[])
inductive jc:(List af)->(List af)->Int->eh->Prop
 | mk (abP:af->af->Option (Bool)) (ahg:∀a0 a1 r,abP a0 a1=some r->Mn a0 a1 r) (sM:(List af)->(List af)->Int->Option eh) (Mo:∀a0 a1 bY o,sM a0 a1 bY=some o->jc a0 a1 bY o) (a0:List af) (a1:List af) (bY:Int) (o:(Unit) ⊕ Bool) (h:(
 (if bY<(a0.length:Int)then
 idx a0 bY>>=λQI=>
 idx a1 bY>>=λCI=>
 abP QI CI>>=λv23=>
 (if v23=true then
 sM a0 a1 (av (bY+1))
 else
 some (.inr false))
 else
 some (.inl ()))
 )=some o):jc a0 a1 bY o
theorem Dj:(∀a b r,kZ a b=some r->Rx a b r)/\(∀a b r,uG a b=some r->Ry a b r)/\(∀a b c o,fP a b c=some o->jc a b c o)/\(∀a b r,sL a b=some r->Mn a b r):=by
 refine kZ.mutual_partial_correctness Rx Ry jc Mn ?_ ?_ ?_ ?_;intro _ s a b r h;refine bE Tryz.func192 ?_;refine .d (.d (.d ⟨rfl,rfl,_,rfl,rfl,rfl,_,rfl,(sN h (λt h=>?_) (λt h=>?_))⟩));exact alb;refine .d (.d ⟨rfl,rfl,_,rfl,rfl,rfl,_,rfl,(sN h (λu h=>?_) (λu h=>?_))⟩);exact alb;refine .d (.d ⟨rfl,rfl,_,rfl,rfl,rfl,_,rfl,(nX h (λv h=>?_) (λv h=>?_))⟩);exact alb;refine .d (.d ⟨rfl,rfl,_,rfl,rfl,rfl,_,rfl,(sN h (λw h=>?_) (λw h=>?_))⟩);exact alb;refine .d (.d ⟨rfl,rfl,_,rfl,rfl,rfl,_,rfl,(bk h λR x h=>(aT (s _ _ _ x) (fG h (λy h=>?_) (λy h=>?_))))⟩);exact alb;exact alb;intro _ g a b r h;refine bE Tryz.func218 ?_;refine .d (.d (.d (sN h (λz h=>?_) (λz h=>?_))));exact alb;obtain⟨l,h,m⟩:=bd h;refine .cut (λσ η=>.inl ()=l/\σ=[]/\η=[]) ?_ ?_;refine .d ?_;have i:=g _ _ _ _ h;refine le (jc.rec (motive:=λe f c n _=>a=e->b=f->l=n->aA _ _ [(0,sl 8 af.cells a),(1,sl 8 af.cells b),(5,pI c)] []) ?_ i rfl rfl rfl) (tk [] xO ⟨⟩);intro _ j _ _ e f c n h A  B C D;subst B;subst C;subst D;refine aA.round (.d (.d (sD h (λE h=>?_) (λE h=>?_))));refine .d (.d (.float [(0,true),(1,true),(2,true),(3,true),(4,true),(5,true),(6,true),(7,true),(8,false),(9,true)] alZ ?_));refine bk h λF p h=>⟨aB p,_,(ax p).trans (af.aj F),(bk h λG q h=>⟨aB q,_,(ax q).trans (af.aj G),(bk h λH I h=>(aT (j _ _ _ I) (fG h (λJ h=>?_) (λJ h=>?_))))⟩)⟩;refine .d ?_;obtain rfl:=si h;exact eB m;exact lg (A _ _ _ _ h rfl rfl rfl) (tk [] xO ⟨⟩);exact ald;rintro _ _ ⟨rfl,rfl,rfl⟩;replace h:=m;exact alb;intro F0 F1 K L a b c o h;exact .mk F1 L F0 K a b c o h;intro _ M a b r h;refine bE Tryz.func241 ?_;refine .d (.d (.d ⟨rfl,rfl,_,rfl,rfl,rfl,_,rfl,(bk h λN k h=>(aT (Mm k) (fG h (λO h=>?_) (λO h=>?_))))⟩));exact alb;refine .d (.d ⟨rfl,rfl,_,rfl,rfl,rfl,_,rfl,(bk h λS P h=>(aT (M _ _ _ P) (fG h (λQ h=>?_) (λQ h=>?_))))⟩);exact alb;exact alb
theorem HL {a:ae} {b:ae} {r:Bool} (h:kZ a b=some r):sg6 192 a b r:=Dj.1 a b r h
def p9 (a:aC) (b:aC):Option (Bool):=if a.ay=b.ay then if a.bL=b.bL then if a.bI=b.bI then kZ a.aQ b.aQ>>=λc=>if c then some true else some false else some false else some false else some false
theorem HM {a:aC} {b:aC} {r:Bool} (h:p9 a b=some r):ACall Tryz.prog 153 [.agg a.lit,.agg b.lit] [] (λres h=>res=.bool r/\h=[]):=by
 refine bE Tryz.func153 ?_;unfold p9 at h;refine .d (.d (.d ⟨rfl,rfl,_,rfl,rfl,rfl,_,rfl,(nX h (λc h=>?_) (λc h=>?_))⟩));exact alb;refine .d (.d ⟨rfl,rfl,_,rfl,rfl,rfl,_,rfl,(nX h (λe h=>?_) (λe h=>?_))⟩);exact alb;refine .d (.d ⟨rfl,rfl,_,rfl,rfl,rfl,_,rfl,(nX h (λf h=>?_) (λf h=>?_))⟩);exact alb;refine .d (.d ⟨rfl,rfl,_,rfl,rfl,rfl,_,rfl,(bk h λj g h=>(aT (HL g) (fG h (λi h=>?_) (λi h=>?_))))⟩);exact alb;exact alb
def nY (a:aD) (b:aD):Option (Bool):=if a.ay=b.ay then if a.bL=b.bL then if a.me=b.me then if a.bI=b.bI then if a.pK=b.pK then some true else some false else some false else some false else some false else some false
theorem Fs {a:aD} {b:aD} {r:Bool} (h:nY a b=some r):ACall Tryz.prog 154 [.agg a.lit,.agg b.lit] [] (λres h=>res=.bool r/\h=[]):=by
 refine bE Tryz.func154 ?_;unfold nY at h;refine .d (.d (.d ⟨rfl,rfl,_,rfl,rfl,rfl,_,rfl,(nX h (λc h=>?_) (λc h=>?_))⟩));exact alb;refine .d (.d ⟨rfl,rfl,_,rfl,rfl,rfl,_,rfl,(nX h (λe h=>?_) (λe h=>?_))⟩);exact alb;refine .d (.d ⟨rfl,rfl,_,rfl,rfl,rfl,_,rfl,(nX h (λf h=>?_) (λf h=>?_))⟩);exact alb;refine .d (.d ⟨rfl,rfl,_,rfl,rfl,rfl,_,rfl,(nX h (λg h=>?_) (λg h=>?_))⟩);exact alb;refine .d (.d ⟨rfl,rfl,_,rfl,rfl,rfl,_,rfl,(nX h (λi h=>?_) (λi h=>?_))⟩);exact alb;exact alb
def iT (b:List aC) (c:List aC) (a:Int):Option eh:=if a<(b.length:Int)then idx b a>>=λd=>idx c a>>=λe=>p9 d e>>=λf=>if f then iT b c (av (a+1))else some (.inr false)else some (.inl ()) partial_fixpoint
def nZ (a:List aC) (b:List aC):Option (Bool):=if(a.length:Int)=(b.length:Int)then((iT a b 0:Option eh)>>=λc=>match c with | .inr r=>some r | .inl _=>some true)else some false
theorem Ft {a:List aC} {b:List aC} {r:Bool} (h:nZ a b=some r):ACall Tryz.prog 107 [sl 8 aC.cells a,sl 8 aC.cells b] [] (λres h=>res=.bool r/\h=[]):=by
 refine bE Tryz.func107 ?_;unfold nZ at h;refine .d (.d (.d (sN h (λj h=>?_) (λj h=>?_))));exact alb;obtain⟨c,h,c8⟩:=bd h;refine .cut (λσ η=>.inl ()=c/\σ=[]/\η=[]) ?_ ?_;refine .d ?_;refine le (iT.partial_correctness a b (motive:=λe f=>c=f->aA _ _ [(0,sl 8 aC.cells a),(1,sl 8 aC.cells b),(5,pI e)] []) ?_ 0 c h rfl) (tk [] xO ⟨⟩);intro q Fa e f h k;subst k;refine aA.round (.d (.d (sD h (λl h=>?_) (λl h=>?_))));refine .d (.d (.float [(0,true),(1,true),(2,true),(3,true),(4,true),(5,true),(6,true),(7,true),(8,false),(9,true)] alZ ?_));refine bk h λm g h=>⟨aB g,_,(ax g).trans (aC.aj m),(bk h λn i h=>⟨aB i,_,(ax i).trans (aC.aj n),(bk h λs o h=>(aT (HM o) (fG h (λp h=>?_) (λp h=>?_))))⟩)⟩;refine .d ?_;exact akl;exact alz;exact ald;exact akd
def gY (b:List aD) (c:List aD) (a:Int):Option eh:=if a<(b.length:Int)then idx b a>>=λd=>idx c a>>=λe=>nY d e>>=λf=>if f then gY b c (av (a+1))else some (.inr false)else some (.inl ()) partial_fixpoint
def mF (a:List aD) (b:List aD):Option (Bool):=if(a.length:Int)=(b.length:Int)then((gY a b 0:Option eh)>>=λc=>match c with | .inr r=>some r | .inl _=>some true)else some false
theorem Dl {a:List aD} {b:List aD} {r:Bool} (h:mF a b=some r):ACall Tryz.prog 108 [sl 5 aD.cells a,sl 5 aD.cells b] [] (λres h=>res=.bool r/\h=[]):=by
 refine bE Tryz.func108 ?_;unfold mF at h;refine .d (.d (.d (sN h (λj h=>?_) (λj h=>?_))));exact alb;obtain⟨c,h,c8⟩:=bd h;refine .cut (λσ η=>.inl ()=c/\σ=[]/\η=[]) ?_ ?_;refine .d ?_;refine le (gY.partial_correctness a b (motive:=λe f=>c=f->aA _ _ [(0,sl 5 aD.cells a),(1,sl 5 aD.cells b),(5,pI e)] []) ?_ 0 c h rfl) (tk [] xO ⟨⟩);intro q Fa e f h k;subst k;refine aA.round (.d (.d (sD h (λl h=>?_) (λl h=>?_))));refine .d (.d (.float [(0,true),(1,true),(2,true),(3,true),(4,true),(5,true),(6,true),(7,true),(8,false),(9,true)] alZ ?_));refine bk h λm g h=>⟨aB g,_,(ax g).trans (aD.aj m),(bk h λn i h=>⟨aB i,_,(ax i).trans (aD.aj n),(bk h λs o h=>(aT (Fs o) (fG h (λp h=>?_) (λp h=>?_))))⟩)⟩;refine .d ?_;exact akl;exact alz;exact ald;exact akd
def qa (a:aq) (b:aq):Option (Bool):=if a.ay=b.ay then if a.cE=b.cE then nZ a.aM b.aM>>=λc=>if c then mF a.aP b.aP>>=λd=>if d then some true else some false else some false else some false else some false
theorem HN {a:aq} {b:aq} {r:Bool} (h:qa a b=some r):ACall Tryz.prog 54 [.agg a.lit,.agg b.lit] [] (λres h=>res=.bool r/\h=[]):=by
 refine bE Tryz.func54 ?_;unfold qa at h;refine .d (.d (.d ⟨rfl,rfl,_,rfl,rfl,rfl,_,rfl,(nX h (λc h=>?_) (λc h=>?_))⟩));exact alb;refine .d (.d ⟨rfl,rfl,_,rfl,rfl,rfl,_,rfl,(nX h (λe h=>?_) (λe h=>?_))⟩);exact alb;refine .d (.d ⟨rfl,rfl,_,rfl,rfl,rfl,_,rfl,(bk h λk f h=>(aT (Ft f) (fG h (λg h=>?_) (λg h=>?_))))⟩);exact alb;refine .d (.d ⟨rfl,rfl,_,rfl,rfl,rfl,_,rfl,(bk h λl i h=>(aT (Dl i) (fG h (λj h=>?_) (λj h=>?_))))⟩);exact alb;exact alb
def iU (b:List aq) (c:List aq) (a:Int):Option eh:=if a<(b.length:Int)then idx b a>>=λd=>idx c a>>=λe=>qa d e>>=λf=>if f then iU b c (av (a+1))else some (.inr false)else some (.inl ()) partial_fixpoint
def n7 (a:List aq) (b:List aq):Option (Bool):=if(a.length:Int)=(b.length:Int)then((iU a b 0:Option eh)>>=λc=>match c with | .inr r=>some r | .inl _=>some true)else some false
theorem Fu {a:List aq} {b:List aq} {r:Bool} (h:n7 a b=some r):ACall Tryz.prog 22 [sl 4 aq.cells a,sl 4 aq.cells b] [] (λres h=>res=.bool r/\h=[]):=by
 refine bE Tryz.func22 ?_;unfold n7 at h;refine .d (.d (.d (sN h (λj h=>?_) (λj h=>?_))));exact alb;obtain⟨c,h,c8⟩:=bd h;refine .cut (λσ η=>.inl ()=c/\σ=[]/\η=[]) ?_ ?_;refine .d ?_;refine le (iU.partial_correctness a b (motive:=λe f=>c=f->aA _ _ [(0,sl 4 aq.cells a),(1,sl 4 aq.cells b),(5,pI e)] []) ?_ 0 c h rfl) (tk [] xO ⟨⟩);intro q Fa e f h k;subst k;refine aA.round (.d (.d (sD h (λl h=>?_) (λl h=>?_))));refine .d (.d (.float [(0,true),(1,true),(2,true),(3,true),(4,true),(5,true),(6,true),(7,true),(8,false),(9,true)] alZ ?_));refine bk h λm g h=>⟨aB g,_,(ax g).trans (aq.aj m),(bk h λn i h=>⟨aB i,_,(ax i).trans (aq.aj n),(bk h λs o h=>(aT (HN o) (fG h (λp h=>?_) (λp h=>?_))))⟩)⟩;refine .d ?_;exact akl;exact alz;exact ald;exact akd
def gA (a:aE) (b:aE):Option (Bool):=p8 a.aK b.aK>>=λc=>if c then n7 a.aH b.aH>>=λd=>if d then some true else some false else some false
theorem n8 {a:aE} {b:aE} {r:Bool} (h:gA a b=some r):ACall Tryz.prog 8 [.agg a.lit,.agg b.lit] [] (λres h=>res=.bool r/\h=[]):=by
 refine bE Tryz.func8 ?_;unfold gA at h;refine .d (.d (.d ⟨rfl,rfl,_,rfl,rfl,rfl,_,rfl,(bk h λi c h=>(aT (HK c) (fG h (λe h=>?_) (λe h=>?_))))⟩));exact alb;refine .d (.d ⟨rfl,rfl,_,rfl,rfl,rfl,_,rfl,(bk h λj f h=>(aT (Fu f) (fG h (λg h=>?_) (λg h=>?_))))⟩);exact alb;exact alb
end Go.Am
