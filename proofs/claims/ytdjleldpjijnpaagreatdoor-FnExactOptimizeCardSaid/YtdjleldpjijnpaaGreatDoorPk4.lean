/- Texts of the proof, joined and shortened. -/
import Derived.Test.YtdjleldpjijnpaaGreatDoorPk3
import Derived.Test.YtdjleldpjijnpaaGreatDoorProg
import Derived.Test.YtdjleldpjijnpaaGreatDoorShelf
import Derived.WalkKit
import Derived.BigCall
set_option linter.unusedVariables false
set_option linter.unusedSimpArgs false
namespace Go.Am
open Go Go.RowKit
def nf (σ:Nat->Nat):PV->PV
 | .own id gen off len=>.own (σ id) gen off len
 | .aF id gen i off=>.aF (σ id) gen i off
 | .ke id=>.ke (σ id)
 | .qE f bJ=>.qE f (uZ σ bJ)
 | v=>v
def zh (σ:Nat->Nat):PV->PV
 | .agg cs=>.agg (cs.map (nf σ))
 | v=>nf σ v
def Ca (σ:Nat->Nat):PV->PV
 | .eG vs=>.eG (vs.map (zh σ))
 | v=>zh σ v
def uA (σ:Nat->Nat):al->al
 | .row g sz n e f=>.row g sz n e (λi=>(f i).map (nf σ))
 | .dead=>.dead
theorem GR {σ:Nat->Nat} {a:PV} (h:kO (nf σ a)=true):nf σ a=a:=by cases a<;>first | rfl | cases h
theorem GS {σ:Nat->Nat} {a:PV} (h:kO a=true):nf σ a=a:=by cases a<;>first | rfl | cases h
section
variable {P:Program}{T:rO}{μ μ0 μ1:Mu}{h h0 h1 hc:List al}{S S0 S1:Nat->Prop}{w w':World}{σ:Nat->Nat}
theorem Tp {pv:PV} {v:Value} (l:∀j,(∃g sz n e f,h0[j]? =some (al.row g sz n e f)/\(∃h,h1[σ j]? =some (al.row g sz n e h))/\μ1 (σ j)=μ0 j)\/(h0[j]? =some al.dead/\h1[σ j]? =some al.dead)\/h0[j]? =none)
  (c:∀b,S0 b->S1 b) (hc:bK μ0 h0 S0 w pv v):bK μ1 h1 S1 w (nf σ pv) v:=by
 have m:∀(id gen i off:Nat) (v:Value),bS μ0 h0 w id gen i off v->bS μ1 h1 w (σ id) gen i off v:=λid gen i off v hc=>by
  unfold bS at hc ⊢;obtain⟨q1,q2⟩:=hc;refine⟨q1,?_⟩;rcases l id with⟨g,sz,n,e,f,r1,⟨h,a⟩,d⟩ | ⟨r1,a⟩ | r1
  ·rw[r1]at q2;rw[a];show gen<=g/\_;rw[d];exact q2
  ·rw[a];trivial
  ·rw[r1]at q2;exact q2.elim
 cases pv with
 | own id gen off len=>
  have hc:bg μ0 h0 w id gen off len v:=hc;show bg μ1 h1 w (σ id) gen off len v;unfold bg at hc ⊢;obtain⟨q1,q2⟩:=hc;refine⟨q1,?_⟩;rcases l id with⟨g,sz,n,e,f,r1,⟨h,a⟩,d⟩ | ⟨r1,a⟩ | r1
  ·rw[r1]at q2;rw[a];show gen<=g/\_;rw[d];exact q2
  ·rw[a];trivial
  ·rw[r1]at q2;exact q2.elim
 | aF id gen i off=>exact m _ _ _ _ _ hc
 | qE f bJ=>exact vP.map (O:=λid g u=>bS μ1 h1 w id g 0 0 u) (vP.mono (show qv μ0 h0 w f bJ v from hc) (λid g u hu=>m id g 0 0 u hu))
 | ke id=>
  have hc:gg μ0 h0 w id v:=hc;show gg μ1 h1 w (σ id) v;unfold gg at hc ⊢;obtain⟨q1,q2⟩:=hc;refine⟨q1,?_⟩;rcases l id with⟨g,sz,n,e,f,r1,⟨h,a⟩,d⟩ | ⟨r1,a⟩ | r1
  ·rw[r1]at q2;rw[a];obtain⟨b,base,o,p⟩:=q2;exact⟨b,base,d.trans o,p⟩
  ·rw[a];trivial
  ·rw[r1]at q2;exact q2.elim
 | jw=>exact hc
 | bu sz n e f F=>exact hc
 | agg cs=>exact(show False from hc).elim
 | eG cs=>exact(show False from hc).elim
 | int k n=>exact aR.mono (λ_ _=>rfl) c hc
 | bool b=>exact aR.mono (λ_ _=>rfl) c hc
 | str s=>exact aR.mono (λ_ _=>rfl) c hc
 | az=>exact aR.mono (λ_ _=>rfl) c hc
 | iH=>exact aR.mono (λ_ _=>rfl) c hc
 | fF sz n f=>exact aR.mono (λ_ _=>rfl) c hc
 | fC cs=>exact aR.mono (λ_ _=>rfl) c hc
 | fn f=>exact aR.mono (λ_ _=>rfl) c hc
theorem iA {pv:PV} {v:Value} (a:∀pv v,bK μ0 h0 S0 w pv v->bK μ1 h1 S1 w (nf σ pv) v) (hc:jz μ0 h0 S0 w pv v):jz μ1 h1 S1 w (zh σ pv) v:=by
 cases pv with
 | agg cs=>
  obtain⟨vs,q1,q2,q3⟩:=hc;refine⟨vs,q1,by simpa using q2,λj pv hj=>?_⟩;rw[ahT]at hj;cases d:cs[j]? with
  | none=>rw[d]at hj;cases hj
  | some c=>
   rw[d]at hj;injection hj with hj;subst hj;obtain⟨u,r1,g⟩:=q3 j c d;exact⟨u,r1,a _ _ g⟩
 | jw=>trivial
 | bu sz n e f F=>exact a (.bu sz n e f F) v hc
 | eG cs=>exact(show False from hc).elim
 | own id gen off len=>exact a (.own id gen off len) v hc
 | aF id gen i off=>exact a (.aF id gen i off) v hc
 | ke id=>exact a (.ke id) v hc
 | qE f bJ=>exact a (.qE f bJ) v hc
 | int k n=>exact a (.int k n) v hc
 | bool b=>exact a (.bool b) v hc
 | str s=>exact a (.str s) v hc
 | az=>exact a .az v hc
 | iH=>exact a .iH v hc
 | fF sz n f=>exact a (.fF sz n f) v hc
 | fC cs=>exact a (.fC cs) v hc
 | fn f=>exact a (.fn f) v hc
theorem Tq {pv:PV} {v:Value} (a:∀pv v,bK μ0 h0 S0 w pv v->bK μ1 h1 S1 w (nf σ pv) v) (hc:bz μ0 h0 S0 w pv v):bz μ1 h1 S1 w (Ca σ pv) v:=by
 cases pv with
 | eG cs=>
  obtain⟨vs,q1,q2,q3⟩:=hc;refine⟨vs,q1,by simpa using q2,λj pv hj=>?_⟩;rw[ahT]at hj;cases d:cs[j]? with
  | none=>rw[d]at hj;cases hj
  | some c=>
   rw[d]at hj;injection hj with hj;subst hj;obtain⟨u,r1,g⟩:=q3 j c d;exact⟨u,r1,iA a g⟩
 | agg cs=>exact iA (pv:=.agg cs) a hc
 | jw=>trivial
 | bu sz n e f F=>exact iA (pv:=.bu sz n e f F) a hc
 | own id gen off len=>exact iA (pv:=.own id gen off len) a hc
 | aF id gen i off=>exact iA (pv:=.aF id gen i off) a hc
 | ke id=>exact iA (pv:=.ke id) a hc
 | qE f bJ=>exact iA (pv:=.qE f bJ) a hc
 | int k n=>exact iA (pv:=.int k n) a hc
 | bool b=>exact iA (pv:=.bool b) a hc
 | str s=>exact iA (pv:=.str s) a hc
 | az=>exact iA (pv:=.az) a hc
 | iH=>exact iA (pv:=.iH) a hc
 | fF sz n f=>exact iA (pv:=.fF sz n f) a hc
 | fC cs=>exact iA (pv:=.fC cs) a hc
 | fn f=>exact iA (pv:=.fn f) a hc
structure Sel (σ:Nat->Nat) (m:Nat) (h:List al):Prop where
 lt:∀j,j<m->σ j<h.length
 new:∀j,m<=j->σ j=h.length+(j - m)
 inj:∀i j,i<m->j<m->σ i=σ j->i=j
theorem Sel.agJ {m:Nat} (hs:Sel σ m h) {i j:Nat} (he:σ i=σ j):i=j:=by
 rcases aip i m with hi | hi
 ·rcases aip j m with hj | hj
  ·exact hs.inj i j hi hj he
  ·have:=hs.lt i hi;have:=hs.new j hj;omega
 ·rcases aip j m with hj | hj
  ·have:=hs.lt j hj;have:=hs.new i hi;omega
  ·have:=hs.new i hi;have:=hs.new j hj;omega
structure XW (σ:Nat->Nat) (h h0 h':List al):Prop where
 old:∀id,(∀j,j<h0.length->σ j≠id)->h'[id]? =h[id]?
 Va:∀j o,h0[j]? =some o->h'[σ j]? =some (uA σ o)
 len:h.length<=h'.length
def Ei (μ:Mu) (σ:Nat->Nat) (m:Nat):Mu:=λj=>if j<m then μ (σ j)else none
open Classical in
noncomputable def Tr (μ:Mu) (σ:Nat->Nat) (m:Nat) (μ0:Mu):Mu:=λid=>if a:∃j,j<m/\σ j=id then μ0 (Classical.choose a)else μ id
theorem Wl {m:Nat} (b:∀i j,σ i=σ j->i=j) {j:Nat} (hj:j<m):Tr μ σ m μ0 (σ j)=μ0 j:=by
 have a:∃i,i<m/\σ i=σ j:=⟨j,hj,rfl⟩;unfold Tr;rw[dif_pos a,b _ _ (Classical.choose_spec a).2]
theorem IG {m id:Nat} (hn:∀j,j<m->σ j≠id):Tr μ σ m μ0 id=μ id:=by
 unfold Tr;rw[dif_neg];rintro⟨j,h1,h2⟩;exact hn j h1 h2
theorem e8 (q:Sel σ hc.length h) (m:∀j o,hc[j]? =some o->h[σ j]? =some (uA σ o)) {pv:PV} {v:Value} (a:bK μ h S w (nf σ pv) v):bK (Ei μ σ hc.length) hc S w pv v:=by
 have get:∀id,(∃g sz n e f,hc[id]? =some (al.row g sz n e f)/\h[σ id]? =some (uA σ (al.row g sz n e f))/\Ei μ σ hc.length id=μ (σ id))\/(hc[id]? =some al.dead/\h[σ id]? =some al.dead)\/h[σ id]? =none:=λid=>by
  cases l:hc[id]? with
  | none=>
   refine .inr (.inr (ahO ?_));have r:hc.length<=id:=List.getElem?_eq_none_iff.1 l;have:=q.new id r;omega
  | some o=>
   have t:=(Is.1 l).1;cases o with
   | dead=>exact .inr (.inl ⟨rfl,m id _ l⟩)
   | row g sz n e f=>exact .inl ⟨g,sz,n,e,f,rfl,m id _ l,by unfold Ei;rw[As t]⟩
 have p:∀(id gen i off:Nat) (v:Value),bS μ h w (σ id) gen i off v->bS (Ei μ σ hc.length) hc w id gen i off v:=λid gen i off v a=>by
  unfold bS at a ⊢;obtain⟨q1,q2⟩:=a;refine⟨q1,?_⟩;rcases get id with⟨g,sz,n,e,f,r1,c,d⟩ | ⟨r1,c⟩ | r1
  ·rw[c]at q2;rw[r1];show gen<=g/\_;rw[d];exact q2
  ·rw[r1];trivial
  ·rw[r1]at q2;exact q2.elim
 cases pv with
 | own id gen off len=>
  have a:bg μ h w (σ id) gen off len v:=a;show bg _ hc w id gen off len v;unfold bg at a ⊢;obtain⟨q1,q2⟩:=a;refine⟨q1,?_⟩;rcases get id with⟨g,sz,n,e,f,r1,c,d⟩ | ⟨r1,c⟩ | r1
  ·rw[c]at q2;rw[r1];show gen<=g/\_;rw[d];exact q2
  ·rw[r1];trivial
  ·rw[r1]at q2;exact q2.elim
 | aF id gen i off=>exact p _ _ _ _ _ a
 | qE f bJ=>exact vP.mono (vP.adl (show qv μ h w f (uZ σ bJ) v from a)) (λid g u hu=>p _ _ _ _ _ hu)
 | ke id=>
  have a:gg μ h w (σ id) v:=a;show gg _ hc w id v;unfold gg at a ⊢;obtain⟨q1,q2⟩:=a;refine⟨q1,?_⟩;rcases get id with⟨g,sz,n,e,f,r1,c,d⟩ | ⟨r1,c⟩ | r1
  ·rw[c]at q2;rw[r1];obtain⟨b,base,x,y⟩:=q2;exact⟨b,base,d.trans x,y⟩
  ·rw[r1];trivial
  ·rw[r1]at q2;exact q2.elim
 | jw=>exact a
 | bu sz n e f F=>exact a
 | agg cs=>exact(show False from a).elim
 | eG cs=>exact(show False from a).elim
 | int k n=>exact a
 | bool b=>exact a
 | str s=>exact a
 | az=>exact a
 | iH=>exact a
 | fF sz n f=>exact a
 | fC cs=>exact a
 | fn f=>exact a
theorem P8 (c:Sel σ hc.length h) (d:∀j o,hc[j]? =some o->h[σ j]? =some (uA σ o)) {pv:PV} {v:Value} (a:jz μ h S w (zh σ pv) v):jz (Ei μ σ hc.length) hc S w pv v:=by
 cases pv with
 | agg cs=>
  obtain⟨vs,q1,q2,q3⟩:=a;refine⟨vs,q1,by simpa using q2,λj pv hj=>?_⟩;obtain⟨u,r1,g⟩:=q3 j (nf σ pv) (by rw[ahT,hj];rfl);exact⟨u,r1,e8 c d g⟩
 | jw=>trivial
 | bu sz n e f F=>exact e8 (μ:=μ) (S:=S) (w:=w) (pv:=.bu sz n e f F) c d a
 | eG cs=>exact(show False from a).elim
 | own id gen off len=>exact e8 (μ:=μ) (S:=S) (w:=w) (pv:=.own id gen off len) c d a
 | aF id gen i off=>exact e8 (μ:=μ) (S:=S) (w:=w) (pv:=.aF id gen i off) c d a
 | ke id=>exact e8 (μ:=μ) (S:=S) (w:=w) (pv:=.ke id) c d a
 | qE f bJ=>exact e8 (μ:=μ) (S:=S) (w:=w) (pv:=.qE f bJ) c d a
 | int k n=>exact e8 (μ:=μ) (S:=S) (w:=w) (pv:=.int k n) c d a
 | bool b=>exact e8 (μ:=μ) (S:=S) (w:=w) (pv:=.bool b) c d a
 | str s=>exact e8 (μ:=μ) (S:=S) (w:=w) (pv:=.str s) c d a
 | az=>exact e8 (μ:=μ) (S:=S) (w:=w) (pv:=.az) c d a
 | iH=>exact e8 (μ:=μ) (S:=S) (w:=w) (pv:=.iH) c d a
 | fF sz n f=>exact e8 (μ:=μ) (S:=S) (w:=w) (pv:=.fF sz n f) c d a
 | fC cs=>exact e8 (μ:=μ) (S:=S) (w:=w) (pv:=.fC cs) c d a
 | fn f=>exact e8 (μ:=μ) (S:=S) (w:=w) (pv:=.fn f) c d a
theorem Tt {c:PV} {sz n:Nat} {e:TypeId} {f:Nat->List PV} {F:Nat->Prop} (hc:nf σ c=.bu sz n e f F):c=.bu sz n e f F:=by cases c<;>first | exact hc | cases hc
theorem Wm {c:PV} (h:dj c=false):dj (nf σ c)=false:=by cases c<;>first | rfl | cases h
theorem ACall.Va {f:FuncId} {args pV:List PV} {R:PV->List al->Prop} (hA:ACall P f args hc R) (h:List al) (rT:Sel σ hc.length h) (G:∀j o,hc[j]? =some o->h[σ j]? =some (uA σ o))
  (tQ:pV=args.map (zh σ)) (Bm:List al->List al) (a0:∀h0,hc.length<=h0.length->XW σ h h0 (Bm h0)):
  ACall P f pV h (λres h'=>∃r0 h0,R r0 h0/\res=Ca σ r0/\h'=Bm h0):=by
 refine⟨hA.1,λw vs μ S hH hM iB ha=>?_⟩;subst tQ;have Ts:∀i j,σ i=σ j->i=j:=λi j=>rT.agJ
 have Wn:∀b,CV (Ei μ σ hc.length) hc b->CV μ h b:=λb ⟨j,g,sz,n,e,f,base,q1,q2⟩=>by
  have L:=(Is.1 q1).1;unfold Ei at q2;rw[As L]at q2;exact⟨σ j,g,sz,n,e,_,base,G j _ q1,q2⟩
 have P9:∀j x y b,cV hc j x y b->cV h (σ j) x y b:=λj x y b ⟨g,sz,n,e,f,bF,n',V,f',F',q1,q2,q3,q4⟩=>⟨g,sz,n,e,_,bF,n',V,f',F',G j _ q1,q2,by
  show((f x).map (nf σ))[y]? =_;rw[ahT,q3];rfl,q4⟩
 have Tu:∀b,cf (Ei μ σ hc.length) hc b->cf μ h b/\True:=λb s=>by
  rcases s with s | ⟨x,y,z,s⟩
  ·exact⟨.inl (Wn b s),trivial⟩
  ·exact⟨.inr ⟨_,_,_,P9 _ _ _ _ s⟩,trivial⟩
 have a6:bH (Ei μ σ hc.length) hc S w:=λj g sz n e f hj=>by
  have L:=(Is.1 hj).1;obtain⟨q1,q2⟩:=hH (σ j) _ _ _ _ _ (G j _ hj);refine⟨λi hi=>by simpa using q1 i hi,?_⟩;have hm:Ei μ σ hc.length j=μ (σ j):=by unfold Ei;rw[As L]
  rw[hm];cases M:μ (σ j)with
  | none=>rw[M]at q2;exact q2
  | some p=>
   obtain⟨b,base⟩:=p;rw[M]at q2;obtain⟨o,r1,m⟩:=q2;refine⟨o,r1,?_⟩;cases o with
   | cells cur V z=>
    obtain⟨W,x2,x3,B⟩:=m;refine⟨W,x2,x3,λi k pv hi N=>?_⟩;obtain⟨u,s1,T⟩:=B i k (nf σ pv) hi (by rw[ahT,N];rfl);refine⟨u,s1,?_⟩;cases d:dj pv with
    | false=>exact(e8 rT G T.c).k d
    | true=>
     cases pv with
     | bu oZ n2 e2 f2 F2=>exact T
     | _=>cases d
   | map es c=>
    obtain⟨W,B⟩:=m;refine⟨W,λi hi=>?_⟩;obtain⟨kp,vp,en,y1,y2,y3,y4⟩:=B i hi;refine⟨kp,vp,en,?_,y2,y3,y4⟩;have y1:(f i).map (nf σ)=[kp,vp]:=y1;generalize f i=l at y1;rcases l with _ | ⟨a,_ | ⟨b,_ | ⟨c3,l3⟩⟩⟩<;>simp at y1;obtain⟨rfl,rfl⟩:=y1;rw[GR y2,GR y3]
   | _=>exact m.elim
 have a7:sA (Ei μ σ hc.length) hc S w:=⟨λb s=>hM.apart b (Tu b s).1,λb s=>hM.lt b (Tu b s).1,hM.slt,λi j gi P1 ni ei fi gj lM nj ej fj b o o' hi hj oQ nN=>by
  have a9:=(Is.1 hi).1;have QW:=(Is.1 hj).1;unfold Ei at oQ nN;rw[As a9]at oQ;rw[As QW]at nN;exact Ts _ _ (hM.inj _ _ _ _ _ _ _ _ _ _ _ _ _ _ _ (G i _ hi) (G j _ hj) oQ nN),hM.known,λb s x y z d=>hM.hv b (Wn b s) _ _ _ (P9 _ _ _ _ d),λb x y z x' y' z' d X=>by
  obtain⟨H,e2,O⟩:=hM.hh b _ _ _ _ _ _ (P9 _ _ _ _ d) (P9 _ _ _ _ X);exact⟨Ts _ _ H,e2,O⟩⟩
 refine(hA.2 w vs _ S a6 a7 (by simpa using iB) (λj pv hj=>?_)).mono ?_
 ·obtain⟨v,q1,q2⟩:=ha j (zh σ pv) (by rw[ahT,hj];rfl);exact⟨v,q1,P8 rT G q2⟩
 ·rintro e w' ⟨v,r0,h0,μ0,S0,he,hR,hv,Vb,Y,A⟩;have hlen:hc.length<=h0.length:=A.len;have F:=a0 h0 hlen;obtain⟨h',ad⟩:∃h',h'=Bm h0:=⟨_,rfl⟩;rw[<-ad]at F;have Q:∀j,j<h0.length->Tr μ σ h0.length μ0 (σ j)=μ0 j:=λj hj=>Wl Ts hj
  have inv:∀id o,h'[id]? =some o->(∃j U,σ j=id/\h0[j]? =some U/\o=uA σ U/\Tr μ σ h0.length μ0 id=μ0 j)\/((∀j,j<h0.length->σ j≠id)/\h[id]? =some o/\Tr μ σ h0.length μ0 id=μ id):=λid o hid=>by
   by_cases d:∃j,j<h0.length/\σ j=id
   ·obtain⟨j,hj,rfl⟩:=d;have:=F.Va j _ (abF hj);rw[this]at hid;injection hid with hid;exact .inl ⟨j,_,rfl,abF hj,hid.symm,Q j hj⟩
   ·have hn:∀j,j<h0.length->σ j≠id:=λj hj he=>d ⟨j,hj,he⟩;rw[F.old id hn]at hid;exact .inr ⟨hn,hid,IG hn⟩
  have apart:∀id g sz n e f b base,(∀j,j<h0.length->σ j≠id)->h[id]? =some (al.row g sz n e f)->μ id=some (b,base)->¬cf (Ei μ σ hc.length) hc b:=λid g sz n e f b base hn hid hm I=>by
   rcases I with⟨j,gj,lM,nj,ej,fj,bj,q1,q2⟩ | ⟨x,y,z,d⟩;rotate_left
   ·exact hM.hv b ⟨id,g,sz,n,e,f,base,hid,hm⟩ _ _ _ (P9 _ _ _ _ d)
   have L:=(Is.1 q1).1;unfold Ei at q2;rw[As L]at q2;exact hn j alV (hM.inj _ _ _ _ _ _ _ _ _ _ _ _ _ _ _ (G j _ q1) hid q2 hm)
  have Ej:∀id x y b,(∀j,j<h0.length->σ j≠id)->cV h id x y b->¬cf (Ei μ σ hc.length) hc b:=λid x y b hn d I=>by
   rcases I with I | ⟨j,x',y',X⟩
   ·exact hM.hv b (Wn b I) _ _ _ d
   ·obtain⟨H,_,_⟩:=hM.hh b _ _ _ _ _ _ (P9 _ _ _ _ X) d;obtain⟨_,_,_,_,_,_,_,_,_,_,q1,_⟩:=X;have:=(Is.1 q1).1;exact hn j alV H
  have XX:∀b,CV (Tr μ σ h0.length μ0) h' b->CV μ0 h0 b\/∃id g sz n e f base,(∀j,j<h0.length->σ j≠id)/\h[id]? =some (al.row g sz n e f)/\μ id=some (b,base):=λb ⟨id,g,sz,n,e,f,base,q1,q2⟩=>by
   rcases inv id _ q1 with⟨j,U,rfl,r1,m,B⟩ | ⟨r1,m,B⟩
   ·rw[B]at q2;cases U with
    | dead=>cases m
    | row g0 Wo n0 e0 Z=>exact .inl ⟨j,g0,Wo,n0,e0,Z,base,r1,q2⟩
   ·rw[B]at q2;exact .inr ⟨id,g,sz,n,e,f,base,r1,m,q2⟩
  have GV:∀id x y b,cV h' id x y b->(∃j,σ j=id/\cV h0 j x y b)\/((∀j,j<h0.length->σ j≠id)/\cV h id x y b):=λid x y b ⟨g,sz,n,e,f,bF,n',V,f',F',q1,q2,q3,q4⟩=>by
   rcases inv id _ q1 with⟨j,U,rfl,r1,m,B⟩ | ⟨r1,m,B⟩
   ·cases U with
    | dead=>cases m
    | row g0 Wo n0 e0 Z=>
     injection m with H e2 O e4 e5;subst H e2 O e4 e5;rw[ahT]at q3;cases d:(Z x)[y]? with
     | none=>rw[d]at q3;cases q3
     | some c=>
      rw[d]at q3;injection q3 with q3;rw[Tt q3]at d;exact .inl ⟨j,rfl,_,_,_,_,_,_,_,_,_,_,r1,q2,d,q4⟩
   ·exact .inr ⟨r1,_,_,_,_,_,_,_,_,_,_,m,q2,q3,q4⟩
  have ml:∀b,cf (Tr μ σ h0.length μ0) h' b->cf μ0 h0 b\/(cf μ h b/\¬cf (Ei μ σ hc.length) hc b):=λb s=>by
   rcases s with s | ⟨x,y,z,s⟩
   ·rcases XX b s with q | ⟨id,g,sz,n,e,f,base,q1,q2,q3⟩
    ·exact .inl (.inl q)
    ·exact .inr ⟨.inl ⟨id,g,sz,n,e,f,base,q2,q3⟩,apart id _ _ _ _ _ _ _ q1 q2 q3⟩
   ·rcases GV x y z b s with⟨j,_,q⟩ | ⟨q1,q2⟩
    ·exact .inl (.inr ⟨_,_,_,q⟩)
    ·exact .inr ⟨.inr ⟨_,_,_,q2⟩,Ej _ _ _ _ q1 q2⟩
  have mixed:∀b,cf μ0 h0 b->cf μ h b->¬cf (Ei μ σ hc.length) hc b->False:=λb q1 q2 q3=>by
   rcases A.own b q1 with r | r
   ·exact q3 r
   ·have:=hM.lt b q2;omega
  have ju:Fr μ h S w (Tr μ σ h0.length μ0) h' S0 w':=by
   refine⟨F.len,λb s wo=>A.blocks b s (λD=>wo (Tu b D).1),A.sub,λb s=>?_,λb s=>?_,A.size,A.os,A.tape,A.output,λid g sz n e f hid=>?_,λid hid=>?_,λb k s dy=>?_,λid g sz n e f b base hid hm nF=>?_,λb id x y d nF=>?_⟩;rotate_right
   ·by_cases D:cf (Ei μ σ hc.length) hc b
    ·rcases D with D | ⟨j,x',y',D⟩
     ·exact absurd d (hM.hv b (Wn b D) _ _ _)
     ·exact A.yj b j x' y' D nF
    ·obtain⟨es,c,q⟩:=nF;exact⟨es,c,(A.blocks b (ahB.1 q).1 D).trans q⟩
   ·rcases A.new b s with q | q | q
    ·exact .inl q
    ·exact .inr (.inl (Tu b q).1)
    ·exact .inr (.inr q)
   ·rcases ml b s with q | ⟨q,_⟩
    ·rcases A.own b q with r | r
     ·exact .inl (Tu b r).1
     ·exact .inr r
    ·exact .inl q
   ·by_cases d:∃j,j<hc.length/\σ j=id
    ·obtain⟨j,hj,rfl⟩:=d;have u5:j<h0.length:=by omega
     have J:=abF hj;have I:=G j _ J;rw[I]at hid;cases C:hc[j]with
     | dead=>rw[C]at hid;cases hid
     | row gc ag nc ec fc=>
      rw[C]at hid J;injection hid with hid;injection hid with H e2 O e4 e5;subst H e2 O e4;have hg:=A.Ed j _ _ _ _ _ J;have hs:=F.Va j _ (abF u5);rw[abF u5]at hg;rw[hs];cases bb:h0[j]with
      | dead=>trivial
      | row g' bF n' V f'=>
       rw[bb]at hg;refine⟨hg.1,λOL=>?_⟩;obtain⟨a1,a2,a3,a4⟩:=hg.2 OL;refine⟨?_,a2,a3,a4⟩;rw[Q j u5,a1];unfold Ei;rw[As hj]
    ·have hn:∀j,j<h0.length->σ j≠id:=λj hj he=>by
      rcases aip j hc.length with h1 | h1
      ·exact d ⟨j,h1,he⟩
      ·have:=rT.new j h1;have:=(Is.1 hid).1;omega
     rw[F.old id hn,hid];exact⟨ahy _,λ_=>⟨IG hn,rfl,rfl,rfl⟩⟩
   ·by_cases d:∃j,j<hc.length/\σ j=id
    ·obtain⟨j,hj,rfl⟩:=d;have u5:j<h0.length:=by omega
     have J:=abF hj;have I:=G j _ J;rw[I]at hid;cases C:hc[j]with
     | row gc ag nc ec fc=>rw[C]at hid;cases hid
     | dead=>
      rw[C]at J;have hd:=A.dead j J;exact F.Va j _ hd
    ·have hn:∀j,j<h0.length->σ j≠id:=λj hj he=>by
      rcases aip j hc.length with h1 | h1
      ·exact d ⟨j,h1,he⟩
      ·have:=rT.new j h1;have:=(Is.1 hid).1;omega
     rw[F.old id hn,hid]
   ·by_cases D:cf (Ei μ σ hc.length) hc b
    ·exact A.bJ b k D dy
    ·exact jV.of_same (A.blocks b dy.lt D) dy
   ·by_cases d:∃j,j<hc.length/\σ j=id
    ·obtain⟨j,hj,rfl⟩:=d;have u5:j<h0.length:=by omega
     have J:=abF hj;have I:=G j _ J;rw[I]at hid;cases C:hc[j]with
     | dead=>rw[C]at hid;cases hid
     | row gc ag nc ec fc=>
      rw[C]at hid J;have bl:Ei μ σ hc.length j=some (b,base):=by unfold Ei;rw[As hj];exact hm
      obtain⟨r1,m⟩:=A.maps j _ _ _ _ _ b base J bl nF;refine⟨r1,?_⟩;rcases m with m | ⟨⟨g',bF,n',V,f',m⟩,B⟩
      ·exact .inl (F.Va j _ m)
      ·exact .inr ⟨⟨_,_,_,_,_,F.Va j _ m⟩,(Q j u5).trans B⟩
    ·have hn:∀j,j<h0.length->σ j≠id:=λj hj he=>by
      rcases aip j hc.length with h1 | h1
      ·exact d ⟨j,h1,he⟩
      ·have:=rT.new j h1;have:=(Is.1 hid).1;omega
     obtain⟨es,c,q⟩:=nF;exact⟨⟨es,c,(A.blocks b (ahB.1 q).1 (apart id _ _ _ _ _ _ _ hn hid hm)).trans q⟩,.inr ⟨⟨_,_,_,_,_,(F.old id hn).trans hid⟩,(IG hn).trans hm⟩⟩
  have aY:∀pv v,bK μ0 h0 S0 w' pv v->bK (Tr μ σ h0.length μ0) h' S0 w' (nf σ pv) v:=λpv v bo=>by
   refine Tp (λj=>?_) (λ_ s=>s) bo;cases D:h0[j]? with
   | none=>exact .inr (.inr rfl)
   | some o=>
    have L:=(Is.1 D).1;cases o with
    | dead=>exact .inr (.inl ⟨rfl,F.Va j _ D⟩)
    | row g sz n e f=>exact .inl ⟨g,sz,n,e,f,rfl,⟨_,F.Va j _ D⟩,Q j L⟩
  refine⟨v,_,h',_,S0,he,⟨r0,h0,hR,rfl,?_⟩,Tq aY hv,λid g sz n e f hid=>?_,⟨λb s hs=>?_,λb s=>?_,Y.slt,?_,Y.known,λb s id x y d=>?_,λb id x y ai x' y' d X=>?_⟩,ju⟩;rotate_right 2
  ·rcases XX b s with q | ⟨k,g,sz,n,e,f,base,q1,q2,q3⟩
   ·rcases GV id x y b d with⟨j,_,r⟩ | ⟨r1,m⟩
    ·exact Y.hv b q _ _ _ r
    ·exact mixed b (.inl q) (.inr ⟨_,_,_,m⟩) (Ej _ _ _ _ r1 m)
   ·rcases GV id x y b d with⟨j,_,r⟩ | ⟨r1,m⟩
    ·exact mixed b (.inr ⟨_,_,_,r⟩) (.inl ⟨k,g,sz,n,e,f,base,q2,q3⟩) (apart k _ _ _ _ _ _ _ q1 q2 q3)
    ·exact hM.hv b ⟨k,g,sz,n,e,f,base,q2,q3⟩ _ _ _ m
  ·rcases GV id x y b d with⟨j,rfl,r⟩ | ⟨r1,m⟩
   ·rcases GV ai x' y' b X with⟨j',rfl,t⟩ | ⟨K,E⟩
    ·obtain⟨H,e2,O⟩:=Y.hh b _ _ _ _ _ _ r t;exact⟨by rw[H],e2,O⟩
    ·exact(mixed b (.inr ⟨_,_,_,r⟩) (.inr ⟨_,_,_,E⟩) (Ej _ _ _ _ K E)).elim
   ·rcases GV ai x' y' b X with⟨j',rfl,t⟩ | ⟨K,E⟩
    ·exact(mixed b (.inr ⟨_,_,_,t⟩) (.inr ⟨_,_,_,m⟩) (Ej _ _ _ _ r1 m)).elim
    ·exact hM.hh b _ _ _ _ _ _ m E
  ·exact ad
  ·rcases inv id _ hid with⟨j,U,rfl,r1,m,B⟩ | ⟨r1,m,B⟩
   ·cases U with
    | dead=>cases m
    | row g0 Wo n0 e0 Z=>
     injection m with H e2 O e4 e5;subst H e2 O e4 e5;obtain⟨q1,q2⟩:=Vb j _ _ _ _ _ r1;refine⟨λi hi=>by simpa using q1 i hi,?_⟩;rw[B];cases M:μ0 j with
     | none=>rw[M]at q2;exact q2
     | some p=>
      obtain⟨b,base⟩:=p;rw[M]at q2;obtain⟨o,s1,T⟩:=q2;refine⟨o,s1,?_⟩;cases o with
      | cells cur V z=>
       obtain⟨W,x2,x3,s3⟩:=T;refine⟨W,x2,x3,λi k pv hi N=>?_⟩;rw[ahT]at N;cases d:(Z i)[k]? with
       | none=>rw[d]at N;cases N
       | some c=>
        rw[d]at N;injection N with N;subst N;obtain⟨u,K,E⟩:=s3 i k c hi d;refine⟨u,K,?_⟩;cases an:dj c with
        | false=>exact(aY _ _ E.c).k (Wm an)
        | true=>
         cases c with
         | bu oZ n2 e2 f2 F2=>exact E
         | _=>cases an
      | map es c=>
       obtain⟨W,s3⟩:=T;refine⟨W,λi hi=>?_⟩;obtain⟨kp,vp,en,y1,y2,y3,y4⟩:=s3 i hi;exact⟨kp,vp,en,by show(Z i).map (nf σ)=_;rw[y1];show[nf σ kp,nf σ vp]=_;rw[GS y2,GS y3],y2,y3,y4⟩
      | _=>exact T.elim
   ·obtain⟨q1,q2⟩:=hH id _ _ _ _ _ m;refine⟨q1,?_⟩;rw[B];cases M:μ id with
    | none=>rw[M]at q2;exact q2
    | some p=>
     obtain⟨b,base⟩:=p;rw[M]at q2;obtain⟨o,s1,T⟩:=q2;have L:b<w.heap.size:=(ahB.1 s1).1
     exact⟨o,(A.blocks b L (apart id _ _ _ _ _ _ _ r1 m M)).trans s1,T.mono (λi y pv v hi hy hr=>hr.fr ju hM (λbF n' V f' F' he b2 eK=>by
      have d:cV h id i y b2:=⟨_,_,_,_,_,_,_,_,_,_,m,hi,he▸hy,eK⟩;exact A.blocks b2 (hM.lt b2 (.inr ⟨_,_,_,d⟩)) (Ej _ _ _ _ r1 d)))⟩
  ·rcases ml b s with q | ⟨q1,q2⟩
   ·exact Y.apart b q hs
   ·rcases A.new b hs with r | r | r
    ·exact hM.apart b q1 r
    ·exact q2 r
    ·have:=hM.lt b q1;omega
  ·rcases ml b s with q | ⟨q1,_⟩
   ·exact Y.lt b q
   ·exact ahS (hM.lt b q1) A.size
  ·intro i j gi P1 ni ei fi gj lM nj ej fj b o o' hi hj oQ nN
   have XY:∀(i':Nat) (o1:al) (g sz n:Nat) (e:TypeId) (f:Nat->List PV) (oo:Nat) (id g2 oZ n2:Nat) (e2:TypeId) (f2:Nat->List PV) (aa:Nat),h0[i']? =some (al.row g sz n e f)->μ0 i'=some (b,oo)->(∀j,j<h0.length->σ j≠id)->h[id]? =some (al.row g2 oZ n2 e2 f2)->μ id=some (b,aa)->False:=
    λi' o1 g sz n e f oo id g2 oZ n2 e2 f2 aa a1 a2 a3 a4 a5=>by
     exact mixed b (.inl ⟨i',g,sz,n,e,f,oo,a1,a2⟩) (.inl ⟨id,g2,oZ,n2,e2,f2,aa,a4,a5⟩) (apart id _ _ _ _ _ _ _ a3 a4 a5)
   rcases inv i _ hi with⟨i0,oi,rfl,r1,m,B⟩ | ⟨r1,m,B⟩
   ·rw[B]at oQ;cases oi with
    | dead=>cases m
    | row g0 Wo n0 e0 Z=>
     rcases inv j _ hj with⟨j0,oj,rfl,K,E,t3⟩ | ⟨K,E,t3⟩
     ·rw[t3]at nN;cases oj with
      | dead=>cases E
      | row g2 oZ n2 e2 f2=>rw[Y.inj i0 j0 _ _ _ _ _ _ _ _ _ _ _ _ _ r1 K oQ nN]
     ·rw[t3]at nN;exact(XY i0 al.dead _ _ _ _ _ _ _ _ _ _ _ _ _ r1 oQ K E nN).elim
   ·rw[B]at oQ;rcases inv j _ hj with⟨j0,oj,rfl,K,E,t3⟩ | ⟨K,E,t3⟩
    ·rw[t3]at nN;cases oj with
     | dead=>cases E
     | row g2 oZ n2 e2 f2=>exact(XY j0 al.dead _ _ _ _ _ _ _ _ _ _ _ _ _ K nN r1 m oQ).elim
    ·rw[t3]at nN;exact hM.inj i j _ _ _ _ _ _ _ _ _ _ _ _ _ m E oQ nN
def eo (is:List Nat) (N:Nat) (j:Nat):Nat:=match is[j]? with
 | some id=>id
 | none=>N+(j - is.length)
def nR (h:List al):List Nat->List al->List al
 | id::r,o::l=>nR (h.set id o) r l
 | _,_=>h
def vI (h:List al) (is:List Nat) (h0:List al):List al:=
 nR h is (h0.map (uA (eo is h.length)))++(h0.drop is.length).map (uA (eo is h.length))
theorem gQ:∀(is:List Nat) (l h:List al),(nR h is l).length=h.length
 | [],[],_=>rfl
 | [],_::_,_=>rfl
 | _::_,[],_=>rfl
 | id::r,o::l,h=>by simp only[nR];rw[gQ r l];simp
theorem yR:∀(is:List Nat) (l h:List al) (id:Nat),id∉is->(nR h is l)[id]? =h[id]?
 | [],[],_,_,_=>rfl
 | [],_::_,_,_,_=>rfl
 | _::_,[],_,_,_=>rfl
 | i::r,o::l,h,id,hn=>by
  simp only[ahM,not_or]at hn;simp only[nR];rw[yR r l _ id hn.2,ahQ (aiI hn.1)]
theorem Ek:∀(is:List Nat) (l h:List al) (j id:Nat) (o:al),is.Nodup->is[j]? =some id->l[j]? =some o->id<h.length->(nR h is l)[id]? =some o
 | [],_,_,_,_,_,_,h1,_,_=>by simp at h1
 | _::_,[],_,_,_,_,_,_,h2,_=>by simp at h2
 | i::r,b::l,h,j,id,o,hd,h1,h2,a=>by
  simp only[List.nodup_cons]at hd;simp only[nR];cases j with
  | zero=>
   simp at h1 h2;subst h1 h2;rw[yR r l _ _ hd.1];simp [a]
  | succ j=>
   exact Ek r l _ j id o hd.2 amk amf (by simpa using a)
theorem aaV (is:List Nat) (h:List al) (hd:is.Nodup) (a:∀id∈is,id<h.length):Sel (eo is h.length) is.length h where
 lt j hj:=by
  unfold eo;rw[abF hj];exact a _ (ahD hj)
 new j hj:=by
  unfold eo;rw[ahO hj]
 inj i j hi hj he:=by
  unfold eo at he;rw[abF hi,abF hj]at he;exact(List.getElem_inj hd).1 he
theorem Tv (is:List Nat) (h h0:List al) (hd:is.Nodup) (a:∀id∈is,id<h.length) (hle:is.length<=h0.length):XW (eo is h.length) h h0 (vI h is h0) where
 len:=by unfold vI;rw[aiy,gQ];omega
 old id hn:=by
  unfold vI;rcases aip id h.length with h1 | h1
  ·rw[aia (by rw[gQ];exact h1),yR];intro hm;obtain⟨j,hj,rfl⟩:=aiw.1 hm;refine hn j alV ?_;unfold eo;rw[abF hj]
  ·rw[ahU (by rw[gQ];exact h1),gQ,ahO h1,ahO];simp only[aiY,ajc];rcases aip (id - h.length) (h0.length - is.length)with h2 | h2
   ·refine(hn (is.length+(id - h.length)) alV ?_).elim;unfold eo;rw[ahO alV];simp;omega
   ·exact h2
 Va j o hj:=by
  have b:=(Is.1 hj).1;unfold vI;rcases aip j is.length with h1 | h1
  ·have hs:eo is h.length j=is[j]:=by unfold eo;rw[abF h1]
   have hl:=a _ (ahD h1);rw[hs,aia (by rw[gQ];exact hl)];exact Ek is _ h j _ _ hd (abF h1) (by rw[ahT,hj];rfl) hl
  ·have hs:eo is h.length j=h.length+(j - is.length):=by unfold eo;rw[ahO h1]
   rw[hs,ahU (by rw[gQ];omega),gQ,ahT,aiE];rw[show is.length+(h.length+(j - is.length) - h.length)=j from by omega,hj];rfl
theorem ACall.over {f:FuncId} {args a:List PV} {R:PV->List al->Prop} (hA:ACall P f args hc R) (is:List Nat) (h:List al) (hl:hc.length=is.length) (hd:is.Nodup) (b:∀id∈is,id<h.length)
  (c:∀j o,hc[j]? =some o->h[eo is h.length j]? =some (uA (eo is h.length) o)) (d:a=args.map (zh (eo is h.length))):
  ACall P f a h (λres h'=>∃r0 h0,R r0 h0/\res=Ca (eo is h.length) r0/\h'=vI h is h0):=
 hA.Va h (by rw[hl];exact aaV is h hd b) c d (vI h is) (λh0 hle=>Tv is h h0 hd b alV)
end
def look (l:List (Nat×TI)) (t:Nat):TI:=match l with
 | []=>.other
 | (k,ti)::r=>match Nat.beq t k with
  | true=>ti
  | false=>look r t
def yk (l:List (Nat×TI)):rO:=⟨look l⟩
def iI:List Value->List PV->Bool
 | [],[]=>true
 | .int k n::r,.int c d::a=>rN k c&&n==d&&iI r a
 | .bool b::r,.bool e::a=>b==e&&iI r a
 | .string s::r,.str f::a=>s.data.toList==f&&iI r a
 | .slice none 0 0::r,.az::a=>iI r a
 | .pointer none::r,.iH::a=>iI r a
 | _,_=>false
def u6 (P:Program) (t n:Nat):Bool:=match P.info? t with
 | some i=>Nat.beq i.size n
 | none=>false
def uq (P:Program):List Field->List (Nat×Nat×Bool)->Bool
 | [],[]=>true
 | f::r,(off,size,a)::b=>Nat.beq f.offset off&&u6 P f.type size&&Nat.blt 0 size&&(match P.underlying f.type with | some d=>a==DX d | none=>false)&&uq P r b
 | _,_=>false
def IH:Value->PV->Bool
 | .int k n,.int a c=>rN k a&&n==c
 | .bool b,.bool d=>b==d
 | .string s,.str e=>s.data.toList==e
 | _,_=>false
theorem II {v:Value} {z:PV} (h:IH v z=true):tF z v/\kO z=true/\storable z=true:=by
 unfold IH at h;split at h
 ·simp only[No,aio]at h;obtain⟨h1,rfl⟩:=h;obtain rfl:=ez h1;exact⟨rfl,rfl,rfl⟩
 ·rw[aio]at h;subst h;exact⟨rfl,rfl,rfl⟩
 ·rw[aio]at h;subst h;exact⟨rfl,rfl,rfl⟩
 ·cases h
def qn (P:Program) (t:Nat):TI->Bool
 | .int k=>(match P.underlying t with | some (.int c)=>rN k c | _=>false)&&u6 P t 1
 | .bool=>(match P.underlying t with | some .bool=>true | _=>false)&&u6 P t 1
 | .str=>(match P.underlying t with | some .string=>true | _=>false)&&u6 P t 1
 | .ptr e=>(match P.underlying t with | some (.pointer b)=>Nat.beq e b | _=>false)&&u6 P t 1
 | .slice e sz d z=>(match P.underlying t with | some (.slice b)=>Nat.beq e b | _=>false)&&u6 P t 1&&Nat.blt 0 sz&&Nat.blt 0 d&&
   (match P.info? e with
    | some i=>Nat.beq i.size sz&&Nat.beq i.bytes d&&(match i.zero with | some a=>Nat.beq a.cells.size sz&&iI a.cells.toList z | none=>false)
    | none=>false)
 | .struct sz fl z=>(!(BP z)||Iq P t z)&&(match P.underlying t with | some (.struct fs)=>uq P fs.toList fl | _=>false)&&
   (match P.info? t with
    | some i=>Nat.beq i.size sz&&(match i.zero with | some a=>Nat.beq a.cells.size sz&&iI a.cells.toList z | none=>false)
    | none=>false)
 | .map k e z=>(match P.underlying t with | some (.map c b)=>Nat.beq k c&&Nat.beq e b | _=>false)&&u6 P t 1&&(match P.info? e with
   | some i=>(match i.zero with | some a=>IH a z | none=>false)
   | none=>false)
 | .other=>true
def zeroAt (P:Program) (t:Nat) (z:List PV) (n:Nat):Bool:=match P.info? t with
 | some i=>match i.zero with
  | some a=>Nat.beq a.cells.size n&&Nat.beq z.length n&&iI a.cells.toList z
  | none=>false
 | none=>false
def Wp (P:Program) (t:Nat) (ti:TI):Bool:=qn P t ti&&(match DY ti with | some z=>zeroAt P t z (mi ti) | none=>true)
theorem w9:∀(vs:List Value) (z:List PV),iI vs z=true->vs.length=z.length/\∀(j:Nat) (u:Value),vs[j]? =some u->∃pv:PV,z[j]? =some pv/\u.oneCell'=true/\∀S w,aR S w pv u:=by
 intro vs;induction vs with
 | nil=>
  intro z d;cases z with
  | nil=>exact⟨rfl,λj u hj=>by simp at hj⟩
  | cons a r=>simp [iI]at d
 | cons v vs g=>
  intro z d;cases z with
  | nil=>cases v<;>simp [iI]at d
  | cons p z=>
   have step:∀(e:iI vs z=true) (f:v.oneCell'=true) (hp:∀S w,aR S w p v),(v::vs).length=(p::z).length/\∀(j:Nat) (u:Value),(v::vs)[j]? =some u->∃pv:PV,(p::z)[j]? =some pv/\u.oneCell'=true/\∀S w,aR S w pv u:=by
    intro e f hp;obtain⟨h1,h2⟩:=g z e;refine⟨by simp [h1],λj u hj=>?_⟩;cases j with
    | zero=>simp at hj;subst hj;exact⟨p,rfl,f,hp⟩
    | succ j=>simp at hj;obtain⟨pv,q1,q2⟩:=h2 j u hj;exact⟨pv,by simpa using q1,q2⟩
   cases v with
   | int k n=>
    cases p<;>simp [iI]at d;obtain⟨⟨h,hn⟩,d⟩:=d;have:=ez h;subst this hn;exact step d rfl λS w=>.int _ _
   | bool b=>
    cases p<;>simp [iI]at d;obtain⟨i,d⟩:=d;subst i;exact step d rfl λS w=>.bool _
   | string s=>
    cases p<;>simp [iI]at d;obtain⟨hs,d⟩:=d;subst hs;exact step d rfl λS w=>aR.str _
   | slice a n c=>
    cases a with
    | some a=>cases p<;>simp [iI]at d
    | none=>
     cases n with
     | succ n=>cases p<;>simp [iI]at d
     | zero=>
      cases c with
      | succ c=>cases p<;>simp [iI]at d
      | zero=>
       cases p<;>simp [iI]at d;exact step d rfl λS w=>.az
   | pointer a=>
    cases a with
    | some a=>cases p<;>simp [iI]at d
    | none=>
     cases p<;>simp [iI]at d;exact step d rfl λS w=>.iH
   | _=>cases p<;>simp [iI]at d
theorem lE {P:Program} {t n:Nat} (h:u6 P t n=true):∃i,P.info? t=some i/\i.size=n:=by
 unfold u6 at h;split at h
 ·rename_i i hi;exact⟨i,hi,ahz h⟩
 ·cases h
theorem yl {P:Program}:∀(fs:List Field) (fl:List (Nat×Nat×Bool)),uq P fs fl=true->fl.length=fs.length/\
  ∀(k:Nat) (off size:Nat) (b:Bool),fl[k]? =some (off,size,b)->∃f j d,fs[k]? =some f/\f.offset=off/\P.info? f.type=some j/\j.size=size/\0<size/\P.underlying f.type=some d/\b=DX d
 | [],[],_=>⟨rfl,λk off size b a=>by simp at a⟩
 | [],_::_,h=>by simp [uq]at h
 | _::_,[],h=>by simp [uq]at h
 | f::r,(off,size,b)::g,h=>by
  simp only[uq,No]at h;obtain⟨⟨⟨⟨h1,h2⟩,h3⟩,h4⟩,h5⟩:=h;obtain⟨q1,q2⟩:=yl r g h5;refine⟨by simp [q1],λk i c e a=>?_⟩;cases k with
  | zero=>
   simp at a;obtain⟨rfl,rfl,rfl⟩:=a;obtain⟨j,hj,l⟩:=lE h2;cases hu:P.underlying f.type with
   | none=>rw[hu]at h4;cases h4
   | some d=>
    rw[hu]at h4;exact⟨f,j,d,rfl,ahz h1,hj,l,by simpa using h3,hu,by simpa using h4⟩
  | succ k=>exact q2 k i c e (by simpa using a)
theorem K4:∀(l:List (Nat×TI)) (t:Nat) (ti:TI),look l t=ti->ti=.other\/(t,ti)∈l
 | [],t,ti,h=>.inl h.symm
 | (k,x)::r,t,ti,h=>by
  unfold look at h;split at h
  ·rename_i a;have:=ahz a;subst this h;exact .inr alW
  ·rcases K4 r t ti h with h1 | h1
   ·exact .inl h1
   ·exact .inr (by simp [h1])
theorem adn {P:Program} {l:List (Nat×TI)} (hl:l.all (λp=>Wp P p.1 p.2)=true):da P (yk l):=by
 have n:∀t ti,(yk l).get t=ti->ti≠.other->Wp P t ti=true:=λt ti a hn=>by
  rcases K4 l t ti a with h1 | h1
  ·exact(hn h1).elim
  ·exact(ahC.1 hl) _ h1
 have all:∀t ti,(yk l).get t=ti->ti≠.other->qn P t ti=true:=λt ti a hn=>by
  have:=n t ti a hn;simp only[Wp,No]at this;exact this.1
 have zero:∀t z,DY ((yk l).get t)=some z->∃i c,P.info? t=some i/\i.zero=some c/\c.cells.size=mi ((yk l).get t)/\z.length=mi ((yk l).get t)/\
   ∀(j:Nat) (u:Value),c.cells[j]? =some u->∃pv:PV,z[j]? =some pv/\u.oneCell'=true/\∀S w,aR S w pv u:=λt z g=>by
  have:=n t _ rfl (by intro h0;rw[h0]at g;cases g);simp only[Wp,No]at this;have:=this.2;rw[g]at this;simp only[zeroAt]at this;split at this
  ·rename_i i hi;split at this
   ·rename_i c q;simp only[No]at this;obtain⟨⟨h1,h2⟩,h3⟩:=this;obtain⟨_,m⟩:=w9 _ _ h3;exact⟨i,c,hi,q,ahz h1,ahz h2,λj u hj=>m j u amc⟩
   ·cases this
  ·cases this
 have one:∀t,mi ((yk l).get t)=1->(∀sz fl z,(yk l).get t≠.struct sz fl z)->∃i,P.info? t=some i/\i.size=1:=λt h1 h2=>by
  cases a:(yk l).get t with
  | other=>rw[a]at h1;cases h1
  | struct sz fl z=>exact(h2 _ _ _ a).elim
  | int k=>have:=all t _ a alW;simp only[qn,No]at this;exact lE this.2
  | bool=>have:=all t _ a alW;simp only[qn,No]at this;exact lE this.2
  | str=>have:=all t _ a alW;simp only[qn,No]at this;exact lE this.2
  | ptr e=>have:=all t _ a alW;simp only[qn,No]at this;exact lE this.2
  | map k e z=>have:=all t _ a alW;simp only[qn,No]at this;exact lE this.1.2
  | slice e sz b z=>have:=all t _ a alW;simp only[qn,No]at this;exact lE this.1.1.1.2
 refine⟨λt sz fl z a g=>by
   have:=all t _ a alW;simp only[qn,No,aiD,aid]at this;rcases this.1.1 with h | h
   ·rw[g]at h;cases h
   ·exact h,λt k a=>?_,λt a=>?_,λt a=>?_,λt e a=>?_,λt e sz b z a=>?_,λt k e z a=>?_,λt e sz b z a=>?_,one,zero,λt sz fl z a=>?_⟩
 ·have:=all t _ a alW;simp only[qn,No]at this;have:=this.1;split at this
  ·rename_i s hu;rw[hu,ez this]
  ·cases this
 ·have:=all t _ a alW;simp only[qn,No]at this;have:=this.1;split at this
  ·assumption
  ·cases this
 ·have:=all t _ a alW;simp only[qn,No]at this;have:=this.1;split at this
  ·assumption
  ·cases this
 ·have:=all t _ a alW;simp only[qn,No]at this;have:=this.1;split at this
  ·rename_i r hu;rw[hu,ahz this]
  ·cases this
 ·have:=all t _ a alW;simp only[qn,No]at this;obtain⟨⟨⟨⟨h1,h2⟩,h3⟩,h4⟩,h5⟩:=this;refine⟨?_,by simpa using h3,?_⟩
  ·split at h1
   ·rename_i r hu;rw[hu,ahz h1]
   ·cases h1
  ·split at h5
   ·rename_i i hi;simp only[No]at h5;obtain⟨⟨q1,q2⟩,q3⟩:=h5;split at q3
    ·rename_i c g;simp only[No]at q3;obtain⟨r1,m⟩:=w9 _ _ q3.2;have o:=ahz q3.1;refine⟨i,c,hi,ahz q1,ahz q2,g,o,?_,λj u hj=>m j u amc⟩;rw[<-r1,<-o];simp
    ·cases q3
   ·cases h5
 ·have:=all t _ a alW;simp only[qn,No]at this;obtain⟨⟨h1,_⟩,h3⟩:=this;refine⟨?_,?_⟩
  ·split at h1
   ·rename_i s r hu;simp only[No]at h1;rw[hu,ahz h1.1,ahz h1.2]
   ·cases h1
  ·split at h3
   ·rename_i i hi;split at h3
    ·rename_i c g;exact⟨i,c,hi,g,II h3⟩
    ·cases h3
   ·cases h3
 ·have:=all t _ a alW;simp only[qn,No]at this;simpa using this.1.2
 ·have:=all t _ a alW;simp only[qn,No]at this;obtain⟨⟨_,h1⟩,h2⟩:=this;split at h1
  ·rename_i fs hu;obtain⟨q1,q2⟩:=yl _ _ h1;split at h2
   ·rename_i i hi;simp only[No]at h2;obtain⟨r1,m⟩:=h2;split at m
    ·rename_i c g;simp only[No]at m;obtain⟨v,x⟩:=w9 _ _ m.2;have o:=ahz m.1;refine⟨fs,i,hu,hi,ahz r1,by simpa using q1,⟨c,g,o,by rw[<-v,<-o];simp,λj u hj=>x j u amc⟩,λk off size y A=>?_⟩;obtain⟨f,j,d,B,C⟩:=q2 k off size y A;exact⟨f,j,d,by simpa using B,C⟩
    ·cases m
   ·cases h2
  ·cases h1
section
variable {h η:List al}{k:List Nat}
theorem Fz.int_eq {a:IntKind} {n b:Int} (he:n=b):Fz h η k (.int a n) (.int a b):=by subst he;exact .int _ _
theorem Fz.OR {b a:Bool} (he:b=a):Fz h η k (.bool b) (.bool a):=by subst he;exact .bool _
theorem Fz.Tw {s a:List UInt8} (he:s=a):Fz h η k (.str s) (.str a):=by subst he;exact .str _
theorem Fz.Tx {id g sz n off len c a:Nat} {e:TypeId} {f b:Nat->List PV} (d:id∉k) (l:h[id]? =some (al.row g sz n e f)) (h1:sz=c) (h2:len=a) (hp:∀i,i<a->(b i).all bx=true)
  (hf:∀i,i<a->vn h η k (f (off+i)) (b i)):Fz h η k (.own id g off len) (.fF c a b):=by
 subst h1 h2;exact .frz id g sz n off len e f b d l (λi hi=>(vn.get _ _ (hf i hi)).1) (λi j pv hi hj=>(ahC.1 (hp i hi)) pv (ahJ hj)) (λi j pv pv' hi h1 h2 _=>(vn.get _ _ (hf i hi)).2 j pv pv' h1 h2)
theorem Fz.cN {cs a:List PV} (hl:vn h η k cs a):Fz h η k (.agg cs) (.agg a):=.agg _ _ (vn.get _ _ hl).1 (vn.get _ _ hl).2
theorem Fz.oS {cs a:List PV} (hl:vn h η k cs a):Fz h η k (.eG cs) (.eG a):=.eG _ _ (vn.get _ _ hl).1 (vn.get _ _ hl).2
theorem IJ {α:Type} {i l:Nat} {a b:α} (c:i<l):(bif Nat.blt i l then a else b)=a:=by
 have d:Nat.blt i l=true:=by simpa using c
 rw[d];rfl
theorem NM {α:Type} {i l:Nat} {a b:α} (d:l<=i):(bif Nat.blt i l then a else b)=b:=by
 have c:Nat.blt i l=false:=by
  cases hh:Nat.blt i l with
  | true=>
   have:i<l:=by simpa using hh
   omega
  | false=>rfl
 rw[c];rfl
end
theorem Cu {x:Int} (h1: -9223372036854775808<=x) (h2:x<=9223372036854775807):IntKind.i64.wrap x=x:=by rw[IntKind.wrap_i64];omega
theorem ACall.XZ {P:Program} {f:FuncId} {args a:List PV} {R:PV->List al->Prop} (hA:ACall P f a [] R) (h:List al) (d:vn h [] [] args a) (hn:a.all lF=true)
  (b:∀r0 h0,R r0 h0->El r0=true/\∀o∈h0,Af o):
  ACall P f args h (λres h'=>∃r0 h0,R r0 h0/\res=pA h.length r0/\h'=h++h0.map (eE h.length)):=by
 obtain⟨h1,h2⟩:=vn.get _ _ d;exact hA.snap h h1 (λj pv pv' q1 q2=>⟨h2 j pv pv' q1 q2,(ahC.1 hn) pv' (ahJ q2)⟩) (λr0 h0 c=>⟨(b r0 h0 c).1,λo e=>((b r0 h0 c).2 o e).p⟩)
theorem ACall.adp {P:Program} {f:FuncId} {args a:List PV} {R:PV->List al->Prop} (hA:ACall P f a [] R) (h:List al) (b:vn h [] [] args a) (hn:a.all lF=true)
  (c:∀r0 h0,R r0 h0->El r0=true/\∀o∈h0,Ag o):
  ACall P f args h (λres h'=>∃r0 h0,R r0 h0/\res=pA h.length r0/\h'=h++h0.map (eE h.length)):=by
 obtain⟨h1,h2⟩:=vn.get _ _ b;exact hA.snap h h1 (λj pv pv' q1 q2=>⟨h2 j pv pv' q1 q2,(ahC.1 hn) pv' (ahJ q2)⟩) c
theorem Fz.snap {h:List al} {id g sz n off len c a:Nat} {e:TypeId} {f b:Nat->List PV} (d:h[id]? =some (al.row g sz n e f)) (h1:sz=c) (h2:len=a) (hp:∀i,i<a->(b i).all bx=true)
  (hf:∀i,i<a->vn h [] [] (f (off+i)) (b i)):Fz h [] [] (.own id g off len) (.fF c a b):=.Tx alW d h1 h2 hp hf
theorem ACall.heq {P:Program} {f:FuncId} {args:List PV} {h h2:List al} {R:PV->List al->Prop} (hA:ACall P f args h R) (he:dE h2 h):ACall P f args h2 R:=by
 refine⟨hA.1,λw vs μ S hH hM s ha=>?_⟩;obtain⟨d,i⟩:=he.core ⟨hH,hM⟩;refine(hA.2 w vs μ S d i s (λj pv hj=>?_)).mono ?_
 ·obtain⟨v,h1,h3⟩:=ha j pv hj;exact⟨v,h1,he.P0 h3⟩
 ·rintro e w' ⟨v,res,h',μ',S',rfl,t,hv,l,m,a⟩;refine⟨v,res,h',μ',S',rfl,t,hv,l,m,⟨by rw[he.len];exact a.len,λb c o=>a.blocks b c (λp=>o (he.Bk p)),a.sub,λb c=>?_,λb c=>?_,a.size,a.os,a.tape,a.output,λid g sz n e f hid=>?_,λid hid=>a.dead id (he.getD hid),λb k o hc=>a.bJ b k (he.owned o) hc,λid g sz n e f b base hid hm q=>?_,λb x y z p q=>a.yj b x y z (he.hid p) q⟩⟩
  ·rcases a.new b c with h1 | h1 | h1
   ·exact .inl h1
   ·exact .inr (.inl (he.Bk h1))
   ·exact .inr (.inr h1)
  ·rcases a.own b c with h1 | h1
   ·exact .inl (he.Bk h1)
   ·exact .inr h1
  ·obtain⟨r,h1,_⟩:=he.get hid;exact a.Ed id g sz n e r h1
  ·obtain⟨r,h1,_⟩:=he.get hid;exact a.maps id g sz n e r b base h1 hm q
abbrev aW:=List UInt8
abbrev av (x:Int):Int:=IntKind.i64.wrap x
theorem bind_some {α β:Type} {x:Option α} {f:α->Option β} {r:β} (h:(x>>=f)=some r):∃a,x=some a/\f a=some r:=by
 cases x with
 | none=>cases h
 | some a=>exact⟨a,rfl,h⟩
def idx {α:Type} [Inhabited α] (l:List α) (i:Int):Option α:=if 0<=i/\i<(l.length:Int)then some (l.getD i.toNat default)else none
def nL (s:aW) (i:Int):Option UInt8:=if 0<=i/\i<(s.length:Int)then some (s.getD i.toNat 0)else none
def BF (s:aW) (lo:Int):Option aW:=if 0<=lo/\lo<=(s.length:Int)then some (s.drop lo.toNat)else none
def KG {α:Type} (s:List α) (lo:Int):Option (List α):=if 0<=lo/\lo<=(s.length:Int)then some (s.drop lo.toNat)else none
def Xt {α:Type} (s:List α) (hi:Int):Option (List α):=if 0<=hi/\hi<=(s.length:Int)then some (s.take hi.toNat)else none
def uI (a b:aW):Option aW:=if a.length+b.length<=4611686018427387904 then some (a++b)else none
def iD {α:Type} (bytes:Nat) (a b:List α):Option (List α):=if(a.length+b.length)*bytes<=140737488355328 then some (a++b)else none
def mf {α:Type} [Inhabited α] (bytes:Nat) (n m:Int):Option (List α):=if 0<=n/\n<=m/\m<=4611686018427387904/\m.toNat*bytes<=140737488355328 then some (List.replicate n.toNat default)else none
def must (p:Prop) [Decidable p]:Option Unit:=if p then some ()else none
theorem b8 {α:Type} {c:Prop} [Decidable c] {x r:α} (h:(if c then some x else none)=some r):c/\x=r:=by
 by_cases hc:c
 ·rw[As hc]at h;exact⟨hc,aim h⟩
 ·rw[An hc]at h;cases h
theorem ui {p:Prop} [Decidable p] {u:Unit} (h:must p=some u):p:=(b8 h).1
section
variable {α:Type}{x y r:α}
theorem X0 {p:Prop} [Decidable p] (hb:decide p=true) (h:(if p then x else y)=r):x=r:=by rw[As (aja hb)]at h;exact h
theorem X1 {p:Prop} [Decidable p] (hb:decide p=false) (h:(if p then x else y)=r):y=r:=by rw[An (of_decide_eq_false hb)]at h;exact h
theorem Ty {β:Type} [BEq β] [LawfulBEq β] {a b:β} [Decidable (a=b)] (c:(a==b)=true) (h:(if a=b then x else y)=r):x=r:=by rw[As (eq_of_beq c)]at h;exact h
theorem Tz {β:Type} [BEq β] [LawfulBEq β] {a b:β} [Decidable (a=b)] (c:(a==b)=false) (h:(if a=b then x else y)=r):y=r:=by rw[An (ne_of_beq_false c)]at h;exact h
theorem adq {β:Type} [BEq β] [LawfulBEq β] {a b:β} [Decidable (a=b)] (c:(a != b)=true) (h:(if a=b then x else y)=r):y=r:=Tz (by simpa[bne]using c) h
theorem adr {β:Type} [BEq β] [LawfulBEq β] {a b:β} [Decidable (a=b)] (c:(a != b)=false) (h:(if a=b then x else y)=r):x=r:=Ty (by simpa[bne]using c) h
theorem X2 {b:Bool} (a:b=true) (h:(if b=true then x else y)=r):x=r:=by rw[As a]at h;exact h
theorem X3 {b:Bool} (a:b=false) (h:(if b=true then x else y)=r):y=r:=by rw[An (by rw[a];decide)]at h;exact h
end
theorem TA {b:Bool} (h:(!b)=false):b=true:=by cases b<;>simp_all
theorem TB {b:Bool} (h:(!b)=true):b=false:=by cases b<;>simp_all
theorem TC {T F:Prop} (h:T):ef true T F:=.mk (λ_=>h) (λh=>by cases h)
theorem TD {T F:Prop} (h:F):ef false T F:=.mk (λh=>by cases h) (λ_=>h)
theorem Qb {b:Bool} {T F:Prop} (a:b=true) (h:T):ef b T F:=.mk (λ_=>h) (λh=>by rw[a]at h;cases h)
theorem Qc {b:Bool} {T F:Prop} (a:b=false) (h:F):ef b T F:=.mk (λh=>by rw[a]at h;cases h) (λ_=>h)
section
variable {α:Type}{l m:List α}{lo hi:Int}
theorem SY (h:KG l lo=some m):0<=lo/\lo<=(l.length:Int):=(b8 h).1
theorem PQ (h:KG l lo=some m):m.length=l.length - lo.toNat:=by rw[<-(b8 h).2];simp
theorem NK (h:Xt l hi=some m):0<=hi/\hi<=(l.length:Int):=(b8 h).1
theorem cP {b:Nat} {q:List α} (h:iD b l m=some q):(l.length+m.length)*b<=140737488355328:=(b8 h).1
theorem ca {b:Nat} {q:List α} (h:iD b l m=some q):q.length=l.length+m.length:=by rw[<-(b8 h).2];simp
theorem aaL (h:Xt l hi=some m):m.length<=l.length:=by
 have h1:=(b8 h).1;have h2:=(b8 h).2;subst h2;rw[ajz];exact Nat.min_le_right _ _
theorem IE (h:Xt l hi=some m):m.length=hi.toNat:=by
 have a:=NK h;rw[<-(b8 h).2];simp;omega
end
def row {α:Type} (c:α->List PV) (l:List α):Nat->List PV:=λi=>(l.map c).getD i []
abbrev sl {α:Type} (sz:Nat) (c:α->List PV) (l:List α):PV:=.fF sz l.length (row c l)
def cI (x:Int):List PV:=[.int .i64 x]
def aaW (k:IntKind) (x:Int):List PV:=[.int k x]
def cB (x:UInt8):List PV:=[.int .u8 x.toNat]
def cT (x:Bool):List PV:=[.bool x]
def cS (x:aW):List PV:=[.str x]
def cL {α:Type} (sz:Nat) (c:α->List PV) (x:List α):List PV:=[sl sz c x]
section
variable {α:Type}{c:α->List PV}{l m:List α}{x x':α}{i lo hi:Int}
theorem mY (x:Int):(cI x).all bx=true:=rfl
theorem Qd (k:IntKind) (x:Int):(aaW k x).all bx=true:=rfl
theorem Wr (x:UInt8):(cB x).all bx=true:=rfl
theorem Ws (x:Bool):(cT x).all bx=true:=rfl
theorem Wt (x:aW):(cS x).all bx=true:=rfl
theorem Wu {β:Type} (sz:Nat) (d:β->List PV) (x:List β):(cL sz d x).all bx=true:=rfl
theorem HO (x:Int):cB (UInt8.ofNat (IntKind.u8.wrap x).toNat)=[.int .u8 (IntKind.u8.wrap x)]:=by
 have h:0<=IntKind.u8.wrap x/\IntKind.u8.wrap x<256:=by
  have:=IntKind.wrap_u8 x;omega
 unfold cB;congr 2;rw[UInt8.toNat_ofNat'];omega
theorem dI {k:Nat} (h:k<l.length):row c l k=c l[k]:=by unfold row;simp [ahA,h]
theorem kn {k:Nat} (h:l[k]? =some x):row c l k=c x:=by unfold row;simp [ahA,h]
theorem jD (hp:∀x,(c x).all bx=true) (k:Nat):(row c l k).all bx=true:=by
 by_cases h:k<l.length
 ·rw[dI h];exact hp _
 ·unfold row;simp [ahA,ahO (show l.length<=k by omega)]
theorem Qe {s:aW} {k:Nat} (h:k<s.length):row cB s k=[.int .u8 (s.getD k 0).toNat]:=by
 rw[dI h];simp [cB,ahA,h]
theorem gx {s:aW} {b:UInt8} (h:nL s i=some b):0<=i/\i<(s.length:Int):=(b8 h).1
theorem gy {s:aW} {b:UInt8} (h:nL s i=some b):s.getD i.toNat 0=b:=(b8 h).2
theorem Kx {s t:aW} (h:BF s lo=some t):0<=lo/\lo<=(s.length:Int):=(b8 h).1
theorem Ky {s t:aW} (h:BF s lo=some t):s.drop lo.toNat=t:=(b8 h).2
theorem n9 {s t u:aW} (h:uI s t=some u):s.length+t.length<=4611686018427387904:=(b8 h).1
theorem oa {s t u:aW} (h:uI s t=some u):s++t=u:=(b8 h).2
theorem Wv (h:Xt l hi=some m):∀i,i<m.length->row c m i=row c l i:=λi a=>by
 have hl:=IE h
 have hm:l[i]? =some m[i]:=by
  rw[<-abF a,<-(b8 h).2,ajp,As alV]
 rw[dI a,kn hm]
def ym (c:α->List PV) (f:Nat->List PV) (off:Nat) (l:List α):Prop:=∀i,i<l.length->f (off+i)=row c l i
theorem aS:ym c (row c l) 0 l:=λi _=>by rw[ahx]
theorem P5 {f:Nat->List PV} {off:Nat} (hs:ym c f off l) (h:Xt l hi=some m):ym c f off m:=λi a=>by
 have b:=NK h;have hl:=IE h;rw[Wv h i a];exact hs _ alV
theorem wa {s:aW} {f:Nat->List PV} {off n:Nat} (hs:ym cB f off s) (hn:s.length=n):∀i,i<n->f (off+i)=[.int .u8 (s.getD i 0).toNat]:=λi hi=>by
 subst hn;rw[hs i hi];exact Qe hi
theorem cr {b:Nat} {q:List α} {f g:Nat->List PV} {off:Nat} (h:iD b l m=some q) (hf:ym c f off l) (hg:∀i,i<m.length->g i=row c m i):
  ∀i,i<q.length->ng (bif Nat.blt i l.length then f (off+i)else g (i - l.length)) (row c q i):=λi d=>by
 have hl:=ca h;have e:q=l++m:=(b8 h).2.symm;subst e;by_cases a:i<l.length
 ·rw[IJ a,hf i a,dI d,dI a,ajd a];exact ng.refl _
 ·rw[NM alV,hg _ alV,dI d,dI alV,ajb alV];exact ng.refl _
theorem jC:∀i,i<m.length->row c m i=row c m i:=λ_ _=>rfl
theorem lU {f:Nat->List PV} {off:Nat} (hs:ym c f off m):∀i,i<m.length->f (off+i)=row c m i:=hs
def CLL:List (List PV)->List (List PV)->Prop
 | [],[]=>True
 | a::l,b::r=>ng a b/\CLL l r
 | _,_=>False
theorem zt {a b lit:List PV} {l r:List (List PV)} (e:b=lit) (h:ng a lit) (t:CLL l r):CLL (a::l) (b::r):=⟨by rw[e];exact h,t⟩
theorem aX:∀{l r:List (List PV)},l=r->CLL l r
 | [],_,rfl=>trivial
 | a::l,_,rfl=>⟨ng.refl _,aX rfl⟩
theorem OS:∀{l r:List (List PV)},CLL l r->∀i,ng (l.getD i []) (r.getD i [])
 | [],[],_,i=>by simp;exact trivial
 | a::l,b::r,h,0=>h.1
 | a::l,b::r,h,i+1=>by simpa using OS h.2 i
 | [],_::_,h,_=>h.elim
 | _::_,[],h,_=>h.elim
theorem bf (c:α->List PV) (l:List α) {n:Nat} {cs:List (List PV)} (hn:n=l.length) (h:CLL cs (l.map c)):∀i,i<n->ng (cs.getD i []) (row c l i):=λi _=>OS h i
theorem ka {k n off:Nat} {a b lit:List PV} (d:k<l.length) (he:c x'=lit) (hc:ng (eF a off b) lit):∀j,j<n->ng (bP (row c l) k (eF a off b) j) (row c (l.set k x') j):=λj _=>by
 rw[<-he]at hc;unfold row bP;by_cases hj:j=k
 ·subst hj;simpa[ahA,d]using hc
 ·have:Nat.beq j k=false:=by
   cases e:Nat.beq j k with
   | false=>rfl
   | true=>exact absurd (ahz e) hj
  rw[this];simp only[ajv,ahA,ahT,ahQ (aiI hj)];exact ng.refl _
theorem one_set {a b new:List PV} {off:Nat} {f:Nat->List PV} (h:new=eF a off b):∀j,j<1->ng (bP f 0 (eF a off b) j) ((λ_=>new) j):=λj hj=>by
 obtain rfl:j=0:=by omega
 subst h;exact ng.refl _
end
section
variable {α:Type} [Inhabited α] {c:α->List PV} {l m:List α} {x x':α} {i lo hi:Int}
theorem aB (h:idx l i=some x):0<=i/\i<(l.length:Int):=(b8 h).1
theorem TE (h:idx l i=some x):l[i.toNat]? =some x:=by
 have a:=aB h;have hl:i.toNat<l.length:=by omega
 rw[<-(b8 h).2,ahA,abF hl];rfl
theorem dO (h:idx l i=some x):i.toNat<l.length:=by have a:=aB h;omega
theorem ax (h:idx l i=some x):row c l i.toNat=c x:=kn (TE h)
theorem mA {b:Nat} {n k:Int} {q:List α} (h:mf b n k=some q):0<=n/\n<=k/\k<=4611686018427387904/\k.toNat*b<=140737488355328:=(b8 h).1
theorem jH {b:Nat} {n k:Int} {q:List α} (h:mf b n k=some q):q.length=n.toNat:=by rw[<-(b8 h).2];simp
theorem rf {b:Nat} {n k:Int} {q:List α} {z lit:List PV} (h:mf b n k=some q) (he:c default=lit) (a:ng z lit):∀i,i<q.length->ng z (row c q i):=λi d=>by
 have hl:=jH h;rw[kn (x:=default) (by rw[<-(b8 h).2,List.getElem?_replicate,As alV]),he];exact a
end
section
variable {h η:List al}{k:List Nat}
theorem CW {pv:PV} (hp:bx pv=true):Fz h η k pv pv:=by
 cases pv with
 | int k n=>exact .int _ _
 | bool b=>exact .bool _
 | str s=>exact .str _
 | az=>exact .az
 | iH=>exact .iH
 | fF sz n f=>exact .fF _ _ _ _ (λ_ _=>rfl)
 | fC cs=>exact .fC _
 | fn f=>exact .fn _
 | _=>cases hp
theorem lp:∀{l:List PV},l.all bx=true->vn h η k l l
 | [],_=>trivial
 | a::l,hp=>by
  simp only[aiA,No]at hp;exact⟨CW hp.1,lp hp.2⟩
theorem aaX {cs:List PV} (hp:cs.all bx=true):Fz h η k (.agg cs) (.agg cs):=.cN (lp hp)
theorem Th {α:Type} {c:α->List PV} (hp:∀x,(c x).all bx=true) {f:Nat->List PV} {m:List α} (hs:ym c f 0 m):∀i,i<m.length->vn h η k (f i) (row c m i):=λi hi=>by
 have h1:=hs i hi;rw[ahx]at h1;rw[h1];exact lp (jD hp i)
def NN (h η:List al) (k:List Nat):List (Nat×Nat)->List (Nat×Nat)->Prop
 | [],[]=>True
 | p::r,a::b=>(k[a.1]? =some p.1/\(∃sz n e f,h[p.1]? =some (al.row p.2 sz n e f))/\∃sz n e f,η[a.1]? =some (al.row a.2 sz n e f)/\0<n)/\NN h η k r b
 | _,_=>False
theorem NN.get:∀(l b:List (Nat×Nat)),NN h η k l b->b.length=l.length/\∀(j:Nat) (p a:Nat×Nat),l[j]? =some p->b[j]? =some a->
  k[a.1]? =some p.1/\(∃sz n e f,h[p.1]? =some (al.row p.2 sz n e f))/\∃sz n e f,η[a.1]? =some (al.row a.2 sz n e f)/\0<n
 | [],[],_=>⟨rfl,λj p a hj _=>by simp at hj⟩
 | [],_::_,hh=>hh.elim
 | _::_,[],hh=>hh.elim
 | q::r,g::d,hh=>by
  obtain⟨h1,h2⟩:=hh;obtain⟨q1,q2⟩:=NN.get r d h2;refine⟨by simp [q1],λj p a hj c=>?_⟩;cases j with
  | zero=>
   simp at hj c;subst hj c;exact h1
  | succ j=>exact q2 j p a amc (by simpa using c)
theorem Fz.Xg {f:Nat} {bJ a:List (Nat×Nat)} (hh:NN h η k bJ a):Fz h η k (.qE f bJ) (.qE f a):=.qE f bJ a (NN.get _ _ hh).1 (NN.get _ _ hh).2
theorem TF {α:Type} {c:α->List PV} (hp:∀x,(c x).all bx=true) {id g sz n off:Nat} {e:TypeId} {f:Nat->List PV} {l:List α} (a:id∉k) (b:h[id]? =some (al.row g sz n e f)) (hs:ym c f off l):
  Fz h η k (.own id g off l.length) (sl sz c l):=
 .Tx a b rfl rfl (λi hi=>jD hp i) (λi hi=>by rw[hs i hi];exact lp (jD hp i))
theorem Ww {α:Type} {c:α->List PV} (hp:∀x,(c x).all bx=true) {id g sz n off len:Nat} {e:TypeId} {f:Nat->List PV} {l:List α} (a:id∉k) (b:h[id]? =some (al.row g sz n e f)) (hs:ym c f off l) (hl:len=l.length):
  Fz h η k (.own id g off len) (sl sz c l):=by subst hl;exact TF hp a b hs
end
theorem NP {α:Type} {c:α->List PV} (hp:∀x,(c x).all bx=true) (N g sz n:Nat) (e:TypeId) (l:List α):eE N (.row g sz n e (row c l))=.row g sz n e (row c l):=by
 suffices e:(λi=>(row c l i).map (pB N))=row c l by unfold eE;simp only[e]
 funext i;have h:=jD (l:=l) hp i;generalize row c l i=q at h;induction q with
 | nil=>rfl
 | cons a r b=>
  simp only[aiA,No]at h;rw[ahE,b h.2];cases a<;>first | rfl | cases h.1
theorem mT {α:Type} {c:α->List PV} (hp:∀x,(c x).all bx=true) (σ:Nat->Nat) (g sz n:Nat) (e:TypeId) (l:List α):uA σ (.row g sz n e (row c l))=.row g sz n e (row c l):=by
 suffices e:(λi=>(row c l i).map (nf σ))=row c l by unfold uA;simp only[e]
 funext i;have h:=jD (l:=l) hp i;generalize row c l i=q at h;induction q with
 | nil=>rfl
 | cons a r b=>
  simp only[aiA,No]at h;rw[ahE,b h.2];cases a<;>first | rfl | cases h.1
theorem ACall.ads {P:Program} {f:FuncId} {args:List PV} {r0:PV} (hA:ACall P f args [] (λres h=>res=r0/\h=[])) (h:List al) (hp:args.all GX=true) (a:∀n,pA n r0=r0):
  ACall P f args h (λres h'=>res=r0/\h'=h):=
 (hA.frame h hp).mono (by rintro _ _ ⟨_,_,⟨rfl,rfl⟩,rfl,rfl⟩;exact⟨a _,by simp⟩)
theorem ACall.adt {P:Program} {f:FuncId} {args a:List PV} {r0:PV} (hA:ACall P f a [] (λres h=>res=r0/\h=[])) (h:List al) (b:vn h [] [] args a) (hn:a.all lF=true) (hf:El r0=true) (c:∀n,pA n r0=r0):
  ACall P f args h (λres h'=>res=r0/\h'=h):=
 (hA.XZ h b hn (by rintro _ _ ⟨rfl,rfl⟩;exact⟨hf,by simp⟩)).mono (by rintro _ _ ⟨_,_,⟨rfl,rfl⟩,rfl,rfl⟩;exact⟨c _,by simp⟩)
section
variable {κ β:Type} [DecidableEq κ]
def ik:List (κ×β)->κ->Option β
 | [],_=>none
 | (a,b)::r,k=>if k=a then some b else ik r k
def qQ (l:List (κ×β)) (k:κ) (z:β):β:=(ik l k).getD z
def uc (l:List (κ×β)) (k:κ):Bool:=(ik l k).isSome
def eU:List (κ×β)->κ->β->List (κ×β)
 | [],k,v=>[(k,v)]
 | (a,b)::r,k,v=>if k=a then(k,v)::r else(a,b)::eU r k v
def mc (c:κ->PV) (d:β->PV) (p:κ×β):List PV:=[c p.1,d p.2]
def scP:PV->Bool
 | .agg cs=>cs.all bx
 | v=>bx v
theorem xA {c:κ->PV} {d:β->PV} {ti:TI} (he:∀a b,kA ti (c a) (c b)=some (decide (a=b))):∀(l:List (κ×β)) (k:κ) (n:Nat),n<=l.length->(∀j,j<n->∀p,l[j]? =some p->k≠p.1)->GN ti (row (mc c d) l) n (c k):=λl k n hn h j hj=>by
 have e:j<l.length:=by omega
 refine⟨c l[j].1,d l[j].2,by rw[dI e];rfl,?_⟩;rw[he,ahG (h j hj _ (abF e))]
theorem K5:∀(l:List (κ×β)) (k:κ) (b:β),ik l k=some b->∃i,i<l.length/\l[i]? =some (k,b)/\∀j,j<i->∀p,l[j]? =some p->k≠p.1
 | [],_,_,h=>by cases h
 | (a,d)::r,k,b,h=>by
  unfold ik at h;by_cases c:k=a
  ·rw[As c]at h;obtain rfl:=aim h;subst c;exact⟨0,by simp,rfl,λj hj=>absurd hj (ahP _)⟩
  ·rw[An c]at h;obtain⟨i,h1,h2,h3⟩:=K5 r k b h;refine⟨i+1,by simpa using h1,by simpa using h2,λj hj p hp=>?_⟩;cases j with
   | zero=>simp at hp;subst hp;exact c
   | succ j=>exact h3 j alV p amj
theorem yS:∀(l:List (κ×β)) (k:κ),ik l k=none->∀(j:Nat) (p:κ×β),l[j]? =some p->k≠p.1
 | [],_,_,j,p,hp=>by simp at hp
 | (a,c)::r,k,h,j,p,hp=>by
  unfold ik at h;by_cases b:k=a
  ·rw[As b]at h;cases h
  ·rw[An b]at h;cases j with
   | zero=>simp at hp;subst hp;exact b
   | succ j=>exact yS r k h j p amj
theorem qh {c:κ->PV} {d:β->PV} {ti:TI} (he:∀a b,kA ti (c a) (c b)=some (decide (a=b))) (l:List (κ×β)) (k:κ) (z:β):TG ti (row (mc c d) l) l.length (c k) (d z) (d (qQ l k z)) (uc l k):=by
 unfold qQ uc;cases h:ik l k with
 | some b=>
  obtain⟨i,h1,h2,h3⟩:=K5 l k b h;exact .inl ⟨rfl,i,h1,xA he l k i alV h3,c k,by rw[kn h2];rfl,by rw[he,ahI rfl]⟩
 | none=>exact .inr ⟨rfl,rfl,xA he l k _ (ahy _) (λj _ p hp=>yS l k h j p hp)⟩
theorem GY:∀(l:List (κ×β)) (k:κ) (v:β),ik l k=none->eU l k v=l++[(k,v)]
 | [],_,_,_=>rfl
 | (a,c)::r,k,v,h=>by
  unfold ik at h;unfold eU;by_cases b:k=a
  ·rw[As b]at h;cases h
  ·rw[An b]at h;rw[An b,GY r k v h];rfl
theorem GZ:∀(l:List (κ×β)) (k:κ) (v b:β),ik l k=some b->∃i,i<l.length/\l[i]? =some (k,b)/\(∀j,j<i->∀p,l[j]? =some p->k≠p.1)/\(eU l k v).length=l.length/\(eU l k v)[i]? =some (k,v)/\∀j,j≠i->(eU l k v)[j]? =l[j]?
 | [],_,_,_,h=>by cases h
 | (a,d)::r,k,v,b,h=>by
  unfold ik at h;unfold eU;by_cases c:k=a
  ·rw[As c]at h;obtain rfl:=aim h;rw[As c];subst c;exact⟨0,by simp,rfl,λj hj=>absurd hj (ahP _),by simp,rfl,λj hj=>by cases j with | zero=>exact absurd rfl hj | succ j=>rfl⟩
  ·rw[An c]at h;obtain⟨i,h1,h2,h3,h4,h5,h6⟩:=GZ r k v b h;rw[An c];refine⟨i+1,by simpa using h1,by simpa using h2,λj hj p hp=>?_,by simpa using h4,by simpa using h5,λj hj=>?_⟩
   ·cases j with
    | zero=>simp at hp;subst hp;exact c
    | succ j=>exact h3 j alV p amj
   ·cases j with
    | zero=>rfl
    | succ j=>simpa using h6 j alV
theorem uP {c:κ->PV} {d:β->PV} {ti:TI} (he:∀a b,kA ti (c a) (c b)=some (decide (a=b))) (l:List (κ×β)) (k:κ) (v:β):adu ti (row (mc c d) l) l.length (c k) (d v) (eU l k v).length (row (mc c d) (eU l k v)):=by
 cases h:ik l k with
 | some b=>
  obtain⟨i,h1,h2,h3,h4,h5,h6⟩:=GZ l k v b h;refine .inl ⟨i,d b,⟨h1,xA he l k i alV h3,c k,by rw[kn h2];rfl,by rw[he,ahI rfl]⟩,h4,by rw[kn h5];rfl,λj hj e=>?_⟩;rw[kn (abF hj),kn ((h6 j e).trans (abF hj))]
 | none=>
  rw[GY l k v h];refine .inr ⟨xA he l k _ (ahy _) (λj _ p hp=>yS l k h j p hp),by simp,?_,λj hj=>?_⟩
  ·rw[kn (x:=(k,v)) alW];rfl
  ·rw[kn (abF hj),kn (x:=l[j]) (by rw[aia hj,abF hj])]
end
theorem X4 {h η:List al} {k:List Nat} {pv:PV} (hp:scP pv=true):Fz h η k pv pv:=by
 cases pv with
 | agg cs=>exact aaX hp
 | _=>exact CW hp
theorem IF {h η:List al} {k:List Nat} {κ β:Type} {c:κ->PV} {d:β->PV} (hc:∀x,scP (c x)=true) (hd:∀x,scP (d x)=true) {l:List (κ×β)} {n:Nat}:∀i,i<n->vn h η k (row (mc c d) l i) (row (mc c d) l i):=λi _=>by
 by_cases h:i<l.length
 ·rw[dI h];exact⟨X4 (hc _),X4 (hd _),trivial⟩
 ·unfold row;simp [ahA,ahO (show l.length<=i by omega)];trivial
theorem Im (k:IntKind) (a b:Int):kA (.int k) (.int k a) (.int k b)=some (decide (a=b)):=by
 have e:(a==b)=decide (a=b):=by rw[aic];simp
 cases k<;>simp only[kA,GI,rN,ajg,e]
theorem qU (a b:aW):kA .str (.str a) (.str b)=some (decide (a=b)):=by
 simp only[kA];have e:(a==b)=decide (a=b):=by rw[aic];simp
 rw[e]
theorem Bf:∀o∈([]:List al),Af o:=λ_ h=>absurd h ajT
theorem e7 {a:al} {l:List al} (h1:Af a) (h2:∀o∈l,Af o):∀o∈a::l,Af o:=λo h=>by
 rcases ahM.1 h with rfl | h
 ·exact h1
 ·exact h2 o h
theorem hZ {α:Type} {c:α->List PV} (hf:∀x,(c x).all qF=true) {g sz:Nat} {e:TypeId} {l:List α}:Af (.row g sz l.length e (row c l)):=λi hi=>by
 rw[dI hi];exact hf _
theorem ln {a b:Nat} (h:a=b:=by first | rfl | simp):a=b:=h
class sf {α:Type} (c:α->List PV):Prop where
 pure:∀x,(c x).all bx=true
instance:sf cI:=⟨mY⟩
instance (k:IntKind):sf (aaW k):=⟨Qd k⟩
instance:sf cB:=⟨Wr⟩
instance:sf cT:=⟨Ws⟩
instance:sf cS:=⟨Wt⟩
instance {α:Type} (sz:Nat) (c:α->List PV):sf (cL sz c):=⟨Wu sz c⟩
instance (a b:IntKind):sf (mc (PV.int a) (PV.int b)):=⟨λ_=>rfl⟩
instance (a:IntKind):sf (mc (PV.int a) PV.bool):=⟨λ_=>rfl⟩
instance (a:IntKind):sf (mc (PV.int a) PV.str):=⟨λ_=>rfl⟩
instance (b:IntKind):sf (mc PV.str (PV.int b)):=⟨λ_=>rfl⟩
instance:sf (mc PV.str PV.bool):=⟨λ_=>rfl⟩
instance:sf (mc PV.str PV.str):=⟨λ_=>rfl⟩
def yi {α:Type} (l:List α) (off:Nat) (s:List α):List α:=l.mapIdx λi x=>if i<off then x else if i<off+s.length then s.getD (i - off) x else x
@[simp] theorem G0 {α:Type} (l:List α) (off:Nat) (s:List α):(yi l off s).length=l.length:=by unfold yi;simp
theorem PR {α:Type} {c:α->List PV} {l s:List α} {off n:Nat} {g:Nat->List PV} (hg:∀i,i<s.length->g i=row c s i) (hn:n=l.length):∀i,i<n->ng (TH (row c l) off s.length g i) (row c (yi l off s) i):=λi hi=>by
 subst hn
 have e:row c (yi l off s) i=if i<off then row c l i else if i<off+s.length then row c s (i - off)else row c l i:=by
  rw[dI (by rw[G0];exact hi),dI hi];unfold yi;rw[List.getElem_mapIdx];by_cases h1:i<off
  ·rw[As h1,As h1]
  ·rw[An h1,An h1];by_cases h2:i<off+s.length
   ·rw[As h2,As h2,dI (show i - off<s.length by omega)];simp [ahA,show i - off<s.length by omega]
   ·rw[An h2,An h2]
 rw[e];unfold TH;by_cases h1:i<off
 ·rw[As h1,show Nat.blt i off=true by simpa using h1];exact ng.refl _
 ·rw[An h1,show Nat.blt i off=false from aiU.2 (λh=>h1 amg)];by_cases h2:i<off+s.length
  ·rw[As h2,show Nat.blt i (off+s.length)=true by simpa using h2];simp only[ajv,ajI];rw[hg _ alV];exact ng.refl _
  ·rw[An h2,show Nat.blt i (off+s.length)=false from aiU.2 (λh=>h2 amg)];exact ng.refl _
section
variable {h η:List al}{k:List Nat}
theorem Fz.i {q:IntKind} {a b:Int} (e:a=b:=by rfl):Fz h η k (.int q a) (.int q b):=.int_eq e
theorem Fz.b {a b:Bool} (e:a=b:=by rfl):Fz h η k (.bool a) (.bool b):=.OR e
theorem Fz.s {a b:List UInt8} (e:a=b:=by rfl):Fz h η k (.str a) (.str b):=.Tw e
theorem Fz.l {sz n:Nat} {f:Nat->List PV}:Fz h η k (.fF sz n f) (.fF sz n f):=.fF _ _ _ _ (λ_ _=>rfl)
theorem Fz.z {α:Type} {c:α->List PV} {sz:Nat}:Fz h η k .az (sl sz c []):=.X5 _ _
theorem Fz.g {id a b c:Nat} {d:TypeId} {e:Nat->List PV} (f:k[a]? =some id:=by rfl) (i:h[id]? =none:=by rfl) (hη:η[a]? =some (al.row b c 0 d e):=by rfl):Fz h η k .az (.own a b 0 0):=.adv id a b c d e f i hη
theorem Fz.o {id a g b sz c n len:Nat} {e d:TypeId} {f i:Nat->List PV} (j:k[a]? =some id:=by rfl) (l:h[id]? =some (al.row g sz n e f):=by rfl) (hη:η[a]? =some (al.row b c len d i):=by rfl):Fz h η k (.own id g 0 len) (.own a b 0 len):=
 .own _ _ _ _ _ _ _ _ _ _ _ _ _ _ j l hη (ajR (ahx _))
theorem Fz.ox {id a g c sz d n len b:Nat} {e i:TypeId} {f j:Nat->List PV} (hl:len=b) (l:k[a]? =some id:=by rfl) (m:h[id]? =some (al.row g sz n e f):=by rfl) (hη:η[a]? =some (al.row c d b i j):=by rfl):Fz h η k (.own id g 0 len) (.own a c 0 b):=by
 subst hl;exact Fz.o l m hη
theorem Fz.p {id a g b sz c n d off:Nat} {e i:TypeId} {f j:Nat->List PV} (l:k[a]? =some id:=by rfl) (m:h[id]? =some (al.row g sz n e f):=by rfl) (hη:η[a]? =some (al.row b c (d+1) i j):=by rfl):Fz h η k (.aF id g 0 off) (.aF a b 0 off):=
 .aF _ _ _ _ _ _ _ _ _ _ _ _ _ _ l m hη (Nat.succ_pos _)
theorem Fz.m {id a g b sz c n d:Nat} {e i:TypeId} {f j:Nat->List PV} (l:k[a]? =some id:=by rfl) (o:h[id]? =some (al.row g sz n e f):=by rfl) (hη:η[a]? =some (al.row b c d i j):=by rfl):Fz h η k (.ke id) (.ke a):=
 .ke _ _ _ _ _ _ _ _ _ _ _ _ l o hη
theorem Fz.j {pv:PV}:Fz h η k pv .jw:=.jw _
theorem Fz.f {n:Nat}:Fz h η k (.fn n) (.fn n):=.fn _
theorem Fz.r {α:Type} {c:α->List PV} [sf c] {id g sz n:Nat} {e:TypeId} {l:List α} (a:h[id]? =some (al.row g sz n e (row c l)):=by rfl) (b:id∉k:=by first | decide | simp):Fz h η k (.own id g 0 l.length) (sl sz c l):=TF sf.pure b a aS
theorem Fz.rx {α:Type} {c:α->List PV} [sf c] {id g sz n len:Nat} {e:TypeId} {l:List α} (hl:len=l.length) (a:h[id]? =some (al.row g sz n e (row c l)):=by rfl) (b:id∉k:=by first | decide | simp):Fz h η k (.own id g 0 len) (sl sz c l):=Ww sf.pure b a aS hl
variable {m:Nat}
theorem od {α:Type} {c:α->List PV} [sf c] {id g sz:Nat} {e:TypeId} {l:List α} (a:h[id]? =some (al.row g sz l.length e (row c l)):=by rfl):vQ h η k m (.row g sz l.length e (row c l)) id id:=by
 unfold vQ;rw[a];exact⟨λ_=>⟨rfl,rfl⟩,rfl,.inl rfl,rfl,λi _=>lp (jD sf.pure i)⟩
theorem odx {α:Type} {c:α->List PV} [sf c] {id g sz n a:Nat} {e:TypeId} {l:List α} (b:h[id]? =some (al.row g sz n e (row c l))) (hn:a=n):vQ h η k m (.row g sz a e (row c l)) id id:=by
 unfold vQ;rw[b];exact⟨λ_=>⟨rfl,rfl⟩,rfl,.inl hn,rfl,λi _=>lp (jD sf.pure i)⟩
theorem ob {id g sz:Nat} {e:TypeId} {a b:List PV} (c:h[id]? =some (al.row g sz 1 e (λ_=>a))) (F:vn h η k a b):vQ h η k m (.row g sz 1 e (λ_=>b)) id id:=by
 unfold vQ;rw[c];exact⟨λ_=>⟨rfl,rfl⟩,rfl,.inl rfl,rfl,λi _=>F⟩
theorem nw {α:Type} {c:α->List PV} [sf c] {i id g a sz:Nat} {e:TypeId} {l:List α} (hi:Nat.ble m i=true:=by rfl) (b:h[id]? =some (al.row g sz l.length e (row c l)):=by rfl):vQ h η k m (.row a sz l.length e (row c l)) i id:=by
 unfold vQ;rw[b];exact⟨λh0=>absurd h0 (ajL.2 (ahW hi)),rfl,.inl rfl,rfl,λi _=>lp (jD sf.pure i)⟩
theorem UN {α:Type} {c:α->List PV} [sf c] {i id g b sz n a:Nat} {e:TypeId} {l:List α} (d:h[id]? =some (al.row g sz n e (row c l))) (hn:a=n) (hi:Nat.ble m i=true:=by rfl):vQ h η k m (.row b sz a e (row c l)) i id:=by
 unfold vQ;rw[d];exact⟨λh0=>absurd h0 (ajL.2 (ahW hi)),rfl,.inl hn,rfl,λi _=>lp (jD sf.pure i)⟩
theorem nb {i id g c sz:Nat} {e:TypeId} {a b:List PV} (d:h[id]? =some (al.row g sz 1 e (λ_=>a))) (F:vn h η k a b) (hi:Nat.ble m i=true:=by rfl):vQ h η k m (.row c sz 1 e (λ_=>b)) i id:=by
 unfold vQ;rw[d];exact⟨λh0=>absurd h0 (ajL.2 (ahW hi)),rfl,.inl rfl,rfl,λi _=>F⟩
theorem j6 {i id g b sz:Nat} {e:TypeId} {a:List PV} (c:h[id]? =some (al.row g sz 1 e (λ_=>a))) (hp:a.all bx=true:=by rfl) (hi:Nat.ble m i=true:=by rfl):vQ h η k m (.row b sz 1 e (λ_=>a)) i id:=nb c (lp hp) hi
theorem dd {i id:Nat}:vQ h η k m .dead i id:=by unfold vQ;trivial
theorem gh {i id a b:Nat} {c:TypeId} {d:Nat->List PV} (hi:Nat.ble m i=true:=by rfl) (e:h[id]? =none:=by rfl):vQ h η k m (.row a b 0 c d) i id:=by
 unfold vQ;rw[e];exact⟨ahW hi,rfl⟩
theorem tk {env:Env} {σ:List (Nat×PV)} (k:List Nat) (he:zi h η k env σ) (hh:kV h η k m 0 η k) (hd:pt (oU η k)=true:=by rfl) (hl:Nat.ble m k.length=true:=by rfl):Ai m env h σ η:=⟨k,hd,ahW hl,he,hh⟩
theorem ct {J:List (Nat×PV)->List al->Prop} {env:Env} {σ:List (Nat×PV)} (hj:J σ η) (a:Ai m env h σ η):Aj m J env h:=.mk σ η a hj
theorem lg {body:(Env->List al->Prop)->Env->List al->Prop} {env:Env} {σ:List (Nat×PV)} (hj:aA m body σ η) (a:Ai m env h σ η):loopGo m body env h:=.mk σ η a hj
theorem le {body:(Env->List al->Prop)->Env->List al->Prop} {env:Env} {σ:List (Nat×PV)} (hj:aA m body σ η) (a:Ai m env h σ η):tj m body env h:=.take σ η a hj
theorem en {R:PV->List al->Prop} {vs:List PV} {res:PV} (k:List Nat) (a:R res η) (F:Fz h η k (oneOf vs) res) (hh:kV h η k m 0 η k) (hd:pt (oU η k)=true:=by rfl) (hl:Nat.ble m k.length=true:=by rfl) (hn:vs.all lF=true:=by rfl):Ends m R h vs:=by
 exact .mk hn k res η hd (ahW hl) F hh a
theorem eB {a r:Bool} (hh:some a=some r):Ends 0 (λres h=>res=.bool r/\h=[]) h [.bool a]:=.mk rfl [] _ [] rfl (ahy _) (.OR (aim hh)) trivial ⟨rfl,rfl⟩
theorem eI {q:IntKind} {a r:Int} (hh:some a=some r):Ends 0 (λres h=>res=.int q r/\h=[]) h [.int q a]:=.mk rfl [] _ [] rfl (ahy _) (.int_eq (aim hh)) trivial ⟨rfl,rfl⟩
theorem eS {a r:List UInt8} (hh:some a=some r):Ends 0 (λres h=>res=.str r/\h=[]) h [.str a]:=.mk rfl [] _ [] rfl (ahy _) (.Tw (aim hh)) trivial ⟨rfl,rfl⟩
end
section
variable {α:Type}{x y r:α}{T F:Prop}
theorem sD {c:Prop} [Decidable c] (h:(if c then x else y)=r) (b:decide c=true->x=r->T) (d:decide c=false->y=r->F):ef (decide c) T F:=.mk (λa=>b a (X0 a h)) (λa=>d a (X1 a h))
theorem sDn {c:Prop} [Decidable c] (h:(if c then x else y)=r) (b:(!decide c)=true->y=r->T) (d:(!decide c)=false->x=r->F):ef (!decide c) T F:=.mk (λa=>b a (X1 (TB a) h)) (λa=>d a (X0 (TA a) h))
theorem sE {β:Type} [BEq β] [LawfulBEq β] {a b:β} [Decidable (a=b)] (h:(if a=b then x else y)=r) (d:(a==b)=true->x=r->T) (e:(a==b)=false->y=r->F):ef (a==b) T F:=.mk (λc=>d c (Ty c h)) (λc=>e c (Tz c h))
theorem nX {β:Type} [BEq β] [LawfulBEq β] {a b:β} [Decidable (a=b)] (h:(if a=b then x else y)=r) (d:(!(a==b))=true->y=r->T) (e:(!(a==b))=false->x=r->F):ef (!(a==b)) T F:=.mk (λc=>d c (Tz (TB c) h)) (λc=>e c (Ty (TA c) h))
theorem sN {β:Type} [BEq β] [LawfulBEq β] {a b:β} [Decidable (a=b)] (h:(if a=b then x else y)=r) (d:(a != b)=true->y=r->T) (e:(a != b)=false->x=r->F):ef (a != b) T F:=.mk (λc=>d c (adq c h)) (λc=>e c (adr c h))
theorem sV {b:Bool} (h:(if b=true then x else y)=r) (c:b=true->x=r->T) (d:b=false->y=r->F):ef b T F:=.mk (λa=>c a (X2 a h)) (λa=>d a (X3 a h))
theorem fG {b:Bool} (h:(if b=true then x else y)=r) (c:(!b)=true->y=r->T) (d:(!b)=false->x=r->F):ef (!b) T F:=.mk (λa=>c a (X3 (TB a) h)) (λa=>d a (X2 (TA a) h))
end
theorem ef.t {T F:Prop} (h:T):ef true T F:=TC h
theorem ef.f {T F:Prop} (h:F):ef false T F:=TD h
theorem ef.kt {b:Bool} {T F:Prop} (a:b=true) (h:T):ef b T F:=Qb a h
theorem ef.kf {b:Bool} {T F:Prop} (a:b=false) (h:F):ef b T F:=Qc a h
theorem xa.d {m:Nat} {A B:XQ->Env->List al->Prop} {Q:XQ} {env:Env} {h:List al} (hd:A (XQ.then (B Q) Q) env h):xa m A B Q env h:=.direct hd
inductive Nz:PV->PV->Prop
 | same (a:PV):Nz a a
 | nil (sz:Nat) (f:Nat->List PV):Nz .az (.fF sz 0 f)
def NzL:List PV->List PV->Prop
 | [],[]=>True
 | a::l,b::r=>Nz a b/\NzL l r
 | _,_=>False
inductive NzA:PV->PV->Prop
 | same (a:PV):NzA a a
 | nil (sz:Nat) (f:Nat->List PV):NzA .az (.fF sz 0 f)
 | agg {cs AP:List PV} (h:NzL cs AP):NzA (.agg cs) (.agg AP)
def TJ:List PV->List PV->Prop
 | [],[]=>True
 | a::l,b::r=>NzA a b/\TJ l r
 | _,_=>False
theorem NzL.get:∀{l r:List PV},NzL l r->r.length=l.length/\∀(j:Nat) (p:PV),r[j]? =some p->∃q:PV,l[j]? =some q/\Nz q p
 | [],[],_=>⟨rfl,λj p h=>by simp at h⟩
 | a::l,b::r,h=>by
  obtain⟨h1,h2⟩:=NzL.get h.2;refine⟨by simp [h1],λj p hj=>?_⟩;cases j with
  | zero=>simp at hj;subst hj;exact⟨a,rfl,h.1⟩
  | succ j=>obtain⟨q,q1,q2⟩:=h2 j p amc;exact⟨q,by simpa using q1,q2⟩
 | [],_::_,h=>h.elim
 | _::_,[],h=>h.elim
theorem TJ.get:∀{l r:List PV},TJ l r->r.length=l.length/\∀(j:Nat) (p:PV),r[j]? =some p->∃q:PV,l[j]? =some q/\NzA q p
 | [],[],_=>⟨rfl,λj p h=>by simp at h⟩
 | a::l,b::r,h=>by
  obtain⟨h1,h2⟩:=TJ.get h.2;refine⟨by simp [h1],λj p hj=>?_⟩;cases j with
  | zero=>simp at hj;subst hj;exact⟨a,rfl,h.1⟩
  | succ j=>obtain⟨q,q1,q2⟩:=h2 j p amc;exact⟨q,by simpa using q1,q2⟩
 | [],_::_,h=>h.elim
 | _::_,[],h=>h.elim
theorem ACall.SV {P:Program} {f:FuncId} {args b:List PV} {h:List al} {R:PV->List al->Prop} (hA:ACall P f b h R) (d:TJ args b):ACall P f args h R:=by
 obtain⟨hl,hg⟩:=d.get;refine⟨hA.1,λw vs μ S hH hM e ha=>hA.2 w vs μ S hH hM (by rw[hl];exact e) (λj pv hj=>?_)⟩;obtain⟨q,q1,q2⟩:=hg j pv hj;obtain⟨v,h1,h2⟩:=ha j q q1;refine⟨v,h1,?_⟩;cases q2 with
 | same=>exact h2
 | nil sz f=>
  have h3:aR S w .az v:=h2;cases h3;exact aR.qH _ _ _ _
 | agg hc=>
  obtain⟨us,g,k,l⟩:=h2;obtain⟨m,a⟩:=hc.get;refine⟨us,g,by rw[m];exact k,λi c hi=>?_⟩;obtain⟨n,o,p⟩:=a i c hi;obtain⟨u,r,e2⟩:=l i n o;refine⟨u,r,?_⟩;cases p with
  | same=>exact e2
  | nil sz f=>
   have h3:aR S w .az u:=e2;cases h3;exact aR.qH _ _ _ _
section
variable {P:Program}{f:FuncId}{args:List PV}{h:List al}{K:PV->List al->Prop}{r0:PV}
theorem aT (hA:ACall P f args [] (λres h=>res=r0/\h=[])) (k:K r0 h) (hp:args.all GX=true:=by rfl) (a:∀n,pA n r0=r0:=by intro _;rfl):vV P f args h K:=
 ⟨_,hA.ads h hp a,by rintro _ _ ⟨rfl,rfl⟩;exact k⟩
theorem Y0 {a:List PV} (hA:ACall P f a [] (λres h=>res=r0/\h=[])) (b:vn h [] [] args a) (k:K r0 h) (hn:a.all lF=true:=by rfl) (hf:El r0=true:=by rfl) (c:∀n,pA n r0=r0:=by intro _;rfl):vV P f args h K:=
 ⟨_,hA.adt h b hn hf c,by rintro _ _ ⟨rfl,rfl⟩;exact k⟩
theorem shr {α:Type} {c:α->List PV} [sf c] (N g sz n:Nat) (e:TypeId) (l:List α):eE N (.row g sz n e (row c l))=.row g sz n e (row c l):=NP sf.pure N g sz n e l
theorem Bz {h0:List al} (hA:ACall P f args [] (λres h=>res=r0/\h=h0)) (r1:PV) (h1:List al) (k:K r1 h1) (e2:h++h0.map (eE h.length)=h1:=by simp only[ahE,ahR,shr];rfl) (a:pA h.length r0=r1:=by rfl) (hp:args.all GX=true:=by rfl):vV P f args h K:=
 ⟨_,hA.frame h hp,by rintro _ _ ⟨_,_,⟨rfl,rfl⟩,rfl,rfl⟩;rw[a,e2];exact k⟩
theorem aaw {a:List PV} {h0:List al} (hA:ACall P f a [] (λres h=>res=r0/\h=h0)) (b:vn h [] [] args a) (r1:PV) (h1:List al) (c:∀o∈h0,Af o) (k:K r1 h1) (e2:h++h0.map (eE h.length)=h1:=by simp only[ahE,ahR,shr];rfl) (d:pA h.length r0=r1:=by rfl) (hn:a.all lF=true:=by rfl) (hf:El r0=true:=by rfl):vV P f args h K:=
 ⟨_,hA.XZ h b hn (by rintro _ _ ⟨rfl,rfl⟩;exact⟨hf,c⟩),by rintro _ _ ⟨_,_,⟨rfl,rfl⟩,rfl,rfl⟩;rw[d,e2];exact k⟩
def Xc (h:List al) (σ:Nat->Nat):List al->List Nat->Prop
 | [],_=>True
 | o::r,i::is=>h[i]? =some (uA σ o)/\Xc h σ r is
 | _::_,[]=>False
theorem Xc.get {h:List al} {σ:Nat->Nat}:∀{hc:List al} {is:List Nat},Xc h σ hc is->∀(j:Nat) (o:al),hc[j]? =some o->∃i:Nat,is[j]? =some i/\h[i]? =some (uA σ o)
 | [],_,_,j,o,hj=>by simp at hj
 | a::r,[],hh,_,_,_=>hh.elim
 | a::r,i::is,hh,0,o,hj=>by simp at hj;subst hj;exact⟨i,rfl,hh.1⟩
 | a::r,i::is,hh,j+1,o,hj=>by
  obtain⟨q,h1,h2⟩:=Xc.get hh.2 j o amc;exact⟨q,by simpa using h1,h2⟩
theorem ov {α:Type} {c:α->List PV} [sf c] {σ:Nat->Nat} {g sz n:Nat} {e:TypeId} {l:List α} {x:Option al} (a:x=some (.row g sz n e (row c l)):=by rfl):x=some (uA σ (.row g sz n e (row c l))):=by rw[mT sf.pure];exact a
theorem ACall.Q9 {hc:List al} {args a:List PV} {R:PV->List al->Prop} (hA:ACall P f args hc R) (is:List Nat) (h:List al) (b:Xc h (eo is h.length) hc is) (hl:hc.length=is.length) (hd:is.Nodup) (c:is.all (λid=>Nat.blt id h.length)=true)
  (d:a=args.map (zh (eo is h.length))):ACall P f a h (λres h'=>∃r0 h0,R r0 h0/\res=Ca (eo is h.length) r0/\h'=vI h is h0):=
 hA.over is h hl hd (λid hid=>ahW (ahC.1 c id hid)) (λj o hj=>by
  obtain⟨i,h1,h2⟩:=b.get j o hj;unfold eo;rw[h1];exact h2) d
end
theorem si {α:Type} {a b:α} (h:some a=some b):a=b:=aim h
theorem bk {α β:Type} {x:Option α} {f:α->Option β} {r:β} {G:Prop} (h:(x>>=f)=some r) (k:∀a,x=some a->f a=some r->G):G:=by
 obtain⟨a,h1,h2⟩:=bind_some h;exact k a h1 h2
theorem bd {α β:Type} {x:Option α} {f:α->Option β} {r:β} (h:(x>>=f)=some r):∃a,x=some a/\f a=some r:=bind_some h
def VV (cs:List (List PV)):Nat->List PV:=λi=>cs.getD i []
structure DR {α:Type} (D:List PV->α->Prop) (n:Nat) (f:Nat->List PV) (l:List α):Prop where
 len:l.length=n
 at_:∀i (h:i<l.length),D (f i) l[i]
 z:∀i,n<=i->f i=[]
inductive X6:PV->PV->Prop
 | p {a:PV} (h:bx a=true):X6 a a
 | o {a b:PV} (h:CE a b):X6 a b
def Ak:List PV->List PV->Prop
 | [],[]=>True
 | a::l,b::r=>X6 a b/\Ak l r
 | _,_=>False
class Jv {α:Type} (D:List PV->α->Prop) (c:outParam (α->List PV)):Prop where
 frz:∀cs x,D cs x->Ak cs (c x)
def AJ {α:Type} (c:α->List PV):List PV->α->Prop:=λcs x=>cs=c x
theorem Ak.len:∀{l r:List PV},Ak l r->r.length=l.length
 | [],[],_=>rfl
 | a::l,b::r,h=>congrArg (·+1) (Ak.len h.2)
 | [],_::_,h=>h.elim
 | _::_,[],h=>h.elim
theorem Ak.get:∀{l r:List PV},Ak l r->∀{j:Nat} {a b:PV},l[j]? =some a->r[j]? =some b->X6 a b
 | a::l,b::r,h,0,x,y,c,hy=>by simp at c hy;subst c hy;exact h.1
 | a::l,b::r,h,j+1,x,y,c,hy=>Ak.get h.2 (by simpa using c) amo
 | [],_,h,j,x,y,c,hy=>by simp at c
 | _::_,[],h,_,_,_,_,_=>h.elim
theorem Ak.pure:∀{l:List PV},l.all bx=true->Ak l l
 | [],_=>trivial
 | a::l,h=>by
  simp only[aiA,No]at h;exact⟨.p h.1,Ak.pure h.2⟩
theorem CE.isO {a b:PV} (h:CE a b):dj a=true:=by cases h;rfl
theorem CE.OT {a b:PV} (h:CE a b):bx b=true:=by cases h;rfl
theorem X6.po {a b:PV} (h:X6 a b):bx a=true\/dj a=true:=by
 cases h with
 | p h=>exact .inl h
 | o h=>exact .inr h.isO
theorem X6.OT {a b:PV} (h:X6 a b):bx b=true:=by
 cases h with
 | p h=>exact h
 | o h=>exact h.OT
theorem Ak.po {l r:List PV} (h:Ak l r):∀c,c∈l->bx c=true\/dj c=true:=λc hc=>by
 obtain⟨j,hj,rfl⟩:=List.getElem_of_mem hc;have hl:=h.len;exact(h.get (abF hj) (abF (show j<r.length by omega))).po
instance {α:Type} (c:α->List PV) [hp:sf c]:Jv (AJ c) c:=⟨λcs x h=>by
 have h:cs=c x:=h;subst h;exact Ak.pure (hp.pure x)⟩
theorem NQ {a:PV} (h:dj a=true):bx a=false:=by cases a<;>first | rfl | cases h
theorem Q7 {σ:Nat->Nat} {a:PV} (h:bx a=true\/dj a=true):nf σ a=a:=by cases a<;>first | rfl | (rcases h with h | h<;>cases h)
theorem TK {N:Nat} {a:PV} (h:bx a=true\/dj a=true):pB N a=a:=by cases a<;>first | rfl | (rcases h with h | h<;>cases h)
theorem Hs {g:PV->PV}:∀{l:List PV},(∀c,c∈l->g c=c)->l.map g=l
 | [],_=>rfl
 | a::l,h=>by simp only[ahE];rw[h a alW,Hs (λc hc=>h c (by simp [hc]))]
section
variable {α:Type}{D:List PV->α->Prop}{c:α->List PV}{n:Nat}{f:Nat->List PV}{l:List α}
theorem xb (a:∀i (h:i<l.length),Ak (f i) (c l[i])) (hl:l.length=n) (sz:Nat) (e:TypeId) (F:Nat->Prop):CE (.bu sz n e f F) (sl sz c l):=by
 subst hl;have at_:∀i,i<l.length->Ak (f i) (row c l i):=λi hi=>by rw[dI hi];exact a i hi
 refine .mk sz l.length e f (row c l) F (λi hi=>(at_ i hi).len) (λi j pv pv' hi h1 h2 hn=>?_) (λi j pv pv' hi h1 h2 hn=>?_) (λi j pv' hi h2=>?_)
 ·cases(at_ i hi).get h1 h2 with
  | p _=>rfl
  | o h=>rw[h.isO]at hn;cases hn
 ·cases(at_ i hi).get h1 h2 with
  | p h=>rw[NQ hn]at h;cases h
  | o h=>exact h
 ·have hj:j<(f i).length:=by rw[<-(at_ i hi).len];exact(Is.1 h2).1
  exact((at_ i hi).get (abF hj) h2).OT
theorem DR.od [hc:Jv D c] (d:DR D n f l):∀i (h:i<l.length),Ak (f i) (c l[i]):=λi h=>hc.frz _ _ (d.at_ i h)
theorem DR.po [hc:Jv D c] (d:DR D n f l):∀i,i<n->∀x,x∈f i->bx x=true\/dj x=true:=λi hi=>(d.od (c:=c) i (by rw[d.len];exact hi)).po
theorem DR.ren [hc:Jv D c] (d:DR D n f l) {g:PV->PV} (hg:∀x,bx x=true\/dj x=true->g x=x):(λi=>(f i).map g)=f:=by
 funext i;by_cases hi:i<n
 ·exact Hs (λx a=>hg x (d.po (c:=c) i hi x a))
 ·rw[d.z i alV];rfl
theorem red [hc:Jv D c] (d:DR D n f l) (σ:Nat->Nat) (g sz a:Nat) (e:TypeId):uA σ (.row g sz a e f)=.row g sz a e f:=by
 show al.row g sz a e (λi=>(f i).map (nf σ))=_;rw[d.ren (c:=c) (λx=>Q7)]
theorem Fp [hc:Jv D c] (d:DR D n f l) (N g sz a:Nat) (e:TypeId):eE N (.row g sz a e f)=.row g sz a e f:=by
 show al.row g sz a e (λi=>(f i).map (pB N))=_;rw[d.ren (c:=c) (λx=>TK)]
theorem Ot [hc:Jv D c] (d:DR D n f l) {σ:Nat->Nat} {g sz a:Nat} {e:TypeId} {x:Option al} (b:x=some (.row g sz a e f):=by rfl):x=some (uA σ (.row g sz a e f)):=by rw[red (c:=c) d];exact b
theorem DR.self (d:DR D n f l):DR D l.length f l:=by have h:=d.len;subst h;exact d
theorem DR.nil:DR D 0 (λ_=>[]) []:=⟨rfl,λi h=>absurd h (ahP _),λ_ _=>rfl⟩
theorem DR.zw {c:α->List PV} {l:List α}:DR (AJ c) l.length (row c l) l:=⟨rfl,λi h=>dI h,λi hi=>by unfold row;simp [ahA,ahO (show(l.map c).length<=i by simpa using hi)]⟩
theorem DR.eqR {c:α->List PV} (d:DR (AJ c) n f l):f=row c l:=by
 funext i;by_cases hi:i<l.length
 ·rw[dI hi];exact d.at_ i hi
 ·rw[d.z i (by rw[<-d.len];omega),DR.zw.z i alV]
theorem bh {f:Nat->List PV} {i:Nat} {cs:List PV}:bP f i cs i=cs:=by
 unfold bP;rw[show Nat.beq i i=true from aiX i];rfl
theorem lT {f:Nat->List PV} {i k:Nat} {cs:List PV} (h:k≠i):bP f i cs k=f k:=by
 unfold bP;rw[show Nat.beq k i=false from aiU.2 (λq=>h (ahz q))];rfl
theorem DR.set (d:DR D n f l) {i:Nat} (hi:i<l.length) {cs:List PV} {x:α} (b:D cs x):DR D n (bP f i cs) (l.set i x):=by
 refine⟨by rw[aiH];exact d.len,λk a=>?_,λk a=>?_⟩
 ·rw[aiH]at a;rw[List.getElem_set];by_cases h:i=k
  ·subst h;rw[As rfl,bh];exact b
  ·rw[An h,lT (aiI h)];exact d.at_ k a
 ·have:=d.len;rw[lT alV];exact d.z k a
theorem DR.app (d:DR D n f l) {cs:List PV} {x:α} (b:D cs x):DR D (n+1) (bP f n cs) (l++[x]):=by
 have hl:=d.len;refine⟨by simp [hl],λk a=>?_,λk a=>?_⟩
 ·by_cases h:k=n
  ·subst h;rw[bh,ajb alV];simp only[hl,aiM,List.getElem_cons_zero];exact b
  ·rw[lT h,ajd (by simp at a;omega)];exact d.at_ k (by simp at a;omega)
 ·rw[lT alV];exact d.z k alV
theorem DR.rep {x:α} {cs:List PV} (b:D cs x) (n:Nat):DR D n (λi=>bif Nat.blt i n then cs else[]) (List.replicate n x):=
 ⟨by simp,λk a=>by
  simp only[List.length_replicate]at a;show D (bif Nat.blt k n then cs else[]) _;rw[IJ a,List.getElem_replicate];exact b,λk a=>by
  show(bif Nat.blt k n then cs else[])=[];rw[NM alV]⟩
theorem DR.idx [Inhabited α] (d:DR D n f l) {i:Int} {x:α} (h:Go.Am.idx l i=some x):D (f i.toNat) x:=by
 have h1:=TE h;obtain⟨h2,h3⟩:=Is.1 h1;rw[<-h3];exact d.at_ _ h2
theorem DR.lt [Inhabited α] (d:DR D n f l) {i:Int} {x:α} (h:Go.Am.idx l i=some x):i.toNat<n:=by rw[<-d.len];exact dO h
theorem DR.bd [Inhabited α] (d:DR D n f l) {i:Int} {x:α} (h:Go.Am.idx l i=some x):0<=i/\i<(n:Int):=by rw[<-d.len];exact aB h
variable {h η:List al}{k:List Nat}{m:Nat}
theorem adw {a:PV} (hp:bx a=true\/dj a=true):Fz h η k a a:=by
 cases a<;>first | exact CW rfl | exact .bu _ _ _ _ _ | (rcases hp with hp | hp<;>cases hp)
theorem NR:∀{l:List PV},(∀c,c∈l->bx c=true\/dj c=true)->vn h η k l l
 | [],_=>trivial
 | a::l,hp=>⟨adw (hp a alW),NR (λc hc=>hp c (by simp [hc]))⟩
theorem Fz.rd [hc:Jv D c] {id g sz a b:Nat} {e:TypeId} (d:DR D n f l) (hn:b=l.length:=by first | rfl | simp [*]) (m:h[id]? =some (al.row g sz a e f):=by rfl) (q:id∉k:=by first | decide | simp):Fz h η k (.own id g 0 b) (sl sz c l):=by
 subst hn;have at_:∀i,i<l.length->Ak (f i) (row c l i):=λi hi=>by rw[dI hi];exact d.od (c:=c) i hi
 refine .frz id g sz a 0 l.length e f (row c l) q m (λi hi=>by rw[ahx];exact(at_ i hi).len) (λi j pv' hi h2=>?_) (λi j pv pv' hi h1 h2 r=>?_)
 ·have hj:j<(f i).length:=by rw[<-(at_ i hi).len];exact(Is.1 h2).1
  exact((at_ i hi).get (abF hj) h2).OT
 ·rw[ahx]at h1;cases(at_ i hi).get h1 h2 with
  | p h=>exact CW h
  | o h=>exact absurd h r
theorem odd [hc:Jv D c] {id g sz b a:Nat} {e:TypeId} (d:DR D n f l) (hn:a=b:=by first | rfl | simp [*]) (hle:a=n:=by first | rfl | simp [*]) (j:h[id]? =some (al.row g sz b e f):=by rfl):vQ h η k m (.row g sz a e f) id id:=by
 subst hn hle;unfold vQ;rw[j];exact⟨λ_=>⟨rfl,rfl⟩,rfl,.inl rfl,rfl,λi hi=>NR (d.po (c:=c) i hi)⟩
theorem nwd [hc:Jv D c] {i id g j sz b a:Nat} {e:TypeId} (d:DR D n f l) (hn:a=b:=by first | rfl | simp [*]) (hle:a=n:=by first | rfl | simp [*]) (hi:Nat.ble m i=true:=by rfl) (o:h[id]? =some (al.row g sz b e f):=by rfl):vQ h η k m (.row j sz a e f) i id:=by
 subst hn hle;unfold vQ;rw[o];exact⟨λh0=>absurd h0 (ajL.2 (ahW hi)),rfl,.inl rfl,rfl,λi hi=>NR (d.po (c:=c) i hi)⟩
theorem Fz.od {id a g b sz i j c n2 d:Nat} {e l:TypeId} {f m:Nat->List PV} (h1:c=n2:=by first | rfl | simp [*]) (h2:n2=d:=by first | rfl | simp [*]) (n:k[a]? =some id:=by rfl) (o:h[id]? =some (al.row g sz j e f):=by rfl) (hη:η[a]? =some (al.row b i d l m):=by rfl):Fz h η k (.own id g 0 c) (.own a b 0 n2):=by
 subst h1 h2;exact .own _ _ _ _ _ _ _ _ _ _ _ _ _ _ n o hη (ajR (ahx _))
theorem Xj (id:Nat) {g sz n:Nat} {e:TypeId} {f:Nat->List PV} {i d b:Nat} {l:TypeId} {m:Nat->List PV} {F:Nat->Prop} (j:Nat) (cs a:List PV) (c:Nat->List PV) (hi:i<n) (hc:f i=cs) (h1:c i=a) (o:∀k,k≠i->c k=f k)
  (hj:cs[j]? =some (.bu d b l m F):=by rfl) (hs:a=cs.set j (.own h.length 0 0 b):=by rfl) (p:h[id]? =some (.row g sz n e f):=by rfl) {h2:List al} (h3:h2=h.set id (.row g sz n e c)++[.row 0 d b l m]:=by rfl):K6 h h2:=
 ⟨id,g,sz,n,e,f,i,j,d,b,l,m,F,c,p,hi,by rw[hc];exact hj,by rw[h1,hc,hs],λk _ q=>o k q,h3⟩
theorem aer {id sub g sz n:Nat} {e:TypeId} {f:Nat->List PV} {g2 oZ n2:Nat} {e2:TypeId} {f2:Nat->List PV} {i:Nat} {j:Nat} {F:Nat->Prop} (cs a:List PV) (b:Nat->List PV) (hi:i<n) (hc:f i=cs) (h1:b i=a) (d:∀k,k≠i->b k=f k)
  (hp:∀k,k<n2->∀x,x∈f2 k->bx x=true\/dj x=true) (hj:cs[j]? =some (.own sub g2 0 n2):=by rfl) (hs:a=cs.set j (.bu oZ n2 e2 f2 F):=by rfl) (l:h[id]? =some (.row g sz n e f):=by rfl) (c:h[sub]? =some (.row g2 oZ n2 e2 f2):=by rfl) (m:id≠sub:=by decide)
  {h2:List al} (h3:h2=(h.set id (.row g sz n e b)).set sub .dead:=by rfl):Ht h id i j sub F h2:=
 ⟨g,sz,n,e,f,g2,oZ,n2,e2,f2,b,l,c,m,hi,by rw[hc];exact hj,hp,by rw[h1,hc,hs],λk _ o=>d k o,h3⟩
theorem nU {c:α->List PV} [hp:sf c] {l:List α} {n:Nat}:∀k,k<n->∀x,x∈row c l k->bx x=true\/dj x=true:=λk _ x a=>.inl (ahC.1 (jD hp.pure k) x a)
theorem pd {f:Nat->List PV} {i off n:Nat} {a b cs:List PV} (hc:ng (eF a off b) cs):∀j,j<n->ng (bP f i (eF a off b) j) (bP f i cs j):=λj _=>by
 by_cases h:j=i
 ·subst h;rw[bh,bh];exact hc
 ·rw[lT h,lT h];exact ng.refl _
theorem dR {f:Nat->List PV} {i off n:Nat} {a c b cs:List PV} (hc:ng (eF a off b) cs):∀j,j<n->ng (bP (bP f i c) i (eF a off b) j) (bP f i cs j):=λj _=>by
 by_cases h:j=i
 ·subst h;rw[bh,bh];exact hc
 ·rw[lT h,lT h,lT h];exact ng.refl _
theorem qI {f:Nat->List PV} {i:Nat} {cs a:List PV}:∀k,k≠i->bP f i cs k=bP f i a k:=λk h=>by rw[lT h,lT h]
theorem zJ {f:Nat->List PV} {n N:Nat} {cs a:List PV} (b:N=n+1) (hc:ng cs a):∀i,i<N->ng (bif Nat.blt i n then f (0+i)else cs) (bP f n a i):=λi hi=>by
 subst b;by_cases h:i<n
 ·rw[IJ h,lT alV,ahx];exact ng.refl _
 ·obtain rfl:i=n:=by omega
  rw[NM alV,bh];exact hc
theorem HF {a:Nat} {n:Nat} {z cs:List PV} (hn:a=n) (hc:ng z cs):∀i,i<a->ng z ((λi=>bif Nat.blt i n then cs else[]) i):=λi hi=>by
 subst hn;show ng z (bif Nat.blt i a then cs else[]);rw[IJ hi];exact hc
end
section
variable {P:Program}{f:FuncId}{args:List PV}{h:List al}{K R:PV->List al->Prop}
theorem abU {hc:List al} {a:List PV} (hA:ACall P f args hc R) (is:List Nat) (b:Xc h (eo is h.length) hc is)
  (k:∀r0 h0,R r0 h0->∃r1 h1,Ca (eo is h.length) r0=r1/\vI h is h0=h1/\K r1 h1)
  (c:a=args.map (zh (eo is h.length)):=by rfl) (hl:hc.length=is.length:=by rfl) (hd:is.Nodup:=by decide) (d:is.all (λid=>Nat.blt id h.length)=true:=by rfl):vV P f a h K:=
 ⟨_,hA.Q9 is h b hl hd d c,by
  rintro _ _ ⟨r0,h0,e,rfl,rfl⟩;obtain⟨r1,h1,rfl,rfl,g⟩:=k r0 h0 e;exact g⟩
theorem xP (hA:ACall P f args [] R) (k:∀r0 h0,R r0 h0->∃r1 h1,pA h.length r0=r1/\h++h0.map (eE h.length)=h1/\K r1 h1) (hp:args.all GX=true:=by rfl):vV P f args h K:=
 ⟨_,hA.frame h hp,by
  rintro _ _ ⟨r0,h0,a,rfl,rfl⟩;obtain⟨r1,h1,rfl,rfl,b⟩:=k r0 h0 a;exact b⟩
theorem abT {a:List PV} (hA:ACall P f a [] R) (b:vn h [] [] args a) (c:∀r0 h0,R r0 h0->El r0=true/\∀o∈h0,Ag o) (k:∀r0 h0,R r0 h0->∃r1 h1,pA h.length r0=r1/\h++h0.map (eE h.length)=h1/\K r1 h1) (hn:a.all lF=true:=by rfl):vV P f args h K:=
 ⟨_,hA.adp h b hn c,by
  rintro _ _ ⟨r0,h0,d,rfl,rfl⟩;obtain⟨r1,h1,rfl,rfl,e⟩:=k r0 h0 d;exact e⟩
end
def nH (cs:List PV):Prop:=∀c∈cs,(dj c=false->qF c=true)/\(dj c=true->OG (λpv=>qF pv=true) c)
class TL {α:Type} (c:α->List PV):Prop where
 fl:∀x,(c x).all qF=true
class Dfl {α:Type} (D:List PV->α->Prop):Prop where
 fl:∀cs x,D cs x->nH cs
instance:TL cI:=⟨λ_=>rfl⟩
instance (k:IntKind):TL (aaW k):=⟨λ_=>rfl⟩
instance:TL cB:=⟨λ_=>rfl⟩
instance:TL cT:=⟨λ_=>rfl⟩
instance:TL cS:=⟨λ_=>rfl⟩
theorem K7 {a:PV} (h:qF a=true):dj a=false:=by cases a<;>first | rfl | cases h
theorem Qf:nH []:=λc hc=>absurd hc ajT
theorem tI {a:PV} {l:List PV} (t:nH l) (h:qF a=true:=by rfl):nH (a::l):=λc hc=>by
 rcases ahM.1 hc with rfl | hc
 ·exact⟨λ_=>h,λq=>by rw[K7 h]at q;cases q⟩
 ·exact t c hc
theorem TM {l:List PV} (h:l.all qF=true):nH l:=λc hc=>⟨λ_=>ahC.1 h c hc,λq=>by rw[K7 (ahC.1 h c hc)]at q;cases q⟩
theorem adx {sz n:Nat} {e:TypeId} {f:Nat->List PV} {F:Nat->Prop} (h:∀i,i<n->nH (f i)):OG (λpv=>qF pv=true) (.bu sz n e f F):=
 .mk sz n e f F (λi j pv hi hj hn=>(h i hi pv (ahJ hj)).1 hn) (λi j _ _ _ _ _ hi hj=>(h i hi _ (ahJ hj)).2 rfl)
theorem IK {sz n:Nat} {e:TypeId} {f:Nat->List PV} {F:Nat->Prop} {l:List PV} (h:∀i,i<n->nH (f i)) (t:nH l):nH (.bu sz n e f F::l):=λc hc=>by
 rcases ahM.1 hc with rfl | hc
 ·exact⟨λq=>(by cases q),λ_=>adx h⟩
 ·exact t c hc
theorem En {α:Type} {c:α->List PV} [h:TL c] {l:List α} {n:Nat}:∀i,i<n->nH (row c l i):=λi _=>by
 by_cases hi:i<l.length
 ·rw[dI hi];exact TM (h.fl _)
 ·rw[show row c l i=[] by unfold row;simp [ahA,ahO (show(l.map c).length<=i by simpa using hi)]];exact Qf
instance {α:Type} (c:α->List PV) [h:TL c]:Dfl (AJ c):=⟨λcs x q=>by
 have q:cs=c x:=q;subst q;exact TM (h.fl x)⟩
theorem DR.flp {α:Type} {D:List PV->α->Prop} [hf:Dfl D] {n:Nat} {f:Nat->List PV} {l:List α} (d:DR D n f l) {g sz:Nat} {e:TypeId}:Ag (.row g sz n e f):=λi hi=>hf.fl _ _ (d.at_ i (by rw[d.len];exact hi))
theorem YZ:∀o∈([]:List al),Ag o:=λ_ h=>absurd h ajT
theorem Ou {a:al} {l:List al} (h1:Ag a) (h2:∀o∈l,Ag o):∀o∈a::l,Ag o:=λo h=>by
 rcases ahM.1 h with rfl | h
 ·exact h1
 ·exact h2 o h
theorem zI {cs:List PV}:∀i,i<1->ng ([cs].getD i []) ((λ_=>cs) i):=λi hi=>by
 obtain rfl:i=0:=by omega
 exact ng.refl _
theorem K8:∀{l:List PV},l.all bx=true->noO l=true
 | [],_=>rfl
 | a::l,h=>by
  simp only[aiA,No]at h;have:=K8 h.2;cases a<;>first | exact this | (have h1:=h.1;cases h1)
theorem pj {α:Type} {c:α->List PV} [hp:sf c] {f:Nat->List PV} {off:Nat} {l:List α} (hs:ym c f off l):∀i,i<l.length->noO (f (off+i))=true:=λi hi=>by
 rw[hs i hi];exact K8 (jD hp.pure i)
section
variable {α:Type}{D:List PV->α->Prop}{n:Nat}{f:Nat->List PV}{l q:List α}{x:α}{b:Nat}
theorem K9 (h:iD b l [x]=some q):l++[x]=q:=(b8 h).2
theorem DR.VT (d:DR D n f l) (h:iD b l [x]=some q) {cs:List PV} (a:D cs x):DR D q.length (bP f n cs) q:=by
 have h1:=K9 h;subst h1;exact(d.app a).self
theorem DR.ln (d:DR D n f l) (h:iD b l [x]=some q):q.length=n+1:=by
 have h1:=K9 h;subst h1;simp [d.len]
theorem DR.lq (d:DR D n f l) (h:iD b l [x]=some q):n<q.length:=by rw[d.ln h];exact ajS n
theorem DR.lbd (d:DR D n f l) (h:iD b l [x]=some q):(n+1)*b<=140737488355328:=by
 have h1:=cP h;rw[d.len]at h1;exact h1
theorem zo [Inhabited α] {b:Nat} {i j:Int} (h:mf b i j=some l) {cs:List PV} (a:D cs default):DR D l.length (λi=>bif Nat.blt i l.length then cs else[]) l:=by
 have h1:=(b8 h).2;subst h1;have:=DR.rep a i.toNat
 simpa using this
theorem DR.afs:DR D 0 (VV []) []:=⟨rfl,λi h=>absurd h (ahP _),λ_ _=>rfl⟩
end
theorem ur {α:Type} {c:α->List PV} [hp:sf c] {l:List α} {n:Nat} (hl:l.length=n) (sz:Nat) (e:TypeId) (F:Nat->Prop):CE (.bu sz n e (row c l) F) (sl sz c l):=
 xb (λi hi=>by rw[dI hi];exact Ak.pure (hp.pure _)) hl sz e F
end Go.Am
namespace Go.Am
open Go Go.RowKit Go.Proofs
structure TParam where
 ay:aW
 Ml:Bool
 deriving DecidableEq,Inhabited
abbrev TParam.lit (x:TParam):List PV:=[.str x.ay,.bool x.Ml]
def TParam.cells (x:TParam):List PV:=x.lit
theorem TParam.aj (x:TParam):x.cells=x.lit:=rfl
theorem TParam.cm (x:TParam):x.cells.all bx=true:=rfl
instance:sf TParam.cells:=⟨TParam.cm⟩
structure ak where
 aN:Int
 fA:Int
 fB:Int
 fS:aW
 fT:aW
 deriving DecidableEq,Inhabited
abbrev ak.lit (x:ak):List PV:=[.int .i64 x.aN,.int .i64 x.fA,.int .i64 x.fB,.str x.fS,.str x.fT]
def ak.cells (x:ak):List PV:=x.lit
theorem ak.aj (x:ak):x.cells=x.lit:=rfl
theorem ak.cm (x:ak):x.cells.all bx=true:=rfl
instance:sf ak.cells:=⟨ak.cm⟩
structure ar where
 ay:aW
 ao:List TParam
 aI:List TParam
 au:List aW
 bG:Bool
 ah:List ak
 deriving DecidableEq,Inhabited
abbrev ar.lit (x:ar):List PV:=[.str x.ay,sl 2 TParam.cells x.ao,sl 2 TParam.cells x.aI,sl 1 cS x.au,.bool x.bG,sl 5 ak.cells x.ah]
def ar.cells (x:ar):List PV:=x.lit
theorem ar.aj (x:ar):x.cells=x.lit:=rfl
theorem ar.cm (x:ar):x.cells.all bx=true:=rfl
instance:sf ar.cells:=⟨ar.cm⟩
structure bW where
 dJ:Bool
 bc:Int
 bq:aW
 deriving DecidableEq,Inhabited
abbrev bW.lit (x:bW):List PV:=[.bool x.dJ,.int .i64 x.bc,.str x.bq]
def bW.cells (x:bW):List PV:=x.lit
theorem bW.aj (x:bW):x.cells=x.lit:=rfl
theorem bW.cm (x:bW):x.cells.all bx=true:=rfl
instance:sf bW.cells:=⟨bW.cm⟩
mutual
inductive ae where
 | mk (aJ:Int) (bc:Int) (bq:aW) (bC:Int) (aw:List af)
inductive af where
 | mk (ba:bW) (a8:ae)
end
def ae.aJ:ae->Int | .mk x _ _ _ _=>x
def ae.bc:ae->Int | .mk _ x _ _ _=>x
def ae.bq:ae->aW | .mk _ _ x _ _=>x
def ae.bC:ae->Int | .mk _ _ _ x _=>x
def ae.aw:ae->List af | .mk _ _ _ _ x=>x
@[simp] theorem ae.rB (a:Int) (b:Int) (c:aW) (d:Int) (e:List af):(ae.mk a b c d e).aJ=a:=rfl
@[simp] theorem ae.xt (b:Int) (a:Int) (c:aW) (d:Int) (e:List af):(ae.mk b a c d e).bc=a:=rfl
@[simp] theorem ae.zG (b:Int) (c:Int) (a:aW) (d:Int) (e:List af):(ae.mk b c a d e).bq=a:=rfl
@[simp] theorem ae.rA (b:Int) (c:Int) (d:aW) (a:Int) (e:List af):(ae.mk b c d a e).bC=a:=rfl
@[simp] theorem ae.iY (b:Int) (c:Int) (d:aW) (e:Int) (a:List af):(ae.mk b c d e a).aw=a:=rfl
def af.ba:af->bW | .mk x _=>x
def af.a8:af->ae | .mk _ x=>x
@[simp] theorem af.VA (a:bW) (b:ae):(af.mk a b).ba=a:=rfl
@[simp] theorem af.VB (b:bW) (a:ae):(af.mk b a).a8=a:=rfl
instance:Inhabited ae:=⟨.mk 0 0 [] 0 []⟩
instance:Inhabited af:=⟨.mk default default⟩
mutual
def ae.cells:ae->List PV | .mk b c d e a=>[.int .i64 b]++[.int .i64 c]++[.str d]++[.int .i64 e]++[.fF 8 a.length (λi=>(af.u7 a).getD i [])]
def af.cells:af->List PV | .mk a b=>a.lit++b.cells
def af.u7:List af->List (List PV) | []=>[] | x::r=>x.cells::af.u7 r
end
theorem af.rU:∀(l:List af),af.u7 l=l.map af.cells
 | []=>rfl
 | a::r=>by unfold af.u7;rw[af.rU r];rfl
abbrev ae.lit (x:ae):List PV:=[.int .i64 x.aJ,.int .i64 x.bc,.str x.bq,.int .i64 x.bC,sl 8 af.cells x.aw]
abbrev af.lit (x:af):List PV:=[.bool x.ba.dJ,.int .i64 x.ba.bc,.str x.ba.bq,.int .i64 x.a8.aJ,.int .i64 x.a8.bc,.str x.a8.bq,.int .i64 x.a8.bC,sl 8 af.cells x.a8.aw]
theorem ae.aj (x:ae):x.cells=x.lit:=by
 cases x with
 | mk a b c d e=>
  unfold ae.cells;rw[af.rU];rfl
theorem ae.cm (x:ae):x.cells.all bx=true:=by rw[ae.aj];rfl
instance:sf ae.cells:=⟨ae.cm⟩
theorem af.aj (x:af):x.cells=x.lit:=by
 cases x with
 | mk a b=>
  unfold af.cells;rw[ae.aj];rfl
theorem af.cm (x:af):x.cells.all bx=true:=by rw[af.aj];rfl
instance:sf af.cells:=⟨af.cm⟩
structure aC where
 ay:aW
 bL:aW
 bI:Bool
 aQ:ae
 deriving Inhabited
abbrev aC.lit (x:aC):List PV:=[.str x.ay,.str x.bL,.bool x.bI,.int .i64 x.aQ.aJ,.int .i64 x.aQ.bc,.str x.aQ.bq,.int .i64 x.aQ.bC,sl 8 af.cells x.aQ.aw]
def aC.cells (x:aC):List PV:=x.lit
theorem aC.aj (x:aC):x.cells=x.lit:=rfl
theorem aC.cm (x:aC):x.cells.all bx=true:=rfl
instance:sf aC.cells:=⟨aC.cm⟩
structure aD where
 ay:aW
 bL:aW
 me:aW
 bI:Bool
 pK:Bool
 deriving DecidableEq,Inhabited
abbrev aD.lit (x:aD):List PV:=[.str x.ay,.str x.bL,.str x.me,.bool x.bI,.bool x.pK]
def aD.cells (x:aD):List PV:=x.lit
theorem aD.aj (x:aD):x.cells=x.lit:=rfl
theorem aD.cm (x:aD):x.cells.all bx=true:=rfl
instance:sf aD.cells:=⟨aD.cm⟩
structure aq where
 ay:aW
 cE:aW
 aM:List aC
 aP:List aD
 deriving Inhabited
abbrev aq.lit (x:aq):List PV:=[.str x.ay,.str x.cE,sl 8 aC.cells x.aM,sl 5 aD.cells x.aP]
def aq.cells (x:aq):List PV:=x.lit
theorem aq.aj (x:aq):x.cells=x.lit:=rfl
theorem aq.cm (x:aq):x.cells.all bx=true:=rfl
instance:sf aq.cells:=⟨aq.cm⟩
structure aE where
 aK:List ar
 aH:List aq
 deriving Inhabited
abbrev aE.lit (x:aE):List PV:=[sl 6 ar.cells x.aK,sl 4 aq.cells x.aH]
def aE.cells (x:aE):List PV:=x.lit
theorem aE.aj (x:aE):x.cells=x.lit:=rfl
theorem aE.cm (x:aE):x.cells.all bx=true:=rfl
instance:sf aE.cells:=⟨aE.cm⟩
mutual
inductive bA where
 | mk (aJ:Int) (bc:Int) (dJ:aW) (yn:List bA)
end
def bA.aJ:bA->Int | .mk x _ _ _=>x
def bA.bc:bA->Int | .mk _ x _ _=>x
def bA.dJ:bA->aW | .mk _ _ x _=>x
def bA.yn:bA->List bA | .mk _ _ _ x=>x
@[simp] theorem bA.rB (a:Int) (b:Int) (c:aW) (d:List bA):(bA.mk a b c d).aJ=a:=rfl
@[simp] theorem bA.xt (b:Int) (a:Int) (c:aW) (d:List bA):(bA.mk b a c d).bc=a:=rfl
@[simp] theorem bA.ady (b:Int) (c:Int) (a:aW) (d:List bA):(bA.mk b c a d).dJ=a:=rfl
@[simp] theorem bA.adz (b:Int) (c:Int) (d:aW) (a:List bA):(bA.mk b c d a).yn=a:=rfl
instance:Inhabited bA:=⟨.mk 0 0 [] []⟩
mutual
def bA.cells:bA->List PV | .mk b c d a=>[.int .i64 b]++[.int .i64 c]++[.str d]++[.fF 4 a.length (λi=>(bA.u7 a).getD i [])]
def bA.u7:List bA->List (List PV) | []=>[] | x::r=>x.cells::bA.u7 r
end
theorem bA.rU:∀(l:List bA),bA.u7 l=l.map bA.cells
 | []=>rfl
 | a::r=>by unfold bA.u7;rw[bA.rU r];rfl
abbrev bA.lit (x:bA):List PV:=[.int .i64 x.aJ,.int .i64 x.bc,.str x.dJ,sl 4 bA.cells x.yn]
theorem bA.aj (x:bA):x.cells=x.lit:=by
 cases x with
 | mk a b c d=>
  unfold bA.cells;rw[bA.rU];rfl
theorem bA.cm (x:bA):x.cells.all bx=true:=by rw[bA.aj];rfl
instance:sf bA.cells:=⟨bA.cm⟩
instance:TL TParam.cells:=⟨λ_=>rfl⟩
instance:TL ak.cells:=⟨λ_=>rfl⟩
instance:TL aD.cells:=⟨λ_=>rfl⟩
instance:TL bW.cells:=⟨λ_=>rfl⟩
inductive ar.D:List PV->ar->Prop
 | mk (x:ar) (n0:Nat) (F0:Nat->Prop) (tH:x.ao.length=n0) (n1:Nat) (F1:Nat->Prop) (Fe:x.aI.length=n1) (n2:Nat) (F2:Nat->Prop) (Em:x.au.length=n2) (n3:Nat) (F3:Nat->Prop) (hl3:x.ah.length=n3):ar.D [.str x.ay,.bu 2 n0 119 (row TParam.cells x.ao) F0,.bu 2 n1 119 (row TParam.cells x.aI) F1,.bu 1 n2 9 (row cS x.au) F2,.bool x.bG,.bu 5 n3 102 (row ak.cells x.ah) F3] x
theorem ar.tw {x:ar} {a:Nat} {F0:Nat->Prop} {b:Nat} {F1:Nat->Prop} {n2:Nat} {F2:Nat->Prop} {c:Nat} {F3:Nat->Prop} (d:x.ao.length=a) (e:x.aI.length=b) (f:x.au.length=n2) (g:x.ah.length=c):ar.D [.str x.ay,.bu 2 a 119 (row TParam.cells x.ao) F0,.bu 2 b 119 (row TParam.cells x.aI) F1,.bu 1 n2 9 (row cS x.au) F2,.bool x.bG,.bu 5 c 102 (row ak.cells x.ah) F3] x:=.mk x _ _ d _ _ e _ _ f _ _ g
theorem ar.tV {cs:List PV} {x:ar} (h:ar.D cs x):∃(F0:Nat->Prop),∃(F1:Nat->Prop),∃(F2:Nat->Prop),∃(F3:Nat->Prop),cs=[.str x.ay,.bu 2 x.ao.length 119 (row TParam.cells x.ao) F0,.bu 2 x.aI.length 119 (row TParam.cells x.aI) F1,.bu 1 x.au.length 9 (row cS x.au) F2,.bool x.bG,.bu 5 x.ah.length 102 (row ak.cells x.ah) F3]:=by
 cases h with
 | mk _ e F0 b f F1 c n2 F2 d g F3 a=>subst b;subst c;subst d;subst a;exact⟨F0,F1,F2,F3,rfl⟩
theorem ar.xc:∀cs x,ar.D cs x->Ak cs x.cells:=λcs x h=>ar.D.rec (motive:=λcs x _=>Ak cs x.cells) (λx e F0 b f F1 c n2 F2 d g F3 a=>by rw[ar.aj];exact⟨.p rfl,.o (ur b 2 119 F0),.o (ur c 2 119 F1),.o (ur d 1 9 F2),.p rfl,.o (ur a 5 102 F3),trivial⟩) h
instance:Jv ar.D ar.cells:=⟨ar.xc⟩
theorem ar.rV:∀cs x,ar.D cs x->nH cs:=λcs x h=>ar.D.rec (motive:=λcs x _=>nH cs) (λx b F0 c d F1 e n2 F2 f g F3 a=>(tI (IK En (IK En (IK En (tI (IK En Qf))))))) h
instance:Dfl ar.D:=⟨ar.rV⟩
inductive af.D:List PV->af->Prop
 | mk (x:af) (n0:Nat) (F0:Nat->Prop) (tH:x.a8.aw.length=n0) (f0:Nat->List PV) (h0:∀i (hi:i<x.a8.aw.length),af.D (f0 i) x.a8.aw[i]) (IL:∀i,n0<=i->f0 i=[]):af.D [.bool x.ba.dJ,.int .i64 x.ba.bc,.str x.ba.bq,.int .i64 x.a8.aJ,.int .i64 x.a8.bc,.str x.a8.bq,.int .i64 x.a8.bC,.bu 8 n0 124 f0 F0] x
theorem af.tw {x:af} {b:Nat} {F0:Nat->Prop} {c:Nat->List PV} (a:DR af.D b c x.a8.aw):af.D [.bool x.ba.dJ,.int .i64 x.ba.bc,.str x.ba.bq,.int .i64 x.a8.aJ,.int .i64 x.a8.bc,.str x.a8.bq,.int .i64 x.a8.bC,.bu 8 b 124 c F0] x:=.mk x _ _ a.len _ a.at_ a.z
theorem af.tV {cs:List PV} {x:af} (h:af.D cs x):∃(F0:Nat->Prop),∃a:Nat->List PV,cs=[.bool x.ba.dJ,.int .i64 x.ba.bc,.str x.ba.bq,.int .i64 x.a8.aJ,.int .i64 x.a8.bc,.str x.a8.bq,.int .i64 x.a8.bC,.bu 8 x.a8.aw.length 124 a F0]/\DR af.D x.a8.aw.length a x.a8.aw:=by
 cases h with
 | mk _ d F0 b a h0 c=>subst b;exact⟨F0,a,rfl,⟨rfl,h0,c⟩⟩
theorem af.xc:∀cs x,af.D cs x->Ak cs x.cells:=λcs x h=>af.D.rec (motive:=λcs x _=>Ak cs x.cells) (λx c F0 b d h0 e a=>by rw[af.aj];exact⟨.p rfl,.p rfl,.p rfl,.p rfl,.p rfl,.p rfl,.p rfl,.o (xb a b 8 124 F0),trivial⟩) h
instance:Jv af.D af.cells:=⟨af.xc⟩
theorem af.rV:∀cs x,af.D cs x->nH cs:=λcs x h=>af.D.rec (motive:=λcs x _=>nH cs) (λx c F0 b d h0 e a=>(tI (tI (tI (tI (tI (tI (tI (IK (λi hi=>a i (ajs hi b.symm)) Qf))))))))) h
instance:Dfl af.D:=⟨af.rV⟩
inductive aC.D:List PV->aC->Prop
 | mk (x:aC) (n0:Nat) (F0:Nat->Prop) (tH:x.aQ.aw.length=n0) (f0:Nat->List PV) (h0:∀i (hi:i<x.aQ.aw.length),af.D (f0 i) x.aQ.aw[i]) (IL:∀i,n0<=i->f0 i=[]):aC.D [.str x.ay,.str x.bL,.bool x.bI,.int .i64 x.aQ.aJ,.int .i64 x.aQ.bc,.str x.aQ.bq,.int .i64 x.aQ.bC,.bu 8 n0 124 f0 F0] x
theorem aC.tw {x:aC} {b:Nat} {F0:Nat->Prop} {c:Nat->List PV} (a:DR af.D b c x.aQ.aw):aC.D [.str x.ay,.str x.bL,.bool x.bI,.int .i64 x.aQ.aJ,.int .i64 x.aQ.bc,.str x.aQ.bq,.int .i64 x.aQ.bC,.bu 8 b 124 c F0] x:=.mk x _ _ a.len _ a.at_ a.z
theorem aC.tV {cs:List PV} {x:aC} (h:aC.D cs x):∃(F0:Nat->Prop),∃a:Nat->List PV,cs=[.str x.ay,.str x.bL,.bool x.bI,.int .i64 x.aQ.aJ,.int .i64 x.aQ.bc,.str x.aQ.bq,.int .i64 x.aQ.bC,.bu 8 x.aQ.aw.length 124 a F0]/\DR af.D x.aQ.aw.length a x.aQ.aw:=by
 cases h with
 | mk _ d F0 b a h0 c=>subst b;exact⟨F0,a,rfl,⟨rfl,h0,c⟩⟩
theorem aC.xc:∀cs x,aC.D cs x->Ak cs x.cells:=λcs x h=>aC.D.rec (motive:=λcs x _=>Ak cs x.cells) (λx b F0 a c h0 d=>by rw[aC.aj];exact⟨.p rfl,.p rfl,.p rfl,.p rfl,.p rfl,.p rfl,.p rfl,.o (xb (λi hi=>af.xc _ _ (h0 i hi)) a 8 124 F0),trivial⟩) h
instance:Jv aC.D aC.cells:=⟨aC.xc⟩
theorem aC.rV:∀cs x,aC.D cs x->nH cs:=λcs x h=>aC.D.rec (motive:=λcs x _=>nH cs) (λx b F0 a c h0 d=>(tI (tI (tI (tI (tI (tI (tI (IK (λi hi=>af.rV _ _ (h0 i (ajs hi a.symm))) Qf))))))))) h
instance:Dfl aC.D:=⟨aC.rV⟩
inductive aq.D:List PV->aq->Prop
 | mk (x:aq) (n0:Nat) (F0:Nat->Prop) (tH:x.aM.length=n0) (f0:Nat->List PV) (h0:∀i (hi:i<x.aM.length),aC.D (f0 i) x.aM[i]) (IL:∀i,n0<=i->f0 i=[]) (n1:Nat) (F1:Nat->Prop) (Fe:x.aP.length=n1):aq.D [.str x.ay,.str x.cE,.bu 8 n0 70 f0 F0,.bu 5 n1 77 (row aD.cells x.aP) F1] x
theorem aq.tw {x:aq} {b:Nat} {F0:Nat->Prop} {c:Nat->List PV} {d:Nat} {F1:Nat->Prop} (a:DR aC.D b c x.aM) (e:x.aP.length=d):aq.D [.str x.ay,.str x.cE,.bu 8 b 70 c F0,.bu 5 d 77 (row aD.cells x.aP) F1] x:=.mk x _ _ a.len _ a.at_ a.z _ _ e
theorem aq.tV {cs:List PV} {x:aq} (h:aq.D cs x):∃(F0:Nat->Prop),∃a:Nat->List PV,∃(F1:Nat->Prop),cs=[.str x.ay,.str x.cE,.bu 8 x.aM.length 70 a F0,.bu 5 x.aP.length 77 (row aD.cells x.aP) F1]/\DR aC.D x.aM.length a x.aM:=by
 cases h with
 | mk _ e F0 b a h0 c f F1 d=>subst b;subst d;exact⟨F0,a,F1,rfl,⟨rfl,h0,c⟩⟩
theorem aq.xc:∀cs x,aq.D cs x->Ak cs x.cells:=λcs x h=>aq.D.rec (motive:=λcs x _=>Ak cs x.cells) (λx c F0 a d h0 e f F1 b=>by rw[aq.aj];exact⟨.p rfl,.p rfl,.o (xb (λi hi=>aC.xc _ _ (h0 i hi)) a 8 70 F0),.o (ur b 5 77 F1),trivial⟩) h
instance:Jv aq.D aq.cells:=⟨aq.xc⟩
theorem aq.rV:∀cs x,aq.D cs x->nH cs:=λcs x h=>aq.D.rec (motive:=λcs x _=>nH cs) (λx b F0 a c h0 d e F1 f=>(tI (tI (IK (λi hi=>aC.rV _ _ (h0 i (ajs hi a.symm))) (IK En Qf))))) h
instance:Dfl aq.D:=⟨aq.rV⟩
inductive bA.D:List PV->bA->Prop
 | mk (x:bA) (n0:Nat) (F0:Nat->Prop) (tH:x.yn.length=n0) (f0:Nat->List PV) (h0:∀i (hi:i<x.yn.length),bA.D (f0 i) x.yn[i]) (IL:∀i,n0<=i->f0 i=[]):bA.D [.int .i64 x.aJ,.int .i64 x.bc,.str x.dJ,.bu 4 n0 188 f0 F0] x
theorem bA.tw {x:bA} {b:Nat} {F0:Nat->Prop} {c:Nat->List PV} (a:DR bA.D b c x.yn):bA.D [.int .i64 x.aJ,.int .i64 x.bc,.str x.dJ,.bu 4 b 188 c F0] x:=.mk x _ _ a.len _ a.at_ a.z
theorem bA.tV {cs:List PV} {x:bA} (h:bA.D cs x):∃(F0:Nat->Prop),∃a:Nat->List PV,cs=[.int .i64 x.aJ,.int .i64 x.bc,.str x.dJ,.bu 4 x.yn.length 188 a F0]/\DR bA.D x.yn.length a x.yn:=by
 cases h with
 | mk _ d F0 b a h0 c=>subst b;exact⟨F0,a,rfl,⟨rfl,h0,c⟩⟩
theorem bA.xc:∀cs x,bA.D cs x->Ak cs x.cells:=λcs x h=>bA.D.rec (motive:=λcs x _=>Ak cs x.cells) (λx c F0 b d h0 e a=>by rw[bA.aj];exact⟨.p rfl,.p rfl,.p rfl,.o (xb a b 4 188 F0),trivial⟩) h
instance:Jv bA.D bA.cells:=⟨bA.xc⟩
theorem bA.rV:∀cs x,bA.D cs x->nH cs:=λcs x h=>bA.D.rec (motive:=λcs x _=>nH cs) (λx c F0 b d h0 e a=>(tI (tI (tI (IK (λi hi=>a i (ajs hi b.symm)) Qf))))) h
instance:Dfl bA.D:=⟨bA.rV⟩
theorem aD.mI (x y:aD):((x.ay==y.ay)&&((x.bL==y.bL)&&((x.me==y.me)&&((x.bI==y.bI)&&((x.pK==y.pK)&&true)))))=decide (x=y):=by
 rw[aic];simp only[No,aio,ajg,aij];constructor
 ·intro h;cases x;cases y;simp only[aD.mk.injEq];simpa using h
 ·rintro rfl;simp
theorem ak.mI (x y:ak):((x.aN==y.aN)&&((x.fA==y.fA)&&((x.fB==y.fB)&&((x.fS==y.fS)&&((x.fT==y.fT)&&true)))))=decide (x=y):=by
 rw[aic];simp only[No,aio,ajg,aij];constructor
 ·intro h;cases x;cases y;simp only[ak.mk.injEq];simpa using h
 ·rintro rfl;simp
theorem TParam.mI (x y:TParam):((x.ay==y.ay)&&((x.Ml==y.Ml)&&true))=decide (x=y):=by
 rw[aic];simp only[No,aio,ajg,aij];constructor
 ·intro h;cases x;cases y;simp only[TParam.mk.injEq];simpa using h
 ·rintro rfl;simp
theorem bW.mI (x y:bW):((x.dJ==y.dJ)&&((x.bc==y.bc)&&((x.bq==y.bq)&&true)))=decide (x=y):=by
 rw[aic];simp only[No,aio,ajg,aij];constructor
 ·intro h;cases x;cases y;simp only[bW.mk.injEq];simpa using h
 ·rintro rfl;simp
def vM:rO:=yk [(3,.int .i64),
 (4,.bool),
 (5,.int .u8),
 (9,.str),
 (22,.slice 55 6 120 [.str [],.az,.az,.az,.bool false,.az]),
 (23,.slice 60 4 80 [.str [],.str [],.az,.az]),
 (25,.struct 2 [(0,1,false),(1,1,false)] [.az,.az]),
 (27,.slice 43 6 120 [.str [],.az,.az,.az,.bool false,.az]),
 (28,.slice 65 4 80 [.str [],.str [],.az,.az]),
 (30,.struct 2 [(0,1,false),(1,1,false)] [.az,.az]),
 (39,.slice 119 2 24 [.str [],.bool false]),
 (40,.slice 9 1 16 [.str []]),
 (41,.slice 102 5 56 [.int .i64 0,.int .i64 0,.int .i64 0,.str [],.str []]),
 (43,.struct 6 [(0,1,false),(1,1,false),(2,1,false),(3,1,false),(4,1,false),(5,1,false)] [.str [],.az,.az,.az,.bool false,.az]),
 (52,.slice 140 2 24 [.str [],.bool false]),
 (53,.slice 142 5 56 [.int .i64 0,.int .i64 0,.int .i64 0,.str [],.str []]),
 (55,.struct 6 [(0,1,false),(1,1,false),(2,1,false),(3,1,false),(4,1,false),(5,1,false)] [.str [],.az,.az,.az,.bool false,.az]),
 (57,.slice 148 8 104 [.str [],.str [],.bool false,.int .i64 0,.int .i64 0,.str [],.int .i64 0,.az]),
 (58,.slice 150 5 56 [.str [],.str [],.str [],.bool false,.bool false]),
 (60,.struct 4 [(0,1,false),(1,1,false),(2,1,false),(3,1,false)] [.str [],.str [],.az,.az]),
 (62,.slice 70 8 104 [.str [],.str [],.bool false,.int .i64 0,.int .i64 0,.str [],.int .i64 0,.az]),
 (63,.slice 77 5 56 [.str [],.str [],.str [],.bool false,.bool false]),
 (65,.struct 4 [(0,1,false),(1,1,false),(2,1,false),(3,1,false)] [.str [],.str [],.az,.az]),
 (66,.slice 124 8 96 [.bool false,.int .i64 0,.str [],.int .i64 0,.int .i64 0,.str [],.int .i64 0,.az]),
 (68,.struct 5 [(0,1,false),(1,1,false),(2,1,false),(3,1,false),(4,1,false)] [.int .i64 0,.int .i64 0,.str [],.int .i64 0,.az]),
 (70,.struct 8 [(0,1,false),(1,1,false),(2,1,false),(3,5,true)] [.str [],.str [],.bool false,.int .i64 0,.int .i64 0,.str [],.int .i64 0,.az]),
 (77,.struct 5 [(0,1,false),(1,1,false),(2,1,false),(3,1,false),(4,1,false)] [.str [],.str [],.str [],.bool false,.bool false]),
 (78,.slice 3 1 8 [.int .i64 0]),
 (85,.map 9 3 (.int .i64 0)),
 (87,.map 9 4 (.bool false)),
 (102,.struct 5 [(0,1,false),(1,1,false),(2,1,false),(3,1,false),(4,1,false)] [.int .i64 0,.int .i64 0,.int .i64 0,.str [],.str []]),
 (106,.slice 4 1 1 [.bool false]),
 (119,.struct 2 [(0,1,false),(1,1,false)] [.str [],.bool false]),
 (122,.struct 3 [(0,1,false),(1,1,false),(2,1,false)] [.bool false,.int .i64 0,.str []]),
 (124,.struct 8 [(0,3,true),(3,5,true)] [.bool false,.int .i64 0,.str [],.int .i64 0,.int .i64 0,.str [],.int .i64 0,.az]),
 (129,.map 3 4 (.bool false)),
 (137,.slice 5 1 1 [.int .u8 0]),
 (140,.struct 2 [(0,1,false),(1,1,false)] [.str [],.bool false]),
 (142,.struct 5 [(0,1,false),(1,1,false),(2,1,false),(3,1,false),(4,1,false)] [.int .i64 0,.int .i64 0,.int .i64 0,.str [],.str []]),
 (144,.slice 217 8 96 [.bool false,.int .i64 0,.str [],.int .i64 0,.int .i64 0,.str [],.int .i64 0,.az]),
 (146,.struct 5 [(0,1,false),(1,1,false),(2,1,false),(3,1,false),(4,1,false)] [.int .i64 0,.int .i64 0,.str [],.int .i64 0,.az]),
 (148,.struct 8 [(0,1,false),(1,1,false),(2,1,false),(3,5,true)] [.str [],.str [],.bool false,.int .i64 0,.int .i64 0,.str [],.int .i64 0,.az]),
 (150,.struct 5 [(0,1,false),(1,1,false),(2,1,false),(3,1,false),(4,1,false)] [.str [],.str [],.str [],.bool false,.bool false]),
 (174,.map 122 4 (.bool false)),
 (188,.struct 4 [(0,1,false),(1,1,false),(2,1,false),(3,1,false)] [.int .i64 0,.int .i64 0,.str [],.az]),
 (210,.int .u64),
 (215,.struct 3 [(0,1,false),(1,1,false),(2,1,false)] [.bool false,.int .i64 0,.str []]),
 (217,.struct 8 [(0,3,true),(3,5,true)] [.bool false,.int .i64 0,.str [],.int .i64 0,.int .i64 0,.str [],.int .i64 0,.az])]
theorem Wx:da Tryz.prog vM:=adn alZ
theorem mixed:Tryz.prog.follows .mixedOrders=true:=by kernel_rfl
theorem bE {f:FuncId} {fn:Func} {c:Code} {args:List PV} {h:List al} {R:PV->List al->Prop} (hf:Tryz.prog.funcs[f]? =some fn) (hv:vc Tryz.prog vM h.length c (adA vM fn.results.toList h.length R) (xd args) h) (a:fn.body=some c:=by rfl) (b:(fn.name== "runtime.NumGoroutine")=false:=by kernel_rfl) (hn:Nat.ble args.length fn.ntmps=true:=by rfl) (d:codeOk fn.ntmps c=true:=by kernel_rfl):ACall Tryz.prog f args h R:=ACall.adB Wx mixed hf a b _ _ _ hn d hv
theorem ACall.ext {P:Program} {f:FuncId} {args:List PV} {r:PV} (d:adC P f)
  (H:∀(w:World) (vs:Array Value) (S:Nat->Prop),QG S w->(∀b,S b->b<w.heap.size)->vs.size=args.length->(∀(j:Nat) (pv:PV),args[j]? =some pv->∃v,vs[j]? =some v/\aR S w pv v)->
   Calls P f vs w (λe w'=>∃v,e=.returned v/\(∀μ h S w,bz μ h S w r v)/\Below w.heap.size w w'))
  (hp:args.all Ao=true) (h:List al):ACall P f args h (λres h'=>res=r/\h'=h):=by
 refine⟨d,λw vs μ S hH hM g ha=>(H w vs S hM.known hM.slt g (λj pv hj=>?_)).mono ?_⟩
 ·obtain⟨v,h1,h2⟩:=ha j pv hj;have h3:=ahC.1 hp pv (ahJ hj);cases pv<;>first | exact⟨v,h1,h2⟩ | (simp [Ao]at h3)
 ·rintro e w' ⟨v,rfl,hv,a⟩;have c:cc w w':=⟨a.block,a.size,a.os,a.tape,a.output⟩;exact⟨v,r,h,μ,S,rfl,⟨rfl,rfl⟩,hv _ _ _ _,hH.agree c hM,hM.agree c,Fr.Ap c⟩
theorem SI {vs:Array Value} {a:Value} (hs:vs.size=1) (h0:vs[0]? =some a):vs=#[a]:=by
 obtain⟨l⟩:=vs;rcases l with _ | ⟨b,_ | ⟨c,l⟩⟩<;>simp at hs;simp at h0;subst h0;rfl
theorem XI {vs:Array Value} {a b:Value} (hs:vs.size=2) (h0:vs[0]? =some a) (h1:vs[1]? =some b):vs=#[a,b]:=by
 obtain⟨l⟩:=vs;rcases l with _ | ⟨x,_ | ⟨y,_ | ⟨z,l⟩⟩⟩<;>simp at hs;simp at h0 h1;subst h0;subst h1;rfl
theorem adD {vs:Array Value} {a b c:Value} (hs:vs.size=3) (h0:vs[0]? =some a) (h1:vs[1]? =some b) (h2:vs[2]? =some c):vs=#[a,b,c]:=by
 obtain⟨l⟩:=vs;rcases l with _ | ⟨x,_ | ⟨y,_ | ⟨z,_ | ⟨u,l⟩⟩⟩⟩<;>simp at hs;simp at h0 h1 h2;subst h0;subst h1;subst h2;rfl
theorem NS {P:Program} {w:World} {n:String} {g:Nat} {cs:Array Value} {t:TypeId} {z:Nat×Nat} (hg:P.globalNamed n=some g) (h:w.heap[g]? =some (.cells cs t z)):w.var? P n=some cs:=by
 unfold World.var?;rw[hg];simp [h]
theorem aaY:Tryz.prog.globalNamed "internal/strconv.uint64pow10" =some 3:=by kernel_rfl
theorem aaZ:Tryz.prog.globalNamed "strconv.ErrSyntax" =some 1:=by kernel_rfl
theorem aa0:Tryz.prog.globalNamed "strconv.ErrRange" =some 2:=by kernel_rfl
theorem TN:Lib.pow10Tab=La:=by decide
theorem OU {S:Nat->Prop} {w:World} (h:QG S w):Lib.TabIs Tryz.prog w "internal/strconv.uint64pow10" .u64 Lib.pow10Tab:=by
 obtain⟨_,t,z,hh⟩:=h.1 (3,_) (by simp [IM];rfl);unfold Lib.TabIs;rw[NS aaY hh,TN]
theorem Wy {S:Nat->Prop} {w:World} (h:QG S w):∃b p,w.var? Tryz.prog "strconv.ErrSyntax" =some #[.iface b p]:=by
 obtain⟨_,b,p,t,z,hh⟩:=h.2.1 1 (by simp [Aq]);exact⟨b,p,NS aaZ hh⟩
theorem Wz {S:Nat->Prop} {w:World} (h:QG S w):∃b p,w.var? Tryz.prog "strconv.ErrRange" =some #[.iface b p]:=by
 obtain⟨_,b,p,t,z,hh⟩:=h.2.1 2 (by simp [Aq]);exact⟨b,p,NS aa0 hh⟩
theorem Eo (w:World) (k:Nat) (os:Array Obj):Below w.heap.size w (Sort.grow (w.drewN k) os):=by
 refine⟨rfl,rfl,rfl,?_,λi hi=>?_⟩
 ·show w.heap.size<=(w.heap++os).size;simp
 ·show(w.heap++os)[i]? =w.heap[i]?;rw[ail hi]
theorem WA (n:Int) (h0: -9223372036854775808<=n) (h1:n<=9223372036854775807) (h:List al):ACall Tryz.prog 227 [.int .i64 n] h (λres h'=>res=.str (Lib.itoa n)/\h'=h):=by
 refine ACall.ext ⟨_,_,Tryz.func227,rfl,by kernel_rfl⟩ (λw vs S ha b a hj=>?_) rfl h;obtain⟨v,hv,hp⟩:=hj 0 _ rfl;cases hp;obtain rfl:=SI a hv;refine(Tryz.strconv_Itoa n h0 h1 w (OU ha)).mono ?_;rintro e w' ⟨rfl,k,os,rfl⟩;exact⟨_,rfl,λ_ _ _ _=>.str _,Eo _ _ _⟩
theorem IP (s p:List UInt8) (h:List al):ACall Tryz.prog 97 [.str s,.str p] h (λres h'=>res=.bool (Lib.hasPrefix s p)/\h'=h):=by
 refine ACall.ext ⟨_,_,Tryz.func97,rfl,by kernel_rfl⟩ (λw vs S ha d a hj=>?_) rfl h;obtain⟨v,hv,hp⟩:=hj 0 _ rfl;cases hp;obtain⟨f,b,c⟩:=hj 1 _ rfl;cases c;obtain rfl:=XI a hv b;refine(Tryz.strings_HasPrefix ⟨⟨s⟩⟩ ⟨⟨p⟩⟩ w).mono ?_;rintro e w' ⟨rfl,rfl⟩;exact⟨_,rfl,λ_ _ _ _=>.bool _,Below.refl _ _⟩
def pw (s:List UInt8) (lo hi:Int):Option Int:=
 if 20<s.length then none else match Lib.atoiAll s with
  | .ok n=>if Lib.itoa n=s/\lo<=n/\n<=hi then some n else none
  | _=>none
def pwR (o:Option Int):PV:=match o with | some n=>.eG [.int .i64 n,.bool true] | none=>.eG [.int .i64 0,.bool false]
def pwV (o:Option Int):Value:=match o with | some n=>.tuple #[.int .i64 n,.bool true] | none=>.tuple #[.int .i64 0,.bool false]
set_option maxRecDepth 100000 in
theorem Ar (s:ByteArray) (lo hi:Int) (w:World) (S:Nat->Prop) (ha:QG S w) (j:∀b,S b->b<w.heap.size):
  Calls Tryz.prog 205 #[.string s,.int .i64 lo,.int .i64 hi] w λe w'=>e=.returned (pwV (pw s.data.toList lo hi))/\Below w.heap.size w w':=by
 have hlen:s.data.toList.length=s.size:=rfl;by_cases hl:20<s.size
 ·have c:pw s.data.toList lo hi=none:=by unfold pw;rw[As alV]
  rw[c]
  go_enter Tryz.func205,Tryz.ntmps205
  go_wp2
  go_ret2
  exact⟨rfl,Below.refl _ _⟩
 ·cases h:Lib.atoiAll s.data.toList with
  | range=>
   have c:pw s.data.toList lo hi=none:=by unfold pw;rw[An alV,h]
   rw[c];obtain⟨d,p,hv⟩:=Wz ha
   go_enter Tryz.func205,Tryz.ntmps205
   go_wp2_with (go_at_call 226;refine(Tryz.strconv_Atoi_range_var s alV h d p _ hv).mono ?_;rintro e w1 ⟨N,rfl,-,-,a⟩)
   go_ret2
   exact⟨rfl,a⟩
  | ok n=>
   obtain⟨l,m⟩:=Lib.atoiAll_bounds h
   have key:∀(r:Value) (w1 f:World),((w1=w\/∃t,w1=Lib.bytesWorld w 5 t)->Below w.heap.size w w1):=λr w1 f a=>by
    rcases a with rfl | ⟨t,rfl⟩
    ·exact Below.refl _ _
    ·exact Lib.bytesWorld_below _ _ _
   go_enter Tryz.func205,Tryz.ntmps205
   go_wp2_with (go_at_call 226;refine(Tryz.strconv_Atoi_ok s alV n h _).mono ?_;rintro e w1 ⟨rfl,a⟩)
   go_wp2_with (go_at_call 227;refine(Tryz.strconv_Itoa n l m _ (OU (ha.keep (λb o=>(key undef _ w a).block b (j b o)) (λ_ a=>a)))).mono ?_;rintro e f ⟨rfl,k,os,rfl⟩)
   all_goals go_ret2
   all_goals refine⟨?_,(key undef _ w a).trans ((Eo _ _ _).mono (key undef _ w a).size)⟩
   all_goals
    have g:s.toList=s.data.toList:=ByteArray.toList_eq s
    have i:pw s.data.toList lo hi=if Lib.itoa n=s.data.toList/\lo<=n/\n<=hi then some n else none:=by
     unfold pw;rw[An alV,h]
    rw[i,<-g];clear g i h;split
    ·rename_i hc
     first
      | rfl
      | (exfalso;obtain⟨q,u,v⟩:=hc;first | omega | contradiction)
    ·rename_i hc
     first
      | rfl
      | (exfalso;apply hc;refine⟨?_,?_,?_⟩<;>first | assumption | omega)
  | _=>
   have c:pw s.data.toList lo hi=none:=by unfold pw;rw[An alV,h]
   rw[c];obtain⟨d,p,hv⟩:=Wy ha
   go_enter Tryz.func205,Tryz.ntmps205
   go_wp2_with (go_at_call 226;refine(Tryz.strconv_Atoi_syntax_var s alV h d p _ hv).mono ?_;rintro e w1 ⟨N,rfl,-,-,a⟩)
   go_ret2
   exact⟨rfl,a⟩
theorem Ep (s:List UInt8) (lo hi:Int) (h:List al):ACall Tryz.prog 205 [.str s,.int .i64 lo,.int .i64 hi] h (λres h'=>res=pwR (pw s lo hi)/\h'=h):=by
 refine ACall.ext ⟨_,_,Tryz.func205,rfl,by kernel_rfl⟩ (λw vs S ha d f hj=>?_) rfl h;obtain⟨m,g,a⟩:=hj 0 _ rfl;cases a;obtain⟨o,b,c⟩:=hj 1 _ rfl;cases c;obtain⟨p,i,k⟩:=hj 2 _ rfl;cases k;obtain rfl:=adD f g b i;refine(Ar ⟨⟨s⟩⟩ lo hi w S ha d).mono ?_;rintro e w' ⟨rfl,l⟩;refine⟨_,rfl,λμ h S w=>?_,l⟩;show bz μ h S w (pwR (pw s lo hi)) (pwV (pw s lo hi));cases pw s lo hi with
 | some n=>
  refine⟨_,rfl,rfl,λj pv hj=>?_⟩
  match j with
  | 0=>cases hj;exact⟨_,rfl,.int _ _⟩
  | 1=>cases hj;exact⟨_,rfl,.bool _⟩
  | j+2=>simp at hj
 | none=>
  refine⟨_,rfl,rfl,λj pv hj=>?_⟩
  match j with
  | 0=>cases hj;exact⟨_,rfl,.int _ _⟩
  | 1=>cases hj;exact⟨_,rfl,.bool _⟩
  | j+2=>simp at hj
def m98 (s:aW) (lo hi:Int):Option (Int×Bool):=match pw s lo hi with | some n=>some (n,true) | none=>some (0,false)
theorem agE {s:aW} {lo hi:Int} {r:Int×Bool} (h:m98 s lo hi=some r):ACall Tryz.prog 205 [.str s,.int .i64 lo,.int .i64 hi] [] (λres h=>res=.eG [.int .i64 r.1,.bool r.2]/\h=[]):=by
 refine(Ep s lo hi []).mono ?_;rintro _ _ ⟨rfl,rfl⟩;unfold m98 at h;split at h
 ·rename_i n e;rw[e];cases h;exact⟨rfl,rfl⟩
 ·rename_i e;rw[e];cases h;exact⟨rfl,rfl⟩
def m73 (n:Int):Option aW:=if -9223372036854775808<=n/\n<=9223372036854775807 then some (Lib.itoa n)else none
theorem afu {n:Int} {r:aW} (h:m73 n=some r):ACall Tryz.prog 227 [.int .i64 n] [] (λres h=>res=.str r/\h=[]):=by
 obtain⟨⟨h0,h1⟩,rfl⟩:=b8 h;exact WA n h0 h1 []
def m66 (s p:aW):Option Bool:=some (Lib.hasPrefix s p)
theorem agf {s p:aW} {r:Bool} (h:m66 s p=some r):ACall Tryz.prog 97 [.str s,.str p] [] (λres h=>res=.bool r/\h=[]):=by
 cases h;exact IP s p []
end Go.Am
