/- Texts of the proof, joined and shortened. -/
import Derived.Test.YtgakkhamfiegbaaGreatDoorPk3
set_option linter.unusedVariables false
set_option linter.unusedSimpArgs false
namespace Go.Am
open Go Go.RowKit
def ns (σ:Nat->Nat):PV->PV
 | .own id gen off len=>.own (σ id) gen off len
 | .bE id gen i off=>.bE (σ id) gen i off
 | .ql id=>.ql (σ id)
 | .uP f df=>.uP f (vC σ df)
 | v=>v
def xO (σ:Nat->Nat):PV->PV
 | .agg cs=>.agg (cs.map (ns σ))
 | v=>ns σ v
def zl (σ:Nat->Nat):PV->PV
 | .hJ vs=>.hJ (vs.map (xO σ))
 | v=>xO σ v
def xN (σ:Nat->Nat):ar->ar
 | .row g sz n e f=>.row g sz n e (λi=>(f i).map (ns σ))
 | .dead=>.dead
theorem Gd {σ:Nat->Nat} {a:PV} (h:lC (ns σ a)=true):ns σ a=a:=by cases a<;>first | rfl | cases h
theorem Ge {σ:Nat->Nat} {a:PV} (h:lC a=true):ns σ a=a:=by cases a<;>first | rfl | cases h
section
variable {P:Program}{T:sI}{μ μ0 μ1:Mu}{h h0 h1 hc:List ar}{S S0 S1:Nat->Prop}{w w':World}{σ:Nat->Nat}
theorem RU {pv:PV} {v:Value} (l:∀j,(∃g sz n e f,h0[j]? =some (ar.row g sz n e f)/\(∃h,h1[σ j]? =some (ar.row g sz n e h))/\μ1 (σ j)=μ0 j)\/(h0[j]? =some ar.dead/\h1[σ j]? =some ar.dead)\/h0[j]? =none)
  (c:∀b,S0 b->S1 b) (hc:cD μ0 h0 S0 w pv v):cD μ1 h1 S1 w (ns σ pv) v:=by
 have m:∀(id gen i off:Nat) (v:Value),cE μ0 h0 w id gen i off v->cE μ1 h1 w (σ id) gen i off v:=λid gen i off v hc=>by
  unfold cE at hc ⊢;obtain⟨q1,q2⟩:=hc;refine⟨q1,?_⟩;rcases l id with⟨g,sz,n,e,f,r1,⟨h,a⟩,d⟩ | ⟨r1,a⟩ | r1
  ·rw[r1]at q2;rw[a];show gen<=g/\_;rw[d];exact q2
  ·rw[a];trivial
  ·rw[r1]at q2;exact q2.elim
 cases pv with
 | own id gen off len=>
  have hc:cf μ0 h0 w id gen off len v:=hc;show cf μ1 h1 w (σ id) gen off len v;unfold cf at hc ⊢;obtain⟨q1,q2⟩:=hc;refine⟨q1,?_⟩;rcases l id with⟨g,sz,n,e,f,r1,⟨h,a⟩,d⟩ | ⟨r1,a⟩ | r1
  ·rw[r1]at q2;rw[a];show gen<=g/\_;rw[d];exact q2
  ·rw[a];trivial
  ·rw[r1]at q2;exact q2.elim
 | bE id gen i off=>exact m _ _ _ _ _ hc
 | uP f df=>exact wy.map (O:=λid g u=>cE μ1 h1 w id g 0 0 u) (wy.mono (show tq μ0 h0 w f df v from hc) (λid g u hu=>m id g 0 0 u hu))
 | ql id=>
  have hc:gy μ0 h0 w id v:=hc;show gy μ1 h1 w (σ id) v;unfold gy at hc ⊢;obtain⟨q1,q2⟩:=hc;refine⟨q1,?_⟩;rcases l id with⟨g,sz,n,e,f,r1,⟨h,a⟩,d⟩ | ⟨r1,a⟩ | r1
  ·rw[r1]at q2;rw[a];obtain⟨b,base,o,p⟩:=q2;exact⟨b,base,d.trans o,p⟩
  ·rw[a];trivial
  ·rw[r1]at q2;exact q2.elim
 | jI=>exact hc
 | aV sz n e f F=>exact hc
 | agg cs=>exact(show False from hc).elim
 | hJ cs=>exact(show False from hc).elim
 | int k n=>exact bz.mono (λ_ _=>rfl) c hc
 | bool b=>exact bz.mono (λ_ _=>rfl) c hc
 | str s=>exact bz.mono (λ_ _=>rfl) c hc
 | au=>exact bz.mono (λ_ _=>rfl) c hc
 | jq=>exact bz.mono (λ_ _=>rfl) c hc
 | gn sz n f=>exact bz.mono (λ_ _=>rfl) c hc
 | fT cs=>exact bz.mono (λ_ _=>rfl) c hc
 | fn f=>exact bz.mono (λ_ _=>rfl) c hc
theorem ig {pv:PV} {v:Value} (a:∀pv v,cD μ0 h0 S0 w pv v->cD μ1 h1 S1 w (ns σ pv) v) (hc:jG μ0 h0 S0 w pv v):jG μ1 h1 S1 w (xO σ pv) v:=by
 cases pv with
 | agg cs=>
  obtain⟨vs,q1,q2,q3⟩:=hc;refine⟨vs,q1,by simpa using q2,λj pv hj=>?_⟩;rw[agd]at hj;cases d:cs[j]? with
  | none=>rw[d]at hj;cases hj
  | some c=>
   rw[d]at hj;injection hj with hj;subst hj;obtain⟨u,r1,g⟩:=q3 j c d;exact⟨u,r1,a _ _ g⟩
 | jI=>trivial
 | aV sz n e f F=>exact a (.aV sz n e f F) v hc
 | hJ cs=>exact(show False from hc).elim
 | own id gen off len=>exact a (.own id gen off len) v hc
 | bE id gen i off=>exact a (.bE id gen i off) v hc
 | ql id=>exact a (.ql id) v hc
 | uP f df=>exact a (.uP f df) v hc
 | int k n=>exact a (.int k n) v hc
 | bool b=>exact a (.bool b) v hc
 | str s=>exact a (.str s) v hc
 | au=>exact a .au v hc
 | jq=>exact a .jq v hc
 | gn sz n f=>exact a (.gn sz n f) v hc
 | fT cs=>exact a (.fT cs) v hc
 | fn f=>exact a (.fn f) v hc
theorem RV {pv:PV} {v:Value} (a:∀pv v,cD μ0 h0 S0 w pv v->cD μ1 h1 S1 w (ns σ pv) v) (hc:cw μ0 h0 S0 w pv v):cw μ1 h1 S1 w (zl σ pv) v:=by
 cases pv with
 | hJ cs=>
  obtain⟨vs,q1,q2,q3⟩:=hc;refine⟨vs,q1,by simpa using q2,λj pv hj=>?_⟩;rw[agd]at hj;cases d:cs[j]? with
  | none=>rw[d]at hj;cases hj
  | some c=>
   rw[d]at hj;injection hj with hj;subst hj;obtain⟨u,r1,g⟩:=q3 j c d;exact⟨u,r1,ig a g⟩
 | agg cs=>exact ig (pv:=.agg cs) a hc
 | jI=>trivial
 | aV sz n e f F=>exact ig (pv:=.aV sz n e f F) a hc
 | own id gen off len=>exact ig (pv:=.own id gen off len) a hc
 | bE id gen i off=>exact ig (pv:=.bE id gen i off) a hc
 | ql id=>exact ig (pv:=.ql id) a hc
 | uP f df=>exact ig (pv:=.uP f df) a hc
 | int k n=>exact ig (pv:=.int k n) a hc
 | bool b=>exact ig (pv:=.bool b) a hc
 | str s=>exact ig (pv:=.str s) a hc
 | au=>exact ig (pv:=.au) a hc
 | jq=>exact ig (pv:=.jq) a hc
 | gn sz n f=>exact ig (pv:=.gn sz n f) a hc
 | fT cs=>exact ig (pv:=.fT cs) a hc
 | fn f=>exact ig (pv:=.fn f) a hc
structure Sel (σ:Nat->Nat) (m:Nat) (h:List ar):Prop where
 lt:∀j,j<m->σ j<h.length
 new:∀j,m<=j->σ j=h.length+(j - m)
 inj:∀i j,i<m->j<m->σ i=σ j->i=j
theorem Sel.aer {m:Nat} (hs:Sel σ m h) {i j:Nat} (he:σ i=σ j):i=j:=by
 rcases agI i m with hi | hi
 ·rcases agI j m with hj | hj
  ·exact hs.inj i j hi hj he
  ·have:=hs.lt i hi;have:=hs.new j hj;omega
 ·rcases agI j m with hj | hj
  ·have:=hs.lt j hj;have:=hs.new i hi;omega
  ·have:=hs.new i hi;have:=hs.new j hj;omega
structure WE (σ:Nat->Nat) (h h0 h':List ar):Prop where
 MM:∀id,(∀j,j<h0.length->σ j≠id)->h'[id]? =h[id]?
 TW:∀j o,h0[j]? =some o->h'[σ j]? =some (xN σ o)
 len:h.length<=h'.length
def DG (μ:Mu) (σ:Nat->Nat) (m:Nat):Mu:=λj=>if j<m then μ (σ j)else none
open Classical in
noncomputable def RW (μ:Mu) (σ:Nat->Nat) (m:Nat) (μ0:Mu):Mu:=λid=>if a:∃j,j<m/\σ j=id then μ0 (Classical.choose a)else μ id
theorem UH {m:Nat} (b:∀i j,σ i=σ j->i=j) {j:Nat} (hj:j<m):RW μ σ m μ0 (σ j)=μ0 j:=by
 have a:∃i,i<m/\σ i=σ j:=⟨j,hj,rfl⟩;unfold RW;rw[dif_pos a,b _ _ (Classical.choose_spec a).2]
theorem HT {m id:Nat} (a:∀j,j<m->σ j≠id):RW μ σ m μ0 id=μ id:=by
 unfold RW;rw[dif_neg];rintro⟨j,h1,h2⟩;exact a j h1 h2
theorem fA (q:Sel σ hc.length h) (m:∀j o,hc[j]? =some o->h[σ j]? =some (xN σ o)) {pv:PV} {v:Value} (a:cD μ h S w (ns σ pv) v):cD (DG μ σ hc.length) hc S w pv v:=by
 have get:∀id,(∃g sz n e f,hc[id]? =some (ar.row g sz n e f)/\h[σ id]? =some (xN σ (ar.row g sz n e f))/\DG μ σ hc.length id=μ (σ id))\/(hc[id]? =some ar.dead/\h[σ id]? =some ar.dead)\/h[σ id]? =none:=λid=>by
  cases l:hc[id]? with
  | none=>
   refine .inr (.inr (agf ?_));have r:hc.length<=id:=List.getElem?_eq_none_iff.1 l;have:=q.new id r;omega
  | some o=>
   have t:=(An.1 l).1;cases o with
   | dead=>exact .inr (.inl ⟨rfl,m id _ l⟩)
   | row g sz n e f=>exact .inl ⟨g,sz,n,e,f,rfl,m id _ l,by unfold DG;rw[an t]⟩
 have p:∀(id gen i off:Nat) (v:Value),cE μ h w (σ id) gen i off v->cE (DG μ σ hc.length) hc w id gen i off v:=λid gen i off v a=>by
  unfold cE at a ⊢;obtain⟨q1,q2⟩:=a;refine⟨q1,?_⟩;rcases get id with⟨g,sz,n,e,f,r1,c,d⟩ | ⟨r1,c⟩ | r1
  ·rw[c]at q2;rw[r1];show gen<=g/\_;rw[d];exact q2
  ·rw[r1];trivial
  ·rw[r1]at q2;exact q2.elim
 cases pv with
 | own id gen off len=>
  have a:cf μ h w (σ id) gen off len v:=a;show cf _ hc w id gen off len v;unfold cf at a ⊢;obtain⟨q1,q2⟩:=a;refine⟨q1,?_⟩;rcases get id with⟨g,sz,n,e,f,r1,c,d⟩ | ⟨r1,c⟩ | r1
  ·rw[c]at q2;rw[r1];show gen<=g/\_;rw[d];exact q2
  ·rw[r1];trivial
  ·rw[r1]at q2;exact q2.elim
 | bE id gen i off=>exact p _ _ _ _ _ a
 | uP f df=>exact wy.mono (wy.abP (show tq μ h w f (vC σ df) v from a)) (λid g u hu=>p _ _ _ _ _ hu)
 | ql id=>
  have a:gy μ h w (σ id) v:=a;show gy _ hc w id v;unfold gy at a ⊢;obtain⟨q1,q2⟩:=a;refine⟨q1,?_⟩;rcases get id with⟨g,sz,n,e,f,r1,c,d⟩ | ⟨r1,c⟩ | r1
  ·rw[c]at q2;rw[r1];obtain⟨b,base,x,y⟩:=q2;exact⟨b,base,d.trans x,y⟩
  ·rw[r1];trivial
  ·rw[r1]at q2;exact q2.elim
 | jI=>exact a
 | aV sz n e f F=>exact a
 | agg cs=>exact(show False from a).elim
 | hJ cs=>exact(show False from a).elim
 | int k n=>exact a
 | bool b=>exact a
 | str s=>exact a
 | au=>exact a
 | jq=>exact a
 | gn sz n f=>exact a
 | fT cs=>exact a
 | fn f=>exact a
theorem Pk (c:Sel σ hc.length h) (d:∀j o,hc[j]? =some o->h[σ j]? =some (xN σ o)) {pv:PV} {v:Value} (a:jG μ h S w (xO σ pv) v):jG (DG μ σ hc.length) hc S w pv v:=by
 cases pv with
 | agg cs=>
  obtain⟨vs,q1,q2,q3⟩:=a;refine⟨vs,q1,by simpa using q2,λj pv hj=>?_⟩;obtain⟨u,r1,g⟩:=q3 j (ns σ pv) (by rw[agd,hj];rfl);exact⟨u,r1,fA c d g⟩
 | jI=>trivial
 | aV sz n e f F=>exact fA (μ:=μ) (S:=S) (w:=w) (pv:=.aV sz n e f F) c d a
 | hJ cs=>exact(show False from a).elim
 | own id gen off len=>exact fA (μ:=μ) (S:=S) (w:=w) (pv:=.own id gen off len) c d a
 | bE id gen i off=>exact fA (μ:=μ) (S:=S) (w:=w) (pv:=.bE id gen i off) c d a
 | ql id=>exact fA (μ:=μ) (S:=S) (w:=w) (pv:=.ql id) c d a
 | uP f df=>exact fA (μ:=μ) (S:=S) (w:=w) (pv:=.uP f df) c d a
 | int k n=>exact fA (μ:=μ) (S:=S) (w:=w) (pv:=.int k n) c d a
 | bool b=>exact fA (μ:=μ) (S:=S) (w:=w) (pv:=.bool b) c d a
 | str s=>exact fA (μ:=μ) (S:=S) (w:=w) (pv:=.str s) c d a
 | au=>exact fA (μ:=μ) (S:=S) (w:=w) (pv:=.au) c d a
 | jq=>exact fA (μ:=μ) (S:=S) (w:=w) (pv:=.jq) c d a
 | gn sz n f=>exact fA (μ:=μ) (S:=S) (w:=w) (pv:=.gn sz n f) c d a
 | fT cs=>exact fA (μ:=μ) (S:=S) (w:=w) (pv:=.fT cs) c d a
 | fn f=>exact fA (μ:=μ) (S:=S) (w:=w) (pv:=.fn f) c d a
theorem R0 {c:PV} {sz n:Nat} {e:TypeId} {f:Nat->List PV} {F:Nat->Prop} (hc:ns σ c=.aV sz n e f F):c=.aV sz n e f F:=by cases c<;>first | exact hc | cases hc
theorem UI {c:PV} (h:dM c=false):dM (ns σ c)=false:=by cases c<;>first | rfl | cases h
theorem ACall.TW {f:FuncId} {args oC:List PV} {R:PV->List ar->Prop} (hA:ACall P f args hc R) (h:List ar) (tD:Sel σ hc.length h) (G:∀j o,hc[j]? =some o->h[σ j]? =some (xN σ o))
  (sJ:oC=args.map (xO σ)) (nxt:List ar->List ar) (aA:∀h0,hc.length<=h0.length->WE σ h h0 (nxt h0)):
  ACall P f oC h (λres h'=>∃r0 h0,R r0 h0/\res=zl σ r0/\h'=nxt h0):=by
 refine⟨hA.1,λw vs μ S hH A lA ha=>?_⟩;subst sJ;have RZ:∀i j,σ i=σ j->i=j:=λi j=>tD.aer
 have UJ:∀b,Dw (DG μ σ hc.length) hc b->Dw μ h b:=λb ⟨j,g,sz,n,e,f,base,q1,q2⟩=>by
  have K:=(An.1 q1).1;unfold DG at q2;rw[an K]at q2;exact⟨σ j,g,sz,n,e,_,base,G j _ q1,q2⟩
 have Pl:∀j x y b,dD hc j x y b->dD h (σ j) x y b:=λj x y b ⟨g,sz,n,e,f,cA,n',T,f',F',q1,q2,q3,q4⟩=>⟨g,sz,n,e,_,cA,n',T,f',F',G j _ q1,q2,by
  show((f x).map (ns σ))[y]? =_;rw[agd,q3];rfl,q4⟩
 have R2:∀b,dc (DG μ σ hc.length) hc b->dc μ h b/\True:=λb hb=>by
  rcases hb with hb | ⟨x,y,z,hb⟩
  ·exact⟨.inl (UJ b hb),trivial⟩
  ·exact⟨.inr ⟨_,_,_,Pl _ _ _ _ hb⟩,trivial⟩
 have a0:cW (DG μ σ hc.length) hc S w:=λj g sz n e f hj=>by
  have K:=(An.1 hj).1;obtain⟨q1,q2⟩:=hH (σ j) _ _ _ _ _ (G j _ hj);refine⟨λi hi=>by simpa using q1 i hi,?_⟩;have hm:DG μ σ hc.length j=μ (σ j):=by unfold DG;rw[an K]
  rw[hm];cases L:μ (σ j)with
  | none=>rw[L]at q2;exact q2
  | some p=>
   obtain⟨b,base⟩:=p;rw[L]at q2;obtain⟨o,r1,m⟩:=q2;refine⟨o,r1,?_⟩;cases o with
   | cells cur T z=>
    obtain⟨U,x2,x3,B⟩:=m;refine⟨U,x2,x3,λi k pv hi hk=>?_⟩;obtain⟨u,s1,O⟩:=B i k (ns σ pv) hi (by rw[agd,hk];rfl);refine⟨u,s1,?_⟩;cases d:dM pv with
    | false=>exact(fA tD G O.c).k d
    | true=>
     cases pv with
     | aV qs n2 e2 f2 F2=>exact O
     | _=>cases d
   | map es c=>
    obtain⟨U,B⟩:=m;refine⟨U,λi hi=>?_⟩;obtain⟨kp,vp,en,y1,y2,y3,y4⟩:=B i hi;refine⟨kp,vp,en,?_,y2,y3,y4⟩;have y1:(f i).map (ns σ)=[kp,vp]:=y1;generalize f i=l at y1;rcases l with _ | ⟨a,_ | ⟨b,_ | ⟨c3,l3⟩⟩⟩<;>simp at y1;obtain⟨rfl,rfl⟩:=y1;rw[Gd y2,Gd y3]
   | _=>exact m.elim
 have a6:vz (DG μ σ hc.length) hc S w:=⟨λb hb=>A.apart b (R2 b hb).1,λb hb=>A.lt b (R2 b hb).1,A.slt,λi j gi Pg ni ei fi gj mw nj ej fj b o o' hi hj qe oP=>by
  have a7:=(An.1 hi).1;have UK:=(An.1 hj).1;unfold DG at qe oP;rw[an a7]at qe;rw[an UK]at oP;exact RZ _ _ (A.inj _ _ _ _ _ _ _ _ _ _ _ _ _ _ _ (G i _ hi) (G j _ hj) qe oP),A.known,λb hb x y z d=>A.hv b (UJ b hb) _ _ _ (Pl _ _ _ _ d),λb x y z x' y' z' d V=>by
  obtain⟨H,e2,M⟩:=A.hh b _ _ _ _ _ _ (Pl _ _ _ _ d) (Pl _ _ _ _ V);exact⟨RZ _ _ H,e2,M⟩⟩
 refine(hA.2 w vs _ S a0 a6 (by simpa using lA) (λj pv hj=>?_)).mono ?_
 ·obtain⟨v,q1,q2⟩:=ha j (xO σ pv) (by rw[agd,hj];rfl);exact⟨v,q1,Pk tD G q2⟩
 ·rintro e w' ⟨v,r0,h0,μ0,S0,he,hR,hv,WG,W,s⟩;have hlen:hc.length<=h0.length:=s.len;have F:=aA h0 hlen;obtain⟨h',aa⟩:∃h',h'=nxt h0:=⟨_,rfl⟩;rw[<-aa]at F;have N:∀j,j<h0.length->RW μ σ h0.length μ0 (σ j)=μ0 j:=λj hj=>UH RZ hj
  have inv:∀id o,h'[id]? =some o->(∃j Q,σ j=id/\h0[j]? =some Q/\o=xN σ Q/\RW μ σ h0.length μ0 id=μ0 j)\/((∀j,j<h0.length->σ j≠id)/\h[id]? =some o/\RW μ σ h0.length μ0 id=μ id):=λid o hid=>by
   by_cases d:∃j,j<h0.length/\σ j=id
   ·obtain⟨j,hj,rfl⟩:=d;have:=F.TW j _ (No hj);rw[this]at hid;injection hid with hid;exact .inl ⟨j,_,rfl,No hj,hid.symm,N j hj⟩
   ·have D:∀j,j<h0.length->σ j≠id:=λj hj he=>d ⟨j,hj,he⟩;rw[F.MM id D]at hid;exact .inr ⟨D,hid,HT D⟩
  have apart:∀id g sz n e f b base,(∀j,j<h0.length->σ j≠id)->h[id]? =some (ar.row g sz n e f)->μ id=some (b,base)->¬dc (DG μ σ hc.length) hc b:=λid g sz n e f b base D hid hm I=>by
   rcases I with⟨j,gj,mw,nj,ej,fj,bj,q1,q2⟩ | ⟨x,y,z,d⟩;rotate_left
   ·exact A.hv b ⟨id,g,sz,n,e,f,base,hid,hm⟩ _ _ _ (Pl _ _ _ _ d)
   have K:=(An.1 q1).1;unfold DG at q2;rw[an K]at q2;exact D j ajo (A.inj _ _ _ _ _ _ _ _ _ _ _ _ _ _ _ (G j _ q1) hid q2 hm)
  have DH:∀id x y b,(∀j,j<h0.length->σ j≠id)->dD h id x y b->¬dc (DG μ σ hc.length) hc b:=λid x y b D d I=>by
   rcases I with I | ⟨j,x',y',V⟩
   ·exact A.hv b (UJ b I) _ _ _ d
   ·obtain⟨H,_,_⟩:=A.hh b _ _ _ _ _ _ (Pl _ _ _ _ V) d;obtain⟨_,_,_,_,_,_,_,_,_,_,q1,_⟩:=V;have:=(An.1 q1).1;exact D j ajo H
  have WH:∀b,Dw (RW μ σ h0.length μ0) h' b->Dw μ0 h0 b\/∃id g sz n e f base,(∀j,j<h0.length->σ j≠id)/\h[id]? =some (ar.row g sz n e f)/\μ id=some (b,base):=λb ⟨id,g,sz,n,e,f,base,q1,q2⟩=>by
   rcases inv id _ q1 with⟨j,Q,rfl,r1,m,B⟩ | ⟨r1,m,B⟩
   ·rw[B]at q2;cases Q with
    | dead=>cases m
    | row g0 UL n0 e0 X=>exact .inl ⟨j,g0,UL,n0,e0,X,base,r1,q2⟩
   ·rw[B]at q2;exact .inr ⟨id,g,sz,n,e,f,base,r1,m,q2⟩
  have Gf:∀id x y b,dD h' id x y b->(∃j,σ j=id/\dD h0 j x y b)\/((∀j,j<h0.length->σ j≠id)/\dD h id x y b):=λid x y b ⟨g,sz,n,e,f,cA,n',T,f',F',q1,q2,q3,q4⟩=>by
   rcases inv id _ q1 with⟨j,Q,rfl,r1,m,B⟩ | ⟨r1,m,B⟩
   ·cases Q with
    | dead=>cases m
    | row g0 UL n0 e0 X=>
     injection m with H e2 M e4 e5;subst H e2 M e4 e5;rw[agd]at q3;cases d:(X x)[y]? with
     | none=>rw[d]at q3;cases q3
     | some c=>
      rw[d]at q3;injection q3 with q3;rw[R0 q3]at d;exact .inl ⟨j,rfl,_,_,_,_,_,_,_,_,_,_,r1,q2,d,q4⟩
   ·exact .inr ⟨r1,_,_,_,_,_,_,_,_,_,_,m,q2,q3,q4⟩
  have np:∀b,dc (RW μ σ h0.length μ0) h' b->dc μ0 h0 b\/(dc μ h b/\¬dc (DG μ σ hc.length) hc b):=λb hb=>by
   rcases hb with hb | ⟨x,y,z,hb⟩
   ·rcases WH b hb with q | ⟨id,g,sz,n,e,f,base,q1,q2,q3⟩
    ·exact .inl (.inl q)
    ·exact .inr ⟨.inl ⟨id,g,sz,n,e,f,base,q2,q3⟩,apart id _ _ _ _ _ _ _ q1 q2 q3⟩
   ·rcases Gf x y z b hb with⟨j,_,q⟩ | ⟨q1,q2⟩
    ·exact .inl (.inr ⟨_,_,_,q⟩)
    ·exact .inr ⟨.inr ⟨_,_,_,q2⟩,DH _ _ _ _ q1 q2⟩
  have mixed:∀b,dc μ0 h0 b->dc μ h b->¬dc (DG μ σ hc.length) hc b->False:=λb q1 q2 q3=>by
   rcases s.own b q1 with r | r
   ·exact q3 r
   ·have:=A.lt b q2;omega
  have kC:Fr μ h S w (RW μ σ h0.length μ0) h' S0 w':=by
   refine⟨F.len,λb hb Ga=>s.blocks b hb (λE=>Ga (R2 b E).1),s.sub,λb hb=>?_,λb hb=>?_,s.size,s.os,s.tape,s.output,λid g sz n e f hid=>?_,λid hid=>?_,λb k hb fK=>?_,λid g sz n e f b base hid hm oJ=>?_,λb id x y d oJ=>?_⟩;rotate_right
   ·by_cases E:dc (DG μ σ hc.length) hc b
    ·rcases E with E | ⟨j,x',y',E⟩
     ·exact absurd d (A.hv b (UJ b E) _ _ _)
     ·exact s.yg b j x' y' E oJ
    ·obtain⟨es,c,q⟩:=oJ;exact⟨es,c,(s.blocks b (afN.1 q).1 E).trans q⟩
   ·rcases s.new b hb with q | q | q
    ·exact .inl q
    ·exact .inr (.inl (R2 b q).1)
    ·exact .inr (.inr q)
   ·rcases np b hb with q | ⟨q,_⟩
    ·rcases s.own b q with r | r
     ·exact .inl (R2 b r).1
     ·exact .inr r
    ·exact .inl q
   ·by_cases d:∃j,j<hc.length/\σ j=id
    ·obtain⟨j,hj,rfl⟩:=d;have vD:j<h0.length:=by omega
     have J:=No hj;have I:=G j _ J;rw[I]at hid;cases C:hc[j]with
     | dead=>rw[C]at hid;cases hid
     | row gc ad nc ec fc=>
      rw[C]at hid J;injection hid with hid;injection hid with H e2 M e4 e5;subst H e2 M e4;have hg:=s.Dx j _ _ _ _ _ J;have hs:=F.TW j _ (No vD);rw[No vD]at hg;rw[hs];cases a8:h0[j]with
      | dead=>trivial
      | row g' cA n' T f'=>
       rw[a8]at hg;refine⟨hg.1,λN5=>?_⟩;obtain⟨a1,a2,a3,a4⟩:=hg.2 N5;refine⟨?_,a2,a3,a4⟩;rw[N j vD,a1];unfold DG;rw[an hj]
    ·have D:∀j,j<h0.length->σ j≠id:=λj hj he=>by
      rcases agI j hc.length with h1 | h1
      ·exact d ⟨j,h1,he⟩
      ·have:=tD.new j h1;have:=(An.1 hid).1;omega
     rw[F.MM id D,hid];exact⟨abF _,λ_=>⟨HT D,rfl,rfl,rfl⟩⟩
   ·by_cases d:∃j,j<hc.length/\σ j=id
    ·obtain⟨j,hj,rfl⟩:=d;have vD:j<h0.length:=by omega
     have J:=No hj;have I:=G j _ J;rw[I]at hid;cases C:hc[j]with
     | row gc ad nc ec fc=>rw[C]at hid;cases hid
     | dead=>
      rw[C]at J;have hd:=s.dead j J;exact F.TW j _ hd
    ·have D:∀j,j<h0.length->σ j≠id:=λj hj he=>by
      rcases agI j hc.length with h1 | h1
      ·exact d ⟨j,h1,he⟩
      ·have:=tD.new j h1;have:=(An.1 hid).1;omega
     rw[F.MM id D,hid]
   ·by_cases E:dc (DG μ σ hc.length) hc b
    ·exact s.df b k E fK
    ·exact lD.of_same (s.blocks b fK.lt E) fK
   ·by_cases d:∃j,j<hc.length/\σ j=id
    ·obtain⟨j,hj,rfl⟩:=d;have vD:j<h0.length:=by omega
     have J:=No hj;have I:=G j _ J;rw[I]at hid;cases C:hc[j]with
     | dead=>rw[C]at hid;cases hid
     | row gc ad nc ec fc=>
      rw[C]at hid J;have a9:DG μ σ hc.length j=some (b,base):=by unfold DG;rw[an hj];exact hm
      obtain⟨r1,m⟩:=s.maps j _ _ _ _ _ b base J a9 oJ;refine⟨r1,?_⟩;rcases m with m | ⟨⟨g',cA,n',T,f',m⟩,B⟩
      ·exact .inl (F.TW j _ m)
      ·exact .inr ⟨⟨_,_,_,_,_,F.TW j _ m⟩,(N j vD).trans B⟩
    ·have D:∀j,j<h0.length->σ j≠id:=λj hj he=>by
      rcases agI j hc.length with h1 | h1
      ·exact d ⟨j,h1,he⟩
      ·have:=tD.new j h1;have:=(An.1 hid).1;omega
     obtain⟨es,c,q⟩:=oJ;exact⟨⟨es,c,(s.blocks b (afN.1 q).1 (apart id _ _ _ _ _ _ _ D hid hm)).trans q⟩,.inr ⟨⟨_,_,_,_,_,(F.MM id D).trans hid⟩,(HT D).trans hm⟩⟩
  have bQ:∀pv v,cD μ0 h0 S0 w' pv v->cD (RW μ σ h0.length μ0) h' S0 w' (ns σ pv) v:=λpv v bg=>by
   refine RU (λj=>?_) (λ_ hb=>hb) bg;cases E:h0[j]? with
   | none=>exact .inr (.inr rfl)
   | some o=>
    have K:=(An.1 E).1;cases o with
    | dead=>exact .inr (.inl ⟨rfl,F.TW j _ E⟩)
    | row g sz n e f=>exact .inl ⟨g,sz,n,e,f,rfl,⟨_,F.TW j _ E⟩,N j K⟩
  refine⟨v,_,h',_,S0,he,⟨r0,h0,hR,rfl,?_⟩,RV bQ hv,λid g sz n e f hid=>?_,⟨λb hb hs=>?_,λb hb=>?_,W.slt,?_,W.known,λb hb id x y d=>?_,λb id x y ag x' y' d V=>?_⟩,kC⟩;rotate_right 2
  ·rcases WH b hb with q | ⟨k,g,sz,n,e,f,base,q1,q2,q3⟩
   ·rcases Gf id x y b d with⟨j,_,r⟩ | ⟨r1,m⟩
    ·exact W.hv b q _ _ _ r
    ·exact mixed b (.inl q) (.inr ⟨_,_,_,m⟩) (DH _ _ _ _ r1 m)
   ·rcases Gf id x y b d with⟨j,_,r⟩ | ⟨r1,m⟩
    ·exact mixed b (.inr ⟨_,_,_,r⟩) (.inl ⟨k,g,sz,n,e,f,base,q2,q3⟩) (apart k _ _ _ _ _ _ _ q1 q2 q3)
    ·exact A.hv b ⟨k,g,sz,n,e,f,base,q2,q3⟩ _ _ _ m
  ·rcases Gf id x y b d with⟨j,rfl,r⟩ | ⟨r1,m⟩
   ·rcases Gf ag x' y' b V with⟨j',rfl,t⟩ | ⟨t1,t2⟩
    ·obtain⟨H,e2,M⟩:=W.hh b _ _ _ _ _ _ r t;exact⟨by rw[H],e2,M⟩
    ·exact(mixed b (.inr ⟨_,_,_,r⟩) (.inr ⟨_,_,_,t2⟩) (DH _ _ _ _ t1 t2)).elim
   ·rcases Gf ag x' y' b V with⟨j',rfl,t⟩ | ⟨t1,t2⟩
    ·exact(mixed b (.inr ⟨_,_,_,t⟩) (.inr ⟨_,_,_,m⟩) (DH _ _ _ _ r1 m)).elim
    ·exact A.hh b _ _ _ _ _ _ m t2
  ·exact aa
  ·rcases inv id _ hid with⟨j,Q,rfl,r1,m,B⟩ | ⟨r1,m,B⟩
   ·cases Q with
    | dead=>cases m
    | row g0 UL n0 e0 X=>
     injection m with H e2 M e4 e5;subst H e2 M e4 e5;obtain⟨q1,q2⟩:=WG j _ _ _ _ _ r1;refine⟨λi hi=>by simpa using q1 i hi,?_⟩;rw[B];cases L:μ0 j with
     | none=>rw[L]at q2;exact q2
     | some p=>
      obtain⟨b,base⟩:=p;rw[L]at q2;obtain⟨o,s1,O⟩:=q2;refine⟨o,s1,?_⟩;cases o with
      | cells cur T z=>
       obtain⟨U,x2,x3,s3⟩:=O;refine⟨U,x2,x3,λi k pv hi hk=>?_⟩;rw[agd]at hk;cases d:(X i)[k]? with
       | none=>rw[d]at hk;cases hk
       | some c=>
        rw[d]at hk;injection hk with hk;subst hk;obtain⟨u,t1,t2⟩:=s3 i k c hi d;refine⟨u,t1,?_⟩;cases aq:dM c with
        | false=>exact(bQ _ _ t2.c).k (UI aq)
        | true=>
         cases c with
         | aV qs n2 e2 f2 F2=>exact t2
         | _=>cases aq
      | map es c=>
       obtain⟨U,s3⟩:=O;refine⟨U,λi hi=>?_⟩;obtain⟨kp,vp,en,y1,y2,y3,y4⟩:=s3 i hi;exact⟨kp,vp,en,by show(X i).map (ns σ)=_;rw[y1];show[ns σ kp,ns σ vp]=_;rw[Ge y2,Ge y3],y2,y3,y4⟩
      | _=>exact O.elim
   ·obtain⟨q1,q2⟩:=hH id _ _ _ _ _ m;refine⟨q1,?_⟩;rw[B];cases L:μ id with
    | none=>rw[L]at q2;exact q2
    | some p=>
     obtain⟨b,base⟩:=p;rw[L]at q2;obtain⟨o,s1,O⟩:=q2;have K:b<w.heap.size:=(afN.1 s1).1
     exact⟨o,(s.blocks b K (apart id _ _ _ _ _ _ _ r1 m L)).trans s1,O.mono (λi y pv v hi hy hr=>hr.fr kC A (λcA n' T f' F' he b2 qT=>by
      have d:dD h id i y b2:=⟨_,_,_,_,_,_,_,_,_,_,m,hi,he▸hy,qT⟩;exact s.blocks b2 (A.lt b2 (.inr ⟨_,_,_,d⟩)) (DH _ _ _ _ r1 d)))⟩
  ·rcases np b hb with q | ⟨q1,q2⟩
   ·exact W.apart b q hs
   ·rcases s.new b hs with r | r | r
    ·exact A.apart b q1 r
    ·exact q2 r
    ·have:=A.lt b q1;omega
  ·rcases np b hb with q | ⟨q1,_⟩
   ·exact W.lt b q
   ·exact agc (A.lt b q1) s.size
  ·intro i j gi Pg ni ei fi gj mw nj ej fj b o o' hi hj qe oP
   have WI:∀(i':Nat) (o1:ar) (g sz n:Nat) (e:TypeId) (f:Nat->List PV) (oo:Nat) (id g2 qs n2:Nat) (e2:TypeId) (f2:Nat->List PV) (Y:Nat),h0[i']? =some (ar.row g sz n e f)->μ0 i'=some (b,oo)->(∀j,j<h0.length->σ j≠id)->h[id]? =some (ar.row g2 qs n2 e2 f2)->μ id=some (b,Y)->False:=
    λi' o1 g sz n e f oo id g2 qs n2 e2 f2 Y a1 a2 a3 a4 a5=>by
     exact mixed b (.inl ⟨i',g,sz,n,e,f,oo,a1,a2⟩) (.inl ⟨id,g2,qs,n2,e2,f2,Y,a4,a5⟩) (apart id _ _ _ _ _ _ _ a3 a4 a5)
   rcases inv i _ hi with⟨i0,oi,rfl,r1,m,B⟩ | ⟨r1,m,B⟩
   ·rw[B]at qe;cases oi with
    | dead=>cases m
    | row g0 UL n0 e0 X=>
     rcases inv j _ hj with⟨j0,oj,rfl,t1,t2,Z⟩ | ⟨t1,t2,Z⟩
     ·rw[Z]at oP;cases oj with
      | dead=>cases t2
      | row g2 qs n2 e2 f2=>rw[W.inj i0 j0 _ _ _ _ _ _ _ _ _ _ _ _ _ r1 t1 qe oP]
     ·rw[Z]at oP;exact(WI i0 ar.dead _ _ _ _ _ _ _ _ _ _ _ _ _ r1 qe t1 t2 oP).elim
   ·rw[B]at qe;rcases inv j _ hj with⟨j0,oj,rfl,t1,t2,Z⟩ | ⟨t1,t2,Z⟩
    ·rw[Z]at oP;cases oj with
     | dead=>cases t2
     | row g2 qs n2 e2 f2=>exact(WI j0 ar.dead _ _ _ _ _ _ _ _ _ _ _ _ _ t1 oP r1 m qe).elim
    ·rw[Z]at oP;exact A.inj i j _ _ _ _ _ _ _ _ _ _ _ _ _ m t2 qe oP
def dS (is:List Nat) (N:Nat) (j:Nat):Nat:=match is[j]? with
 | some id=>id
 | none=>N+(j - is.length)
def rC (h:List ar):List Nat->List ar->List ar
 | id::r,o::l=>rC (h.set id o) r l
 | _,_=>h
def wE (h:List ar) (is:List Nat) (h0:List ar):List ar:=
 rC h is (h0.map (xN (dS is h.length)))++(h0.drop is.length).map (xN (dS is h.length))
theorem gL:∀(is:List Nat) (l h:List ar),(rC h is l).length=h.length
 | [],[],_=>rfl
 | [],_::_,_=>rfl
 | _::_,[],_=>rfl
 | id::r,o::l,h=>by simp only[rC];rw[gL r l];simp
theorem yI:∀(is:List Nat) (l h:List ar) (id:Nat),id∉is->(rC h is l)[id]? =h[id]?
 | [],[],_,_,_=>rfl
 | [],_::_,_,_,_=>rfl
 | _::_,[],_,_,_=>rfl
 | i::r,o::l,h,id,a=>by
  simp only[afW,not_or]at a;simp only[rC];rw[yI r l _ id a.2,agi (agX a.1)]
theorem DI:∀(is:List Nat) (l h:List ar) (j id:Nat) (o:ar),is.Nodup->is[j]? =some id->l[j]? =some o->id<h.length->(rC h is l)[id]? =some o
 | [],_,_,_,_,_,_,h1,_,_=>by simp at h1
 | _::_,[],_,_,_,_,_,_,h2,_=>by simp at h2
 | i::r,b::l,h,j,id,o,hd,h1,h2,a=>by
  simp only[List.nodup_cons]at hd;simp only[rC];cases j with
  | zero=>
   simp at h1 h2;subst h1 h2;rw[yI r l _ _ hd.1];simp [a]
  | succ j=>
   exact DI r l _ j id o hd.2 ajH ajG (by simpa using a)
theorem YR (is:List Nat) (h:List ar) (hd:is.Nodup) (a:∀id∈is,id<h.length):Sel (dS is h.length) is.length h where
 lt j hj:=by
  unfold dS;rw[No hj];exact a _ (afQ hj)
 new j hj:=by
  unfold dS;rw[agf hj]
 inj i j hi hj he:=by
  unfold dS at he;rw[No hi,No hj]at he;exact(List.getElem_inj hd).1 he
theorem R3 (is:List Nat) (h h0:List ar) (hd:is.Nodup) (b:∀id∈is,id<h.length) (hle:is.length<=h0.length):WE (dS is h.length) h h0 (wE h is h0) where
 len:=by unfold wE;rw[agP,gL];omega
 MM id a:=by
  unfold wE;rcases agI id h.length with h1 | h1
  ·rw[ago (by rw[gL];exact h1),yI];intro hm;obtain⟨j,hj,rfl⟩:=agr.1 hm;refine a j ajo ?_;unfold dS;rw[No hj]
  ·rw[agh (by rw[gL];exact h1),gL,agf h1,agf];simp only[ahp,ahX];rcases agI (id - h.length) (h0.length - is.length)with h2 | h2
   ·refine(a (is.length+(id - h.length)) ajo ?_).elim;unfold dS;rw[agf ajo];simp;omega
   ·exact h2
 TW j o hj:=by
  have c:=(An.1 hj).1;unfold wE;rcases agI j is.length with h1 | h1
  ·have hs:dS is h.length j=is[j]:=by unfold dS;rw[No h1]
   have hl:=b _ (afQ h1);rw[hs,ago (by rw[gL];exact hl)];exact DI is _ h j _ _ hd (No h1) (by rw[agd,hj];rfl) hl
  ·have hs:dS is h.length j=h.length+(j - is.length):=by unfold dS;rw[agf h1]
   rw[hs,agh (by rw[gL];omega),gL,agd,agZ];rw[show is.length+(h.length+(j - is.length) - h.length)=j from by omega,hj];rfl
theorem ACall.over {f:FuncId} {args a:List PV} {R:PV->List ar->Prop} (c:ACall P f args hc R) (is:List Nat) (h:List ar) (hl:hc.length=is.length) (hd:is.Nodup) (b:∀id∈is,id<h.length)
  (d:∀j o,hc[j]? =some o->h[dS is h.length j]? =some (xN (dS is h.length) o)) (e:a=args.map (xO (dS is h.length))):
  ACall P f a h (λres h'=>∃r0 h0,R r0 h0/\res=zl (dS is h.length) r0/\h'=wE h is h0):=
 c.TW h (by rw[hl];exact YR is h hd b) d e (wE h is) (λh0 hle=>R3 is h h0 hd b ajo)
end
def look (l:List (Nat×TI)) (t:Nat):TI:=match l with
 | []=>.other
 | (k,ti)::r=>match Nat.beq t k with
  | true=>ti
  | false=>look r t
def xY (l:List (Nat×TI)):sI:=⟨look l⟩
def iC:List Value->List PV->Bool
 | [],[]=>true
 | .int k n::r,.int c d::a=>uB k c&&n==d&&iC r a
 | .bool b::r,.bool e::a=>b==e&&iC r a
 | .string s::r,.str f::a=>s.data.toList==f&&iC r a
 | .slice none 0 0::r,.au::a=>iC r a
 | .pointer none::r,.jq::a=>iC r a
 | _,_=>false
def vE (P:Program) (t n:Nat):Bool:=match P.info? t with
 | some i=>Nat.beq i.size n
 | none=>false
def vb (P:Program):List Field->List (Nat×Nat×Bool)->Bool
 | [],[]=>true
 | f::r,(off,size,a)::b=>Nat.beq f.offset off&&vE P f.type size&&Nat.blt 0 size&&(match P.underlying f.type with | some d=>a==Df d | none=>false)&&vb P r b
 | _,_=>false
def HU:Value->PV->Bool
 | .int k n,.int a c=>uB k a&&n==c
 | .bool b,.bool d=>b==d
 | .string s,.str e=>s.data.toList==e
 | _,_=>false
theorem HV {v:Value} {z:PV} (h:HU v z=true):uC z v/\lC z=true/\storable z=true:=by
 unfold HU at h;split at h
 ·simp only[As,agJ]at h;obtain⟨h1,rfl⟩:=h;obtain rfl:=eY h1;exact⟨rfl,rfl,rfl⟩
 ·rw[agJ]at h;subst h;exact⟨rfl,rfl,rfl⟩
 ·rw[agJ]at h;subst h;exact⟨rfl,rfl,rfl⟩
 ·cases h
def rn (P:Program) (t:Nat):TI->Bool
 | .int k=>(match P.underlying t with | some (.int b)=>uB k b | _=>false)&&vE P t 1
 | .bool=>(match P.underlying t with | some .bool=>true | _=>false)&&vE P t 1
 | .str=>(match P.underlying t with | some .string=>true | _=>false)&&vE P t 1
 | .ptr e=>(match P.underlying t with | some (.pointer a)=>Nat.beq e a | _=>false)&&vE P t 1
 | .slice e sz c z=>(match P.underlying t with | some (.slice a)=>Nat.beq e a | _=>false)&&vE P t 1&&Nat.blt 0 sz&&Nat.blt 0 c&&
   (match P.info? e with
    | some i=>Nat.beq i.size sz&&Nat.beq i.bytes c&&(match i.zero with | some zv=>Nat.beq zv.cells.size sz&&iC zv.cells.toList z | none=>false)
    | none=>false)
 | .struct sz fl z=>(!(Bi z)||HF P t z)&&(match P.underlying t with | some (.struct fs)=>vb P fs.toList fl | _=>false)&&
   (match P.info? t with
    | some i=>Nat.beq i.size sz&&(match i.zero with | some zv=>Nat.beq zv.cells.size sz&&iC zv.cells.toList z | none=>false)
    | none=>false)
 | .map k e z=>(match P.underlying t with | some (.map b a)=>Nat.beq k b&&Nat.beq e a | _=>false)&&vE P t 1&&(match P.info? e with
   | some i=>(match i.zero with | some zv=>HU zv z | none=>false)
   | none=>false)
 | .other=>true
def zeroAt (P:Program) (t:Nat) (z:List PV) (n:Nat):Bool:=match P.info? t with
 | some i=>match i.zero with
  | some zv=>Nat.beq zv.cells.size n&&Nat.beq z.length n&&iC zv.cells.toList z
  | none=>false
 | none=>false
def UM (P:Program) (t:Nat) (ti:TI):Bool:=rn P t ti&&(match Dg ti with | some z=>zeroAt P t z (ng ti) | none=>true)
theorem w8:∀(vs:List Value) (z:List PV),iC vs z=true->vs.length=z.length/\∀(j:Nat) (u:Value),vs[j]? =some u->∃pv:PV,z[j]? =some pv/\u.oneCell'=true/\∀S w,bz S w pv u:=by
 intro vs;induction vs with
 | nil=>
  intro z d;cases z with
  | nil=>exact⟨rfl,λj u hj=>by simp at hj⟩
  | cons a r=>simp [iC]at d
 | cons v vs g=>
  intro z d;cases z with
  | nil=>cases v<;>simp [iC]at d
  | cons p z=>
   have step:∀(e:iC vs z=true) (f:v.oneCell'=true) (hp:∀S w,bz S w p v),(v::vs).length=(p::z).length/\∀(j:Nat) (u:Value),(v::vs)[j]? =some u->∃pv:PV,(p::z)[j]? =some pv/\u.oneCell'=true/\∀S w,bz S w pv u:=by
    intro e f hp;obtain⟨h1,h2⟩:=g z e;refine⟨by simp [h1],λj u hj=>?_⟩;cases j with
    | zero=>simp at hj;subst hj;exact⟨p,rfl,f,hp⟩
    | succ j=>simp at hj;obtain⟨pv,q1,q2⟩:=h2 j u hj;exact⟨pv,by simpa using q1,q2⟩
   cases v with
   | int k n=>
    cases p<;>simp [iC]at d;obtain⟨⟨hk,h⟩,d⟩:=d;have:=eY hk;subst this h;exact step d rfl λS w=>.int _ _
   | bool b=>
    cases p<;>simp [iC]at d;obtain⟨hb,d⟩:=d;subst hb;exact step d rfl λS w=>.bool _
   | string s=>
    cases p<;>simp [iC]at d;obtain⟨hs,d⟩:=d;subst hs;exact step d rfl λS w=>bz.str _
   | slice a n c=>
    cases a with
    | some a=>cases p<;>simp [iC]at d
    | none=>
     cases n with
     | succ n=>cases p<;>simp [iC]at d
     | zero=>
      cases c with
      | succ c=>cases p<;>simp [iC]at d
      | zero=>
       cases p<;>simp [iC]at d;exact step d rfl λS w=>.au
   | pointer a=>
    cases a with
    | some a=>cases p<;>simp [iC]at d
    | none=>
     cases p<;>simp [iC]at d;exact step d rfl λS w=>.jq
   | _=>cases p<;>simp [iC]at d
theorem mf {P:Program} {t n:Nat} (h:vE P t n=true):∃i,P.info? t=some i/\i.size=n:=by
 unfold vE at h;split at h
 ·rename_i i hi;exact⟨i,hi,afM h⟩
 ·cases h
theorem yk {P:Program}:∀(fs:List Field) (fl:List (Nat×Nat×Bool)),vb P fs fl=true->fl.length=fs.length/\
  ∀(k:Nat) (off size:Nat) (a:Bool),fl[k]? =some (off,size,a)->∃f j d,fs[k]? =some f/\f.offset=off/\P.info? f.type=some j/\j.size=size/\0<size/\P.underlying f.type=some d/\a=Df d
 | [],[],_=>⟨rfl,λk off size a hk=>by simp at hk⟩
 | [],_::_,h=>by simp [vb]at h
 | _::_,[],h=>by simp [vb]at h
 | f::r,(off,size,a)::e,h=>by
  simp only[vb,As]at h;obtain⟨⟨⟨⟨h1,h2⟩,h3⟩,h4⟩,h5⟩:=h;obtain⟨q1,q2⟩:=yk r e h5;refine⟨by simp [q1],λk g b c hk=>?_⟩;cases k with
  | zero=>
   simp at hk;obtain⟨rfl,rfl,rfl⟩:=hk;obtain⟨j,hj,i⟩:=mf h2;cases hu:P.underlying f.type with
   | none=>rw[hu]at h4;cases h4
   | some d=>
    rw[hu]at h4;exact⟨f,j,d,rfl,afM h1,hj,i,by simpa using h3,hu,by simpa using h4⟩
  | succ k=>exact q2 k g b c ajQ
theorem Kj:∀(l:List (Nat×TI)) (t:Nat) (ti:TI),look l t=ti->ti=.other\/(t,ti)∈l
 | [],t,ti,h=>.inl h.symm
 | (k,x)::r,t,ti,h=>by
  unfold look at h;split at h
  ·rename_i hb;have:=afM hb;subst this h;exact .inr ajq
  ·rcases Kj r t ti h with h1 | h1
   ·exact .inl h1
   ·exact .inr (by simp [h1])
theorem aac {P:Program} {l:List (Nat×TI)} (hl:l.all (λp=>UM P p.1 p.2)=true):dL P (xY l):=by
 have m:∀t ti,(xY l).get t=ti->ti≠.other->UM P t ti=true:=λt ti a o=>by
  rcases Kj l t ti a with h1 | h1
  ·exact(o h1).elim
  ·exact(afS.1 hl) _ h1
 have all:∀t ti,(xY l).get t=ti->ti≠.other->rn P t ti=true:=λt ti a o=>by
  have:=m t ti a o;simp only[UM,As]at this;exact this.1
 have zero:∀t z,Dg ((xY l).get t)=some z->∃i zv,P.info? t=some i/\i.zero=some zv/\zv.cells.size=ng ((xY l).get t)/\z.length=ng ((xY l).get t)/\
   ∀(j:Nat) (u:Value),zv.cells[j]? =some u->∃pv:PV,z[j]? =some pv/\u.oneCell'=true/\∀S w,bz S w pv u:=λt z c=>by
  have:=m t _ rfl (by intro h0;rw[h0]at c;cases c);simp only[UM,As]at this;have:=this.2;rw[c]at this;simp only[zeroAt]at this;split at this
  ·rename_i i hi;split at this
   ·rename_i zv q;simp only[As]at this;obtain⟨⟨h1,h2⟩,h3⟩:=this;obtain⟨_,g⟩:=w8 _ _ h3;exact⟨i,zv,hi,q,afM h1,afM h2,λj u hj=>g j u ajy⟩
   ·cases this
  ·cases this
 have one:∀t,ng ((xY l).get t)=1->(∀sz fl z,(xY l).get t≠.struct sz fl z)->∃i,P.info? t=some i/\i.size=1:=λt h1 h2=>by
  cases a:(xY l).get t with
  | other=>rw[a]at h1;cases h1
  | struct sz fl z=>exact(h2 _ _ _ a).elim
  | int k=>have:=all t _ a ajq;simp only[rn,As]at this;exact mf this.2
  | bool=>have:=all t _ a ajq;simp only[rn,As]at this;exact mf this.2
  | str=>have:=all t _ a ajq;simp only[rn,As]at this;exact mf this.2
  | ptr e=>have:=all t _ a ajq;simp only[rn,As]at this;exact mf this.2
  | map k e z=>have:=all t _ a ajq;simp only[rn,As]at this;exact mf this.1.2
  | slice e sz b z=>have:=all t _ a ajq;simp only[rn,As]at this;exact mf this.1.1.1.2
 refine⟨λt sz fl z a c=>by
   have:=all t _ a ajq;simp only[rn,As,ahe,agA]at this;rcases this.1.1 with h | h
   ·rw[c]at h;cases h
   ·exact h,λt k a=>?_,λt a=>?_,λt a=>?_,λt e a=>?_,λt e sz b z a=>?_,λt k e z a=>?_,λt e sz b z a=>?_,one,zero,λt sz fl z a=>?_⟩
 ·have:=all t _ a ajq;simp only[rn,As]at this;have:=this.1;split at this
  ·rename_i s hu;rw[hu,eY this]
  ·cases this
 ·have:=all t _ a ajq;simp only[rn,As]at this;have:=this.1;split at this
  ·assumption
  ·cases this
 ·have:=all t _ a ajq;simp only[rn,As]at this;have:=this.1;split at this
  ·assumption
  ·cases this
 ·have:=all t _ a ajq;simp only[rn,As]at this;have:=this.1;split at this
  ·rename_i r hu;rw[hu,afM this]
  ·cases this
 ·have:=all t _ a ajq;simp only[rn,As]at this;obtain⟨⟨⟨⟨h1,h2⟩,h3⟩,h4⟩,h5⟩:=this;refine⟨?_,by simpa using h3,?_⟩
  ·split at h1
   ·rename_i r hu;rw[hu,afM h1]
   ·cases h1
  ·split at h5
   ·rename_i i hi;simp only[As]at h5;obtain⟨⟨q1,q2⟩,q3⟩:=h5;split at q3
    ·rename_i zv c;simp only[As]at q3;obtain⟨r1,g⟩:=w8 _ _ q3.2;have n:=afM q3.1;refine⟨i,zv,hi,afM q1,afM q2,c,n,?_,λj u hj=>g j u ajy⟩;rw[<-r1,<-n];simp
    ·cases q3
   ·cases h5
 ·have:=all t _ a ajq;simp only[rn,As]at this;obtain⟨⟨h1,_⟩,h3⟩:=this;refine⟨?_,?_⟩
  ·split at h1
   ·rename_i s r hu;simp only[As]at h1;rw[hu,afM h1.1,afM h1.2]
   ·cases h1
  ·split at h3
   ·rename_i i hi;split at h3
    ·rename_i zv c;exact⟨i,zv,hi,c,HV h3⟩
    ·cases h3
   ·cases h3
 ·have:=all t _ a ajq;simp only[rn,As]at this;simpa using this.1.2
 ·have:=all t _ a ajq;simp only[rn,As]at this;obtain⟨⟨_,h1⟩,h2⟩:=this;split at h1
  ·rename_i fs hu;obtain⟨q1,q2⟩:=yk _ _ h1;split at h2
   ·rename_i i hi;simp only[As]at h2;obtain⟨r1,g⟩:=h2;split at g
    ·rename_i zv c;simp only[As]at g;obtain⟨s1,v⟩:=w8 _ _ g.2;have n:=afM g.1;refine⟨fs,i,hu,hi,afM r1,by simpa using q1,⟨zv,c,n,by rw[<-s1,<-n];simp,λj u hj=>v j u ajy⟩,λk off size x hk=>?_⟩;obtain⟨f,j,d,t1,t2⟩:=q2 k off size x hk;exact⟨f,j,d,by simpa using t1,t2⟩
    ·cases g
   ·cases h2
  ·cases h1
section
variable {h η:List ar}{k:List Nat}
theorem Fz.int_eq {a:IntKind} {n b:Int} (he:n=b):Fz h η k (.int a n) (.int a b):=by subst he;exact .int _ _
theorem Fz.Oa {b a:Bool} (he:b=a):Fz h η k (.bool b) (.bool a):=by subst he;exact .bool _
theorem Fz.R4 {s a:List UInt8} (he:s=a):Fz h η k (.str s) (.str a):=by subst he;exact .str _
theorem Fz.R5 {id g sz n off len c a:Nat} {e:TypeId} {f b:Nat->List PV} (hk:id∉k) (d:h[id]? =some (ar.row g sz n e f)) (h1:sz=c) (h2:len=a) (hp:∀i,i<a->(b i).all bW=true)
  (hf:∀i,i<a->wB h η k (f (off+i)) (b i)):Fz h η k (.own id g off len) (.gn c a b):=by
 subst h1 h2;exact .frz id g sz n off len e f b hk d (λi hi=>(wB.get _ _ (hf i hi)).1) (λi j pv hi hj=>(afS.1 (hp i hi)) pv (afX hj)) (λi j pv l hi h1 h2 _=>(wB.get _ _ (hf i hi)).2 j pv l h1 h2)
theorem Fz.cK {cs a:List PV} (hl:wB h η k cs a):Fz h η k (.agg cs) (.agg a):=.agg _ _ (wB.get _ _ hl).1 (wB.get _ _ hl).2
theorem Fz.qQ {cs a:List PV} (hl:wB h η k cs a):Fz h η k (.hJ cs) (.hJ a):=.hJ _ _ (wB.get _ _ hl).1 (wB.get _ _ hl).2
theorem HW {α:Type} {i l:Nat} {a b:α} (c:i<l):(bif Nat.blt i l then a else b)=a:=by
 have hb:Nat.blt i l=true:=by simpa using c
 rw[hb];rfl
theorem MN {α:Type} {i l:Nat} {a b:α} (c:l<=i):(bif Nat.blt i l then a else b)=b:=by
 have hb:Nat.blt i l=false:=by
  cases hh:Nat.blt i l with
  | true=>
   have:i<l:=by simpa using hh
   omega
  | false=>rfl
 rw[hb];rfl
end
theorem B4 {x:Int} (h1: -9223372036854775808<=x) (h2:x<=9223372036854775807):IntKind.i64.wrap x=x:=by rw[IntKind.wrap_i64];omega
theorem ACall.WJ {P:Program} {f:FuncId} {args a:List PV} {R:PV->List ar->Prop} (e:ACall P f a [] R) (h:List ar) (g:wB h [] [] args a) (i:a.all mh=true)
  (b:∀r0 h0,R r0 h0->DJ r0=true/\∀o∈h0,zO o):
  ACall P f args h (λres h'=>∃r0 h0,R r0 h0/\res=qC h.length r0/\h'=h++h0.map (ff h.length)):=by
 obtain⟨h1,h2⟩:=wB.get _ _ g;exact e.snap h h1 (λj pv c q1 q2=>⟨h2 j pv c q1 q2,(afS.1 i) c (afX q2)⟩) (λr0 h0 d=>⟨(b r0 h0 d).1,λo k=>((b r0 h0 d).2 o k).p⟩)
theorem ACall.abS {P:Program} {f:FuncId} {args a:List PV} {R:PV->List ar->Prop} (c:ACall P f a [] R) (h:List ar) (d:wB h [] [] args a) (e:a.all mh=true)
  (g:∀r0 h0,R r0 h0->DJ r0=true/\∀o∈h0,zP o):
  ACall P f args h (λres h'=>∃r0 h0,R r0 h0/\res=qC h.length r0/\h'=h++h0.map (ff h.length)):=by
 obtain⟨h1,h2⟩:=wB.get _ _ d;exact c.snap h h1 (λj pv b q1 q2=>⟨h2 j pv b q1 q2,(afS.1 e) b (afX q2)⟩) g
theorem Fz.snap {h:List ar} {id g sz n off len c a:Nat} {e:TypeId} {f b:Nat->List PV} (d:h[id]? =some (ar.row g sz n e f)) (h1:sz=c) (h2:len=a) (hp:∀i,i<a->(b i).all bW=true)
  (hf:∀i,i<a->wB h [] [] (f (off+i)) (b i)):Fz h [] [] (.own id g off len) (.gn c a b):=.R5 ajq d h1 h2 hp hf
theorem ACall.heq {P:Program} {f:FuncId} {args:List PV} {h h2:List ar} {R:PV->List ar->Prop} (r:ACall P f args h R) (he:eA h2 h):ACall P f args h2 R:=by
 refine⟨r.1,λw vs μ S s t u A=>?_⟩;obtain⟨c,d⟩:=he.core ⟨s,t⟩;refine(r.2 w vs μ S c d u (λj pv hj=>?_)).mono ?_
 ·obtain⟨v,h1,h3⟩:=A j pv hj;exact⟨v,h1,he.Pf h3⟩
 ·rintro e w' ⟨v,res,h',μ',S',rfl,B,hv,i,l,a⟩;refine⟨v,res,h',μ',S',rfl,B,hv,i,l,⟨by rw[he.len];exact a.len,λb hb m=>a.blocks b hb (λo=>m (he.AU o)),a.sub,λb hb=>?_,λb hb=>?_,a.size,a.os,a.tape,a.output,λid g sz n e f hid=>?_,λid hid=>a.dead id (he.getD hid),λb k m hc=>a.df b k (he.owned m) hc,λid g sz n e f b base hid hm p=>?_,λb x y z o p=>a.yg b x y z (he.hid o) p⟩⟩
  ·rcases a.new b hb with h1 | h1 | h1
   ·exact .inl h1
   ·exact .inr (.inl (he.AU h1))
   ·exact .inr (.inr h1)
  ·rcases a.own b hb with h1 | h1
   ·exact .inl (he.AU h1)
   ·exact .inr h1
  ·obtain⟨q,h1,_⟩:=he.get hid;exact a.Dx id g sz n e q h1
  ·obtain⟨q,h1,_⟩:=he.get hid;exact a.maps id g sz n e q b base h1 hm p
abbrev cx:=List UInt8
abbrev ah (x:Int):Int:=IntKind.i64.wrap x
theorem bind_some {α β:Type} {x:Option α} {f:α->Option β} {r:β} (h:(x>>=f)=some r):∃a,x=some a/\f a=some r:=by
 cases x with
 | none=>cases h
 | some a=>exact⟨a,rfl,h⟩
def idx {α:Type} [Inhabited α] (l:List α) (i:Int):Option α:=if 0<=i/\i<(l.length:Int)then some (l.getD i.toNat default)else none
def sR (s:cx) (i:Int):Option UInt8:=if 0<=i/\i<(s.length:Int)then some (s.getD i.toNat 0)else none
def Pn (s:cx) (lo hi:Int):Option cx:=if 0<=lo/\lo<=hi/\hi<=(s.length:Int)then some ((s.take hi.toNat).drop lo.toNat)else none
def Jl (s:cx) (lo:Int):Option cx:=if 0<=lo/\lo<=(s.length:Int)then some (s.drop lo.toNat)else none
def WK {α:Type} (s:List α) (hi:Int):Option (List α):=if 0<=hi/\hi<=(s.length:Int)then some (s.take hi.toNat)else none
def sQ (a b:cx):Option cx:=if a.length+b.length<=4611686018427387904 then some (a++b)else none
def pQ {α:Type} (bytes:Nat) (a b:List α):Option (List α):=if(a.length+b.length)*bytes<=140737488355328 then some (a++b)else none
def fF {α:Type} [Inhabited α] (bytes:Nat) (n m:Int):Option (List α):=if 0<=n/\n<=m/\m<=4611686018427387904/\m.toNat*bytes<=140737488355328 then some (List.replicate n.toNat default)else none
def must (p:Prop) [Decidable p]:Option Unit:=if p then some ()else none
theorem dI {α:Type} {c:Prop} [Decidable c] {x r:α} (h:(if c then some x else none)=some r):c/\x=r:=by
 by_cases hc:c
 ·rw[an hc]at h;exact⟨hc,agy h⟩
 ·rw[mg hc]at h;cases h
theorem xx {p:Prop} [Decidable p] {u:Unit} (h:must p=some u):p:=(dI h).1
section
variable {α:Type}{x y r:α}
theorem WL {p:Prop} [Decidable p] (hb:decide p=true) (h:(if p then x else y)=r):x=r:=by rw[an (of_decide_eq_true hb)]at h;exact h
theorem WM {p:Prop} [Decidable p] (hb:decide p=false) (h:(if p then x else y)=r):y=r:=by rw[mg (of_decide_eq_false hb)]at h;exact h
theorem R6 {β:Type} [BEq β] [LawfulBEq β] {a b:β} [Decidable (a=b)] (hb:(a==b)=true) (h:(if a=b then x else y)=r):x=r:=by rw[an (eq_of_beq hb)]at h;exact h
theorem R7 {β:Type} [BEq β] [LawfulBEq β] {a b:β} [Decidable (a=b)] (hb:(a==b)=false) (h:(if a=b then x else y)=r):y=r:=by rw[mg (ne_of_beq_false hb)]at h;exact h
theorem abT {β:Type} [BEq β] [LawfulBEq β] {a b:β} [Decidable (a=b)] (hb:(a != b)=true) (h:(if a=b then x else y)=r):y=r:=R7 (by simpa[bne]using hb) h
theorem abU {β:Type} [BEq β] [LawfulBEq β] {a b:β} [Decidable (a=b)] (hb:(a != b)=false) (h:(if a=b then x else y)=r):x=r:=R6 (by simpa[bne]using hb) h
theorem WN {b:Bool} (hb:b=true) (h:(if b=true then x else y)=r):x=r:=by rw[an hb]at h;exact h
theorem WO {b:Bool} (hb:b=false) (h:(if b=true then x else y)=r):y=r:=by rw[mg (by rw[hb];decide)]at h;exact h
end
theorem R8 {b:Bool} (h:(!b)=false):b=true:=by cases b<;>simp_all
theorem R9 {b:Bool} (h:(!b)=true):b=false:=by cases b<;>simp_all
theorem Sa {T F:Prop} (h:T):eN true T F:=.mk (λ_=>h) (λh=>by cases h)
theorem Sb {T F:Prop} (h:F):eN false T F:=.mk (λh=>by cases h) (λ_=>h)
theorem Po {b:Bool} {T F:Prop} (hb:b=true) (h:T):eN b T F:=.mk (λ_=>h) (λh=>by rw[hb]at h;cases h)
theorem Pp {b:Bool} {T F:Prop} (hb:b=false) (h:F):eN b T F:=.mk (λh=>by rw[hb]at h;cases h) (λ_=>h)
section
variable {α:Type}{l m:List α}{lo hi:Int}
theorem HX (h:WK l hi=some m):0<=hi/\hi<=(l.length:Int):=(dI h).1
theorem mP {b:Nat} {q:List α} (h:pQ b l m=some q):(l.length+m.length)*b<=140737488355328:=(dI h).1
theorem kg {b:Nat} {q:List α} (h:pQ b l m=some q):q.length=l.length+m.length:=by rw[<-(dI h).2];simp
theorem Cr (h:WK l hi=some m):m.length=hi.toNat:=by
 have hb:=HX h;rw[<-(dI h).2];simp;omega
end
def row {α:Type} (c:α->List PV) (l:List α):Nat->List PV:=λi=>(l.map c).getD i []
abbrev sl {α:Type} (sz:Nat) (c:α->List PV) (l:List α):PV:=.gn sz l.length (row c l)
def cI (x:Int):List PV:=[.int .i64 x]
def YS (k:IntKind) (x:Int):List PV:=[.int k x]
def cB (x:UInt8):List PV:=[.int .u8 x.toNat]
def cT (x:Bool):List PV:=[.bool x]
def cS (x:cx):List PV:=[.str x]
def cL {α:Type} (sz:Nat) (c:α->List PV) (x:List α):List PV:=[sl sz c x]
section
variable {α:Type}{c:α->List PV}{l m:List α}{x x':α}{i lo hi:Int}
theorem UO (x:Int):(cI x).all bW=true:=rfl
theorem Pq (k:IntKind) (x:Int):(YS k x).all bW=true:=rfl
theorem UP (x:UInt8):(cB x).all bW=true:=rfl
theorem UQ (x:Bool):(cT x).all bW=true:=rfl
theorem UR (x:cx):(cS x).all bW=true:=rfl
theorem US {β:Type} (sz:Nat) (d:β->List PV) (x:List β):(cL sz d x).all bW=true:=rfl
theorem Hi (x:Int):cB (UInt8.ofNat (IntKind.u8.wrap x).toNat)=[.int .u8 (IntKind.u8.wrap x)]:=by
 have h:0<=IntKind.u8.wrap x/\IntKind.u8.wrap x<256:=by
  have:=IntKind.wrap_u8 x;omega
 unfold cB;congr 2;rw[UInt8.toNat_ofNat'];omega
theorem nq {k:Nat} (h:k<l.length):row c l k=c l[k]:=by unfold row;simp [afP,h]
theorem kD {k:Nat} (h:l[k]? =some x):row c l k=c x:=by unfold row;simp [afP,h]
theorem pa (hp:∀x,(c x).all bW=true) (k:Nat):(row c l k).all bW=true:=by
 by_cases h:k<l.length
 ·rw[nq h];exact hp _
 ·unfold row;simp [afP,agf (show l.length<=k by omega)]
theorem Gh {s:cx} {k:Nat} (h:k<s.length):row cB s k=[.int .u8 (s.getD k 0).toNat]:=by
 rw[nq h];simp [cB,afP,h]
theorem ji {s:cx} {b:UInt8} (h:sR s i=some b):0<=i/\i<(s.length:Int):=(dI h).1
theorem jj {s:cx} {b:UInt8} (h:sR s i=some b):s.getD i.toNat 0=b:=(dI h).2
theorem Ob {s t:cx} (h:Pn s lo hi=some t):0<=lo/\lo<=hi/\hi<=(s.length:Int):=(dI h).1
theorem Oc {s t:cx} (h:Pn s lo hi=some t):(s.take hi.toNat).drop lo.toNat=t:=(dI h).2
theorem QT {s t:cx} (h:Jl s lo=some t):0<=lo/\lo<=(s.length:Int):=(dI h).1
theorem QU {s t:cx} (h:Jl s lo=some t):s.drop lo.toNat=t:=(dI h).2
theorem jJ {s t u:cx} (h:sQ s t=some u):s.length+t.length<=4611686018427387904:=(dI h).1
theorem jK {s t u:cx} (h:sQ s t=some u):s++t=u:=(dI h).2
theorem UT (h:WK l hi=some m):∀i,i<m.length->row c m i=row c l i:=λi a=>by
 have hl:=Cr h
 have hm:l[i]? =some m[i]:=by
  rw[<-No a,<-(dI h).2,ahq,an ajo]
 rw[nq a,kD hm]
def yl (c:α->List PV) (f:Nat->List PV) (off:Nat) (l:List α):Prop:=∀i,i<l.length->f (off+i)=row c l i
theorem b8:yl c (row c l) 0 l:=λi _=>by rw[so]
theorem Gi {f:Nat->List PV} {off:Nat} (hs:yl c f off l) (h:WK l hi=some m):yl c f off m:=λi a=>by
 have hb:=HX h;have hl:=Cr h;rw[UT h i a];exact hs _ ajo
theorem kq {s:cx} {f:Nat->List PV} {off n:Nat} (hs:yl cB f off s) (a:s.length=n):∀i,i<n->f (off+i)=[.int .u8 (s.getD i 0).toNat]:=λi hi=>by
 subst a;rw[hs i hi];exact Gh hi
theorem kO {b:Nat} {q:List α} {f g:Nat->List PV} {off:Nat} (h:pQ b l m=some q) (hf:yl c f off l) (hg:∀i,i<m.length->g i=row c m i):
  ∀i,i<q.length->oN (bif Nat.blt i l.length then f (off+i)else g (i - l.length)) (row c q i):=λi d=>by
 have hl:=kg h;have e:q=l++m:=(dI h).2.symm;subst e;by_cases a:i<l.length
 ·rw[HW a,hf i a,nq d,nq a,List.getElem_append_left a];exact oN.refl _
 ·rw[MN ajo,hg _ ajo,nq d,nq ajo,ahi ajo];exact oN.refl _
theorem Cs:∀i,i<m.length->row c m i=row c m i:=λ_ _=>rfl
theorem vF {f:Nat->List PV} {off:Nat} (hs:yl c f off m):∀i,i<m.length->f (off+i)=row c m i:=hs
theorem UU {s:cx}:∀i,i<s.length->[PV.int .u8 (s.getD i 0).toNat]=row cB s i:=λi hi=>(Gh hi).symm
def CLL:List (List PV)->List (List PV)->Prop
 | [],[]=>True
 | a::l,b::r=>oN a b/\CLL l r
 | _,_=>False
theorem kI {a b lit:List PV} {l r:List (List PV)} (e:b=lit) (h:oN a lit) (t:CLL l r):CLL (a::l) (b::r):=⟨by rw[e];exact h,t⟩
theorem ki:∀{l r:List (List PV)},l=r->CLL l r
 | [],_,rfl=>trivial
 | a::l,_,rfl=>⟨oN.refl _,ki rfl⟩
theorem Od:∀{l r:List (List PV)},CLL l r->∀i,oN (l.getD i []) (r.getD i [])
 | [],[],_,i=>by simp;exact trivial
 | a::l,b::r,h,0=>h.1
 | a::l,b::r,h,i+1=>by simpa using Od h.2 i
 | [],_::_,h,_=>h.elim
 | _::_,[],h,_=>h.elim
theorem gJ (c:α->List PV) (l:List α) {n:Nat} {cs:List (List PV)} (a:n=l.length) (h:CLL cs (l.map c)):∀i,i<n->oN (cs.getD i []) (row c l i):=λi _=>Od h i
theorem n7 {k n off:Nat} {a b lit:List PV} (hk:k<l.length) (he:c x'=lit) (hc:oN (dN a off b) lit):∀j,j<n->oN (bu (row c l) k (dN a off b) j) (row c (l.set k x') j):=λj _=>by
 rw[<-he]at hc;unfold row bu;by_cases hj:j=k
 ·subst hj;simpa[afP,hk]using hc
 ·have:Nat.beq j k=false:=by
   cases hb:Nat.beq j k with
   | false=>rfl
   | true=>exact absurd (afM hb) hj
  rw[this];simp only[cond_false,afP,agd,agi (agX hj)];exact oN.refl _
theorem Ue {a b new:List PV} {off:Nat} {f:Nat->List PV} (h:new=dN a off b):∀j,j<1->oN (bu f 0 (dN a off b) j) ((λ_=>new) j):=λj hj=>by
 obtain rfl:j=0:=by omega
 subst h;exact oN.refl _
end
section
variable {α:Type} [Inhabited α] {c:α->List PV} {l m:List α} {x x':α} {i lo hi:Int}
theorem aT (h:idx l i=some x):0<=i/\i<(l.length:Int):=(dI h).1
theorem Sd (h:idx l i=some x):l[i.toNat]? =some x:=by
 have hb:=aT h;have hl:i.toNat<l.length:=by omega
 rw[<-(dI h).2,afP,No hl];rfl
theorem cN (h:idx l i=some x):i.toNat<l.length:=by have hb:=aT h;omega
theorem aJ (h:idx l i=some x):row c l i.toNat=c x:=kD (Sd h)
theorem dT {b:Nat} {n k:Int} {q:List α} (h:fF b n k=some q):0<=n/\n<=k/\k<=4611686018427387904/\k.toNat*b<=140737488355328:=(dI h).1
theorem dr {b:Nat} {n k:Int} {q:List α} (h:fF b n k=some q):q.length=n.toNat:=by rw[<-(dI h).2];simp
theorem mG {b:Nat} {n k:Int} {q:List α} {z lit:List PV} (h:fF b n k=some q) (he:c default=lit) (a:oN z lit):∀i,i<q.length->oN z (row c q i):=λi d=>by
 have hl:=dr h;rw[kD (x:=default) (by rw[<-(dI h).2,agU,an ajo]),he];exact a
end
section
variable {h η:List ar}{k:List Nat}
theorem Ct {pv:PV} (hp:bW pv=true):Fz h η k pv pv:=by
 cases pv with
 | int k n=>exact .int _ _
 | bool b=>exact .bool _
 | str s=>exact .str _
 | au=>exact .au
 | jq=>exact .jq
 | gn sz n f=>exact .gn _ _ _ _ (λ_ _=>rfl)
 | fT cs=>exact .fT _
 | fn f=>exact .fn _
 | _=>cases hp
theorem tE:∀{l:List PV},l.all bW=true->wB h η k l l
 | [],_=>trivial
 | a::l,hp=>by
  simp only[ahu,As]at hp;exact⟨Ct hp.1,tE hp.2⟩
theorem Se {cs:List PV} (hp:cs.all bW=true):Fz h η k (.agg cs) (.agg cs):=.cK (tE hp)
def UW (h η:List ar) (k:List Nat):List (Nat×Nat)->List (Nat×Nat)->Prop
 | [],[]=>True
 | p::r,a::b=>(k[a.1]? =some p.1/\(∃sz n e f,h[p.1]? =some (ar.row p.2 sz n e f))/\∃sz n e f,η[a.1]? =some (ar.row a.2 sz n e f)/\0<n)/\UW h η k r b
 | _,_=>False
theorem UW.get:∀(l b:List (Nat×Nat)),UW h η k l b->b.length=l.length/\∀(j:Nat) (p a:Nat×Nat),l[j]? =some p->b[j]? =some a->
  k[a.1]? =some p.1/\(∃sz n e f,h[p.1]? =some (ar.row p.2 sz n e f))/\∃sz n e f,η[a.1]? =some (ar.row a.2 sz n e f)/\0<n
 | [],[],_=>⟨rfl,λj p a hj _=>by simp at hj⟩
 | [],_::_,hh=>hh.elim
 | _::_,[],hh=>hh.elim
 | q::r,g::d,hh=>by
  obtain⟨h1,h2⟩:=hh;obtain⟨q1,q2⟩:=UW.get r d h2;refine⟨by simp [q1],λj p a hj c=>?_⟩;cases j with
  | zero=>
   simp at hj c;subst hj c;exact h1
  | succ j=>exact q2 j p a ajy (by simpa using c)
theorem MO {α:Type} {c:α->List PV} (hp:∀x,(c x).all bW=true) {id g sz n off:Nat} {e:TypeId} {f:Nat->List PV} {l:List α} (hk:id∉k) (a:h[id]? =some (ar.row g sz n e f)) (hs:yl c f off l):
  Fz h η k (.own id g off l.length) (sl sz c l):=
 .R5 hk a rfl rfl (λi hi=>pa hp i) (λi hi=>by rw[hs i hi];exact tE (pa hp i))
theorem UX {α:Type} {c:α->List PV} (hp:∀x,(c x).all bW=true) {id g sz n off len:Nat} {e:TypeId} {f:Nat->List PV} {l:List α} (hk:id∉k) (a:h[id]? =some (ar.row g sz n e f)) (hs:yl c f off l) (hl:len=l.length):
  Fz h η k (.own id g off len) (sl sz c l):=by subst hl;exact MO hp hk a hs
end
theorem MP {α:Type} {c:α->List PV} (hp:∀x,(c x).all bW=true) (N g sz n:Nat) (e:TypeId) (l:List α):ff N (.row g sz n e (row c l))=.row g sz n e (row c l):=by
 suffices e:(λi=>(row c l i).map (qD N))=row c l by unfold ff;simp only[e]
 funext i;have h:=pa (l:=l) hp i;generalize row c l i=q at h;induction q with
 | nil=>rfl
 | cons a r b=>
  simp only[ahu,As]at h;rw[afO,b h.2];cases a<;>first | rfl | cases h.1
theorem ACall.abV {P:Program} {f:FuncId} {args:List PV} {r0:PV} (a:ACall P f args [] (λres h=>res=r0/\h=[])) (h:List ar) (hp:args.all Kk=true) (b:∀n,qC n r0=r0):
  ACall P f args h (λres h'=>res=r0/\h'=h):=
 (a.frame h hp).mono (by rintro _ _ ⟨_,_,⟨rfl,rfl⟩,rfl,rfl⟩;exact⟨b _,by simp⟩)
theorem ACall.abW {P:Program} {f:FuncId} {args a:List PV} {r0:PV} (b:ACall P f a [] (λres h=>res=r0/\h=[])) (h:List ar) (c:wB h [] [] args a) (d:a.all mh=true) (hf:DJ r0=true) (e:∀n,qC n r0=r0):
  ACall P f args h (λres h'=>res=r0/\h'=h):=
 (b.WJ h c d (by rintro _ _ ⟨rfl,rfl⟩;exact⟨hf,by simp⟩)).mono (by rintro _ _ ⟨_,_,⟨rfl,rfl⟩,rfl,rfl⟩;exact⟨e _,by simp⟩)
section
variable {κ β:Type} [DecidableEq κ]
def mU:List (κ×β)->κ->Option β
 | [],_=>none
 | (a,b)::r,k=>if k=a then some b else mU r k
def Ju (l:List (κ×β)) (k:κ) (z:β):β:=(mU l k).getD z
def Re (l:List (κ×β)) (k:κ):Bool:=(mU l k).isSome
def lx:List (κ×β)->κ->β->List (κ×β)
 | [],k,v=>[(k,v)]
 | (a,b)::r,k,v=>if k=a then(k,v)::r else(a,b)::lx r k v
def mc (c:κ->PV) (d:β->PV) (p:κ×β):List PV:=[c p.1,d p.2]
def scP:PV->Bool
 | .agg cs=>cs.all bW
 | v=>bW v
theorem xA {c:κ->PV} {d:β->PV} {ti:TI} (he:∀a b,nM ti (c a) (c b)=some (decide (a=b))):∀(l:List (κ×β)) (k:κ) (n:Nat),n<=l.length->(∀j,j<n->∀p,l[j]? =some p->k≠p.1)->FZ ti (row (mc c d) l) n (c k):=λl k n f h j hj=>by
 have e:j<l.length:=by omega
 refine⟨c l[j].1,d l[j].2,by rw[nq e];rfl,?_⟩;rw[he,afV (h j hj _ (No e))]
theorem Kl:∀(l:List (κ×β)) (k:κ) (b:β),mU l k=some b->∃i,i<l.length/\l[i]? =some (k,b)/\∀j,j<i->∀p,l[j]? =some p->k≠p.1
 | [],_,_,h=>by cases h
 | (a,c)::r,k,b,h=>by
  unfold mU at h;by_cases hk:k=a
  ·rw[an hk]at h;obtain rfl:=agy h;subst hk;exact⟨0,by simp,rfl,λj hj=>absurd hj (agz _)⟩
  ·rw[mg hk]at h;obtain⟨i,h1,h2,h3⟩:=Kl r k b h;refine⟨i+1,by simpa using h1,by simpa using h2,λj hj p hp=>?_⟩;cases j with
   | zero=>simp at hp;subst hp;exact hk
   | succ j=>exact h3 j ajo p ajF
theorem yJ:∀(l:List (κ×β)) (k:κ),mU l k=none->∀(j:Nat) (p:κ×β),l[j]? =some p->k≠p.1
 | [],_,_,j,p,hp=>by simp at hp
 | (a,b)::r,k,h,j,p,hp=>by
  unfold mU at h;by_cases hk:k=a
  ·rw[an hk]at h;cases h
  ·rw[mg hk]at h;cases j with
   | zero=>simp at hp;subst hp;exact hk
   | succ j=>exact yJ r k h j p ajF
theorem CX {c:κ->PV} {d:β->PV} {ti:TI} (he:∀a b,nM ti (c a) (c b)=some (decide (a=b))) (l:List (κ×β)) (k:κ) (z:β):Sf ti (row (mc c d) l) l.length (c k) (d z) (d (Ju l k z)) (Re l k):=by
 unfold Ju Re;cases h:mU l k with
 | some b=>
  obtain⟨i,h1,h2,h3⟩:=Kl l k b h;exact .inl ⟨rfl,i,h1,xA he l k i ajo h3,c k,by rw[kD h2];rfl,by rw[he,afU rfl]⟩
 | none=>exact .inr ⟨rfl,rfl,xA he l k _ (abF _) (λj _ p hp=>yJ l k h j p hp)⟩
theorem Gj:∀(l:List (κ×β)) (k:κ) (v:β),mU l k=none->lx l k v=l++[(k,v)]
 | [],_,_,_=>rfl
 | (a,b)::r,k,v,h=>by
  unfold mU at h;unfold lx;by_cases hk:k=a
  ·rw[an hk]at h;cases h
  ·rw[mg hk]at h;rw[mg hk,Gj r k v h];rfl
theorem Gk:∀(l:List (κ×β)) (k:κ) (v b:β),mU l k=some b->∃i,i<l.length/\l[i]? =some (k,b)/\(∀j,j<i->∀p,l[j]? =some p->k≠p.1)/\(lx l k v).length=l.length/\(lx l k v)[i]? =some (k,v)/\∀j,j≠i->(lx l k v)[j]? =l[j]?
 | [],_,_,_,h=>by cases h
 | (a,c)::r,k,v,b,h=>by
  unfold mU at h;unfold lx;by_cases hk:k=a
  ·rw[an hk]at h;obtain rfl:=agy h;rw[an hk];subst hk;exact⟨0,by simp,rfl,λj hj=>absurd hj (agz _),by simp,rfl,λj hj=>by cases j with | zero=>exact absurd rfl hj | succ j=>rfl⟩
  ·rw[mg hk]at h;obtain⟨i,h1,h2,h3,h4,h5,h6⟩:=Gk r k v b h;rw[mg hk];refine⟨i+1,by simpa using h1,by simpa using h2,λj hj p hp=>?_,by simpa using h4,by simpa using h5,λj hj=>?_⟩
   ·cases j with
    | zero=>simp at hp;subst hp;exact hk
    | succ j=>exact h3 j ajo p ajF
   ·cases j with
    | zero=>rfl
    | succ j=>simpa using h6 j ajo
theorem xy {c:κ->PV} {d:β->PV} {ti:TI} (he:∀a b,nM ti (c a) (c b)=some (decide (a=b))) (l:List (κ×β)) (k:κ) (v:β):abX ti (row (mc c d) l) l.length (c k) (d v) (lx l k v).length (row (mc c d) (lx l k v)):=by
 cases h:mU l k with
 | some b=>
  obtain⟨i,h1,h2,h3,h4,h5,h6⟩:=Gk l k v b h;refine .inl ⟨i,d b,⟨h1,xA he l k i ajo h3,c k,by rw[kD h2];rfl,by rw[he,afU rfl]⟩,h4,by rw[kD h5];rfl,λj hj e=>?_⟩;rw[kD (No hj),kD ((h6 j e).trans (No hj))]
 | none=>
  rw[Gj l k v h];refine .inr ⟨xA he l k _ (abF _) (λj _ p hp=>yJ l k h j p hp),by simp,?_,λj hj=>?_⟩
  ·rw[kD (x:=(k,v)) ajq];rfl
  ·rw[kD (No hj),kD (x:=l[j]) (by rw[ago hj,No hj])]
end
theorem WQ {h η:List ar} {k:List Nat} {pv:PV} (hp:scP pv=true):Fz h η k pv pv:=by
 cases pv with
 | agg cs=>exact Se hp
 | _=>exact Ct hp
theorem mI {h η:List ar} {k:List Nat} {κ β:Type} {c:κ->PV} {d:β->PV} (hc:∀x,scP (c x)=true) (hd:∀x,scP (d x)=true) {l:List (κ×β)} {n:Nat}:∀i,i<n->wB h η k (row (mc c d) l i) (row (mc c d) l i):=λi _=>by
 by_cases h:i<l.length
 ·rw[nq h];exact⟨WQ (hc _),WQ (hd _),trivial⟩
 ·unfold row;simp [afP,agf (show l.length<=i by omega)];trivial
theorem Pr:∀o∈([]:List ar),zO o:=λ_ h=>absurd h aia
theorem DK {a:ar} {l:List ar} (h1:zO a) (h2:∀o∈l,zO o):∀o∈a::l,zO o:=λo h=>by
 rcases afW.1 h with rfl | h
 ·exact h1
 ·exact h2 o h
theorem AX {α:Type} {c:α->List PV} (hf:∀x,(c x).all rS=true) {g sz:Nat} {e:TypeId} {l:List α}:zO (.row g sz l.length e (row c l)):=λi hi=>by
 rw[nq hi];exact hf _
theorem ln {a b:Nat} (h:a=b:=by first | rfl | simp):a=b:=h
class qN {α:Type} (c:α->List PV):Prop where
 pure:∀x,(c x).all bW=true
instance:qN cI:=⟨UO⟩
instance (k:IntKind):qN (YS k):=⟨Pq k⟩
instance:qN cB:=⟨UP⟩
instance:qN cT:=⟨UQ⟩
instance:qN cS:=⟨UR⟩
instance {α:Type} (sz:Nat) (c:α->List PV):qN (cL sz c):=⟨US sz c⟩
instance (a b:IntKind):qN (mc (PV.int a) (PV.int b)):=⟨λ_=>rfl⟩
instance (a:IntKind):qN (mc (PV.int a) PV.bool):=⟨λ_=>rfl⟩
instance (a:IntKind):qN (mc (PV.int a) PV.str):=⟨λ_=>rfl⟩
instance (b:IntKind):qN (mc PV.str (PV.int b)):=⟨λ_=>rfl⟩
instance:qN (mc PV.str PV.bool):=⟨λ_=>rfl⟩
instance:qN (mc PV.str PV.str):=⟨λ_=>rfl⟩
def WR {α:Type} (l:List α) (off:Nat) (s:List α):List α:=l.mapIdx λi x=>if i<off then x else if i<off+s.length then s.getD (i - off) x else x
@[simp] theorem aaa {α:Type} (l:List α) (off:Nat) (s:List α):(WR l off s).length=l.length:=by unfold WR;simp
section
variable {h η:List ar}{k:List Nat}
theorem Fz.i {q:IntKind} {a b:Int} (e:a=b:=by rfl):Fz h η k (.int q a) (.int q b):=.int_eq e
theorem Fz.b {a b:Bool} (e:a=b:=by rfl):Fz h η k (.bool a) (.bool b):=.Oa e
theorem Fz.s {a b:List UInt8} (e:a=b:=by rfl):Fz h η k (.str a) (.str b):=.R4 e
theorem Fz.l {sz n:Nat} {f:Nat->List PV}:Fz h η k (.gn sz n f) (.gn sz n f):=.gn _ _ _ _ (λ_ _=>rfl)
theorem Fz.z {α:Type} {c:α->List PV} {sz:Nat}:Fz h η k .au (sl sz c []):=.WS _ _
theorem Fz.g {id a b c:Nat} {d:TypeId} {e:Nat->List PV} (hk:k[a]? =some id:=by rfl) (f:h[id]? =none:=by rfl) (hη:η[a]? =some (ar.row b c 0 d e):=by rfl):Fz h η k .au (.own a b 0 0):=.abY id a b c d e hk f hη
theorem Fz.o {id a g b sz c n len:Nat} {e d:TypeId} {f i:Nat->List PV} (hk:k[a]? =some id:=by rfl) (j:h[id]? =some (ar.row g sz n e f):=by rfl) (hη:η[a]? =some (ar.row b c len d i):=by rfl):Fz h η k (.own id g 0 len) (.own a b 0 len):=
 .own _ _ _ _ _ _ _ _ _ _ _ _ _ _ hk j hη (ahY (so _))
theorem Fz.ox {id a g c sz d n len b:Nat} {e i:TypeId} {f j:Nat->List PV} (hl:len=b) (hk:k[a]? =some id:=by rfl) (l:h[id]? =some (ar.row g sz n e f):=by rfl) (hη:η[a]? =some (ar.row c d b i j):=by rfl):Fz h η k (.own id g 0 len) (.own a c 0 b):=by
 subst hl;exact Fz.o hk l hη
theorem Fz.p {id a g b sz c n d off:Nat} {e i:TypeId} {f j:Nat->List PV} (hk:k[a]? =some id:=by rfl) (l:h[id]? =some (ar.row g sz n e f):=by rfl) (hη:η[a]? =some (ar.row b c (d+1) i j):=by rfl):Fz h η k (.bE id g 0 off) (.bE a b 0 off):=
 .bE _ _ _ _ _ _ _ _ _ _ _ _ _ _ hk l hη (Nat.succ_pos _)
theorem Fz.m {id a g b sz c n d:Nat} {e i:TypeId} {f j:Nat->List PV} (hk:k[a]? =some id:=by rfl) (l:h[id]? =some (ar.row g sz n e f):=by rfl) (hη:η[a]? =some (ar.row b c d i j):=by rfl):Fz h η k (.ql id) (.ql a):=
 .ql _ _ _ _ _ _ _ _ _ _ _ _ hk l hη
theorem Fz.j {pv:PV}:Fz h η k pv .jI:=.jI _
theorem Fz.f {n:Nat}:Fz h η k (.fn n) (.fn n):=.fn _
theorem Fz.r {α:Type} {c:α->List PV} [qN c] {id g sz n:Nat} {e:TypeId} {l:List α} (a:h[id]? =some (ar.row g sz n e (row c l)):=by rfl) (hk:id∉k:=by first | decide | simp):Fz h η k (.own id g 0 l.length) (sl sz c l):=MO qN.pure hk a b8
theorem Fz.rx {α:Type} {c:α->List PV} [qN c] {id g sz n len:Nat} {e:TypeId} {l:List α} (hl:len=l.length) (a:h[id]? =some (ar.row g sz n e (row c l)):=by rfl) (hk:id∉k:=by first | decide | simp):Fz h η k (.own id g 0 len) (sl sz c l):=UX qN.pure hk a b8 hl
theorem Fz.rp {α:Type} {c:α->List PV} [qN c] {id g sz n off:Nat} {e:TypeId} {f:Nat->List PV} {l:List α} (hs:yl c f off l) (a:h[id]? =some (ar.row g sz n e f):=by rfl) (hk:id∉k:=by first | decide | simp):Fz h η k (.own id g off l.length) (sl sz c l):=MO qN.pure hk a hs
variable {m:Nat}
theorem od {α:Type} {c:α->List PV} [qN c] {id g sz:Nat} {e:TypeId} {l:List α} (a:h[id]? =some (ar.row g sz l.length e (row c l)):=by rfl):xP h η k m (.row g sz l.length e (row c l)) id id:=by
 unfold xP;rw[a];exact⟨λ_=>⟨rfl,rfl⟩,rfl,.inl rfl,rfl,λi _=>tE (pa qN.pure i)⟩
theorem ob {id g sz:Nat} {e:TypeId} {a b:List PV} (c:h[id]? =some (ar.row g sz 1 e (λ_=>a))) (F:wB h η k a b):xP h η k m (.row g sz 1 e (λ_=>b)) id id:=by
 unfold xP;rw[c];exact⟨λ_=>⟨rfl,rfl⟩,rfl,.inl rfl,rfl,λi _=>F⟩
theorem nw {α:Type} {c:α->List PV} [qN c] {i id g a sz:Nat} {e:TypeId} {l:List α} (hi:Nat.ble m i=true:=by rfl) (b:h[id]? =some (ar.row g sz l.length e (row c l)):=by rfl):xP h η k m (.row a sz l.length e (row c l)) i id:=by
 unfold xP;rw[b];exact⟨λh0=>absurd h0 (Nat.not_lt.2 (agj hi)),rfl,.inl rfl,rfl,λi _=>tE (pa qN.pure i)⟩
theorem Xx {α:Type} {c:α->List PV} [qN c] {i id g b sz n a:Nat} {e:TypeId} {l:List α} (d:h[id]? =some (ar.row g sz n e (row c l))) (f:a=n) (hi:Nat.ble m i=true:=by rfl):xP h η k m (.row b sz a e (row c l)) i id:=by
 unfold xP;rw[d];exact⟨λh0=>absurd h0 (Nat.not_lt.2 (agj hi)),rfl,.inl f,rfl,λi _=>tE (pa qN.pure i)⟩
theorem nb {i id g c sz:Nat} {e:TypeId} {a b:List PV} (d:h[id]? =some (ar.row g sz 1 e (λ_=>a))) (F:wB h η k a b) (hi:Nat.ble m i=true:=by rfl):xP h η k m (.row c sz 1 e (λ_=>b)) i id:=by
 unfold xP;rw[d];exact⟨λh0=>absurd h0 (Nat.not_lt.2 (agj hi)),rfl,.inl rfl,rfl,λi _=>F⟩
theorem uv {i id g b sz:Nat} {e:TypeId} {a:List PV} (c:h[id]? =some (ar.row g sz 1 e (λ_=>a))) (hp:a.all bW=true:=by rfl) (hi:Nat.ble m i=true:=by rfl):xP h η k m (.row b sz 1 e (λ_=>a)) i id:=nb c (tE hp) hi
theorem Fz.ap {cs:List PV} (hp:cs.all bW=true:=by rfl):Fz h η k (.agg cs) (.agg cs):=Se hp
theorem dd {i id:Nat}:xP h η k m .dead i id:=by unfold xP;trivial
theorem gh {i id a b:Nat} {c:TypeId} {d:Nat->List PV} (hi:Nat.ble m i=true:=by rfl) (e:h[id]? =none:=by rfl):xP h η k m (.row a b 0 c d) i id:=by
 unfold xP;rw[e];exact⟨agj hi,rfl⟩
theorem tk {env:Env} {σ:List (Nat×PV)} (k:List Nat) (he:zm h η k env σ) (hh:mW h η k m 0 η k) (hd:rK (rq η k)=true:=by rfl) (hl:Nat.ble m k.length=true:=by rfl):zQ m env h σ η:=⟨k,hd,agj hl,he,hh⟩
theorem ct {J:List (Nat×PV)->List ar->Prop} {env:Env} {σ:List (Nat×PV)} (hj:J σ η) (a:zQ m env h σ η):zR m J env h:=.mk σ η a hj
theorem lg {body:(Env->List ar->Prop)->Env->List ar->Prop} {env:Env} {σ:List (Nat×PV)} (hj:aB m body σ η) (a:zQ m env h σ η):loopGo m body env h:=.mk σ η a hj
theorem le {body:(Env->List ar->Prop)->Env->List ar->Prop} {env:Env} {σ:List (Nat×PV)} (hj:aB m body σ η) (a:zQ m env h σ η):uh m body env h:=.take σ η a hj
theorem en {R:PV->List ar->Prop} {vs:List PV} {res:PV} (k:List Nat) (a:R res η) (F:Fz h η k (oneOf vs) res) (hh:mW h η k m 0 η k) (hd:rK (rq η k)=true:=by rfl) (hl:Nat.ble m k.length=true:=by rfl) (b:vs.all mh=true:=by rfl):Ends m R h vs:=by
 exact .mk b k res η hd (agj hl) F hh a
theorem eB {a r:Bool} (hh:some a=some r):Ends 0 (λres h=>res=.bool r/\h=[]) h [.bool a]:=.mk rfl [] _ [] rfl (abF _) (.Oa (agy hh)) trivial ⟨rfl,rfl⟩
theorem eI {q:IntKind} {a r:Int} (hh:some a=some r):Ends 0 (λres h=>res=.int q r/\h=[]) h [.int q a]:=.mk rfl [] _ [] rfl (abF _) (.int_eq (agy hh)) trivial ⟨rfl,rfl⟩
theorem eS {a r:List UInt8} (hh:some a=some r):Ends 0 (λres h=>res=.str r/\h=[]) h [.str a]:=.mk rfl [] _ [] rfl (abF _) (.R4 (agy hh)) trivial ⟨rfl,rfl⟩
end
section
variable {α:Type}{x y r:α}{T F:Prop}
theorem sD {c:Prop} [Decidable c] (h:(if c then x else y)=r) (a:decide c=true->x=r->T) (b:decide c=false->y=r->F):eN (decide c) T F:=.mk (λhb=>a hb (WL hb h)) (λhb=>b hb (WM hb h))
theorem sDn {c:Prop} [Decidable c] (h:(if c then x else y)=r) (a:(!decide c)=true->y=r->T) (b:(!decide c)=false->x=r->F):eN (!decide c) T F:=.mk (λhb=>a hb (WM (R9 hb) h)) (λhb=>b hb (WL (R8 hb) h))
theorem sE {β:Type} [BEq β] [LawfulBEq β] {a b:β} [Decidable (a=b)] (h:(if a=b then x else y)=r) (c:(a==b)=true->x=r->T) (d:(a==b)=false->y=r->F):eN (a==b) T F:=.mk (λhb=>c hb (R6 hb h)) (λhb=>d hb (R7 hb h))
theorem wG {β:Type} [BEq β] [LawfulBEq β] {a b:β} [Decidable (a=b)] (h:(if a=b then x else y)=r) (c:(!(a==b))=true->y=r->T) (d:(!(a==b))=false->x=r->F):eN (!(a==b)) T F:=.mk (λhb=>c hb (R7 (R9 hb) h)) (λhb=>d hb (R6 (R8 hb) h))
theorem sN {β:Type} [BEq β] [LawfulBEq β] {a b:β} [Decidable (a=b)] (h:(if a=b then x else y)=r) (c:(a != b)=true->y=r->T) (d:(a != b)=false->x=r->F):eN (a != b) T F:=.mk (λhb=>c hb (abT hb h)) (λhb=>d hb (abU hb h))
theorem sV {b:Bool} (h:(if b=true then x else y)=r) (a:b=true->x=r->T) (c:b=false->y=r->F):eN b T F:=.mk (λhb=>a hb (WN hb h)) (λhb=>c hb (WO hb h))
theorem eX {b:Bool} (h:(if b=true then x else y)=r) (a:(!b)=true->y=r->T) (c:(!b)=false->x=r->F):eN (!b) T F:=.mk (λhb=>a hb (WO (R9 hb) h)) (λhb=>c hb (WN (R8 hb) h))
end
theorem eN.t {T F:Prop} (h:T):eN true T F:=Sa h
theorem eN.f {T F:Prop} (h:F):eN false T F:=Sb h
theorem eN.kt {b:Bool} {T F:Prop} (hb:b=true) (h:T):eN b T F:=Po hb h
theorem eN.kf {b:Bool} {T F:Prop} (hb:b=false) (h:F):eN b T F:=Pp hb h
theorem w9.d {m:Nat} {A B:XQ->Env->List ar->Prop} {Q:XQ} {env:Env} {h:List ar} (hd:A (XQ.then (B Q) Q) env h):w9 m A B Q env h:=.direct hd
inductive Nz:PV->PV->Prop
 | same (a:PV):Nz a a
 | nil (sz:Nat) (f:Nat->List PV):Nz .au (.gn sz 0 f)
def NzL:List PV->List PV->Prop
 | [],[]=>True
 | a::l,b::r=>Nz a b/\NzL l r
 | _,_=>False
inductive NzA:PV->PV->Prop
 | same (a:PV):NzA a a
 | nil (sz:Nat) (f:Nat->List PV):NzA .au (.gn sz 0 f)
 | agg {cs AA:List PV} (h:NzL cs AA):NzA (.agg cs) (.agg AA)
def UY:List PV->List PV->Prop
 | [],[]=>True
 | a::l,b::r=>NzA a b/\UY l r
 | _,_=>False
theorem NzL.get:∀{l r:List PV},NzL l r->r.length=l.length/\∀(j:Nat) (p:PV),r[j]? =some p->∃q:PV,l[j]? =some q/\Nz q p
 | [],[],_=>⟨rfl,λj p h=>by simp at h⟩
 | a::l,b::r,h=>by
  obtain⟨h1,h2⟩:=NzL.get h.2;refine⟨by simp [h1],λj p hj=>?_⟩;cases j with
  | zero=>simp at hj;subst hj;exact⟨a,rfl,h.1⟩
  | succ j=>obtain⟨q,q1,q2⟩:=h2 j p ajy;exact⟨q,by simpa using q1,q2⟩
 | [],_::_,h=>h.elim
 | _::_,[],h=>h.elim
theorem UY.get:∀{l r:List PV},UY l r->r.length=l.length/\∀(j:Nat) (p:PV),r[j]? =some p->∃q:PV,l[j]? =some q/\NzA q p
 | [],[],_=>⟨rfl,λj p h=>by simp at h⟩
 | a::l,b::r,h=>by
  obtain⟨h1,h2⟩:=UY.get h.2;refine⟨by simp [h1],λj p hj=>?_⟩;cases j with
  | zero=>simp at hj;subst hj;exact⟨a,rfl,h.1⟩
  | succ j=>obtain⟨q,q1,q2⟩:=h2 j p ajy;exact⟨q,by simpa using q1,q2⟩
 | [],_::_,h=>h.elim
 | _::_,[],h=>h.elim
section
variable {P:Program}{f:FuncId}{args:List PV}{h:List ar}{K:PV->List ar->Prop}{r0:PV}
theorem cd (a:ACall P f args [] (λres h=>res=r0/\h=[])) (k:K r0 h) (hp:args.all Kk=true:=by rfl) (b:∀n,qC n r0=r0:=by intro _;rfl):vV P f args h K:=
 ⟨_,a.abV h hp b,by rintro _ _ ⟨rfl,rfl⟩;exact k⟩
theorem Up {a:List PV} (b:ACall P f a [] (λres h=>res=r0/\h=[])) (c:wB h [] [] args a) (k:K r0 h) (d:a.all mh=true:=by rfl) (hf:DJ r0=true:=by rfl) (e:∀n,qC n r0=r0:=by intro _;rfl):vV P f args h K:=
 ⟨_,b.abW h c d hf e,by rintro _ _ ⟨rfl,rfl⟩;exact k⟩
theorem shr {α:Type} {c:α->List PV} [qN c] (N g sz n:Nat) (e:TypeId) (l:List α):ff N (.row g sz n e (row c l))=.row g sz n e (row c l):=MP qN.pure N g sz n e l
theorem CY {h0:List ar} (a:ACall P f args [] (λres h=>res=r0/\h=h0)) (r1:PV) (h1:List ar) (k:K r1 h1) (e2:h++h0.map (ff h.length)=h1:=by simp only[afO,afR,shr];rfl) (b:qC h.length r0=r1:=by rfl) (hp:args.all Kk=true:=by rfl):vV P f args h K:=
 ⟨_,a.frame h hp,by rintro _ _ ⟨_,_,⟨rfl,rfl⟩,rfl,rfl⟩;rw[b,e2];exact k⟩
theorem aet {a:List PV} {h0:List ar} (b:ACall P f a [] (λres h=>res=r0/\h=h0)) (c:wB h [] [] args a) (r1:PV) (h1:List ar) (d:∀o∈h0,zO o) (k:K r1 h1) (e2:h++h0.map (ff h.length)=h1:=by simp only[afO,afR,shr];rfl) (e:qC h.length r0=r1:=by rfl) (g:a.all mh=true:=by rfl) (hf:DJ r0=true:=by rfl):vV P f args h K:=
 ⟨_,b.WJ h c g (by rintro _ _ ⟨rfl,rfl⟩;exact⟨hf,d⟩),by rintro _ _ ⟨_,_,⟨rfl,rfl⟩,rfl,rfl⟩;rw[e,e2];exact k⟩
def Ud (h:List ar) (σ:Nat->Nat):List ar->List Nat->Prop
 | [],_=>True
 | o::r,i::is=>h[i]? =some (xN σ o)/\Ud h σ r is
 | _::_,[]=>False
theorem Ud.get {h:List ar} {σ:Nat->Nat}:∀{hc:List ar} {is:List Nat},Ud h σ hc is->∀(j:Nat) (o:ar),hc[j]? =some o->∃i:Nat,is[j]? =some i/\h[i]? =some (xN σ o)
 | [],_,_,j,o,hj=>by simp at hj
 | a::r,[],hh,_,_,_=>hh.elim
 | a::r,i::is,hh,0,o,hj=>by simp at hj;subst hj;exact⟨i,rfl,hh.1⟩
 | a::r,i::is,hh,j+1,o,hj=>by
  obtain⟨q,h1,h2⟩:=Ud.get hh.2 j o ajy;exact⟨q,by simpa using h1,h2⟩
theorem ACall.QF {hc:List ar} {args a:List PV} {R:PV->List ar->Prop} (b:ACall P f args hc R) (is:List Nat) (h:List ar) (c:Ud h (dS is h.length) hc is) (hl:hc.length=is.length) (hd:is.Nodup) (d:is.all (λid=>Nat.blt id h.length)=true)
  (e:a=args.map (xO (dS is h.length))):ACall P f a h (λres h'=>∃r0 h0,R r0 h0/\res=zl (dS is h.length) r0/\h'=wE h is h0):=
 b.over is h hl hd (λid hid=>agj (afS.1 d id hid)) (λj o hj=>by
  obtain⟨i,h1,h2⟩:=c.get j o hj;unfold dS;rw[h1];exact h2) e
end
theorem si {α:Type} {a b:α} (h:some a=some b):a=b:=agy h
theorem bk {α β:Type} {x:Option α} {f:α->Option β} {r:β} {G:Prop} (h:(x>>=f)=some r) (k:∀a,x=some a->f a=some r->G):G:=by
 obtain⟨a,h1,h2⟩:=bind_some h;exact k a h1 h2
theorem bd {α β:Type} {x:Option α} {f:α->Option β} {r:β} (h:(x>>=f)=some r):∃a,x=some a/\f a=some r:=bind_some h
structure DR {α:Type} (D:List PV->α->Prop) (n:Nat) (f:Nat->List PV) (l:List α):Prop where
 len:l.length=n
 at_:∀i (h:i<l.length),D (f i) l[i]
 z:∀i,n<=i->f i=[]
inductive WT:PV->PV->Prop
 | p {a:PV} (h:bW a=true):WT a a
 | o {a b:PV} (h:B5 a b):WT a b
def tL:List PV->List PV->Prop
 | [],[]=>True
 | a::l,b::r=>WT a b/\tL l r
 | _,_=>False
class BD {α:Type} (D:List PV->α->Prop) (c:outParam (α->List PV)):Prop where
 frz:∀cs x,D cs x->tL cs (c x)
def qh {α:Type} (c:α->List PV):List PV->α->Prop:=λcs x=>cs=c x
theorem tL.len:∀{l r:List PV},tL l r->r.length=l.length
 | [],[],_=>rfl
 | a::l,b::r,h=>congrArg (·+1) (tL.len h.2)
 | [],_::_,h=>h.elim
 | _::_,[],h=>h.elim
theorem tL.get:∀{l r:List PV},tL l r->∀{j:Nat} {a b:PV},l[j]? =some a->r[j]? =some b->WT a b
 | a::l,b::r,h,0,x,y,c,hy=>by simp at c hy;subst c hy;exact h.1
 | a::l,b::r,h,j+1,x,y,c,hy=>tL.get h.2 (by simpa using c) ajO
 | [],_,h,j,x,y,c,hy=>by simp at c
 | _::_,[],h,_,_,_,_,_=>h.elim
theorem tL.pure:∀{l:List PV},l.all bW=true->tL l l
 | [],_=>trivial
 | a::l,h=>by
  simp only[ahu,As]at h;exact⟨.p h.1,tL.pure h.2⟩
theorem B5.isO {a b:PV} (h:B5 a b):dM a=true:=by cases h;rfl
theorem B5.Oe {a b:PV} (h:B5 a b):bW b=true:=by cases h;rfl
theorem WT.po {a b:PV} (h:WT a b):bW a=true\/dM a=true:=by
 cases h with
 | p h=>exact .inl h
 | o h=>exact .inr h.isO
theorem WT.Oe {a b:PV} (h:WT a b):bW b=true:=by
 cases h with
 | p h=>exact h
 | o h=>exact h.Oe
theorem tL.po {l r:List PV} (h:tL l r):∀c,c∈l->bW c=true\/dM c=true:=λc hc=>by
 obtain⟨j,hj,rfl⟩:=List.getElem_of_mem hc;have hl:=h.len;exact(h.get (No hj) (No (show j<r.length by omega))).po
instance {α:Type} (c:α->List PV) [hp:qN c]:BD (qh c) c:=⟨λcs x h=>by
 have h:cs=c x:=h;subst h;exact tL.pure (hp.pure x)⟩
theorem MQ {a:PV} (h:dM a=true):bW a=false:=by cases a<;>first | rfl | cases h
theorem QE {σ:Nat->Nat} {a:PV} (h:bW a=true\/dM a=true):ns σ a=a:=by cases a<;>first | rfl | (rcases h with h | h<;>cases h)
theorem Sg {N:Nat} {a:PV} (h:bW a=true\/dM a=true):qD N a=a:=by cases a<;>first | rfl | (rcases h with h | h<;>cases h)
theorem G0 {g:PV->PV}:∀{l:List PV},(∀c,c∈l->g c=c)->l.map g=l
 | [],_=>rfl
 | a::l,h=>by simp only[afO];rw[h a ajq,G0 (λc hc=>h c (by simp [hc]))]
section
variable {α:Type}{D:List PV->α->Prop}{c:α->List PV}{n:Nat}{f:Nat->List PV}{l:List α}
theorem eE (d:∀i (h:i<l.length),tL (f i) (c l[i])) (hl:l.length=n) (sz:Nat) (e:TypeId) (F:Nat->Prop):B5 (.aV sz n e f F) (sl sz c l):=by
 subst hl;have at_:∀i,i<l.length->tL (f i) (row c l i):=λi hi=>by rw[nq hi];exact d i hi
 refine .mk sz l.length e f (row c l) F (λi hi=>(at_ i hi).len) (λi j pv b hi h1 h2 a=>?_) (λi j pv b hi h1 h2 a=>?_) (λi j b hi h2=>?_)
 ·cases(at_ i hi).get h1 h2 with
  | p _=>rfl
  | o h=>rw[h.isO]at a;cases a
 ·cases(at_ i hi).get h1 h2 with
  | p h=>rw[MQ a]at h;cases h
  | o h=>exact h
 ·have hj:j<(f i).length:=by rw[<-(at_ i hi).len];exact(An.1 h2).1
  exact((at_ i hi).get (No hj) h2).Oe
theorem DR.od [hc:BD D c] (d:DR D n f l):∀i (h:i<l.length),tL (f i) (c l[i]):=λi h=>hc.frz _ _ (d.at_ i h)
theorem DR.po [hc:BD D c] (d:DR D n f l):∀i,i<n->∀x,x∈f i->bW x=true\/dM x=true:=λi hi=>(d.od (c:=c) i (by rw[d.len];exact hi)).po
theorem DR.ren [hc:BD D c] (d:DR D n f l) {g:PV->PV} (hg:∀x,bW x=true\/dM x=true->g x=x):(λi=>(f i).map g)=f:=by
 funext i;by_cases hi:i<n
 ·exact G0 (λx a=>hg x (d.po (c:=c) i hi x a))
 ·rw[d.z i ajo];rfl
theorem red [hc:BD D c] (d:DR D n f l) (σ:Nat->Nat) (g sz a:Nat) (e:TypeId):xN σ (.row g sz a e f)=.row g sz a e f:=by
 show ar.row g sz a e (λi=>(f i).map (ns σ))=_;rw[d.ren (c:=c) (λx=>QE)]
theorem oT [hc:BD D c] (d:DR D n f l) (N g sz a:Nat) (e:TypeId):ff N (.row g sz a e f)=.row g sz a e f:=by
 show ar.row g sz a e (λi=>(f i).map (qD N))=_;rw[d.ren (c:=c) (λx=>Sg)]
theorem rE [hc:BD D c] (d:DR D n f l) {σ:Nat->Nat} {g sz a:Nat} {e:TypeId} {x:Option ar} (b:x=some (.row g sz a e f):=by rfl):x=some (xN σ (.row g sz a e f)):=by rw[red (c:=c) d];exact b
theorem DR.self (d:DR D n f l):DR D l.length f l:=by have h:=d.len;subst h;exact d
theorem DR.nil:DR D 0 (λ_=>[]) []:=⟨rfl,λi h=>absurd h (agz _),λ_ _=>rfl⟩
theorem DR.rF {c:α->List PV} {l:List α}:DR (qh c) l.length (row c l) l:=⟨rfl,λi h=>nq h,λi hi=>by unfold row;simp [afP,agf (show(l.map c).length<=i by simpa using hi)]⟩
theorem DR.V2 {c:α->List PV} (d:DR (qh c) n f l):f=row c l:=by
 funext i;by_cases hi:i<l.length
 ·rw[nq hi];exact d.at_ i hi
 ·rw[d.z i (by rw[<-d.len];omega),DR.rF.z i ajo]
theorem aI {f:Nat->List PV} {i:Nat} {cs:List PV}:bu f i cs i=cs:=by
 unfold bu;rw[show Nat.beq i i=true from ahc i];rfl
theorem lE {f:Nat->List PV} {i k:Nat} {cs:List PV} (h:k≠i):bu f i cs k=f k:=by
 unfold bu;rw[show Nat.beq k i=false from Bool.eq_false_iff.2 (λq=>h (afM q))];rfl
theorem DR.set (d:DR D n f l) {i:Nat} (hi:i<l.length) {cs:List PV} {x:α} (a:D cs x):DR D n (bu f i cs) (l.set i x):=by
 refine⟨by rw[agW];exact d.len,λk hk=>?_,λk hk=>?_⟩
 ·rw[agW]at hk;rw[aib];by_cases h:i=k
  ·subst h;rw[an rfl,aI];exact a
  ·rw[mg h,lE (agX h)];exact d.at_ k hk
 ·have:=d.len;rw[lE ajo];exact d.z k hk
theorem DR.app (d:DR D n f l) {cs:List PV} {x:α} (a:D cs x):DR D (n+1) (bu f n cs) (l++[x]):=by
 have hl:=d.len;refine⟨by simp [hl],λk hk=>?_,λk hk=>?_⟩
 ·by_cases h:k=n
  ·subst h;rw[aI,ahi ajo];simp only[hl,agY,List.getElem_cons_zero];exact a
  ·rw[lE h,List.getElem_append_left (by simp at hk;omega)];exact d.at_ k (by simp at hk;omega)
 ·rw[lE ajo];exact d.z k ajo
theorem DR.rep {x:α} {cs:List PV} (a:D cs x) (n:Nat):DR D n (λi=>bif Nat.blt i n then cs else[]) (List.replicate n x):=
 ⟨by simp,λk hk=>by
  simp only[List.length_replicate]at hk;show D (bif Nat.blt k n then cs else[]) _;rw[HW hk,List.getElem_replicate];exact a,λk hk=>by
  show(bif Nat.blt k n then cs else[])=[];rw[MN ajo]⟩
theorem DR.idx [Inhabited α] (d:DR D n f l) {i:Int} {x:α} (h:Go.Am.idx l i=some x):D (f i.toNat) x:=by
 have h1:=Sd h;obtain⟨h2,h3⟩:=An.1 h1;rw[<-h3];exact d.at_ _ h2
theorem DR.lt [Inhabited α] (d:DR D n f l) {i:Int} {x:α} (h:Go.Am.idx l i=some x):i.toNat<n:=by rw[<-d.len];exact cN h
theorem DR.bd [Inhabited α] (d:DR D n f l) {i:Int} {x:α} (h:Go.Am.idx l i=some x):0<=i/\i<(n:Int):=by rw[<-d.len];exact aT h
variable {h η:List ar}{k:List Nat}{m:Nat}
theorem abZ {a:PV} (hp:bW a=true\/dM a=true):Fz h η k a a:=by
 cases a<;>first | exact Ct rfl | exact .aV _ _ _ _ _ | (rcases hp with hp | hp<;>cases hp)
theorem MR:∀{l:List PV},(∀c,c∈l->bW c=true\/dM c=true)->wB h η k l l
 | [],_=>trivial
 | a::l,hp=>⟨abZ (hp a ajq),MR (λc hc=>hp c (by simp [hc]))⟩
theorem Fz.rd [hc:BD D c] {id g sz a b:Nat} {e:TypeId} (d:DR D n f l) (m:b=l.length:=by first | rfl | simp [*]) (q:h[id]? =some (ar.row g sz a e f):=by rfl) (hk:id∉k:=by first | decide | simp):Fz h η k (.own id g 0 b) (sl sz c l):=by
 subst m;have at_:∀i,i<l.length->tL (f i) (row c l i):=λi hi=>by rw[nq hi];exact d.od (c:=c) i hi
 refine .frz id g sz a 0 l.length e f (row c l) hk q (λi hi=>by rw[so];exact(at_ i hi).len) (λi j r hi h2=>?_) (λi j pv r hi h1 h2 s=>?_)
 ·have hj:j<(f i).length:=by rw[<-(at_ i hi).len];exact(An.1 h2).1
  exact((at_ i hi).get (No hj) h2).Oe
 ·rw[so]at h1;cases(at_ i hi).get h1 h2 with
  | p h=>exact Ct h
  | o h=>exact absurd h s
theorem odd [hc:BD D c] {id g sz b a:Nat} {e:TypeId} (d:DR D n f l) (j:a=b:=by first | rfl | simp [*]) (hle:a=n:=by first | rfl | simp [*]) (o:h[id]? =some (ar.row g sz b e f):=by rfl):xP h η k m (.row g sz a e f) id id:=by
 subst j hle;unfold xP;rw[o];exact⟨λ_=>⟨rfl,rfl⟩,rfl,.inl rfl,rfl,λi hi=>MR (d.po (c:=c) i hi)⟩
theorem ZU [hc:BD D c] {i id g j sz b a:Nat} {e:TypeId} (d:DR D n f l) (o:a=b:=by first | rfl | simp [*]) (hle:a=n:=by first | rfl | simp [*]) (hi:Nat.ble m i=true:=by rfl) (p:h[id]? =some (ar.row g sz b e f):=by rfl):xP h η k m (.row j sz a e f) i id:=by
 subst o hle;unfold xP;rw[p];exact⟨λh0=>absurd h0 (Nat.not_lt.2 (agj hi)),rfl,.inl rfl,rfl,λi hi=>MR (d.po (c:=c) i hi)⟩
theorem Fz.od {id a g b sz i j c n2 d:Nat} {e l:TypeId} {f m:Nat->List PV} (h1:c=n2:=by first | rfl | simp [*]) (h2:n2=d:=by first | rfl | simp [*]) (hk:k[a]? =some id:=by rfl) (n:h[id]? =some (ar.row g sz j e f):=by rfl) (hη:η[a]? =some (ar.row b i d l m):=by rfl):Fz h η k (.own id g 0 c) (.own a b 0 n2):=by
 subst h1 h2;exact .own _ _ _ _ _ _ _ _ _ _ _ _ _ _ hk n hη (ahY (so _))
theorem Dc (id:Nat) {g sz n:Nat} {e:TypeId} {f:Nat->List PV} {i d b:Nat} {l:TypeId} {m:Nat->List PV} {F:Nat->Prop} (j:Nat) (cs a:List PV) (c:Nat->List PV) (hi:i<n) (hc:f i=cs) (h1:c i=a) (o:∀k,k≠i->c k=f k)
  (hj:cs[j]? =some (.aV d b l m F):=by rfl) (hs:a=cs.set j (.own h.length 0 0 b):=by rfl) (p:h[id]? =some (.row g sz n e f):=by rfl) {h2:List ar} (h3:h2=h.set id (.row g sz n e c)++[.row 0 d b l m]:=by rfl):Km h h2:=
 ⟨id,g,sz,n,e,f,i,j,d,b,l,m,F,c,p,hi,by rw[hc];exact hj,by rw[h1,hc,hs],λk _ hk=>o k hk,h3⟩
theorem acV {id sub g sz n:Nat} {e:TypeId} {f:Nat->List PV} {g2 qs n2:Nat} {e2:TypeId} {f2:Nat->List PV} {i:Nat} {j:Nat} {F:Nat->Prop} (cs a:List PV) (b:Nat->List PV) (hi:i<n) (hc:f i=cs) (h1:b i=a) (d:∀k,k≠i->b k=f k)
  (hp:∀k,k<n2->∀x,x∈f2 k->bW x=true\/dM x=true) (hj:cs[j]? =some (.own sub g2 0 n2):=by rfl) (hs:a=cs.set j (.aV qs n2 e2 f2 F):=by rfl) (l:h[id]? =some (.row g sz n e f):=by rfl) (c:h[sub]? =some (.row g2 qs n2 e2 f2):=by rfl) (m:id≠sub:=by decide)
  {h2:List ar} (h3:h2=(h.set id (.row g sz n e b)).set sub .dead:=by rfl):G1 h id i j sub F h2:=
 ⟨g,sz,n,e,f,g2,qs,n2,e2,f2,b,l,c,m,hi,by rw[hc];exact hj,hp,by rw[h1,hc,hs],λk _ hk=>d k hk,h3⟩
theorem yH {c:α->List PV} [hp:qN c] {l:List α} {n:Nat}:∀k,k<n->∀x,x∈row c l k->bW x=true\/dM x=true:=λk _ x a=>.inl (afS.1 (pa hp.pure k) x a)
theorem nf {f:Nat->List PV} {i off n:Nat} {a b cs:List PV} (hc:oN (dN a off b) cs):∀j,j<n->oN (bu f i (dN a off b) j) (bu f i cs j):=λj _=>by
 by_cases h:j=i
 ·subst h;rw[aI,aI];exact hc
 ·rw[lE h,lE h];exact oN.refl _
theorem Bs:∀(c p b:List PV),b.length=c.length->dN (p++b) p.length c=p++c
 | [],p,b,h=>by rw[agw h];rfl
 | v::c,p,[],h=>by simp at h
 | v::c,p,a::b,h=>by
  have e:(p++a::b).set p.length v=(p++[v])++b:=by simp
  have e2:p.length+1=(p++[v]).length:=by simp
  show dN ((p++a::b).set p.length v) (p.length+1) c=_;rw[e,e2,Bs c (p++[v]) b ajC];simp
theorem ow {f:Nat->List PV} {i n:Nat} {b a cs:List PV} (hc:oN a cs) (hl:b.length=a.length:=by rfl):∀j,j<n->oN (bu f i (dN b 0 a) j) (bu f i cs j):=by
 have e:dN b 0 a=a:=Bs a [] b hl;rw[e]
 exactλj _=>by
  by_cases h:j=i
  ·subst h;rw[aI,aI];exact hc
  ·rw[lE h,lE h];exact oN.refl _
theorem bG {f:Nat->List PV} {i off n:Nat} {a c b cs:List PV} (hc:oN (dN a off b) cs):∀j,j<n->oN (bu (bu f i c) i (dN a off b) j) (bu f i cs j):=λj _=>by
 by_cases h:j=i
 ·subst h;rw[aI,aI];exact hc
 ·rw[lE h,lE h,lE h];exact oN.refl _
theorem ez {f:Nat->List PV} {i:Nat} {cs a:List PV}:∀k,k≠i->bu f i cs k=bu f i a k:=λk h=>by rw[lE h,lE h]
theorem Of {f:Nat->List PV} {n N:Nat} {cs a:List PV} (b:N=n+1) (hc:oN cs a):∀i,i<N->oN (bif Nat.blt i n then f (0+i)else cs) (bu f n a i):=λi hi=>by
 subst b;by_cases h:i<n
 ·rw[HW h,lE ajo,so];exact oN.refl _
 ·obtain rfl:i=n:=by omega
  rw[MN ajo,aI];exact hc
theorem rJ {a:Nat} {n:Nat} {z cs:List PV} (b:a=n) (hc:oN z cs):∀i,i<a->oN z ((λi=>bif Nat.blt i n then cs else[]) i):=λi hi=>by
 subst b;show oN z (bif Nat.blt i a then cs else[]);rw[HW hi];exact hc
end
section
variable {P:Program}{f:FuncId}{args:List PV}{h:List ar}{K R:PV->List ar->Prop}
theorem YC {hc:List ar} {a:List PV} (b:ACall P f args hc R) (is:List Nat) (c:Ud h (dS is h.length) hc is)
  (k:∀r0 h0,R r0 h0->∃r1 h1,zl (dS is h.length) r0=r1/\wE h is h0=h1/\K r1 h1)
  (d:a=args.map (xO (dS is h.length)):=by rfl) (hl:hc.length=is.length:=by rfl) (hd:is.Nodup:=by decide) (e:is.all (λid=>Nat.blt id h.length)=true:=by rfl):vV P f a h K:=
 ⟨_,b.QF is h c hl hd e d,by
  rintro _ _ ⟨r0,h0,g,rfl,rfl⟩;obtain⟨r1,h1,rfl,rfl,hk⟩:=k r0 h0 g;exact hk⟩
theorem ie (a:ACall P f args [] R) (k:∀r0 h0,R r0 h0->∃r1 h1,qC h.length r0=r1/\h++h0.map (ff h.length)=h1/\K r1 h1) (hp:args.all Kk=true:=by rfl):vV P f args h K:=
 ⟨_,a.frame h hp,by
  rintro _ _ ⟨r0,h0,b,rfl,rfl⟩;obtain⟨r1,h1,rfl,rfl,hk⟩:=k r0 h0 b;exact hk⟩
theorem ab0 {a:List PV} (b:ACall P f a [] R) (c:wB h [] [] args a) (d:∀r0 h0,R r0 h0->DJ r0=true/\∀o∈h0,zP o) (k:∀r0 h0,R r0 h0->∃r1 h1,qC h.length r0=r1/\h++h0.map (ff h.length)=h1/\K r1 h1) (e:a.all mh=true:=by rfl):vV P f args h K:=
 ⟨_,b.abS h c e d,by
  rintro _ _ ⟨r0,h0,g,rfl,rfl⟩;obtain⟨r1,h1,rfl,rfl,hk⟩:=k r0 h0 g;exact hk⟩
end
def fE (cs:List PV):Prop:=∀c∈cs,(dM c=false->rS c=true)/\(dM c=true->OG (λpv=>rS pv=true) c)
class Qc {α:Type} (c:α->List PV):Prop where
 fl:∀x,(c x).all rS=true
class NT {α:Type} (D:List PV->α->Prop):Prop where
 fl:∀cs x,D cs x->fE cs
instance:Qc cI:=⟨λ_=>rfl⟩
instance (k:IntKind):Qc (YS k):=⟨λ_=>rfl⟩
instance:Qc cB:=⟨λ_=>rfl⟩
instance:Qc cT:=⟨λ_=>rfl⟩
instance:Qc cS:=⟨λ_=>rfl⟩
theorem Kn {a:PV} (h:rS a=true):dM a=false:=by cases a<;>first | rfl | cases h
theorem yt:fE []:=λc hc=>absurd hc aia
theorem cP {a:PV} {l:List PV} (t:fE l) (h:rS a=true:=by rfl):fE (a::l):=λc hc=>by
 rcases afW.1 hc with rfl | hc
 ·exact⟨λ_=>h,λq=>by rw[Kn h]at q;cases q⟩
 ·exact t c hc
theorem Sh {l:List PV} (h:l.all rS=true):fE l:=λc hc=>⟨λ_=>afS.1 h c hc,λq=>by rw[Kn (afS.1 h c hc)]at q;cases q⟩
theorem ab1 {sz n:Nat} {e:TypeId} {f:Nat->List PV} {F:Nat->Prop} (h:∀i,i<n->fE (f i)):OG (λpv=>rS pv=true) (.aV sz n e f F):=
 .mk sz n e f F (λi j pv hi hj a=>(h i hi pv (afX hj)).1 a) (λi j _ _ _ _ _ hi hj=>(h i hi _ (afX hj)).2 rfl)
theorem rB {sz n:Nat} {e:TypeId} {f:Nat->List PV} {F:Nat->Prop} {l:List PV} (h:∀i,i<n->fE (f i)) (t:fE l):fE (.aV sz n e f F::l):=λc hc=>by
 rcases afW.1 hc with rfl | hc
 ·exact⟨λq=>(by cases q),λ_=>ab1 h⟩
 ·exact t c hc
theorem yu {α:Type} {c:α->List PV} [h:Qc c] {l:List α} {n:Nat}:∀i,i<n->fE (row c l i):=λi _=>by
 by_cases hi:i<l.length
 ·rw[nq hi];exact Sh (h.fl _)
 ·rw[show row c l i=[] by unfold row;simp [afP,agf (show(l.map c).length<=i by simpa using hi)]];exact yt
instance {α:Type} (c:α->List PV) [h:Qc c]:NT (qh c):=⟨λcs x q=>by
 have q:cs=c x:=q;subst q;exact Sh (h.fl x)⟩
theorem DR.flp {α:Type} {D:List PV->α->Prop} [hf:NT D] {n:Nat} {f:Nat->List PV} {l:List α} (d:DR D n f l) {g sz:Nat} {e:TypeId}:zP (.row g sz n e f):=λi hi=>hf.fl _ _ (d.at_ i (by rw[d.len];exact hi))
theorem YT:∀o∈([]:List ar),zP o:=λ_ h=>absurd h aia
theorem Og {a:ar} {l:List ar} (h1:zP a) (h2:∀o∈l,zP o):∀o∈a::l,zP o:=λo h=>by
 rcases afW.1 h with rfl | h
 ·exact h1
 ·exact h2 o h
theorem Oh {cs:List PV}:∀i,i<1->oN ([cs].getD i []) ((λ_=>cs) i):=λi hi=>by
 obtain rfl:i=0:=by omega
 exact oN.refl _
theorem Ko:∀{l:List PV},l.all bW=true->noO l=true
 | [],_=>rfl
 | a::l,h=>by
  simp only[ahu,As]at h;have:=Ko h.2;cases a<;>first | exact this | (have h1:=h.1;cases h1)
theorem yK {α:Type} {c:α->List PV} [hp:qN c] {f:Nat->List PV} {off:Nat} {l:List α} (hs:yl c f off l):∀i,i<l.length->noO (f (off+i))=true:=λi hi=>by
 rw[hs i hi];exact Ko (pa hp.pure i)
section
variable {α:Type}{D:List PV->α->Prop}{n:Nat}{f:Nat->List PV}{l q:List α}{x:α}{b:Nat}
theorem Kp (h:pQ b l [x]=some q):l++[x]=q:=(dI h).2
theorem DR.ab2 (d:DR D n f l) (h:pQ b l [x]=some q) {cs:List PV} (a:D cs x):DR D q.length (bu f n cs) q:=by
 have h1:=Kp h;subst h1;exact(d.app a).self
theorem DR.ln (d:DR D n f l) (h:pQ b l [x]=some q):q.length=n+1:=by
 have h1:=Kp h;subst h1;simp [d.len]
theorem DR.lq (d:DR D n f l) (h:pQ b l [x]=some q):n<q.length:=by rw[d.ln h];exact ahZ n
theorem DR.lbd (d:DR D n f l) (h:pQ b l [x]=some q):(n+1)*b<=140737488355328:=by
 have h1:=mP h;rw[d.len]at h1;exact h1
theorem kN [Inhabited α] {b:Nat} {i j:Int} (h:fF b i j=some l) {cs:List PV} (a:D cs default):DR D l.length (λi=>bif Nat.blt i l.length then cs else[]) l:=by
 have h1:=(dI h).2;subst h1;have:=DR.rep a i.toNat
 simpa using this
end
theorem qp {α:Type} {c:α->List PV} [hp:qN c] {l:List α} {n:Nat} (hl:l.length=n) (sz:Nat) (e:TypeId) (F:Nat->Prop):B5 (.aV sz n e (row c l) F) (sl sz c l):=
 eE (λi hi=>by rw[nq hi];exact tL.pure (hp.pure _)) hl sz e F
end Go.Am
