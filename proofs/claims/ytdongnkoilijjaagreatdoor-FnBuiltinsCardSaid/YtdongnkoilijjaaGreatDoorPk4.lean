/- Texts of the proof, joined and shortened. -/
import Derived.Test.YtdongnkoilijjaaGreatDoorPk3
import Derived.Test.YtdongnkoilijjaaGreatDoorProg
set_option linter.unusedVariables false
set_option linter.unusedSimpArgs false
namespace Go.Am
open Go Go.RowKit
def ku (σ:Nat->Nat):PV->PV
 | .own id gen off len=>.own (σ id) gen off len
 | .aE id gen i off=>.aE (σ id) gen i off
 | .kC id=>.kC (σ id)
 | .lv f bq=>.lv f (oz σ bq)
 | v=>v
def uD (σ:Nat->Nat):PV->PV
 | .agg cs=>.agg (cs.map (ku σ))
 | v=>ku σ v
def Bq (σ:Nat->Nat):PV->PV
 | .eC vs=>.eC (vs.map (uD σ))
 | v=>uD σ v
def pa (σ:Nat->Nat):ai->ai
 | .row g sz n e f=>.row g sz n e (λi=>(f i).map (ku σ))
 | .dead=>.dead
theorem zW {σ:Nat->Nat} {a:PV} (h:iq (ku σ a)=true):ku σ a=a:=by cases a<;>first | rfl | cases h
theorem zX {σ:Nat->Nat} {a:PV} (h:iq a=true):ku σ a=a:=by cases a<;>first | rfl | cases h
section
variable {P:Program}{T:lS}{μ μ0 μ1:Mu}{h h0 h1 hc:List ai}{S S0 S1:Nat->Prop}{w w':World}{σ:Nat->Nat}
theorem KR {pv:PV} {v:Value} (l:∀j,(∃g sz n e f,h0[j]? =some (ai.row g sz n e f)/\(∃h,h1[σ j]? =some (ai.row g sz n e h))/\μ1 (σ j)=μ0 j)\/(h0[j]? =some ai.dead/\h1[σ j]? =some ai.dead)\/h0[j]? =none)
  (c:∀b,S0 b->S1 b) (hc:bp μ0 h0 S0 w pv v):bp μ1 h1 S1 w (ku σ pv) v:=by
 have m:∀(id gen i off:Nat) (v:Value),bD μ0 h0 w id gen i off v->bD μ1 h1 w (σ id) gen i off v:=λid gen i off v hc=>by
  unfold bD at hc ⊢;obtain⟨q1,q2⟩:=hc;refine⟨q1,?_⟩;rcases l id with⟨g,sz,n,e,f,r1,⟨h,a⟩,d⟩ | ⟨r1,a⟩ | r1
  ·rw[r1]at q2;rw[a];show gen<=g/\_;rw[d];exact q2
  ·rw[a];trivial
  ·rw[r1]at q2;exact q2.elim
 cases pv with
 | own id gen off len=>
  have hc:aN μ0 h0 w id gen off len v:=hc;show aN μ1 h1 w (σ id) gen off len v;unfold aN at hc ⊢;obtain⟨q1,q2⟩:=hc;refine⟨q1,?_⟩;rcases l id with⟨g,sz,n,e,f,r1,⟨h,a⟩,d⟩ | ⟨r1,a⟩ | r1
  ·rw[r1]at q2;rw[a];show gen<=g/\_;rw[d];exact q2
  ·rw[a];trivial
  ·rw[r1]at q2;exact q2.elim
 | aE id gen i off=>exact m _ _ _ _ _ hc
 | lv f bq=>exact o8.map (O:=λid g u=>bD μ1 h1 w id g 0 0 u) (o8.mono (show lr μ0 h0 w f bq v from hc) (λid g u hu=>m id g 0 0 u hu))
 | kC id=>
  have hc:eL μ0 h0 w id v:=hc;show eL μ1 h1 w (σ id) v;unfold eL at hc ⊢;obtain⟨q1,q2⟩:=hc;refine⟨q1,?_⟩;rcases l id with⟨g,sz,n,e,f,r1,⟨h,a⟩,d⟩ | ⟨r1,a⟩ | r1
  ·rw[r1]at q2;rw[a];obtain⟨b,base,o,p⟩:=q2;exact⟨b,base,d.trans o,p⟩
  ·rw[a];trivial
  ·rw[r1]at q2;exact q2.elim
 | gf=>exact hc
 | eM sz n e f F=>exact hc
 | agg cs=>exact(show False from hc).elim
 | eC cs=>exact(show False from hc).elim
 | int k n=>exact aI.mono (λ_ _=>rfl) c hc
 | bool b=>exact aI.mono (λ_ _=>rfl) c hc
 | str s=>exact aI.mono (λ_ _=>rfl) c hc
 | aF=>exact aI.mono (λ_ _=>rfl) c hc
 | fG=>exact aI.mono (λ_ _=>rfl) c hc
 | eD sz n f=>exact aI.mono (λ_ _=>rfl) c hc
 | ez cs=>exact aI.mono (λ_ _=>rfl) c hc
 | fn f=>exact aI.mono (λ_ _=>rfl) c hc
theorem fv {pv:PV} {v:Value} (a:∀pv v,bp μ0 h0 S0 w pv v->bp μ1 h1 S1 w (ku σ pv) v) (hc:gK μ0 h0 S0 w pv v):gK μ1 h1 S1 w (uD σ pv) v:=by
 cases pv with
 | agg cs=>
  obtain⟨vs,q1,q2,q3⟩:=hc;refine⟨vs,q1,by simpa using q2,λj pv hj=>?_⟩;rw[abD]at hj;cases d:cs[j]? with
  | none=>rw[d]at hj;cases hj
  | some c=>
   rw[d]at hj;injection hj with hj;subst hj;obtain⟨u,r1,g⟩:=q3 j c d;exact⟨u,r1,a _ _ g⟩
 | gf=>trivial
 | eM sz n e f F=>exact a (.eM sz n e f F) v hc
 | eC cs=>exact(show False from hc).elim
 | own id gen off len=>exact a (.own id gen off len) v hc
 | aE id gen i off=>exact a (.aE id gen i off) v hc
 | kC id=>exact a (.kC id) v hc
 | lv f bq=>exact a (.lv f bq) v hc
 | int k n=>exact a (.int k n) v hc
 | bool b=>exact a (.bool b) v hc
 | str s=>exact a (.str s) v hc
 | aF=>exact a .aF v hc
 | fG=>exact a .fG v hc
 | eD sz n f=>exact a (.eD sz n f) v hc
 | ez cs=>exact a (.ez cs) v hc
 | fn f=>exact a (.fn f) v hc
theorem KS {pv:PV} {v:Value} (a:∀pv v,bp μ0 h0 S0 w pv v->bp μ1 h1 S1 w (ku σ pv) v) (hc:bg μ0 h0 S0 w pv v):bg μ1 h1 S1 w (Bq σ pv) v:=by
 cases pv with
 | eC cs=>
  obtain⟨vs,q1,q2,q3⟩:=hc;refine⟨vs,q1,by simpa using q2,λj pv hj=>?_⟩;rw[abD]at hj;cases d:cs[j]? with
  | none=>rw[d]at hj;cases hj
  | some c=>
   rw[d]at hj;injection hj with hj;subst hj;obtain⟨u,r1,g⟩:=q3 j c d;exact⟨u,r1,fv a g⟩
 | agg cs=>exact fv (pv:=.agg cs) a hc
 | gf=>trivial
 | eM sz n e f F=>exact fv (pv:=.eM sz n e f F) a hc
 | own id gen off len=>exact fv (pv:=.own id gen off len) a hc
 | aE id gen i off=>exact fv (pv:=.aE id gen i off) a hc
 | kC id=>exact fv (pv:=.kC id) a hc
 | lv f bq=>exact fv (pv:=.lv f bq) a hc
 | int k n=>exact fv (pv:=.int k n) a hc
 | bool b=>exact fv (pv:=.bool b) a hc
 | str s=>exact fv (pv:=.str s) a hc
 | aF=>exact fv (pv:=.aF) a hc
 | fG=>exact fv (pv:=.fG) a hc
 | eD sz n f=>exact fv (pv:=.eD sz n f) a hc
 | ez cs=>exact fv (pv:=.ez cs) a hc
 | fn f=>exact fv (pv:=.fn f) a hc
structure SW (σ:Nat->Nat) (m:Nat) (h:List ai):Prop where
 lt:∀j,j<m->σ j<h.length
 new:∀j,m<=j->σ j=h.length+(j - m)
 inj:∀i j,i<m->j<m->σ i=σ j->i=j
theorem SW.aaN {m:Nat} (hs:SW σ m h) {i j:Nat} (he:σ i=σ j):i=j:=by
 rcases abU i m with hi | hi
 ·rcases abU j m with hj | hj
  ·exact hs.inj i j hi hj he
  ·have:=hs.lt i hi;have:=hs.new j hj;omega
 ·rcases abU j m with hj | hj
  ·have:=hs.lt j hj;have:=hs.new i hi;omega
  ·have:=hs.new i hi;have:=hs.new j hj;omega
structure OP (σ:Nat->Nat) (h h0 h':List ai):Prop where
 EW:∀id,(∀j,j<h0.length->σ j≠id)->h'[id]? =h[id]?
 LW:∀j o,h0[j]? =some o->h'[σ j]? =some (pa σ o)
 len:h.length<=h'.length
def xY (μ:Mu) (σ:Nat->Nat) (m:Nat):Mu:=λj=>if j<m then μ (σ j)else none
open Classical in
noncomputable def KT (μ:Mu) (σ:Nat->Nat) (m:Nat) (μ0:Mu):Mu:=λid=>if a:∃j,j<m/\σ j=id then μ0 (Classical.choose a)else μ id
theorem Nw {m:Nat} (b:∀i j,σ i=σ j->i=j) {j:Nat} (hj:j<m):KT μ σ m μ0 (σ j)=μ0 j:=by
 have a:∃i,i<m/\σ i=σ j:=⟨j,hj,rfl⟩;unfold KT;rw[dif_pos a,b _ _ (Classical.choose_spec a).2]
theorem Br {m id:Nat} (a:∀j,j<m->σ j≠id):KT μ σ m μ0 id=μ id:=by
 unfold KT;rw[dif_neg];rintro⟨j,h1,h2⟩;exact a j h1 h2
theorem ef (q:SW σ hc.length h) (m:∀j o,hc[j]? =some o->h[σ j]? =some (pa σ o)) {pv:PV} {v:Value} (a:bp μ h S w (ku σ pv) v):bp (xY μ σ hc.length) hc S w pv v:=by
 have get:∀id,(∃g sz n e f,hc[id]? =some (ai.row g sz n e f)/\h[σ id]? =some (pa σ (ai.row g sz n e f))/\xY μ σ hc.length id=μ (σ id))\/(hc[id]? =some ai.dead/\h[σ id]? =some ai.dead)\/h[σ id]? =none:=λid=>by
  cases l:hc[id]? with
  | none=>
   refine .inr (.inr (abZ ?_));have r:hc.length<=id:=List.getElem?_eq_none_iff.1 l;have:=q.new id r;omega
  | some o=>
   have t:=(As.1 l).1;cases o with
   | dead=>exact .inr (.inl ⟨rfl,m id _ l⟩)
   | row g sz n e f=>exact .inl ⟨g,sz,n,e,f,rfl,m id _ l,by unfold xY;rw[An t]⟩
 have p:∀(id gen i off:Nat) (v:Value),bD μ h w (σ id) gen i off v->bD (xY μ σ hc.length) hc w id gen i off v:=λid gen i off v a=>by
  unfold bD at a ⊢;obtain⟨q1,q2⟩:=a;refine⟨q1,?_⟩;rcases get id with⟨g,sz,n,e,f,r1,c,d⟩ | ⟨r1,c⟩ | r1
  ·rw[c]at q2;rw[r1];show gen<=g/\_;rw[d];exact q2
  ·rw[r1];trivial
  ·rw[r1]at q2;exact q2.elim
 cases pv with
 | own id gen off len=>
  have a:aN μ h w (σ id) gen off len v:=a;show aN _ hc w id gen off len v;unfold aN at a ⊢;obtain⟨q1,q2⟩:=a;refine⟨q1,?_⟩;rcases get id with⟨g,sz,n,e,f,r1,c,d⟩ | ⟨r1,c⟩ | r1
  ·rw[c]at q2;rw[r1];show gen<=g/\_;rw[d];exact q2
  ·rw[r1];trivial
  ·rw[r1]at q2;exact q2.elim
 | aE id gen i off=>exact p _ _ _ _ _ a
 | lv f bq=>exact o8.mono (o8.WN (show lr μ h w f (oz σ bq) v from a)) (λid g u hu=>p _ _ _ _ _ hu)
 | kC id=>
  have a:eL μ h w (σ id) v:=a;show eL _ hc w id v;unfold eL at a ⊢;obtain⟨q1,q2⟩:=a;refine⟨q1,?_⟩;rcases get id with⟨g,sz,n,e,f,r1,c,d⟩ | ⟨r1,c⟩ | r1
  ·rw[c]at q2;rw[r1];obtain⟨b,base,x,y⟩:=q2;exact⟨b,base,d.trans x,y⟩
  ·rw[r1];trivial
  ·rw[r1]at q2;exact q2.elim
 | gf=>exact a
 | eM sz n e f F=>exact a
 | agg cs=>exact(show False from a).elim
 | eC cs=>exact(show False from a).elim
 | int k n=>exact a
 | bool b=>exact a
 | str s=>exact a
 | aF=>exact a
 | fG=>exact a
 | eD sz n f=>exact a
 | ez cs=>exact a
 | fn f=>exact a
theorem H2 (c:SW σ hc.length h) (d:∀j o,hc[j]? =some o->h[σ j]? =some (pa σ o)) {pv:PV} {v:Value} (a:gK μ h S w (uD σ pv) v):gK (xY μ σ hc.length) hc S w pv v:=by
 cases pv with
 | agg cs=>
  obtain⟨vs,q1,q2,q3⟩:=a;refine⟨vs,q1,by simpa using q2,λj pv hj=>?_⟩;obtain⟨u,r1,g⟩:=q3 j (ku σ pv) (by rw[abD,hj];rfl);exact⟨u,r1,ef c d g⟩
 | gf=>trivial
 | eM sz n e f F=>exact ef (μ:=μ) (S:=S) (w:=w) (pv:=.eM sz n e f F) c d a
 | eC cs=>exact(show False from a).elim
 | own id gen off len=>exact ef (μ:=μ) (S:=S) (w:=w) (pv:=.own id gen off len) c d a
 | aE id gen i off=>exact ef (μ:=μ) (S:=S) (w:=w) (pv:=.aE id gen i off) c d a
 | kC id=>exact ef (μ:=μ) (S:=S) (w:=w) (pv:=.kC id) c d a
 | lv f bq=>exact ef (μ:=μ) (S:=S) (w:=w) (pv:=.lv f bq) c d a
 | int k n=>exact ef (μ:=μ) (S:=S) (w:=w) (pv:=.int k n) c d a
 | bool b=>exact ef (μ:=μ) (S:=S) (w:=w) (pv:=.bool b) c d a
 | str s=>exact ef (μ:=μ) (S:=S) (w:=w) (pv:=.str s) c d a
 | aF=>exact ef (μ:=μ) (S:=S) (w:=w) (pv:=.aF) c d a
 | fG=>exact ef (μ:=μ) (S:=S) (w:=w) (pv:=.fG) c d a
 | eD sz n f=>exact ef (μ:=μ) (S:=S) (w:=w) (pv:=.eD sz n f) c d a
 | ez cs=>exact ef (μ:=μ) (S:=S) (w:=w) (pv:=.ez cs) c d a
 | fn f=>exact ef (μ:=μ) (S:=S) (w:=w) (pv:=.fn f) c d a
theorem KV {c:PV} {sz n:Nat} {e:TypeId} {f:Nat->List PV} {F:Nat->Prop} (hc:ku σ c=.eM sz n e f F):c=.eM sz n e f F:=by cases c<;>first | exact hc | cases hc
theorem Nx {c:PV} (h:dL c=false):dL (ku σ c)=false:=by cases c<;>first | rfl | cases h
theorem ACall.LW {f:FuncId} {args k8:List PV} {R:PV->List ai->Prop} (hA:ACall P f args hc R) (h:List ai) (lX:SW σ hc.length h) (I:∀j o,hc[j]? =some o->h[σ j]? =some (pa σ o))
  (mC:k8=args.map (uD σ)) (W:List ai->List ai) (ao:∀h0,hc.length<=h0.length->OP σ h h0 (W h0)):
  ACall P f k8 h (λres h'=>∃r0 h0,R r0 h0/\res=Bq σ r0/\h'=W h0):=by
 refine⟨hA.1,λw vs μ S hH B fy ha=>?_⟩;subst mC;have KU:∀i j,σ i=σ j->i=j:=λi j=>lX.aaN
 have Ny:∀b,wj (xY μ σ hc.length) hc b->wj μ h b:=λb ⟨j,g,sz,n,e,f,base,q1,q2⟩=>by
  have N:=(As.1 q1).1;unfold xY at q2;rw[An N]at q2;exact⟨σ j,g,sz,n,e,_,base,I j _ q1,q2⟩
 have H3:∀j x y b,cw hc j x y b->cw h (σ j) x y b:=λj x y b ⟨g,sz,n,e,f,bw,n',X,f',F',q1,q2,q3,q4⟩=>⟨g,sz,n,e,_,bw,n',X,f',F',I j _ q1,q2,by
  show((f x).map (ku σ))[y]? =_;rw[abD,q3];rfl,q4⟩
 have KW:∀b,bS (xY μ σ hc.length) hc b->bS μ h b/\True:=λb s=>by
  rcases s with s | ⟨x,y,z,s⟩
  ·exact⟨.inl (Ny b s),trivial⟩
  ·exact⟨.inr ⟨_,_,_,H3 _ _ _ _ s⟩,trivial⟩
 have a0:bC (xY μ σ hc.length) hc S w:=λj g sz n e f hj=>by
  have N:=(As.1 hj).1;obtain⟨q1,q2⟩:=hH (σ j) _ _ _ _ _ (I j _ hj);refine⟨λi hi=>by simpa using q1 i hi,?_⟩;have hm:xY μ σ hc.length j=μ (σ j):=by unfold xY;rw[An N]
  rw[hm];cases O:μ (σ j)with
  | none=>rw[O]at q2;exact q2
  | some p=>
   obtain⟨b,base⟩:=p;rw[O]at q2;obtain⟨o,r1,m⟩:=q2;refine⟨o,r1,?_⟩;cases o with
   | cells cur X z=>
    obtain⟨Y,x2,x3,C⟩:=m;refine⟨Y,x2,x3,λi k pv hi Q=>?_⟩;obtain⟨u,s1,U⟩:=C i k (ku σ pv) hi (by rw[abD,Q];rfl);refine⟨u,s1,?_⟩;cases d:dL pv with
    | false=>exact(ef lX I U.c).k d
    | true=>
     cases pv with
     | eM lG n2 e2 f2 F2=>exact U
     | _=>cases d
   | map es c=>
    obtain⟨Y,C⟩:=m;refine⟨Y,λi hi=>?_⟩;obtain⟨kp,vp,en,y1,y2,y3,y4⟩:=C i hi;refine⟨kp,vp,en,?_,y2,y3,y4⟩;have y1:(f i).map (ku σ)=[kp,vp]:=y1;generalize f i=l at y1;rcases l with _ | ⟨a,_ | ⟨b,_ | ⟨c3,l3⟩⟩⟩<;>simp at y1;obtain⟨rfl,rfl⟩:=y1;rw[zW y2,zW y3]
   | _=>exact m.elim
 have a9:mT (xY μ σ hc.length) hc S w:=⟨λb s=>B.apart b (KW b s).1,λb s=>B.lt b (KW b s).1,B.slt,λi j gi HR ni ei fi gj iN nj ej fj b o o' hi hj kq jN=>by
  have bl:=(As.1 hi).1;have NA:=(As.1 hj).1;unfold xY at kq jN;rw[An bl]at kq;rw[An NA]at jN;exact KU _ _ (B.inj _ _ _ _ _ _ _ _ _ _ _ _ _ _ _ (I i _ hi) (I j _ hj) kq jN),B.known,λb s x y z d=>B.hv b (Ny b s) _ _ _ (H3 _ _ _ _ d),λb x y z x' y' z' d Z=>by
  obtain⟨J,e2,T⟩:=B.hh b _ _ _ _ _ _ (H3 _ _ _ _ d) (H3 _ _ _ _ Z);exact⟨KU _ _ J,e2,T⟩⟩
 refine(hA.2 w vs _ S a0 a9 (by simpa using fy) (λj pv hj=>?_)).mono ?_
 ·obtain⟨v,q1,q2⟩:=ha j (uD σ pv) (by rw[abD,hj];rfl);exact⟨v,q1,H2 lX I q2⟩
 ·rintro e w' ⟨v,r0,h0,μ0,S0,he,hR,hv,Ee,zY,A⟩;have hlen:hc.length<=h0.length:=A.len;have H:=ao h0 hlen;obtain⟨h',SX⟩:∃h',h'=W h0:=⟨_,rfl⟩;rw[<-SX]at H;have Yk:∀j,j<h0.length->KT μ σ h0.length μ0 (σ j)=μ0 j:=λj hj=>Nw KU hj
  have inv:∀id o,h'[id]? =some o->(∃j V,σ j=id/\h0[j]? =some V/\o=pa σ V/\KT μ σ h0.length μ0 id=μ0 j)\/((∀j,j<h0.length->σ j≠id)/\h[id]? =some o/\KT μ σ h0.length μ0 id=μ id):=λid o hid=>by
   by_cases d:∃j,j<h0.length/\σ j=id
   ·obtain⟨j,hj,rfl⟩:=d;have:=H.LW j _ (abm hj);rw[this]at hid;injection hid with hid;exact .inl ⟨j,_,rfl,abm hj,hid.symm,Yk j hj⟩
   ·have E:∀j,j<h0.length->σ j≠id:=λj hj he=>d ⟨j,hj,he⟩;rw[H.EW id E]at hid;exact .inr ⟨E,hid,Br E⟩
  have apart:∀id g sz n e f b base,(∀j,j<h0.length->σ j≠id)->h[id]? =some (ai.row g sz n e f)->μ id=some (b,base)->¬bS (xY μ σ hc.length) hc b:=λid g sz n e f b base E hid hm K=>by
   rcases K with⟨j,gj,iN,nj,ej,fj,bj,q1,q2⟩ | ⟨x,y,z,d⟩;rotate_left
   ·exact B.hv b ⟨id,g,sz,n,e,f,base,hid,hm⟩ _ _ _ (H3 _ _ _ _ d)
   have N:=(As.1 q1).1;unfold xY at q2;rw[An N]at q2;exact E j aeP (B.inj _ _ _ _ _ _ _ _ _ _ _ _ _ _ _ (I j _ q1) hid q2 hm)
  have xZ:∀id x y b,(∀j,j<h0.length->σ j≠id)->cw h id x y b->¬bS (xY μ σ hc.length) hc b:=λid x y b E d K=>by
   rcases K with K | ⟨j,x',y',Z⟩
   ·exact B.hv b (Ny b K) _ _ _ d
   ·obtain⟨J,_,_⟩:=B.hh b _ _ _ _ _ _ (H3 _ _ _ _ Z) d;obtain⟨_,_,_,_,_,_,_,_,_,_,q1,_⟩:=Z;have:=(As.1 q1).1;exact E j aeP J
  have OQ:∀b,wj (KT μ σ h0.length μ0) h' b->wj μ0 h0 b\/∃id g sz n e f base,(∀j,j<h0.length->σ j≠id)/\h[id]? =some (ai.row g sz n e f)/\μ id=some (b,base):=λb ⟨id,g,sz,n,e,f,base,q1,q2⟩=>by
   rcases inv id _ q1 with⟨j,V,rfl,r1,m,C⟩ | ⟨r1,m,C⟩
   ·rw[C]at q2;cases V with
    | dead=>cases m
    | row g0 NB n0 e0 f0=>exact .inl ⟨j,g0,NB,n0,e0,f0,base,r1,q2⟩
   ·rw[C]at q2;exact .inr ⟨id,g,sz,n,e,f,base,r1,m,q2⟩
  have zZ:∀id x y b,cw h' id x y b->(∃j,σ j=id/\cw h0 j x y b)\/((∀j,j<h0.length->σ j≠id)/\cw h id x y b):=λid x y b ⟨g,sz,n,e,f,bw,n',X,f',F',q1,q2,q3,q4⟩=>by
   rcases inv id _ q1 with⟨j,V,rfl,r1,m,C⟩ | ⟨r1,m,C⟩
   ·cases V with
    | dead=>cases m
    | row g0 NB n0 e0 f0=>
     injection m with J e2 T e4 e5;subst J e2 T e4 e5;rw[abD]at q3;cases d:(f0 x)[y]? with
     | none=>rw[d]at q3;cases q3
     | some c=>
      rw[d]at q3;injection q3 with q3;rw[KV q3]at d;exact .inl ⟨j,rfl,_,_,_,_,_,_,_,_,_,_,r1,q2,d,q4⟩
   ·exact .inr ⟨r1,_,_,_,_,_,_,_,_,_,_,m,q2,q3,q4⟩
  have jg:∀b,bS (KT μ σ h0.length μ0) h' b->bS μ0 h0 b\/(bS μ h b/\¬bS (xY μ σ hc.length) hc b):=λb s=>by
   rcases s with s | ⟨x,y,z,s⟩
   ·rcases OQ b s with q | ⟨id,g,sz,n,e,f,base,q1,q2,q3⟩
    ·exact .inl (.inl q)
    ·exact .inr ⟨.inl ⟨id,g,sz,n,e,f,base,q2,q3⟩,apart id _ _ _ _ _ _ _ q1 q2 q3⟩
   ·rcases zZ x y z b s with⟨j,_,q⟩ | ⟨q1,q2⟩
    ·exact .inl (.inr ⟨_,_,_,q⟩)
    ·exact .inr ⟨.inr ⟨_,_,_,q2⟩,xZ _ _ _ _ q1 q2⟩
  have mixed:∀b,bS μ0 h0 b->bS μ h b->¬bS (xY μ σ hc.length) hc b->False:=λb q1 q2 q3=>by
   rcases A.own b q1 with r | r
   ·exact q3 r
   ·have:=B.lt b q2;omega
  have gJ:Fr μ h S w (KT μ σ h0.length μ0) h' S0 w':=by
   refine⟨H.len,λb s uf=>A.blocks b s (λF=>uf (KW b F).1),A.sub,λb s=>?_,λb s=>?_,A.size,A.os,A.tape,A.output,λid g sz n e f hid=>?_,λid hid=>?_,λb k s dN=>?_,λid g sz n e f b base hid hm jJ=>?_,λb id x y d jJ=>?_⟩;rotate_right
   ·by_cases F:bS (xY μ σ hc.length) hc b
    ·rcases F with F | ⟨j,x',y',F⟩
     ·exact absurd d (B.hv b (Ny b F) _ _ _)
     ·exact A.rb b j x' y' F jJ
    ·obtain⟨es,c,q⟩:=jJ;exact⟨es,c,(A.blocks b (abq.1 q).1 F).trans q⟩
   ·rcases A.new b s with q | q | q
    ·exact .inl q
    ·exact .inr (.inl (KW b q).1)
    ·exact .inr (.inr q)
   ·rcases jg b s with q | ⟨q,_⟩
    ·rcases A.own b q with r | r
     ·exact .inl (KW b r).1
     ·exact .inr r
    ·exact .inl q
   ·by_cases d:∃j,j<hc.length/\σ j=id
    ·obtain⟨j,hj,rfl⟩:=d;have nq:j<h0.length:=by omega
     have L:=abm hj;have K:=I j _ L;rw[K]at hid;cases D:hc[j]with
     | dead=>rw[D]at hid;cases hid
     | row gc ad nc ec fc=>
      rw[D]at hid L;injection hid with hid;injection hid with J e2 T e4 e5;subst J e2 T e4;have hg:=A.xQ j _ _ _ _ _ L;have hs:=H.LW j _ (abm nq);rw[abm nq]at hg;rw[hs];cases bo:h0[j]with
      | dead=>trivial
      | row g' bw n' X f'=>
       rw[bo]at hg;refine⟨hg.1,λGp=>?_⟩;obtain⟨a1,a2,a3,a4⟩:=hg.2 Gp;refine⟨?_,a2,a3,a4⟩;rw[Yk j nq,a1];unfold xY;rw[An hj]
    ·have E:∀j,j<h0.length->σ j≠id:=λj hj he=>by
      rcases abU j hc.length with h1 | h1
      ·exact d ⟨j,h1,he⟩
      ·have:=lX.new j h1;have:=(As.1 hid).1;omega
     rw[H.EW id E,hid];exact⟨abn _,λ_=>⟨Br E,rfl,rfl,rfl⟩⟩
   ·by_cases d:∃j,j<hc.length/\σ j=id
    ·obtain⟨j,hj,rfl⟩:=d;have nq:j<h0.length:=by omega
     have L:=abm hj;have K:=I j _ L;rw[K]at hid;cases D:hc[j]with
     | row gc ad nc ec fc=>rw[D]at hid;cases hid
     | dead=>
      rw[D]at L;have hd:=A.dead j L;exact H.LW j _ hd
    ·have E:∀j,j<h0.length->σ j≠id:=λj hj he=>by
      rcases abU j hc.length with h1 | h1
      ·exact d ⟨j,h1,he⟩
      ·have:=lX.new j h1;have:=(As.1 hid).1;omega
     rw[H.EW id E,hid]
   ·by_cases F:bS (xY μ σ hc.length) hc b
    ·exact A.bq b k F dN
    ·exact iu.of_same (A.blocks b dN.lt F) dN
   ·by_cases d:∃j,j<hc.length/\σ j=id
    ·obtain⟨j,hj,rfl⟩:=d;have nq:j<h0.length:=by omega
     have L:=abm hj;have K:=I j _ L;rw[K]at hid;cases D:hc[j]with
     | dead=>rw[D]at hid;cases hid
     | row gc ad nc ec fc=>
      rw[D]at hid L;have br:xY μ σ hc.length j=some (b,base):=by unfold xY;rw[An hj];exact hm
      obtain⟨r1,m⟩:=A.maps j _ _ _ _ _ b base L br jJ;refine⟨r1,?_⟩;rcases m with m | ⟨⟨g',bw,n',X,f',m⟩,C⟩
      ·exact .inl (H.LW j _ m)
      ·exact .inr ⟨⟨_,_,_,_,_,H.LW j _ m⟩,(Yk j nq).trans C⟩
    ·have E:∀j,j<h0.length->σ j≠id:=λj hj he=>by
      rcases abU j hc.length with h1 | h1
      ·exact d ⟨j,h1,he⟩
      ·have:=lX.new j h1;have:=(As.1 hid).1;omega
     obtain⟨es,c,q⟩:=jJ;exact⟨⟨es,c,(A.blocks b (abq.1 q).1 (apart id _ _ _ _ _ _ _ E hid hm)).trans q⟩,.inr ⟨⟨_,_,_,_,_,(H.EW id E).trans hid⟩,(Br E).trans hm⟩⟩
  have aJ:∀pv v,bp μ0 h0 S0 w' pv v->bp (KT μ σ h0.length μ0) h' S0 w' (ku σ pv) v:=λpv v bt=>by
   refine KR (λj=>?_) (λ_ s=>s) bt;cases F:h0[j]? with
   | none=>exact .inr (.inr rfl)
   | some o=>
    have N:=(As.1 F).1;cases o with
    | dead=>exact .inr (.inl ⟨rfl,H.LW j _ F⟩)
    | row g sz n e f=>exact .inl ⟨g,sz,n,e,f,rfl,⟨_,H.LW j _ F⟩,Yk j N⟩
  refine⟨v,_,h',_,S0,he,⟨r0,h0,hR,rfl,?_⟩,KS aJ hv,λid g sz n e f hid=>?_,⟨λb s hs=>?_,λb s=>?_,zY.slt,?_,zY.known,λb s id x y d=>?_,λb id x y ag x' y' d Z=>?_⟩,gJ⟩;rotate_right 2
  ·rcases OQ b s with q | ⟨k,g,sz,n,e,f,base,q1,q2,q3⟩
   ·rcases zZ id x y b d with⟨j,_,r⟩ | ⟨r1,m⟩
    ·exact zY.hv b q _ _ _ r
    ·exact mixed b (.inl q) (.inr ⟨_,_,_,m⟩) (xZ _ _ _ _ r1 m)
   ·rcases zZ id x y b d with⟨j,_,r⟩ | ⟨r1,m⟩
    ·exact mixed b (.inr ⟨_,_,_,r⟩) (.inl ⟨k,g,sz,n,e,f,base,q2,q3⟩) (apart k _ _ _ _ _ _ _ q1 q2 q3)
    ·exact B.hv b ⟨k,g,sz,n,e,f,base,q2,q3⟩ _ _ _ m
  ·rcases zZ id x y b d with⟨j,rfl,r⟩ | ⟨r1,m⟩
   ·rcases zZ ag x' y' b Z with⟨j',rfl,t⟩ | ⟨M,G⟩
    ·obtain⟨J,e2,T⟩:=zY.hh b _ _ _ _ _ _ r t;exact⟨by rw[J],e2,T⟩
    ·exact(mixed b (.inr ⟨_,_,_,r⟩) (.inr ⟨_,_,_,G⟩) (xZ _ _ _ _ M G)).elim
   ·rcases zZ ag x' y' b Z with⟨j',rfl,t⟩ | ⟨M,G⟩
    ·exact(mixed b (.inr ⟨_,_,_,t⟩) (.inr ⟨_,_,_,m⟩) (xZ _ _ _ _ r1 m)).elim
    ·exact B.hh b _ _ _ _ _ _ m G
  ·exact SX
  ·rcases inv id _ hid with⟨j,V,rfl,r1,m,C⟩ | ⟨r1,m,C⟩
   ·cases V with
    | dead=>cases m
    | row g0 NB n0 e0 f0=>
     injection m with J e2 T e4 e5;subst J e2 T e4 e5;obtain⟨q1,q2⟩:=Ee j _ _ _ _ _ r1;refine⟨λi hi=>by simpa using q1 i hi,?_⟩;rw[C];cases O:μ0 j with
     | none=>rw[O]at q2;exact q2
     | some p=>
      obtain⟨b,base⟩:=p;rw[O]at q2;obtain⟨o,s1,U⟩:=q2;refine⟨o,s1,?_⟩;cases o with
      | cells cur X z=>
       obtain⟨Y,x2,x3,s3⟩:=U;refine⟨Y,x2,x3,λi k pv hi Q=>?_⟩;rw[abD]at Q;cases d:(f0 i)[k]? with
       | none=>rw[d]at Q;cases Q
       | some c=>
        rw[d]at Q;injection Q with Q;subst Q;obtain⟨u,M,G⟩:=s3 i k c hi d;refine⟨u,M,?_⟩;cases an:dL c with
        | false=>exact(aJ _ _ G.c).k (Nx an)
        | true=>
         cases c with
         | eM lG n2 e2 f2 F2=>exact G
         | _=>cases an
      | map es c=>
       obtain⟨Y,s3⟩:=U;refine⟨Y,λi hi=>?_⟩;obtain⟨kp,vp,en,y1,y2,y3,y4⟩:=s3 i hi;exact⟨kp,vp,en,by show(f0 i).map (ku σ)=_;rw[y1];show[ku σ kp,ku σ vp]=_;rw[zX y2,zX y3],y2,y3,y4⟩
      | _=>exact U.elim
   ·obtain⟨q1,q2⟩:=hH id _ _ _ _ _ m;refine⟨q1,?_⟩;rw[C];cases O:μ id with
    | none=>rw[O]at q2;exact q2
    | some p=>
     obtain⟨b,base⟩:=p;rw[O]at q2;obtain⟨o,s1,U⟩:=q2;have N:b<w.heap.size:=(abq.1 s1).1
     exact⟨o,(A.blocks b N (apart id _ _ _ _ _ _ _ r1 m O)).trans s1,U.mono (λi y pv v hi hy hr=>hr.fr gJ B (λbw n' X f' F' he b2 qj=>by
      have d:cw h id i y b2:=⟨_,_,_,_,_,_,_,_,_,_,m,hi,he▸hy,qj⟩;exact A.blocks b2 (B.lt b2 (.inr ⟨_,_,_,d⟩)) (xZ _ _ _ _ r1 d)))⟩
  ·rcases jg b s with q | ⟨q1,q2⟩
   ·exact zY.apart b q hs
   ·rcases A.new b hs with r | r | r
    ·exact B.apart b q1 r
    ·exact q2 r
    ·have:=B.lt b q1;omega
  ·rcases jg b s with q | ⟨q1,_⟩
   ·exact zY.lt b q
   ·exact abG (B.lt b q1) A.size
  ·intro i j gi HR ni ei fi gj iN nj ej fj b o o' hi hj kq jN
   have OR:∀(i':Nat) (o1:ai) (g sz n:Nat) (e:TypeId) (f:Nat->List PV) (oo:Nat) (id g2 lG n2:Nat) (e2:TypeId) (f2:Nat->List PV) (aa:Nat),h0[i']? =some (ai.row g sz n e f)->μ0 i'=some (b,oo)->(∀j,j<h0.length->σ j≠id)->h[id]? =some (ai.row g2 lG n2 e2 f2)->μ id=some (b,aa)->False:=
    λi' o1 g sz n e f oo id g2 lG n2 e2 f2 aa a1 a2 a3 a4 a5=>by
     exact mixed b (.inl ⟨i',g,sz,n,e,f,oo,a1,a2⟩) (.inl ⟨id,g2,lG,n2,e2,f2,aa,a4,a5⟩) (apart id _ _ _ _ _ _ _ a3 a4 a5)
   rcases inv i _ hi with⟨i0,oi,rfl,r1,m,C⟩ | ⟨r1,m,C⟩
   ·rw[C]at kq;cases oi with
    | dead=>cases m
    | row g0 NB n0 e0 f0=>
     rcases inv j _ hj with⟨j0,oj,rfl,M,G,t3⟩ | ⟨M,G,t3⟩
     ·rw[t3]at jN;cases oj with
      | dead=>cases G
      | row g2 lG n2 e2 f2=>rw[zY.inj i0 j0 _ _ _ _ _ _ _ _ _ _ _ _ _ r1 M kq jN]
     ·rw[t3]at jN;exact(OR i0 ai.dead _ _ _ _ _ _ _ _ _ _ _ _ _ r1 kq M G jN).elim
   ·rw[C]at kq;rcases inv j _ hj with⟨j0,oj,rfl,M,G,t3⟩ | ⟨M,G,t3⟩
    ·rw[t3]at jN;cases oj with
     | dead=>cases G
     | row g2 lG n2 e2 f2=>exact(OR j0 ai.dead _ _ _ _ _ _ _ _ _ _ _ _ _ M jN r1 m kq).elim
    ·rw[t3]at jN;exact B.inj i j _ _ _ _ _ _ _ _ _ _ _ _ _ m G kq jN
def eK (is:List Nat) (N:Nat) (j:Nat):Nat:=match is[j]? with
 | some id=>id
 | none=>N+(j - is.length)
def lY (h:List ai):List Nat->List ai->List ai
 | id::r,o::l=>lY (h.set id o) r l
 | _,_=>h
def uE (h:List ai) (is:List Nat) (h0:List ai):List ai:=
 lY h is (h0.map (pa (eK is h.length)))++(h0.drop is.length).map (pa (eK is h.length))
theorem eY:∀(is:List Nat) (l h:List ai),(lY h is l).length=h.length
 | [],[],_=>rfl
 | [],_::_,_=>rfl
 | _::_,[],_=>rfl
 | id::r,o::l,h=>by simp only[lY];rw[eY r l];simp
theorem rL:∀(is:List Nat) (l h:List ai) (id:Nat),id∉is->(lY h is l)[id]? =h[id]?
 | [],[],_,_,_=>rfl
 | [],_::_,_,_,_=>rfl
 | _::_,[],_,_,_=>rfl
 | i::r,o::l,h,id,a=>by
  simp only[abE,not_or]at a;simp only[lY];rw[rL r l _ id a.2,abL (acB a.1)]
theorem ya:∀(is:List Nat) (l h:List ai) (j id:Nat) (o:ai),is.Nodup->is[j]? =some id->l[j]? =some o->id<h.length->(lY h is l)[id]? =some o
 | [],_,_,_,_,_,_,h1,_,_=>by simp at h1
 | _::_,[],_,_,_,_,_,_,h2,_=>by simp at h2
 | i::r,b::l,h,j,id,o,hd,h1,h2,a=>by
  simp only[adk]at hd;simp only[lY];cases j with
  | zero=>
   simp at h1 h2;subst h1 h2;rw[rL r l _ _ hd.1];simp [a]
  | succ j=>
   exact ya r l _ j id o hd.2 afi afh (by simpa using a)
theorem RJ (is:List Nat) (h:List ai) (hd:is.Nodup) (a:∀id∈is,id<h.length):SW (eK is h.length) is.length h where
 lt j hj:=by
  unfold eK;rw[abm hj];exact a _ (abu hj)
 new j hj:=by
  unfold eK;rw[abZ hj]
 inj i j hi hj he:=by
  unfold eK at he;rw[abm hi,abm hj]at he;exact(List.getElem_inj hd).1 he
theorem KX (is:List Nat) (h h0:List ai) (hd:is.Nodup) (c:∀id∈is,id<h.length) (hle:is.length<=h0.length):OP (eK is h.length) h h0 (uE h is h0) where
 len:=by unfold uE;rw[abt,eY];omega
 EW id a:=by
  unfold uE;rcases abU id h.length with h1 | h1
  ·rw[abK (by rw[eY];exact h1),rL];intro hm;obtain⟨j,hj,rfl⟩:=abQ.1 hm;refine a j aeP ?_;unfold eK;rw[abm hj]
  ·rw[abI (by rw[eY];exact h1),eY,abZ h1,abZ];simp only[abT,adx];rcases abU (id - h.length) (h0.length - is.length)with h2 | h2
   ·refine(a (is.length+(id - h.length)) aeP ?_).elim;unfold eK;rw[abZ aeP];simp;omega
   ·exact h2
 LW j o hj:=by
  have d:=(As.1 hj).1;unfold uE;rcases abU j is.length with h1 | h1
  ·have hs:eK is h.length j=is[j]:=by unfold eK;rw[abm h1]
   have b:=c _ (abu h1);rw[hs,abK (by rw[eY];exact b)];exact ya is _ h j _ _ hd (abm h1) (by rw[abD,hj];rfl) b
  ·have hs:eK is h.length j=h.length+(j - is.length):=by unfold eK;rw[abZ h1]
   rw[hs,abI (by rw[eY];omega),eY,abD,acf];rw[show is.length+(h.length+(j - is.length) - h.length)=j from by omega,hj];rfl
theorem ACall.over {f:FuncId} {args a:List PV} {R:PV->List ai->Prop} (c:ACall P f args hc R) (is:List Nat) (h:List ai) (d:hc.length=is.length) (hd:is.Nodup) (b:∀id∈is,id<h.length)
  (e:∀j o,hc[j]? =some o->h[eK is h.length j]? =some (pa (eK is h.length) o)) (g:a=args.map (uD (eK is h.length))):
  ACall P f a h (λres h'=>∃r0 h0,R r0 h0/\res=Bq (eK is h.length) r0/\h'=uE h is h0):=
 c.LW h (by rw[d];exact RJ is h hd b) e g (uE h is) (λh0 hle=>KX is h h0 hd b aeP)
end
def look (l:List (Nat×TI)) (t:Nat):TI:=match l with
 | []=>.other
 | (k,ti)::r=>match Nat.beq t k with
  | true=>ti
  | false=>look r t
def rf (l:List (Nat×TI)):lS:=⟨look l⟩
def fJ:List Value->List PV->Bool
 | [],[]=>true
 | .int k n::r,.int c d::a=>mY k c&&n==d&&fJ r a
 | .bool b::r,.bool b'::a=>b==b'&&fJ r a
 | .string s::r,.str e::a=>s.data.toList==e&&fJ r a
 | .slice none 0 0::r,.aF::a=>fJ r a
 | .pointer none::r,.fG::a=>fJ r a
 | _,_=>false
def oA (P:Program) (t n:Nat):Bool:=match P.info? t with
 | some i=>Nat.beq i.size n
 | none=>false
def nR (P:Program):List Field->List (Nat×Nat×Bool)->Bool
 | [],[]=>true
 | f::r,(off,size,a)::b=>Nat.beq f.offset off&&oA P f.type size&&Nat.blt 0 size&&(match P.underlying f.type with | some d=>a==xA d | none=>false)&&nR P r b
 | _,_=>false
def Bs:Value->PV->Bool
 | .int k n,.int a c=>mY k a&&n==c
 | .bool b,.bool b'=>b==b'
 | .string s,.str d=>s.data.toList==d
 | _,_=>false
theorem Bt {v:Value} {z:PV} (h:Bs v z=true):mZ z v/\iq z=true/\storable z=true:=by
 unfold Bs at h;split at h
 ·simp only[Is,ack]at h;obtain⟨h1,rfl⟩:=h;obtain rfl:=dK h1;exact⟨rfl,rfl,rfl⟩
 ·rw[ack]at h;subst h;exact⟨rfl,rfl,rfl⟩
 ·rw[ack]at h;subst h;exact⟨rfl,rfl,rfl⟩
 ·cases h
def k9 (P:Program) (t:Nat):TI->Bool
 | .int k=>(match P.underlying t with | some (.int c)=>mY k c | _=>false)&&oA P t 1
 | .bool=>(match P.underlying t with | some .bool=>true | _=>false)&&oA P t 1
 | .str=>(match P.underlying t with | some .string=>true | _=>false)&&oA P t 1
 | .ptr e=>(match P.underlying t with | some (.pointer b)=>Nat.beq e b | _=>false)&&oA P t 1
 | .slice e sz d z=>(match P.underlying t with | some (.slice b)=>Nat.beq e b | _=>false)&&oA P t 1&&Nat.blt 0 sz&&Nat.blt 0 d&&
   (match P.info? e with
    | some i=>Nat.beq i.size sz&&Nat.beq i.bytes d&&(match i.zero with | some a=>Nat.beq a.cells.size sz&&fJ a.cells.toList z | none=>false)
    | none=>false)
 | .struct sz fl z=>(!(uW z)||Bg P t z)&&(match P.underlying t with | some (.struct fs)=>nR P fs.toList fl | _=>false)&&
   (match P.info? t with
    | some i=>Nat.beq i.size sz&&(match i.zero with | some a=>Nat.beq a.cells.size sz&&fJ a.cells.toList z | none=>false)
    | none=>false)
 | .map k e z=>(match P.underlying t with | some (.map c b)=>Nat.beq k c&&Nat.beq e b | _=>false)&&oA P t 1&&(match P.info? e with
   | some i=>(match i.zero with | some a=>Bs a z | none=>false)
   | none=>false)
 | .other=>true
def zeroAt (P:Program) (t:Nat) (z:List PV) (n:Nat):Bool:=match P.info? t with
 | some i=>match i.zero with
  | some a=>Nat.beq a.cells.size n&&Nat.beq z.length n&&fJ a.cells.toList z
  | none=>false
 | none=>false
def NC (P:Program) (t:Nat) (ti:TI):Bool:=k9 P t ti&&(match xB ti with | some z=>zeroAt P t z (jf ti) | none=>true)
theorem qa:∀(vs:List Value) (z:List PV),fJ vs z=true->vs.length=z.length/\∀(j:Nat) (u:Value),vs[j]? =some u->∃pv:PV,z[j]? =some pv/\u.oneCell'=true/\∀S w,aI S w pv u:=by
 intro vs;induction vs with
 | nil=>
  intro z d;cases z with
  | nil=>exact⟨rfl,λj u hj=>by simp at hj⟩
  | cons a r=>simp [fJ]at d
 | cons v vs g=>
  intro z d;cases z with
  | nil=>cases v<;>simp [fJ]at d
  | cons p z=>
   have step:∀(e:fJ vs z=true) (f:v.oneCell'=true) (hp:∀S w,aI S w p v),(v::vs).length=(p::z).length/\∀(j:Nat) (u:Value),(v::vs)[j]? =some u->∃pv:PV,(p::z)[j]? =some pv/\u.oneCell'=true/\∀S w,aI S w pv u:=by
    intro e f hp;obtain⟨h1,h2⟩:=g z e;refine⟨by simp [h1],λj u hj=>?_⟩;cases j with
    | zero=>simp at hj;subst hj;exact⟨p,rfl,f,hp⟩
    | succ j=>simp at hj;obtain⟨pv,q1,q2⟩:=h2 j u hj;exact⟨pv,by simpa using q1,q2⟩
   cases v with
   | int k n=>
    cases p<;>simp [fJ]at d;obtain⟨⟨h,i⟩,d⟩:=d;have:=dK h;subst this i;exact step d rfl λS w=>.int _ _
   | bool b=>
    cases p<;>simp [fJ]at d;obtain⟨l,d⟩:=d;subst l;exact step d rfl λS w=>.bool _
   | string s=>
    cases p<;>simp [fJ]at d;obtain⟨hs,d⟩:=d;subst hs;exact step d rfl λS w=>aI.str _
   | slice a n c=>
    cases a with
    | some a=>cases p<;>simp [fJ]at d
    | none=>
     cases n with
     | succ n=>cases p<;>simp [fJ]at d
     | zero=>
      cases c with
      | succ c=>cases p<;>simp [fJ]at d
      | zero=>
       cases p<;>simp [fJ]at d;exact step d rfl λS w=>.aF
   | pointer a=>
    cases a with
    | some a=>cases p<;>simp [fJ]at d
    | none=>
     cases p<;>simp [fJ]at d;exact step d rfl λS w=>.fG
   | _=>cases p<;>simp [fJ]at d
theorem iI {P:Program} {t n:Nat} (h:oA P t n=true):∃i,P.info? t=some i/\i.size=n:=by
 unfold oA at h;split at h
 ·rename_i i hi;exact⟨i,hi,abo h⟩
 ·cases h
theorem rh {P:Program}:∀(fs:List Field) (fl:List (Nat×Nat×Bool)),nR P fs fl=true->fl.length=fs.length/\
  ∀(k:Nat) (off size:Nat) (b:Bool),fl[k]? =some (off,size,b)->∃f j d,fs[k]? =some f/\f.offset=off/\P.info? f.type=some j/\j.size=size/\0<size/\P.underlying f.type=some d/\b=xA d
 | [],[],_=>⟨rfl,λk off size b a=>by simp at a⟩
 | [],_::_,h=>by simp [nR]at h
 | _::_,[],h=>by simp [nR]at h
 | f::r,(off,size,b)::e,h=>by
  simp only[nR,Is]at h;obtain⟨⟨⟨⟨h1,h2⟩,g⟩,h4⟩,i⟩:=h;obtain⟨q1,q2⟩:=rh r e i;refine⟨by simp [q1],λk l m c a=>?_⟩;cases k with
  | zero=>
   simp at a;obtain⟨rfl,rfl,rfl⟩:=a;obtain⟨j,hj,n⟩:=iI h2;cases hu:P.underlying f.type with
   | none=>rw[hu]at h4;cases h4
   | some d=>
    rw[hu]at h4;exact⟨f,j,d,rfl,abo h1,hj,n,by simpa using g,hu,by simpa using h4⟩
  | succ k=>exact q2 k l m c (by simpa using a)
theorem CV:∀(l:List (Nat×TI)) (t:Nat) (ti:TI),look l t=ti->ti=.other\/(t,ti)∈l
 | [],t,ti,h=>.inl h.symm
 | (k,x)::r,t,ti,h=>by
  unfold look at h;split at h
  ·rename_i a;have:=abo a;subst this h;exact .inr aeR
  ·rcases CV r t ti h with h1 | h1
   ·exact .inl h1
   ·exact .inr (by simp [h1])
theorem WR {P:Program} {l:List (Nat×TI)} (y:l.all (λp=>NC P p.1 p.2)=true):df P (rf l):=by
 have v:∀t ti,(rf l).get t=ti->ti≠.other->NC P t ti=true:=λt ti a r=>by
  rcases CV l t ti a with h1 | h1
  ·exact(r h1).elim
  ·exact(abw.1 y) _ h1
 have all:∀t ti,(rf l).get t=ti->ti≠.other->k9 P t ti=true:=λt ti a r=>by
  have:=v t ti a r;simp only[NC,Is]at this;exact this.1
 have zero:∀t z,xB ((rf l).get t)=some z->∃i c,P.info? t=some i/\i.zero=some c/\c.cells.size=jf ((rf l).get t)/\z.length=jf ((rf l).get t)/\
   ∀(j:Nat) (u:Value),c.cells[j]? =some u->∃pv:PV,z[j]? =some pv/\u.oneCell'=true/\∀S w,aI S w pv u:=λt z g=>by
  have:=v t _ rfl (by intro h0;rw[h0]at g;cases g);simp only[NC,Is]at this;have:=this.2;rw[g]at this;simp only[zeroAt]at this;split at this
  ·rename_i i hi;split at this
   ·rename_i c s;simp only[Is]at this;obtain⟨⟨h1,h2⟩,m⟩:=this;obtain⟨_,n⟩:=qa _ _ m;exact⟨i,c,hi,s,abo h1,abo h2,λj u hj=>n j u aeZ⟩
   ·cases this
  ·cases this
 have one:∀t,jf ((rf l).get t)=1->(∀sz fl z,(rf l).get t≠.struct sz fl z)->∃i,P.info? t=some i/\i.size=1:=λt h1 h2=>by
  cases a:(rf l).get t with
  | other=>rw[a]at h1;cases h1
  | struct sz fl z=>exact(h2 _ _ _ a).elim
  | int k=>have:=all t _ a aeR;simp only[k9,Is]at this;exact iI this.2
  | bool=>have:=all t _ a aeR;simp only[k9,Is]at this;exact iI this.2
  | str=>have:=all t _ a aeR;simp only[k9,Is]at this;exact iI this.2
  | ptr e=>have:=all t _ a aeR;simp only[k9,Is]at this;exact iI this.2
  | map k e z=>have:=all t _ a aeR;simp only[k9,Is]at this;exact iI this.1.2
  | slice e sz b z=>have:=all t _ a aeR;simp only[k9,Is]at this;exact iI this.1.1.1.2
 refine⟨λt sz fl z a g=>by
   have:=all t _ a aeR;simp only[k9,Is,acr,abW]at this;rcases this.1.1 with h | h
   ·rw[g]at h;cases h
   ·exact h,λt k a=>?_,λt a=>?_,λt a=>?_,λt e a=>?_,λt e sz b z a=>?_,λt k e z a=>?_,λt e sz b z a=>?_,one,zero,λt sz fl z a=>?_⟩
 ·have:=all t _ a aeR;simp only[k9,Is]at this;have:=this.1;split at this
  ·rename_i A hu;rw[hu,dK this]
  ·cases this
 ·have:=all t _ a aeR;simp only[k9,Is]at this;have:=this.1;split at this
  ·assumption
  ·cases this
 ·have:=all t _ a aeR;simp only[k9,Is]at this;have:=this.1;split at this
  ·assumption
  ·cases this
 ·have:=all t _ a aeR;simp only[k9,Is]at this;have:=this.1;split at this
  ·rename_i x hu;rw[hu,abo this]
  ·cases this
 ·have:=all t _ a aeR;simp only[k9,Is]at this;obtain⟨⟨⟨⟨h1,h2⟩,m⟩,h4⟩,q⟩:=this;refine⟨?_,by simpa using m,?_⟩
  ·split at h1
   ·rename_i x hu;rw[hu,abo h1]
   ·cases h1
  ·split at q
   ·rename_i i hi;simp only[Is]at q;obtain⟨⟨q1,q2⟩,q3⟩:=q;split at q3
    ·rename_i c g;simp only[Is]at q3;obtain⟨r1,n⟩:=qa _ _ q3.2;have o:=abo q3.1;refine⟨i,c,hi,abo q1,abo q2,g,o,?_,λj u hj=>n j u aeZ⟩;rw[<-r1,<-o];simp
    ·cases q3
   ·cases q
 ·have:=all t _ a aeR;simp only[k9,Is]at this;obtain⟨⟨h1,_⟩,m⟩:=this;refine⟨?_,?_⟩
  ·split at h1
   ·rename_i A x hu;simp only[Is]at h1;rw[hu,abo h1.1,abo h1.2]
   ·cases h1
  ·split at m
   ·rename_i i hi;split at m
    ·rename_i c g;exact⟨i,c,hi,g,Bt m⟩
    ·cases m
   ·cases m
 ·have:=all t _ a aeR;simp only[k9,Is]at this;simpa using this.1.2
 ·have:=all t _ a aeR;simp only[k9,Is]at this;obtain⟨⟨_,h1⟩,h2⟩:=this;split at h1
  ·rename_i fs hu;obtain⟨q1,q2⟩:=rh _ _ h1;split at h2
   ·rename_i i hi;simp only[Is]at h2;obtain⟨r1,n⟩:=h2;split at n
    ·rename_i c g;simp only[Is]at n;obtain⟨s1,B⟩:=qa _ _ n.2;have o:=abo n.1;refine⟨fs,i,hu,hi,abo r1,by simpa using q1,⟨c,g,o,by rw[<-s1,<-o];simp,λj u hj=>B j u aeZ⟩,λk off size C D=>?_⟩;obtain⟨f,j,d,E,F⟩:=q2 k off size C D;exact⟨f,j,d,by simpa using E,F⟩
    ·cases n
   ·cases h2
  ·cases h1
theorem HI {S:Nat->Prop} {w:World} {k:IntKind} {a:Option Addr} {len cap:Nat} {c:List Int}
  (h:(a=none/\len=0/\cap=0/\c=[])\/∃x,a=some x/\len<=cap/\cap<=maxLen/\c.length=cap/\(∀i,i<c.length->w.cell? (x.add i)=some (.int k (c.getD i 0)))/\∀n∈c,(Lit.int k n).wf=true)
  (g:∀b,b<w.heap.size->S b):aI S w (.eD 1 len (λi=>[.int k (c.getD i 0)])) (.slice a len cap):=by
 rcases h with⟨rfl,rfl,rfl,rfl⟩ | ⟨x,rfl,l,hm,q,e,m⟩
 ·exact .lM _ _ _ _
 ·rcases acp len with h0 | h0
  ·subst h0;exact .lM _ _ _ _
  ·obtain⟨b,off,spot⟩:=x;have f:=e 0 aeP;have o:spot=none:=by simpa[Addr.add]using World.cell?_spot f
   subst o
   have p:b<w.heap.size:=by
    have:=World.block_lt_of_cell? _ _ f;simpa[Addr.add]using this
   refine .eD 1 len _ b off cap (λi _=>.int k (c.getD i 0)) (g b p) (λ_ _=>rfl) l (λi j pv hi hj=>?_) (λi j pv hi hj=>?_)
   ·have d:j=0:=by
     have:=(As.1 hj).1;simp at this;exact this
    subst d;have:=e i aeP;rw[Addr.add_lit]at this;rw[Nat.mul_one,ace];exact this
   ·have d:j=0:=by
     have:=(As.1 hj).1;simp at this;exact this
    subst d;simp at hj;subst hj;exact .int _ _
theorem M6 {P:Program} {f:FuncId} {args:List PV} {vs:Array Value} {w:World} (h:GW (λb=>b<w.heap.size) w) (k:ACall P f args [] (λres _=>res=.bool true)) (l:vs.size=args.length)
  (m:∀(j:Nat) (pv:PV),args[j]? =some pv->∃v,vs[j]? =some v/\aI (λb=>b<w.heap.size) w pv v):
  Calls P f vs w λe w'=>e=.returned (.bool true)/\Below w.heap.size w w':=by
 refine(k.2 w vs (λ_=>none) (λb=>b<w.heap.size) (λid g sz n e f hid=>by simp at hid) ⟨λb a=>absurd a ig,λb a=>absurd a ig,λb a=>a,λi j g sz n e f p q r s t b o u hi=>by simp at hi,h,λb _ x y z d=>qs d,λb _ _ _ _ _ _ d=>absurd d qs⟩ l (λj pv hj=>?_)).mono ?_
 ·obtain⟨v,h1,h2⟩:=m j pv hj;refine⟨v,h1,?_⟩;have hc:bp (λ_=>none) [] (λb=>b<w.heap.size) w pv v:=bp.ir h2;cases pv with
  | agg cs=>exact(show False from hc).elim
  | eC cs=>exact(show False from hc).elim
  | gf=>trivial
  | _=>exact hc
 ·rintro e w' ⟨v,res,h',μ',S',rfl,rfl,hv,A,B,c⟩;refine⟨by rw[hv.kc],c.os,c.tape,c.output,c.size,λb a=>c.blocks b a ig⟩
section
variable {h η:List ai}{k:List Nat}
theorem Fz.int_eq {a:IntKind} {n b:Int} (he:n=b):Fz h η k (.int a n) (.int a b):=by subst he;exact .int _ _
theorem Fz.jY {b b':Bool} (he:b=b'):Fz h η k (.bool b) (.bool b'):=by subst he;exact .bool _
theorem Fz.KY {s a:List UInt8} (he:s=a):Fz h η k (.str s) (.str a):=by subst he;exact .str _
theorem Fz.KZ {id g sz n off len c a:Nat} {e:TypeId} {f b:Nat->List PV} (d:id∉k) (l:h[id]? =some (ai.row g sz n e f)) (h1:sz=c) (h2:len=a) (hp:∀i,i<a->(b i).all bn=true)
  (hf:∀i,i<a->rM h η k (f (off+i)) (b i)):Fz h η k (.own id g off len) (.eD c a b):=by
 subst h1 h2;exact .Yl id g sz n off len e f b d l (λi hi=>(rM.get _ _ (hf i hi)).1) (λi j pv hi hj=>(abw.1 (hp i hi)) pv (abA hj)) (λi j pv pv' hi h1 h2 _=>(rM.get _ _ (hf i hi)).2 j pv pv' h1 h2)
theorem Fz.eg {cs a:List PV} (b:rM h η k cs a):Fz h η k (.agg cs) (.agg a):=.agg _ _ (rM.get _ _ b).1 (rM.get _ _ b).2
theorem Fz.gZ {cs a:List PV} (b:rM h η k cs a):Fz h η k (.eC cs) (.eC a):=.eC _ _ (rM.get _ _ b).1 (rM.get _ _ b).2
theorem RL {α:Type} {i l:Nat} {a b:α} (c:i<l):(bif Nat.blt i l then a else b)=a:=by
 have d:Nat.blt i l=true:=by simpa using c
 rw[d];rfl
theorem RM {α:Type} {i l:Nat} {a b:α} (d:l<=i):(bif Nat.blt i l then a else b)=b:=by
 have c:Nat.blt i l=false:=by
  cases hh:Nat.blt i l with
  | true=>
   have:i<l:=by simpa using hh
   omega
  | false=>rfl
 rw[c];rfl
end
theorem pO {x:Int} (h1: -9223372036854775808<=x) (h2:x<=9223372036854775807):IntKind.i64.wrap x=x:=by rw[IntKind.wrap_i64];omega
theorem ACall.WU {P:Program} {f:FuncId} {args a:List PV} {R:PV->List ai->Prop} (d:ACall P f a [] R) (h:List ai) (e:rM h [] [] args a) (g:a.all kj=true)
  (b:∀r0 h0,R r0 h0->Gy r0=true/\∀o∈h0,K0 o):
  ACall P f args h (λres h'=>∃r0 h0,R r0 h0/\res=oB h.length r0/\h'=h++h0.map (fx h.length)):=by
 obtain⟨h1,h2⟩:=rM.get _ _ e;exact d.snap h h1 (λj pv pv' q1 q2=>⟨h2 j pv pv' q1 q2,(abw.1 g) pv' (abA q2)⟩) (λr0 h0 c=>⟨(b r0 h0 c).1,λo i=>((b r0 h0 c).2 o i).p⟩)
theorem Fz.snap {h:List ai} {id g sz n off len c a:Nat} {e:TypeId} {f b:Nat->List PV} (d:h[id]? =some (ai.row g sz n e f)) (h1:sz=c) (h2:len=a) (hp:∀i,i<a->(b i).all bn=true)
  (hf:∀i,i<a->rM h [] [] (f (off+i)) (b i)):Fz h [] [] (.own id g off len) (.eD c a b):=.KZ aeR d h1 h2 hp hf
theorem RN {w:World} {k:IntKind} {a:Option Addr} {len cap:Nat} {b:List Int}
  (h:(a=none/\len=0/\cap=0/\b=[])\/∃x,a=some x/\len<=cap/\cap<=maxLen/\b.length=cap/\(∀i,i<b.length->w.cell? (x.add i)=some (.int k (b.getD i 0)))/\∀n∈b,(Lit.int k n).wf=true):
  ∀i,(Lit.int k (b.getD i 0)).wf=true:=by
 intro i;have h0:(Lit.int k 0).wf=true:=by cases k<;>decide
 rcases h with⟨_,_,_,rfl⟩ | ⟨x,_,_,_,_,_,c⟩
 ·simpa using h0
 ·rcases abU i b.length with hi | hi
  ·rw[abv,abm hi];exact c _ (abu hi)
  ·rw[abv,abZ hi];exact h0
theorem Kw {w:World} {a:Option Addr} {len cap:Nat} {b:List Int}
  (h:(a=none/\len=0/\cap=0/\b=[])\/∃x,a=some x/\len<=cap/\cap<=maxLen/\b.length=cap/\(∀i,i<b.length->w.cell? (x.add i)=some (.int .u8 (b.getD i 0)))/\∀n∈b,(Lit.int .u8 n).wf=true):
  ∀i,0<=b.getD i 0/\b.getD i 0<=255:=by
 intro i;have:=RN h i;have h2:IntKind.u8.min=0/\IntKind.u8.max=255:=by decide
 simp only[Lit.wf,Is,abH,h2.1,h2.2]at this;omega
theorem ACall.heq {P:Program} {f:FuncId} {args:List PV} {h h2:List ai} {R:PV->List ai->Prop} (s:ACall P f args h R) (he:dz h2 h):ACall P f args h2 R:=by
 refine⟨s.1,λw vs μ S t u A B=>?_⟩;obtain⟨d,i⟩:=he.core ⟨t,u⟩;refine(s.2 w vs μ S d i A (λj pv hj=>?_)).mono ?_
 ·obtain⟨v,h1,C⟩:=B j pv hj;exact⟨v,h1,he.HQ C⟩
 ·rintro e w' ⟨v,res,h',μ',S',rfl,D,hv,l,m,a⟩;refine⟨v,res,h',μ',S',rfl,D,hv,l,m,⟨by rw[he.len];exact a.len,λb c o=>a.blocks b c (λp=>o (he.uv p)),a.sub,λb c=>?_,λb c=>?_,a.size,a.os,a.tape,a.output,λid g sz n e f hid=>?_,λid hid=>a.dead id (he.getD hid),λb k o hc=>a.bq b k (he.owned o) hc,λid g sz n e f b base hid hm q=>?_,λb x y z p q=>a.rb b x y z (he.hid p) q⟩⟩
  ·rcases a.new b c with h1 | h1 | h1
   ·exact .inl h1
   ·exact .inr (.inl (he.uv h1))
   ·exact .inr (.inr h1)
  ·rcases a.own b c with h1 | h1
   ·exact .inl (he.uv h1)
   ·exact .inr h1
  ·obtain⟨r,h1,_⟩:=he.get hid;exact a.xQ id g sz n e r h1
  ·obtain⟨r,h1,_⟩:=he.get hid;exact a.maps id g sz n e r b base h1 hm q
abbrev aB:=List UInt8
abbrev aP (x:Int):Int:=IntKind.i64.wrap x
theorem bind_some {α β:Type} {x:Option α} {f:α->Option β} {r:β} (h:(x>>=f)=some r):∃a,x=some a/\f a=some r:=by
 cases x with
 | none=>cases h
 | some a=>exact⟨a,rfl,h⟩
def idx {α:Type} [Inhabited α] (l:List α) (i:Int):Option α:=if 0<=i/\i<(l.length:Int)then some (l.getD i.toNat default)else none
def fF (s:aB) (i:Int):Option UInt8:=if 0<=i/\i<(s.length:Int)then some (s.getD i.toNat 0)else none
def pG (s:aB) (lo hi:Int):Option aB:=if 0<=lo/\lo<=hi/\hi<=(s.length:Int)then some ((s.take hi.toNat).drop lo.toNat)else none
def oO (s:aB) (lo:Int):Option aB:=if 0<=lo/\lo<=(s.length:Int)then some (s.drop lo.toNat)else none
def LI {α:Type} (s:List α) (hi:Int):Option (List α):=if 0<=hi/\hi<=(s.length:Int)then some (s.take hi.toNat)else none
def ja (a b:aB):Option aB:=if a.length+b.length<=4611686018427387904 then some (a++b)else none
def eE {α:Type} (bytes:Nat) (a b:List α):Option (List α):=if(a.length+b.length)*bytes<=140737488355328 then some (a++b)else none
def must (p:Prop) [Decidable p]:Option Unit:=if p then some ()else none
theorem cC {α:Type} {c:Prop} [Decidable c] {x r:α} (h:(if c then some x else none)=some r):c/\x=r:=by
 by_cases hc:c
 ·rw[An hc]at h;exact⟨hc,abP h⟩
 ·rw[so hc]at h;cases h
theorem zm {p:Prop} [Decidable p] {u:Unit} (h:must p=some u):p:=(cC h).1
section
variable {α:Type}{x y r:α}
theorem WV {p:Prop} [Decidable p] (hb:decide p=true) (h:(if p then x else y)=r):x=r:=by rw[An (adt hb)]at h;exact h
theorem WX {p:Prop} [Decidable p] (hb:decide p=false) (h:(if p then x else y)=r):y=r:=by rw[so (of_decide_eq_false hb)]at h;exact h
theorem K1 {β:Type} [BEq β] [LawfulBEq β] {a b:β} [Decidable (a=b)] (c:(a==b)=true) (h:(if a=b then x else y)=r):x=r:=by rw[An (eq_of_beq c)]at h;exact h
theorem K2 {β:Type} [BEq β] [LawfulBEq β] {a b:β} [Decidable (a=b)] (c:(a==b)=false) (h:(if a=b then x else y)=r):y=r:=by rw[so (ne_of_beq_false c)]at h;exact h
theorem WY {β:Type} [BEq β] [LawfulBEq β] {a b:β} [Decidable (a=b)] (c:(a != b)=true) (h:(if a=b then x else y)=r):y=r:=K2 (by simpa[bne]using c) h
theorem WZ {β:Type} [BEq β] [LawfulBEq β] {a b:β} [Decidable (a=b)] (c:(a != b)=false) (h:(if a=b then x else y)=r):x=r:=K1 (by simpa[bne]using c) h
theorem OS {b:Bool} (a:b=true) (h:(if b=true then x else y)=r):x=r:=by rw[An a]at h;exact h
theorem OT {b:Bool} (a:b=false) (h:(if b=true then x else y)=r):y=r:=by rw[so (by rw[a];decide)]at h;exact h
end
theorem OU {b:Bool} (h:(!b)=false):b=true:=by cases b<;>simp_all
theorem OV {b:Bool} (h:(!b)=true):b=false:=by cases b<;>simp_all
theorem K3 {T F:Prop} (h:T):dO true T F:=.mk (λ_=>h) (λh=>by cases h)
theorem K4 {T F:Prop} (h:F):dO false T F:=.mk (λh=>by cases h) (λ_=>h)
theorem H5 {b:Bool} {T F:Prop} (a:b=true) (h:T):dO b T F:=.mk (λ_=>h) (λh=>by rw[a]at h;cases h)
theorem H6 {b:Bool} {T F:Prop} (a:b=false) (h:F):dO b T F:=.mk (λh=>by rw[a]at h;cases h) (λ_=>h)
section
variable {α:Type}{l m:List α}{lo hi:Int}
theorem AW (h:LI l hi=some m):0<=hi/\hi<=(l.length:Int):=(cC h).1
theorem bB {b:Nat} {q:List α} (h:eE b l m=some q):(l.length+m.length)*b<=140737488355328:=(cC h).1
theorem a6 {b:Nat} {q:List α} (h:eE b l m=some q):q.length=l.length+m.length:=by rw[<-(cC h).2];simp
theorem vT (h:LI l hi=some m):m.length=hi.toNat:=by
 have a:=AW h;rw[<-(cC h).2];simp;omega
end
def row {α:Type} (c:α->List PV) (l:List α):Nat->List PV:=λi=>(l.map c).getD i []
abbrev sl {α:Type} (sz:Nat) (c:α->List PV) (l:List α):PV:=.eD sz l.length (row c l)
def cI (x:Int):List PV:=[.int .i64 x]
def RO (k:IntKind) (x:Int):List PV:=[.int k x]
def cB (x:UInt8):List PV:=[.int .u8 x.toNat]
def cT (x:Bool):List PV:=[.bool x]
def cS (x:aB):List PV:=[.str x]
def cL {α:Type} (sz:Nat) (c:α->List PV) (x:List α):List PV:=[sl sz c x]
section
variable {α:Type}{c:α->List PV}{l m:List α}{x x':α}{i lo hi:Int}
theorem NF (x:Int):(cI x).all bn=true:=rfl
theorem H7 (k:IntKind) (x:Int):(RO k x).all bn=true:=rfl
theorem FB (x:UInt8):(cB x).all bn=true:=rfl
theorem NG (x:Bool):(cT x).all bn=true:=rfl
theorem NH (x:aB):(cS x).all bn=true:=rfl
theorem NI {β:Type} (sz:Nat) (d:β->List PV) (x:List β):(cL sz d x).all bn=true:=rfl
theorem Fs (x:Int):cB (UInt8.ofNat (IntKind.u8.wrap x).toNat)=[.int .u8 (IntKind.u8.wrap x)]:=by
 have h:0<=IntKind.u8.wrap x/\IntKind.u8.wrap x<256:=by
  have:=IntKind.wrap_u8 x;omega
 unfold cB;congr 2;rw[adq];omega
theorem jc {k:Nat} (h:k<l.length):row c l k=c l[k]:=by unfold row;simp [abv,h]
theorem jt {k:Nat} (h:l[k]? =some x):row c l k=c x:=by unfold row;simp [abv,h]
theorem jl (hp:∀x,(c x).all bn=true) (k:Nat):(row c l k).all bn=true:=by
 by_cases h:k<l.length
 ·rw[jc h];exact hp _
 ·unfold row;simp [abv,abZ (show l.length<=k by omega)]
theorem z7 {s:aB} {k:Nat} (h:k<s.length):row cB s k=[.int .u8 (s.getD k 0).toNat]:=by
 rw[jc h];simp [cB,abv,h]
theorem bL {s:aB} {b:UInt8} (h:fF s i=some b):0<=i/\i<(s.length:Int):=(cC h).1
theorem bM {s:aB} {b:UInt8} (h:fF s i=some b):s.getD i.toNat 0=b:=(cC h).2
theorem sF {s t:aB} (h:pG s lo hi=some t):0<=lo/\lo<=hi/\hi<=(s.length:Int):=(cC h).1
theorem sG {s t:aB} (h:pG s lo hi=some t):(s.take hi.toNat).drop lo.toNat=t:=(cC h).2
theorem wG {s t:aB} (h:oO s lo=some t):0<=lo/\lo<=(s.length:Int):=(cC h).1
theorem wH {s t:aB} (h:oO s lo=some t):s.drop lo.toNat=t:=(cC h).2
theorem cx {s t u:aB} (h:ja s t=some u):s.length+t.length<=4611686018427387904:=(cC h).1
theorem cy {s t u:aB} (h:ja s t=some u):s++t=u:=(cC h).2
theorem Gw (h:LI l hi=some m):∀i,i<m.length->row c m i=row c l i:=λi a=>by
 have b:=vT h
 have hm:l[i]? =some m[i]:=by
  rw[<-abm a,<-(cC h).2,aco,An aeP]
 rw[jc a,jt hm]
def ri (c:α->List PV) (f:Nat->List PV) (off:Nat) (l:List α):Prop:=∀i,i<l.length->f (off+i)=row c l i
theorem aw:ri c (row c l) 0 l:=λi _=>by rw[abx]
theorem Hg {f:Nat->List PV} {off:Nat} (hs:ri c f off l) (h:LI l hi=some m):ri c f off m:=λi a=>by
 have b:=AW h;have d:=vT h;rw[Gw h i a];exact hs _ aeP
theorem fP {s:aB} {f:Nat->List PV} {off n:Nat} (hs:ri cB f off s) (a:s.length=n):∀i,i<n->f (off+i)=[.int .u8 (s.getD i 0).toNat]:=λi hi=>by
 subst a;rw[hs i hi];exact z7 hi
theorem bb {b:Nat} {q:List α} {f g:Nat->List PV} {off:Nat} (h:eE b l m=some q) (hf:ri c f off l) (hg:∀i,i<m.length->g i=row c m i):
  ∀i,i<q.length->ny (bif Nat.blt i l.length then f (off+i)else g (i - l.length)) (row c q i):=λi d=>by
 have j:=a6 h;have e:q=l++m:=(cC h).2.symm;subst e;by_cases a:i<l.length
 ·rw[RL a,hf i a,jc d,jc a,List.getElem_append_left a];exact ny.refl _
 ·rw[RM aeP,hg _ aeP,jc d,jc aeP,List.getElem_append_right aeP];exact ny.refl _
theorem sq:∀i,i<m.length->row c m i=row c m i:=λ_ _=>rfl
theorem cN {f:Nat->List PV} {off:Nat} (hs:ri c f off m):∀i,i<m.length->f (off+i)=row c m i:=hs
theorem ql {s:aB}:∀i,i<s.length->[PV.int .u8 (s.getD i 0).toNat]=row cB s i:=λi hi=>(z7 hi).symm
def SY:List (List PV)->List (List PV)->Prop
 | [],[]=>True
 | a::l,b::r=>ny a b/\SY l r
 | _,_=>False
theorem cq {a b lit:List PV} {l r:List (List PV)} (e:b=lit) (h:ny a lit) (t:SY l r):SY (a::l) (b::r):=⟨by rw[e];exact h,t⟩
theorem aU:∀{l r:List (List PV)},l=r->SY l r
 | [],_,rfl=>trivial
 | a::l,_,rfl=>⟨ny.refl _,aU rfl⟩
theorem Gz:∀{l r:List (List PV)},SY l r->∀i,ny (l.getD i []) (r.getD i [])
 | [],[],_,i=>by simp;exact trivial
 | a::l,b::r,h,0=>h.1
 | a::l,b::r,h,i+1=>by simpa using Gz h.2 i
 | [],_::_,h,_=>h.elim
 | _::_,[],h,_=>h.elim
theorem aM (c:α->List PV) (l:List α) {n:Nat} {cs:List (List PV)} (a:n=l.length) (h:SY cs (l.map c)):∀i,i<n->ny (cs.getD i []) (row c l i):=λi _=>Gz h i
theorem ss {k n off:Nat} {a b lit:List PV} (d:k<l.length) (he:c x'=lit) (hc:ny (fC a off b) lit):∀j,j<n->ny (tn (row c l) k (fC a off b) j) (row c (l.set k x') j):=λj _=>by
 rw[<-he]at hc;unfold row tn;by_cases hj:j=k
 ·subst hj;simpa[abv,d]using hc
 ·have:Nat.beq j k=false:=by
   cases e:Nat.beq j k with
   | false=>rfl
   | true=>exact absurd (abo e) hj
  rw[this];simp only[cond_false,abv,abD,abL (acB hj)];exact ny.refl _
theorem NJ {a b new:List PV} {off:Nat} {f:Nat->List PV} (h:new=fC a off b):∀j,j<1->ny (tn f 0 (fC a off b) j) ((λ_=>new) j):=λj hj=>by
 obtain rfl:j=0:=by omega
 subst h;exact ny.refl _
end
section
variable {α:Type} [Inhabited α] {c:α->List PV} {l m:List α} {x x':α} {i lo hi:Int}
theorem ba (h:idx l i=some x):0<=i/\i<(l.length:Int):=(cC h).1
theorem K5 (h:idx l i=some x):l[i.toNat]? =some x:=by
 have b:=ba h;have a:i.toNat<l.length:=by omega
 rw[<-(cC h).2,abv,abm a];rfl
theorem tW (h:idx l i=some x):i.toNat<l.length:=by have a:=ba h;omega
theorem aQ (h:idx l i=some x):row c l i.toNat=c x:=jt (K5 h)
end
section
variable {h η:List ai}{k:List Nat}
theorem GA {pv:PV} (hp:bn pv=true):Fz h η k pv pv:=by
 cases pv with
 | int k n=>exact .int _ _
 | bool b=>exact .bool _
 | str s=>exact .str _
 | aF=>exact .aF
 | fG=>exact .fG
 | eD sz n f=>exact .eD _ _ _ _ (λ_ _=>rfl)
 | ez cs=>exact .ez _
 | fn f=>exact .fn _
 | _=>cases hp
theorem kY:∀{l:List PV},l.all bn=true->rM h η k l l
 | [],_=>trivial
 | a::l,hp=>by
  simp only[acK,Is]at hp;exact⟨GA hp.1,kY hp.2⟩
theorem RP {cs:List PV} (hp:cs.all bn=true):Fz h η k (.agg cs) (.agg cs):=.eg (kY hp)
def EZ (h η:List ai) (k:List Nat):List (Nat×Nat)->List (Nat×Nat)->Prop
 | [],[]=>True
 | p::r,a::b=>(k[a.1]? =some p.1/\(∃sz n e f,h[p.1]? =some (ai.row p.2 sz n e f))/\∃sz n e f,η[a.1]? =some (ai.row a.2 sz n e f)/\0<n)/\EZ h η k r b
 | _,_=>False
theorem EZ.get:∀(l b:List (Nat×Nat)),EZ h η k l b->b.length=l.length/\∀(j:Nat) (p a:Nat×Nat),l[j]? =some p->b[j]? =some a->
  k[a.1]? =some p.1/\(∃sz n e f,h[p.1]? =some (ai.row p.2 sz n e f))/\∃sz n e f,η[a.1]? =some (ai.row a.2 sz n e f)/\0<n
 | [],[],_=>⟨rfl,λj p a hj _=>by simp at hj⟩
 | [],_::_,hh=>hh.elim
 | _::_,[],hh=>hh.elim
 | q::r,g::d,hh=>by
  obtain⟨h1,h2⟩:=hh;obtain⟨q1,q2⟩:=EZ.get r d h2;refine⟨by simp [q1],λj p a hj c=>?_⟩;cases j with
  | zero=>
   simp at hj c;subst hj c;exact h1
  | succ j=>exact q2 j p a aeZ (by simpa using c)
theorem Fz.W0 {f:Nat} {bq a:List (Nat×Nat)} (hh:EZ h η k bq a):Fz h η k (.lv f bq) (.lv f a):=.lv f bq a (EZ.get _ _ hh).1 (EZ.get _ _ hh).2
theorem E0 {α:Type} {c:α->List PV} (hp:∀x,(c x).all bn=true) {id g sz n off:Nat} {e:TypeId} {f:Nat->List PV} {l:List α} (a:id∉k) (b:h[id]? =some (ai.row g sz n e f)) (hs:ri c f off l):
  Fz h η k (.own id g off l.length) (sl sz c l):=
 .KZ a b rfl rfl (λi hi=>jl hp i) (λi hi=>by rw[hs i hi];exact kY (jl hp i))
theorem NK {α:Type} {c:α->List PV} (hp:∀x,(c x).all bn=true) {id g sz n off len:Nat} {e:TypeId} {f:Nat->List PV} {l:List α} (a:id∉k) (b:h[id]? =some (ai.row g sz n e f)) (hs:ri c f off l) (d:len=l.length):
  Fz h η k (.own id g off len) (sl sz c l):=by subst d;exact E0 hp a b hs
end
theorem wV {α:Type} {c:α->List PV} (hp:∀x,(c x).all bn=true) (N g sz n:Nat) (e:TypeId) (l:List α):fx N (.row g sz n e (row c l))=.row g sz n e (row c l):=by
 suffices e:(λi=>(row c l i).map (lZ N))=row c l by unfold fx;simp only[e]
 funext i;have h:=jl (l:=l) hp i;generalize row c l i=q at h;induction q with
 | nil=>rfl
 | cons a r b=>
  simp only[acK,Is]at h;rw[abF,b h.2];cases a<;>first | rfl | cases h.1
theorem CW {α:Type} {c:α->List PV} (hp:∀x,(c x).all bn=true) (σ:Nat->Nat) (g sz n:Nat) (e:TypeId) (l:List α):pa σ (.row g sz n e (row c l))=.row g sz n e (row c l):=by
 suffices e:(λi=>(row c l i).map (ku σ))=row c l by unfold pa;simp only[e]
 funext i;have h:=jl (l:=l) hp i;generalize row c l i=q at h;induction q with
 | nil=>rfl
 | cons a r b=>
  simp only[acK,Is]at h;rw[abF,b h.2];cases a<;>first | rfl | cases h.1
theorem ACall.W4 {P:Program} {f:FuncId} {args:List PV} {r0:PV} (a:ACall P f args [] (λres h=>res=r0/\h=[])) (h:List ai) (hp:args.all CX=true) (b:∀n,oB n r0=r0):
  ACall P f args h (λres h'=>res=r0/\h'=h):=
 (a.frame h hp).mono (by rintro _ _ ⟨_,_,⟨rfl,rfl⟩,rfl,rfl⟩;exact⟨b _,by simp⟩)
theorem ACall.W5 {P:Program} {f:FuncId} {args a:List PV} {r0:PV} (b:ACall P f a [] (λres h=>res=r0/\h=[])) (h:List ai) (c:rM h [] [] args a) (d:a.all kj=true) (hf:Gy r0=true) (e:∀n,oB n r0=r0):
  ACall P f args h (λres h'=>res=r0/\h'=h):=
 (b.WU h c d (by rintro _ _ ⟨rfl,rfl⟩;exact⟨hf,by simp⟩)).mono (by rintro _ _ ⟨_,_,⟨rfl,rfl⟩,rfl,rfl⟩;exact⟨e _,by simp⟩)
section
variable {κ β:Type} [DecidableEq κ]
def jV:List (κ×β)->κ->Option β
 | [],_=>none
 | (a,b)::r,k=>if k=a then some b else jV r k
def LG (l:List (κ×β)) (k:κ) (z:β):β:=(jV l k).getD z
def PL (l:List (κ×β)) (k:κ):Bool:=(jV l k).isSome
def mm:List (κ×β)->κ->β->List (κ×β)
 | [],k,v=>[(k,v)]
 | (a,b)::r,k,v=>if k=a then(k,v)::r else(a,b)::mm r k v
def mc (c:κ->PV) (d:β->PV) (p:κ×β):List PV:=[c p.1,d p.2]
def scP:PV->Bool
 | .agg cs=>cs.all bn
 | v=>bn v
theorem qt {c:κ->PV} {d:β->PV} {ti:TI} (he:∀a b,js ti (c a) (c b)=some (decide (a=b))):∀(l:List (κ×β)) (k:κ) (n:Nat),n<=l.length->(∀j,j<n->∀p,l[j]? =some p->k≠p.1)->zR ti (row (mc c d) l) n (c k):=λl k n f h j hj=>by
 have e:j<l.length:=by omega
 refine⟨c l[j].1,d l[j].2,by rw[jc e];rfl,?_⟩;rw[he,abV (h j hj _ (abm e))]
theorem CY:∀(l:List (κ×β)) (k:κ) (b:β),jV l k=some b->∃i,i<l.length/\l[i]? =some (k,b)/\∀j,j<i->∀p,l[j]? =some p->k≠p.1
 | [],_,_,h=>by cases h
 | (a,e)::r,k,b,h=>by
  unfold jV at h;by_cases c:k=a
  ·rw[An c]at h;obtain rfl:=abP h;subst c;exact⟨0,by simp,rfl,λj hj=>absurd hj (abR _)⟩
  ·rw[so c]at h;obtain⟨i,h1,h2,d⟩:=CY r k b h;refine⟨i+1,by simpa using h1,by simpa using h2,λj hj p hp=>?_⟩;cases j with
   | zero=>simp at hp;subst hp;exact c
   | succ j=>exact d j aeP p afc
theorem rN:∀(l:List (κ×β)) (k:κ),jV l k=none->∀(j:Nat) (p:κ×β),l[j]? =some p->k≠p.1
 | [],_,_,j,p,hp=>by simp at hp
 | (a,c)::r,k,h,j,p,hp=>by
  unfold jV at h;by_cases b:k=a
  ·rw[An b]at h;cases h
  ·rw[so b]at h;cases j with
   | zero=>simp at hp;subst hp;exact b
   | succ j=>exact rN r k h j p afc
theorem Jl {c:κ->PV} {d:β->PV} {ti:TI} (he:∀a b,js ti (c a) (c b)=some (decide (a=b))) (l:List (κ×β)) (k:κ) (z:β):K6 ti (row (mc c d) l) l.length (c k) (d z) (d (LG l k z)) (PL l k):=by
 unfold LG PL;cases h:jV l k with
 | some b=>
  obtain⟨i,h1,h2,e⟩:=CY l k b h;exact .inl ⟨rfl,i,h1,qt he l k i aeP e,c k,by rw[jt h2];rfl,by rw[he,acd rfl]⟩
 | none=>exact .inr ⟨rfl,rfl,qt he l k _ (abn _) (λj _ p hp=>rN l k h j p hp)⟩
theorem z8:∀(l:List (κ×β)) (k:κ) (v:β),jV l k=none->mm l k v=l++[(k,v)]
 | [],_,_,_=>rfl
 | (a,c)::r,k,v,h=>by
  unfold jV at h;unfold mm;by_cases b:k=a
  ·rw[An b]at h;cases h
  ·rw[so b]at h;rw[so b,z8 r k v h];rfl
theorem Aa:∀(l:List (κ×β)) (k:κ) (v b:β),jV l k=some b->∃i,i<l.length/\l[i]? =some (k,b)/\(∀j,j<i->∀p,l[j]? =some p->k≠p.1)/\(mm l k v).length=l.length/\(mm l k v)[i]? =some (k,v)/\∀j,j≠i->(mm l k v)[j]? =l[j]?
 | [],_,_,_,h=>by cases h
 | (a,g)::r,k,v,b,h=>by
  unfold jV at h;unfold mm;by_cases c:k=a
  ·rw[An c]at h;obtain rfl:=abP h;rw[An c];subst c;exact⟨0,by simp,rfl,λj hj=>absurd hj (abR _),by simp,rfl,λj hj=>by cases j with | zero=>exact absurd rfl hj | succ j=>rfl⟩
  ·rw[so c]at h;obtain⟨i,h1,h2,d,h4,e,f⟩:=Aa r k v b h;rw[so c];refine⟨i+1,by simpa using h1,by simpa using h2,λj hj p hp=>?_,by simpa using h4,by simpa using e,λj hj=>?_⟩
   ·cases j with
    | zero=>simp at hp;subst hp;exact c
    | succ j=>exact d j aeP p afc
   ·cases j with
    | zero=>rfl
    | succ j=>simpa using f j aeP
theorem Fx {c:κ->PV} {d:β->PV} {ti:TI} (he:∀a b,js ti (c a) (c b)=some (decide (a=b))) (l:List (κ×β)) (k:κ) (v:β):W6 ti (row (mc c d) l) l.length (c k) (d v) (mm l k v).length (row (mc c d) (mm l k v)):=by
 cases h:jV l k with
 | some b=>
  obtain⟨i,h1,h2,e,h4,f,g⟩:=Aa l k v b h;refine .inl ⟨i,d b,⟨h1,qt he l k i aeP e,c k,by rw[jt h2];rfl,by rw[he,acd rfl]⟩,h4,by rw[jt f];rfl,λj hj m=>?_⟩;rw[jt (abm hj),jt ((g j m).trans (abm hj))]
 | none=>
  rw[z8 l k v h];refine .inr ⟨qt he l k _ (abn _) (λj _ p hp=>rN l k h j p hp),by simp,?_,λj hj=>?_⟩
  ·rw[jt (x:=(k,v)) aeR];rfl
  ·rw[jt (abm hj),jt (x:=l[j]) (by rw[abK hj,abm hj])]
end
theorem OW {h η:List ai} {k:List Nat} {pv:PV} (hp:scP pv=true):Fz h η k pv pv:=by
 cases pv with
 | agg cs=>exact RP hp
 | _=>exact GA hp
theorem AJ {h η:List ai} {k:List Nat} {κ β:Type} {c:κ->PV} {d:β->PV} (hc:∀x,scP (c x)=true) (hd:∀x,scP (d x)=true) {l:List (κ×β)} {n:Nat}:∀i,i<n->rM h η k (row (mc c d) l i) (row (mc c d) l i):=λi _=>by
 by_cases h:i<l.length
 ·rw[jc h];exact⟨OW (hc _),OW (hd _),trivial⟩
 ·unfold row;simp [abv,abZ (show l.length<=i by omega)];trivial
theorem ln {a b:Nat} (h:a=b:=by first | rfl | simp):a=b:=h
class mS {α:Type} (c:α->List PV):Prop where
 pure:∀x,(c x).all bn=true
instance:mS cI:=⟨NF⟩
instance (k:IntKind):mS (RO k):=⟨H7 k⟩
instance:mS cB:=⟨FB⟩
instance:mS cT:=⟨NG⟩
instance:mS cS:=⟨NH⟩
instance {α:Type} (sz:Nat) (c:α->List PV):mS (cL sz c):=⟨NI sz c⟩
instance (a b:IntKind):mS (mc (PV.int a) (PV.int b)):=⟨λ_=>rfl⟩
instance (a:IntKind):mS (mc (PV.int a) PV.bool):=⟨λ_=>rfl⟩
instance (a:IntKind):mS (mc (PV.int a) PV.str):=⟨λ_=>rfl⟩
instance (b:IntKind):mS (mc PV.str (PV.int b)):=⟨λ_=>rfl⟩
instance:mS (mc PV.str PV.bool):=⟨λ_=>rfl⟩
instance:mS (mc PV.str PV.str):=⟨λ_=>rfl⟩
def OX {α:Type} (l:List α) (off:Nat) (s:List α):List α:=l.mapIdx λi x=>if i<off then x else if i<off+s.length then s.getD (i - off) x else x
@[simp] theorem SZ {α:Type} (l:List α) (off:Nat) (s:List α):(OX l off s).length=l.length:=by unfold OX;simp
section
variable {h η:List ai}{k:List Nat}
theorem Fz.i {q:IntKind} {a b:Int} (e:a=b:=by rfl):Fz h η k (.int q a) (.int q b):=.int_eq e
theorem Fz.b {a b:Bool} (e:a=b:=by rfl):Fz h η k (.bool a) (.bool b):=.jY e
theorem Fz.s {a b:List UInt8} (e:a=b:=by rfl):Fz h η k (.str a) (.str b):=.KY e
theorem Fz.l {sz n:Nat} {f:Nat->List PV}:Fz h η k (.eD sz n f) (.eD sz n f):=.eD _ _ _ _ (λ_ _=>rfl)
theorem Fz.z {α:Type} {c:α->List PV} {sz:Nat}:Fz h η k .aF (sl sz c []):=.OY _ _
theorem Fz.g {id a b c:Nat} {d:TypeId} {e:Nat->List PV} (f:k[a]? =some id:=by rfl) (i:h[id]? =none:=by rfl) (hη:η[a]? =some (ai.row b c 0 d e):=by rfl):Fz h η k .aF (.own a b 0 0):=.W7 id a b c d e f i hη
theorem Fz.o {id a g b sz c n len:Nat} {e d:TypeId} {f i:Nat->List PV} (j:k[a]? =some id:=by rfl) (l:h[id]? =some (ai.row g sz n e f):=by rfl) (hη:η[a]? =some (ai.row b c len d i):=by rfl):Fz h η k (.own id g 0 len) (.own a b 0 len):=
 .own _ _ _ _ _ _ _ _ _ _ _ _ _ _ j l hη (ady (abx _))
theorem Fz.p {id a g b sz c n d off:Nat} {e i:TypeId} {f j:Nat->List PV} (l:k[a]? =some id:=by rfl) (m:h[id]? =some (ai.row g sz n e f):=by rfl) (hη:η[a]? =some (ai.row b c (d+1) i j):=by rfl):Fz h η k (.aE id g 0 off) (.aE a b 0 off):=
 .aE _ _ _ _ _ _ _ _ _ _ _ _ _ _ l m hη (Nat.succ_pos _)
theorem Fz.m {id a g b sz c n d:Nat} {e i:TypeId} {f j:Nat->List PV} (l:k[a]? =some id:=by rfl) (o:h[id]? =some (ai.row g sz n e f):=by rfl) (hη:η[a]? =some (ai.row b c d i j):=by rfl):Fz h η k (.kC id) (.kC a):=
 .kC _ _ _ _ _ _ _ _ _ _ _ _ l o hη
theorem Fz.j {pv:PV}:Fz h η k pv .gf:=.gf _
theorem Fz.f {n:Nat}:Fz h η k (.fn n) (.fn n):=.fn _
theorem Fz.r {α:Type} {c:α->List PV} [mS c] {id g sz n:Nat} {e:TypeId} {l:List α} (a:h[id]? =some (ai.row g sz n e (row c l)):=by rfl) (b:id∉k:=by first | decide | simp):Fz h η k (.own id g 0 l.length) (sl sz c l):=E0 mS.pure b a aw
theorem Fz.rx {α:Type} {c:α->List PV} [mS c] {id g sz n len:Nat} {e:TypeId} {l:List α} (a:len=l.length) (b:h[id]? =some (ai.row g sz n e (row c l)):=by rfl) (d:id∉k:=by first | decide | simp):Fz h η k (.own id g 0 len) (sl sz c l):=NK mS.pure d b aw a
theorem Fz.rp {α:Type} {c:α->List PV} [mS c] {id g sz n off:Nat} {e:TypeId} {f:Nat->List PV} {l:List α} (hs:ri c f off l) (a:h[id]? =some (ai.row g sz n e f):=by rfl) (b:id∉k:=by first | decide | simp):Fz h η k (.own id g off l.length) (sl sz c l):=E0 mS.pure b a hs
variable {m:Nat}
theorem od {α:Type} {c:α->List PV} [mS c] {id g sz:Nat} {e:TypeId} {l:List α} (a:h[id]? =some (ai.row g sz l.length e (row c l)):=by rfl):vO h η k m (.row g sz l.length e (row c l)) id id:=by
 unfold vO;rw[a];exact⟨λ_=>⟨rfl,rfl⟩,rfl,.inl rfl,rfl,λi _=>kY (jl mS.pure i)⟩
theorem ob {id g sz:Nat} {e:TypeId} {a b:List PV} (c:h[id]? =some (ai.row g sz 1 e (λ_=>a))) (F:rM h η k a b):vO h η k m (.row g sz 1 e (λ_=>b)) id id:=by
 unfold vO;rw[c];exact⟨λ_=>⟨rfl,rfl⟩,rfl,.inl rfl,rfl,λi _=>F⟩
theorem nw {α:Type} {c:α->List PV} [mS c] {i id g a sz:Nat} {e:TypeId} {l:List α} (hi:Nat.ble m i=true:=by rfl) (b:h[id]? =some (ai.row g sz l.length e (row c l)):=by rfl):vO h η k m (.row a sz l.length e (row c l)) i id:=by
 unfold vO;rw[b];exact⟨λh0=>absurd h0 (Nat.not_lt.2 (abO hi)),rfl,.inl rfl,rfl,λi _=>kY (jl mS.pure i)⟩
theorem nb {i id g c sz:Nat} {e:TypeId} {a b:List PV} (d:h[id]? =some (ai.row g sz 1 e (λ_=>a))) (F:rM h η k a b) (hi:Nat.ble m i=true:=by rfl):vO h η k m (.row c sz 1 e (λ_=>b)) i id:=by
 unfold vO;rw[d];exact⟨λh0=>absurd h0 (Nat.not_lt.2 (abO hi)),rfl,.inl rfl,rfl,λi _=>F⟩
theorem Jf {id g sz:Nat} {e:TypeId} {a:List PV} (b:h[id]? =some (ai.row g sz 1 e (λ_=>a))) (hp:a.all bn=true:=by rfl):vO h η k m (.row g sz 1 e (λ_=>a)) id id:=ob b (kY hp)
theorem sr {i id g b sz:Nat} {e:TypeId} {a:List PV} (c:h[id]? =some (ai.row g sz 1 e (λ_=>a))) (hp:a.all bn=true:=by rfl) (hi:Nat.ble m i=true:=by rfl):vO h η k m (.row b sz 1 e (λ_=>a)) i id:=nb c (kY hp) hi
theorem dd {i id:Nat}:vO h η k m .dead i id:=by unfold vO;trivial
theorem gh {i id a b:Nat} {c:TypeId} {d:Nat->List PV} (hi:Nat.ble m i=true:=by rfl) (e:h[id]? =none:=by rfl):vO h η k m (.row a b 0 c d) i id:=by
 unfold vO;rw[e];exact⟨abO hi,rfl⟩
theorem tk {env:Env} {σ:List (Nat×PV)} (k:List Nat) (he:tv h η k env σ) (hh:iB h η k m 0 η k) (hd:kH (ky η k)=true:=by rfl) (a:Nat.ble m k.length=true:=by rfl):tw m env h σ η:=⟨k,hd,abO a,he,hh⟩
theorem ct {J:List (Nat×PV)->List ai->Prop} {env:Env} {σ:List (Nat×PV)} (hj:J σ η) (a:tw m env h σ η):tz m J env h:=.mk σ η a hj
theorem lg {body:(Env->List ai->Prop)->Env->List ai->Prop} {env:Env} {σ:List (Nat×PV)} (hj:aG m body σ η) (a:tw m env h σ η):loopGo m body env h:=.mk σ η a hj
theorem le {body:(Env->List ai->Prop)->Env->List ai->Prop} {env:Env} {σ:List (Nat×PV)} (hj:aG m body σ η) (a:tw m env h σ η):mJ m body env h:=.take σ η a hj
theorem en {R:PV->List ai->Prop} {vs:List PV} {res:PV} (k:List Nat) (a:R res η) (F:Fz h η k (oneOf vs) res) (hh:iB h η k m 0 η k) (hd:kH (ky η k)=true:=by rfl) (b:Nat.ble m k.length=true:=by rfl) (c:vs.all kj=true:=by rfl):Ends m R h vs:=by
 exact .mk c k res η hd (abO b) F hh a
theorem eB {a r:Bool} (hh:some a=some r):Ends 0 (λres h=>res=.bool r/\h=[]) h [.bool a]:=.mk rfl [] _ [] rfl (abn _) (.jY (abP hh)) trivial ⟨rfl,rfl⟩
theorem eI {q:IntKind} {a r:Int} (hh:some a=some r):Ends 0 (λres h=>res=.int q r/\h=[]) h [.int q a]:=.mk rfl [] _ [] rfl (abn _) (.int_eq (abP hh)) trivial ⟨rfl,rfl⟩
theorem eS {a r:List UInt8} (hh:some a=some r):Ends 0 (λres h=>res=.str r/\h=[]) h [.str a]:=.mk rfl [] _ [] rfl (abn _) (.KY (abP hh)) trivial ⟨rfl,rfl⟩
end
section
variable {α:Type}{x y r:α}{T F:Prop}
theorem sD {c:Prop} [Decidable c] (h:(if c then x else y)=r) (b:decide c=true->x=r->T) (d:decide c=false->y=r->F):dO (decide c) T F:=.mk (λa=>b a (WV a h)) (λa=>d a (WX a h))
theorem sE {β:Type} [BEq β] [LawfulBEq β] {a b:β} [Decidable (a=b)] (h:(if a=b then x else y)=r) (d:(a==b)=true->x=r->T) (e:(a==b)=false->y=r->F):dO (a==b) T F:=.mk (λc=>d c (K1 c h)) (λc=>e c (K2 c h))
theorem L6 {β:Type} [BEq β] [LawfulBEq β] {a b:β} [Decidable (a=b)] (h:(if a=b then x else y)=r) (d:(!(a==b))=true->y=r->T) (e:(!(a==b))=false->x=r->F):dO (!(a==b)) T F:=.mk (λc=>d c (K2 (OV c) h)) (λc=>e c (K1 (OU c) h))
theorem sN {β:Type} [BEq β] [LawfulBEq β] {a b:β} [Decidable (a=b)] (h:(if a=b then x else y)=r) (d:(a != b)=true->y=r->T) (e:(a != b)=false->x=r->F):dO (a != b) T F:=.mk (λc=>d c (WY c h)) (λc=>e c (WZ c h))
theorem sV {b:Bool} (h:(if b=true then x else y)=r) (c:b=true->x=r->T) (d:b=false->y=r->F):dO b T F:=.mk (λa=>c a (OS a h)) (λa=>d a (OT a h))
theorem kV {b:Bool} (h:(if b=true then x else y)=r) (c:(!b)=true->y=r->T) (d:(!b)=false->x=r->F):dO (!b) T F:=.mk (λa=>c a (OT (OV a) h)) (λa=>d a (OS (OU a) h))
end
theorem dO.t {T F:Prop} (h:T):dO true T F:=K3 h
theorem dO.f {T F:Prop} (h:F):dO false T F:=K4 h
theorem dO.kt {b:Bool} {T F:Prop} (a:b=true) (h:T):dO b T F:=H5 a h
theorem dO.kf {b:Bool} {T F:Prop} (a:b=false) (h:F):dO b T F:=H6 a h
theorem qb.d {m:Nat} {A B:XQ->Env->List ai->Prop} {Q:XQ} {env:Env} {h:List ai} (hd:A (XQ.then (B Q) Q) env h):qb m A B Q env h:=.direct hd
inductive Nz:PV->PV->Prop
 | same (a:PV):Nz a a
 | nil (sz:Nat) (f:Nat->List PV):Nz .aF (.eD sz 0 f)
def W8:List PV->List PV->Prop
 | [],[]=>True
 | a::l,b::r=>Nz a b/\W8 l r
 | _,_=>False
inductive W9:PV->PV->Prop
 | same (a:PV):W9 a a
 | nil (sz:Nat) (f:Nat->List PV):W9 .aF (.eD sz 0 f)
 | agg {cs zh:List PV} (h:W8 cs zh):W9 (.agg cs) (.agg zh)
def NL:List PV->List PV->Prop
 | [],[]=>True
 | a::l,b::r=>W9 a b/\NL l r
 | _,_=>False
theorem W8.get:∀{l r:List PV},W8 l r->r.length=l.length/\∀(j:Nat) (p:PV),r[j]? =some p->∃q:PV,l[j]? =some q/\Nz q p
 | [],[],_=>⟨rfl,λj p h=>by simp at h⟩
 | a::l,b::r,h=>by
  obtain⟨h1,h2⟩:=W8.get h.2;refine⟨by simp [h1],λj p hj=>?_⟩;cases j with
  | zero=>simp at hj;subst hj;exact⟨a,rfl,h.1⟩
  | succ j=>obtain⟨q,q1,q2⟩:=h2 j p aeZ;exact⟨q,by simpa using q1,q2⟩
 | [],_::_,h=>h.elim
 | _::_,[],h=>h.elim
theorem NL.get:∀{l r:List PV},NL l r->r.length=l.length/\∀(j:Nat) (p:PV),r[j]? =some p->∃q:PV,l[j]? =some q/\W9 q p
 | [],[],_=>⟨rfl,λj p h=>by simp at h⟩
 | a::l,b::r,h=>by
  obtain⟨h1,h2⟩:=NL.get h.2;refine⟨by simp [h1],λj p hj=>?_⟩;cases j with
  | zero=>simp at hj;subst hj;exact⟨a,rfl,h.1⟩
  | succ j=>obtain⟨q,q1,q2⟩:=h2 j p aeZ;exact⟨q,by simpa using q1,q2⟩
 | [],_::_,h=>h.elim
 | _::_,[],h=>h.elim
section
variable {P:Program}{f:FuncId}{args:List PV}{h:List ai}{K:PV->List ai->Prop}{r0:PV}
theorem aT (a:ACall P f args [] (λres h=>res=r0/\h=[])) (k:K r0 h) (hp:args.all CX=true:=by rfl) (b:∀n,oB n r0=r0:=by intro _;rfl):vh P f args h K:=
 ⟨_,a.W4 h hp b,by rintro _ _ ⟨rfl,rfl⟩;exact k⟩
theorem Y0 {a:List PV} (b:ACall P f a [] (λres h=>res=r0/\h=[])) (c:rM h [] [] args a) (k:K r0 h) (d:a.all kj=true:=by rfl) (hf:Gy r0=true:=by rfl) (e:∀n,oB n r0=r0:=by intro _;rfl):vh P f args h K:=
 ⟨_,b.W5 h c d hf e,by rintro _ _ ⟨rfl,rfl⟩;exact k⟩
theorem shr {α:Type} {c:α->List PV} [mS c] (N g sz n:Nat) (e:TypeId) (l:List α):fx N (.row g sz n e (row c l))=.row g sz n e (row c l):=wV mS.pure N g sz n e l
theorem rer {α:Type} {c:α->List PV} [mS c] (σ:Nat->Nat) (g sz n:Nat) (e:TypeId) (l:List α):pa σ (.row g sz n e (row c l))=.row g sz n e (row c l):=CW mS.pure σ g sz n e l
theorem G1 {h0:List ai} (a:ACall P f args [] (λres h=>res=r0/\h=h0)) (r1:PV) (h1:List ai) (k:K r1 h1) (e2:h++h0.map (fx h.length)=h1:=by simp only[abF,acw,shr];rfl) (b:oB h.length r0=r1:=by rfl) (hp:args.all CX=true:=by rfl):vh P f args h K:=
 ⟨_,a.frame h hp,by rintro _ _ ⟨_,_,⟨rfl,rfl⟩,rfl,rfl⟩;rw[b,e2];exact k⟩
def OZ (h:List ai) (σ:Nat->Nat):List ai->List Nat->Prop
 | [],_=>True
 | o::r,i::is=>h[i]? =some (pa σ o)/\OZ h σ r is
 | _::_,[]=>False
theorem OZ.get {h:List ai} {σ:Nat->Nat}:∀{hc:List ai} {is:List Nat},OZ h σ hc is->∀(j:Nat) (o:ai),hc[j]? =some o->∃i:Nat,is[j]? =some i/\h[i]? =some (pa σ o)
 | [],_,_,j,o,hj=>by simp at hj
 | a::r,[],hh,_,_,_=>hh.elim
 | a::r,i::is,hh,0,o,hj=>by simp at hj;subst hj;exact⟨i,rfl,hh.1⟩
 | a::r,i::is,hh,j+1,o,hj=>by
  obtain⟨q,h1,h2⟩:=OZ.get hh.2 j o aeZ;exact⟨q,by simpa using h1,h2⟩
theorem ov {α:Type} {c:α->List PV} [mS c] {σ:Nat->Nat} {g sz n:Nat} {e:TypeId} {l:List α} {x:Option ai} (a:x=some (.row g sz n e (row c l)):=by rfl):x=some (pa σ (.row g sz n e (row c l))):=by rw[CW mS.pure];exact a
theorem ACall.O0 {hc:List ai} {args a:List PV} {R:PV->List ai->Prop} (b:ACall P f args hc R) (is:List Nat) (h:List ai) (c:OZ h (eK is h.length) hc is) (d:hc.length=is.length) (hd:is.Nodup) (e:is.all (λid=>Nat.blt id h.length)=true)
  (g:a=args.map (uD (eK is h.length))):ACall P f a h (λres h'=>∃r0 h0,R r0 h0/\res=Bq (eK is h.length) r0/\h'=uE h is h0):=
 b.over is h d hd (λid hid=>abO (abw.1 e id hid)) (λj o hj=>by
  obtain⟨i,h1,h2⟩:=c.get j o hj;unfold eK;rw[h1];exact h2) g
theorem TR {γ:Type} {h0:γ->List ai} {args a:List PV} {b:γ->PV} {hc:List ai} (d:ACall P f args hc (λres h=>∃g,res=b g/\h=h0 g)) (is:List Nat) (e:OZ h (eK is h.length) hc is) (c:γ->PV) (H1:γ->List ai) (k:∀g,K (c g) (H1 g)) (e2:∀g,uE h is (h0 g)=H1 g:=by intro g;simp only[uE,lY,abF,acw,List.drop,abp,abr,rer];rfl) (i:∀g,Bq (eK is h.length) (b g)=c g:=by intro _;rfl)
  (j:hc.length=is.length:=by rfl) (hd:is.Nodup:=by decide) (l:is.all (λid=>Nat.blt id h.length)=true:=by rfl) (m:a=args.map (uD (eK is h.length)):=by rfl):vh P f a h K:=
 ⟨_,d.O0 is h e j hd l m,by rintro _ _ ⟨_,_,⟨g,rfl,rfl⟩,rfl,rfl⟩;rw[i,e2];exact k g⟩
end
theorem si {α:Type} {a b:α} (h:some a=some b):a=b:=abP h
theorem bk {α β:Type} {x:Option α} {f:α->Option β} {r:β} {G:Prop} (h:(x>>=f)=some r) (k:∀a,x=some a->f a=some r->G):G:=by
 obtain⟨a,h1,h2⟩:=bind_some h;exact k a h1 h2
theorem bd {α β:Type} {x:Option α} {f:α->Option β} {r:β} (h:(x>>=f)=some r):∃a,x=some a/\f a=some r:=bind_some h
structure DR {α:Type} (D:List PV->α->Prop) (n:Nat) (f:Nat->List PV) (l:List α):Prop where
 len:l.length=n
 at_:∀i (h:i<l.length),D (f i) l[i]
 z:∀i,n<=i->f i=[]
inductive O1:PV->PV->Prop
 | p {a:PV} (h:bn a=true):O1 a a
 | o {a b:PV} (h:yb a b):O1 a b
def yc:List PV->List PV->Prop
 | [],[]=>True
 | a::l,b::r=>O1 a b/\yc l r
 | _,_=>False
class RQ {α:Type} (D:List PV->α->Prop) (c:outParam (α->List PV)):Prop where
 Yl:∀cs x,D cs x->yc cs (c x)
def DEq {α:Type} (c:α->List PV):List PV->α->Prop:=λcs x=>cs=c x
theorem yc.len:∀{l r:List PV},yc l r->r.length=l.length
 | [],[],_=>rfl
 | a::l,b::r,h=>congrArg (·+1) (yc.len h.2)
 | [],_::_,h=>h.elim
 | _::_,[],h=>h.elim
theorem yc.get:∀{l r:List PV},yc l r->∀{j:Nat} {a b:PV},l[j]? =some a->r[j]? =some b->O1 a b
 | a::l,b::r,h,0,x,y,c,hy=>by simp at c hy;subst c hy;exact h.1
 | a::l,b::r,h,j+1,x,y,c,hy=>yc.get h.2 (by simpa using c) afg
 | [],_,h,j,x,y,c,hy=>by simp at c
 | _::_,[],h,_,_,_,_,_=>h.elim
theorem yc.pure:∀{l:List PV},l.all bn=true->yc l l
 | [],_=>trivial
 | a::l,h=>by
  simp only[acK,Is]at h;exact⟨.p h.1,yc.pure h.2⟩
theorem yb.isO {a b:PV} (h:yb a b):dL a=true:=by cases h;rfl
theorem yb.K7 {a b:PV} (h:yb a b):bn b=true:=by cases h;rfl
theorem O1.po {a b:PV} (h:O1 a b):bn a=true\/dL a=true:=by
 cases h with
 | p h=>exact .inl h
 | o h=>exact .inr h.isO
theorem O1.K7 {a b:PV} (h:O1 a b):bn b=true:=by
 cases h with
 | p h=>exact h
 | o h=>exact h.K7
theorem yc.po {l r:List PV} (h:yc l r):∀c,c∈l->bn c=true\/dL c=true:=λc hc=>by
 obtain⟨j,hj,rfl⟩:=List.getElem_of_mem hc;have a:=h.len;exact(h.get (abm hj) (abm (show j<r.length by omega))).po
instance {α:Type} (c:α->List PV) [hp:mS c]:RQ (DEq c) c:=⟨λcs x h=>by
 have h:cs=c x:=h;subst h;exact yc.pure (hp.pure x)⟩
theorem E1 {a:PV} (h:dL a=true):bn a=false:=by cases a<;>first | rfl | cases h
theorem RR {σ:Nat->Nat} {a:PV} (h:bn a=true\/dL a=true):ku σ a=a:=by cases a<;>first | rfl | (rcases h with h | h<;>cases h)
theorem Bv {g:PV->PV}:∀{l:List PV},(∀c,c∈l->g c=c)->l.map g=l
 | [],_=>rfl
 | a::l,h=>by simp only[abF];rw[h a aeR,Bv (λc hc=>h c (by simp [hc]))]
section
variable {α:Type}{D:List PV->α->Prop}{c:α->List PV}{n:Nat}{f:Nat->List PV}{l:List α}
theorem tA (b:∀i (h:i<l.length),yc (f i) (c l[i])) (d:l.length=n) (sz:Nat) (e:TypeId) (F:Nat->Prop):yb (.eM sz n e f F) (sl sz c l):=by
 subst d;have at_:∀i,i<l.length->yc (f i) (row c l i):=λi hi=>by rw[jc hi];exact b i hi
 refine .mk sz l.length e f (row c l) F (λi hi=>(at_ i hi).len) (λi j pv pv' hi h1 h2 a=>?_) (λi j pv pv' hi h1 h2 a=>?_) (λi j pv' hi h2=>?_)
 ·cases(at_ i hi).get h1 h2 with
  | p _=>rfl
  | o h=>rw[h.isO]at a;cases a
 ·cases(at_ i hi).get h1 h2 with
  | p h=>rw[E1 a]at h;cases h
  | o h=>exact h
 ·have hj:j<(f i).length:=by rw[<-(at_ i hi).len];exact(As.1 h2).1
  exact((at_ i hi).get (abm hj) h2).K7
theorem DR.od [hc:RQ D c] (d:DR D n f l):∀i (h:i<l.length),yc (f i) (c l[i]):=λi h=>hc.Yl _ _ (d.at_ i h)
theorem DR.po [hc:RQ D c] (d:DR D n f l):∀i,i<n->∀x,x∈f i->bn x=true\/dL x=true:=λi hi=>(d.od (c:=c) i (by rw[d.len];exact hi)).po
theorem DR.ren [hc:RQ D c] (d:DR D n f l) {g:PV->PV} (hg:∀x,bn x=true\/dL x=true->g x=x):(λi=>(f i).map g)=f:=by
 funext i;by_cases hi:i<n
 ·exact Bv (λx a=>hg x (d.po (c:=c) i hi x a))
 ·rw[d.z i aeP];rfl
theorem DR.self (d:DR D n f l):DR D l.length f l:=by have h:=d.len;subst h;exact d
theorem DR.nil:DR D 0 (λ_=>[]) []:=⟨rfl,λi h=>absurd h (abR _),λ_ _=>rfl⟩
theorem GB {f:Nat->List PV} {i:Nat} {cs:List PV}:tn f i cs i=cs:=by
 unfold tn;rw[show Nat.beq i i=true from acH i];rfl
theorem wm {f:Nat->List PV} {i k:Nat} {cs:List PV} (h:k≠i):tn f i cs k=f k:=by
 unfold tn;rw[show Nat.beq k i=false from Bool.eq_false_iff.2 (λq=>h (abo q))];rfl
theorem DR.set (d:DR D n f l) {i:Nat} (hi:i<l.length) {cs:List PV} {x:α} (b:D cs x):DR D n (tn f i cs) (l.set i x):=by
 refine⟨by rw[adj];exact d.len,λk a=>?_,λk a=>?_⟩
 ·rw[adj]at a;rw[List.getElem_set];by_cases h:i=k
  ·subst h;rw[An rfl,GB];exact b
  ·rw[so h,wm (acB h)];exact d.at_ k a
 ·have:=d.len;rw[wm aeP];exact d.z k a
theorem DR.app (d:DR D n f l) {cs:List PV} {x:α} (c:D cs x):DR D (n+1) (tn f n cs) (l++[x]):=by
 have b:=d.len;refine⟨by simp [b],λk a=>?_,λk a=>?_⟩
 ·by_cases h:k=n
  ·subst h;rw[GB,List.getElem_append_right aeP];simp only[b,acx,List.getElem_cons_zero];exact c
  ·rw[wm h,List.getElem_append_left (by simp at a;omega)];exact d.at_ k (by simp at a;omega)
 ·rw[wm aeP];exact d.z k aeP
theorem DR.idx [Inhabited α] (d:DR D n f l) {i:Int} {x:α} (h:Go.Am.idx l i=some x):D (f i.toNat) x:=by
 have h1:=K5 h;obtain⟨h2,a⟩:=As.1 h1;rw[<-a];exact d.at_ _ h2
theorem DR.lt [Inhabited α] (d:DR D n f l) {i:Int} {x:α} (h:Go.Am.idx l i=some x):i.toNat<n:=by rw[<-d.len];exact tW h
theorem DR.bd [Inhabited α] (d:DR D n f l) {i:Int} {x:α} (h:Go.Am.idx l i=some x):0<=i/\i<(n:Int):=by rw[<-d.len];exact ba h
variable {h η:List ai}{k:List Nat}{m:Nat}
theorem Fz.od {id a g b sz d n0 n1 n2 c:Nat} {e i:TypeId} {f j:Nat->List PV} (h1:n1=n2:=by first | rfl | simp [*]) (h2:n2=c:=by first | rfl | simp [*]) (l:k[a]? =some id:=by rfl) (m:h[id]? =some (ai.row g sz n0 e f):=by rfl) (hη:η[a]? =some (ai.row b d c i j):=by rfl):Fz h η k (.own id g 0 n1) (.own a b 0 n2):=by
 subst h1 h2;exact .own _ _ _ _ _ _ _ _ _ _ _ _ _ _ l m hη (ady (abx _))
end
section
variable {P:Program}{f:FuncId}{args:List PV}{h:List ai}{K R:PV->List ai->Prop}
end
def ma (cs:List PV):Prop:=∀c∈cs,(dL c=false->mb c=true)/\(dL c=true->OG (λpv=>mb pv=true) c)
class LX {α:Type} (c:α->List PV):Prop where
 fl:∀x,(c x).all mb=true
class Dfl {α:Type} (D:List PV->α->Prop):Prop where
 fl:∀cs x,D cs x->ma cs
instance:LX cI:=⟨λ_=>rfl⟩
instance (k:IntKind):LX (RO k):=⟨λ_=>rfl⟩
instance:LX cB:=⟨λ_=>rfl⟩
instance:LX cT:=⟨λ_=>rfl⟩
instance:LX cS:=⟨λ_=>rfl⟩
theorem CZ {a:PV} (h:mb a=true):dL a=false:=by cases a<;>first | rfl | cases h
theorem NM:ma []:=λc hc=>absurd hc List.not_mem_nil
theorem mq {a:PV} {l:List PV} (t:ma l) (h:mb a=true:=by rfl):ma (a::l):=λc hc=>by
 rcases abE.1 hc with rfl | hc
 ·exact⟨λ_=>h,λq=>by rw[CZ h]at q;cases q⟩
 ·exact t c hc
theorem RS {l:List PV} (h:l.all mb=true):ma l:=λc hc=>⟨λ_=>abw.1 h c hc,λq=>by rw[CZ (abw.1 h c hc)]at q;cases q⟩
theorem Xa {sz n:Nat} {e:TypeId} {f:Nat->List PV} {F:Nat->Prop} (h:∀i,i<n->ma (f i)):OG (λpv=>mb pv=true) (.eM sz n e f F):=
 .mk sz n e f F (λi j pv hi hj a=>(h i hi pv (abA hj)).1 a) (λi j _ _ _ _ _ hi hj=>(h i hi _ (abA hj)).2 rfl)
theorem NN {sz n:Nat} {e:TypeId} {f:Nat->List PV} {F:Nat->Prop} {l:List PV} (h:∀i,i<n->ma (f i)) (t:ma l):ma (.eM sz n e f F::l):=λc hc=>by
 rcases abE.1 hc with rfl | hc
 ·exact⟨λq=>(by cases q),λ_=>Xa h⟩
 ·exact t c hc
instance {α:Type} (c:α->List PV) [h:LX c]:Dfl (DEq c):=⟨λcs x q=>by
 have q:cs=c x:=q;subst q;exact RS (h.fl x)⟩
theorem C0:∀{l:List PV},l.all bn=true->Xb l=true
 | [],_=>rfl
 | a::l,h=>by
  simp only[acK,Is]at h;have:=C0 h.2;cases a<;>first | exact this | (have h1:=h.1;cases h1)
theorem dT {α:Type} {c:α->List PV} [hp:mS c] {f:Nat->List PV} {off:Nat} {l:List α} (hs:ri c f off l):∀i,i<l.length->Xb (f (off+i))=true:=λi hi=>by
 rw[hs i hi];exact C0 (jl hp.pure i)
section
variable {α:Type}{D:List PV->α->Prop}{n:Nat}{f:Nat->List PV}{l q:List α}{x:α}{b:Nat}
theorem K8 (h:eE b l [x]=some q):l++[x]=q:=(cC h).2
theorem DR.ln (d:DR D n f l) (h:eE b l [x]=some q):q.length=n+1:=by
 have h1:=K8 h;subst h1;simp [d.len]
end
def NP (f:Nat->List PV):Prop:=∀g:PV->PV,(∀x,bn x=true\/dL x=true->g x=x)->(λi=>(f i).map g)=f
theorem DR.Xc {α:Type} {D:List PV->α->Prop} {c:α->List PV} [hc:RQ D c] {n:Nat} {f:Nat->List PV} {l:List α} (d:DR D n f l):NP f:=λg hg=>d.ren (c:=c) hg
theorem C1 {α:Type} {c:α->List PV} [hp:mS c] {l:List α}:NP (row c l):=λg hg=>by
 funext i;exact Bv (λx a=>hg x (.inl (abw.1 (jl hp.pure i) x a)))
theorem C2 {cs:List PV} (h:cs.all bn=true):NP (λ_=>cs):=λg hg=>by
 funext i;exact Bv (λx a=>hg x (.inl (abw.1 h x a)))
theorem rfx {f:Nat->List PV} (h:NP f) (σ:Nat->Nat) (g sz n:Nat) (e:TypeId):pa σ (.row g sz n e f)=.row g sz n e f:=by
 show ai.row g sz n e (λi=>(f i).map (ku σ))=_;rw[h _ (λx=>RR)]
theorem C3 {cs:List PV} {σ:Nat->Nat} {g sz n:Nat} {e:TypeId}:pa σ (.row g sz n e (λ_=>cs))=.row g sz n e (λ_=>cs.map (ku σ)):=rfl
theorem Ab {σ:Nat->Nat}:pa σ .dead=.dead:=rfl
section
variable {P:Program}{f:FuncId}{h:List ai}{K:PV->List ai->Prop}{r0 r1:PV}{h0 h1:List ai}
theorem r7 {hc:List ai} {args a:List PV} (b:ACall P f args hc (λres h=>res=r0/\h=h0)) (is:List Nat) (c:OZ h (eK is h.length) hc is) (k:K r1 h1)
  (d:Bq (eK is h.length) r0=r1:=by simp only[Bq,uD,ku,eK,abF,acw,abp,abr,acJ,acA,adf,Nat.reduceAdd,Nat.reduceSub];rfl)
  (hh:uE h is h0=h1:=by
   simp (disch:=first | rfl | exact DR.Xc (by assumption) | exact C1 | exact C2 rfl) only[uE,lY,rfx,C3,Ab,ku,eK,abF,acw,List.drop_succ_cons,acN,List.drop_nil,abp,abr,acY,acZ,acz,acj,acJ,acA,adf,Nat.reduceAdd,Nat.reduceSub];rfl)
  (e:hc.length=is.length:=by rfl) (hd:is.Nodup:=by decide) (g:is.all (λid=>Nat.blt id h.length)=true:=by rfl) (i:a=args.map (uD (eK is h.length)):=by rfl):vh P f a h K:=
 ⟨_,b.O0 is h c e hd g i,by rintro _ _ ⟨_,_,⟨rfl,rfl⟩,rfl,rfl⟩;rw[d,hh];exact k⟩
theorem dR {hc:List ai} {args a:List PV} (b:ACall P f args hc (λres h=>res=r0/\h=h0)) (is:List Nat) (k:K r1 h1) (c:OZ h (eK is h.length) hc is:=by exact⟨rfl,⟨⟩⟩)
  (d:Bq (eK is h.length) r0=r1:=by simp only[Bq,uD,ku,eK,abF,acw,abp,abr,acJ,acA,adf,Nat.reduceAdd,Nat.reduceSub];rfl)
  (hh:uE h is h0=h1:=by
   simp (disch:=first | rfl | exact DR.Xc (by assumption) | exact C1 | exact C2 rfl) only[uE,lY,rfx,C3,Ab,ku,eK,abF,acw,List.drop_succ_cons,acN,List.drop_nil,abp,abr,acY,acZ,acz,acj,acJ,acA,adf,Nat.reduceAdd,Nat.reduceSub];rfl)
  (e:hc.length=is.length:=by rfl) (hd:is.Nodup:=by decide) (g:is.all (λid=>Nat.blt id h.length)=true:=by rfl) (i:a=args.map (uD (eK is h.length)):=by rfl):vh P f a h K:=r7 b is c k d hh e hd g i
end
theorem au {a b:List PV} {off:Nat} {f:Nat->List PV}:∀j,j<1->ny (tn f 0 (fC a off b) j) ((λ_=>fC a off b) j):=NJ rfl
section
variable {h:List ai}{id sub g sz n g2 lG n2:Nat}{e e2:TypeId}{f2:Nat->List PV}{i j:Nat}{F:Nat->Prop}
end
section
variable {h η:List ai}{k:List Nat}{m:Nat}
theorem rM.n:rM h η k [] []:=trivial
theorem rM.c {a b:PV} {l r:List PV} (h1:Fz h η k a b) (h2:rM h η k l r):rM h η k (a::l) (b::r):=⟨h1,h2⟩
theorem tv.n {env:Env}:tv h η k env []:=trivial
theorem tv.c {env:Env} {t:Nat} {v:PV} {r:List (Nat×PV)} (h1:Fz h η k (env t) v) (h2:tv h η k env r):tv h η k env ((t,v)::r):=⟨h1,h2⟩
theorem iB.n {i:Nat}:iB h η k m i [] []:=trivial
theorem iB.c {i id:Nat} {o:ai} {r:List ai} {a:List Nat} (h1:vO h η k m o i id) (h2:iB h η k m (i+1) r a):iB h η k m i (o::r) (id::a):=⟨h1,h2⟩
end
theorem rs {α:Type} {D:List PV->α->Prop} {n:Nat} {f:Nat->List PV} {l:List α} (d:DR D n f l) {X:(Nat->List PV)->PV} {H:(Nat->List PV)->List ai}:∃F,DR D l.length F l/\X f=X F/\H f=H F:=⟨f,d.self,rfl,rfl⟩
end Go.Am
namespace Go.Am
open Go Go.RowKit Go.Proofs
structure ay where
 dI:aB
 mR:aB
 deriving DecidableEq,Inhabited
abbrev ay.lit (x:ay):List PV:=[.str x.dI,.str x.mR]
def ay.cells (x:ay):List PV:=x.lit
theorem ay.aC (x:ay):x.cells=x.lit:=rfl
theorem ay.cH (x:ay):x.cells.all bn=true:=rfl
instance:mS ay.cells:=⟨ay.cH⟩
structure az where
 dk:Int
 bh:aB
 deriving DecidableEq,Inhabited
abbrev az.lit (x:az):List PV:=[.int .i64 x.dk,.str x.bh]
def az.cells (x:az):List PV:=x.lit
theorem az.aC (x:az):x.cells=x.lit:=rfl
theorem az.cH (x:az):x.cells.all bn=true:=rfl
instance:mS az.cells:=⟨az.cH⟩
structure av where
 bc:aB
 ak:List ay
 ah:List az
 deriving DecidableEq,Inhabited
abbrev av.lit (x:av):List PV:=[.str x.bc,sl 2 ay.cells x.ak,sl 2 az.cells x.ah]
def av.cells (x:av):List PV:=x.lit
theorem av.aC (x:av):x.cells=x.lit:=rfl
theorem av.cH (x:av):x.cells.all bn=true:=rfl
instance:mS av.cells:=⟨av.cH⟩
structure aL where
 bh:Bool
 aY:Int
 bz:aB
 deriving DecidableEq,Inhabited
abbrev aL.lit (x:aL):List PV:=[.bool x.bh,.int .i64 x.aY,.str x.bz]
def aL.cells (x:aL):List PV:=x.lit
theorem aL.aC (x:aL):x.cells=x.lit:=rfl
theorem aL.cH (x:aL):x.cells.all bn=true:=rfl
instance:mS aL.cells:=⟨aL.cH⟩
mutual
inductive ae where
 | mk (aD:Int) (aY:Int) (bz:aB) (cj:Int) (aj:List af)
inductive af where
 | mk (aS:aL) (bE:ae)
end
def ae.aD:ae->Int | .mk x _ _ _ _=>x
def ae.aY:ae->Int | .mk _ x _ _ _=>x
def ae.bz:ae->aB | .mk _ _ x _ _=>x
def ae.cj:ae->Int | .mk _ _ _ x _=>x
def ae.aj:ae->List af | .mk _ _ _ _ x=>x
@[simp] theorem ae.nL (a:Int) (b:Int) (c:aB) (d:Int) (e:List af):(ae.mk a b c d e).aD=a:=rfl
@[simp] theorem ae.vX (b:Int) (a:Int) (c:aB) (d:Int) (e:List af):(ae.mk b a c d e).aY=a:=rfl
@[simp] theorem ae.vY (b:Int) (c:Int) (a:aB) (d:Int) (e:List af):(ae.mk b c a d e).bz=a:=rfl
@[simp] theorem ae.pQ (b:Int) (c:Int) (d:aB) (a:Int) (e:List af):(ae.mk b c d a e).cj=a:=rfl
@[simp] theorem ae.cQ (b:Int) (c:Int) (d:aB) (e:Int) (a:List af):(ae.mk b c d e a).aj=a:=rfl
def af.aS:af->aL | .mk x _=>x
def af.bE:af->ae | .mk _ x=>x
@[simp] theorem af.Ym (a:aL) (b:ae):(af.mk a b).aS=a:=rfl
@[simp] theorem af.Yn (b:aL) (a:ae):(af.mk b a).bE=a:=rfl
instance:Inhabited ae:=⟨.mk 0 0 [] 0 []⟩
instance:Inhabited af:=⟨.mk default default⟩
mutual
def ae.cells:ae->List PV | .mk b c d e a=>[.int .i64 b]++[.int .i64 c]++[.str d]++[.int .i64 e]++[.eD 8 a.length (λi=>(af.Bw a).getD i [])]
def af.cells:af->List PV | .mk a b=>a.lit++b.cells
def af.Bw:List af->List (List PV) | []=>[] | x::r=>x.cells::af.Bw r
end
theorem af.yd:∀(l:List af),af.Bw l=l.map af.cells
 | []=>rfl
 | a::r=>by unfold af.Bw;rw[af.yd r];rfl
abbrev ae.lit (x:ae):List PV:=[.int .i64 x.aD,.int .i64 x.aY,.str x.bz,.int .i64 x.cj,sl 8 af.cells x.aj]
abbrev af.lit (x:af):List PV:=[.bool x.aS.bh,.int .i64 x.aS.aY,.str x.aS.bz,.int .i64 x.bE.aD,.int .i64 x.bE.aY,.str x.bE.bz,.int .i64 x.bE.cj,sl 8 af.cells x.bE.aj]
theorem ae.aC (x:ae):x.cells=x.lit:=by
 cases x with
 | mk a b c d e=>
  unfold ae.cells;rw[af.yd];rfl
theorem ae.cH (x:ae):x.cells.all bn=true:=by rw[ae.aC];rfl
instance:mS ae.cells:=⟨ae.cH⟩
theorem af.aC (x:af):x.cells=x.lit:=by
 cases x with
 | mk a b=>
  unfold af.cells;rw[ae.aC];rfl
theorem af.cH (x:af):x.cells.all bn=true:=by rw[af.aC];rfl
instance:mS af.cells:=⟨af.cH⟩
structure aH where
 fArgs:List ae
 cn:av
 eX:Int
 deriving Inhabited
abbrev aH.lit (x:aH):List PV:=[sl 5 ae.cells x.fArgs,.str x.cn.bc,sl 2 ay.cells x.cn.ak,sl 2 az.cells x.cn.ah,.int .i64 x.eX]
def aH.cells (x:aH):List PV:=x.lit
theorem aH.aC (x:aH):x.cells=x.lit:=rfl
theorem aH.cH (x:aH):x.cells.all bn=true:=rfl
instance:mS aH.cells:=⟨aH.cH⟩
structure aA where
 fB:List UInt8
 fI:Int
 fH:Int
 deriving DecidableEq,Inhabited
abbrev aA.lit (x:aA):List PV:=[sl 1 cB x.fB,.int .i64 x.fI,.int .i64 x.fH]
def aA.cells (x:aA):List PV:=x.lit
theorem aA.aC (x:aA):x.cells=x.lit:=rfl
theorem aA.cH (x:aA):x.cells.all bn=true:=rfl
instance:mS aA.cells:=⟨aA.cH⟩
structure aq where
 fS:aB
 lE:Int
 fX:Bool
 deriving DecidableEq,Inhabited
abbrev aq.lit (x:aq):List PV:=[.str x.fS,.int .i64 x.lE,.bool x.fX]
def aq.cells (x:aq):List PV:=x.lit
theorem aq.aC (x:aq):x.cells=x.lit:=rfl
theorem aq.cH (x:aq):x.cells.all bn=true:=rfl
instance:mS aq.cells:=⟨aq.cH⟩
instance:LX ay.cells:=⟨λ_=>rfl⟩
instance:LX az.cells:=⟨λ_=>rfl⟩
instance:LX aq.cells:=⟨λ_=>rfl⟩
instance:LX aL.cells:=⟨λ_=>rfl⟩
mutual
inductive af.D:List PV->af->Prop
 | mk (x:af) (n0:Nat) (F0:Nat->Prop) (sQ:x.bE.aj.length=n0) (f0:Nat->List PV) (h0:∀i (hi:i<x.bE.aj.length),af.D (f0 i) x.bE.aj[i]) (JN:∀i,n0<=i->f0 i=[]):af.D [.bool x.aS.bh,.int .i64 x.aS.aY,.str x.aS.bz,.int .i64 x.bE.aD,.int .i64 x.bE.aY,.str x.bE.bz,.int .i64 x.bE.cj,.eM 8 n0 104 f0 F0] x
inductive ae.D:List PV->ae->Prop
 | mk (x:ae) (n0:Nat) (F0:Nat->Prop) (sQ:x.aj.length=n0) (f0:Nat->List PV) (h0:∀i (hi:i<x.aj.length),af.D (f0 i) x.aj[i]) (JN:∀i,n0<=i->f0 i=[]):ae.D [.int .i64 x.aD,.int .i64 x.aY,.str x.bz,.int .i64 x.cj,.eM 8 n0 104 f0 F0] x
end
theorem af.K9:∀cs x,af.D cs x->yc cs x.cells:=λcs x h=>af.D.rec (motive_1:=λcs x _=>yc cs x.cells) (motive_2:=λcs x _=>yc cs x.cells) (λx n0 a b d h0 e c=>by rw[af.aC];exact⟨.p rfl,.p rfl,.p rfl,.p rfl,.p rfl,.p rfl,.p rfl,.o (tA c b 8 104 a),trivial⟩) (λx n0 a b d h0 e c=>by rw[ae.aC];exact⟨.p rfl,.p rfl,.p rfl,.p rfl,.o (tA c b 8 104 a),trivial⟩) h
theorem ae.K9:∀cs x,ae.D cs x->yc cs x.cells:=λcs x h=>ae.D.rec (motive_1:=λcs x _=>yc cs x.cells) (motive_2:=λcs x _=>yc cs x.cells) (λx n0 a b d h0 e c=>by rw[af.aC];exact⟨.p rfl,.p rfl,.p rfl,.p rfl,.p rfl,.p rfl,.p rfl,.o (tA c b 8 104 a),trivial⟩) (λx n0 a b d h0 e c=>by rw[ae.aC];exact⟨.p rfl,.p rfl,.p rfl,.p rfl,.o (tA c b 8 104 a),trivial⟩) h
instance:RQ af.D af.cells:=⟨af.K9⟩
instance:RQ ae.D ae.cells:=⟨ae.K9⟩
theorem af.E3:∀cs x,af.D cs x->ma cs:=λcs x h=>af.D.rec (motive_1:=λcs x _=>ma cs) (motive_2:=λcs x _=>ma cs) (λx n0 c a d h0 e b=>(mq (mq (mq (mq (mq (mq (mq (NN (λi hi=>b i (ada hi a.symm)) NM))))))))) (λx n0 c a d h0 e b=>(mq (mq (mq (mq (NN (λi hi=>b i (ada hi a.symm)) NM)))))) h
theorem ae.E3:∀cs x,ae.D cs x->ma cs:=λcs x h=>ae.D.rec (motive_1:=λcs x _=>ma cs) (motive_2:=λcs x _=>ma cs) (λx n0 c a d h0 e b=>(mq (mq (mq (mq (mq (mq (mq (NN (λi hi=>b i (ada hi a.symm)) NM))))))))) (λx n0 c a d h0 e b=>(mq (mq (mq (mq (NN (λi hi=>b i (ada hi a.symm)) NM)))))) h
instance:Dfl af.D:=⟨af.E3⟩
instance:Dfl ae.D:=⟨ae.E3⟩
theorem ay.kS (x y:ay):((x.dI==y.dI)&&((x.mR==y.mR)&&true))=decide (x=y):=by
 rw[acU];simp only[Is,ack,acR,abH];constructor
 ·intro h;cases x;cases y;simp only[ay.mk.injEq];simpa using h
 ·rintro rfl;simp
theorem az.kS (x y:az):((x.dk==y.dk)&&((x.bh==y.bh)&&true))=decide (x=y):=by
 rw[acU];simp only[Is,ack,acR,abH];constructor
 ·intro h;cases x;cases y;simp only[az.mk.injEq];simpa using h
 ·rintro rfl;simp
theorem aL.kS (x y:aL):((x.bh==y.bh)&&((x.aY==y.aY)&&((x.bz==y.bz)&&true)))=decide (x=y):=by
 rw[acU];simp only[Is,ack,acR,abH];constructor
 ·intro h;cases x;cases y;simp only[aL.mk.injEq];simpa using h
 ·rintro rfl;simp
theorem aq.kS (x y:aq):((x.fS==y.fS)&&((x.lE==y.lE)&&((x.fX==y.fX)&&true)))=decide (x=y):=by
 rw[acU];simp only[Is,ack,acR,abH];constructor
 ·intro h;cases x;cases y;simp only[aq.mk.injEq];simpa using h
 ·rintro rfl;simp
def G8:lS:=rf [(3,.int .i64),
 (4,.bool),
 (5,.int .u8),
 (9,.str),
 (22,.slice 5 1 1 [.int .u8 0]),
 (24,.slice 33 5 64 [.int .i64 0,.int .i64 0,.str [],.int .i64 0,.aF]),
 (25,.slice 72 2 32 [.str [],.str []]),
 (26,.slice 76 2 24 [.int .i64 0,.str []]),
 (28,.struct 3 [(0,1,false),(1,1,false),(2,1,false)] [.str [],.aF,.aF]),
 (31,.slice 104 8 96 [.bool false,.int .i64 0,.str [],.int .i64 0,.int .i64 0,.str [],.int .i64 0,.aF]),
 (33,.struct 5 [(0,1,false),(1,1,false),(2,1,false),(3,1,false),(4,1,false)] [.int .i64 0,.int .i64 0,.str [],.int .i64 0,.aF]),
 (40,.slice 80 5 64 [.int .i64 0,.int .i64 0,.str [],.int .i64 0,.aF]),
 (41,.slice 139 2 32 [.str [],.str []]),
 (42,.slice 141 2 24 [.int .i64 0,.str []]),
 (44,.struct 3 [(0,1,false),(1,1,false),(2,1,false)] [.str [],.aF,.aF]),
 (68,.struct 5 [(0,1,false),(1,3,true),(4,1,false)] [.aF,.str [],.aF,.aF,.int .i64 0]),
 (72,.struct 2 [(0,1,false),(1,1,false)] [.str [],.str []]),
 (76,.struct 2 [(0,1,false),(1,1,false)] [.int .i64 0,.str []]),
 (78,.slice 173 8 96 [.bool false,.int .i64 0,.str [],.int .i64 0,.int .i64 0,.str [],.int .i64 0,.aF]),
 (80,.struct 5 [(0,1,false),(1,1,false),(2,1,false),(3,1,false),(4,1,false)] [.int .i64 0,.int .i64 0,.str [],.int .i64 0,.aF]),
 (94,.struct 3 [(0,1,false),(1,1,false),(2,1,false)] [.aF,.int .i64 0,.int .i64 0]),
 (96,.slice 9 1 16 [.str []]),
 (100,.struct 3 [(0,1,false),(1,1,false),(2,1,false)] [.bool false,.int .i64 0,.str []]),
 (104,.struct 8 [(0,3,true),(3,5,true)] [.bool false,.int .i64 0,.str [],.int .i64 0,.int .i64 0,.str [],.int .i64 0,.aF]),
 (107,.slice 3 1 8 [.int .i64 0]),
 (122,.slice 100 3 32 [.bool false,.int .i64 0,.str []]),
 (139,.struct 2 [(0,1,false),(1,1,false)] [.str [],.str []]),
 (141,.struct 2 [(0,1,false),(1,1,false)] [.int .i64 0,.str []]),
 (158,.map 100 4 (.bool false)),
 (166,.struct 3 [(0,1,false),(1,1,false),(2,1,false)] [.str [],.int .i64 0,.bool false]),
 (171,.struct 3 [(0,1,false),(1,1,false),(2,1,false)] [.bool false,.int .i64 0,.str []]),
 (173,.struct 8 [(0,3,true),(3,5,true)] [.bool false,.int .i64 0,.str [],.int .i64 0,.int .i64 0,.str [],.int .i64 0,.aF])]
theorem NQ:df Tryz.prog G8:=WR aeV
theorem mixed:Tryz.prog.follows .mixedOrders=true:=by kernel_rfl
theorem cA {f:FuncId} {fn:Func} {c:Code} {args:List PV} {h:List ai} {R:PV->List ai->Prop} (hf:Tryz.prog.funcs[f]? =some fn) (hv:vc Tryz.prog G8 h.length c (Xd G8 fn.results.toList h.length R) (qc args) h) (a:fn.body=some c:=by rfl) (b:(fn.name== "runtime.NumGoroutine")=false:=by kernel_rfl) (d:Nat.ble args.length fn.ntmps=true:=by rfl) (e:codeOk fn.ntmps c=true:=by kernel_rfl):ACall Tryz.prog f args h R:=ACall.Xe NQ mixed hf a b _ _ _ d e hv
abbrev pI (x:Int):PV:=.int .i64 x
abbrev ID:=((Unit) ⊕ Int)
abbrev tN:=((Unit) ⊕ Bool)
abbrev Nr:=(ae×aH)
abbrev VJ:=(ae×aq)
abbrev Ij:=((Unit) ⊕ tN)
abbrev ty3:=(aB×Int×Bool×(List af))
abbrev XC:=((List UInt8)×Int×Int×Int×(List af))
abbrev Yf:=(ty3 ⊕ VJ)
abbrev ZD:=((List UInt8)×Int×Int×aB×(List ay)×(List az))
def IS (n:FuncId) (a:ae) (r:Bool):Prop:=ACall Tryz.prog n [.agg a.lit] [] (λres h=>res=.bool r/\h=[])
def P1 (n:FuncId) (a:aB) (r:aB):Prop:=ACall Tryz.prog n [.str a] [] (λres h=>res=.str r/\h=[])
def Sw (n:FuncId) (a:Int) (r:Bool):Prop:=ACall Tryz.prog n [.int .u8 a] [] (λres h=>res=.bool r/\h=[])
def Xy (n:FuncId) (a:Int) (b:Int) (r:Int):Prop:=ACall Tryz.prog n [pI a,pI b] [] (λres h=>res=pI r/\h=[])
def Th (n:FuncId) (a:Int) (r:aB):Prop:=ACall Tryz.prog n [pI a] [] (λres h=>res=.str r/\h=[])
def TU (n:FuncId) (a:aB) (r:Bool):Prop:=ACall Tryz.prog n [.str a] [] (λres h=>res=.bool r/\h=[])
def Xz (n:FuncId) (a:aB) (r:Int×Bool):Prop:=ACall Tryz.prog n [.str a] [] (λres h=>res=.eC [pI r.1,.bool r.2]/\h=[])
def sg7 (n:FuncId) (a:aq) (b:Int) (r:ae×aq) (ax:Nat):Prop:=ACall Tryz.prog n [.aE 0 ax 0 0,pI b] [.row ax 3 1 166 (λ_=>a.lit)] (λres h=>res=.agg r.1.lit/\h=[.row ax 3 1 166 (λ_=>r.2.lit)])
def ZP (n:FuncId) (a:ae) (b:ae) (r:Int):Prop:=ACall Tryz.prog n [.agg a.lit,.agg b.lit] [] (λres h=>res=pI r/\h=[])
def Pd (n:FuncId) (a:aA) (r:aB×aA) (ax:Nat):Prop:=ACall Tryz.prog n [.aE 0 ax 0 0] [.row ax 3 1 94 (λ_=>a.lit)] (λres h=>res=.str r.1/\h=[.row ax 3 1 94 (λ_=>r.2.lit)])
def Pj (n:FuncId) (a:ae) (r:Int):Prop:=ACall Tryz.prog n [.agg a.lit] [] (λres h=>res=pI r/\h=[])
def Pz (n:FuncId) (a:aA) (r:ae×aA) (ax:Nat):Prop:=ACall Tryz.prog n [.aE 0 ax 0 0] [.row ax 3 1 94 (λ_=>a.lit)] (λres h=>res=.agg r.1.lit/\h=[.row ax 3 1 94 (λ_=>r.2.lit)])
def PY (n:FuncId) (a:aB) (r:Int):Prop:=ACall Tryz.prog n [.str a] [] (λres h=>res=pI r/\h=[])
def S6 (n:FuncId) (a:Int):Prop:=ACall Tryz.prog n [pI a] [] (λres h=>res=.agg [pI 2,pI a,.str [],pI 0,.aF]/\h=[])
def S7 (n:FuncId) (a:aB):Prop:=ACall Tryz.prog n [.str a] [] (λres h=>res=.agg [pI 3,pI 0,.str a,pI 0,.aF]/\h=[])
def S8 (n:FuncId):Prop:=ACall Tryz.prog n [] [] (λres h=>res=.agg [pI 4,pI 0,.str [],pI 0,.aF]/\h=[])
def Tc (n:FuncId) (a:aA) (r:Int×aA) (ax:Nat):Prop:=ACall Tryz.prog n [.aE 0 ax 0 0] [.row ax 3 1 94 (λ_=>a.lit)] (λres h=>res=pI r.1/\h=[.row ax 3 1 94 (λ_=>r.2.lit)])
def TH (n:FuncId) (a:List UInt8) (c:ae) (r:(List UInt8)) (ax:Nat):Prop:=ACall Tryz.prog n [.own 0 ax 0 a.length,.agg c.lit] [.row ax 1 a.length 5 (row cB a)] (λres h=>∃b:Nat,res=.own 0 b 0 r.length/\h=[.row b 1 r.length 5 (row cB r)])
def TX (n:FuncId) (a:av) (r:av):Prop:=ACall Tryz.prog n [.agg a.lit] [] (λres h=>res=.agg [.str r.bc,.own 0 0 0 r.ak.length,.own 1 0 0 r.ah.length]/\h=[.row 0 2 r.ak.length 72 (row ay.cells r.ak),.row 0 2 r.ah.length 76 (row az.cells r.ah)])
theorem np {p:Prop} (h:p:=by exact⟨(ob rfl ⟨.l,.s,.l,.l,.i,⟨⟩⟩),⟨⟩⟩):p:=h
theorem nz {p:Prop} (h:p:=by exact(.eg ⟨.i,.i,.s,.i,.z,⟨⟩⟩)):p:=h
theorem Il {p:Prop} (h:p:=by exact⟨(Jf rfl),(nb rfl ⟨.i,.i,.s,.i,.aF,⟨⟩⟩),(nb rfl ⟨.i,.i,.s,.i,.o,⟨⟩⟩),nw,⟨⟩⟩):p:=h
theorem rZ {p:Prop} (h:p:=by exact⟨(ob rfl ⟨.l,.i,.i,⟨⟩⟩),⟨⟩⟩):p:=h
theorem uN {p:Prop} (h:p:=by exact(.eg ⟨.i,.i,.s,.i,.l,⟨⟩⟩)):p:=h
theorem GY {p:Prop} (h:p:=by exact⟨(Jf rfl),(nb rfl ⟨.i,.i,.s,.i,.aF,⟨⟩⟩),⟨⟩⟩):p:=h
theorem yH {p:Prop} (h:p:=by exact⟨(ob rfl ⟨.s,.i,.b,⟨⟩⟩),⟨⟩⟩):p:=h
theorem nY {p:Prop} (h:p:=by exact⟨(sr rfl),⟨⟩⟩):p:=h
theorem Ss {p:Prop} (h:p:=by exact⟨(Jf rfl),(nb rfl ⟨.i,.i,.s,.i,.aF,⟨⟩⟩),(nb rfl ⟨.i,.i,.s,.i,.o,⟨⟩⟩),nw,(sr rfl),⟨⟩⟩):p:=h
theorem LJ {p:Prop} (h:p:=by exact⟨(Jf rfl),(nb rfl ⟨.s,.aF,.aF,⟨⟩⟩),(sr rfl),⟨⟩⟩):p:=h
theorem zg {p:Prop} (h:p:=by exact⟨(Jf rfl),(nb rfl ⟨.i,.i,.s,.i,.aF,⟨⟩⟩),nw,⟨⟩⟩):p:=h
theorem L8 {p:Prop} (h:p:=by exact⟨(nb rfl ⟨.i,.i,.s,.i,.aF,⟨⟩⟩),(nb rfl ⟨.i,.i,.s,.i,.o,⟨⟩⟩),nw,⟨⟩⟩):p:=h
theorem sf {p:Prop} (h:p:=by exact(.eg ⟨.i,.i,.s,.i,.r,⟨⟩⟩)):p:=h
theorem xa {p:Prop} (h:p:=by exact(.gZ ⟨.eg ⟨.s,.r,.r,⟨⟩⟩,.b,⟨⟩⟩)):p:=h
theorem Nt {p:Prop} (h:p:=by exact⟨(sr rfl),(nb rfl ⟨.i,.i,.s,.i,.aF,⟨⟩⟩),(nb rfl ⟨.s,.aF,.aF,⟨⟩⟩),(sr rfl),(sr rfl),⟨⟩⟩):p:=h
theorem yW {p:Prop} (h:p:=by exact(.gZ ⟨.eg ⟨.s,.r,.r,⟨⟩⟩,.i,⟨⟩⟩)):p:=h
theorem r8 {p:Prop} (h:p:=by exact⟨(sr rfl),(sr rfl),⟨⟩⟩):p:=h
theorem jQ {p:Prop} (h:p:=by exact⟨.s,.b,⟨⟩⟩):p:=h
theorem ij {p:Prop} (h:p:=by exact⟨nw,⟨⟩⟩):p:=h
theorem Ns {p:Prop} (h:p:=by exact(.gZ ⟨.eg ⟨.i,.i,.s,.i,.z,⟨⟩⟩,.eg ⟨.s,.l,.l,⟨⟩⟩,.i,⟨⟩⟩)):p:=h
theorem PD {p:Prop} (h:p:=by exact⟨(Jf rfl),(nb rfl ⟨.i,.i,.s,.i,.aF,⟨⟩⟩),(nb rfl ⟨.i,.i,.s,.i,.g,⟨⟩⟩),gh,⟨⟩⟩):p:=h
theorem RF {p:Prop} (h:p:=by exact⟨(sr rfl),(nb rfl ⟨.i,.i,.s,.i,.aF,⟨⟩⟩),(nb rfl ⟨.s,.aF,.aF,⟨⟩⟩),⟨⟩⟩):p:=h
theorem Dw {p:Prop} (h:p:=by exact(.eg ⟨.i,.i,.s,.i,.aF,⟨⟩⟩)):p:=h
theorem vt {p:Prop} (h:p:=by exact(.gZ ⟨.i,.b,⟨⟩⟩)):p:=h
theorem Hi {p:Prop} (h:p:=by exact(.gZ ⟨.eg ⟨.s,.l,.l,⟨⟩⟩,.i,⟨⟩⟩)):p:=h
theorem Tp {p:Prop} (h:p:=by exact⟨(nb rfl ⟨.i,.i,.s,.i,.aF,⟨⟩⟩),(nb rfl ⟨.i,.i,.s,.i,.g,⟨⟩⟩),gh,⟨⟩⟩):p:=h
theorem AS {p:Prop} (h:p:=by exact⟨.s,.o,.i,.i,.b,⟨⟩⟩):p:=h
theorem P7 {p:Prop} (h:p:=by exact⟨(nb rfl ⟨.s,.aF,.aF,⟨⟩⟩),(nb rfl ⟨.s,.o,.o,⟨⟩⟩),nw,nw,⟨⟩⟩):p:=h
theorem Mx {p:Prop} (h:p:=by exact⟨(nb rfl ⟨.s,.aF,.aF,⟨⟩⟩),(sr rfl),nw,⟨⟩⟩):p:=h
theorem Nq {p:Prop} (h:p:=by exact(.gZ ⟨.eg ⟨.i,.i,.s,.i,.z,⟨⟩⟩,.b,⟨⟩⟩)):p:=h
theorem GZ {p:Prop} (h:p:=by exact(.eg ⟨.i,.i,.s,.i,.g,⟨⟩⟩)):p:=h
theorem VF {p:Prop} (h:p:=by exact⟨.l,(.W0 ⟨⟨rfl,⟨_,_,_,_,rfl⟩,⟨_,_,_,_,rfl,Nat.zero_lt_one⟩⟩,trivial⟩),.i,.i,⟨⟩⟩):p:=h
theorem B4 {p:Prop} (h:p:=by exact⟨.p,.i,.p,.p,.i,⟨⟩⟩):p:=h
theorem KN {p:Prop} (h:p:=by exact⟨(sr rfl),(sr rfl),(sr rfl),⟨⟩⟩):p:=h
theorem VM {p:Prop} (h:p:=by exact⟨(Jf rfl),(nb rfl ⟨.i,.i,.s,.i,.aF,⟨⟩⟩),(nb rfl ⟨.i,.i,.s,.i,.aF,⟨⟩⟩),⟨⟩⟩):p:=h
theorem VI {p:Prop} (h:p:=by exact⟨(nb rfl ⟨.s,⟨⟩⟩),(nb rfl ⟨.s,.aF,.aF,⟨⟩⟩),(nb rfl ⟨.s,.o,.o,⟨⟩⟩),nw,nw,⟨⟩⟩):p:=h
theorem AM {p:Prop} (h:p:=by exact⟨.o,.l,.i,.i,⟨⟩⟩):p:=h
theorem VD {p:Prop} (h:p:=by exact⟨dd,nw,(nb rfl ⟨.i,.i,.s,.i,.aF,⟨⟩⟩),(nb rfl ⟨.i,.i,.s,.i,.o,⟨⟩⟩),nw,⟨⟩⟩):p:=h
theorem wK {p:Prop} (h:p:=by exact⟨.p,.i,.b,⟨⟩⟩):p:=h
theorem w6 {p:Prop} (h:p:=by exact⟨.s,.o,.i,⟨⟩⟩):p:=h
theorem G4 {p:Prop} (h:p:=by exact⟨.p,.i,.p,.p,.i,.p,⟨⟩⟩):p:=h
theorem Np {p:Prop} (h:p:=by exact(.gZ ⟨.eg ⟨.b,.i,.s,⟨⟩⟩,.b,⟨⟩⟩)):p:=h
theorem Mf {p:Prop} (h:p:=by exact(.eg ⟨.i,.i,.s,.i,.o,⟨⟩⟩)):p:=h
theorem tP {p:Prop} (h:p:=by exact⟨.s,.i,⟨⟩⟩):p:=h
theorem Iy {p:Prop} (h:p:=by exact(.eg ⟨.b,.i,.s,⟨⟩⟩)):p:=h
theorem L7 {p:Prop} (h:p:=by exact⟨.p,.p,.l,.i,.i,⟨⟩⟩):p:=h
theorem Me {p:Prop} (h:p:=by exact⟨(ob rfl ⟨.l,.i,.i,⟨⟩⟩),gh,⟨⟩⟩):p:=h
theorem Mg {p:Prop} (h:p:=by exact⟨(ob rfl ⟨.l,.i,.i,⟨⟩⟩),nw,⟨⟩⟩):p:=h
theorem DX {p:Prop} (h:p:=by exact⟨.p,.p,.p,.i,⟨⟩⟩):p:=h
theorem HY {p:Prop} (h:p:=by exact⟨(ob rfl ⟨.s,⟨⟩⟩),⟨⟩⟩):p:=h
theorem TD {p:Prop} (h:p:=by exact⟨(Jf rfl),(nb rfl ⟨.i,.i,.s,.i,.aF,⟨⟩⟩),(sr rfl),⟨⟩⟩):p:=h
theorem Cc {p:Prop} (h:p:=by exact⟨.p,.p,.b,⟨⟩⟩):p:=h
theorem B9 {p:Prop} (h:p:=by exact⟨.s,.s,.i,⟨⟩⟩):p:=h
theorem Hd {p:Prop} (h:p:=by exact(.gZ ⟨.s,.i,⟨⟩⟩)):p:=h
theorem BY {p:Prop} (h:p:=by exact⟨.p,.i,⟨⟩⟩):p:=h
theorem GX {p:Prop} (h:p:=by exact⟨.p,.p,.i,.b,⟨⟩⟩):p:=h
theorem I3 {p:Prop} (h:p:=by exact⟨.p,.p,.p,.p,.p,⟨⟩⟩):p:=h
theorem Nn {p:Prop} (h:p:=by exact⟨.o,.p,.i,.l,.i,.i,⟨⟩⟩):p:=h
theorem Jq {p:Prop} (h:p:=by exact(.gZ ⟨.s,.b,⟨⟩⟩)):p:=h
theorem D6 {p:Prop} (h:p:=by exact⟨(Jf rfl),⟨⟩⟩):p:=h
theorem tS {p:Prop} (h:p:=by exact⟨.p,⟨⟩⟩):p:=h
theorem GU {p:Prop} (h:p:=by exact⟨.s,.i,.i,⟨⟩⟩):p:=h
theorem DK {p:Prop} (h:p:=by exact⟨.p,.p,⟨⟩⟩):p:=h
theorem wX {p:Prop} (h:p:=by exact⟨.s,⟨⟩⟩):p:=h
theorem Mo {p:Prop} (h:p:=by exact(.gZ ⟨.i,.i,⟨⟩⟩)):p:=h
theorem Jz {p:Prop} (h:p:=by exact⟨.p,.p,.s,⟨⟩⟩):p:=h
theorem AO {p:Prop} (h:p:=by exact⟨.o,⟨⟩⟩):p:=h
theorem BW {p:Prop} (h:p:=by exact⟨.i,⟨⟩⟩):p:=h
theorem B7 {p:Prop} (h:p:=by exact⟨od,⟨⟩⟩):p:=h
end Go.Am
