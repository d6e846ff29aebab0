/- Texts of the proof, joined and shortened. -/
import Derived.Test.YtmkelbnaodipcaaDoorPk3
import Derived.Test.YtmkelbnaodipcaaDoorProg
set_option linter.unusedVariables false
set_option linter.unusedSimpArgs false
namespace Go.Am
open Go Go.RowKit
def iS (σ:Nat->Nat):PV->PV
 | .own id gen off len=>.own (σ id) gen off len
 | .aH id gen i off=>.aH (σ id) gen i off
 | .gS id=>.gS (σ id)
 | .jK f bC=>.jK f (ko σ bC)
 | v=>v
def rS (σ:Nat->Nat):PV->PV
 | .agg cs=>.agg (cs.map (iS σ))
 | v=>iS σ v
def zO (σ:Nat->Nat):PV->PV
 | .db vs=>.db (vs.map (rS σ))
 | v=>rS σ v
def ll (σ:Nat->Nat):au->au
 | .row g sz n e f=>.row g sz n e (λi=>(f i).map (iS σ))
 | .dead=>.dead
theorem sF {σ:Nat->Nat} {a:PV} (h:eA (iS σ a)=true):iS σ a=a:=by cases a<;>first | rfl | cases h
theorem sG {σ:Nat->Nat} {a:PV} (h:eA a=true):iS σ a=a:=by cases a<;>first | rfl | cases h
section
variable {P:Program}{T:ij}{μ μ0 μ1:Mu}{h h0 h1 hc:List au}{S S0 S1:Nat->Prop}{w w':World}{σ:Nat->Nat}
theorem Cm {pv:PV} {v:Value} (m:∀j,(∃g sz n e f,h0[j]? =some (au.row g sz n e f)/\(∃l,h1[σ j]? =some (au.row g sz n e l))/\μ1 (σ j)=μ0 j)\/(h0[j]? =some au.dead/\h1[σ j]? =some au.dead)\/h0[j]? =none)
  (d:∀b,S0 b->S1 b) (hc:bf μ0 h0 S0 w pv v):bf μ1 h1 S1 w (iS σ pv) v:=by
 have o:∀(id gen i off:Nat) (v:Value),bh μ0 h0 w id gen i off v->bh μ1 h1 w (σ id) gen i off v:=λid gen i off v hc=>by
  unfold bh at hc ⊢;obtain⟨q1,q2⟩:=hc;refine⟨q1,?_⟩;rcases m id with⟨g,sz,n,e,f,a,⟨l,c⟩,h⟩ | ⟨a,c⟩ | a
  ·rw[a]at q2;rw[c];show gen<=g/\_;rw[h];exact q2
  ·rw[c];trivial
  ·rw[a]at q2;exact q2.elim
 cases pv with
 | own id gen off len=>
  have hc:aN μ0 h0 w id gen off len v:=hc;show aN μ1 h1 w (σ id) gen off len v;unfold aN at hc ⊢;obtain⟨q1,q2⟩:=hc;refine⟨q1,?_⟩;rcases m id with⟨g,sz,n,e,f,a,⟨l,c⟩,h⟩ | ⟨a,c⟩ | a
  ·rw[a]at q2;rw[c];show gen<=g/\_;rw[h];exact q2
  ·rw[c];trivial
  ·rw[a]at q2;exact q2.elim
 | aH id gen i off=>exact o _ _ _ _ _ hc
 | jK f bC=>exact kN.map (O:=λid g u=>bh μ1 h1 w id g 0 0 u) (kN.mono (show iQ μ0 h0 w f bC v from hc) (λid g u hu=>o id g 0 0 u hu))
 | gS id=>
  have hc:cQ μ0 h0 w id v:=hc;show cQ μ1 h1 w (σ id) v;unfold cQ at hc ⊢;obtain⟨q1,q2⟩:=hc;refine⟨q1,?_⟩;rcases m id with⟨g,sz,n,e,f,a,⟨l,c⟩,h⟩ | ⟨a,c⟩ | a
  ·rw[a]at q2;rw[c];obtain⟨b,base,p,q⟩:=q2;exact⟨b,base,h.trans p,q⟩
  ·rw[c];trivial
  ·rw[a]at q2;exact q2.elim
 | dA=>exact hc
 | aG sz n e f F=>exact hc
 | agg cs=>exact(show False from hc).elim
 | db cs=>exact(show False from hc).elim
 | int k n=>exact aI.mono (λ_ _=>rfl) d hc
 | bool b=>exact aI.mono (λ_ _=>rfl) d hc
 | str s=>exact aI.mono (λ_ _=>rfl) d hc
 | aD=>exact aI.mono (λ_ _=>rfl) d hc
 | dx=>exact aI.mono (λ_ _=>rfl) d hc
 | cP sz n f=>exact aI.mono (λ_ _=>rfl) d hc
 | cN cs=>exact aI.mono (λ_ _=>rfl) d hc
 | fn f=>exact aI.mono (λ_ _=>rfl) d hc
theorem di {pv:PV} {v:Value} (a:∀pv v,bf μ0 h0 S0 w pv v->bf μ1 h1 S1 w (iS σ pv) v) (hc:dP μ0 h0 S0 w pv v):dP μ1 h1 S1 w (rS σ pv) v:=by
 cases pv with
 | agg cs=>
  obtain⟨vs,q1,q2,q3⟩:=hc;refine⟨vs,q1,by simpa using q2,λj pv hj=>?_⟩;rw[SL]at hj;cases hx:cs[j]? with
  | none=>rw[hx]at hj;cases hj
  | some c=>
   rw[hx]at hj;injection hj with hj;subst hj;obtain⟨u,d,g⟩:=q3 j c hx;exact⟨u,d,a _ _ g⟩
 | dA=>trivial
 | aG sz n e f F=>exact a (.aG sz n e f F) v hc
 | db cs=>exact(show False from hc).elim
 | own id gen off len=>exact a (.own id gen off len) v hc
 | aH id gen i off=>exact a (.aH id gen i off) v hc
 | gS id=>exact a (.gS id) v hc
 | jK f bC=>exact a (.jK f bC) v hc
 | int k n=>exact a (.int k n) v hc
 | bool b=>exact a (.bool b) v hc
 | str s=>exact a (.str s) v hc
 | aD=>exact a .aD v hc
 | dx=>exact a .dx v hc
 | cP sz n f=>exact a (.cP sz n f) v hc
 | cN cs=>exact a (.cN cs) v hc
 | fn f=>exact a (.fn f) v hc
theorem Cn {pv:PV} {v:Value} (a:∀pv v,bf μ0 h0 S0 w pv v->bf μ1 h1 S1 w (iS σ pv) v) (hc:aX μ0 h0 S0 w pv v):aX μ1 h1 S1 w (zO σ pv) v:=by
 cases pv with
 | db cs=>
  obtain⟨vs,q1,q2,q3⟩:=hc;refine⟨vs,q1,by simpa using q2,λj pv hj=>?_⟩;rw[SL]at hj;cases hx:cs[j]? with
  | none=>rw[hx]at hj;cases hj
  | some c=>
   rw[hx]at hj;injection hj with hj;subst hj;obtain⟨u,d,g⟩:=q3 j c hx;exact⟨u,d,di a g⟩
 | agg cs=>exact di (pv:=.agg cs) a hc
 | dA=>trivial
 | aG sz n e f F=>exact di (pv:=.aG sz n e f F) a hc
 | own id gen off len=>exact di (pv:=.own id gen off len) a hc
 | aH id gen i off=>exact di (pv:=.aH id gen i off) a hc
 | gS id=>exact di (pv:=.gS id) a hc
 | jK f bC=>exact di (pv:=.jK f bC) a hc
 | int k n=>exact di (pv:=.int k n) a hc
 | bool b=>exact di (pv:=.bool b) a hc
 | str s=>exact di (pv:=.str s) a hc
 | aD=>exact di (pv:=.aD) a hc
 | dx=>exact di (pv:=.dx) a hc
 | cP sz n f=>exact di (pv:=.cP sz n f) a hc
 | cN cs=>exact di (pv:=.cN cs) a hc
 | fn f=>exact di (pv:=.fn f) a hc
structure I2 (σ:Nat->Nat) (m:Nat) (h:List au):Prop where
 lt:∀j,j<m->σ j<h.length
 new:∀j,m<=j->σ j=h.length+(j - m)
 inj:∀i j,i<m->j<m->σ i=σ j->i=j
theorem I2.OU {m:Nat} (hs:I2 σ m h) {i j:Nat} (he:σ i=σ j):i=j:=by
 rcases S5 i m with hi | hi
 ·rcases S5 j m with hj | hj
  ·exact hs.inj i j hi hj he
  ·have:=hs.lt i hi;have:=hs.new j hj;omega
 ·rcases S5 j m with hj | hj
  ·have:=hs.lt j hj;have:=hs.new i hi;omega
  ·have:=hs.new i hi;have:=hs.new j hj;omega
structure Fv (σ:Nat->Nat) (h h0 h':List au):Prop where
 xA:∀id,(∀j,j<h0.length->σ j≠id)->h'[id]? =h[id]?
 Dq:∀j o,h0[j]? =some o->h'[σ j]? =some (ll σ o)
 len:h.length<=h'.length
def qN (μ:Mu) (σ:Nat->Nat) (m:Nat):Mu:=λj=>if j<m then μ (σ j)else none
open Classical in
noncomputable def Co (μ:Mu) (σ:Nat->Nat) (m:Nat) (μ0:Mu):Mu:=λid=>if hx:∃j,j<m/\σ j=id then μ0 (Classical.choose hx)else μ id
theorem Em {m:Nat} (a:∀i j,σ i=σ j->i=j) {j:Nat} (hj:j<m):Co μ σ m μ0 (σ j)=μ0 j:=by
 have hx:∃i,i<m/\σ i=σ j:=⟨j,hj,rfl⟩;unfold Co;rw[dif_pos hx,a _ _ (Classical.choose_spec hx).2]
theorem ug {m id:Nat} (a:∀j,j<m->σ j≠id):Co μ σ m μ0 id=μ id:=by
 unfold Co;rw[dif_neg];rintro⟨j,h1,h2⟩;exact a j h1 h2
theorem cD (r:I2 σ hc.length h) (p:∀j o,hc[j]? =some o->h[σ j]? =some (ll σ o)) {pv:PV} {v:Value} (a:bf μ h S w (iS σ pv) v):bf (qN μ σ hc.length) hc S w pv v:=by
 have get:∀id,(∃g sz n e f,hc[id]? =some (au.row g sz n e f)/\h[σ id]? =some (ll σ (au.row g sz n e f))/\qN μ σ hc.length id=μ (σ id))\/(hc[id]? =some au.dead/\h[σ id]? =some au.dead)\/h[σ id]? =none:=λid=>by
  cases m:hc[id]? with
  | none=>
   refine .inr (.inr (SZ ?_));have t:hc.length<=id:=List.getElem?_eq_none_iff.1 m;have:=r.new id t;omega
  | some o=>
   have x:=(an.1 m).1;cases o with
   | dead=>exact .inr (.inl ⟨rfl,p id _ m⟩)
   | row g sz n e f=>exact .inl ⟨g,sz,n,e,f,rfl,p id _ m,by unfold qN;rw[An x]⟩
 have q:∀(id gen i off:Nat) (v:Value),bh μ h w (σ id) gen i off v->bh (qN μ σ hc.length) hc w id gen i off v:=λid gen i off v a=>by
  unfold bh at a ⊢;obtain⟨q1,q2⟩:=a;refine⟨q1,?_⟩;rcases get id with⟨g,sz,n,e,f,c,d,l⟩ | ⟨c,d⟩ | c
  ·rw[d]at q2;rw[c];show gen<=g/\_;rw[l];exact q2
  ·rw[c];trivial
  ·rw[c]at q2;exact q2.elim
 cases pv with
 | own id gen off len=>
  have a:aN μ h w (σ id) gen off len v:=a;show aN _ hc w id gen off len v;unfold aN at a ⊢;obtain⟨q1,q2⟩:=a;refine⟨q1,?_⟩;rcases get id with⟨g,sz,n,e,f,c,d,l⟩ | ⟨c,d⟩ | c
  ·rw[d]at q2;rw[c];show gen<=g/\_;rw[l];exact q2
  ·rw[c];trivial
  ·rw[c]at q2;exact q2.elim
 | aH id gen i off=>exact q _ _ _ _ _ a
 | jK f bC=>exact kN.mono (kN.KR (show iQ μ h w f (ko σ bC) v from a)) (λid g u hu=>q _ _ _ _ _ hu)
 | gS id=>
  have a:cQ μ h w (σ id) v:=a;show cQ _ hc w id v;unfold cQ at a ⊢;obtain⟨q1,q2⟩:=a;refine⟨q1,?_⟩;rcases get id with⟨g,sz,n,e,f,c,d,l⟩ | ⟨c,d⟩ | c
  ·rw[d]at q2;rw[c];obtain⟨b,base,y,z⟩:=q2;exact⟨b,base,l.trans y,z⟩
  ·rw[c];trivial
  ·rw[c]at q2;exact q2.elim
 | dA=>exact a
 | aG sz n e f F=>exact a
 | agg cs=>exact(show False from a).elim
 | db cs=>exact(show False from a).elim
 | int k n=>exact a
 | bool b=>exact a
 | str s=>exact a
 | aD=>exact a
 | dx=>exact a
 | cP sz n f=>exact a
 | cN cs=>exact a
 | fn f=>exact a
theorem zP (c:I2 σ hc.length h) (d:∀j o,hc[j]? =some o->h[σ j]? =some (ll σ o)) {pv:PV} {v:Value} (a:dP μ h S w (rS σ pv) v):dP (qN μ σ hc.length) hc S w pv v:=by
 cases pv with
 | agg cs=>
  obtain⟨vs,q1,q2,q3⟩:=a;refine⟨vs,q1,by simpa using q2,λj pv hj=>?_⟩;obtain⟨u,g,l⟩:=q3 j (iS σ pv) (by rw[SL,hj];rfl);exact⟨u,g,cD c d l⟩
 | dA=>trivial
 | aG sz n e f F=>exact cD (μ:=μ) (S:=S) (w:=w) (pv:=.aG sz n e f F) c d a
 | db cs=>exact(show False from a).elim
 | own id gen off len=>exact cD (μ:=μ) (S:=S) (w:=w) (pv:=.own id gen off len) c d a
 | aH id gen i off=>exact cD (μ:=μ) (S:=S) (w:=w) (pv:=.aH id gen i off) c d a
 | gS id=>exact cD (μ:=μ) (S:=S) (w:=w) (pv:=.gS id) c d a
 | jK f bC=>exact cD (μ:=μ) (S:=S) (w:=w) (pv:=.jK f bC) c d a
 | int k n=>exact cD (μ:=μ) (S:=S) (w:=w) (pv:=.int k n) c d a
 | bool b=>exact cD (μ:=μ) (S:=S) (w:=w) (pv:=.bool b) c d a
 | str s=>exact cD (μ:=μ) (S:=S) (w:=w) (pv:=.str s) c d a
 | aD=>exact cD (μ:=μ) (S:=S) (w:=w) (pv:=.aD) c d a
 | dx=>exact cD (μ:=μ) (S:=S) (w:=w) (pv:=.dx) c d a
 | cP sz n f=>exact cD (μ:=μ) (S:=S) (w:=w) (pv:=.cP sz n f) c d a
 | cN cs=>exact cD (μ:=μ) (S:=S) (w:=w) (pv:=.cN cs) c d a
 | fn f=>exact cD (μ:=μ) (S:=S) (w:=w) (pv:=.fn f) c d a
theorem Cp {c:PV} {sz n:Nat} {e:TypeId} {f:Nat->List PV} {F:Nat->Prop} (hc:iS σ c=.aG sz n e f F):c=.aG sz n e f F:=by cases c<;>first | exact hc | cases hc
theorem En {c:PV} (h:cg c=false):cg (iS σ c)=false:=by cases c<;>first | rfl | cases h
theorem ACall.Dq {f:FuncId} {args jr:List PV} {R:PV->List au->Prop} (hA:ACall P f args hc R) (h:List au) (iT:I2 σ hc.length h) (I:∀j o,hc[j]? =some o->h[σ j]? =some (ll σ o))
  (kE:jr=args.map (rS σ)) (OV:List au->List au) (OW:∀h0,hc.length<=h0.length->Fv σ h h0 (OV h0)):
  ACall P f jr h (λres h'=>∃r0 h0,R r0 h0/\res=zO σ r0/\h'=OV h0):=by
 refine⟨hA.1,λw vs μ S hH A dp ha=>?_⟩;subst kE;have xB:∀i j,σ i=σ j->i=j:=λi j=>iT.OU
 have Eo:∀b,qD (qN μ σ hc.length) hc b->qD μ h b:=λb ⟨j,g,sz,n,e,f,base,q1,q2⟩=>by
  have N:=(an.1 q1).1;unfold qN at q2;rw[An N]at q2;exact⟨σ j,g,sz,n,e,_,base,I j _ q1,q2⟩
 have zQ:∀j x y b,bN hc j x y b->bN h (σ j) x y b:=λj x y b ⟨g,sz,n,e,f,a8,n',V,f',F',q1,q2,q3,q4⟩=>⟨g,sz,n,e,_,a8,n',V,f',F',I j _ q1,q2,by
  show((f x).map (iS σ))[y]? =_;rw[SL,q3];rfl,q4⟩
 have Cq:∀b,bA (qN μ σ hc.length) hc b->bA μ h b/\True:=λb hb=>by
  rcases hb with hb | ⟨x,y,z,hb⟩
  ·exact⟨.inl (Eo b hb),trivial⟩
  ·exact⟨.inr ⟨_,_,_,zQ _ _ _ _ hb⟩,trivial⟩
 have Rp:bu (qN μ σ hc.length) hc S w:=λj g sz n e f hj=>by
  have N:=(an.1 hj).1;obtain⟨q1,q2⟩:=hH (σ j) _ _ _ _ _ (I j _ hj);refine⟨λi hi=>by simpa using q1 i hi,?_⟩;have hm:qN μ σ hc.length j=μ (σ j):=by unfold qN;rw[An N]
  rw[hm];cases O:μ (σ j)with
  | none=>rw[O]at q2;exact q2
  | some p=>
   obtain⟨b,base⟩:=p;rw[O]at q2;obtain⟨o,m,d⟩:=q2;refine⟨o,m,?_⟩;cases o with
   | cells cur V z=>
    obtain⟨W,x2,x3,B⟩:=d;refine⟨W,x2,x3,λi k pv hi hk=>?_⟩;obtain⟨u,s1,T⟩:=B i k (iS σ pv) hi (by rw[SL,hk];rfl);refine⟨u,s1,?_⟩;cases hx:cg pv with
    | false=>exact(cD iT I T.c).k hx
    | true=>
     cases pv with
     | aG X Y C Z F2=>exact T
     | _=>cases hx
   | map es c=>
    obtain⟨W,B⟩:=d;refine⟨W,λi hi=>?_⟩;obtain⟨kp,vp,en,y1,y2,y3,y4⟩:=B i hi;refine⟨kp,vp,en,?_,y2,y3,y4⟩;have y1:(f i).map (iS σ)=[kp,vp]:=y1;generalize f i=l at y1;rcases l with _ | ⟨a,_ | ⟨b,_ | ⟨c3,l3⟩⟩⟩<;>simp at y1;obtain⟨rfl,rfl⟩:=y1;rw[sF y2,sF y3]
   | _=>exact d.elim
 have Rq:kl (qN μ σ hc.length) hc S w:=⟨λb hb=>A.apart b (Cq b hb).1,λb hb=>A.lt b (Cq b hb).1,A.slt,λi j gi xo ni ei fi gj dQ nj ej fj b o o' hi hj eY eN=>by
  have Rr:=(an.1 hi).1;have zR:=(an.1 hj).1;unfold qN at eY eN;rw[An Rr]at eY;rw[An zR]at eN;exact xB _ _ (A.inj _ _ _ _ _ _ _ _ _ _ _ _ _ _ _ (I i _ hi) (I j _ hj) eY eN),A.known,λb hb x y z hx=>A.hv b (Eo b hb) _ _ _ (zQ _ _ _ _ hx),λb x y z x' y' z' hx jb=>by
  obtain⟨J,C,Q⟩:=A.hh b _ _ _ _ _ _ (zQ _ _ _ _ hx) (zQ _ _ _ _ jb);exact⟨xB _ _ J,C,Q⟩⟩
 refine(hA.2 w vs _ S Rp Rq Vc (λj pv hj=>?_)).mono ?_
 ·obtain⟨v,q1,q2⟩:=ha j (rS σ pv) (by rw[SL,hj];rfl);exact⟨v,q1,zP iT I q2⟩
 ·rintro e w' ⟨v,r0,h0,μ0,S0,he,hR,hv,Fw,uH,s⟩;have hlen:hc.length<=h0.length:=s.len;have H:=OW h0 hlen;obtain⟨h',Fx⟩:∃h',h'=OV h0:=⟨_,rfl⟩;rw[<-Fx]at H;have L0:∀j,j<h0.length->Co μ σ h0.length μ0 (σ j)=μ0 j:=λj hj=>Em xB hj
  have inv:∀id o,h'[id]? =some o->(∃j U,σ j=id/\h0[j]? =some U/\o=ll σ U/\Co μ σ h0.length μ0 id=μ0 j)\/((∀j,j<h0.length->σ j≠id)/\h[id]? =some o/\Co μ σ h0.length μ0 id=μ id):=λid o hid=>by
   by_cases hx:∃j,j<h0.length/\σ j=id
   ·obtain⟨j,hj,rfl⟩:=hx;have:=H.Dq j _ (As hj);rw[this]at hid;injection hid with hid;exact .inl ⟨j,_,rfl,As hj,hid.symm,L0 j hj⟩
   ·have E:∀j,j<h0.length->σ j≠id:=λj hj he=>hx ⟨j,hj,he⟩;rw[H.xA id E]at hid;exact .inr ⟨E,hid,ug E⟩
  have apart:∀id g sz n e f b base,(∀j,j<h0.length->σ j≠id)->h[id]? =some (au.row g sz n e f)->μ id=some (b,base)->¬bA (qN μ σ hc.length) hc b:=λid g sz n e f b base E hid hm K=>by
   rcases K with⟨j,gj,dQ,nj,ej,fj,bj,q1,q2⟩ | ⟨x,y,z,hx⟩;rotate_left
   ·exact A.hv b ⟨id,g,sz,n,e,f,base,hid,hm⟩ _ _ _ (zQ _ _ _ _ hx)
   have N:=(an.1 q1).1;unfold qN at q2;rw[An N]at q2;exact E j UN (A.inj _ _ _ _ _ _ _ _ _ _ _ _ _ _ _ (I j _ q1) hid q2 hm)
  have qO:∀id x y b,(∀j,j<h0.length->σ j≠id)->bN h id x y b->¬bA (qN μ σ hc.length) hc b:=λid x y b E hx K=>by
   rcases K with K | ⟨j,x',y',jb⟩
   ·exact A.hv b (Eo b K) _ _ _ hx
   ·obtain⟨J,_,_⟩:=A.hh b _ _ _ _ _ _ (zQ _ _ _ _ jb) hx;obtain⟨_,_,_,_,_,_,_,_,_,_,q1,_⟩:=jb;have:=(an.1 q1).1;exact E j UN J
  have Fy:∀b,qD (Co μ σ h0.length μ0) h' b->qD μ0 h0 b\/∃id g sz n e f base,(∀j,j<h0.length->σ j≠id)/\h[id]? =some (au.row g sz n e f)/\μ id=some (b,base):=λb ⟨id,g,sz,n,e,f,base,q1,q2⟩=>by
   rcases inv id _ q1 with⟨j,U,rfl,m,d,B⟩ | ⟨m,d,B⟩
   ·rw[B]at q2;cases U with
    | dead=>cases d
    | row g0 Ep n0 e0 f0=>exact .inl ⟨j,g0,Ep,n0,e0,f0,base,m,q2⟩
   ·rw[B]at q2;exact .inr ⟨id,g,sz,n,e,f,base,m,d,q2⟩
  have sH:∀id x y b,bN h' id x y b->(∃j,σ j=id/\bN h0 j x y b)\/((∀j,j<h0.length->σ j≠id)/\bN h id x y b):=λid x y b ⟨g,sz,n,e,f,a8,n',V,f',F',q1,q2,q3,q4⟩=>by
   rcases inv id _ q1 with⟨j,U,rfl,m,d,B⟩ | ⟨m,d,B⟩
   ·cases U with
    | dead=>cases d
    | row g0 Ep n0 e0 f0=>
     injection d with J C Q e4 e5;subst J C Q e4 e5;rw[SL]at q3;cases hx:(f0 x)[y]? with
     | none=>rw[hx]at q3;cases q3
     | some c=>
      rw[hx]at q3;injection q3 with q3;rw[Cp q3]at hx;exact .inl ⟨j,rfl,_,_,_,_,_,_,_,_,_,_,m,q2,hx,q4⟩
   ·exact .inr ⟨m,_,_,_,_,_,_,_,_,_,_,d,q2,q3,q4⟩
  have fm:∀b,bA (Co μ σ h0.length μ0) h' b->bA μ0 h0 b\/(bA μ h b/\¬bA (qN μ σ hc.length) hc b):=λb hb=>by
   rcases hb with hb | ⟨x,y,z,hb⟩
   ·rcases Fy b hb with q | ⟨id,g,sz,n,e,f,base,q1,q2,q3⟩
    ·exact .inl (.inl q)
    ·exact .inr ⟨.inl ⟨id,g,sz,n,e,f,base,q2,q3⟩,apart id _ _ _ _ _ _ _ q1 q2 q3⟩
   ·rcases sH x y z b hb with⟨j,_,q⟩ | ⟨q1,q2⟩
    ·exact .inl (.inr ⟨_,_,_,q⟩)
    ·exact .inr ⟨.inr ⟨_,_,_,q2⟩,qO _ _ _ _ q1 q2⟩
  have mixed:∀b,bA μ0 h0 b->bA μ h b->¬bA (qN μ σ hc.length) hc b->False:=λb q1 q2 q3=>by
   rcases s.own b q1 with r | r
   ·exact q3 r
   ·have:=A.lt b q2;omega
  have dt:Fr μ h S w (Co μ σ h0.length μ0) h' S0 w':=by
   refine⟨H.len,λb hb ph=>s.blocks b hb (λF=>ph (Cq b F).1),s.sub,λb hb=>?_,λb hb=>?_,s.size,s.os,s.tape,s.output,λid g sz n e f hid=>?_,λid hid=>?_,λb k hb cr=>?_,λid g sz n e f b base hid hm fe=>?_,λb id x y hx fe=>?_⟩;rotate_right
   ·by_cases F:bA (qN μ σ hc.length) hc b
    ·rcases F with F | ⟨j,x',y',F⟩
     ·exact absurd hx (A.hv b (Eo b F) _ _ _)
     ·exact s.me b j x' y' F fe
    ·obtain⟨es,c,q⟩:=fe;exact⟨es,c,(s.blocks b (Su.1 q).1 F).trans q⟩
   ·rcases s.new b hb with q | q | q
    ·exact .inl q
    ·exact .inr (.inl (Cq b q).1)
    ·exact .inr (.inr q)
   ·rcases fm b hb with q | ⟨q,_⟩
    ·rcases s.own b q with r | r
     ·exact .inl (Cq b r).1
     ·exact .inr r
    ·exact .inl q
   ·by_cases hx:∃j,j<hc.length/\σ j=id
    ·obtain⟨j,hj,rfl⟩:=hx;have jB:j<h0.length:=by omega
     have L:=As hj;have K:=I j _ L;rw[K]at hid;cases D:hc[j]with
     | dead=>rw[D]at hid;cases hid
     | row gc aa nc ec fc=>
      rw[D]at hid L;injection hid with hid;injection hid with J C Q e4 e5;subst J C Q e4;have hg:=s.qE j _ _ _ _ _ L;have hs:=H.Dq j _ (As jB);rw[As jB]at hg;rw[hs];cases Rs:h0[j]with
      | dead=>trivial
      | row g' a8 n' V f'=>
       rw[Rs]at hg;refine⟨hg.1,λsw=>?_⟩;obtain⟨a1,a2,a3,a4⟩:=hg.2 sw;refine⟨?_,a2,a3,a4⟩;rw[L0 j jB,a1];unfold qN;rw[An hj]
    ·have E:∀j,j<h0.length->σ j≠id:=λj hj he=>by
      rcases S5 j hc.length with h1 | h1
      ·exact hx ⟨j,h1,he⟩
      ·have:=iT.new j h1;have:=(an.1 hid).1;omega
     rw[H.xA id E,hid];exact⟨Sv _,λ_=>⟨ug E,rfl,rfl,rfl⟩⟩
   ·by_cases hx:∃j,j<hc.length/\σ j=id
    ·obtain⟨j,hj,rfl⟩:=hx;have jB:j<h0.length:=by omega
     have L:=As hj;have K:=I j _ L;rw[K]at hid;cases D:hc[j]with
     | row gc aa nc ec fc=>rw[D]at hid;cases hid
     | dead=>
      rw[D]at L;have hd:=s.dead j L;exact H.Dq j _ hd
    ·have E:∀j,j<h0.length->σ j≠id:=λj hj he=>by
      rcases S5 j hc.length with h1 | h1
      ·exact hx ⟨j,h1,he⟩
      ·have:=iT.new j h1;have:=(an.1 hid).1;omega
     rw[H.xA id E,hid]
   ·by_cases F:bA (qN μ σ hc.length) hc b
    ·exact s.bC b k F cr
    ·exact dZ.of_same (s.blocks b cr.lt F) cr
   ·by_cases hx:∃j,j<hc.length/\σ j=id
    ·obtain⟨j,hj,rfl⟩:=hx;have jB:j<h0.length:=by omega
     have L:=As hj;have K:=I j _ L;rw[K]at hid;cases D:hc[j]with
     | dead=>rw[D]at hid;cases hid
     | row gc aa nc ec fc=>
      rw[D]at hid L;have Rt:qN μ σ hc.length j=some (b,base):=by unfold qN;rw[An hj];exact hm
      obtain⟨m,d⟩:=s.maps j _ _ _ _ _ b base L Rt fe;refine⟨m,?_⟩;rcases d with d | ⟨⟨g',a8,n',V,f',d⟩,B⟩
      ·exact .inl (H.Dq j _ d)
      ·exact .inr ⟨⟨_,_,_,_,_,H.Dq j _ d⟩,(L0 j jB).trans B⟩
    ·have E:∀j,j<h0.length->σ j≠id:=λj hj he=>by
      rcases S5 j hc.length with h1 | h1
      ·exact hx ⟨j,h1,he⟩
      ·have:=iT.new j h1;have:=(an.1 hid).1;omega
     obtain⟨es,c,q⟩:=fe;exact⟨⟨es,c,(s.blocks b (Su.1 q).1 (apart id _ _ _ _ _ _ _ E hid hm)).trans q⟩,.inr ⟨⟨_,_,_,_,_,(H.xA id E).trans hid⟩,(ug E).trans hm⟩⟩
  have aK:∀pv v,bf μ0 h0 S0 w' pv v->bf (Co μ σ h0.length μ0) h' S0 w' (iS σ pv) v:=λpv v Ru=>by
   refine Cm (λj=>?_) (λ_ hb=>hb) Ru;cases F:h0[j]? with
   | none=>exact .inr (.inr rfl)
   | some o=>
    have N:=(an.1 F).1;cases o with
    | dead=>exact .inr (.inl ⟨rfl,H.Dq j _ F⟩)
    | row g sz n e f=>exact .inl ⟨g,sz,n,e,f,rfl,⟨_,H.Dq j _ F⟩,L0 j N⟩
  refine⟨v,_,h',_,S0,he,⟨r0,h0,hR,rfl,?_⟩,Cn aK hv,λid g sz n e f hid=>?_,⟨λb hb hs=>?_,λb hb=>?_,uH.slt,?_,uH.known,λb hb id x y hx=>?_,λb id x y ad x' y' hx jb=>?_⟩,dt⟩;rotate_right 2
  ·rcases Fy b hb with q | ⟨k,g,sz,n,e,f,base,q1,q2,q3⟩
   ·rcases sH id x y b hx with⟨j,_,r⟩ | ⟨m,d⟩
    ·exact uH.hv b q _ _ _ r
    ·exact mixed b (.inl q) (.inr ⟨_,_,_,d⟩) (qO _ _ _ _ m d)
   ·rcases sH id x y b hx with⟨j,_,r⟩ | ⟨m,d⟩
    ·exact mixed b (.inr ⟨_,_,_,r⟩) (.inl ⟨k,g,sz,n,e,f,base,q2,q3⟩) (apart k _ _ _ _ _ _ _ q1 q2 q3)
    ·exact A.hv b ⟨k,g,sz,n,e,f,base,q2,q3⟩ _ _ _ d
  ·rcases sH id x y b hx with⟨j,rfl,r⟩ | ⟨m,d⟩
   ·rcases sH ad x' y' b jb with⟨j',rfl,t⟩ | ⟨M,G⟩
    ·obtain⟨J,C,Q⟩:=uH.hh b _ _ _ _ _ _ r t;exact⟨by rw[J],C,Q⟩
    ·exact(mixed b (.inr ⟨_,_,_,r⟩) (.inr ⟨_,_,_,G⟩) (qO _ _ _ _ M G)).elim
   ·rcases sH ad x' y' b jb with⟨j',rfl,t⟩ | ⟨M,G⟩
    ·exact(mixed b (.inr ⟨_,_,_,t⟩) (.inr ⟨_,_,_,d⟩) (qO _ _ _ _ m d)).elim
    ·exact A.hh b _ _ _ _ _ _ d G
  ·exact Fx
  ·rcases inv id _ hid with⟨j,U,rfl,m,d,B⟩ | ⟨m,d,B⟩
   ·cases U with
    | dead=>cases d
    | row g0 Ep n0 e0 f0=>
     injection d with J C Q e4 e5;subst J C Q e4 e5;obtain⟨q1,q2⟩:=Fw j _ _ _ _ _ m;refine⟨λi hi=>by simpa using q1 i hi,?_⟩;rw[B];cases O:μ0 j with
     | none=>rw[O]at q2;exact q2
     | some p=>
      obtain⟨b,base⟩:=p;rw[O]at q2;obtain⟨o,s1,T⟩:=q2;refine⟨o,s1,?_⟩;cases o with
      | cells cur V z=>
       obtain⟨W,x2,x3,s3⟩:=T;refine⟨W,x2,x3,λi k pv hi hk=>?_⟩;rw[SL]at hk;cases hx:(f0 i)[k]? with
       | none=>rw[hx]at hk;cases hk
       | some c=>
        rw[hx]at hk;injection hk with hk;subst hk;obtain⟨u,M,G⟩:=s3 i k c hi hx;refine⟨u,M,?_⟩;cases ag:cg c with
        | false=>exact(aK _ _ G.c).k (En ag)
        | true=>
         cases c with
         | aG X Y C Z F2=>exact G
         | _=>cases ag
      | map es c=>
       obtain⟨W,s3⟩:=T;refine⟨W,λi hi=>?_⟩;obtain⟨kp,vp,en,y1,y2,y3,y4⟩:=s3 i hi;exact⟨kp,vp,en,by show(f0 i).map (iS σ)=_;rw[y1];show[iS σ kp,iS σ vp]=_;rw[sG y2,sG y3],y2,y3,y4⟩
      | _=>exact T.elim
   ·obtain⟨q1,q2⟩:=hH id _ _ _ _ _ d;refine⟨q1,?_⟩;rw[B];cases O:μ id with
    | none=>rw[O]at q2;exact q2
    | some p=>
     obtain⟨b,base⟩:=p;rw[O]at q2;obtain⟨o,s1,T⟩:=q2;have N:b<w.heap.size:=(Su.1 s1).1
     exact⟨o,(s.blocks b N (apart id _ _ _ _ _ _ _ m d O)).trans s1,T.mono (λi y pv v hi hy hr=>hr.fr dt A (λa8 n' V f' F' he b2 wh=>by
      have hx:bN h id i y b2:=⟨_,_,_,_,_,_,_,_,_,_,d,hi,he▸hy,wh⟩;exact s.blocks b2 (A.lt b2 (.inr ⟨_,_,_,hx⟩)) (qO _ _ _ _ m hx)))⟩
  ·rcases fm b hb with q | ⟨q1,q2⟩
   ·exact uH.apart b q hs
   ·rcases s.new b hs with r | r | r
    ·exact A.apart b q1 r
    ·exact q2 r
    ·have:=A.lt b q1;omega
  ·rcases fm b hb with q | ⟨q1,_⟩
   ·exact uH.lt b q
   ·exact SH (A.lt b q1) s.size
  ·intro i j gi xo ni ei fi gj dQ nj ej fj b o o' hi hj eY eN
   have FA:∀(i':Nat) (o1:au) (g sz n:Nat) (e:TypeId) (f:Nat->List PV) (oo:Nat) (id g2 X Y:Nat) (C:TypeId) (Z:Nat->List PV) (OX:Nat),h0[i']? =some (au.row g sz n e f)->μ0 i'=some (b,oo)->(∀j,j<h0.length->σ j≠id)->h[id]? =some (au.row g2 X Y C Z)->μ id=some (b,OX)->False:=
    λi' o1 g sz n e f oo id g2 X Y C Z OX a1 a2 a3 a4 a5=>by
     exact mixed b (.inl ⟨i',g,sz,n,e,f,oo,a1,a2⟩) (.inl ⟨id,g2,X,Y,C,Z,OX,a4,a5⟩) (apart id _ _ _ _ _ _ _ a3 a4 a5)
   rcases inv i _ hi with⟨i0,oi,rfl,m,d,B⟩ | ⟨m,d,B⟩
   ·rw[B]at eY;cases oi with
    | dead=>cases d
    | row g0 Ep n0 e0 f0=>
     rcases inv j _ hj with⟨j0,oj,rfl,M,G,t3⟩ | ⟨M,G,t3⟩
     ·rw[t3]at eN;cases oj with
      | dead=>cases G
      | row g2 X Y C Z=>rw[uH.inj i0 j0 _ _ _ _ _ _ _ _ _ _ _ _ _ m M eY eN]
     ·rw[t3]at eN;exact(FA i0 au.dead _ _ _ _ _ _ _ _ _ _ _ _ _ m eY M G eN).elim
   ·rw[B]at eY;rcases inv j _ hj with⟨j0,oj,rfl,M,G,t3⟩ | ⟨M,G,t3⟩
    ·rw[t3]at eN;cases oj with
     | dead=>cases G
     | row g2 X Y C Z=>exact(FA j0 au.dead _ _ _ _ _ _ _ _ _ _ _ _ _ M eN m d eY).elim
    ·rw[t3]at eN;exact A.inj i j _ _ _ _ _ _ _ _ _ _ _ _ _ d G eY eN
def dK (is:List Nat) (N:Nat) (j:Nat):Nat:=match is[j]? with
 | some id=>id
 | none=>N+(j - is.length)
def eo (h:List au):List Nat->List au->List au
 | id::r,o::l=>eo (h.set id o) r l
 | _,_=>h
def kg (h:List au) (is:List Nat) (h0:List au):List au:=
 eo h is (h0.map (ll (dK is h.length)))++(h0.drop is.length).map (ll (dK is h.length))
theorem da:∀(is:List Nat) (l h:List au),(eo h is l).length=h.length
 | [],[],_=>rfl
 | [],_::_,_=>rfl
 | _::_,[],_=>rfl
 | id::r,o::l,h=>by simp only[eo];rw[da r l];simp
theorem mB:∀(is:List Nat) (l h:List au) (id:Nat),id∉is->(eo h is l)[id]? =h[id]?
 | [],[],_,_,_=>rfl
 | [],_::_,_,_,_=>rfl
 | _::_,[],_,_,_=>rfl
 | i::r,o::l,h,id,a=>by
  simp only[SB,not_or]at a;simp only[eo];rw[mB r l _ id a.2,SN (Tl a.1)]
theorem qP:∀(is:List Nat) (l h:List au) (j id:Nat) (o:au),is.Nodup->is[j]? =some id->l[j]? =some o->id<h.length->(eo h is l)[id]? =some o
 | [],_,_,_,_,_,_,h1,_,_=>by simp at h1
 | _::_,[],_,_,_,_,_,_,h2,_=>by simp at h2
 | i::r,b::l,h,j,id,o,hd,h1,h2,a=>by
  simp only[List.nodup_cons]at hd;simp only[eo];cases j with
  | zero=>
   simp at h1 h2;subst h1 h2;rw[mB r l _ _ hd.1];simp [a]
  | succ j=>
   exact qP r l _ j id o hd.2 U5 U4 (by simpa using a)
theorem H9 (is:List Nat) (h:List au) (hd:is.Nodup) (a:∀id∈is,id<h.length):I2 (dK is h.length) is.length h where
 lt j hj:=by
  unfold dK;rw[As hj];exact a _ (SM hj)
 new j hj:=by
  unfold dK;rw[SZ hj]
 inj i j hi hj he:=by
  unfold dK at he;rw[As hi,As hj]at he;exact(List.getElem_inj hd).1 he
theorem Cr (is:List Nat) (h h0:List au) (hd:is.Nodup) (c:∀id∈is,id<h.length) (hle:is.length<=h0.length):Fv (dK is h.length) h h0 (kg h is h0) where
 len:=by unfold kg;rw[TM,da];omega
 xA id a:=by
  unfold kg;rcases S5 id h.length with h1 | h1
  ·rw[SR (by rw[da];exact h1),mB];intro hm;obtain⟨j,hj,rfl⟩:=Tb.1 hm;refine a j UN ?_;unfold dK;rw[As hj]
  ·rw[SP (by rw[da];exact h1),da,SZ h1,SZ];simp only[TG,T5];rcases S5 (id - h.length) (h0.length - is.length)with h2 | h2
   ·refine(a (is.length+(id - h.length)) UN ?_).elim;unfold dK;rw[SZ UN];simp;omega
   ·exact h2
 Dq j o hj:=by
  have d:=(an.1 hj).1;unfold kg;rcases S5 j is.length with h1 | h1
  ·have hs:dK is h.length j=is[j]:=by unfold dK;rw[As h1]
   have b:=c _ (SM h1);rw[hs,SR (by rw[da];exact b)];exact qP is _ h j _ _ hd (As h1) (by rw[SL,hj];rfl) b
  ·have hs:dK is h.length j=h.length+(j - is.length):=by unfold dK;rw[SZ h1]
   rw[hs,SP (by rw[da];omega),da,SL,Tp];rw[show is.length+(h.length+(j - is.length) - h.length)=j from by omega,hj];rfl
theorem ACall.over {f:FuncId} {args a:List PV} {R:PV->List au->Prop} (c:ACall P f args hc R) (is:List Nat) (h:List au) (d:hc.length=is.length) (hd:is.Nodup) (b:∀id∈is,id<h.length)
  (e:∀j o,hc[j]? =some o->h[dK is h.length j]? =some (ll (dK is h.length) o)) (g:a=args.map (rS (dK is h.length))):
  ACall P f a h (λres h'=>∃r0 h0,R r0 h0/\res=zO (dK is h.length) r0/\h'=kg h is h0):=
 c.Dq h (by rw[d];exact H9 is h hd b) e g (kg h is) (λh0 hle=>Cr is h h0 hd b UN)
end
def look (l:List (Nat×TI)) (t:Nat):TI:=match l with
 | []=>.other
 | (k,ti)::r=>match Nat.beq t k with
  | true=>ti
  | false=>look r t
def mf (l:List (Nat×TI)):ij:=⟨look l⟩
def dq:List Value->List PV->Bool
 | [],[]=>true
 | .int k n::r,.int c d::a=>jx k c&&n==d&&dq r a
 | .bool b::r,.bool e::a=>b==e&&dq r a
 | .string s::r,.str f::a=>s.data.toList==f&&dq r a
 | .slice none 0 0::r,.aD::a=>dq r a
 | .pointer none::r,.dx::a=>dq r a
 | _,_=>false
def kq (P:Program) (t n:Nat):Bool:=match P.info? t with
 | some i=>Nat.beq i.size n
 | none=>false
def jV (P:Program):List Field->List (Nat×Nat×Bool)->Bool
 | [],[]=>true
 | f::r,(off,size,a)::b=>Nat.beq f.offset off&&kq P f.type size&&Nat.blt 0 size&&(match P.underlying f.type with | some d=>a==ql d | none=>false)&&jV P r b
 | _,_=>false
def uh:Value->PV->Bool
 | .int k n,.int a c=>jx k a&&n==c
 | .bool b,.bool d=>b==d
 | .string s,.str e=>s.data.toList==e
 | _,_=>false
theorem ui {v:Value} {z:PV} (h:uh v z=true):jy z v/\eA z=true/\storable z=true:=by
 unfold uh at h;split at h
 ·simp only[so,Ts]at h;obtain⟨h1,rfl⟩:=h;obtain rfl:=cz h1;exact⟨rfl,rfl,rfl⟩
 ·rw[Ts]at h;subst h;exact⟨rfl,rfl,rfl⟩
 ·rw[Ts]at h;subst h;exact⟨rfl,rfl,rfl⟩
 ·cases h
def hC (P:Program) (t:Nat):TI->Bool
 | .int k=>(match P.underlying t with | some (.int c)=>jx k c | _=>false)&&kq P t 1
 | .bool=>(match P.underlying t with | some .bool=>true | _=>false)&&kq P t 1
 | .str=>(match P.underlying t with | some .string=>true | _=>false)&&kq P t 1
 | .ptr e=>(match P.underlying t with | some (.pointer b)=>Nat.beq e b | _=>false)&&kq P t 1
 | .slice e sz d z=>(match P.underlying t with | some (.slice b)=>Nat.beq e b | _=>false)&&kq P t 1&&Nat.blt 0 sz&&Nat.blt 0 d&&
   (match P.info? e with
    | some i=>Nat.beq i.size sz&&Nat.beq i.bytes d&&(match i.zero with | some a=>Nat.beq a.cells.size sz&&dq a.cells.toList z | none=>false)
    | none=>false)
 | .struct sz fl z=>(!(pj z)||tU P t z)&&(match P.underlying t with | some (.struct fs)=>jV P fs.toList fl | _=>false)&&
   (match P.info? t with
    | some i=>Nat.beq i.size sz&&(match i.zero with | some a=>Nat.beq a.cells.size sz&&dq a.cells.toList z | none=>false)
    | none=>false)
 | .map k e z=>(match P.underlying t with | some (.map c b)=>Nat.beq k c&&Nat.beq e b | _=>false)&&kq P t 1&&(match P.info? e with
   | some i=>(match i.zero with | some a=>uh a z | none=>false)
   | none=>false)
 | .other=>true
def zeroAt (P:Program) (t:Nat) (z:List PV) (n:Nat):Bool:=match P.info? t with
 | some i=>match i.zero with
  | some a=>Nat.beq a.cells.size n&&Nat.beq z.length n&&dq a.cells.toList z
  | none=>false
 | none=>false
def Er (P:Program) (t:Nat) (ti:TI):Bool:=hC P t ti&&(match qm ti with | some z=>zeroAt P t z (fh ti) | none=>true)
theorem lr:∀(vs:List Value) (z:List PV),dq vs z=true->vs.length=z.length/\∀(j:Nat) (u:Value),vs[j]? =some u->∃pv:PV,z[j]? =some pv/\u.oneCell'=true/\∀S w,aI S w pv u:=by
 intro vs;induction vs with
 | nil=>
  intro z d;cases z with
  | nil=>exact⟨rfl,λj u hj=>by simp at hj⟩
  | cons a r=>simp [dq]at d
 | cons v vs g=>
  intro z d;cases z with
  | nil=>cases v<;>simp [dq]at d
  | cons p z=>
   have step:∀(e:dq vs z=true) (f:v.oneCell'=true) (hp:∀S w,aI S w p v),(v::vs).length=(p::z).length/\∀(j:Nat) (u:Value),(v::vs)[j]? =some u->∃pv:PV,(p::z)[j]? =some pv/\u.oneCell'=true/\∀S w,aI S w pv u:=by
    intro e f hp;obtain⟨h1,h2⟩:=g z e;refine⟨by simp [h1],λj u hj=>?_⟩;cases j with
    | zero=>simp at hj;subst hj;exact⟨p,rfl,f,hp⟩
    | succ j=>simp at hj;obtain⟨pv,q1,q2⟩:=h2 j u hj;exact⟨pv,by simpa using q1,q2⟩
   cases v with
   | int k n=>
    cases p<;>simp [dq]at d;obtain⟨⟨hk,h⟩,d⟩:=d;have:=cz hk;subst this h;exact step d rfl λS w=>.int _ _
   | bool b=>
    cases p<;>simp [dq]at d;obtain⟨hb,d⟩:=d;subst hb;exact step d rfl λS w=>.bool _
   | string s=>
    cases p<;>simp [dq]at d;obtain⟨hs,d⟩:=d;subst hs;exact step d rfl λS w=>aI.str _
   | slice a n c=>
    cases a with
    | some a=>cases p<;>simp [dq]at d
    | none=>
     cases n with
     | succ n=>cases p<;>simp [dq]at d
     | zero=>
      cases c with
      | succ c=>cases p<;>simp [dq]at d
      | zero=>
       cases p<;>simp [dq]at d;exact step d rfl λS w=>.aD
   | pointer a=>
    cases a with
    | some a=>cases p<;>simp [dq]at d
    | none=>
     cases p<;>simp [dq]at d;exact step d rfl λS w=>.dx
   | _=>cases p<;>simp [dq]at d
theorem eO {P:Program} {t n:Nat} (h:kq P t n=true):∃i,P.info? t=some i/\i.size=n:=by
 unfold kq at h;split at h
 ·rename_i i hi;exact⟨i,hi,No h⟩
 ·cases h
theorem mg {P:Program}:∀(fs:List Field) (fl:List (Nat×Nat×Bool)),jV P fs fl=true->fl.length=fs.length/\
  ∀(k:Nat) (off size:Nat) (a:Bool),fl[k]? =some (off,size,a)->∃f j d,fs[k]? =some f/\f.offset=off/\P.info? f.type=some j/\j.size=size/\0<size/\P.underlying f.type=some d/\a=ql d
 | [],[],_=>⟨rfl,λk off size a hk=>by simp at hk⟩
 | [],_::_,h=>by simp [jV]at h
 | _::_,[],h=>by simp [jV]at h
 | f::r,(off,size,a)::b,h=>by
  simp only[jV,so]at h;obtain⟨⟨⟨⟨h1,h2⟩,c⟩,h4⟩,e⟩:=h;obtain⟨q1,q2⟩:=mg r b e;refine⟨by simp [q1],λk g i l hk=>?_⟩;cases k with
  | zero=>
   simp at hk;obtain⟨rfl,rfl,rfl⟩:=hk;obtain⟨j,hj,m⟩:=eO h2;cases hu:P.underlying f.type with
   | none=>rw[hu]at h4;cases h4
   | some d=>
    rw[hu]at h4;exact⟨f,j,d,rfl,No h1,hj,m,by simpa using c,hu,by simpa using h4⟩
  | succ k=>exact q2 k g i l (by simpa using hk)
theorem vD:∀(l:List (Nat×TI)) (t:Nat) (ti:TI),look l t=ti->ti=.other\/(t,ti)∈l
 | [],t,ti,h=>.inl h.symm
 | (k,x)::r,t,ti,h=>by
  unfold look at h;split at h
  ·rename_i hb;have:=No hb;subst this h;exact .inr UQ
  ·rcases vD r t ti h with h1 | h1
   ·exact .inl h1
   ·exact .inr (by simp [h1])
theorem KT {P:Program} {l:List (Nat×TI)} (y:l.all (λp=>Er P p.1 p.2)=true):bR P (mf l):=by
 have v:∀t ti,(mf l).get t=ti->ti≠.other->Er P t ti=true:=λt ti a r=>by
  rcases vD l t ti a with h1 | h1
  ·exact(r h1).elim
  ·exact(Sy.1 y) _ h1
 have all:∀t ti,(mf l).get t=ti->ti≠.other->hC P t ti=true:=λt ti a r=>by
  have:=v t ti a r;simp only[Er,so]at this;exact this.1
 have zero:∀t z,qm ((mf l).get t)=some z->∃i c,P.info? t=some i/\i.zero=some c/\c.cells.size=fh ((mf l).get t)/\z.length=fh ((mf l).get t)/\
   ∀(j:Nat) (u:Value),c.cells[j]? =some u->∃pv:PV,z[j]? =some pv/\u.oneCell'=true/\∀S w,aI S w pv u:=λt z g=>by
  have:=v t _ rfl (by intro h0;rw[h0]at g;cases g);simp only[Er,so]at this;have:=this.2;rw[g]at this;simp only[zeroAt]at this;split at this
  ·rename_i i hi;split at this
   ·rename_i c A;simp only[so]at this;obtain⟨⟨h1,h2⟩,m⟩:=this;obtain⟨_,n⟩:=lr _ _ m;exact⟨i,c,hi,A,No h1,No h2,λj u hj=>n j u UW⟩
   ·cases this
  ·cases this
 have one:∀t,fh ((mf l).get t)=1->(∀sz fl z,(mf l).get t≠.struct sz fl z)->∃i,P.info? t=some i/\i.size=1:=λt h1 h2=>by
  cases a:(mf l).get t with
  | other=>rw[a]at h1;cases h1
  | struct sz fl z=>exact(h2 _ _ _ a).elim
  | int k=>have:=all t _ a UQ;simp only[hC,so]at this;exact eO this.2
  | bool=>have:=all t _ a UQ;simp only[hC,so]at this;exact eO this.2
  | str=>have:=all t _ a UQ;simp only[hC,so]at this;exact eO this.2
  | ptr e=>have:=all t _ a UQ;simp only[hC,so]at this;exact eO this.2
  | map k e z=>have:=all t _ a UQ;simp only[hC,so]at this;exact eO this.1.2
  | slice e sz b z=>have:=all t _ a UQ;simp only[hC,so]at this;exact eO this.1.1.1.2
 refine⟨λt sz fl z a g=>by
   have:=all t _ a UQ;simp only[hC,so,Th,SX]at this;rcases this.1.1 with h | h
   ·rw[g]at h;cases h
   ·exact h,λt k a=>?_,λt a=>?_,λt a=>?_,λt e a=>?_,λt e sz b z a=>?_,λt k e z a=>?_,λt e sz b z a=>?_,one,zero,λt sz fl z a=>?_⟩
 ·have:=all t _ a UQ;simp only[hC,so]at this;have:=this.1;split at this
  ·rename_i B hu;rw[hu,cz this]
  ·cases this
 ·have:=all t _ a UQ;simp only[hC,so]at this;have:=this.1;split at this
  ·assumption
  ·cases this
 ·have:=all t _ a UQ;simp only[hC,so]at this;have:=this.1;split at this
  ·assumption
  ·cases this
 ·have:=all t _ a UQ;simp only[hC,so]at this;have:=this.1;split at this
  ·rename_i x hu;rw[hu,No this]
  ·cases this
 ·have:=all t _ a UQ;simp only[hC,so]at this;obtain⟨⟨⟨⟨h1,h2⟩,m⟩,h4⟩,q⟩:=this;refine⟨?_,by simpa using m,?_⟩
  ·split at h1
   ·rename_i x hu;rw[hu,No h1]
   ·cases h1
  ·split at q
   ·rename_i i hi;simp only[so]at q;obtain⟨⟨q1,q2⟩,q3⟩:=q;split at q3
    ·rename_i c g;simp only[so]at q3;obtain⟨s,n⟩:=lr _ _ q3.2;have o:=No q3.1;refine⟨i,c,hi,No q1,No q2,g,o,?_,λj u hj=>n j u UW⟩;rw[<-s,<-o];simp
    ·cases q3
   ·cases q
 ·have:=all t _ a UQ;simp only[hC,so]at this;obtain⟨⟨h1,_⟩,m⟩:=this;refine⟨?_,?_⟩
  ·split at h1
   ·rename_i B x hu;simp only[so]at h1;rw[hu,No h1.1,No h1.2]
   ·cases h1
  ·split at m
   ·rename_i i hi;split at m
    ·rename_i c g;exact⟨i,c,hi,g,ui m⟩
    ·cases m
   ·cases m
 ·have:=all t _ a UQ;simp only[hC,so]at this;simpa using this.1.2
 ·have:=all t _ a UQ;simp only[hC,so]at this;obtain⟨⟨_,h1⟩,h2⟩:=this;split at h1
  ·rename_i fs hu;obtain⟨q1,q2⟩:=mg _ _ h1;split at h2
   ·rename_i i hi;simp only[so]at h2;obtain⟨s,n⟩:=h2;split at n
    ·rename_i c g;simp only[so]at n;obtain⟨C,D⟩:=lr _ _ n.2;have o:=No n.1;refine⟨fs,i,hu,hi,No s,by simpa using q1,⟨c,g,o,by rw[<-C,<-o];simp,λj u hj=>D j u UW⟩,λk off size E hk=>?_⟩;obtain⟨f,j,d,F,G⟩:=q2 k off size E hk;exact⟨f,j,d,by simpa using F,G⟩
    ·cases n
   ·cases h2
  ·cases h1
theorem zx {S:Nat->Prop} {w:World} {k:IntKind} {a:Option Addr} {len cap:Nat} {c:List Int}
  (h:(a=none/\len=0/\cap=0/\c=[])\/∃x,a=some x/\len<=cap/\cap<=maxLen/\c.length=cap/\(∀i,i<c.length->w.cell? (x.add i)=some (.int k (c.getD i 0)))/\∀n∈c,(Lit.int k n).wf=true)
  (g:∀b,b<w.heap.size->S b):aI S w (.cP 1 len (λi=>[.int k (c.getD i 0)])) (.slice a len cap):=by
 rcases h with⟨rfl,rfl,rfl,rfl⟩ | ⟨x,rfl,l,hm,p,e,m⟩
 ·exact .iq _ _ _ _
 ·rcases Ta len with h0 | h0
  ·subst h0;exact .iq _ _ _ _
  ·obtain⟨b,off,spot⟩:=x;have f:=e 0 UN;have o:spot=none:=by simpa[Addr.add]using World.cell?_spot f
   subst o
   have hb:b<w.heap.size:=by
    have:=World.block_lt_of_cell? _ _ f;simpa[Addr.add]using this
   refine .cP 1 len _ b off cap (λi _=>.int k (c.getD i 0)) (g b hb) (λ_ _=>rfl) l (λi j pv hi hj=>?_) (λi j pv hi hj=>?_)
   ·have d:j=0:=by
     have:=(an.1 hj).1;simp at this;exact this
    subst d;have:=e i UN;rw[Addr.add_lit]at this;rw[Nat.mul_one,Td];exact this
   ·have d:j=0:=by
     have:=(an.1 hj).1;simp at this;exact this
    subst d;simp at hj;subst hj;exact .int _ _
theorem DN {P:Program} {f:FuncId} {args:List PV} {vs:Array Value} {w:World} (c:zk (λb=>b<w.heap.size) w) (d:ACall P f args [] (λres _=>res=.bool true)) (dp:vs.size=args.length)
  (ha:∀(j:Nat) (pv:PV),args[j]? =some pv->∃v,vs[j]? =some v/\aI (λb=>b<w.heap.size) w pv v):
  Calls P f vs w λe w'=>e=.returned (.bool true)/\Below w.heap.size w w':=by
 refine(d.2 w vs (λ_=>none) (λb=>b<w.heap.size) (λid g sz n e f hid=>by simp at hid) ⟨λb hb=>absurd hb eZ,λb hb=>absurd hb eZ,λb hb=>hb,λi j g sz n e f h k l m p b o q hi=>by simp at hi,c,λb _ x y z hx=>nM hx,λb _ _ _ _ _ _ hx=>absurd hx nM⟩ dp (λj pv hj=>?_)).mono ?_
 ·obtain⟨v,h1,h2⟩:=ha j pv hj;refine⟨v,h1,?_⟩;have hc:bf (λ_=>none) [] (λb=>b<w.heap.size) w pv v:=bf.eX h2;cases pv with
  | agg cs=>exact(show False from hc).elim
  | db cs=>exact(show False from hc).elim
  | dA=>trivial
  | _=>exact hc
 ·rintro e w' ⟨v,res,h',μ',S',rfl,rfl,hv,r,s,a⟩;refine⟨by rw[hv.gn],a.os,a.tape,a.output,a.size,λb hb=>a.blocks b hb eZ⟩
section
variable {h η:List au}{k:List Nat}
theorem Fz.int_eq {a:IntKind} {n b:Int} (he:n=b):Fz h η k (.int a n) (.int a b):=by subst he;exact .int _ _
theorem Fz.yO {b a:Bool} (he:b=a):Fz h η k (.bool b) (.bool a):=by subst he;exact .bool _
theorem Fz.Cs {s a:List UInt8} (he:s=a):Fz h η k (.str s) (.str a):=by subst he;exact .str _
theorem Fz.Ct {id g sz n off len c a:Nat} {e:TypeId} {f b:Nat->List PV} (hk:id∉k) (d:h[id]? =some (au.row g sz n e f)) (h1:sz=c) (h2:len=a) (hp:∀i,i<a->(b i).all bn=true)
  (hf:∀i,i<a->mo h η k (f (off+i)) (b i)):Fz h η k (.own id g off len) (.cP c a b):=by
 subst h1 h2;exact .KW id g sz n off len e f b hk d (λi hi=>(mo.get _ _ (hf i hi)).1) (λi j pv hi hj=>(Sy.1 (hp i hi)) pv (SJ hj)) (λi j pv l hi h1 h2 _=>(mo.get _ _ (hf i hi)).2 j pv l h1 h2)
theorem Fz.aM {cs a:List PV} (b:mo h η k cs a):Fz h η k (.agg cs) (.agg a):=.agg _ _ (mo.get _ _ b).1 (mo.get _ _ b).2
theorem Fz.dm {cs a:List PV} (b:mo h η k cs a):Fz h η k (.db cs) (.db a):=.db _ _ (mo.get _ _ b).1 (mo.get _ _ b).2
theorem Cv {α:Type} {i l:Nat} {a b:α} (iv:i<l):(bif Nat.blt i l then a else b)=a:=by
 have hb:Nat.blt i l=true:=by simpa using iv
 rw[hb];rfl
theorem Cw {α:Type} {i l:Nat} {a b:α} (iv:l<=i):(bif Nat.blt i l then a else b)=b:=by
 have hb:Nat.blt i l=false:=by
  cases hh:Nat.blt i l with
  | true=>
   have:i<l:=by simpa using hh
   omega
  | false=>rfl
 rw[hb];rfl
end
theorem yv {x:Int} (h1: -9223372036854775808<=x) (h2:x<=9223372036854775807):IntKind.i64.wrap x=x:=by rw[IntKind.wrap_i64];omega
theorem ACall.KX {P:Program} {f:FuncId} {args a:List PV} {R:PV->List au->Prop} (e:ACall P f a [] R) (h:List au) (g:mo h [] [] args a) (i:a.all fp=true)
  (b:∀r0 h0,R r0 h0->sJ r0=true/\∀o∈h0,Cx o):
  ACall P f args h (λres h'=>∃r0 h0,R r0 h0/\res=ie h.length r0/\h'=h++h0.map (cE h.length)):=by
 obtain⟨h1,h2⟩:=mo.get _ _ g;exact e.snap h h1 (λj pv c q1 q2=>⟨h2 j pv c q1 q2,(Sy.1 i) c (SJ q2)⟩) (λr0 h0 d=>⟨(b r0 h0 d).1,λo k=>((b r0 h0 d).2 o k).p⟩)
theorem ACall.KY {P:Program} {f:FuncId} {args a:List PV} {R:PV->List au->Prop} (c:ACall P f a [] R) (h:List au) (d:mo h [] [] args a) (e:a.all fp=true)
  (g:∀r0 h0,R r0 h0->sJ r0=true/\∀o∈h0,nN o):
  ACall P f args h (λres h'=>∃r0 h0,R r0 h0/\res=ie h.length r0/\h'=h++h0.map (cE h.length)):=by
 obtain⟨h1,h2⟩:=mo.get _ _ d;exact c.snap h h1 (λj pv b q1 q2=>⟨h2 j pv b q1 q2,(Sy.1 e) b (SJ q2)⟩) g
theorem Fz.snap {h:List au} {id g sz n off len c a:Nat} {e:TypeId} {f b:Nat->List PV} (d:h[id]? =some (au.row g sz n e f)) (h1:sz=c) (h2:len=a) (hp:∀i,i<a->(b i).all bn=true)
  (hf:∀i,i<a->mo h [] [] (f (off+i)) (b i)):Fz h [] [] (.own id g off len) (.cP c a b):=.Ct UQ d h1 h2 hp hf
theorem Ia {w:World} {k:IntKind} {a:Option Addr} {len cap:Nat} {b:List Int}
  (h:(a=none/\len=0/\cap=0/\b=[])\/∃x,a=some x/\len<=cap/\cap<=maxLen/\b.length=cap/\(∀i,i<b.length->w.cell? (x.add i)=some (.int k (b.getD i 0)))/\∀n∈b,(Lit.int k n).wf=true):
  ∀i,(Lit.int k (b.getD i 0)).wf=true:=by
 intro i;have h0:(Lit.int k 0).wf=true:=by cases k<;>decide
 rcases h with⟨_,_,_,rfl⟩ | ⟨x,_,_,_,_,_,c⟩
 ·simpa using h0
 ·rcases S5 i b.length with hi | hi
  ·rw[Sz,As hi];exact c _ (SM hi)
  ·rw[Sz,SZ hi];exact h0
theorem BQ {w:World} {a:Option Addr} {len cap:Nat} {b:List Int}
  (h:(a=none/\len=0/\cap=0/\b=[])\/∃x,a=some x/\len<=cap/\cap<=maxLen/\b.length=cap/\(∀i,i<b.length->w.cell? (x.add i)=some (.int .u8 (b.getD i 0)))/\∀n∈b,(Lit.int .u8 n).wf=true):
  ∀i,0<=b.getD i 0/\b.getD i 0<=255:=by
 intro i;have:=Ia h i;have h2:IntKind.u8.min=0/\IntKind.u8.max=255:=by decide
 simp only[Lit.wf,so,Tc,h2.1,h2.2]at this;omega
theorem ACall.heq {P:Program} {f:FuncId} {args:List PV} {h h2:List au} {R:PV->List au->Prop} (i:ACall P f args h R) (he:cn h2 h):ACall P f args h2 R:=by
 refine⟨i.1,λw vs μ S l m dp ha=>?_⟩;obtain⟨o,p⟩:=he.core ⟨l,m⟩;refine(i.2 w vs μ S o p dp (λj pv hj=>?_)).mono ?_
 ·obtain⟨v,h1,q⟩:=ha j pv hj;exact⟨v,h1,he.zI q⟩
 ·rintro e w' ⟨v,res,h',μ',S',rfl,r,hv,s,t,a⟩;refine⟨v,res,h',μ',S',rfl,r,hv,s,t,⟨by rw[he.len];exact a.len,λb hb c=>a.blocks b hb (λhx=>c (he.oO hx)),a.sub,λb hb=>?_,λb hb=>?_,a.size,a.os,a.tape,a.output,λid g sz n e f hid=>?_,λid hid=>a.dead id (he.getD hid),λb k c hc=>a.bC b k (he.owned c) hc,λid g sz n e f b base hid hm fe=>?_,λb x y z hx fe=>a.me b x y z (he.hid hx) fe⟩⟩
  ·rcases a.new b hb with h1 | h1 | h1
   ·exact .inl h1
   ·exact .inr (.inl (he.oO h1))
   ·exact .inr (.inr h1)
  ·rcases a.own b hb with h1 | h1
   ·exact .inl (he.oO h1)
   ·exact .inr h1
  ·obtain⟨d,h1,_⟩:=he.get hid;exact a.qE id g sz n e d h1
  ·obtain⟨d,h1,_⟩:=he.get hid;exact a.maps id g sz n e d b base h1 hm fe
abbrev cR:=List UInt8
abbrev bc (x:Int):Int:=IntKind.i64.wrap x
theorem bind_some {α β:Type} {x:Option α} {f:α->Option β} {r:β} (h:(x>>=f)=some r):∃a,x=some a/\f a=some r:=by
 cases x with
 | none=>cases h
 | some a=>exact⟨a,rfl,h⟩
def idx {α:Type} [Inhabited α] (l:List α) (i:Int):Option α:=if 0<=i/\i<(l.length:Int)then some (l.getD i.toNat default)else none
def uJ (s:cR) (i:Int):Option UInt8:=if 0<=i/\i<(s.length:Int)then some (s.getD i.toNat 0)else none
def uK (s:cR) (lo:Int):Option cR:=if 0<=lo/\lo<=(s.length:Int)then some (s.drop lo.toNat)else none
def jj {α:Type} (s:List α) (lo:Int):Option (List α):=if 0<=lo/\lo<=(s.length:Int)then some (s.drop lo.toNat)else none
def uP {α:Type} (s:List α) (hi:Int):Option (List α):=if 0<=hi/\hi<=(s.length:Int)then some (s.take hi.toNat)else none
def wJ (a b:cR):Option cR:=if a.length+b.length<=4611686018427387904 then some (a++b)else none
def eg {α:Type} (bytes:Nat) (a b:List α):Option (List α):=if(a.length+b.length)*bytes<=140737488355328 then some (a++b)else none
def must (p:Prop) [Decidable p]:Option Unit:=if p then some ()else none
theorem bU {α:Type} {c:Prop} [Decidable c] {x r:α} (h:(if c then some x else none)=some r):c/\x=r:=by
 by_cases hc:c
 ·rw[An hc]at h;exact⟨hc,SW h⟩
 ·rw[Is hc]at h;cases h
theorem oK {p:Prop} [Decidable p] {u:Unit} (h:must p=some u):p:=(bU h).1
section
variable {α:Type}{x y r:α}
theorem FC {p:Prop} [Decidable p] (hb:decide p=true) (h:(if p then x else y)=r):x=r:=by rw[An (of_decide_eq_true hb)]at h;exact h
theorem FD {p:Prop} [Decidable p] (hb:decide p=false) (h:(if p then x else y)=r):y=r:=by rw[Is (of_decide_eq_false hb)]at h;exact h
theorem Cy {β:Type} [BEq β] [LawfulBEq β] {a b:β} [Decidable (a=b)] (hb:(a==b)=true) (h:(if a=b then x else y)=r):x=r:=by rw[An (eq_of_beq hb)]at h;exact h
theorem Cz {β:Type} [BEq β] [LawfulBEq β] {a b:β} [Decidable (a=b)] (hb:(a==b)=false) (h:(if a=b then x else y)=r):y=r:=by rw[Is (ne_of_beq_false hb)]at h;exact h
theorem KZ {β:Type} [BEq β] [LawfulBEq β] {a b:β} [Decidable (a=b)] (hb:(a != b)=true) (h:(if a=b then x else y)=r):y=r:=Cz (by simpa[bne]using hb) h
theorem K0 {β:Type} [BEq β] [LawfulBEq β] {a b:β} [Decidable (a=b)] (hb:(a != b)=false) (h:(if a=b then x else y)=r):x=r:=Cy (by simpa[bne]using hb) h
theorem FE {b:Bool} (hb:b=true) (h:(if b=true then x else y)=r):x=r:=by rw[An hb]at h;exact h
theorem FF {b:Bool} (hb:b=false) (h:(if b=true then x else y)=r):y=r:=by rw[Is (by rw[hb];decide)]at h;exact h
end
theorem CA {b:Bool} (h:(!b)=false):b=true:=by cases b<;>simp_all
theorem CB {b:Bool} (h:(!b)=true):b=false:=by cases b<;>simp_all
theorem CC {T F:Prop} (h:T):cw true T F:=.mk (λ_=>h) (λh=>by cases h)
theorem CD {T F:Prop} (h:F):cw false T F:=.mk (λh=>by cases h) (λ_=>h)
theorem zT {b:Bool} {T F:Prop} (hb:b=true) (h:T):cw b T F:=.mk (λ_=>h) (λh=>by rw[hb]at h;cases h)
theorem zU {b:Bool} {T F:Prop} (hb:b=false) (h:F):cw b T F:=.mk (λh=>by rw[hb]at h;cases h) (λ_=>h)
section
variable {α:Type}{l m:List α}{lo hi:Int}
theorem jP (h:jj l lo=some m):0<=lo/\lo<=(l.length:Int):=(bU h).1
theorem iz (h:jj l lo=some m):m.length=l.length - lo.toNat:=by rw[<-(bU h).2];simp
theorem tG (h:uP l hi=some m):0<=hi/\hi<=(l.length:Int):=(bU h).1
theorem dV {b:Nat} {q:List α} (h:eg b l m=some q):(l.length+m.length)*b<=140737488355328:=(bU h).1
theorem dw {b:Nat} {q:List α} (h:eg b l m=some q):q.length=l.length+m.length:=by rw[<-(bU h).2];simp
theorem p3 (h:uP l hi=some m):m.length=hi.toNat:=by
 have hb:=tG h;rw[<-(bU h).2];simp;omega
end
def row {α:Type} (c:α->List PV) (l:List α):Nat->List PV:=λi=>(l.map c).getD i []
abbrev sl {α:Type} (sz:Nat) (c:α->List PV) (l:List α):PV:=.cP sz l.length (row c l)
def cI (x:Int):List PV:=[.int .i64 x]
def Ib (k:IntKind) (x:Int):List PV:=[.int k x]
def cB (x:UInt8):List PV:=[.int .u8 x.toNat]
def cT (x:Bool):List PV:=[.bool x]
def cS (x:cR):List PV:=[.str x]
def cL {α:Type} (sz:Nat) (c:α->List PV) (x:List α):List PV:=[sl sz c x]
section
variable {α:Type}{c:α->List PV}{l m:List α}{x x':α}{i lo hi:Int}
theorem Et (x:Int):(cI x).all bn=true:=rfl
theorem zV (k:IntKind) (x:Int):(Ib k x).all bn=true:=rfl
theorem Eu (x:UInt8):(cB x).all bn=true:=rfl
theorem Ev (x:Bool):(cT x).all bn=true:=rfl
theorem Ew (x:cR):(cS x).all bn=true:=rfl
theorem Ex {β:Type} (sz:Nat) (d:β->List PV) (x:List β):(cL sz d x).all bn=true:=rfl
theorem yd (x:Int):cB (UInt8.ofNat (IntKind.u8.wrap x).toNat)=[.int .u8 (IntKind.u8.wrap x)]:=by
 have h:0<=IntKind.u8.wrap x/\IntKind.u8.wrap x<256:=by
  have:=IntKind.wrap_u8 x;omega
 unfold cB;congr 2;rw[UInt8.toNat_ofNat'];omega
theorem gL {k:Nat} (h:k<l.length):row c l k=c l[k]:=by unfold row;simp [Sz,h]
theorem eQ {k:Nat} (h:l[k]? =some x):row c l k=c x:=by unfold row;simp [Sz,h]
theorem iU (hp:∀x,(c x).all bn=true) (k:Nat):(row c l k).all bn=true:=by
 by_cases h:k<l.length
 ·rw[gL h];exact hp _
 ·unfold row;simp [Sz,SZ (show l.length<=k by omega)]
theorem zW {s:cR} {k:Nat} (h:k<s.length):row cB s k=[.int .u8 (s.getD k 0).toNat]:=by
 rw[gL h];simp [cB,Sz,h]
theorem tl {s:cR} {b:UInt8} (h:uJ s i=some b):0<=i/\i<(s.length:Int):=(bU h).1
theorem tm {s:cR} {b:UInt8} (h:uJ s i=some b):s.getD i.toNat 0=b:=(bU h).2
theorem AP {s t:cR} (h:uK s lo=some t):0<=lo/\lo<=(s.length:Int):=(bU h).1
theorem AQ {s t:cR} (h:uK s lo=some t):s.drop lo.toNat=t:=(bU h).2
theorem tg {s t u:cR} (h:wJ s t=some u):s.length+t.length<=4611686018427387904:=(bU h).1
theorem th {s t u:cR} (h:wJ s t=some u):s++t=u:=(bU h).2
theorem lD (h:jj l lo=some m):∀i,i<m.length->row c m i=row c l (lo.toNat+i):=λi a=>by
 have hm:l[lo.toNat+i]? =some m[i]:=by
  rw[<-As a,<-(bU h).2,Tp]
 rw[gL a,eQ hm]
theorem Eb (h:uP l hi=some m):∀i,i<m.length->row c m i=row c l i:=λi a=>by
 have b:=p3 h
 have hm:l[i]? =some m[i]:=by
  rw[<-As a,<-(bU h).2,TK,An UN]
 rw[gL a,eQ hm]
def qQ (c:α->List PV) (f:Nat->List PV) (off:Nat) (l:List α):Prop:=∀i,i<l.length->f (off+i)=row c l i
theorem aS:qQ c (row c l) 0 l:=λi _=>by rw[Sx]
theorem pd {s:cR} {f:Nat->List PV} {off n:Nat} (hs:qQ cB f off s) (a:s.length=n):∀i,i<n->f (off+i)=[.int .u8 (s.getD i 0).toNat]:=λi hi=>by
 subst a;rw[hs i hi];exact zW hi
theorem dE {b:Nat} {q:List α} {f g:Nat->List PV} {off:Nat} (h:eg b l m=some q) (hf:qQ c f off l) (hg:∀i,i<m.length->g i=row c m i):
  ∀i,i<q.length->gE (bif Nat.blt i l.length then f (off+i)else g (i - l.length)) (row c q i):=λi a=>by
 have d:=dw h;have e:q=l++m:=(bU h).2.symm;subst e;by_cases iv:i<l.length
 ·rw[Cv iv,hf i iv,gL a,gL iv,Tv iv];exact gE.refl _
 ·rw[Cw UN,hg _ UN,gL a,gL UN,TJ UN];exact gE.refl _
theorem pX:∀i,i<m.length->row c m i=row c m i:=λ_ _=>rfl
theorem ik {f:Nat->List PV} {off:Nat} (hs:qQ c f off m):∀i,i<m.length->f (off+i)=row c m i:=hs
def I3:List (List PV)->List (List PV)->Prop
 | [],[]=>True
 | a::l,b::r=>gE a b/\I3 l r
 | _,_=>False
theorem iE {a b lit:List PV} {l r:List (List PV)} (e:b=lit) (h:gE a lit) (t:I3 l r):I3 (a::l) (b::r):=⟨by rw[e];exact h,t⟩
theorem cU:∀{l r:List (List PV)},l=r->I3 l r
 | [],_,rfl=>trivial
 | a::l,_,rfl=>⟨gE.refl _,cU rfl⟩
theorem yP:∀{l r:List (List PV)},I3 l r->∀i,gE (l.getD i []) (r.getD i [])
 | [],[],_,i=>by simp;exact trivial
 | a::l,b::r,h,0=>h.1
 | a::l,b::r,h,i+1=>by simpa using yP h.2 i
 | [],_::_,h,_=>h.elim
 | _::_,[],h,_=>h.elim
theorem cA (c:α->List PV) (l:List α) {n:Nat} {cs:List (List PV)} (a:n=l.length) (h:I3 cs (l.map c)):∀i,i<n->gE (cs.getD i []) (row c l i):=λi _=>yP h i
theorem DH {k n off:Nat} {a b lit:List PV} (hk:k<l.length) (he:c x'=lit) (hc:gE (bY a off b) lit):∀j,j<n->gE (ax (row c l) k (bY a off b) j) (row c (l.set k x') j):=λj _=>by
 rw[<-he]at hc;unfold row ax;by_cases hj:j=k
 ·subst hj;simpa[Sz,hk]using hc
 ·have:Nat.beq j k=false:=by
   cases hb:Nat.beq j k with
   | false=>rfl
   | true=>exact absurd (No hb) hj
  rw[this];simp only[TX,Sz,SL,SN (Tl hj)];exact gE.refl _
theorem aB {a b new:List PV} {off:Nat} {f:Nat->List PV} (h:new=bY a off b):∀j,j<1->gE (ax f 0 (bY a off b) j) ((λ_=>new) j):=λj hj=>by
 obtain rfl:j=0:=by omega
 subst h;exact gE.refl _
end
section
variable {α:Type} [Inhabited α] {c:α->List PV} {l m:List α} {x x':α} {i lo hi:Int}
theorem bP (h:idx l i=some x):0<=i/\i<(l.length:Int):=(bU h).1
theorem CE (h:idx l i=some x):l[i.toNat]? =some x:=by
 have hb:=bP h;have a:i.toNat<l.length:=by omega
 rw[<-(bU h).2,Sz,As a];rfl
theorem bJ (h:idx l i=some x):i.toNat<l.length:=by have hb:=bP h;omega
theorem bx (h:idx l i=some x):row c l i.toNat=c x:=eQ (CE h)
end
section
variable {h η:List au}{k:List Nat}
theorem qc {pv:PV} (hp:bn pv=true):Fz h η k pv pv:=by
 cases pv with
 | int k n=>exact .int _ _
 | bool b=>exact .bool _
 | str s=>exact .str _
 | aD=>exact .aD
 | dx=>exact .dx
 | cP sz n f=>exact .cP _ _ _ _ (λ_ _=>rfl)
 | cN cs=>exact .cN _
 | fn f=>exact .fn _
 | _=>cases hp
theorem iV:∀{l:List PV},l.all bn=true->mo h η k l l
 | [],_=>trivial
 | a::l,hp=>by
  simp only[Tx,so]at hp;exact⟨qc hp.1,iV hp.2⟩
theorem Ic {cs:List PV} (hp:cs.all bn=true):Fz h η k (.agg cs) (.agg cs):=.aM (iV hp)
def Ey (h η:List au) (k:List Nat):List (Nat×Nat)->List (Nat×Nat)->Prop
 | [],[]=>True
 | p::r,a::b=>(k[a.1]? =some p.1/\(∃sz n e f,h[p.1]? =some (au.row p.2 sz n e f))/\∃sz n e f,η[a.1]? =some (au.row a.2 sz n e f)/\0<n)/\Ey h η k r b
 | _,_=>False
theorem Ey.get:∀(l b:List (Nat×Nat)),Ey h η k l b->b.length=l.length/\∀(j:Nat) (p a:Nat×Nat),l[j]? =some p->b[j]? =some a->
  k[a.1]? =some p.1/\(∃sz n e f,h[p.1]? =some (au.row p.2 sz n e f))/\∃sz n e f,η[a.1]? =some (au.row a.2 sz n e f)/\0<n
 | [],[],_=>⟨rfl,λj p a hj _=>by simp at hj⟩
 | [],_::_,hh=>hh.elim
 | _::_,[],hh=>hh.elim
 | q::r,g::d,hh=>by
  obtain⟨h1,h2⟩:=hh;obtain⟨q1,q2⟩:=Ey.get r d h2;refine⟨by simp [q1],λj p a hj c=>?_⟩;cases j with
  | zero=>
   simp at hj c;subst hj c;exact h1
  | succ j=>exact q2 j p a UW (by simpa using c)
theorem CF {α:Type} {c:α->List PV} (hp:∀x,(c x).all bn=true) {id g sz n off:Nat} {e:TypeId} {f:Nat->List PV} {l:List α} (hk:id∉k) (a:h[id]? =some (au.row g sz n e f)) (hs:qQ c f off l):
  Fz h η k (.own id g off l.length) (sl sz c l):=
 .Ct hk a rfl rfl (λi hi=>iU hp i) (λi hi=>by rw[hs i hi];exact iV (iU hp i))
theorem Ez {α:Type} {c:α->List PV} (hp:∀x,(c x).all bn=true) {id g sz n off len:Nat} {e:TypeId} {f:Nat->List PV} {l:List α} (hk:id∉k) (a:h[id]? =some (au.row g sz n e f)) (hs:qQ c f off l) (b:len=l.length):
  Fz h η k (.own id g off len) (sl sz c l):=by subst b;exact CF hp hk a hs
end
theorem xC {α:Type} {c:α->List PV} (hp:∀x,(c x).all bn=true) (N g sz n:Nat) (e:TypeId) (l:List α):cE N (.row g sz n e (row c l))=.row g sz n e (row c l):=by
 suffices e:(λi=>(row c l i).map (gN N))=row c l by unfold cE;simp only[e]
 funext i;have h:=iU (l:=l) hp i;generalize row c l i=q at h;induction q with
 | nil=>rfl
 | cons a r b=>
  simp only[Tx,so]at h;rw[SE,b h.2];cases a<;>first | rfl | cases h.1
theorem vE {α:Type} {c:α->List PV} (hp:∀x,(c x).all bn=true) (σ:Nat->Nat) (g sz n:Nat) (e:TypeId) (l:List α):ll σ (.row g sz n e (row c l))=.row g sz n e (row c l):=by
 suffices e:(λi=>(row c l i).map (iS σ))=row c l by unfold ll;simp only[e]
 funext i;have h:=iU (l:=l) hp i;generalize row c l i=q at h;induction q with
 | nil=>rfl
 | cons a r b=>
  simp only[Tx,so]at h;rw[SE,b h.2];cases a<;>first | rfl | cases h.1
theorem ACall.K1 {P:Program} {f:FuncId} {args:List PV} {r0:PV} (a:ACall P f args [] (λres h=>res=r0/\h=[])) (h:List au) (hp:args.all vF=true) (b:∀n,ie n r0=r0):
  ACall P f args h (λres h'=>res=r0/\h'=h):=
 (a.frame h hp).mono (by rintro _ _ ⟨_,_,⟨rfl,rfl⟩,rfl,rfl⟩;exact⟨b _,by simp⟩)
theorem ACall.K2 {P:Program} {f:FuncId} {args a:List PV} {r0:PV} (b:ACall P f a [] (λres h=>res=r0/\h=[])) (h:List au) (c:mo h [] [] args a) (d:a.all fp=true) (hf:sJ r0=true) (e:∀n,ie n r0=r0):
  ACall P f args h (λres h'=>res=r0/\h'=h):=
 (b.KX h c d (by rintro _ _ ⟨rfl,rfl⟩;exact⟨hf,by simp⟩)).mono (by rintro _ _ ⟨_,_,⟨rfl,rfl⟩,rfl,rfl⟩;exact⟨e _,by simp⟩)
section
variable {κ β:Type} [DecidableEq κ]
def gw:List (κ×β)->κ->Option β
 | [],_=>none
 | (a,b)::r,k=>if k=a then some b else gw r k
def BB (l:List (κ×β)) (k:κ) (z:β):β:=(gw l k).getD z
def Hu (l:List (κ×β)) (k:κ):Bool:=(gw l k).isSome
def il:List (κ×β)->κ->β->List (κ×β)
 | [],k,v=>[(k,v)]
 | (a,b)::r,k,v=>if k=a then(k,v)::r else(a,b)::il r k v
def mc (c:κ->PV) (d:β->PV) (p:κ×β):List PV:=[c p.1,d p.2]
def OY:PV->Bool
 | .agg cs=>cs.all bn
 | v=>bn v
theorem lK {c:κ->PV} {d:β->PV} {ti:TI} (he:∀a b,fu ti (c a) (c b)=some (decide (a=b))):∀(l:List (κ×β)) (k:κ) (n:Nat),n<=l.length->(∀j,j<n->∀p,l[j]? =some p->k≠p.1)->su ti (row (mc c d) l) n (c k):=λl k n f h j hj=>by
 have e:j<l.length:=by omega
 refine⟨c l[j].1,d l[j].2,by rw[gL e];rfl,?_⟩;rw[he,Tf (h j hj _ (As e))]
theorem vG:∀(l:List (κ×β)) (k:κ) (b:β),gw l k=some b->∃i,i<l.length/\l[i]? =some (k,b)/\∀j,j<i->∀p,l[j]? =some p->k≠p.1
 | [],_,_,h=>by cases h
 | (a,d)::r,k,b,h=>by
  unfold gw at h;by_cases hk:k=a
  ·rw[An hk]at h;obtain rfl:=SW h;subst hk;exact⟨0,by simp,rfl,λj hj=>absurd hj (S6 _)⟩
  ·rw[Is hk]at h;obtain⟨i,h1,h2,c⟩:=vG r k b h;refine⟨i+1,by simpa using h1,by simpa using h2,λj hj p hp=>?_⟩;cases j with
   | zero=>simp at hp;subst hp;exact hk
   | succ j=>exact c j UN p U3
theorem mC:∀(l:List (κ×β)) (k:κ),gw l k=none->∀(j:Nat) (p:κ×β),l[j]? =some p->k≠p.1
 | [],_,_,j,p,hp=>by simp at hp
 | (a,b)::r,k,h,j,p,hp=>by
  unfold gw at h;by_cases hk:k=a
  ·rw[An hk]at h;cases h
  ·rw[Is hk]at h;cases j with
   | zero=>simp at hp;subst hp;exact hk
   | succ j=>exact mC r k h j p U3
theorem BC {c:κ->PV} {d:β->PV} {ti:TI} (he:∀a b,fu ti (c a) (c b)=some (decide (a=b))) (l:List (κ×β)) (k:κ) (z:β):CG ti (row (mc c d) l) l.length (c k) (d z) (d (BB l k z)) (Hu l k):=by
 unfold BB Hu;cases h:gw l k with
 | some b=>
  obtain⟨i,h1,h2,e⟩:=vG l k b h;exact .inl ⟨rfl,i,h1,lK he l k i UN e,c k,by rw[eQ h2];rfl,by rw[he,Tg rfl]⟩
 | none=>exact .inr ⟨rfl,rfl,lK he l k _ (Sv _) (λj _ p hp=>mC l k h j p hp)⟩
theorem sK:∀(l:List (κ×β)) (k:κ) (v:β),gw l k=none->il l k v=l++[(k,v)]
 | [],_,_,_=>rfl
 | (a,b)::r,k,v,h=>by
  unfold gw at h;unfold il;by_cases hk:k=a
  ·rw[An hk]at h;cases h
  ·rw[Is hk]at h;rw[Is hk,sK r k v h];rfl
theorem sL:∀(l:List (κ×β)) (k:κ) (v b:β),gw l k=some b->∃i,i<l.length/\l[i]? =some (k,b)/\(∀j,j<i->∀p,l[j]? =some p->k≠p.1)/\(il l k v).length=l.length/\(il l k v)[i]? =some (k,v)/\∀j,j≠i->(il l k v)[j]? =l[j]?
 | [],_,_,_,h=>by cases h
 | (a,f)::r,k,v,b,h=>by
  unfold gw at h;unfold il;by_cases hk:k=a
  ·rw[An hk]at h;obtain rfl:=SW h;rw[An hk];subst hk;exact⟨0,by simp,rfl,λj hj=>absurd hj (S6 _),by simp,rfl,λj hj=>by cases j with | zero=>exact absurd rfl hj | succ j=>rfl⟩
  ·rw[Is hk]at h;obtain⟨i,h1,h2,c,h4,d,e⟩:=sL r k v b h;rw[Is hk];refine⟨i+1,by simpa using h1,by simpa using h2,λj hj p hp=>?_,by simpa using h4,by simpa using d,λj hj=>?_⟩
   ·cases j with
    | zero=>simp at hp;subst hp;exact hk
    | succ j=>exact c j UN p U3
   ·cases j with
    | zero=>rfl
    | succ j=>simpa using e j UN
theorem yn {c:κ->PV} {d:β->PV} {ti:TI} (he:∀a b,fu ti (c a) (c b)=some (decide (a=b))) (l:List (κ×β)) (k:κ) (v:β):K3 ti (row (mc c d) l) l.length (c k) (d v) (il l k v).length (row (mc c d) (il l k v)):=by
 cases h:gw l k with
 | some b=>
  obtain⟨i,h1,h2,e,h4,f,g⟩:=sL l k v b h;refine .inl ⟨i,d b,⟨h1,lK he l k i UN e,c k,by rw[eQ h2];rfl,by rw[he,Tg rfl]⟩,h4,by rw[eQ f];rfl,λj hj bO=>?_⟩;rw[eQ (As hj),eQ ((g j bO).trans (As hj))]
 | none=>
  rw[sK l k v h];refine .inr ⟨lK he l k _ (Sv _) (λj _ p hp=>mC l k h j p hp),by simp,?_,λj hj=>?_⟩
  ·rw[eQ (x:=(k,v)) UQ];rfl
  ·rw[eQ (As hj),eQ (x:=l[j]) (by rw[SR hj,As hj])]
end
theorem FG {h η:List au} {k:List Nat} {pv:PV} (hp:OY pv=true):Fz h η k pv pv:=by
 cases pv with
 | agg cs=>exact Ic hp
 | _=>exact qc hp
theorem tN {h η:List au} {k:List Nat} {κ β:Type} {c:κ->PV} {d:β->PV} (hc:∀x,OY (c x)=true) (hd:∀x,OY (d x)=true) {l:List (κ×β)} {n:Nat}:∀i,i<n->mo h η k (row (mc c d) l i) (row (mc c d) l i):=λi _=>by
 by_cases h:i<l.length
 ·rw[gL h];exact⟨FG (hc _),FG (hd _),trivial⟩
 ·unfold row;simp [Sz,SZ (show l.length<=i by omega)];trivial
theorem ln {a b:Nat} (h:a=b:=by first | rfl | simp):a=b:=h
class mh {α:Type} (c:α->List PV):Prop where
 pure:∀x,(c x).all bn=true
instance:mh cI:=⟨Et⟩
instance (k:IntKind):mh (Ib k):=⟨zV k⟩
instance:mh cB:=⟨Eu⟩
instance:mh cT:=⟨Ev⟩
instance:mh cS:=⟨Ew⟩
instance {α:Type} (sz:Nat) (c:α->List PV):mh (cL sz c):=⟨Ex sz c⟩
instance (a b:IntKind):mh (mc (PV.int a) (PV.int b)):=⟨λ_=>rfl⟩
instance (a:IntKind):mh (mc (PV.int a) PV.bool):=⟨λ_=>rfl⟩
instance (a:IntKind):mh (mc (PV.int a) PV.str):=⟨λ_=>rfl⟩
instance (b:IntKind):mh (mc PV.str (PV.int b)):=⟨λ_=>rfl⟩
instance:mh (mc PV.str PV.bool):=⟨λ_=>rfl⟩
instance:mh (mc PV.str PV.str):=⟨λ_=>rfl⟩
def FH {α:Type} (l:List α) (off:Nat) (s:List α):List α:=l.mapIdx λi x=>if i<off then x else if i<off+s.length then s.getD (i - off) x else x
@[simp] theorem I4 {α:Type} (l:List α) (off:Nat) (s:List α):(FH l off s).length=l.length:=by unfold FH;simp
section
variable {h η:List au}{k:List Nat}
theorem Fz.i {q:IntKind} {a b:Int} (e:a=b:=by rfl):Fz h η k (.int q a) (.int q b):=.int_eq e
theorem Fz.b {a b:Bool} (e:a=b:=by rfl):Fz h η k (.bool a) (.bool b):=.yO e
theorem Fz.s {a b:List UInt8} (e:a=b:=by rfl):Fz h η k (.str a) (.str b):=.Cs e
theorem Fz.l {sz n:Nat} {f:Nat->List PV}:Fz h η k (.cP sz n f) (.cP sz n f):=.cP _ _ _ _ (λ_ _=>rfl)
theorem Fz.z {α:Type} {c:α->List PV} {sz:Nat}:Fz h η k .aD (sl sz c []):=.FI _ _
theorem Fz.g {id a b c:Nat} {d:TypeId} {e:Nat->List PV} (hk:k[a]? =some id:=by rfl) (f:h[id]? =none:=by rfl) (hη:η[a]? =some (au.row b c 0 d e):=by rfl):Fz h η k .aD (.own a b 0 0):=.K4 id a b c d e hk f hη
theorem Fz.o {id a g b sz c n len:Nat} {e d:TypeId} {f i:Nat->List PV} (hk:k[a]? =some id:=by rfl) (j:h[id]? =some (au.row g sz n e f):=by rfl) (hη:η[a]? =some (au.row b c len d i):=by rfl):Fz h η k (.own id g 0 len) (.own a b 0 len):=
 .own _ _ _ _ _ _ _ _ _ _ _ _ _ _ hk j hη (T6 (Sx _))
theorem Fz.p {id a g b sz c n d off:Nat} {e i:TypeId} {f j:Nat->List PV} (hk:k[a]? =some id:=by rfl) (l:h[id]? =some (au.row g sz n e f):=by rfl) (hη:η[a]? =some (au.row b c (d+1) i j):=by rfl):Fz h η k (.aH id g 0 off) (.aH a b 0 off):=
 .aH _ _ _ _ _ _ _ _ _ _ _ _ _ _ hk l hη (Nat.succ_pos _)
theorem Fz.m {id a g b sz c n d:Nat} {e i:TypeId} {f j:Nat->List PV} (hk:k[a]? =some id:=by rfl) (l:h[id]? =some (au.row g sz n e f):=by rfl) (hη:η[a]? =some (au.row b c d i j):=by rfl):Fz h η k (.gS id) (.gS a):=
 .gS _ _ _ _ _ _ _ _ _ _ _ _ hk l hη
theorem Fz.j {pv:PV}:Fz h η k pv .dA:=.dA _
theorem Fz.f {n:Nat}:Fz h η k (.fn n) (.fn n):=.fn _
theorem Fz.r {α:Type} {c:α->List PV} [mh c] {id g sz n:Nat} {e:TypeId} {l:List α} (a:h[id]? =some (au.row g sz n e (row c l)):=by rfl) (hk:id∉k:=by first | decide | simp):Fz h η k (.own id g 0 l.length) (sl sz c l):=CF mh.pure hk a aS
theorem Fz.rx {α:Type} {c:α->List PV} [mh c] {id g sz n len:Nat} {e:TypeId} {l:List α} (a:len=l.length) (b:h[id]? =some (au.row g sz n e (row c l)):=by rfl) (hk:id∉k:=by first | decide | simp):Fz h η k (.own id g 0 len) (sl sz c l):=Ez mh.pure hk b aS a
variable {m:Nat}
theorem od {α:Type} {c:α->List PV} [mh c] {id g sz:Nat} {e:TypeId} {l:List α} (a:h[id]? =some (au.row g sz l.length e (row c l)):=by rfl):mT h η k m (.row g sz l.length e (row c l)) id id:=by
 unfold mT;rw[a];exact⟨λ_=>⟨rfl,rfl⟩,rfl,.inl rfl,rfl,λi _=>iV (iU mh.pure i)⟩
theorem ob {id g sz:Nat} {e:TypeId} {a b:List PV} (c:h[id]? =some (au.row g sz 1 e (λ_=>a))) (F:mo h η k a b):mT h η k m (.row g sz 1 e (λ_=>b)) id id:=by
 unfold mT;rw[c];exact⟨λ_=>⟨rfl,rfl⟩,rfl,.inl rfl,rfl,λi _=>F⟩
theorem nw {α:Type} {c:α->List PV} [mh c] {i id g a sz:Nat} {e:TypeId} {l:List α} (hi:Nat.ble m i=true:=by rfl) (b:h[id]? =some (au.row g sz l.length e (row c l)):=by rfl):mT h η k m (.row a sz l.length e (row c l)) i id:=by
 unfold mT;rw[b];exact⟨λh0=>absurd h0 (Nat.not_lt.2 (SI hi)),rfl,.inl rfl,rfl,λi _=>iV (iU mh.pure i)⟩
theorem nb {i id g c sz:Nat} {e:TypeId} {a b:List PV} (d:h[id]? =some (au.row g sz 1 e (λ_=>a))) (F:mo h η k a b) (hi:Nat.ble m i=true:=by rfl):mT h η k m (.row c sz 1 e (λ_=>b)) i id:=by
 unfold mT;rw[d];exact⟨λh0=>absurd h0 (Nat.not_lt.2 (SI hi)),rfl,.inl rfl,rfl,λi _=>F⟩
theorem oA {id g sz:Nat} {e:TypeId} {a:List PV} (b:h[id]? =some (au.row g sz 1 e (λ_=>a))) (hp:a.all bn=true:=by rfl):mT h η k m (.row g sz 1 e (λ_=>a)) id id:=ob b (iV hp)
theorem ed {i id g b sz:Nat} {e:TypeId} {a:List PV} (c:h[id]? =some (au.row g sz 1 e (λ_=>a))) (hp:a.all bn=true:=by rfl) (hi:Nat.ble m i=true:=by rfl):mT h η k m (.row b sz 1 e (λ_=>a)) i id:=nb c (iV hp) hi
theorem dd {i id:Nat}:mT h η k m .dead i id:=by unfold mT;trivial
theorem gh {i id a b:Nat} {c:TypeId} {d:Nat->List PV} (hi:Nat.ble m i=true:=by rfl) (e:h[id]? =none:=by rfl):mT h η k m (.row a b 0 c d) i id:=by
 unfold mT;rw[e];exact⟨SI hi,rfl⟩
theorem tk {env:Env} {σ:List (Nat×PV)} (k:List Nat) (he:yQ h η k env σ) (hh:iW h η k m 0 η k) (hd:ig (hI η k)=true:=by rfl) (a:Nat.ble m k.length=true:=by rfl):nO m env h σ η:=⟨k,hd,SI a,he,hh⟩
theorem ct {J:List (Nat×PV)->List au->Prop} {env:Env} {σ:List (Nat×PV)} (hj:J σ η) (a:nO m env h σ η):nP m J env h:=.mk σ η a hj
theorem lg {body:(Env->List au->Prop)->Env->List au->Prop} {env:Env} {σ:List (Nat×PV)} (hj:a7 m body σ η) (a:nO m env h σ η):loopGo m body env h:=.mk σ η a hj
theorem le {body:(Env->List au->Prop)->Env->List au->Prop} {env:Env} {σ:List (Nat×PV)} (hj:a7 m body σ η) (a:nO m env h σ η):js m body env h:=.take σ η a hj
theorem en {R:PV->List au->Prop} {vs:List PV} {res:PV} (k:List Nat) (a:R res η) (F:Fz h η k (oneOf vs) res) (hh:iW h η k m 0 η k) (hd:ig (hI η k)=true:=by rfl) (b:Nat.ble m k.length=true:=by rfl) (c:vs.all fp=true:=by rfl):Ends m R h vs:=by
 exact .mk c k res η hd (SI b) F hh a
theorem eB {a r:Bool} (hh:some a=some r):Ends 0 (λres h=>res=.bool r/\h=[]) h [.bool a]:=.mk rfl [] _ [] rfl (Sv _) (.yO (SW hh)) trivial ⟨rfl,rfl⟩
theorem eI {q:IntKind} {a r:Int} (hh:some a=some r):Ends 0 (λres h=>res=.int q r/\h=[]) h [.int q a]:=.mk rfl [] _ [] rfl (Sv _) (.int_eq (SW hh)) trivial ⟨rfl,rfl⟩
theorem eS {a r:List UInt8} (hh:some a=some r):Ends 0 (λres h=>res=.str r/\h=[]) h [.str a]:=.mk rfl [] _ [] rfl (Sv _) (.Cs (SW hh)) trivial ⟨rfl,rfl⟩
end
section
variable {α:Type}{x y r:α}{T F:Prop}
theorem sD {c:Prop} [Decidable c] (h:(if c then x else y)=r) (a:decide c=true->x=r->T) (b:decide c=false->y=r->F):cw (decide c) T F:=.mk (λhb=>a hb (FC hb h)) (λhb=>b hb (FD hb h))
theorem QM {c:Prop} [Decidable c] (h:(if c then x else y)=r) (a:(!decide c)=true->y=r->T) (b:(!decide c)=false->x=r->F):cw (!decide c) T F:=.mk (λhb=>a hb (FD (CB hb) h)) (λhb=>b hb (FC (CA hb) h))
theorem sE {β:Type} [BEq β] [LawfulBEq β] {a b:β} [Decidable (a=b)] (h:(if a=b then x else y)=r) (c:(a==b)=true->x=r->T) (d:(a==b)=false->y=r->F):cw (a==b) T F:=.mk (λhb=>c hb (Cy hb h)) (λhb=>d hb (Cz hb h))
theorem LF {β:Type} [BEq β] [LawfulBEq β] {a b:β} [Decidable (a=b)] (h:(if a=b then x else y)=r) (c:(!(a==b))=true->y=r->T) (d:(!(a==b))=false->x=r->F):cw (!(a==b)) T F:=.mk (λhb=>c hb (Cz (CB hb) h)) (λhb=>d hb (Cy (CA hb) h))
theorem sN {β:Type} [BEq β] [LawfulBEq β] {a b:β} [Decidable (a=b)] (h:(if a=b then x else y)=r) (c:(a != b)=true->y=r->T) (d:(a != b)=false->x=r->F):cw (a != b) T F:=.mk (λhb=>c hb (KZ hb h)) (λhb=>d hb (K0 hb h))
theorem sV {b:Bool} (h:(if b=true then x else y)=r) (a:b=true->x=r->T) (c:b=false->y=r->F):cw b T F:=.mk (λhb=>a hb (FE hb h)) (λhb=>c hb (FF hb h))
theorem mR {b:Bool} (h:(if b=true then x else y)=r) (a:(!b)=true->y=r->T) (c:(!b)=false->x=r->F):cw (!b) T F:=.mk (λhb=>a hb (FF (CB hb) h)) (λhb=>c hb (FE (CA hb) h))
end
theorem cw.t {T F:Prop} (h:T):cw true T F:=CC h
theorem cw.f {T F:Prop} (h:F):cw false T F:=CD h
theorem cw.kt {b:Bool} {T F:Prop} (hb:b=true) (h:T):cw b T F:=zT hb h
theorem cw.kf {b:Bool} {T F:Prop} (hb:b=false) (h:F):cw b T F:=zU hb h
theorem lu.d {m:Nat} {A B:XQ->Env->List au->Prop} {Q:XQ} {env:Env} {h:List au} (hd:A (XQ.then (B Q) Q) env h):lu m A B Q env h:=.direct hd
inductive Nz:PV->PV->Prop
 | same (a:PV):Nz a a
 | nil (sz:Nat) (f:Nat->List PV):Nz .aD (.cP sz 0 f)
def K5:List PV->List PV->Prop
 | [],[]=>True
 | a::l,b::r=>Nz a b/\K5 l r
 | _,_=>False
inductive K6:PV->PV->Prop
 | same (a:PV):K6 a a
 | nil (sz:Nat) (f:Nat->List PV):K6 .aD (.cP sz 0 f)
 | agg {cs rT:List PV} (h:K5 cs rT):K6 (.agg cs) (.agg rT)
def CH:List PV->List PV->Prop
 | [],[]=>True
 | a::l,b::r=>K6 a b/\CH l r
 | _,_=>False
theorem K5.get:∀{l r:List PV},K5 l r->r.length=l.length/\∀(j:Nat) (p:PV),r[j]? =some p->∃q:PV,l[j]? =some q/\Nz q p
 | [],[],_=>⟨rfl,λj p h=>by simp at h⟩
 | a::l,b::r,h=>by
  obtain⟨h1,h2⟩:=K5.get h.2;refine⟨by simp [h1],λj p hj=>?_⟩;cases j with
  | zero=>simp at hj;subst hj;exact⟨a,rfl,h.1⟩
  | succ j=>obtain⟨q,q1,q2⟩:=h2 j p UW;exact⟨q,by simpa using q1,q2⟩
 | [],_::_,h=>h.elim
 | _::_,[],h=>h.elim
theorem CH.get:∀{l r:List PV},CH l r->r.length=l.length/\∀(j:Nat) (p:PV),r[j]? =some p->∃q:PV,l[j]? =some q/\K6 q p
 | [],[],_=>⟨rfl,λj p h=>by simp at h⟩
 | a::l,b::r,h=>by
  obtain⟨h1,h2⟩:=CH.get h.2;refine⟨by simp [h1],λj p hj=>?_⟩;cases j with
  | zero=>simp at hj;subst hj;exact⟨a,rfl,h.1⟩
  | succ j=>obtain⟨q,q1,q2⟩:=h2 j p UW;exact⟨q,by simpa using q1,q2⟩
 | [],_::_,h=>h.elim
 | _::_,[],h=>h.elim
theorem ACall.JL {P:Program} {f:FuncId} {args b:List PV} {h:List au} {R:PV->List au->Prop} (d:ACall P f b h R) (g:CH args b):ACall P f args h R:=by
 obtain⟨k,hg⟩:=g.get;refine⟨d.1,λw vs μ S l m dp ha=>d.2 w vs μ S l m (by rw[k];exact dp) (λj pv hj=>?_)⟩;obtain⟨q,q1,q2⟩:=hg j pv hj;obtain⟨v,h1,h2⟩:=ha j q q1;refine⟨v,h1,?_⟩;cases q2 with
 | same=>exact h2
 | nil sz f=>
  have a:aI S w .aD v:=h2;cases a;exact aI.iq _ _ _ _
 | agg hc=>
  obtain⟨us,n,o,p⟩:=h2;obtain⟨r,s⟩:=hc.get;refine⟨us,n,by rw[r];exact o,λi c hi=>?_⟩;obtain⟨t,x,y⟩:=s i c hi;obtain⟨u,z,e⟩:=p i t x;refine⟨u,z,?_⟩;cases y with
  | same=>exact e
  | nil sz f=>
   have a:aI S w .aD u:=e;cases a;exact aI.iq _ _ _ _
section
variable {P:Program}{f:FuncId}{args:List PV}{h:List au}{K:PV->List au->Prop}{r0:PV}
theorem dS (a:ACall P f args [] (λres h=>res=r0/\h=[])) (k:K r0 h) (hp:args.all vF=true:=by rfl) (b:∀n,ie n r0=r0:=by intro _;rfl):kY P f args h K:=
 ⟨_,a.K1 h hp b,by rintro _ _ ⟨rfl,rfl⟩;exact k⟩
theorem Bf {a:List PV} (b:ACall P f a [] (λres h=>res=r0/\h=[])) (c:mo h [] [] args a) (k:K r0 h) (d:a.all fp=true:=by rfl) (hf:sJ r0=true:=by rfl) (e:∀n,ie n r0=r0:=by intro _;rfl):kY P f args h K:=
 ⟨_,b.K2 h c d hf e,by rintro _ _ ⟨rfl,rfl⟩;exact k⟩
theorem shr {α:Type} {c:α->List PV} [mh c] (N g sz n:Nat) (e:TypeId) (l:List α):cE N (.row g sz n e (row c l))=.row g sz n e (row c l):=xC mh.pure N g sz n e l
theorem Dg {α:Type} {c:α->List PV} [mh c] (σ:Nat->Nat) (g sz n:Nat) (e:TypeId) (l:List α):ll σ (.row g sz n e (row c l))=.row g sz n e (row c l):=vE mh.pure σ g sz n e l
theorem PQ {h0:List au} (b:ACall P f args [] (λres h=>res=r0/\h=h0)) (a:PV) (h1:List au) (k:K a h1) (c:h++h0.map (cE h.length)=h1:=by simp only[SE,SS,shr];rfl) (d:ie h.length r0=a:=by rfl) (hp:args.all vF=true:=by rfl):kY P f args h K:=
 ⟨_,b.frame h hp,by rintro _ _ ⟨_,_,⟨rfl,rfl⟩,rfl,rfl⟩;rw[d,c];exact k⟩
def Ie (h:List au) (σ:Nat->Nat):List au->List Nat->Prop
 | [],_=>True
 | o::r,i::is=>h[i]? =some (ll σ o)/\Ie h σ r is
 | _::_,[]=>False
theorem Ie.get {h:List au} {σ:Nat->Nat}:∀{hc:List au} {is:List Nat},Ie h σ hc is->∀(j:Nat) (o:au),hc[j]? =some o->∃i:Nat,is[j]? =some i/\h[i]? =some (ll σ o)
 | [],_,_,j,o,hj=>by simp at hj
 | a::r,[],hh,_,_,_=>hh.elim
 | a::r,i::is,hh,0,o,hj=>by simp at hj;subst hj;exact⟨i,rfl,hh.1⟩
 | a::r,i::is,hh,j+1,o,hj=>by
  obtain⟨q,h1,h2⟩:=Ie.get hh.2 j o UW;exact⟨q,by simpa using h1,h2⟩
theorem ov {α:Type} {c:α->List PV} [mh c] {σ:Nat->Nat} {g sz n:Nat} {e:TypeId} {l:List α} {x:Option au} (hx:x=some (.row g sz n e (row c l)):=by rfl):x=some (ll σ (.row g sz n e (row c l))):=by rw[vE mh.pure];exact hx
theorem ACall.FJ {hc:List au} {args a:List PV} {R:PV->List au->Prop} (b:ACall P f args hc R) (is:List Nat) (h:List au) (c:Ie h (dK is h.length) hc is) (d:hc.length=is.length) (hd:is.Nodup) (e:is.all (λid=>Nat.blt id h.length)=true)
  (g:a=args.map (rS (dK is h.length))):ACall P f a h (λres h'=>∃r0 h0,R r0 h0/\res=zO (dK is h.length) r0/\h'=kg h is h0):=
 b.over is h d hd (λid hid=>SI (Sy.1 e id hid)) (λj o hj=>by
  obtain⟨i,h1,h2⟩:=c.get j o hj;unfold dK;rw[h1];exact h2) g
theorem gl {hc h0:List au} {args a:List PV} (c:ACall P f args hc (λres h=>res=r0/\h=h0)) (is:List Nat) (d:Ie h (dK is h.length) hc is) (b:PV) (h1:List au) (k:K b h1) (e:kg h is h0=h1:=by simp only[kg,eo,SE,SS,List.drop,SA,SK,Dg];rfl) (g:zO (dK is h.length) r0=b:=by rfl)
  (i:hc.length=is.length:=by rfl) (hd:is.Nodup:=by decide) (j:is.all (λid=>Nat.blt id h.length)=true:=by rfl) (l:a=args.map (rS (dK is h.length)):=by rfl):kY P f a h K:=
 ⟨_,c.FJ is h d i hd j l,by rintro _ _ ⟨_,_,⟨rfl,rfl⟩,rfl,rfl⟩;rw[g,e];exact k⟩
end
theorem si {α:Type} {a b:α} (h:some a=some b):a=b:=SW h
theorem bk {α β:Type} {x:Option α} {f:α->Option β} {r:β} {G:Prop} (h:(x>>=f)=some r) (k:∀a,x=some a->f a=some r->G):G:=by
 obtain⟨a,h1,h2⟩:=bind_some h;exact k a h1 h2
theorem bd {α β:Type} {x:Option α} {f:α->Option β} {r:β} (h:(x>>=f)=some r):∃a,x=some a/\f a=some r:=bind_some h
structure DR {α:Type} (D:List PV->α->Prop) (n:Nat) (f:Nat->List PV) (l:List α):Prop where
 len:l.length=n
 at_:∀i (h:i<l.length),D (f i) l[i]
 z:∀i,n<=i->f i=[]
inductive FK:PV->PV->Prop
 | p {a:PV} (h:bn a=true):FK a a
 | o {a b:PV} (h:qR a b):FK a b
def pJ:List PV->List PV->Prop
 | [],[]=>True
 | a::l,b::r=>FK a b/\pJ l r
 | _,_=>False
class yh {α:Type} (D:List PV->α->Prop) (c:outParam (α->List PV)):Prop where
 KW:∀cs x,D cs x->pJ cs (c x)
def Qm {α:Type} (c:α->List PV):List PV->α->Prop:=λcs x=>cs=c x
theorem pJ.len:∀{l r:List PV},pJ l r->r.length=l.length
 | [],[],_=>rfl
 | a::l,b::r,h=>congrArg (·+1) (pJ.len h.2)
 | [],_::_,h=>h.elim
 | _::_,[],h=>h.elim
theorem pJ.get:∀{l r:List PV},pJ l r->∀{j:Nat} {a b:PV},l[j]? =some a->r[j]? =some b->FK a b
 | a::l,b::r,h,0,x,y,hx,hy=>by simp at hx hy;subst hx hy;exact h.1
 | a::l,b::r,h,j+1,x,y,hx,hy=>pJ.get h.2 (by simpa using hx) Va
 | [],_,h,j,x,y,hx,hy=>by simp at hx
 | _::_,[],h,_,_,_,_,_=>h.elim
theorem pJ.pure:∀{l:List PV},l.all bn=true->pJ l l
 | [],_=>trivial
 | a::l,h=>by
  simp only[Tx,so]at h;exact⟨.p h.1,pJ.pure h.2⟩
theorem qR.Qn {a b:PV} (h:qR a b):cg a=true:=by cases h;rfl
theorem qR.yR {a b:PV} (h:qR a b):bn b=true:=by cases h;rfl
theorem FK.po {a b:PV} (h:FK a b):bn a=true\/cg a=true:=by
 cases h with
 | p h=>exact .inl h
 | o h=>exact .inr h.Qn
theorem FK.yR {a b:PV} (h:FK a b):bn b=true:=by
 cases h with
 | p h=>exact h
 | o h=>exact h.yR
theorem pJ.po {l r:List PV} (h:pJ l r):∀c,c∈l->bn c=true\/cg c=true:=λc hc=>by
 obtain⟨j,hj,rfl⟩:=List.getElem_of_mem hc;have a:=h.len;exact(h.get (As hj) (As (show j<r.length by omega))).po
instance {α:Type} (c:α->List PV) [hp:mh c]:yh (Qm c) c:=⟨λcs x h=>by
 have h:cs=c x:=h;subst h;exact pJ.pure (hp.pure x)⟩
theorem xD {a:PV} (h:cg a=true):bn a=false:=by cases a<;>first | rfl | cases h
theorem Ig {σ:Nat->Nat} {a:PV} (h:bn a=true\/cg a=true):iS σ a=a:=by cases a<;>first | rfl | (rcases h with h | h<;>cases h)
theorem CI {N:Nat} {a:PV} (h:bn a=true\/cg a=true):gN N a=a:=by cases a<;>first | rfl | (rcases h with h | h<;>cases h)
theorem CJ {g:PV->PV}:∀{l:List PV},(∀c,c∈l->g c=c)->l.map g=l
 | [],_=>rfl
 | a::l,h=>by simp only[SE];rw[h a UQ,CJ (λc hc=>h c (by simp [hc]))]
section
variable {α:Type}{D:List PV->α->Prop}{c:α->List PV}{n:Nat}{f:Nat->List PV}{l:List α}
theorem nQ (d:∀i (h:i<l.length),pJ (f i) (c l[i])) (g:l.length=n) (sz:Nat) (e:TypeId) (F:Nat->Prop):qR (.aG sz n e f F) (sl sz c l):=by
 subst g;have at_:∀i,i<l.length->pJ (f i) (row c l i):=λi hi=>by rw[gL hi];exact d i hi
 refine .mk sz l.length e f (row c l) F (λi hi=>(at_ i hi).len) (λi j pv b hi h1 h2 a=>?_) (λi j pv b hi h1 h2 a=>?_) (λi j b hi h2=>?_)
 ·cases(at_ i hi).get h1 h2 with
  | p _=>rfl
  | o h=>rw[h.Qn]at a;cases a
 ·cases(at_ i hi).get h1 h2 with
  | p h=>rw[xD a]at h;cases h
  | o h=>exact h
 ·have hj:j<(f i).length:=by rw[<-(at_ i hi).len];exact(an.1 h2).1
  exact((at_ i hi).get (As hj) h2).yR
theorem DR.od [hc:yh D c] (d:DR D n f l):∀i (h:i<l.length),pJ (f i) (c l[i]):=λi h=>hc.KW _ _ (d.at_ i h)
theorem DR.po [hc:yh D c] (d:DR D n f l):∀i,i<n->∀x,x∈f i->bn x=true\/cg x=true:=λi hi=>(d.od (c:=c) i (by rw[d.len];exact hi)).po
theorem DR.Qo [hc:yh D c] (d:DR D n f l) {g:PV->PV} (hg:∀x,bn x=true\/cg x=true->g x=x):(λi=>(f i).map g)=f:=by
 funext i;by_cases hi:i<n
 ·exact CJ (λx hx=>hg x (d.po (c:=c) i hi x hx))
 ·rw[d.z i UN];rfl
theorem red [hc:yh D c] (d:DR D n f l) (σ:Nat->Nat) (g sz a:Nat) (e:TypeId):ll σ (.row g sz a e f)=.row g sz a e f:=by
 show au.row g sz a e (λi=>(f i).map (iS σ))=_;rw[d.Qo (c:=c) (λx=>Ig)]
theorem DK [hc:yh D c] (d:DR D n f l) (N g sz a:Nat) (e:TypeId):cE N (.row g sz a e f)=.row g sz a e f:=by
 show au.row g sz a e (λi=>(f i).map (gN N))=_;rw[d.Qo (c:=c) (λx=>CI)]
theorem uE [hc:yh D c] (d:DR D n f l) {σ:Nat->Nat} {g sz a:Nat} {e:TypeId} {x:Option au} (hx:x=some (.row g sz a e f):=by rfl):x=some (ll σ (.row g sz a e f)):=by rw[red (c:=c) d];exact hx
theorem DR.self (d:DR D n f l):DR D l.length f l:=by have h:=d.len;subst h;exact d
theorem DR.nil:DR D 0 (λ_=>[]) []:=⟨rfl,λi h=>absurd h (S6 _),λ_ _=>rfl⟩
theorem aA {f:Nat->List PV} {i:Nat} {cs:List PV}:ax f i cs i=cs:=by
 unfold ax;rw[show Nat.beq i i=true from Tn i];rfl
theorem dD {f:Nat->List PV} {i k:Nat} {cs:List PV} (h:k≠i):ax f i cs k=f k:=by
 unfold ax;rw[show Nat.beq k i=false from Bool.eq_false_iff.2 (λq=>h (No q))];rfl
theorem DR.set (d:DR D n f l) {i:Nat} (hi:i<l.length) {cs:List PV} {x:α} (hx:D cs x):DR D n (ax f i cs) (l.set i x):=by
 refine⟨by rw[Te];exact d.len,λk hk=>?_,λk hk=>?_⟩
 ·rw[Te]at hk;rw[List.getElem_set];by_cases h:i=k
  ·subst h;rw[An rfl,aA];exact hx
  ·rw[Is h,dD (Tl h)];exact d.at_ k hk
 ·have:=d.len;rw[dD UN];exact d.z k hk
theorem DR.app (d:DR D n f l) {cs:List PV} {x:α} (hx:D cs x):DR D (n+1) (ax f n cs) (l++[x]):=by
 have a:=d.len;refine⟨by simp [a],λk hk=>?_,λk hk=>?_⟩
 ·by_cases h:k=n
  ·subst h;rw[aA,TJ UN];simp only[a,Tm,List.getElem_cons_zero];exact hx
  ·rw[dD h,Tv (by simp at hk;omega)];exact d.at_ k (by simp at hk;omega)
 ·rw[dD UN];exact d.z k UN
theorem DR.idx [Inhabited α] (d:DR D n f l) {i:Int} {x:α} (h:Go.Am.idx l i=some x):D (f i.toNat) x:=by
 have h1:=CE h;obtain⟨h2,a⟩:=an.1 h1;rw[<-a];exact d.at_ _ h2
theorem DR.lt [Inhabited α] (d:DR D n f l) {i:Int} {x:α} (h:Go.Am.idx l i=some x):i.toNat<n:=by rw[<-d.len];exact bJ h
theorem DR.bd [Inhabited α] (d:DR D n f l) {i:Int} {x:α} (h:Go.Am.idx l i=some x):0<=i/\i<(n:Int):=by rw[<-d.len];exact bP h
variable {h η:List au}{k:List Nat}{m:Nat}
theorem K7 {a:PV} (hp:bn a=true\/cg a=true):Fz h η k a a:=by
 cases a<;>first | exact qc rfl | exact .aG _ _ _ _ _ | (rcases hp with hp | hp<;>cases hp)
theorem tF:∀{l:List PV},(∀c,c∈l->bn c=true\/cg c=true)->mo h η k l l
 | [],_=>trivial
 | a::l,hp=>⟨K7 (hp a UQ),tF (λc hc=>hp c (by simp [hc]))⟩
theorem Fz.rd [hc:yh D c] {id g sz a b:Nat} {e:TypeId} (d:DR D n f l) (m:b=l.length:=by first | rfl | simp [*]) (q:h[id]? =some (au.row g sz a e f):=by rfl) (hk:id∉k:=by first | decide | simp):Fz h η k (.own id g 0 b) (sl sz c l):=by
 subst m;have at_:∀i,i<l.length->pJ (f i) (row c l i):=λi hi=>by rw[gL hi];exact d.od (c:=c) i hi
 refine .KW id g sz a 0 l.length e f (row c l) hk q (λi hi=>by rw[Sx];exact(at_ i hi).len) (λi j r hi h2=>?_) (λi j pv r hi h1 h2 s=>?_)
 ·have hj:j<(f i).length:=by rw[<-(at_ i hi).len];exact(an.1 h2).1
  exact((at_ i hi).get (As hj) h2).yR
 ·rw[Sx]at h1;cases(at_ i hi).get h1 h2 with
  | p h=>exact qc h
  | o h=>exact absurd h s
theorem ma [hc:yh D c] {id g sz b a:Nat} {e:TypeId} (d:DR D n f l) (j:a=b:=by first | rfl | simp [*]) (hle:a=n:=by first | rfl | simp [*]) (o:h[id]? =some (au.row g sz b e f):=by rfl):mT h η k m (.row g sz a e f) id id:=by
 subst j hle;unfold mT;rw[o];exact⟨λ_=>⟨rfl,rfl⟩,rfl,.inl rfl,rfl,λi hi=>tF (d.po (c:=c) i hi)⟩
theorem tK [hc:yh D c] {i id g j sz b a:Nat} {e:TypeId} (d:DR D n f l) (o:a=b:=by first | rfl | simp [*]) (hle:a=n:=by first | rfl | simp [*]) (hi:Nat.ble m i=true:=by rfl) (p:h[id]? =some (au.row g sz b e f):=by rfl):mT h η k m (.row j sz a e f) i id:=by
 subst o hle;unfold mT;rw[p];exact⟨λh0=>absurd h0 (Nat.not_lt.2 (SI hi)),rfl,.inl rfl,rfl,λi hi=>tF (d.po (c:=c) i hi)⟩
theorem Fz.od {id a g c sz j l d b i:Nat} {e m:TypeId} {f n:Nat->List PV} (h1:d=b:=by first | rfl | simp [*]) (h2:b=i:=by first | rfl | simp [*]) (hk:k[a]? =some id:=by rfl) (o:h[id]? =some (au.row g sz l e f):=by rfl) (hη:η[a]? =some (au.row c j i m n):=by rfl):Fz h η k (.own id g 0 d) (.own a c 0 b):=by
 subst h1 h2;exact .own _ _ _ _ _ _ _ _ _ _ _ _ _ _ hk o hη (T6 (Sx _))
theorem zq (id:Nat) {g sz n:Nat} {e:TypeId} {f:Nat->List PV} {i c a:Nat} {d:TypeId} {l:Nat->List PV} {F:Nat->Prop} (j:Nat) (cs m:List PV) (b:Nat->List PV) (hi:i<n) (hc:f i=cs) (h1:b i=m) (o:∀k,k≠i->b k=f k)
  (hj:cs[j]? =some (.aG c a d l F):=by rfl) (hs:m=cs.set j (.own h.length 0 0 a):=by rfl) (p:h[id]? =some (.row g sz n e f):=by rfl) {h2:List au} (q:h2=h.set id (.row g sz n e b)++[.row 0 c a d l]:=by rfl):vH h h2:=
 ⟨id,g,sz,n,e,f,i,j,c,a,d,l,F,b,p,hi,by rw[hc];exact hj,by rw[h1,hc,hs],λk _ hk=>o k hk,q⟩
theorem eV {id sub g sz n:Nat} {e:TypeId} {f:Nat->List PV} {d l a:Nat} {m:TypeId} {b:Nat->List PV} {i:Nat} {j:Nat} {F:Nat->Prop} (cs o:List PV) (c:Nat->List PV) (hi:i<n) (hc:f i=cs) (h1:c i=o) (p:∀k,k≠i->c k=f k)
  (hp:∀k,k<a->∀x,x∈b k->bn x=true\/cg x=true) (hj:cs[j]? =some (.own sub d 0 a):=by rfl) (hs:o=cs.set j (.aG l a m b F):=by rfl) (q:h[id]? =some (.row g sz n e f):=by rfl) (r:h[sub]? =some (.row d l a m b):=by rfl) (s:id≠sub:=by decide)
  {h2:List au} (t:h2=(h.set id (.row g sz n e c)).set sub .dead:=by rfl):tD h id i j sub F h2:=
 ⟨g,sz,n,e,f,d,l,a,m,b,c,q,r,s,hi,by rw[hc];exact hj,hp,by rw[h1,hc,hs],λk _ hk=>p k hk,t⟩
theorem oG {f:Nat->List PV} {i off n:Nat} {a b cs:List PV} (hc:gE (bY a off b) cs):∀j,j<n->gE (ax f i (bY a off b) j) (ax f i cs j):=λj _=>by
 by_cases h:j=i
 ·subst h;rw[aA,aA];exact hc
 ·rw[dD h,dD h];exact gE.refl _
theorem kZ:∀(c p b:List PV),b.length=c.length->bY (p++b) p.length c=p++c
 | [],p,b,h=>by rw[List.eq_nil_of_length_eq_zero h];rfl
 | v::c,p,[],h=>by simp at h
 | v::c,p,a::b,h=>by
  have e:(p++a::b).set p.length v=(p++[v])++b:=by simp
  have d:p.length+1=(p++[v]).length:=by simp
  show bY ((p++a::b).set p.length v) (p.length+1) c=_;rw[e,d,kZ c (p++[v]) b U0];simp
theorem oH {f:Nat->List PV} {i n:Nat} {b a cs:List PV} (hc:gE a cs) (c:b.length=a.length:=by rfl):∀j,j<n->gE (ax f i (bY b 0 a) j) (ax f i cs j):=by
 have e:bY b 0 a=a:=kZ a [] b c;rw[e]
 exactλj _=>by
  by_cases h:j=i
  ·subst h;rw[aA,aA];exact hc
  ·rw[dD h,dD h];exact gE.refl _
theorem ke {f:Nat->List PV} {i off n:Nat} {a c b cs:List PV} (hc:gE (bY a off b) cs):∀j,j<n->gE (ax (ax f i c) i (bY a off b) j) (ax f i cs j):=λj _=>by
 by_cases h:j=i
 ·subst h;rw[aA,aA];exact hc
 ·rw[dD h,dD h,dD h];exact gE.refl _
theorem gI {f:Nat->List PV} {i:Nat} {cs:List PV}:∀k,k≠i->ax f i cs k=f k:=λk h=>dD h
theorem bz {f:Nat->List PV} {i:Nat} {cs a:List PV}:∀k,k≠i->ax f i cs k=ax f i a k:=λk h=>by rw[dD h,dD h]
theorem tJ {f:Nat->List PV} {n N:Nat} {cs a:List PV} (b:N=n+1) (hc:gE cs a):∀i,i<N->gE (bif Nat.blt i n then f (0+i)else cs) (ax f n a i):=λi hi=>by
 subst b;by_cases h:i<n
 ·rw[Cv h,dD UN,Sx];exact gE.refl _
 ·obtain rfl:i=n:=by omega
  rw[Cw UN,aA];exact hc
end
section
variable {P:Program}{f:FuncId}{args:List PV}{h:List au}{K R:PV->List au->Prop}
theorem tM {hc:List au} {b:List PV} (c:ACall P f args hc R) (is:List Nat) (d:Ie h (dK is h.length) hc is)
  (k:∀r0 h0,R r0 h0->∃a h1,zO (dK is h.length) r0=a/\kg h is h0=h1/\K a h1)
  (e:b=args.map (rS (dK is h.length)):=by rfl) (g:hc.length=is.length:=by rfl) (hd:is.Nodup:=by decide) (i:is.all (λid=>Nat.blt id h.length)=true:=by rfl):kY P f b h K:=
 ⟨_,c.FJ is h d g hd i e,by
  rintro _ _ ⟨r0,h0,j,rfl,rfl⟩;obtain⟨a,h1,rfl,rfl,hk⟩:=k r0 h0 j;exact hk⟩
theorem Bo (b:ACall P f args [] R) (k:∀r0 h0,R r0 h0->∃a h1,ie h.length r0=a/\h++h0.map (cE h.length)=h1/\K a h1) (hp:args.all vF=true:=by rfl):kY P f args h K:=
 ⟨_,b.frame h hp,by
  rintro _ _ ⟨r0,h0,c,rfl,rfl⟩;obtain⟨a,h1,rfl,rfl,hk⟩:=k r0 h0 c;exact hk⟩
theorem yF {a:List PV} (c:ACall P f a [] R) (d:mo h [] [] args a) (e:∀r0 h0,R r0 h0->sJ r0=true/\∀o∈h0,nN o) (k:∀r0 h0,R r0 h0->∃b h1,ie h.length r0=b/\h++h0.map (cE h.length)=h1/\K b h1) (g:a.all fp=true:=by rfl):kY P f args h K:=
 ⟨_,c.KY h d g e,by
  rintro _ _ ⟨r0,h0,i,rfl,rfl⟩;obtain⟨b,h1,rfl,rfl,hk⟩:=k r0 h0 i;exact hk⟩
end
def iX (cs:List PV):Prop:=∀c∈cs,(cg c=false->iY c=true)/\(cg c=true->OG (λpv=>iY pv=true) c)
class Ih {α:Type} (c:α->List PV):Prop where
 fl:∀x,(c x).all iY=true
class L1 {α:Type} (D:List PV->α->Prop):Prop where
 fl:∀cs x,D cs x->iX cs
instance:Ih cI:=⟨λ_=>rfl⟩
instance (k:IntKind):Ih (Ib k):=⟨λ_=>rfl⟩
instance:Ih cB:=⟨λ_=>rfl⟩
instance:Ih cT:=⟨λ_=>rfl⟩
instance:Ih cS:=⟨λ_=>rfl⟩
theorem vI {a:PV} (h:iY a=true):cg a=false:=by cases a<;>first | rfl | cases h
theorem EA:iX []:=λc hc=>absurd hc T7
theorem jg {a:PV} {l:List PV} (t:iX l) (h:iY a=true:=by rfl):iX (a::l):=λc hc=>by
 rcases SB.1 hc with rfl | hc
 ·exact⟨λ_=>h,λq=>by rw[vI h]at q;cases q⟩
 ·exact t c hc
theorem Ii {l:List PV} (h:l.all iY=true):iX l:=λc hc=>⟨λ_=>Sy.1 h c hc,λq=>by rw[vI (Sy.1 h c hc)]at q;cases q⟩
theorem K9 {sz n:Nat} {e:TypeId} {f:Nat->List PV} {F:Nat->Prop} (h:∀i,i<n->iX (f i)):OG (λpv=>iY pv=true) (.aG sz n e f F):=
 .mk sz n e f F (λi j pv hi hj a=>(h i hi pv (SJ hj)).1 a) (λi j _ _ _ _ _ hi hj=>(h i hi _ (SJ hj)).2 rfl)
theorem EB {sz n:Nat} {e:TypeId} {f:Nat->List PV} {F:Nat->Prop} {l:List PV} (h:∀i,i<n->iX (f i)) (t:iX l):iX (.aG sz n e f F::l):=λc hc=>by
 rcases SB.1 hc with rfl | hc
 ·exact⟨λq=>(by cases q),λ_=>K9 h⟩
 ·exact t c hc
instance {α:Type} (c:α->List PV) [h:Ih c]:L1 (Qm c):=⟨λcs x q=>by
 have q:cs=c x:=q;subst q;exact Ii (h.fl x)⟩
theorem DR.LU {α:Type} {D:List PV->α->Prop} [hf:L1 D] {n:Nat} {f:Nat->List PV} {l:List α} (d:DR D n f l) {g sz:Nat} {e:TypeId}:nN (.row g sz n e f):=λi hi=>hf.fl _ _ (d.at_ i (by rw[d.len];exact hi))
theorem ub:∀o∈([]:List au),nN o:=λ_ h=>absurd h T7
theorem p9 {a:au} {l:List au} (h1:nN a) (h2:∀o∈l,nN o):∀o∈a::l,nN o:=λo h=>by
 rcases SB.1 h with rfl | h
 ·exact h1
 ·exact h2 o h
theorem tI {cs:List PV}:∀i,i<1->gE ([cs].getD i []) ((λ_=>cs) i):=λi hi=>by
 obtain rfl:i=0:=by omega
 exact gE.refl _
theorem vJ:∀{l:List PV},l.all bn=true->La l=true
 | [],_=>rfl
 | a::l,h=>by
  simp only[Tx,so]at h;have:=vJ h.2;cases a<;>first | exact this | (have h1:=h.1;cases h1)
theorem kb {α:Type} {c:α->List PV} [hp:mh c] {f:Nat->List PV} {off:Nat} {l:List α} (hs:qQ c f off l):∀i,i<l.length->La (f (off+i))=true:=λi hi=>by
 rw[hs i hi];exact vJ (iU hp.pure i)
section
variable {α:Type}{D:List PV->α->Prop}{n:Nat}{f:Nat->List PV}{l q:List α}{x:α}{b:Nat}
theorem vK (h:eg b l [x]=some q):l++[x]=q:=(bU h).2
theorem DR.Hg (d:DR D n f l) (h:eg b l [x]=some q) {cs:List PV} (hx:D cs x):DR D q.length (ax f n cs) q:=by
 have h1:=vK h;subst h1;exact(d.app hx).self
theorem DR.ln (d:DR D n f l) (h:eg b l [x]=some q):q.length=n+1:=by
 have h1:=vK h;subst h1;simp [d.len]
theorem DR.lq (d:DR D n f l) (h:eg b l [x]=some q):n<q.length:=by rw[d.ln h];exact TT n
theorem DR.Nr (d:DR D n f l) (h:eg b l [x]=some q):(n+1)*b<=140737488355328:=by
 have h1:=dV h;rw[d.len]at h1;exact h1
end
end Go.Am
namespace Go.Am
open Go Go.RowKit Go.Proofs
structure az where
 av:Bool
 ao:Int
 aq:cR
 deriving DecidableEq,Inhabited
abbrev az.lit (x:az):List PV:=[.bool x.av,.int .i64 x.ao,.str x.aq]
def az.cells (x:az):List PV:=x.lit
theorem az.aO (x:az):x.cells=x.lit:=rfl
theorem az.fL (x:az):x.cells.all bn=true:=rfl
instance:mh az.cells:=⟨az.fL⟩
mutual
inductive ai where
 | mk (aj:Int) (ao:Int) (aq:cR) (ak:Int) (ae:List af)
inductive af where
 | mk (ar:az) (ah:ai)
end
def ai.aj:ai->Int | .mk x _ _ _ _=>x
def ai.ao:ai->Int | .mk _ x _ _ _=>x
def ai.aq:ai->cR | .mk _ _ x _ _=>x
def ai.ak:ai->Int | .mk _ _ _ x _=>x
def ai.ae:ai->List af | .mk _ _ _ _ x=>x
@[simp] theorem ai.jS (a:Int) (b:Int) (c:cR) (d:Int) (e:List af):(ai.mk a b c d e).aj=a:=rfl
@[simp] theorem ai.yH (b:Int) (a:Int) (c:cR) (d:Int) (e:List af):(ai.mk b a c d e).ao=a:=rfl
@[simp] theorem ai.yI (b:Int) (c:Int) (a:cR) (d:Int) (e:List af):(ai.mk b c a d e).aq=a:=rfl
@[simp] theorem ai.nL (b:Int) (c:Int) (d:cR) (a:Int) (e:List af):(ai.mk b c d a e).ak=a:=rfl
@[simp] theorem ai.bL (b:Int) (c:Int) (d:cR) (e:Int) (a:List af):(ai.mk b c d e a).ae=a:=rfl
def af.ar:af->az | .mk x _=>x
def af.ah:af->ai | .mk _ x=>x
@[simp] theorem af.yK (a:az) (b:ai):(af.mk a b).ar=a:=rfl
@[simp] theorem af.Ej (b:az) (a:ai):(af.mk b a).ah=a:=rfl
instance:Inhabited ai:=⟨.mk 0 0 [] 0 []⟩
instance:Inhabited af:=⟨.mk default default⟩
mutual
def ai.cells:ai->List PV | .mk b c d e a=>[.int .i64 b]++[.int .i64 c]++[.str d]++[.int .i64 e]++[.cP 8 a.length (λi=>(af.uk a).getD i [])]
def af.cells:af->List PV | .mk a b=>a.lit++b.cells
def af.uk:List af->List (List PV) | []=>[] | x::r=>x.cells::af.uk r
end
theorem af.qS:∀(l:List af),af.uk l=l.map af.cells
 | []=>rfl
 | a::r=>by unfold af.uk;rw[af.qS r];rfl
abbrev ai.lit (x:ai):List PV:=[.int .i64 x.aj,.int .i64 x.ao,.str x.aq,.int .i64 x.ak,sl 8 af.cells x.ae]
abbrev af.lit (x:af):List PV:=[.bool x.ar.av,.int .i64 x.ar.ao,.str x.ar.aq,.int .i64 x.ah.aj,.int .i64 x.ah.ao,.str x.ah.aq,.int .i64 x.ah.ak,sl 8 af.cells x.ah.ae]
theorem ai.aO (x:ai):x.cells=x.lit:=by
 cases x with
 | mk a b c d e=>
  unfold ai.cells;rw[af.qS];rfl
theorem ai.fL (x:ai):x.cells.all bn=true:=by rw[ai.aO];rfl
instance:mh ai.cells:=⟨ai.fL⟩
theorem af.aO (x:af):x.cells=x.lit:=by
 cases x with
 | mk a b=>
  unfold af.cells;rw[ai.aO];rfl
theorem af.fL (x:af):x.cells.all bn=true:=by rw[af.aO];rfl
instance:mh af.cells:=⟨af.fL⟩
structure aF where
 fB:List UInt8
 fI:Int
 fH:Int
 deriving DecidableEq,Inhabited
abbrev aF.lit (x:aF):List PV:=[sl 1 cB x.fB,.int .i64 x.fI,.int .i64 x.fH]
def aF.cells (x:aF):List PV:=x.lit
theorem aF.aO (x:aF):x.cells=x.lit:=rfl
theorem aF.fL (x:aF):x.cells.all bn=true:=rfl
instance:mh aF.cells:=⟨aF.fL⟩
instance:Ih az.cells:=⟨λ_=>rfl⟩
mutual
inductive af.D:List PV->af->Prop
 | mk (x:af) (n0:Nat) (F0:Nat->Prop) (mu:x.ah.ae.length=n0) (f0:Nat->List PV) (h0:∀i (hi:i<x.ah.ae.length),af.D (f0 i) x.ah.ae[i]) (zY:∀i,n0<=i->f0 i=[]):af.D [.bool x.ar.av,.int .i64 x.ar.ao,.str x.ar.aq,.int .i64 x.ah.aj,.int .i64 x.ah.ao,.str x.ah.aq,.int .i64 x.ah.ak,.aG 8 n0 51 f0 F0] x
inductive ai.D:List PV->ai->Prop
 | mk (x:ai) (n0:Nat) (F0:Nat->Prop) (mu:x.ae.length=n0) (f0:Nat->List PV) (h0:∀i (hi:i<x.ae.length),af.D (f0 i) x.ae[i]) (zY:∀i,n0<=i->f0 i=[]):ai.D [.int .i64 x.aj,.int .i64 x.ao,.str x.aq,.int .i64 x.ak,.aG 8 n0 51 f0 F0] x
end
theorem af.dz {x:af} {b:Nat} {d:Nat->Prop} {c:Nat->List PV} (a:DR af.D b c x.ah.ae):af.D [.bool x.ar.av,.int .i64 x.ar.ao,.str x.ar.aq,.int .i64 x.ah.aj,.int .i64 x.ah.ao,.str x.ah.aq,.int .i64 x.ah.ak,.aG 8 b 51 c d] x:=.mk x _ _ a.len _ a.at_ a.z
theorem af.ew {cs:List PV} {x:af} (h:af.D cs x):∃(b:Nat->Prop),∃a:Nat->List PV,cs=[.bool x.ar.av,.int .i64 x.ar.ao,.str x.ar.aq,.int .i64 x.ah.aj,.int .i64 x.ah.ao,.str x.ah.aq,.int .i64 x.ah.ak,.aG 8 x.ah.ae.length 51 a b]/\DR af.D x.ah.ae.length a x.ah.ae:=by
 cases h with
 | mk _ e b c a h0 d=>subst c;exact⟨b,a,rfl,⟨rfl,h0,d⟩⟩
theorem ai.dz {x:ai} {b:Nat} {d:Nat->Prop} {c:Nat->List PV} (a:DR af.D b c x.ae):ai.D [.int .i64 x.aj,.int .i64 x.ao,.str x.aq,.int .i64 x.ak,.aG 8 b 51 c d] x:=.mk x _ _ a.len _ a.at_ a.z
theorem ai.ew {cs:List PV} {x:ai} (h:ai.D cs x):∃(b:Nat->Prop),∃a:Nat->List PV,cs=[.int .i64 x.aj,.int .i64 x.ao,.str x.aq,.int .i64 x.ak,.aG 8 x.ae.length 51 a b]/\DR af.D x.ae.length a x.ae:=by
 cases h with
 | mk _ e b c a h0 d=>subst c;exact⟨b,a,rfl,⟨rfl,h0,d⟩⟩
theorem af.CK:∀cs x,af.D cs x->pJ cs x.cells:=λcs x h=>af.D.rec (motive_1:=λcs x _=>pJ cs x.cells) (motive_2:=λcs x _=>pJ cs x.cells) (λx d a b e h0 f c=>by rw[af.aO];exact⟨.p rfl,.p rfl,.p rfl,.p rfl,.p rfl,.p rfl,.p rfl,.o (nQ c b 8 51 a),trivial⟩) (λx d a b e h0 f c=>by rw[ai.aO];exact⟨.p rfl,.p rfl,.p rfl,.p rfl,.o (nQ c b 8 51 a),trivial⟩) h
theorem ai.CK:∀cs x,ai.D cs x->pJ cs x.cells:=λcs x h=>ai.D.rec (motive_1:=λcs x _=>pJ cs x.cells) (motive_2:=λcs x _=>pJ cs x.cells) (λx d a b e h0 f c=>by rw[af.aO];exact⟨.p rfl,.p rfl,.p rfl,.p rfl,.p rfl,.p rfl,.p rfl,.o (nQ c b 8 51 a),trivial⟩) (λx d a b e h0 f c=>by rw[ai.aO];exact⟨.p rfl,.p rfl,.p rfl,.p rfl,.o (nQ c b 8 51 a),trivial⟩) h
instance:yh af.D af.cells:=⟨af.CK⟩
instance:yh ai.D ai.cells:=⟨ai.CK⟩
theorem af.xF:∀cs x,af.D cs x->iX cs:=λcs x h=>af.D.rec (motive_1:=λcs x _=>iX cs) (motive_2:=λcs x _=>iX cs) (λx c d a e h0 f b=>(jg (jg (jg (jg (jg (jg (jg (EB (λi hi=>b i (TN hi a.symm)) EA))))))))) (λx c d a e h0 f b=>(jg (jg (jg (jg (EB (λi hi=>b i (TN hi a.symm)) EA)))))) h
theorem ai.xF:∀cs x,ai.D cs x->iX cs:=λcs x h=>ai.D.rec (motive_1:=λcs x _=>iX cs) (motive_2:=λcs x _=>iX cs) (λx c d a e h0 f b=>(jg (jg (jg (jg (jg (jg (jg (EB (λi hi=>b i (TN hi a.symm)) EA))))))))) (λx c d a e h0 f b=>(jg (jg (jg (jg (EB (λi hi=>b i (TN hi a.symm)) EA)))))) h
instance:L1 af.D:=⟨af.xF⟩
instance:L1 ai.D:=⟨ai.xF⟩
theorem az.jO (x y:az):((x.av==y.av)&&((x.ao==y.ao)&&((x.aq==y.aq)&&true)))=decide (x=y):=by
 rw[Bool.eq_iff_iff];simp only[so,Ts,Bool.and_true,Tc];constructor
 ·intro h;cases x;cases y;simp only[az.mk.injEq];simpa using h
 ·rintro rfl;simp
def zt:ij:=mf [(3,.int .i64),
 (4,.bool),
 (5,.int .u8),
 (9,.str),
 (22,.slice 5 1 1 [.int .u8 0]),
 (24,.slice 51 8 96 [.bool false,.int .i64 0,.str [],.int .i64 0,.int .i64 0,.str [],.int .i64 0,.aD]),
 (26,.struct 5 [(0,1,false),(1,1,false),(2,1,false),(3,1,false),(4,1,false)] [.int .i64 0,.int .i64 0,.str [],.int .i64 0,.aD]),
 (27,.slice 37 3 32 [.bool false,.int .i64 0,.str []]),
 (37,.struct 3 [(0,1,false),(1,1,false),(2,1,false)] [.bool false,.int .i64 0,.str []]),
 (51,.struct 8 [(0,3,true),(3,5,true)] [.bool false,.int .i64 0,.str [],.int .i64 0,.int .i64 0,.str [],.int .i64 0,.aD]),
 (57,.struct 3 [(0,1,false),(1,1,false),(2,1,false)] [.aD,.int .i64 0,.int .i64 0]),
 (68,.slice 9 1 16 [.str []]),
 (70,.slice 3 1 8 [.int .i64 0]),
 (71,.map 37 4 (.bool false))]
theorem EC:bR Tryd.prog zt:=KT UR
theorem mixed:Tryd.prog.follows .mixedOrders=true:=by kernel_rfl
theorem gD {f:FuncId} {fn:Func} {c:Code} {args:List PV} {h:List au} {R:PV->List au->Prop} (hf:Tryd.prog.funcs[f]? =some fn) (hv:vc Tryd.prog zt h.length c (Lb zt fn.results.toList h.length R) (lv args) h) (hb:fn.body=some c:=by rfl) (a:(fn.name== "runtime.NumGoroutine")=false:=by kernel_rfl) (b:Nat.ble args.length fn.ntmps=true:=by rfl) (d:codeOk fn.ntmps c=true:=by kernel_rfl):ACall Tryd.prog f args h R:=ACall.Lc EC mixed hf hb a _ _ _ b d hv
def AJ (a:Int) (b:Int) (c:Int):Option (Bool):=if a>=b then some (decide (a<=c))else some false
theorem wK {a:Int} {b:Int} {c:Int} {r:Bool} (h:AJ a b c=some r):ACall Tryd.prog 38 [.int .i64 a,.int .i64 b,.int .i64 c] [] (λres h=>res=.bool r/\h=[]):=by
 refine gD Tryd.func38 ?_;unfold AJ at h;refine .d (.d (sD h (λe h=>?_) (λe h=>?_)));exact .t (.t (.t (eB h)));exact .f (.f (.f (eB h)))
theorem ia:ACall Tryd.prog 24 [] [] (λres h=>res=.agg [.int .i64 0,.int .i64 0,.str [],.int .i64 0,.aD]/\h=[]):=by
 refine gD Tryd.func24 ?_;exact .d (.d ⟨rfl,_,λ_=>[.int .i64 0,.int .i64 0,.str [],.int .i64 0,.aD],rfl,aB rfl,⟨rfl,_,rfl,(en [] ⟨rfl,rfl⟩ (.aM ⟨.i,.i,.s,.i,.aD,⟨⟩⟩) ⟨⟩)⟩⟩)
def DC (a:Int) (b:Int) (c:Int):Option (Bool):=if b<=a then some (decide (a<=c))else some false
theorem DD {a:Int} {b:Int} {c:Int} {r:Bool} (h:DC a b c=some r):ACall Tryd.prog 45 [.int .i64 a,.int .i64 b,.int .i64 c] [] (λres h=>res=.bool r/\h=[]):=by
 refine gD Tryd.func45 ?_;unfold DC at h;refine .d (.d (sD h (λe h=>?_) (λe h=>?_)));exact .t (.t (.t (eB h)));exact .f (.f (.f (eB h)))
theorem nq (a:Int):ACall Tryd.prog 37 [.int .i64 a] [] (λres h=>res=.agg [.bool false,.int .i64 a,.str []]/\h=[]):=by
 refine gD Tryd.func37 ?_;exact .d (.d ⟨rfl,_,λ_=>[.bool false,.int .i64 a,.str []],rfl,aB rfl,⟨rfl,_,rfl,(en [] ⟨rfl,rfl⟩ (.aM ⟨.b,.i,.s,⟨⟩⟩) ⟨⟩)⟩⟩)
theorem jQ:ACall Tryd.prog 35 [] [] (λres h=>res=.agg [.int .i64 4,.int .i64 0,.str [],.int .i64 0,.aD]/\h=[]):=by
 refine gD Tryd.func35 ?_;exact .d (.d ⟨rfl,_,λ_=>[.int .i64 4,.int .i64 0,.str [],.int .i64 0,.aD],rfl,aB rfl,⟨rfl,_,rfl,(en [] ⟨rfl,rfl⟩ (.aM ⟨.i,.i,.s,.i,.aD,⟨⟩⟩) ⟨⟩)⟩⟩)
def IQ (a:Int) (b:Int):Option (Int):=if b>a then some b else some a
theorem JU {a:Int} {b:Int} {r:Int} (h:IQ a b=some r):ACall Tryd.prog 47 [.int .i64 a,.int .i64 b] [] (λres h=>res=.int .i64 r/\h=[]):=by
 refine gD Tryd.func47 ?_;unfold IQ at h;refine .d (.d (.d (sD h (λc h=>?_) (λc h=>?_))));exact .d (eI h);exact .d (eI h)
def DG (a:Int) (b:Int):Option (Int):=if b>a then some b else some a
theorem GN {a:Int} {b:Int} {r:Int} (h:DG a b=some r):ACall Tryd.prog 32 [.int .i64 a,.int .i64 b] [] (λres h=>res=.int .i64 r/\h=[]):=by
 refine gD Tryd.func32 ?_;unfold DG at h;refine .d (.d (.d (sD h (λc h=>?_) (λc h=>?_))));exact .d (eI h);exact .d (eI h)
theorem gG:ACall Tryd.prog 26 [] [] (λres h=>res=.agg [.int .i64 4,.int .i64 0,.str [],.int .i64 0,.aD]/\h=[]):=by
 refine gD Tryd.func26 ?_;exact .d (.d ⟨rfl,_,λ_=>[.int .i64 4,.int .i64 0,.str [],.int .i64 0,.aD],rfl,aB rfl,⟨rfl,_,rfl,(en [] ⟨rfl,rfl⟩ (.aM ⟨.i,.i,.s,.i,.aD,⟨⟩⟩) ⟨⟩)⟩⟩)
theorem gm (a:Int):ACall Tryd.prog 52 [.int .i64 a] [] (λres h=>res=.agg [.int .i64 2,.int .i64 a,.str [],.int .i64 0,.aD]/\h=[]):=by
 refine gD Tryd.func52 ?_;exact .d (.d ⟨rfl,_,λ_=>[.int .i64 2,.int .i64 a,.str [],.int .i64 0,.aD],rfl,aB rfl,⟨rfl,_,rfl,(en [] ⟨rfl,rfl⟩ (.aM ⟨.i,.i,.s,.i,.aD,⟨⟩⟩) ⟨⟩)⟩⟩)
theorem kC (a:cR):ACall Tryd.prog 50 [.str a] [] (λres h=>res=.agg [.int .i64 3,.int .i64 0,.str a,.int .i64 0,.aD]/\h=[]):=by
 refine gD Tryd.func50 ?_;exact .d (.d ⟨rfl,_,λ_=>[.int .i64 3,.int .i64 0,.str a,.int .i64 0,.aD],rfl,aB rfl,⟨rfl,_,rfl,(en [] ⟨rfl,rfl⟩ (.aM ⟨.i,.i,.s,.i,.aD,⟨⟩⟩) ⟨⟩)⟩⟩)
def wU (a:Bool):Option (ai):=if a then some (ai.mk 1 1 [] 0 [])else some (ai.mk 1 0 [] 0 [])
theorem Js {a:Bool} {r:ai} (h:wU a=some r):ACall Tryd.prog 49 [.bool a] [] (λres h=>res=.agg r.lit/\h=[]):=by
 refine gD Tryd.func49 ?_;unfold wU at h;refine .d (.d (.d (sV h (λb h=>?_) (λb h=>?_))));refine .d ⟨rfl,_,λ_=>[.int .i64 1,.int .i64 1,.str [],.int .i64 0,.aD],rfl,aB rfl,?_⟩;obtain rfl:=si h;exact⟨rfl,_,rfl,(en [] ⟨rfl,rfl⟩ (.aM ⟨.i,.i,.s,.i,.z,⟨⟩⟩) ⟨⟩)⟩;refine .d ⟨rfl,_,λ_=>[.int .i64 1,.int .i64 0,.str [],.int .i64 0,.aD],rfl,aB rfl,?_⟩;obtain rfl:=si h;exact⟨rfl,_,rfl,(en [] ⟨rfl,rfl⟩ (.aM ⟨.i,.i,.s,.i,.z,⟨⟩⟩) ⟨⟩)⟩
theorem zM (a:List UInt8):ACall Tryd.prog 4 [sl 1 cB a] [] (λres h=>res=.bool (decide ((a.length:Int)>1048576))/\h=[]):=by
 refine gD Tryd.func4 ?_;exact .d (.d (en [] ⟨rfl,rfl⟩ .b ⟨⟩))
def mr (b:List UInt8) (c:Int) (a:Int):Option (Int):=if a<(b.length:Int)then if a<4000 then idx b a>>=λd=>mr b (bits .and .i64 (bc ((bc ((bc (c*137))+(bc ((d.toNat:Int)))))+11)) 1073741823) (bc (a+1))else some c else some c partial_fixpoint
def JJ (a:List UInt8):Option (aF):=(mr a (bc (193017+(a.length:Int))) 0:Option (Int))>>=λb=>some (aF.mk a 0 b)
theorem M9 {a:List UInt8} {r:aF} (h:JJ a=some r):ACall Tryd.prog 11 [sl 1 cB a] [] (λres h=>res=.aH 0 0 0 0/\h=[.row 0 3 1 57 (λ_=>r.lit)]):=by
 refine gD Tryd.func11 ?_;unfold JJ at h;refine .d (.d ?_);obtain⟨b,m,n⟩:=bd h;replace h:=m;refine .cut (λσ η=>∃c,c=b/\σ=[(0,sl 1 cB a),(3,.int .i64 c)]/\η=[]) ?_ ?_;refine .d ?_;refine le (mr.partial_correctness a (motive:=λe g j=>b=j->a7 _ _ [(0,sl 1 cB a),(3,.int .i64 e),(4,.int .i64 g)] []) ?_ (bc (193017+(a.length:Int))) 0 b h rfl) (tk [] ⟨.l,.i,.i,⟨⟩⟩ ⟨⟩);intro v o e g j h q;subst q;refine a7.round (.d (.d (sD h (λs h=>?_) (λs h=>?_))));refine .t (.t (sD h (λu h=>?_) (λu h=>?_)));exact .d (bk h λw k h=>⟨bP k,_,(bx k).trans rfl,(lg (o _ _ _ h rfl) (tk [] ⟨.l,.i,.i,⟨⟩⟩ ⟨⟩))⟩);exact ct ⟨_,si h,rfl,rfl⟩ (tk [] ⟨.l,.i,⟨⟩⟩ ⟨⟩);exact .f (.f (.f (ct ⟨_,si h,rfl,rfl⟩ (tk [] ⟨.l,.i,⟨⟩⟩ ⟨⟩))));rintro _ _ ⟨c,rfl,rfl,rfl⟩;replace h:=n;refine .d ?_;obtain rfl:=si h;exact en [0] ⟨rfl,rfl⟩ .p ⟨(nb rfl ⟨.l,.i,.i,⟨⟩⟩),⟨⟩⟩
def Fj (a:aF):Option (Int×aF):=if a.fI<(a.fB.length:Int)then idx a.fB a.fI>>=λb=>some (bits .and .i64 (bc ((bits .and .i64 (bits .xor .i64 ((bc ((bc (a.fH*6364136223846793005))+1442695040888963407)).fdiv (2 ^ min (33:Int).toNat IntKind.i64.bits)) ((bc ((bc (a.fH*6364136223846793005))+1442695040888963407)).fdiv (2 ^ min (47:Int).toNat IntKind.i64.bits))) 255)+(bc ((b.toNat:Int))))) 255,(aF.mk a.fB (bc (a.fI+1)) (bc ((bc (a.fH*6364136223846793005))+1442695040888963407))))else some (bits .and .i64 (bits .xor .i64 ((bc ((bc (a.fH*6364136223846793005))+1442695040888963407)).fdiv (2 ^ min (33:Int).toNat IntKind.i64.bits)) ((bc ((bc (a.fH*6364136223846793005))+1442695040888963407)).fdiv (2 ^ min (47:Int).toNat IntKind.i64.bits))) 255,(aF.mk a.fB a.fI (bc ((bc (a.fH*6364136223846793005))+1442695040888963407))))
theorem ED {a:aF} {r:Int×aF} {aw:Nat} (h:Fj a=some r):ACall Tryd.prog 40 [.aH 0 aw 0 0] [.row aw 3 1 57 (λ_=>a.lit)] (λres h=>res=.int .i64 r.1/\h=[.row aw 3 1 57 (λ_=>r.2.lit)]):=by
 refine gD Tryd.func40 ?_;unfold Fj at h;refine .d (.d ⟨rfl,⟨rfl,⟨rfl,_,rfl,⟨rfl,⟨rfl,⟨rfl,_,λ_=>[sl 1 cB a.fB,.int .i64 a.fI,.int .i64 (bc ((bc (a.fH*6364136223846793005))+1442695040888963407))],rfl,aB rfl,(.d ⟨rfl,⟨rfl,⟨rfl,_,rfl,⟨by decide,⟨rfl,⟨rfl,?_⟩⟩⟩⟩⟩⟩)⟩⟩⟩⟩⟩⟩);refine⟨rfl,_,rfl,⟨by decide,(.d (.d ⟨rfl,⟨rfl,⟨rfl,_,rfl,⟨rfl,⟨rfl,⟨rfl,_,rfl,(sD h (λc h=>?_) (λc h=>?_))⟩⟩⟩⟩⟩⟩))⟩⟩;refine .d ⟨rfl,⟨rfl,⟨rfl,_,rfl,⟨rfl,⟨rfl,⟨rfl,_,rfl,(bk h λe b h=>⟨bP b,_,(bx b).trans rfl,⟨rfl,⟨rfl,⟨rfl,_,rfl,⟨rfl,⟨rfl,⟨rfl,_,λ_=>[sl 1 cB a.fB,.int .i64 (bc (a.fI+1)),.int .i64 (bc ((bc (a.fH*6364136223846793005))+1442695040888963407))],rfl,aB rfl,?_⟩⟩⟩⟩⟩⟩⟩)⟩⟩⟩⟩⟩⟩;refine .d ?_;exact Ug;refine .d ?_;exact Ug
def pf (b:aF) (a:Int):Option (Int×aF):=if a<=0 then some (0,b)else if a<=256 then Fj b>>=λ(e,f)=>must (a≠0)>>=λ_=>some (e.tmod a,f)else Fj b>>=λ(g,h)=>Fj h>>=λ(c,d)=>Fj d>>=λ(i,j)=>must (a≠0)>>=λ_=>some ((bc ((bc ((bc (g*65536))+(bc (c*256))))+i)).tmod a,j)
theorem nd {c:aF} {e:Int} {r:Int×aF} {aw:Nat} (h:pf c e=some r):ACall Tryd.prog 27 [.aH 0 aw 0 0,.int .i64 e] [.row aw 3 1 57 (λ_=>c.lit)] (λres h=>res=.int .i64 r.1/\h=[.row aw 3 1 57 (λ_=>r.2.lit)]):=by
 refine gD Tryd.func27 ?_;unfold pf at h;refine .d (.d (.d (sD h (λf h=>?_) (λf h=>?_))));refine .d ?_;exact Ug;refine .d (.d (sD h (λg h=>?_) (λg h=>?_)));refine .d ?_;obtain⟨⟨i,j⟩,k,h⟩:=bd h;refine gl (ED (aw:=aw) k) [0] ⟨rfl,⟨⟩⟩ (.int .i64 i) [.row aw 3 1 57 (λ_=>j.lit)] ?_;obtain⟨_,l,h⟩:=bd h;refine⟨oK l,?_⟩;exact Ug;refine .d ?_;obtain⟨⟨m,n⟩,o,h⟩:=bd h;refine gl (ED (aw:=aw) o) [0] ⟨rfl,⟨⟩⟩ (.int .i64 m) [.row aw 3 1 57 (λ_=>n.lit)] (.d ?_);obtain⟨⟨a,b⟩,p,h⟩:=bd h;refine gl (ED (aw:=aw) p) [0] ⟨rfl,⟨⟩⟩ (.int .i64 a) [.row aw 3 1 57 (λ_=>b.lit)] (.d ?_);obtain⟨⟨q,s⟩,t,h⟩:=bd h;refine gl (ED (aw:=aw) t) [0] ⟨rfl,⟨⟩⟩ (.int .i64 q) [.row aw 3 1 57 (λ_=>s.lit)] (.d ?_);obtain⟨_,u,h⟩:=bd h;refine⟨oK u,?_⟩;exact Ug
def om (a:aF) (b:Int):Option (Bool×aF):=pf a b>>=λ(c,d)=>some ((c==0),d)
theorem pI {a:aF} {c:Int} {r:Bool×aF} {aw:Nat} (h:om a c=some r):ACall Tryd.prog 14 [.aH 0 aw 0 0,.int .i64 c] [.row aw 3 1 57 (λ_=>a.lit)] (λres h=>res=.bool r.1/\h=[.row aw 3 1 57 (λ_=>r.2.lit)]):=by
 refine gD Tryd.func14 ?_;unfold om at h;refine .d (.d ?_);obtain⟨⟨e,f⟩,g,h⟩:=bd h;refine gl (nd (aw:=aw) g) [0] ⟨rfl,⟨⟩⟩ (.int .i64 e) [.row aw 3 1 57 (λ_=>f.lit)] ?_;obtain rfl:=si h;exact en [0] ⟨rfl,rfl⟩ .b ⟨(ob rfl ⟨.l,.i,.i,⟨⟩⟩),⟨⟩⟩
def DF (b:aF) (a:List Int):Option (Int×aF):=pf b (a.length:Int)>>=λ(c,d)=>idx a c>>=λe=>some (e,d)
theorem A9 {b:aF} {a:List Int} {r:Int×aF} {aw:Nat} {aY:Nat} (h:DF b a=some r):ACall Tryd.prog 42 [.aH 0 aw 0 0,.own 1 aY 0 a.length] [.row aw 3 1 57 (λ_=>b.lit),.row aY 1 a.length 3 (row cI a)] (λres h=>res=.int .i64 r.1/\h=[.row aw 3 1 57 (λ_=>r.2.lit),.row aY 1 a.length 3 (row cI a)]):=by
 refine gD Tryd.func42 ?_;unfold DF at h;refine .d (.d ⟨rfl,?_⟩);obtain⟨⟨e,f⟩,g,h⟩:=bd h;refine gl (nd (aw:=aw) g) [0] ⟨rfl,⟨⟩⟩ (.int .i64 e) [.row aw 3 1 57 (λ_=>f.lit),.row aY 1 a.length 3 (row cI a)] (bk h λj c h=>⟨rfl,bP c,_,Sx _,⟨rfl,_,((bx c).trans rfl),?_⟩⟩);obtain rfl:=si h;exact en [0,1] ⟨rfl,rfl⟩ .i ⟨(ob rfl ⟨.l,.i,.i,⟨⟩⟩),od,⟨⟩⟩
def IU (b:aF) (a:List cR):Option (cR×aF):=pf b (a.length:Int)>>=λ(c,d)=>idx a c>>=λe=>some (e,d)
theorem Le {b:aF} {a:List cR} {r:cR×aF} {aw:Nat} {aY:Nat} (h:IU b a=some r):ACall Tryd.prog 41 [.aH 0 aw 0 0,.own 1 aY 0 a.length] [.row aw 3 1 57 (λ_=>b.lit),.row aY 1 a.length 9 (row cS a)] (λres h=>res=.str r.1/\h=[.row aw 3 1 57 (λ_=>r.2.lit),.row aY 1 a.length 9 (row cS a)]):=by
 refine gD Tryd.func41 ?_;unfold IU at h;refine .d (.d ⟨rfl,?_⟩);obtain⟨⟨e,f⟩,g,h⟩:=bd h;refine gl (nd (aw:=aw) g) [0] ⟨rfl,⟨⟩⟩ (.int .i64 e) [.row aw 3 1 57 (λ_=>f.lit),.row aY 1 a.length 9 (row cS a)] (bk h λj c h=>⟨rfl,bP c,_,Sx _,⟨rfl,_,((bx c).trans rfl),?_⟩⟩);obtain rfl:=si h;exact en [0,1] ⟨rfl,rfl⟩ .s ⟨(ob rfl ⟨.l,.i,.i,⟨⟩⟩),od,⟨⟩⟩
def zm (a:aF):Option (cR×aF):=IU a ([[],[97],[98],[120,49],[48],[53],[45,53],[48,53],[45,48],[49,50,97],[48,48,55],[49,48,48,48,48,48,48,48,48,48],[49,48,48,48,48,48,48,48,48,49],[32,49],[105,116,39,115],[10],[60,105,62],[255,59],[110,97,109,101],[115,58,49,58]]:List cR)>>=λ(b,c)=>some (b,c)
theorem E3 {a:aF} {r:cR×aF} {aw:Nat} (h:zm a=some r):ACall Tryd.prog 51 [.aH 0 aw 0 0] [.row aw 3 1 57 (λ_=>a.lit)] (λres h=>res=.str r.1/\h=[.row aw 3 1 57 (λ_=>r.2.lit)]):=by
 refine gD Tryd.func51 ?_;unfold zm at h;refine .d (.d ⟨row cS ([[],[97],[98],[120,49],[48],[53],[45,53],[48,53],[45,48],[49,50,97],[48,48,55],[49,48,48,48,48,48,48,48,48,48],[49,48,48,48,48,48,48,48,48,49],[32,49],[105,116,39,115],[10],[60,105,62],[255,59],[110,97,109,101],[115,58,49,58]]:List cR),cA cS ([[],[97],[98],[120,49],[48],[53],[45,53],[48,53],[45,48],[49,50,97],[48,48,55],[49,48,48,48,48,48,48,48,48,48],[49,48,48,48,48,48,48,48,48,49],[32,49],[105,116,39,115],[10],[60,105,62],[255,59],[110,97,109,101],[115,58,49,58]]:List cR) rfl (cU rfl),?_⟩);obtain⟨⟨b,c⟩,e,h⟩:=bd h;refine gl (Le (aw:=aw) (aY:=0) e) [0,1] ⟨rfl,ov,⟨⟩⟩ (.str b) [.row aw 3 1 57 (λ_=>c.lit),.row 0 1 ([[],[97],[98],[120,49],[48],[53],[45,53],[48,53],[45,48],[49,50,97],[48,48,55],[49,48,48,48,48,48,48,48,48,48],[49,48,48,48,48,48,48,48,48,49],[32,49],[105,116,39,115],[10],[60,105,62],[255,59],[110,97,109,101],[115,58,49,58]]:List cR).length 9 (row cS ([[],[97],[98],[120,49],[48],[53],[45,53],[48,53],[45,48],[49,50,97],[48,48,55],[49,48,48,48,48,48,48,48,48,48],[49,48,48,48,48,48,48,48,48,49],[32,49],[105,116,39,115],[10],[60,105,62],[255,59],[110,97,109,101],[115,58,49,58]]:List cR))] ?_;obtain rfl:=si h;exact en [0] ⟨rfl,rfl⟩ .s ⟨(ob rfl ⟨.l,.i,.i,⟨⟩⟩),⟨⟩⟩
def zn (b:aF):Option (az×aF):=om b 3>>=λ(c,a)=>if c then IU a ([[97],[98],[99],[],[48,53],[120]]:List cR)>>=λ(d,e)=>some ((az.mk true 0 d),e)else DF a ([0,1,2,3,4,(-1),7,1000000000,(-1000000000)]:List Int)>>=λ(f,g)=>some ((az.mk false f []),g)
theorem Be {a:aF} {r:az×aF} {aw:Nat} (h:zn a=some r):ACall Tryd.prog 28 [.aH 0 aw 0 0] [.row aw 3 1 57 (λ_=>a.lit)] (λres h=>res=.agg r.1.lit/\h=[.row aw 3 1 57 (λ_=>r.2.lit)]):=by
 refine gD Tryd.func28 ?_;unfold zn at h;refine .d (.d (.d ?_));obtain⟨⟨f,g⟩,j,h⟩:=bd h;refine gl (pI (aw:=aw) j) [0] ⟨rfl,⟨⟩⟩ (.bool f) [.row aw 3 1 57 (λ_=>g.lit),.row 0 3 1 37 (λ_=>[.bool false,.int .i64 0,.str []])] (sV h (λk h=>?_) (λk h=>?_));refine .d ⟨row cS ([[97],[98],[99],[],[48,53],[120]]:List cR),cA cS ([[97],[98],[99],[],[48,53],[120]]:List cR) rfl (cU rfl),?_⟩;obtain⟨⟨c,m⟩,n,h⟩:=bd h;refine gl (Le (aw:=aw) (aY:=0) n) [0,2] ⟨rfl,ov,⟨⟩⟩ (.str c) [.row aw 3 1 57 (λ_=>m.lit),.row 0 3 1 37 (λ_=>[.bool false,.int .i64 0,.str []]),.row 0 1 ([[97],[98],[99],[],[48,53],[120]]:List cR).length 9 (row cS ([[97],[98],[99],[],[48,53],[120]]:List cR))] ⟨rfl,_,λ_=>[.bool true,.int .i64 0,.str c],rfl,aB rfl,?_⟩;obtain rfl:=si h;exact⟨rfl,_,rfl,(en [0] ⟨rfl,rfl⟩ (.aM ⟨.b,.i,.s,⟨⟩⟩) ⟨(ob rfl ⟨.l,.i,.i,⟨⟩⟩),⟨⟩⟩)⟩;refine .d ⟨row cI ([0,1,2,3,4,(-1),7,1000000000,(-1000000000)]:List Int),cA cI ([0,1,2,3,4,(-1),7,1000000000,(-1000000000)]:List Int) rfl (cU rfl),?_⟩;obtain⟨⟨e,o⟩,p,h⟩:=bd h;refine gl (A9 (aw:=aw) (aY:=0) p) [0,2] ⟨rfl,ov,⟨⟩⟩ (.int .i64 e) [.row aw 3 1 57 (λ_=>o.lit),.row 0 3 1 37 (λ_=>[.bool false,.int .i64 0,.str []]),.row 0 1 ([0,1,2,3,4,(-1),7,1000000000,(-1000000000)]:List Int).length 3 (row cI ([0,1,2,3,4,(-1),7,1000000000,(-1000000000)]:List Int))] ⟨rfl,_,λ_=>[.bool false,.int .i64 e,.str []],rfl,aB rfl,?_⟩;obtain rfl:=si h;exact⟨rfl,_,rfl,(en [0] ⟨rfl,rfl⟩ (.aM ⟨.b,.i,.s,⟨⟩⟩) ⟨(ob rfl ⟨.l,.i,.i,⟨⟩⟩),⟨⟩⟩)⟩
def IH (a:aF):Option (Int×aF):=DF a ([(-1),0,1,2,255,256,65535,2147483647,2147483648,4294967295,4294967296,(-2147483648),9223372036854775807,(-9223372036854775808)]:List Int)>>=λ(b,c)=>some (b,c)
theorem JB {a:aF} {r:Int×aF} {aw:Nat} (h:IH a=some r):ACall Tryd.prog 44 [.aH 0 aw 0 0] [.row aw 3 1 57 (λ_=>a.lit)] (λres h=>res=.int .i64 r.1/\h=[.row aw 3 1 57 (λ_=>r.2.lit)]):=by
 refine gD Tryd.func44 ?_;unfold IH at h;refine .d (.d ⟨row cI ([(-1),0,1,2,255,256,65535,2147483647,2147483648,4294967295,4294967296,(-2147483648),9223372036854775807,(-9223372036854775808)]:List Int),cA cI ([(-1),0,1,2,255,256,65535,2147483647,2147483648,4294967295,4294967296,(-2147483648),9223372036854775807,(-9223372036854775808)]:List Int) rfl (cU rfl),?_⟩);obtain⟨⟨b,c⟩,e,h⟩:=bd h;refine gl (A9 (aw:=aw) (aY:=0) e) [0,1] ⟨rfl,ov,⟨⟩⟩ (.int .i64 b) [.row aw 3 1 57 (λ_=>c.lit),.row 0 1 ([(-1),0,1,2,255,256,65535,2147483647,2147483648,4294967295,4294967296,(-2147483648),9223372036854775807,(-9223372036854775808)]:List Int).length 3 (row cI ([(-1),0,1,2,255,256,65535,2147483647,2147483648,4294967295,4294967296,(-2147483648),9223372036854775807,(-9223372036854775808)]:List Int))] ?_;exact Ug
def lj (a:ai) (c:az) (b:Int):Option ((Unit) ⊕ Int):=if a.aj=4 then if b<(a.ae.length:Int)then idx a.ae b>>=λd=>if d.ar=c then some (.inr b)else lj a c (bc (b+1))else some (.inl ())else some (.inl ()) partial_fixpoint
def uC (a:ai) (b:az):Option (Int):=((lj a b 0:Option ((Unit) ⊕ Int))>>=λo1=>match o1 with | .inr r=>some r | .inl _=>some (-1))
theorem A4 {b:ai} {a:az} {r:Int} (h:uC b a=some r):ACall Tryd.prog 31 [.agg b.lit,.agg a.lit] [] (λres h=>res=.int .i64 r/\h=[]):=by
 refine gD Tryd.func31 ?_;unfold uC at h;refine .d ?_;obtain⟨o1,k,tt⟩:=bd h;replace h:=k;refine .cut (λσ η=>.inl ()=o1/\σ=[]/\η=[]) ?_ ?_;refine .d ?_;refine le (lj.partial_correctness b a (motive:=λc e=>o1=e->a7 _ _ [(2,.aH 0 0 0 0),(3,.aH 1 0 0 0),(5,.int .i64 c)] [.row 0 5 1 26 (λ_=>b.lit),.row 0 3 1 37 (λ_=>a.lit)]) ?_ 0 o1 h rfl) (tk [0,1] ⟨.p,.p,.i,⟨⟩⟩ ⟨(ed rfl),(ed rfl),⟨⟩⟩);intro s l c e h m;subst m;refine a7.round (.d (.d ⟨rfl,⟨rfl,_,rfl,(sE h (λn h=>?_) (λn h=>?_))⟩⟩));refine .t ⟨rfl,(.t ⟨rfl,_,rfl,(.t (.t (.t (sD h (λo h=>?_) (λo h=>?_)))))⟩)⟩;refine .d (.d ⟨rfl,⟨rfl,_,rfl,(bk h λg j h=>⟨bP j,_,(bx j).trans (af.aO g),⟨rfl,_,rfl,⟨_,az.jO g.ar a,(sD h (λq h=>?_) (λq h=>?_))⟩⟩⟩)⟩⟩);refine .d ?_;obtain rfl:=si h;replace h:=tt;exact eI h;exact lg (l _ _ h rfl) (tk [0,1] ⟨.p,.p,.i,⟨⟩⟩ ⟨(ed rfl),(ed rfl),⟨⟩⟩);exact Uw;exact .f (.f (.f (.f (.f (.f (ct ⟨si h,rfl,rfl⟩ (tk [] ⟨⟩ ⟨⟩)))))));rintro _ _ ⟨rfl,rfl,rfl⟩;replace h:=tt;exact .d (eI h)
def mA (b:ai) (c:az) (a:Int):Option ((Unit) ⊕ Int):=if a<(b.ae.length:Int)then idx b.ae a>>=λd=>if d.ar=c then some (.inr a)else mA b c (bc (a+1))else some (.inl ()) partial_fixpoint
def se (a:ai) (b:az):Option (Int):=if a.aj=4 then((mA a b 0:Option ((Unit) ⊕ Int))>>=λc=>match c with | .inr r=>some r | .inl _=>some (-1))else some (-1)
theorem rN {b:ai} {c:az} {r:Int} (h:se b c=some r):ACall Tryd.prog 23 [.agg b.lit,.agg c.lit] [] (λres h=>res=.int .i64 r/\h=[]):=by
 refine gD Tryd.func23 ?_;unfold se at h;refine .d (.d (.d ⟨rfl,⟨rfl,_,rfl,(sN h (λm h=>?_) (λm h=>?_))⟩⟩));exact .d (eI h);obtain⟨e,n,f⟩:=bd h;replace h:=n;refine .cut (λσ η=>.inl ()=e/\σ=[]/\η=[]) ?_ ?_;refine .d ⟨rfl,⟨rfl,_,rfl,?_⟩⟩;refine le (mA.partial_correctness b c (motive:=λg j=>e=j->a7 _ _ [(3,.aH 0 0 0 0),(11,sl 8 af.cells b.ae),(12,.int .i64 (b.ae.length:Int)),(13,.int .i64 g)] [.row 0 3 1 37 (λ_=>c.lit)]) ?_ 0 e h rfl) (tk [1] ⟨.p,.l,.i,.i,⟨⟩⟩ ⟨(ed rfl),⟨⟩⟩);intro u o g j h q;subst q;refine a7.round (.d (.d (sD h (λs h=>?_) (λs h=>?_))));refine .d (.d (bk h λa k h=>⟨bP k,_,(bx k).trans (af.aO a),⟨rfl,_,λ_=>[.bool a.ar.av,.int .i64 a.ar.ao,.str a.ar.aq,.int .i64 a.ah.aj,.int .i64 a.ah.ao,.str a.ah.aq,.int .i64 a.ah.ak,sl 8 af.cells a.ah.ae],rfl,aB rfl,(.d ⟨rfl,⟨rfl,_,rfl,⟨rfl,_,rfl,⟨_,az.jO a.ar c,(sD h (λt h=>?_) (λt h=>?_))⟩⟩⟩⟩)⟩⟩));refine .d ?_;obtain rfl:=si h;replace h:=f;exact eI h;exact lg (o _ _ h rfl) (tk [0] ⟨.p,.l,.i,.i,⟨⟩⟩ ⟨(ed rfl),⟨⟩⟩);exact Uw;rintro _ _ ⟨rfl,rfl,rfl⟩;replace h:=f;exact .d (eI h)
end Go.Am
