/- Texts of the proof, joined and shortened. -/
import Derived.Test.YtpokcbjeloeoiaaGreatDoorPk3
import Derived.Test.YtpokcbjeloeoiaaGreatDoorProg
set_option linter.unusedVariables false
set_option linter.unusedSimpArgs false
namespace Go.Am
open Go Go.RowKit
def mo (σ:Nat->Nat):PV->PV
 | .own id gen off len=>.own (σ id) gen off len
 | .aA id gen i off=>.aA (σ id) gen i off
 | .qc id=>.qc (σ id)
 | .ud f dG=>.ud f (vD σ dG)
 | v=>v
def vF (σ:Nat->Nat):PV->PV
 | .agg cs=>.agg (cs.map (mo σ))
 | v=>mo σ v
def xK (σ:Nat->Nat):PV->PV
 | .fV vs=>.fV (vs.map (vF σ))
 | v=>vF σ v
def uN (σ:Nat->Nat):aq->aq
 | .row g sz n e f=>.row g sz n e (λi=>(f i).map (mo σ))
 | .dead=>.dead
theorem JA {σ:Nat->Nat} {a:PV} (h:lG (mo σ a)=true):mo σ a=a:=by cases a<;>first | rfl | cases h
theorem JB {σ:Nat->Nat} {a:PV} (h:lG a=true):mo σ a=a:=by cases a<;>first | rfl | cases h
section
variable {P:Program}{T:sf}{μ μ0 μ1:Mu}{h h0 h1 hc:List aq}{S S0 S1:Nat->Prop}{w w':World}{σ:Nat->Nat}
theorem aeS {pv:PV} {v:Value} (l:∀j,(∃g sz n e f,h0[j]? =some (aq.row g sz n e f)/\(∃h,h1[σ j]? =some (aq.row g sz n e h))/\μ1 (σ j)=μ0 j)\/(h0[j]? =some aq.dead/\h1[σ j]? =some aq.dead)\/h0[j]? =none)
  (c:∀b,S0 b->S1 b) (hc:cV μ0 h0 S0 w pv v):cV μ1 h1 S1 w (mo σ pv) v:=by
 have m:∀(id gen i off:Nat) (v:Value),db μ0 h0 w id gen i off v->db μ1 h1 w (σ id) gen i off v:=λid gen i off v hc=>by
  unfold db at hc ⊢;obtain⟨q1,q2⟩:=hc;refine⟨q1,?_⟩;rcases l id with⟨g,sz,n,e,f,r1,⟨h,a⟩,d⟩ | ⟨r1,a⟩ | r1
  ·rw[r1]at q2;rw[a];show gen<=g/\_;rw[d];exact q2
  ·rw[a];trivial
  ·rw[r1]at q2;exact q2.elim
 cases pv with
 | own id gen off len=>
  have hc:bK μ0 h0 w id gen off len v:=hc;show bK μ1 h1 w (σ id) gen off len v;unfold bK at hc ⊢;obtain⟨q1,q2⟩:=hc;refine⟨q1,?_⟩;rcases l id with⟨g,sz,n,e,f,r1,⟨h,a⟩,d⟩ | ⟨r1,a⟩ | r1
  ·rw[r1]at q2;rw[a];show gen<=g/\_;rw[d];exact q2
  ·rw[a];trivial
  ·rw[r1]at q2;exact q2.elim
 | aA id gen i off=>exact m _ _ _ _ _ hc
 | ud f dG=>exact wL.map (O:=λid g u=>db μ1 h1 w id g 0 0 u) (wL.mono (show sn μ0 h0 w f dG v from hc) (λid g u hu=>m id g 0 0 u hu))
 | qc id=>
  have hc:ik μ0 h0 w id v:=hc;show ik μ1 h1 w (σ id) v;unfold ik at hc ⊢;obtain⟨q1,q2⟩:=hc;refine⟨q1,?_⟩;rcases l id with⟨g,sz,n,e,f,r1,⟨h,a⟩,d⟩ | ⟨r1,a⟩ | r1
  ·rw[r1]at q2;rw[a];obtain⟨b,base,o,p⟩:=q2;exact⟨b,base,d.trans o,p⟩
  ·rw[a];trivial
  ·rw[r1]at q2;exact q2.elim
 | j3=>exact hc
 | eg sz n e f F=>exact hc
 | agg cs=>exact(show False from hc).elim
 | fV cs=>exact(show False from hc).elim
 | int k n=>exact ba.mono (λ_ _=>rfl) c hc
 | bool b=>exact ba.mono (λ_ _=>rfl) c hc
 | str s=>exact ba.mono (λ_ _=>rfl) c hc
 | ck=>exact ba.mono (λ_ _=>rfl) c hc
 | jS=>exact ba.mono (λ_ _=>rfl) c hc
 | iT sz n f=>exact ba.mono (λ_ _=>rfl) c hc
 | ia cs=>exact ba.mono (λ_ _=>rfl) c hc
 | fn f=>exact ba.mono (λ_ _=>rfl) c hc
theorem jh {pv:PV} {v:Value} (a:∀pv v,cV μ0 h0 S0 w pv v->cV μ1 h1 S1 w (mo σ pv) v) (hc:ky μ0 h0 S0 w pv v):ky μ1 h1 S1 w (vF σ pv) v:=by
 cases pv with
 | agg cs=>
  obtain⟨vs,q1,q2,q3⟩:=hc;refine⟨vs,q1,by simpa using q2,λj pv hj=>?_⟩;rw[aOG]at hj;cases hx:cs[j]? with
  | none=>rw[hx]at hj;cases hj
  | some c=>
   rw[hx]at hj;injection hj with hj;subst hj;obtain⟨u,r1,d⟩:=q3 j c hx;exact⟨u,r1,a _ _ d⟩
 | j3=>trivial
 | eg sz n e f F=>exact a (.eg sz n e f F) v hc
 | fV cs=>exact(show False from hc).elim
 | own id gen off len=>exact a (.own id gen off len) v hc
 | aA id gen i off=>exact a (.aA id gen i off) v hc
 | qc id=>exact a (.qc id) v hc
 | ud f dG=>exact a (.ud f dG) v hc
 | int k n=>exact a (.int k n) v hc
 | bool b=>exact a (.bool b) v hc
 | str s=>exact a (.str s) v hc
 | ck=>exact a .ck v hc
 | jS=>exact a .jS v hc
 | iT sz n f=>exact a (.iT sz n f) v hc
 | ia cs=>exact a (.ia cs) v hc
 | fn f=>exact a (.fn f) v hc
theorem aeT {pv:PV} {v:Value} (a:∀pv v,cV μ0 h0 S0 w pv v->cV μ1 h1 S1 w (mo σ pv) v) (hc:cj μ0 h0 S0 w pv v):cj μ1 h1 S1 w (xK σ pv) v:=by
 cases pv with
 | fV cs=>
  obtain⟨vs,q1,q2,q3⟩:=hc;refine⟨vs,q1,by simpa using q2,λj pv hj=>?_⟩;rw[aOG]at hj;cases hx:cs[j]? with
  | none=>rw[hx]at hj;cases hj
  | some c=>
   rw[hx]at hj;injection hj with hj;subst hj;obtain⟨u,r1,d⟩:=q3 j c hx;exact⟨u,r1,jh a d⟩
 | agg cs=>exact jh (pv:=.agg cs) a hc
 | j3=>trivial
 | eg sz n e f F=>exact jh (pv:=.eg sz n e f F) a hc
 | own id gen off len=>exact jh (pv:=.own id gen off len) a hc
 | aA id gen i off=>exact jh (pv:=.aA id gen i off) a hc
 | qc id=>exact jh (pv:=.qc id) a hc
 | ud f dG=>exact jh (pv:=.ud f dG) a hc
 | int k n=>exact jh (pv:=.int k n) a hc
 | bool b=>exact jh (pv:=.bool b) a hc
 | str s=>exact jh (pv:=.str s) a hc
 | ck=>exact jh (pv:=.ck) a hc
 | jS=>exact jh (pv:=.jS) a hc
 | iT sz n f=>exact jh (pv:=.iT sz n f) a hc
 | ia cs=>exact jh (pv:=.ia cs) a hc
 | fn f=>exact jh (pv:=.fn f) a hc
structure Sel (σ:Nat->Nat) (m:Nat) (h:List aq):Prop where
 lt:∀j,j<m->σ j<h.length
 new:∀j,m<=j->σ j=h.length+(j - m)
 inj:∀i j,i<m->j<m->σ i=σ j->i=j
theorem Sel.aMh {m:Nat} (hs:Sel σ m h) {i j:Nat} (he:σ i=σ j):i=j:=by
 rcases aPf i m with hi | hi
 ·rcases aPf j m with hj | hj
  ·exact hs.inj i j hi hj he
  ·have:=hs.lt i hi;have:=hs.new j hj;omega
 ·rcases aPf j m with hj | hj
  ·have:=hs.lt j hj;have:=hs.new i hi;omega
  ·have:=hs.new i hi;have:=hs.new j hj;omega
structure ak6 (σ:Nat->Nat) (h h0 h':List aq):Prop where
 SS:∀id,(∀j,j<h0.length->σ j≠id)->h'[id]? =h[id]?
 sel:∀j o,h0[j]? =some o->h'[σ j]? =some (uN σ o)
 len:h.length<=h'.length
def Gr (μ:Mu) (σ:Nat->Nat) (m:Nat):Mu:=λj=>if j<m then μ (σ j)else none
open Classical in
noncomputable def muA (μ:Mu) (σ:Nat->Nat) (m:Nat) (μ0:Mu):Mu:=λid=>if hx:∃j,j<m/\σ j=id then μ0 (Classical.choose hx)else μ id
theorem aiy {m:Nat} (a:∀i j,σ i=σ j->i=j) {j:Nat} (hj:j<m):muA μ σ m μ0 (σ j)=μ0 j:=by
 have hx:∃i,i<m/\σ i=σ j:=⟨j,hj,rfl⟩;unfold muA;rw[dif_pos hx,a _ _ (Classical.choose_spec hx).2]
theorem Lx {m id:Nat} (a:∀j,j<m->σ j≠id):muA μ σ m μ0 id=μ id:=by
 unfold muA;rw[dif_neg];rintro⟨j,h1,h2⟩;exact a j h1 h2
theorem gM (q:Sel σ hc.length h) (m:∀j o,hc[j]? =some o->h[σ j]? =some (uN σ o)) {pv:PV} {v:Value} (a:cV μ h S w (mo σ pv) v):cV (Gr μ σ hc.length) hc S w pv v:=by
 have get:∀id,(∃g sz n e f,hc[id]? =some (aq.row g sz n e f)/\h[σ id]? =some (uN σ (aq.row g sz n e f))/\Gr μ σ hc.length id=μ (σ id))\/(hc[id]? =some aq.dead/\h[σ id]? =some aq.dead)\/h[σ id]? =none:=λid=>by
  cases l:hc[id]? with
  | none=>
   refine .inr (.inr (aPc ?_));have r:hc.length<=id:=List.getElem?_eq_none_iff.1 l;have:=q.new id r;omega
  | some o=>
   have t:=(N2.1 l).1;cases o with
   | dead=>exact .inr (.inl ⟨rfl,m id _ l⟩)
   | row g sz n e f=>exact .inl ⟨g,sz,n,e,f,rfl,m id _ l,by unfold Gr;rw[An t]⟩
 have p:∀(id gen i off:Nat) (v:Value),db μ h w (σ id) gen i off v->db (Gr μ σ hc.length) hc w id gen i off v:=λid gen i off v a=>by
  unfold db at a ⊢;obtain⟨q1,q2⟩:=a;refine⟨q1,?_⟩;rcases get id with⟨g,sz,n,e,f,r1,c,d⟩ | ⟨r1,c⟩ | r1
  ·rw[c]at q2;rw[r1];show gen<=g/\_;rw[d];exact q2
  ·rw[r1];trivial
  ·rw[r1]at q2;exact q2.elim
 cases pv with
 | own id gen off len=>
  have a:bK μ h w (σ id) gen off len v:=a;show bK _ hc w id gen off len v;unfold bK at a ⊢;obtain⟨q1,q2⟩:=a;refine⟨q1,?_⟩;rcases get id with⟨g,sz,n,e,f,r1,c,d⟩ | ⟨r1,c⟩ | r1
  ·rw[c]at q2;rw[r1];show gen<=g/\_;rw[d];exact q2
  ·rw[r1];trivial
  ·rw[r1]at q2;exact q2.elim
 | aA id gen i off=>exact p _ _ _ _ _ a
 | ud f dG=>exact wL.mono (wL.aF0 (show sn μ h w f (vD σ dG) v from a)) (λid g u hu=>p _ _ _ _ _ hu)
 | qc id=>
  have a:ik μ h w (σ id) v:=a;show ik _ hc w id v;unfold ik at a ⊢;obtain⟨q1,q2⟩:=a;refine⟨q1,?_⟩;rcases get id with⟨g,sz,n,e,f,r1,c,d⟩ | ⟨r1,c⟩ | r1
  ·rw[c]at q2;rw[r1];obtain⟨b,base,x,y⟩:=q2;exact⟨b,base,d.trans x,y⟩
  ·rw[r1];trivial
  ·rw[r1]at q2;exact q2.elim
 | j3=>exact a
 | eg sz n e f F=>exact a
 | agg cs=>exact(show False from a).elim
 | fV cs=>exact(show False from a).elim
 | int k n=>exact a
 | bool b=>exact a
 | str s=>exact a
 | ck=>exact a
 | jS=>exact a
 | iT sz n f=>exact a
 | ia cs=>exact a
 | fn f=>exact a
theorem W5 (c:Sel σ hc.length h) (d:∀j o,hc[j]? =some o->h[σ j]? =some (uN σ o)) {pv:PV} {v:Value} (a:ky μ h S w (vF σ pv) v):ky (Gr μ σ hc.length) hc S w pv v:=by
 cases pv with
 | agg cs=>
  obtain⟨vs,q1,q2,q3⟩:=a;refine⟨vs,q1,by simpa using q2,λj pv hj=>?_⟩;obtain⟨u,r1,g⟩:=q3 j (mo σ pv) (by rw[aOG,hj];rfl);exact⟨u,r1,gM c d g⟩
 | j3=>trivial
 | eg sz n e f F=>exact gM (μ:=μ) (S:=S) (w:=w) (pv:=.eg sz n e f F) c d a
 | fV cs=>exact(show False from a).elim
 | own id gen off len=>exact gM (μ:=μ) (S:=S) (w:=w) (pv:=.own id gen off len) c d a
 | aA id gen i off=>exact gM (μ:=μ) (S:=S) (w:=w) (pv:=.aA id gen i off) c d a
 | qc id=>exact gM (μ:=μ) (S:=S) (w:=w) (pv:=.qc id) c d a
 | ud f dG=>exact gM (μ:=μ) (S:=S) (w:=w) (pv:=.ud f dG) c d a
 | int k n=>exact gM (μ:=μ) (S:=S) (w:=w) (pv:=.int k n) c d a
 | bool b=>exact gM (μ:=μ) (S:=S) (w:=w) (pv:=.bool b) c d a
 | str s=>exact gM (μ:=μ) (S:=S) (w:=w) (pv:=.str s) c d a
 | ck=>exact gM (μ:=μ) (S:=S) (w:=w) (pv:=.ck) c d a
 | jS=>exact gM (μ:=μ) (S:=S) (w:=w) (pv:=.jS) c d a
 | iT sz n f=>exact gM (μ:=μ) (S:=S) (w:=w) (pv:=.iT sz n f) c d a
 | ia cs=>exact gM (μ:=μ) (S:=S) (w:=w) (pv:=.ia cs) c d a
 | fn f=>exact gM (μ:=μ) (S:=S) (w:=w) (pv:=.fn f) c d a
theorem aeV {c:PV} {sz n:Nat} {e:TypeId} {f:Nat->List PV} {F:Nat->Prop} (hc:mo σ c=.eg sz n e f F):c=.eg sz n e f F:=by cases c<;>first | exact hc | cases hc
theorem aiz {c:PV} (h:eV c=false):eV (mo σ c)=false:=by cases c<;>first | rfl | cases h
theorem ACall.sel {f:FuncId} {args kB:List PV} {R:PV->List aq->Prop} (hA:ACall P f args hc R) (h:List aq) (sw:Sel σ hc.length h) (H:∀j o,hc[j]? =some o->h[σ j]? =some (uN σ o))
  (n8:kB=args.map (vF σ)) (Y:List aq->List aq) (br:∀h0,hc.length<=h0.length->ak6 σ h h0 (Y h0)):
  ACall P f kB h (λres h'=>∃r0 h0,R r0 h0/\res=xK σ r0/\h'=Y h0):=by
 refine⟨hA.1,λw vs μ S hH A j5 ha=>?_⟩;subst n8;have Z:∀i j,σ i=σ j->i=j:=λi j=>sw.aMh
 have N:∀b,FW (Gr μ σ hc.length) hc b->FW μ h b:=λb ⟨j,g,sz,n,e,f,base,q1,q2⟩=>by
  have O:=(N2.1 q1).1;unfold Gr at q2;rw[An O]at q2;exact⟨σ j,g,sz,n,e,_,base,H j _ q1,q2⟩
 have W6:∀j x y b,eK hc j x y b->eK h (σ j) x y b:=λj x y b ⟨g,sz,n,e,f,cW,n',e',f',F',q1,q2,q3,q4⟩=>⟨g,sz,n,e,_,cW,n',e',f',F',H j _ q1,q2,by
  show((f x).map (mo σ))[y]? =_;rw[aOG,q3];rfl,q4⟩
 have I:∀b,dE (Gr μ σ hc.length) hc b->dE μ h b/\True:=λb m=>by
  rcases m with m | ⟨x,y,z,m⟩
  ·exact⟨.inl (N b m),trivial⟩
  ·exact⟨.inr ⟨_,_,_,W6 _ _ _ _ m⟩,trivial⟩
 have bt:dB (Gr μ σ hc.length) hc S w:=λj g sz n e f hj=>by
  have O:=(N2.1 hj).1;obtain⟨q1,q2⟩:=hH (σ j) _ _ _ _ _ (H j _ hj);refine⟨λi hi=>by simpa using q1 i hi,?_⟩;have hm:Gr μ σ hc.length j=μ (σ j):=by unfold Gr;rw[An O]
  rw[hm];cases Q:μ (σ j)with
  | none=>rw[Q]at q2;exact q2
  | some p=>
   obtain⟨b,base⟩:=p;rw[Q]at q2;obtain⟨o,r1,d⟩:=q2;refine⟨o,r1,?_⟩;cases o with
   | cells cur e' z=>
    obtain⟨x1,x2,x3,B⟩:=d;refine⟨x1,x2,x3,λi k pv hi hk=>?_⟩;obtain⟨u,s1,W⟩:=B i k (mo σ pv) hi (by rw[aOG,hk];rfl);refine⟨u,s1,?_⟩;cases hx:eV pv with
    | false=>exact(gM sw H W.c).k hx
    | true=>
     cases pv with
     | eg mY n2 e2 f2 F2=>exact W
     | _=>cases hx
   | map es c=>
    obtain⟨x1,B⟩:=d;refine⟨x1,λi hi=>?_⟩;obtain⟨kp,vp,en,y1,y2,y3,y4⟩:=B i hi;refine⟨kp,vp,en,?_,y2,y3,y4⟩;have y1:(f i).map (mo σ)=[kp,vp]:=y1;generalize f i=l at y1;rcases l with _ | ⟨a,_ | ⟨b,_ | ⟨c3,l3⟩⟩⟩<;>simp at y1;obtain⟨rfl,rfl⟩:=y1;rw[JA y2,JA y3]
   | _=>exact d.elim
 have bw:vz (Gr μ σ hc.length) hc S w:=⟨λb m=>A.apart b (I b m).1,λb m=>A.lt b (I b m).1,A.slt,λi j gi WD ni ei fi gj mz nj ej fj b o o' hi hj pz oA=>by
  have b0:=(N2.1 hi).1;have b1:=(N2.1 hj).1;unfold Gr at pz oA;rw[An b0]at pz;rw[An b1]at oA;exact Z _ _ (A.inj _ _ _ _ _ _ _ _ _ _ _ _ _ _ _ (H i _ hi) (H j _ hj) pz oA),A.known,λb m x y z hx=>A.hv b (N b m) _ _ _ (W6 _ _ _ _ hx),λb x y z x' y' z' hx tr=>by
  obtain⟨J,e2,T⟩:=A.hh b _ _ _ _ _ _ (W6 _ _ _ _ hx) (W6 _ _ _ _ tr);exact⟨Z _ _ J,e2,T⟩⟩
 refine(hA.2 w vs _ S bt bw (by simpa using j5) (λj pv hj=>?_)).mono ?_
 ·obtain⟨v,q1,q2⟩:=ha j (vF σ pv) (by rw[aOG,hj];rfl);exact⟨v,q1,W5 sw H q2⟩
 ·rintro e w' ⟨v,r0,h0,μ0,S0,he,hR,hv,b3,Me,s⟩;have hlen:hc.length<=h0.length:=s.len;have G:=br h0 hlen;obtain⟨h',ad⟩:∃h',h'=Y h0:=⟨_,rfl⟩;rw[<-ad]at G;have U:∀j,j<h0.length->muA μ σ h0.length μ0 (σ j)=μ0 j:=λj hj=>aiy Z hj
  have inv:∀id o,h'[id]? =some o->(∃j X,σ j=id/\h0[j]? =some X/\o=uN σ X/\muA μ σ h0.length μ0 id=μ0 j)\/((∀j,j<h0.length->σ j≠id)/\h[id]? =some o/\muA μ σ h0.length μ0 id=μ id):=λid o hid=>by
   by_cases hx:∃j,j<h0.length/\σ j=id
   ·obtain⟨j,hj,rfl⟩:=hx;have:=G.sel j _ (abF hj);rw[this]at hid;injection hid with hid;exact .inl ⟨j,_,rfl,abF hj,hid.symm,U j hj⟩
   ·have D:∀j,j<h0.length->σ j≠id:=λj hj he=>hx ⟨j,hj,he⟩;rw[G.SS id D]at hid;exact .inr ⟨D,hid,Lx D⟩
  have apart:∀id g sz n e f b base,(∀j,j<h0.length->σ j≠id)->h[id]? =some (aq.row g sz n e f)->μ id=some (b,base)->¬dE (Gr μ σ hc.length) hc b:=λid g sz n e f b base D hid hm K=>by
   rcases K with⟨j,gj,mz,nj,ej,fj,bj,q1,q2⟩ | ⟨x,y,z,hx⟩;rotate_left
   ·exact A.hv b ⟨id,g,sz,n,e,f,base,hid,hm⟩ _ _ _ (W6 _ _ _ _ hx)
   have O:=(N2.1 q1).1;unfold Gr at q2;rw[An O]at q2;exact D j aRK (A.inj _ _ _ _ _ _ _ _ _ _ _ _ _ _ _ (H j _ q1) hid q2 hm)
  have Gs:∀id x y b,(∀j,j<h0.length->σ j≠id)->eK h id x y b->¬dE (Gr μ σ hc.length) hc b:=λid x y b D hx K=>by
   rcases K with K | ⟨j,x',y',tr⟩
   ·exact A.hv b (N b K) _ _ _ hx
   ·obtain⟨J,_,_⟩:=A.hh b _ _ _ _ _ _ (W6 _ _ _ _ tr) hx;obtain⟨_,_,_,_,_,_,_,_,_,_,q1,_⟩:=tr;have:=(N2.1 q1).1;exact D j aRK J
  have ag:∀b,FW (muA μ σ h0.length μ0) h' b->FW μ0 h0 b\/∃id g sz n e f base,(∀j,j<h0.length->σ j≠id)/\h[id]? =some (aq.row g sz n e f)/\μ id=some (b,base):=λb ⟨id,g,sz,n,e,f,base,q1,q2⟩=>by
   rcases inv id _ q1 with⟨j,X,rfl,r1,d,B⟩ | ⟨r1,d,B⟩
   ·rw[B]at q2;cases X with
    | dead=>cases d
    | row g0 V n0 e0 f0=>exact .inl ⟨j,g0,V,n0,e0,f0,base,r1,q2⟩
   ·rw[B]at q2;exact .inr ⟨id,g,sz,n,e,f,base,r1,d,q2⟩
  have JC:∀id x y b,eK h' id x y b->(∃j,σ j=id/\eK h0 j x y b)\/((∀j,j<h0.length->σ j≠id)/\eK h id x y b):=λid x y b ⟨g,sz,n,e,f,cW,n',e',f',F',q1,q2,q3,q4⟩=>by
   rcases inv id _ q1 with⟨j,X,rfl,r1,d,B⟩ | ⟨r1,d,B⟩
   ·cases X with
    | dead=>cases d
    | row g0 V n0 e0 f0=>
     injection d with J e2 T e4 e5;subst J e2 T e4 e5;rw[aOG]at q3;cases hx:(f0 x)[y]? with
     | none=>rw[hx]at q3;cases q3
     | some c=>
      rw[hx]at q3;injection q3 with q3;rw[aeV q3]at hx;exact .inl ⟨j,rfl,_,_,_,_,_,_,_,_,_,_,r1,q2,hx,q4⟩
   ·exact .inr ⟨r1,_,_,_,_,_,_,_,_,_,_,d,q2,q3,q4⟩
  have mV:∀b,dE (muA μ σ h0.length μ0) h' b->dE μ0 h0 b\/(dE μ h b/\¬dE (Gr μ σ hc.length) hc b):=λb m=>by
   rcases m with m | ⟨x,y,z,m⟩
   ·rcases ag b m with q | ⟨id,g,sz,n,e,f,base,q1,q2,q3⟩
    ·exact .inl (.inl q)
    ·exact .inr ⟨.inl ⟨id,g,sz,n,e,f,base,q2,q3⟩,apart id _ _ _ _ _ _ _ q1 q2 q3⟩
   ·rcases JC x y z b m with⟨j,_,q⟩ | ⟨q1,q2⟩
    ·exact .inl (.inr ⟨_,_,_,q⟩)
    ·exact .inr ⟨.inr ⟨_,_,_,q2⟩,Gs _ _ _ _ q1 q2⟩
  have mixed:∀b,dE μ0 h0 b->dE μ h b->¬dE (Gr μ σ hc.length) hc b->False:=λb q1 q2 q3=>by
   rcases s.own b q1 with r | r
   ·exact q3 r
   ·have:=A.lt b q2;omega
  have kP:Fr μ h S w (muA μ σ h0.length μ0) h' S0 w':=by
   refine⟨G.len,λb m Bb=>s.blocks b m (λE=>Bb (I b E).1),s.sub,λb m=>?_,λb m=>?_,s.size,s.os,s.tape,s.output,λid g sz n e f hid=>?_,λid hid=>?_,λb k m il=>?_,λid g sz n e f b base hid hm om=>?_,λb id x y hx om=>?_⟩;rotate_right
   ·by_cases E:dE (Gr μ σ hc.length) hc b
    ·rcases E with E | ⟨j,x',y',E⟩
     ·exact absurd hx (A.hv b (N b E) _ _ _)
     ·exact s.ze b j x' y' E om
    ·obtain⟨es,c,q⟩:=om;exact⟨es,c,(s.blocks b (amb.1 q).1 E).trans q⟩
   ·rcases s.new b m with q | q | q
    ·exact .inl q
    ·exact .inr (.inl (I b q).1)
    ·exact .inr (.inr q)
   ·rcases mV b m with q | ⟨q,_⟩
    ·rcases s.own b q with r | r
     ·exact .inl (I b r).1
     ·exact .inr r
    ·exact .inl q
   ·by_cases hx:∃j,j<hc.length/\σ j=id
    ·obtain⟨j,hj,rfl⟩:=hx;have vG:j<h0.length:=by omega
     have L:=abF hj;have K:=H j _ L;rw[K]at hid;cases C:hc[j]with
     | dead=>rw[C]at hid;cases hid
     | row gc a6 nc ec fc=>
      rw[C]at hid L;injection hid with hid;injection hid with J e2 T e4 e5;subst J e2 T e4;have hg:=s.FX j _ _ _ _ _ L;have hs:=G.sel j _ (abF vG);rw[abF vG]at hg;rw[hs];cases b4:h0[j]with
      | dead=>trivial
      | row g' cW n' e' f'=>
       rw[b4]at hg;refine⟨hg.1,λUq=>?_⟩;obtain⟨a1,a2,a3,a4⟩:=hg.2 Uq;refine⟨?_,a2,a3,a4⟩;rw[U j vG,a1];unfold Gr;rw[An hj]
    ·have D:∀j,j<h0.length->σ j≠id:=λj hj he=>by
      rcases aPf j hc.length with h1 | h1
      ·exact hx ⟨j,h1,he⟩
      ·have:=sw.new j h1;have:=(N2.1 hid).1;omega
     rw[G.SS id D,hid];exact⟨Of _,λ_=>⟨Lx D,rfl,rfl,rfl⟩⟩
   ·by_cases hx:∃j,j<hc.length/\σ j=id
    ·obtain⟨j,hj,rfl⟩:=hx;have vG:j<h0.length:=by omega
     have L:=abF hj;have K:=H j _ L;rw[K]at hid;cases C:hc[j]with
     | row gc a6 nc ec fc=>rw[C]at hid;cases hid
     | dead=>
      rw[C]at L;have hd:=s.dead j L;exact G.sel j _ hd
    ·have D:∀j,j<h0.length->σ j≠id:=λj hj he=>by
      rcases aPf j hc.length with h1 | h1
      ·exact hx ⟨j,h1,he⟩
      ·have:=sw.new j h1;have:=(N2.1 hid).1;omega
     rw[G.SS id D,hid]
   ·by_cases E:dE (Gr μ σ hc.length) hc b
    ·exact s.dG b k E il
    ·exact lH.of_same (s.blocks b il.lt E) il
   ·by_cases hx:∃j,j<hc.length/\σ j=id
    ·obtain⟨j,hj,rfl⟩:=hx;have vG:j<h0.length:=by omega
     have L:=abF hj;have K:=H j _ L;rw[K]at hid;cases C:hc[j]with
     | dead=>rw[C]at hid;cases hid
     | row gc a6 nc ec fc=>
      rw[C]at hid L;have b5:Gr μ σ hc.length j=some (b,base):=by unfold Gr;rw[An hj];exact hm
      obtain⟨r1,d⟩:=s.maps j _ _ _ _ _ b base L b5 om;refine⟨r1,?_⟩;rcases d with d | ⟨⟨g',cW,n',e',f',d⟩,B⟩
      ·exact .inl (G.sel j _ d)
      ·exact .inr ⟨⟨_,_,_,_,_,G.sel j _ d⟩,(U j vG).trans B⟩
    ·have D:∀j,j<h0.length->σ j≠id:=λj hj he=>by
      rcases aPf j hc.length with h1 | h1
      ·exact hx ⟨j,h1,he⟩
      ·have:=sw.new j h1;have:=(N2.1 hid).1;omega
     obtain⟨es,c,q⟩:=om;exact⟨⟨es,c,(s.blocks b (amb.1 q).1 (apart id _ _ _ _ _ _ _ D hid hm)).trans q⟩,.inr ⟨⟨_,_,_,_,_,(G.SS id D).trans hid⟩,(Lx D).trans hm⟩⟩
  have bD:∀pv v,cV μ0 h0 S0 w' pv v->cV (muA μ σ h0.length μ0) h' S0 w' (mo σ pv) v:=λpv v b6=>by
   refine aeS (λj=>?_) (λ_ m=>m) b6;cases E:h0[j]? with
   | none=>exact .inr (.inr rfl)
   | some o=>
    have O:=(N2.1 E).1;cases o with
    | dead=>exact .inr (.inl ⟨rfl,G.sel j _ E⟩)
    | row g sz n e f=>exact .inl ⟨g,sz,n,e,f,rfl,⟨_,G.sel j _ E⟩,U j O⟩
  refine⟨v,_,h',_,S0,he,⟨r0,h0,hR,rfl,?_⟩,aeT bD hv,λid g sz n e f hid=>?_,⟨λb m hs=>?_,λb m=>?_,Me.slt,?_,Me.known,λb m id x y hx=>?_,λb id x y a8 x' y' hx tr=>?_⟩,kP⟩;rotate_right 2
  ·rcases ag b m with q | ⟨k,g,sz,n,e,f,base,q1,q2,q3⟩
   ·rcases JC id x y b hx with⟨j,_,r⟩ | ⟨r1,d⟩
    ·exact Me.hv b q _ _ _ r
    ·exact mixed b (.inl q) (.inr ⟨_,_,_,d⟩) (Gs _ _ _ _ r1 d)
   ·rcases JC id x y b hx with⟨j,_,r⟩ | ⟨r1,d⟩
    ·exact mixed b (.inr ⟨_,_,_,r⟩) (.inl ⟨k,g,sz,n,e,f,base,q2,q3⟩) (apart k _ _ _ _ _ _ _ q1 q2 q3)
    ·exact A.hv b ⟨k,g,sz,n,e,f,base,q2,q3⟩ _ _ _ d
  ·rcases JC id x y b hx with⟨j,rfl,r⟩ | ⟨r1,d⟩
   ·rcases JC a8 x' y' b tr with⟨j',rfl,t⟩ | ⟨M,F⟩
    ·obtain⟨J,e2,T⟩:=Me.hh b _ _ _ _ _ _ r t;exact⟨by rw[J],e2,T⟩
    ·exact(mixed b (.inr ⟨_,_,_,r⟩) (.inr ⟨_,_,_,F⟩) (Gs _ _ _ _ M F)).elim
   ·rcases JC a8 x' y' b tr with⟨j',rfl,t⟩ | ⟨M,F⟩
    ·exact(mixed b (.inr ⟨_,_,_,t⟩) (.inr ⟨_,_,_,d⟩) (Gs _ _ _ _ r1 d)).elim
    ·exact A.hh b _ _ _ _ _ _ d F
  ·exact ad
  ·rcases inv id _ hid with⟨j,X,rfl,r1,d,B⟩ | ⟨r1,d,B⟩
   ·cases X with
    | dead=>cases d
    | row g0 V n0 e0 f0=>
     injection d with J e2 T e4 e5;subst J e2 T e4 e5;obtain⟨q1,q2⟩:=b3 j _ _ _ _ _ r1;refine⟨λi hi=>by simpa using q1 i hi,?_⟩;rw[B];cases Q:μ0 j with
     | none=>rw[Q]at q2;exact q2
     | some p=>
      obtain⟨b,base⟩:=p;rw[Q]at q2;obtain⟨o,s1,W⟩:=q2;refine⟨o,s1,?_⟩;cases o with
      | cells cur e' z=>
       obtain⟨x1,x2,x3,s3⟩:=W;refine⟨x1,x2,x3,λi k pv hi hk=>?_⟩;rw[aOG]at hk;cases hx:(f0 i)[k]? with
       | none=>rw[hx]at hk;cases hk
       | some c=>
        rw[hx]at hk;injection hk with hk;subst hk;obtain⟨u,M,F⟩:=s3 i k c hi hx;refine⟨u,M,?_⟩;cases a9:eV c with
        | false=>exact(bD _ _ F.c).k (aiz a9)
        | true=>
         cases c with
         | eg mY n2 e2 f2 F2=>exact F
         | _=>cases a9
      | map es c=>
       obtain⟨x1,s3⟩:=W;refine⟨x1,λi hi=>?_⟩;obtain⟨kp,vp,en,y1,y2,y3,y4⟩:=s3 i hi;exact⟨kp,vp,en,by show(f0 i).map (mo σ)=_;rw[y1];show[mo σ kp,mo σ vp]=_;rw[JB y2,JB y3],y2,y3,y4⟩
      | _=>exact W.elim
   ·obtain⟨q1,q2⟩:=hH id _ _ _ _ _ d;refine⟨q1,?_⟩;rw[B];cases Q:μ id with
    | none=>rw[Q]at q2;exact q2
    | some p=>
     obtain⟨b,base⟩:=p;rw[Q]at q2;obtain⟨o,s1,W⟩:=q2;have O:b<w.heap.size:=(amb.1 s1).1
     exact⟨o,(s.blocks b O (apart id _ _ _ _ _ _ _ r1 d Q)).trans s1,W.mono (λi y pv v hi hy hr=>hr.fr kP A (λcW n' e' f' F' he b2 yd=>by
      have hx:eK h id i y b2:=⟨_,_,_,_,_,_,_,_,_,_,d,hi,he▸hy,yd⟩;exact s.blocks b2 (A.lt b2 (.inr ⟨_,_,_,hx⟩)) (Gs _ _ _ _ r1 hx)))⟩
  ·rcases mV b m with q | ⟨q1,q2⟩
   ·exact Me.apart b q hs
   ·rcases s.new b hs with r | r | r
    ·exact A.apart b q1 r
    ·exact q2 r
    ·have:=A.lt b q1;omega
  ·rcases mV b m with q | ⟨q1,_⟩
   ·exact Me.lt b q
   ·exact aOE (A.lt b q1) s.size
  ·intro i j gi WD ni ei fi gj mz nj ej fj b o o' hi hj pz oA
   have bo:∀(i':Nat) (o1:aq) (g sz n:Nat) (e:TypeId) (f:Nat->List PV) (oo:Nat) (id g2 mY n2:Nat) (e2:TypeId) (f2:Nat->List PV) (aa:Nat),h0[i']? =some (aq.row g sz n e f)->μ0 i'=some (b,oo)->(∀j,j<h0.length->σ j≠id)->h[id]? =some (aq.row g2 mY n2 e2 f2)->μ id=some (b,aa)->False:=
    λi' o1 g sz n e f oo id g2 mY n2 e2 f2 aa a1 a2 a3 a4 a5=>by
     exact mixed b (.inl ⟨i',g,sz,n,e,f,oo,a1,a2⟩) (.inl ⟨id,g2,mY,n2,e2,f2,aa,a4,a5⟩) (apart id _ _ _ _ _ _ _ a3 a4 a5)
   rcases inv i _ hi with⟨i0,oi,rfl,r1,d,B⟩ | ⟨r1,d,B⟩
   ·rw[B]at pz;cases oi with
    | dead=>cases d
    | row g0 V n0 e0 f0=>
     rcases inv j _ hj with⟨j0,oj,rfl,M,F,t3⟩ | ⟨M,F,t3⟩
     ·rw[t3]at oA;cases oj with
      | dead=>cases F
      | row g2 mY n2 e2 f2=>rw[Me.inj i0 j0 _ _ _ _ _ _ _ _ _ _ _ _ _ r1 M pz oA]
     ·rw[t3]at oA;exact(bo i0 aq.dead _ _ _ _ _ _ _ _ _ _ _ _ _ r1 pz M F oA).elim
   ·rw[B]at pz;rcases inv j _ hj with⟨j0,oj,rfl,M,F,t3⟩ | ⟨M,F,t3⟩
    ·rw[t3]at oA;cases oj with
     | dead=>cases F
     | row g2 mY n2 e2 f2=>exact(bo j0 aq.dead _ _ _ _ _ _ _ _ _ _ _ _ _ M oA r1 d pz).elim
    ·rw[t3]at oA;exact A.inj i j _ _ _ _ _ _ _ _ _ _ _ _ _ d F pz oA
def dU (is:List Nat) (N:Nat) (j:Nat):Nat:=match is[j]? with
 | some id=>id
 | none=>N+(j - is.length)
def pd (h:List aq):List Nat->List aq->List aq
 | id::r,o::l=>pd (h.set id o) r l
 | _,_=>h
def tY (h:List aq) (is:List Nat) (h0:List aq):List aq:=
 pd h is (h0.map (uN (dU is h.length)))++(h0.drop is.length).map (uN (dU is h.length))
theorem iK:∀(is:List Nat) (l h:List aq),(pd h is l).length=h.length
 | [],[],_=>rfl
 | [],_::_,_=>rfl
 | _::_,[],_=>rfl
 | id::r,o::l,h=>by simp only[pd];rw[iK r l];simp
theorem z6:∀(is:List Nat) (l h:List aq) (id:Nat),id∉is->(pd h is l)[id]? =h[id]?
 | [],[],_,_,_=>rfl
 | [],_::_,_,_,_=>rfl
 | _::_,[],_,_,_=>rfl
 | i::r,o::l,h,id,a=>by
  simp only[aOz,not_or]at a;simp only[pd];rw[z6 r l _ id a.2,aOI (aPB a.1)]
theorem Gt:∀(is:List Nat) (l h:List aq) (j id:Nat) (o:aq),is.Nodup->is[j]? =some id->l[j]? =some o->id<h.length->(pd h is l)[id]? =some o
 | [],_,_,_,_,_,_,h1,_,_=>by simp at h1
 | _::_,[],_,_,_,_,_,_,h2,_=>by simp at h2
 | i::r,b::l,h,j,id,o,hd,h1,h2,a=>by
  simp only[List.nodup_cons]at hd;simp only[pd];cases j with
  | zero=>
   simp at h1 h2;subst h1 h2;rw[z6 r l _ _ hd.1];simp [a]
  | succ j=>
   exact Gt r l _ j id o hd.2 aSq aSp (by simpa using a)
theorem aqH (is:List Nat) (h:List aq) (hd:is.Nodup) (a:∀id∈is,id<h.length):Sel (dU is h.length) is.length h where
 lt j hj:=by
  unfold dU;rw[abF hj];exact a _ (aOD hj)
 new j hj:=by
  unfold dU;rw[aPc hj]
 inj i j hi hj he:=by
  unfold dU at he;rw[abF hi,abF hj]at he;exact(List.getElem_inj hd).1 he
theorem aeX (is:List Nat) (h h0:List aq) (hd:is.Nodup) (c:∀id∈is,id<h.length) (hle:is.length<=h0.length):ak6 (dU is h.length) h h0 (tY h is h0) where
 len:=by unfold tY;rw[aOj,iK];omega
 SS id a:=by
  unfold tY;rcases aPf id h.length with h1 | h1
  ·rw[aON (by rw[iK];exact h1),z6];intro hm;obtain⟨j,hj,rfl⟩:=aPL.1 hm;refine a j aRK ?_;unfold dU;rw[abF hj]
  ·rw[aOH (by rw[iK];exact h1),iK,aPc h1,aPc];simp only[aPU,aPk];rcases aPf (id - h.length) (h0.length - is.length)with h2 | h2
   ·refine(a (is.length+(id - h.length)) aRK ?_).elim;unfold dU;rw[aPc aRK];simp;omega
   ·exact h2
 sel j o hj:=by
  have d:=(N2.1 hj).1;unfold tY;rcases aPf j is.length with h1 | h1
  ·have hs:dU is h.length j=is[j]:=by unfold dU;rw[abF h1]
   have b:=c _ (aOD h1);rw[hs,aON (by rw[iK];exact b)];exact Gt is _ h j _ _ hd (abF h1) (by rw[aOG,hj];rfl) b
  ·have hs:dU is h.length j=h.length+(j - is.length):=by unfold dU;rw[aPc h1]
   rw[hs,aOH (by rw[iK];omega),iK,aOG,aPy];rw[show is.length+(h.length+(j - is.length) - h.length)=j from by omega,hj];rfl
theorem ACall.over {f:FuncId} {args a:List PV} {R:PV->List aq->Prop} (c:ACall P f args hc R) (is:List Nat) (h:List aq) (d:hc.length=is.length) (hd:is.Nodup) (b:∀id∈is,id<h.length)
  (e:∀j o,hc[j]? =some o->h[dU is h.length j]? =some (uN (dU is h.length) o)) (g:a=args.map (vF (dU is h.length))):
  ACall P f a h (λres h'=>∃r0 h0,R r0 h0/\res=xK (dU is h.length) r0/\h'=tY h is h0):=
 c.sel h (by rw[d];exact aqH is h hd b) e g (tY h is) (λh0 hle=>aeX is h h0 hd b aRK)
end
def look (l:List (Nat×TI)) (t:Nat):TI:=match l with
 | []=>.other
 | (k,ti)::r=>match Nat.beq t k with
  | true=>ti
  | false=>look r t
def zj (l:List (Nat×TI)):sf:=⟨look l⟩
def ju:List Value->List PV->Bool
 | [],[]=>true
 | .int k n::r,.int c d::a=>tR k c&&n==d&&ju r a
 | .bool b::r,.bool e::a=>b==e&&ju r a
 | .string s::r,.str s'::a=>s.data.toList==s'&&ju r a
 | .slice none 0 0::r,.ck::a=>ju r a
 | .pointer none::r,.jS::a=>ju r a
 | _,_=>false
def vH (P:Program) (t n:Nat):Bool:=match P.info? t with
 | some i=>Nat.beq i.size n
 | none=>false
def uO (P:Program):List Field->List (Nat×Nat×Bool)->Bool
 | [],[]=>true
 | f::r,(off,size,a)::b=>Nat.beq f.offset off&&vH P f.type size&&Nat.blt 0 size&&(match P.underlying f.type with | some d=>a==FG d | none=>false)&&uO P r b
 | _,_=>false
def Ly:Value->PV->Bool
 | .int k n,.int a c=>tR k a&&n==c
 | .bool b,.bool d=>b==d
 | .string s,.str s'=>s.data.toList==s'
 | _,_=>false
theorem Lz {v:Value} {z:PV} (h:Ly v z=true):tT z v/\lG z=true/\storable z=true:=by
 unfold Ly at h;split at h
 ·simp only[As,aOm]at h;obtain⟨h1,rfl⟩:=h;obtain rfl:=gy h1;exact⟨rfl,rfl,rfl⟩
 ·rw[aOm]at h;subst h;exact⟨rfl,rfl,rfl⟩
 ·rw[aOm]at h;subst h;exact⟨rfl,rfl,rfl⟩
 ·cases h
def qG (P:Program) (t:Nat):TI->Bool
 | .int k=>(match P.underlying t with | some (.int c)=>tR k c | _=>false)&&vH P t 1
 | .bool=>(match P.underlying t with | some .bool=>true | _=>false)&&vH P t 1
 | .str=>(match P.underlying t with | some .string=>true | _=>false)&&vH P t 1
 | .ptr e=>(match P.underlying t with | some (.pointer e')=>Nat.beq e e' | _=>false)&&vH P t 1
 | .slice e sz b z=>(match P.underlying t with | some (.slice e')=>Nat.beq e e' | _=>false)&&vH P t 1&&Nat.blt 0 sz&&Nat.blt 0 b&&
   (match P.info? e with
    | some i=>Nat.beq i.size sz&&Nat.beq i.bytes b&&(match i.zero with | some a=>Nat.beq a.cells.size sz&&ju a.cells.toList z | none=>false)
    | none=>false)
 | .struct sz fl z=>(!(C4 z)||Lf P t z)&&(match P.underlying t with | some (.struct fs)=>uO P fs.toList fl | _=>false)&&
   (match P.info? t with
    | some i=>Nat.beq i.size sz&&(match i.zero with | some a=>Nat.beq a.cells.size sz&&ju a.cells.toList z | none=>false)
    | none=>false)
 | .map k e z=>(match P.underlying t with | some (.map c e')=>Nat.beq k c&&Nat.beq e e' | _=>false)&&vH P t 1&&(match P.info? e with
   | some i=>(match i.zero with | some a=>Ly a z | none=>false)
   | none=>false)
 | .other=>true
def zeroAt (P:Program) (t:Nat) (z:List PV) (n:Nat):Bool:=match P.info? t with
 | some i=>match i.zero with
  | some a=>Nat.beq a.cells.size n&&Nat.beq z.length n&&ju a.cells.toList z
  | none=>false
 | none=>false
def aiB (P:Program) (t:Nat) (ti:TI):Bool:=qG P t ti&&(match FH ti with | some z=>zeroAt P t z (mR ti) | none=>true)
theorem xM:∀(vs:List Value) (z:List PV),ju vs z=true->vs.length=z.length/\∀(j:Nat) (u:Value),vs[j]? =some u->∃pv:PV,z[j]? =some pv/\u.oneCell'=true/\∀S w,ba S w pv u:=by
 intro vs;induction vs with
 | nil=>
  intro z d;cases z with
  | nil=>exact⟨rfl,λj u hj=>by simp at hj⟩
  | cons a r=>simp [ju]at d
 | cons v vs g=>
  intro z d;cases z with
  | nil=>cases v<;>simp [ju]at d
  | cons p z=>
   have step:∀(e:ju vs z=true) (f:v.oneCell'=true) (hp:∀S w,ba S w p v),(v::vs).length=(p::z).length/\∀(j:Nat) (u:Value),(v::vs)[j]? =some u->∃pv:PV,(p::z)[j]? =some pv/\u.oneCell'=true/\∀S w,ba S w pv u:=by
    intro e f hp;obtain⟨h1,h2⟩:=g z e;refine⟨by simp [h1],λj u hj=>?_⟩;cases j with
    | zero=>simp at hj;subst hj;exact⟨p,rfl,f,hp⟩
    | succ j=>simp at hj;obtain⟨pv,q1,q2⟩:=h2 j u hj;exact⟨pv,by simpa using q1,q2⟩
   cases v with
   | int k n=>
    cases p<;>simp [ju]at d;obtain⟨⟨hk,h⟩,d⟩:=d;have:=gy hk;subst this h;exact step d rfl λS w=>.int _ _
   | bool b=>
    cases p<;>simp [ju]at d;obtain⟨i,d⟩:=d;subst i;exact step d rfl λS w=>.bool _
   | string s=>
    cases p<;>simp [ju]at d;obtain⟨hs,d⟩:=d;subst hs;exact step d rfl λS w=>ba.str _
   | slice a n c=>
    cases a with
    | some a=>cases p<;>simp [ju]at d
    | none=>
     cases n with
     | succ n=>cases p<;>simp [ju]at d
     | zero=>
      cases c with
      | succ c=>cases p<;>simp [ju]at d
      | zero=>
       cases p<;>simp [ju]at d;exact step d rfl λS w=>.ck
   | pointer a=>
    cases a with
    | some a=>cases p<;>simp [ju]at d
    | none=>
     cases p<;>simp [ju]at d;exact step d rfl λS w=>.jS
   | _=>cases p<;>simp [ju]at d
theorem mq {P:Program} {t n:Nat} (h:vH P t n=true):∃i,P.info? t=some i/\i.size=n:=by
 unfold vH at h;split at h
 ·rename_i i hi;exact⟨i,hi,abL h⟩
 ·cases h
theorem zk {P:Program}:∀(fs:List Field) (fl:List (Nat×Nat×Bool)),uO P fs fl=true->fl.length=fs.length/\
  ∀(k:Nat) (off size:Nat) (a:Bool),fl[k]? =some (off,size,a)->∃f j d,fs[k]? =some f/\f.offset=off/\P.info? f.type=some j/\j.size=size/\0<size/\P.underlying f.type=some d/\a=FG d
 | [],[],_=>⟨rfl,λk off size a hk=>by simp at hk⟩
 | [],_::_,h=>by simp [uO]at h
 | _::_,[],h=>by simp [uO]at h
 | f::r,(off,size,a)::g,h=>by
  simp only[uO,As]at h;obtain⟨⟨⟨⟨h1,h2⟩,i⟩,h4⟩,l⟩:=h;obtain⟨q1,q2⟩:=zk r g l;refine⟨by simp [q1],λk b c e hk=>?_⟩;cases k with
  | zero=>
   simp at hk;obtain⟨rfl,rfl,rfl⟩:=hk;obtain⟨j,hj,m⟩:=mq h2;cases hu:P.underlying f.type with
   | none=>rw[hu]at h4;cases h4
   | some d=>
    rw[hu]at h4;exact⟨f,j,d,rfl,abL h1,hj,m,by simpa using i,hu,by simpa using h4⟩
  | succ k=>exact q2 k b c e (by simpa using hk)
theorem O7:∀(l:List (Nat×TI)) (t:Nat) (ti:TI),look l t=ti->ti=.other\/(t,ti)∈l
 | [],t,ti,h=>.inl h.symm
 | (k,x)::r,t,ti,h=>by
  unfold look at h;split at h
  ·rename_i a;have:=abL a;subst this h;exact .inr aRN
  ·rcases O7 r t ti h with h1 | h1
   ·exact .inl h1
   ·exact .inr (by simp [h1])
theorem aF2 {P:Program} {l:List (Nat×TI)} (x:l.all (λp=>aiB P p.1 p.2)=true):e9 P (zj l):=by
 have o:∀t ti,(zj l).get t=ti->ti≠.other->aiB P t ti=true:=λt ti a s=>by
  rcases O7 l t ti a with h1 | h1
  ·exact(s h1).elim
  ·exact(aOl.1 x) _ h1
 have all:∀t ti,(zj l).get t=ti->ti≠.other->qG P t ti=true:=λt ti a s=>by
  have:=o t ti a s;simp only[aiB,As]at this;exact this.1
 have zero:∀t z,FH ((zj l).get t)=some z->∃i c,P.info? t=some i/\i.zero=some c/\c.cells.size=mR ((zj l).get t)/\z.length=mR ((zj l).get t)/\
   ∀(j:Nat) (u:Value),c.cells[j]? =some u->∃pv:PV,z[j]? =some pv/\u.oneCell'=true/\∀S w,ba S w pv u:=λt z g=>by
  have:=o t _ rfl (by intro h0;rw[h0]at g;cases g);simp only[aiB,As]at this;have:=this.2;rw[g]at this;simp only[zeroAt]at this;split at this
  ·rename_i i hi;split at this
   ·rename_i c v;simp only[As]at this;obtain⟨⟨h1,h2⟩,m⟩:=this;obtain⟨_,n⟩:=xM _ _ m;exact⟨i,c,hi,v,abL h1,abL h2,λj u hj=>n j u aRZ⟩
   ·cases this
  ·cases this
 have one:∀t,mR ((zj l).get t)=1->(∀sz fl z,(zj l).get t≠.struct sz fl z)->∃i,P.info? t=some i/\i.size=1:=λt h1 h2=>by
  cases a:(zj l).get t with
  | other=>rw[a]at h1;cases h1
  | struct sz fl z=>exact(h2 _ _ _ a).elim
  | int k=>have:=all t _ a aRN;simp only[qG,As]at this;exact mq this.2
  | bool=>have:=all t _ a aRN;simp only[qG,As]at this;exact mq this.2
  | str=>have:=all t _ a aRN;simp only[qG,As]at this;exact mq this.2
  | ptr e=>have:=all t _ a aRN;simp only[qG,As]at this;exact mq this.2
  | map k e z=>have:=all t _ a aRN;simp only[qG,As]at this;exact mq this.1.2
  | slice e sz b z=>have:=all t _ a aRN;simp only[qG,As]at this;exact mq this.1.1.1.2
 refine⟨λt sz fl z a g=>by
   have:=all t _ a aRN;simp only[qG,As,aOZ,aPe]at this;rcases this.1.1 with h | h
   ·rw[g]at h;cases h
   ·exact h,λt k a=>?_,λt a=>?_,λt a=>?_,λt e a=>?_,λt e sz b z a=>?_,λt k e z a=>?_,λt e sz b z a=>?_,one,zero,λt sz fl z a=>?_⟩
 ·have:=all t _ a aRN;simp only[qG,As]at this;have:=this.1;split at this
  ·rename_i y hu;rw[hu,gy this]
  ·cases this
 ·have:=all t _ a aRN;simp only[qG,As]at this;have:=this.1;split at this
  ·assumption
  ·cases this
 ·have:=all t _ a aRN;simp only[qG,As]at this;have:=this.1;split at this
  ·assumption
  ·cases this
 ·have:=all t _ a aRN;simp only[qG,As]at this;have:=this.1;split at this
  ·rename_i e' hu;rw[hu,abL this]
  ·cases this
 ·have:=all t _ a aRN;simp only[qG,As]at this;obtain⟨⟨⟨⟨h1,h2⟩,m⟩,h4⟩,r⟩:=this;refine⟨?_,by simpa using m,?_⟩
  ·split at h1
   ·rename_i e' hu;rw[hu,abL h1]
   ·cases h1
  ·split at r
   ·rename_i i hi;simp only[As]at r;obtain⟨⟨q1,q2⟩,q3⟩:=r;split at q3
    ·rename_i c g;simp only[As]at q3;obtain⟨r1,n⟩:=xM _ _ q3.2;have q:=abL q3.1;refine⟨i,c,hi,abL q1,abL q2,g,q,?_,λj u hj=>n j u aRZ⟩;rw[<-r1,<-q];simp
    ·cases q3
   ·cases r
 ·have:=all t _ a aRN;simp only[qG,As]at this;obtain⟨⟨h1,_⟩,m⟩:=this;refine⟨?_,?_⟩
  ·split at h1
   ·rename_i y e' hu;simp only[As]at h1;rw[hu,abL h1.1,abL h1.2]
   ·cases h1
  ·split at m
   ·rename_i i hi;split at m
    ·rename_i c g;exact⟨i,c,hi,g,Lz m⟩
    ·cases m
   ·cases m
 ·have:=all t _ a aRN;simp only[qG,As]at this;simpa using this.1.2
 ·have:=all t _ a aRN;simp only[qG,As]at this;obtain⟨⟨_,h1⟩,h2⟩:=this;split at h1
  ·rename_i fs hu;obtain⟨q1,q2⟩:=zk _ _ h1;split at h2
   ·rename_i i hi;simp only[As]at h2;obtain⟨r1,n⟩:=h2;split at n
    ·rename_i c g;simp only[As]at n;obtain⟨A,B⟩:=xM _ _ n.2;have q:=abL n.1;refine⟨fs,i,hu,hi,abL r1,by simpa using q1,⟨c,g,q,by rw[<-A,<-q];simp,λj u hj=>B j u aRZ⟩,λk off size C hk=>?_⟩;obtain⟨f,j,d,D,E⟩:=q2 k off size C hk;exact⟨f,j,d,by simpa using D,E⟩
    ·cases n
   ·cases h2
  ·cases h1
theorem agM {P:Program} {f:FuncId} {args:List PV} {vs:Array Value} {w:World} (d:TB (λb=>b<w.heap.size) w) (h:ACall P f args [] (λres _=>res=.bool true)) (k:vs.size=args.length)
  (l:∀(j:Nat) (pv:PV),args[j]? =some pv->∃v,vs[j]? =some v/\ba (λb=>b<w.heap.size) w pv v):
  Calls P f vs w λe w'=>e=.returned (.bool true)/\Below w.heap.size w w':=by
 refine(h.2 w vs (λ_=>none) (λb=>b<w.heap.size) (λid g sz n e f hid=>by simp at hid) ⟨λb a=>absurd a mL,λb a=>absurd a mL,λb a=>a,λi j g sz n e f m p q e' r b o s hi=>by simp at hi,d,λb _ x y z hx=>Br hx,λb _ _ _ _ _ _ hx=>absurd hx Br⟩ k (λj pv hj=>?_)).mono ?_
 ·obtain⟨v,h1,h2⟩:=l j pv hj;refine⟨v,h1,?_⟩;have hc:cV (λ_=>none) [] (λb=>b<w.heap.size) w pv v:=cV.mK h2;cases pv with
  | agg cs=>exact(show False from hc).elim
  | fV cs=>exact(show False from hc).elim
  | j3=>trivial
  | _=>exact hc
 ·rintro e w' ⟨v,res,h',μ',S',rfl,rfl,hv,t,u,c⟩;refine⟨by rw[hv.oW],c.os,c.tape,c.output,c.size,λb a=>c.blocks b a mL⟩
section
variable {h η:List aq}{k:List Nat}
theorem Fz.int_eq {a:IntKind} {n b:Int} (he:n=b):Fz h η k (.int a n) (.int a b):=by subst he;exact .int _ _
theorem Fz.UI {b a:Bool} (he:b=a):Fz h η k (.bool b) (.bool a):=by subst he;exact .bool _
theorem Fz.aeY {s s':List UInt8} (he:s=s'):Fz h η k (.str s) (.str s'):=by subst he;exact .str _
theorem Fz.aeZ {id g sz n off len c a:Nat} {e:TypeId} {f b:Nat->List PV} (hk:id∉k) (d:h[id]? =some (aq.row g sz n e f)) (h1:sz=c) (h2:len=a) (hp:∀i,i<a->(b i).all cO=true)
  (hf:∀i,i<a->z7 h η k (f (off+i)) (b i)):Fz h η k (.own id g off len) (.iT c a b):=by
 subst h1 h2;exact .frz id g sz n off len e f b hk d (λi hi=>(z7.get _ _ (hf i hi)).1) (λi j pv hi hj=>(aOl.1 (hp i hi)) pv (aOy hj)) (λi j pv l hi h1 h2 _=>(z7.get _ _ (hf i hi)).2 j pv l h1 h2)
theorem Fz.jH {cs a:List PV} (b:z7 h η k cs a):Fz h η k (.agg cs) (.agg a):=.agg _ _ (z7.get _ _ b).1 (z7.get _ _ b).2
theorem Fz.ng {cs a:List PV} (b:z7 h η k cs a):Fz h η k (.fV cs) (.fV a):=.fV _ _ (z7.get _ _ b).1 (z7.get _ _ b).2
theorem ae0 {α:Type} {i l:Nat} {a b:α} (c:i<l):(bif Nat.blt i l then a else b)=a:=by
 have d:Nat.blt i l=true:=by simpa using c
 rw[d];rfl
theorem ae1 {α:Type} {i l:Nat} {a b:α} (d:l<=i):(bif Nat.blt i l then a else b)=b:=by
 have c:Nat.blt i l=false:=by
  cases hh:Nat.blt i l with
  | true=>
   have:i<l:=by simpa using hh
   omega
  | false=>rfl
 rw[c];rfl
end
theorem w64 {x:Int} (h1: -9223372036854775808<=x) (h2:x<=9223372036854775807):IntKind.i64.wrap x=x:=by rw[IntKind.wrap_i64];omega
theorem ACall.aF4 {P:Program} {f:FuncId} {args a:List PV} {R:PV->List aq->Prop} (e:ACall P f a [] R) (h:List aq) (g:z7 h [] [] args a) (i:a.all pf=true)
  (b:∀r0 h0,R r0 h0->UK r0=true/\∀o∈h0,ae2 o):
  ACall P f args h (λres h'=>∃r0 h0,R r0 h0/\res=vI h.length r0/\h'=h++h0.map (iG h.length)):=by
 obtain⟨h1,h2⟩:=z7.get _ _ g;exact e.snap h h1 (λj pv c q1 q2=>⟨h2 j pv c q1 q2,(aOl.1 i) c (aOy q2)⟩) (λr0 h0 d=>⟨(b r0 h0 d).1,λo k=>((b r0 h0 d).2 o k).p⟩)
theorem Fz.snap {h:List aq} {id g sz n off len c a:Nat} {e:TypeId} {f b:Nat->List PV} (d:h[id]? =some (aq.row g sz n e f)) (h1:sz=c) (h2:len=a) (hp:∀i,i<a->(b i).all cO=true)
  (hf:∀i,i<a->z7 h [] [] (f (off+i)) (b i)):Fz h [] [] (.own id g off len) (.iT c a b):=.aeZ aRN d h1 h2 hp hf
theorem ACall.heq {P:Program} {f:FuncId} {args:List PV} {h h2:List aq} {R:PV->List aq->Prop} (r:ACall P f args h R) (he:fQ h2 h):ACall P f args h2 R:=by
 refine⟨r.1,λw vs μ S s t u A=>?_⟩;obtain⟨d,i⟩:=he.core ⟨s,t⟩;refine(r.2 w vs μ S d i u (λj pv hj=>?_)).mono ?_
 ·obtain⟨v,h1,B⟩:=A j pv hj;exact⟨v,h1,he.WC B⟩
 ·rintro e w' ⟨v,res,h',μ',S',rfl,C,hv,l,m,a⟩;refine⟨v,res,h',μ',S',rfl,C,hv,l,m,⟨by rw[he.len];exact a.len,λb c o=>a.blocks b c (λhx=>o (he.Cx hx)),a.sub,λb c=>?_,λb c=>?_,a.size,a.os,a.tape,a.output,λid g sz n e f hid=>?_,λid hid=>a.dead id (he.getD hid),λb k o hc=>a.dG b k (he.owned o) hc,λid g sz n e f b base hid hm p=>?_,λb x y z hx p=>a.ze b x y z (he.hid hx) p⟩⟩
  ·rcases a.new b c with h1 | h1 | h1
   ·exact .inl h1
   ·exact .inr (.inl (he.Cx h1))
   ·exact .inr (.inr h1)
  ·rcases a.own b c with h1 | h1
   ·exact .inl (he.Cx h1)
   ·exact .inr h1
  ·obtain⟨q,h1,_⟩:=he.get hid;exact a.FX id g sz n e q h1
  ·obtain⟨q,h1,_⟩:=he.get hid;exact a.maps id g sz n e q b base h1 hm p
abbrev aE:=List UInt8
abbrev bm (x:Int):Int:=IntKind.i64.wrap x
theorem bind_some {α β:Type} {x:Option α} {f:α->Option β} {r:β} (h:(x>>=f)=some r):∃a,x=some a/\f a=some r:=by
 cases x with
 | none=>cases h
 | some a=>exact⟨a,rfl,h⟩
def idx {α:Type} [Inhabited α] (l:List α) (i:Int):Option α:=if 0<=i/\i<(l.length:Int)then some (l.getD i.toNat default)else none
def hJ (s:aE) (i:Int):Option UInt8:=if 0<=i/\i<(s.length:Int)then some (s.getD i.toNat 0)else none
def vd (s:aE) (lo hi:Int):Option aE:=if 0<=lo/\lo<=hi/\hi<=(s.length:Int)then some ((s.take hi.toNat).drop lo.toNat)else none
def oE (s:aE) (lo:Int):Option aE:=if 0<=lo/\lo<=(s.length:Int)then some (s.drop lo.toNat)else none
def sto (s:aE) (hi:Int):Option aE:=if 0<=hi/\hi<=(s.length:Int)then some (s.take hi.toNat)else none
def qi {α:Type} (s:List α) (lo:Int):Option (List α):=if 0<=lo/\lo<=(s.length:Int)then some (s.drop lo.toNat)else none
def Xq {α:Type} (s:List α) (hi:Int):Option (List α):=if 0<=hi/\hi<=(s.length:Int)then some (s.take hi.toNat)else none
def yz (a b:aE):Option aE:=if a.length+b.length<=4611686018427387904 then some (a++b)else none
def cQ {α:Type} (bytes:Nat) (a b:List α):Option (List α):=if(a.length+b.length)*bytes<=140737488355328 then some (a++b)else none
def M8 {α:Type} [Inhabited α] (bytes:Nat) (n m:Int):Option (List α):=if 0<=n/\n<=m/\m<=4611686018427387904/\m.toNat*bytes<=140737488355328 then some (List.replicate n.toNat default)else none
def must (p:Prop) [Decidable p]:Option Unit:=if p then some ()else none
theorem dn {α:Type} {c:Prop} [Decidable c] {x r:α} (h:(if c then some x else none)=some r):c/\x=r:=by
 by_cases hc:c
 ·rw[An hc]at h;exact⟨hc,aOY h⟩
 ·rw[mg hc]at h;cases h
theorem yg {p:Prop} [Decidable p] {u:Unit} (h:must p=some u):p:=(dn h).1
section
variable {α:Type}{x y r:α}
theorem aF5 {p:Prop} [Decidable p] (hb:decide p=true) (h:(if p then x else y)=r):x=r:=by rw[An (of_decide_eq_true hb)]at h;exact h
theorem aF6 {p:Prop} [Decidable p] (hb:decide p=false) (h:(if p then x else y)=r):y=r:=by rw[mg (of_decide_eq_false hb)]at h;exact h
theorem ae3 {β:Type} [BEq β] [LawfulBEq β] {a b:β} [Decidable (a=b)] (c:(a==b)=true) (h:(if a=b then x else y)=r):x=r:=by rw[An (eq_of_beq c)]at h;exact h
theorem ae4 {β:Type} [BEq β] [LawfulBEq β] {a b:β} [Decidable (a=b)] (c:(a==b)=false) (h:(if a=b then x else y)=r):y=r:=by rw[mg (ne_of_beq_false c)]at h;exact h
theorem aF7 {β:Type} [BEq β] [LawfulBEq β] {a b:β} [Decidable (a=b)] (c:(a != b)=true) (h:(if a=b then x else y)=r):y=r:=ae4 (by simpa[bne]using c) h
theorem aF8 {β:Type} [BEq β] [LawfulBEq β] {a b:β} [Decidable (a=b)] (c:(a != b)=false) (h:(if a=b then x else y)=r):x=r:=ae3 (by simpa[bne]using c) h
theorem ak9 {b:Bool} (a:b=true) (h:(if b=true then x else y)=r):x=r:=by rw[An a]at h;exact h
theorem ala {b:Bool} (a:b=false) (h:(if b=true then x else y)=r):y=r:=by rw[mg (by rw[a];decide)]at h;exact h
end
theorem alb {b:Bool} (h:(!b)=false):b=true:=by cases b<;>simp_all
theorem alc {b:Bool} (h:(!b)=true):b=false:=by cases b<;>simp_all
theorem ae5 {T F:Prop} (h:T):iq true T F:=.mk (λ_=>h) (λh=>by cases h)
theorem ae6 {T F:Prop} (h:F):iq false T F:=.mk (λh=>by cases h) (λ_=>h)
theorem W8 {b:Bool} {T F:Prop} (a:b=true) (h:T):iq b T F:=.mk (λ_=>h) (λh=>by rw[a]at h;cases h)
section
variable {α:Type}{l m:List α}{lo hi:Int}
theorem qk (h:qi l lo=some m):0<=lo/\lo<=(l.length:Int):=(dn h).1
theorem nX (h:qi l lo=some m):m.length=l.length - lo.toNat:=by rw[<-(dn h).2];simp
theorem Kq (h:Xq l hi=some m):0<=hi/\hi<=(l.length:Int):=(dn h).1
theorem jG {b:Nat} {q:List α} (h:cQ b l m=some q):(l.length+m.length)*b<=140737488355328:=(dn h).1
theorem ir {b:Nat} {q:List α} (h:cQ b l m=some q):q.length=l.length+m.length:=by rw[<-(dn h).2];simp
theorem D0 (h:Xq l hi=some m):m.length=hi.toNat:=by
 have a:=Kq h;rw[<-(dn h).2];simp;omega
end
def row {α:Type} (c:α->List PV) (l:List α):Nat->List PV:=λi=>(l.map c).getD i []
abbrev sl {α:Type} (sz:Nat) (c:α->List PV) (l:List α):PV:=.iT sz l.length (row c l)
def cI (x:Int):List PV:=[.int .i64 x]
def aqI (k:IntKind) (x:Int):List PV:=[.int k x]
def cB (x:UInt8):List PV:=[.int .u8 x.toNat]
def cT (x:Bool):List PV:=[.bool x]
def cS (x:aE):List PV:=[.str x]
def cL {α:Type} (sz:Nat) (c:α->List PV) (x:List α):List PV:=[sl sz c x]
section
variable {α:Type}{c:α->List PV}{l m:List α}{x x':α}{i lo hi:Int}
theorem aiD (x:Int):(cI x).all cO=true:=rfl
theorem W9 (k:IntKind) (x:Int):(aqI k x).all cO=true:=rfl
theorem aiE (x:UInt8):(cB x).all cO=true:=rfl
theorem aiF (x:Bool):(cT x).all cO=true:=rfl
theorem aiG (x:aE):(cS x).all cO=true:=rfl
theorem aiH {β:Type} (sz:Nat) (d:β->List PV) (x:List β):(cL sz d x).all cO=true:=rfl
theorem J7 (x:Int):cB (UInt8.ofNat (IntKind.u8.wrap x).toNat)=[.int .u8 (IntKind.u8.wrap x)]:=by
 have h:0<=IntKind.u8.wrap x/\IntKind.u8.wrap x<256:=by
  have:=IntKind.wrap_u8 x;omega
 unfold cB;congr 2;rw[UInt8.toNat_ofNat'];omega
theorem qW {k:Nat} (h:k<l.length):row c l k=c l[k]:=by unfold row;simp [aOp,h]
theorem ly {k:Nat} (h:l[k]? =some x):row c l k=c x:=by unfold row;simp [aOp,h]
theorem qH (hp:∀x,(c x).all cO=true) (k:Nat):(row c l k).all cO=true:=by
 by_cases h:k<l.length
 ·rw[qW h];exact hp _
 ·unfold row;simp [aOp,aPc (show l.length<=k by omega)]
theorem Xa {s:aE} {k:Nat} (h:k<s.length):row cB s k=[.int .u8 (s.getD k 0).toNat]:=by
 rw[qW h];simp [cB,aOp,h]
theorem cz {s:aE} {b:UInt8} (h:hJ s i=some b):0<=i/\i<(s.length:Int):=(dn h).1
theorem cA {s:aE} {b:UInt8} (h:hJ s i=some b):s.getD i.toNat 0=b:=(dn h).2
theorem sU {s t:aE} (h:vd s lo hi=some t):0<=lo/\lo<=hi/\hi<=(s.length:Int):=(dn h).1
theorem sW {s t:aE} (h:vd s lo hi=some t):(s.take hi.toNat).drop lo.toNat=t:=(dn h).2
theorem ug {s t:aE} (h:oE s lo=some t):0<=lo/\lo<=(s.length:Int):=(dn h).1
theorem uh {s t:aE} (h:oE s lo=some t):s.drop lo.toNat=t:=(dn h).2
theorem J5 {s t:aE} (h:sto s hi=some t):0<=hi/\hi<=(s.length:Int):=(dn h).1
theorem J6 {s t:aE} (h:sto s hi=some t):s.take hi.toNat=t:=(dn h).2
theorem rm {s t u:aE} (h:yz s t=some u):s.length+t.length<=4611686018427387904:=(dn h).1
theorem rn {s t u:aE} (h:yz s t=some u):s++t=u:=(dn h).2
theorem nY (h:qi l lo=some m):∀i,i<m.length->row c m i=row c l (lo.toNat+i):=λi a=>by
 have hm:l[lo.toNat+i]? =some m[i]:=by
  rw[<-abF a,<-(dn h).2,aPy]
 rw[qW a,ly hm]
theorem Kr (h:Xq l hi=some m):∀i,i<m.length->row c m i=row c l i:=λi a=>by
 have b:=D0 h
 have hm:l[i]? =some m[i]:=by
  rw[<-abF a,<-(dn h).2,aPV,An aRK]
 rw[qW a,ly hm]
def Gu (c:α->List PV) (f:Nat->List PV) (off:Nat) (l:List α):Prop:=∀i,i<l.length->f (off+i)=row c l i
theorem bh:Gu c (row c l) 0 l:=λi _=>by rw[are]
theorem qh {s:aE} {f:Nat->List PV} {off n:Nat} (hs:Gu cB f off s) (a:s.length=n):∀i,i<n->f (off+i)=[.int .u8 (s.getD i 0).toNat]:=λi hi=>by
 subst a;rw[hs i hi];exact Xa hi
theorem iW {b:Nat} {q:List α} {f g:Nat->List PV} {off:Nat} (h:cQ b l m=some q) (hf:Gu c f off l) (hg:∀i,i<m.length->g i=row c m i):
  ∀i,i<q.length->pB (bif Nat.blt i l.length then f (off+i)else g (i - l.length)) (row c q i):=λi d=>by
 have j:=ir h;have e:q=l++m:=(dn h).2.symm;subst e;by_cases a:i<l.length
 ·rw[ae0 a,hf i a,qW d,qW a,aPN a];exact pB.refl _
 ·rw[ae1 aRK,hg _ aRK,qW d,qW aRK,aPM aRK];exact pB.refl _
theorem kJ {f:Nat->List PV} {off:Nat} (hs:Gu c f off m):∀i,i<m.length->f (off+i)=row c m i:=hs
def CLL:List (List PV)->List (List PV)->Prop
 | [],[]=>True
 | a::l,b::r=>pB a b/\CLL l r
 | _,_=>False
theorem xa {a b lit:List PV} {l r:List (List PV)} (e:b=lit) (h:pB a lit) (t:CLL l r):CLL (a::l) (b::r):=⟨by rw[e];exact h,t⟩
theorem dT:∀{l r:List (List PV)},l=r->CLL l r
 | [],_,rfl=>trivial
 | a::l,_,rfl=>⟨pB.refl _,dT rfl⟩
theorem LB:∀{l r:List (List PV)},CLL l r->∀i,pB (l.getD i []) (r.getD i [])
 | [],[],_,i=>by simp;exact trivial
 | a::l,b::r,h,0=>h.1
 | a::l,b::r,h,i+1=>by simpa using LB h.2 i
 | [],_::_,h,_=>h.elim
 | _::_,[],h,_=>h.elim
theorem eR (c:α->List PV) (l:List α) {n:Nat} {cs:List (List PV)} (a:n=l.length) (h:CLL cs (l.map c)):∀i,i<n->pB (cs.getD i []) (row c l i):=λi _=>LB h i
theorem aiI {a b new:List PV} {off:Nat} {f:Nat->List PV} (h:new=ie a off b):∀j,j<1->pB (cp f 0 (ie a off b) j) ((λ_=>new) j):=λj hj=>by
 obtain rfl:j=0:=by omega
 subst h;exact pB.refl _
end
section
variable {α:Type} [Inhabited α] {c:α->List PV} {l m:List α} {x x':α} {i lo hi:Int}
theorem aW (h:idx l i=some x):0<=i/\i<(l.length:Int):=(dn h).1
theorem ae7 (h:idx l i=some x):l[i.toNat]? =some x:=by
 have b:=aW h;have a:i.toNat<l.length:=by omega
 rw[<-(dn h).2,aOp,abF a];rfl
theorem oL (h:idx l i=some x):i.toNat<l.length:=by have a:=aW h;omega
theorem aK (h:idx l i=some x):row c l i.toNat=c x:=ly (ae7 h)
theorem aay {b:Nat} {n k:Int} {q:List α} (h:M8 b n k=some q):0<=n/\n<=k/\k<=4611686018427387904/\k.toNat*b<=140737488355328:=(dn h).1
theorem IV {b:Nat} {n k:Int} {q:List α} (h:M8 b n k=some q):q.length=n.toNat:=by rw[<-(dn h).2];simp
theorem VU {b:Nat} {n k:Int} {q:List α} {z lit:List PV} (h:M8 b n k=some q) (he:c default=lit) (a:pB z lit):∀i,i<q.length->pB z (row c q i):=λi d=>by
 have e:=IV h;rw[ly (x:=default) (by rw[<-(dn h).2,List.getElem?_replicate,An aRK]),he];exact a
end
section
variable {h η:List aq}{k:List Nat}
theorem LC {pv:PV} (hp:cO pv=true):Fz h η k pv pv:=by
 cases pv with
 | int k n=>exact .int _ _
 | bool b=>exact .bool _
 | str s=>exact .str _
 | ck=>exact .ck
 | jS=>exact .jS
 | iT sz n f=>exact .iT _ _ _ _ (λ_ _=>rfl)
 | ia cs=>exact .ia _
 | fn f=>exact .fn _
 | _=>cases hp
theorem uP:∀{l:List PV},l.all cO=true->z7 h η k l l
 | [],_=>trivial
 | a::l,hp=>by
  simp only[aOv,As]at hp;exact⟨LC hp.1,uP hp.2⟩
def aiJ (h η:List aq) (k:List Nat):List (Nat×Nat)->List (Nat×Nat)->Prop
 | [],[]=>True
 | p::r,a::b=>(k[a.1]? =some p.1/\(∃sz n e f,h[p.1]? =some (aq.row p.2 sz n e f))/\∃sz n e f,η[a.1]? =some (aq.row a.2 sz n e f)/\0<n)/\aiJ h η k r b
 | _,_=>False
theorem aiJ.get:∀(l b:List (Nat×Nat)),aiJ h η k l b->b.length=l.length/\∀(j:Nat) (p a:Nat×Nat),l[j]? =some p->b[j]? =some a->
  k[a.1]? =some p.1/\(∃sz n e f,h[p.1]? =some (aq.row p.2 sz n e f))/\∃sz n e f,η[a.1]? =some (aq.row a.2 sz n e f)/\0<n
 | [],[],_=>⟨rfl,λj p a hj _=>by simp at hj⟩
 | [],_::_,hh=>hh.elim
 | _::_,[],hh=>hh.elim
 | q::r,g::d,hh=>by
  obtain⟨h1,h2⟩:=hh;obtain⟨q1,q2⟩:=aiJ.get r d h2;refine⟨by simp [q1],λj p a hj c=>?_⟩;cases j with
  | zero=>
   simp at hj c;subst hj c;exact h1
  | succ j=>exact q2 j p a aRZ (by simpa using c)
theorem ae8 {α:Type} {c:α->List PV} (hp:∀x,(c x).all cO=true) {id g sz n off:Nat} {e:TypeId} {f:Nat->List PV} {l:List α} (hk:id∉k) (a:h[id]? =some (aq.row g sz n e f)) (hs:Gu c f off l):
  Fz h η k (.own id g off l.length) (sl sz c l):=
 .aeZ hk a rfl rfl (λi hi=>qH hp i) (λi hi=>by rw[hs i hi];exact uP (qH hp i))
theorem aiK {α:Type} {c:α->List PV} (hp:∀x,(c x).all cO=true) {id g sz n off len:Nat} {e:TypeId} {f:Nat->List PV} {l:List α} (hk:id∉k) (a:h[id]? =some (aq.row g sz n e f)) (hs:Gu c f off l) (b:len=l.length):
  Fz h η k (.own id g off len) (sl sz c l):=by subst b;exact ae8 hp hk a hs
end
theorem SU {α:Type} {c:α->List PV} (hp:∀x,(c x).all cO=true) (N g sz n:Nat) (e:TypeId) (l:List α):iG N (.row g sz n e (row c l))=.row g sz n e (row c l):=by
 suffices e:(λi=>(row c l i).map (pX N))=row c l by unfold iG;simp only[e]
 funext i;have h:=qH (l:=l) hp i;generalize row c l i=q at h;induction q with
 | nil=>rfl
 | cons a r b=>
  simp only[aOv,As]at h;rw[aOC,b h.2];cases a<;>first | rfl | cases h.1
theorem O8 {α:Type} {c:α->List PV} (hp:∀x,(c x).all cO=true) (σ:Nat->Nat) (g sz n:Nat) (e:TypeId) (l:List α):uN σ (.row g sz n e (row c l))=.row g sz n e (row c l):=by
 suffices e:(λi=>(row c l i).map (mo σ))=row c l by unfold uN;simp only[e]
 funext i;have h:=qH (l:=l) hp i;generalize row c l i=q at h;induction q with
 | nil=>rfl
 | cons a r b=>
  simp only[aOv,As]at h;rw[aOC,b h.2];cases a<;>first | rfl | cases h.1
theorem ACall.aF9 {P:Program} {f:FuncId} {args:List PV} {r0:PV} (a:ACall P f args [] (λres h=>res=r0/\h=[])) (h:List aq) (hp:args.all UL=true) (b:∀n,vI n r0=r0):
  ACall P f args h (λres h'=>res=r0/\h'=h):=
 (a.frame h hp).mono (by rintro _ _ ⟨_,_,⟨rfl,rfl⟩,rfl,rfl⟩;exact⟨b _,by simp⟩)
theorem ACall.aGa {P:Program} {f:FuncId} {args a:List PV} {r0:PV} (b:ACall P f a [] (λres h=>res=r0/\h=[])) (h:List aq) (c:z7 h [] [] args a) (d:a.all pf=true) (hf:UK r0=true) (e:∀n,vI n r0=r0):
  ACall P f args h (λres h'=>res=r0/\h'=h):=
 (b.aF4 h c d (by rintro _ _ ⟨rfl,rfl⟩;exact⟨hf,by simp⟩)).mono (by rintro _ _ ⟨_,_,⟨rfl,rfl⟩,rfl,rfl⟩;exact⟨e _,by simp⟩)
section
variable {κ β:Type} [DecidableEq κ]
def pg:List (κ×β)->κ->Option β
 | [],_=>none
 | (a,b)::r,k=>if k=a then some b else pg r k
def Xv (l:List (κ×β)) (k:κ) (z:β):β:=(pg l k).getD z
def agO (l:List (κ×β)) (k:κ):Bool:=(pg l k).isSome
def uy:List (κ×β)->κ->β->List (κ×β)
 | [],k,v=>[(k,v)]
 | (a,b)::r,k,v=>if k=a then(k,v)::r else(a,b)::uy r k v
def mc (c:κ->PV) (d:β->PV) (p:κ×β):List PV:=[c p.1,d p.2]
theorem yk {c:κ->PV} {d:β->PV} {ti:TI} (he:∀a b,mj ti (c a) (c b)=some (decide (a=b))):∀(l:List (κ×β)) (k:κ) (n:Nat),n<=l.length->(∀j,j<n->∀p,l[j]? =some p->k≠p.1)->Ji ti (row (mc c d) l) n (c k):=λl k n f h j hj=>by
 have e:j<l.length:=by omega
 refine⟨c l[j].1,d l[j].2,by rw[qW e];rfl,?_⟩;rw[he,aOS (h j hj _ (abF e))]
theorem O9:∀(l:List (κ×β)) (k:κ) (b:β),pg l k=some b->∃i,i<l.length/\l[i]? =some (k,b)/\∀j,j<i->∀p,l[j]? =some p->k≠p.1
 | [],_,_,h=>by cases h
 | (a,d)::r,k,b,h=>by
  unfold pg at h;by_cases hk:k=a
  ·rw[An hk]at h;obtain rfl:=aOY h;subst hk;exact⟨0,by simp,rfl,λj hj=>absurd hj (aOX _)⟩
  ·rw[mg hk]at h;obtain⟨i,h1,h2,c⟩:=O9 r k b h;refine⟨i+1,by simpa using h1,by simpa using h2,λj hj p hp=>?_⟩;cases j with
   | zero=>simp at hp;subst hp;exact hk
   | succ j=>exact c j aRK p aSo
theorem z8:∀(l:List (κ×β)) (k:κ),pg l k=none->∀(j:Nat) (p:κ×β),l[j]? =some p->k≠p.1
 | [],_,_,j,p,hp=>by simp at hp
 | (a,b)::r,k,h,j,p,hp=>by
  unfold pg at h;by_cases hk:k=a
  ·rw[An hk]at h;cases h
  ·rw[mg hk]at h;cases j with
   | zero=>simp at hp;subst hp;exact hk
   | succ j=>exact z8 r k h j p aSo
theorem M5 {c:κ->PV} {d:β->PV} {ti:TI} (he:∀a b,mj ti (c a) (c b)=some (decide (a=b))) (l:List (κ×β)) (k:κ) (z:β):ae9 ti (row (mc c d) l) l.length (c k) (d z) (d (Xv l k z)) (agO l k):=by
 unfold Xv agO;cases h:pg l k with
 | some b=>
  obtain⟨i,h1,h2,e⟩:=O9 l k b h;exact .inl ⟨rfl,i,h1,yk he l k i aRK e,c k,by rw[ly h2];rfl,by rw[he,aPs rfl]⟩
 | none=>exact .inr ⟨rfl,rfl,yk he l k _ (Of _) (λj _ p hp=>z8 l k h j p hp)⟩
theorem JD:∀(l:List (κ×β)) (k:κ) (v:β),pg l k=none->uy l k v=l++[(k,v)]
 | [],_,_,_=>rfl
 | (a,b)::r,k,v,h=>by
  unfold pg at h;unfold uy;by_cases hk:k=a
  ·rw[An hk]at h;cases h
  ·rw[mg hk]at h;rw[mg hk,JD r k v h];rfl
theorem JE:∀(l:List (κ×β)) (k:κ) (v b:β),pg l k=some b->∃i,i<l.length/\l[i]? =some (k,b)/\(∀j,j<i->∀p,l[j]? =some p->k≠p.1)/\(uy l k v).length=l.length/\(uy l k v)[i]? =some (k,v)/\∀j,j≠i->(uy l k v)[j]? =l[j]?
 | [],_,_,_,h=>by cases h
 | (a,f)::r,k,v,b,h=>by
  unfold pg at h;unfold uy;by_cases hk:k=a
  ·rw[An hk]at h;obtain rfl:=aOY h;rw[An hk];subst hk;exact⟨0,by simp,rfl,λj hj=>absurd hj (aOX _),by simp,rfl,λj hj=>by cases j with | zero=>exact absurd rfl hj | succ j=>rfl⟩
  ·rw[mg hk]at h;obtain⟨i,h1,h2,c,h4,d,e⟩:=JE r k v b h;rw[mg hk];refine⟨i+1,by simpa using h1,by simpa using h2,λj hj p hp=>?_,by simpa using h4,by simpa using d,λj hj=>?_⟩
   ·cases j with
    | zero=>simp at hp;subst hp;exact hk
    | succ j=>exact c j aRK p aSo
   ·cases j with
    | zero=>rfl
    | succ j=>simpa using e j aRK
theorem TY {c:κ->PV} {d:β->PV} {ti:TI} (he:∀a b,mj ti (c a) (c b)=some (decide (a=b))) (l:List (κ×β)) (k:κ) (v:β):aGb ti (row (mc c d) l) l.length (c k) (d v) (uy l k v).length (row (mc c d) (uy l k v)):=by
 cases h:pg l k with
 | some b=>
  obtain⟨i,h1,h2,e,h4,f,g⟩:=JE l k v b h;refine .inl ⟨i,d b,⟨h1,yk he l k i aRK e,c k,by rw[ly h2];rfl,by rw[he,aPs rfl]⟩,h4,by rw[ly f];rfl,λj hj m=>?_⟩;rw[ly (abF hj),ly ((g j m).trans (abF hj))]
 | none=>
  rw[JD l k v h];refine .inr ⟨yk he l k _ (Of _) (λj _ p hp=>z8 l k h j p hp),by simp,?_,λj hj=>?_⟩
  ·rw[ly (x:=(k,v)) aRN];rfl
  ·rw[ly (abF hj),ly (x:=l[j]) (by rw[aON hj,abF hj])]
end
theorem D9 (a b:aE):mj .str (.str a) (.str b)=some (decide (a=b)):=by
 simp only[mj];have e:(a==b)=decide (a=b):=by rw[aPG];simp
 rw[e]
theorem ln {a b:Nat} (h:a=b:=by first | rfl | simp):a=b:=h
class xN {α:Type} (c:α->List PV):Prop where
 pure:∀x,(c x).all cO=true
instance:xN cI:=⟨aiD⟩
instance (k:IntKind):xN (aqI k):=⟨W9 k⟩
instance:xN cB:=⟨aiE⟩
instance:xN cT:=⟨aiF⟩
instance:xN cS:=⟨aiG⟩
instance {α:Type} (sz:Nat) (c:α->List PV):xN (cL sz c):=⟨aiH sz c⟩
instance (a b:IntKind):xN (mc (PV.int a) (PV.int b)):=⟨λ_=>rfl⟩
instance (a:IntKind):xN (mc (PV.int a) PV.bool):=⟨λ_=>rfl⟩
instance (a:IntKind):xN (mc (PV.int a) PV.str):=⟨λ_=>rfl⟩
instance (b:IntKind):xN (mc PV.str (PV.int b)):=⟨λ_=>rfl⟩
instance:xN (mc PV.str PV.bool):=⟨λ_=>rfl⟩
instance:xN (mc PV.str PV.str):=⟨λ_=>rfl⟩
def ald {α:Type} (l:List α) (off:Nat) (s:List α):List α:=l.mapIdx λi x=>if i<off then x else if i<off+s.length then s.getD (i - off) x else x
@[simp] theorem ari {α:Type} (l:List α) (off:Nat) (s:List α):(ald l off s).length=l.length:=by unfold ald;simp
section
variable {h η:List aq}{k:List Nat}
theorem Fz.i {q:IntKind} {a b:Int} (e:a=b:=by rfl):Fz h η k (.int q a) (.int q b):=.int_eq e
theorem Fz.b {a b:Bool} (e:a=b:=by rfl):Fz h η k (.bool a) (.bool b):=.UI e
theorem Fz.s {a b:List UInt8} (e:a=b:=by rfl):Fz h η k (.str a) (.str b):=.aeY e
theorem Fz.l {sz n:Nat} {f:Nat->List PV}:Fz h η k (.iT sz n f) (.iT sz n f):=.iT _ _ _ _ (λ_ _=>rfl)
theorem Fz.z {α:Type} {c:α->List PV} {sz:Nat}:Fz h η k .ck (sl sz c []):=.ale _ _
theorem Fz.g {id a b c:Nat} {e':TypeId} {d:Nat->List PV} (hk:k[a]? =some id:=by rfl) (e:h[id]? =none:=by rfl) (hη:η[a]? =some (aq.row b c 0 e' d):=by rfl):Fz h η k .ck (.own a b 0 0):=.aGc id a b c e' d hk e hη
theorem Fz.o {id a g b sz c n len:Nat} {e e':TypeId} {f d:Nat->List PV} (hk:k[a]? =some id:=by rfl) (i:h[id]? =some (aq.row g sz n e f):=by rfl) (hη:η[a]? =some (aq.row b c len e' d):=by rfl):Fz h η k (.own id g 0 len) (.own a b 0 len):=
 .own _ _ _ _ _ _ _ _ _ _ _ _ _ _ hk i hη (Nat.le_of_eq (are _))
theorem Fz.p {id a g b sz c n d off:Nat} {e e':TypeId} {f i:Nat->List PV} (hk:k[a]? =some id:=by rfl) (j:h[id]? =some (aq.row g sz n e f):=by rfl) (hη:η[a]? =some (aq.row b c (d+1) e' i):=by rfl):Fz h η k (.aA id g 0 off) (.aA a b 0 off):=
 .aA _ _ _ _ _ _ _ _ _ _ _ _ _ _ hk j hη (Nat.succ_pos _)
theorem Fz.m {id a g b sz c n d:Nat} {e e':TypeId} {f i:Nat->List PV} (hk:k[a]? =some id:=by rfl) (j:h[id]? =some (aq.row g sz n e f):=by rfl) (hη:η[a]? =some (aq.row b c d e' i):=by rfl):Fz h η k (.qc id) (.qc a):=
 .qc _ _ _ _ _ _ _ _ _ _ _ _ hk j hη
theorem Fz.j {pv:PV}:Fz h η k pv .j3:=.j3 _
theorem Fz.f {n:Nat}:Fz h η k (.fn n) (.fn n):=.fn _
theorem Fz.r {α:Type} {c:α->List PV} [xN c] {id g sz n:Nat} {e:TypeId} {l:List α} (a:h[id]? =some (aq.row g sz n e (row c l)):=by rfl) (hk:id∉k:=by first | decide | simp):Fz h η k (.own id g 0 l.length) (sl sz c l):=ae8 xN.pure hk a bh
theorem Fz.rx {α:Type} {c:α->List PV} [xN c] {id g sz n len:Nat} {e:TypeId} {l:List α} (a:len=l.length) (b:h[id]? =some (aq.row g sz n e (row c l)):=by rfl) (hk:id∉k:=by first | decide | simp):Fz h η k (.own id g 0 len) (sl sz c l):=aiK xN.pure hk b bh a
variable {m:Nat}
theorem od {α:Type} {c:α->List PV} [xN c] {id g sz:Nat} {e:TypeId} {l:List α} (a:h[id]? =some (aq.row g sz l.length e (row c l)):=by rfl):Aa h η k m (.row g sz l.length e (row c l)) id id:=by
 unfold Aa;rw[a];exact⟨λ_=>⟨rfl,rfl⟩,rfl,.inl rfl,rfl,λi _=>uP (qH xN.pure i)⟩
theorem ob {id g sz:Nat} {e:TypeId} {a b:List PV} (c:h[id]? =some (aq.row g sz 1 e (λ_=>a))) (F:z7 h η k a b):Aa h η k m (.row g sz 1 e (λ_=>b)) id id:=by
 unfold Aa;rw[c];exact⟨λ_=>⟨rfl,rfl⟩,rfl,.inl rfl,rfl,λi _=>F⟩
theorem nw {α:Type} {c:α->List PV} [xN c] {i id g a sz:Nat} {e:TypeId} {l:List α} (hi:Nat.ble m i=true:=by rfl) (b:h[id]? =some (aq.row g sz l.length e (row c l)):=by rfl):Aa h η k m (.row a sz l.length e (row c l)) i id:=by
 unfold Aa;rw[b];exact⟨λh0=>absurd h0 (Nat.not_lt.2 (aOM hi)),rfl,.inl rfl,rfl,λi _=>uP (qH xN.pure i)⟩
theorem nb {i id g c sz:Nat} {e:TypeId} {a b:List PV} (d:h[id]? =some (aq.row g sz 1 e (λ_=>a))) (F:z7 h η k a b) (hi:Nat.ble m i=true:=by rfl):Aa h η k m (.row c sz 1 e (λ_=>b)) i id:=by
 unfold Aa;rw[d];exact⟨λh0=>absurd h0 (Nat.not_lt.2 (aOM hi)),rfl,.inl rfl,rfl,λi _=>F⟩
theorem QV {id g sz:Nat} {e:TypeId} {a:List PV} (b:h[id]? =some (aq.row g sz 1 e (λ_=>a))) (hp:a.all cO=true:=by rfl):Aa h η k m (.row g sz 1 e (λ_=>a)) id id:=ob b (uP hp)
theorem nbp {i id g b sz:Nat} {e:TypeId} {a:List PV} (c:h[id]? =some (aq.row g sz 1 e (λ_=>a))) (hp:a.all cO=true:=by rfl) (hi:Nat.ble m i=true:=by rfl):Aa h η k m (.row b sz 1 e (λ_=>a)) i id:=nb c (uP hp) hi
theorem dd {i id:Nat}:Aa h η k m .dead i id:=by unfold Aa;trivial
theorem gh {i id a b:Nat} {e':TypeId} {c:Nat->List PV} (hi:Nat.ble m i=true:=by rfl) (d:h[id]? =none:=by rfl):Aa h η k m (.row a b 0 e' c) i id:=by
 unfold Aa;rw[d];exact⟨aOM hi,rfl⟩
theorem tk {env:Env} {σ:List (Nat×PV)} (k:List Nat) (he:Bs h η k env σ) (hh:mW h η k m 0 η k) (hd:qX (qI η k)=true:=by rfl) (a:Nat.ble m k.length=true:=by rfl):Bt m env h σ η:=⟨k,hd,aOM a,he,hh⟩
theorem ct {J:List (Nat×PV)->List aq->Prop} {env:Env} {σ:List (Nat×PV)} (hj:J σ η) (a:Bt m env h σ η):Bu m J env h:=.mk σ η a hj
theorem lg {body:(Env->List aq->Prop)->Env->List aq->Prop} {env:Env} {σ:List (Nat×PV)} (hj:aG m body σ η) (a:Bt m env h σ η):loopGo m body env h:=.mk σ η a hj
theorem le {body:(Env->List aq->Prop)->Env->List aq->Prop} {env:Env} {σ:List (Nat×PV)} (hj:aG m body σ η) (a:Bt m env h σ η):tA m body env h:=.take σ η a hj
theorem en {R:PV->List aq->Prop} {vs:List PV} {res:PV} (k:List Nat) (a:R res η) (F:Fz h η k (oneOf vs) res) (hh:mW h η k m 0 η k) (hd:qX (qI η k)=true:=by rfl) (b:Nat.ble m k.length=true:=by rfl) (c:vs.all pf=true:=by rfl):Ends m R h vs:=by
 exact .mk c k res η hd (aOM b) F hh a
theorem eB {a r:Bool} (hh:some a=some r):Ends 0 (λres h=>res=.bool r/\h=[]) h [.bool a]:=.mk rfl [] _ [] rfl (Of _) (.UI (aOY hh)) trivial ⟨rfl,rfl⟩
theorem eI {q:IntKind} {a r:Int} (hh:some a=some r):Ends 0 (λres h=>res=.int q r/\h=[]) h [.int q a]:=.mk rfl [] _ [] rfl (Of _) (.int_eq (aOY hh)) trivial ⟨rfl,rfl⟩
theorem eS {a r:List UInt8} (hh:some a=some r):Ends 0 (λres h=>res=.str r/\h=[]) h [.str a]:=.mk rfl [] _ [] rfl (Of _) (.aeY (aOY hh)) trivial ⟨rfl,rfl⟩
end
section
variable {α:Type}{x y r:α}{T F:Prop}
theorem sD {c:Prop} [Decidable c] (h:(if c then x else y)=r) (b:decide c=true->x=r->T) (d:decide c=false->y=r->F):iq (decide c) T F:=.mk (λa=>b a (aF5 a h)) (λa=>d a (aF6 a h))
theorem sE {β:Type} [BEq β] [LawfulBEq β] {a b:β} [Decidable (a=b)] (h:(if a=b then x else y)=r) (d:(a==b)=true->x=r->T) (e:(a==b)=false->y=r->F):iq (a==b) T F:=.mk (λc=>d c (ae3 c h)) (λc=>e c (ae4 c h))
theorem VA {β:Type} [BEq β] [LawfulBEq β] {a b:β} [Decidable (a=b)] (h:(if a=b then x else y)=r) (d:(!(a==b))=true->y=r->T) (e:(!(a==b))=false->x=r->F):iq (!(a==b)) T F:=.mk (λc=>d c (ae4 (alc c) h)) (λc=>e c (ae3 (alb c) h))
theorem sN {β:Type} [BEq β] [LawfulBEq β] {a b:β} [Decidable (a=b)] (h:(if a=b then x else y)=r) (d:(a != b)=true->y=r->T) (e:(a != b)=false->x=r->F):iq (a != b) T F:=.mk (λc=>d c (aF7 c h)) (λc=>e c (aF8 c h))
theorem sV {b:Bool} (h:(if b=true then x else y)=r) (c:b=true->x=r->T) (d:b=false->y=r->F):iq b T F:=.mk (λa=>c a (ak9 a h)) (λa=>d a (ala a h))
theorem gp {b:Bool} (h:(if b=true then x else y)=r) (c:(!b)=true->y=r->T) (d:(!b)=false->x=r->F):iq (!b) T F:=.mk (λa=>c a (ala (alc a) h)) (λa=>d a (ak9 (alb a) h))
end
theorem iq.t {T F:Prop} (h:T):iq true T F:=ae5 h
theorem iq.f {T F:Prop} (h:F):iq false T F:=ae6 h
theorem iq.kt {b:Bool} {T F:Prop} (a:b=true) (h:T):iq b T F:=W8 a h
theorem xO.d {m:Nat} {A B:XQ->Env->List aq->Prop} {Q:XQ} {env:Env} {h:List aq} (hd:A (XQ.then (B Q) Q) env h):xO m A B Q env h:=.direct hd
inductive Nz:PV->PV->Prop
 | same (a:PV):Nz a a
 | nil (sz:Nat) (f:Nat->List PV):Nz .ck (.iT sz 0 f)
def NzL:List PV->List PV->Prop
 | [],[]=>True
 | a::l,b::r=>Nz a b/\NzL l r
 | _,_=>False
inductive NzA:PV->PV->Prop
 | same (a:PV):NzA a a
 | nil (sz:Nat) (f:Nat->List PV):NzA .ck (.iT sz 0 f)
 | agg {cs Eg:List PV} (h:NzL cs Eg):NzA (.agg cs) (.agg Eg)
def afa:List PV->List PV->Prop
 | [],[]=>True
 | a::l,b::r=>NzA a b/\afa l r
 | _,_=>False
theorem NzL.get:∀{l r:List PV},NzL l r->r.length=l.length/\∀(j:Nat) (p:PV),r[j]? =some p->∃q:PV,l[j]? =some q/\Nz q p
 | [],[],_=>⟨rfl,λj p h=>by simp at h⟩
 | a::l,b::r,h=>by
  obtain⟨h1,h2⟩:=NzL.get h.2;refine⟨by simp [h1],λj p hj=>?_⟩;cases j with
  | zero=>simp at hj;subst hj;exact⟨a,rfl,h.1⟩
  | succ j=>obtain⟨q,q1,q2⟩:=h2 j p aRZ;exact⟨q,by simpa using q1,q2⟩
 | [],_::_,h=>h.elim
 | _::_,[],h=>h.elim
theorem afa.get:∀{l r:List PV},afa l r->r.length=l.length/\∀(j:Nat) (p:PV),r[j]? =some p->∃q:PV,l[j]? =some q/\NzA q p
 | [],[],_=>⟨rfl,λj p h=>by simp at h⟩
 | a::l,b::r,h=>by
  obtain⟨h1,h2⟩:=afa.get h.2;refine⟨by simp [h1],λj p hj=>?_⟩;cases j with
  | zero=>simp at hj;subst hj;exact⟨a,rfl,h.1⟩
  | succ j=>obtain⟨q,q1,q2⟩:=h2 j p aRZ;exact⟨q,by simpa using q1,q2⟩
 | [],_::_,h=>h.elim
 | _::_,[],h=>h.elim
theorem ACall.IS {P:Program} {f:FuncId} {args d:List PV} {h:List aq} {R:PV->List aq->Prop} (e:ACall P f d h R) (g:afa args d):ACall P f args h R:=by
 obtain⟨k,hg⟩:=g.get;refine⟨e.1,λw vs μ S l m n o=>e.2 w vs μ S l m (by rw[k];exact n) (λj pv hj=>?_)⟩;obtain⟨q,q1,q2⟩:=hg j pv hj;obtain⟨v,h1,h2⟩:=o j q q1;refine⟨v,h1,?_⟩;cases q2 with
 | same=>exact h2
 | nil sz f=>
  have a:ba S w .ck v:=h2;cases a;exact ba.uE _ _ _ _
 | agg hc=>
  obtain⟨us,p,r,s⟩:=h2;obtain⟨t,b⟩:=hc.get;refine⟨us,p,by rw[t];exact r,λi c hi=>?_⟩;obtain⟨x,c1,c2⟩:=b i c hi;obtain⟨u,y,e2⟩:=s i x c1;refine⟨u,y,?_⟩;cases c2 with
  | same=>exact e2
  | nil sz f=>
   have a:ba S w .ck u:=e2;cases a;exact ba.uE _ _ _ _
section
variable {P:Program}{f:FuncId}{args:List PV}{h:List aq}{K:PV->List aq->Prop}{r0:PV}
theorem bT (a:ACall P f args [] (λres h=>res=r0/\h=[])) (k:K r0 h) (hp:args.all UL=true:=by rfl) (b:∀n,vI n r0=r0:=by intro _;rfl):rb P f args h K:=
 ⟨_,a.aF9 h hp b,by rintro _ _ ⟨rfl,rfl⟩;exact k⟩
theorem TL {a:List PV} (b:ACall P f a [] (λres h=>res=r0/\h=[])) (c:z7 h [] [] args a) (k:K r0 h) (d:a.all pf=true:=by rfl) (hf:UK r0=true:=by rfl) (e:∀n,vI n r0=r0:=by intro _;rfl):rb P f args h K:=
 ⟨_,b.aGa h c d hf e,by rintro _ _ ⟨rfl,rfl⟩;exact k⟩
theorem shr {α:Type} {c:α->List PV} [xN c] (N g sz n:Nat) (e:TypeId) (l:List α):iG N (.row g sz n e (row c l))=.row g sz n e (row c l):=SU xN.pure N g sz n e l
theorem rer {α:Type} {c:α->List PV} [xN c] (σ:Nat->Nat) (g sz n:Nat) (e:TypeId) (l:List α):uN σ (.row g sz n e (row c l))=.row g sz n e (row c l):=O8 xN.pure σ g sz n e l
def OvL (h:List aq) (σ:Nat->Nat):List aq->List Nat->Prop
 | [],_=>True
 | o::r,i::is=>h[i]? =some (uN σ o)/\OvL h σ r is
 | _::_,[]=>False
theorem OvL.get {h:List aq} {σ:Nat->Nat}:∀{hc:List aq} {is:List Nat},OvL h σ hc is->∀(j:Nat) (o:aq),hc[j]? =some o->∃i:Nat,is[j]? =some i/\h[i]? =some (uN σ o)
 | [],_,_,j,o,hj=>by simp at hj
 | a::r,[],hh,_,_,_=>hh.elim
 | a::r,i::is,hh,0,o,hj=>by simp at hj;subst hj;exact⟨i,rfl,hh.1⟩
 | a::r,i::is,hh,j+1,o,hj=>by
  obtain⟨q,h1,h2⟩:=OvL.get hh.2 j o aRZ;exact⟨q,by simpa using h1,h2⟩
theorem ov {α:Type} {c:α->List PV} [xN c] {σ:Nat->Nat} {g sz n:Nat} {e:TypeId} {l:List α} {x:Option aq} (hx:x=some (.row g sz n e (row c l)):=by rfl):x=some (uN σ (.row g sz n e (row c l))):=by rw[O8 xN.pure];exact hx
theorem ACall.UM {hc:List aq} {args a:List PV} {R:PV->List aq->Prop} (b:ACall P f args hc R) (is:List Nat) (h:List aq) (c:OvL h (dU is h.length) hc is) (d:hc.length=is.length) (hd:is.Nodup) (e:is.all (λid=>Nat.blt id h.length)=true)
  (g:a=args.map (vF (dU is h.length))):ACall P f a h (λres h'=>∃r0 h0,R r0 h0/\res=xK (dU is h.length) r0/\h'=tY h is h0):=
 b.over is h d hd (λid hid=>aOM (aOl.1 e id hid)) (λj o hj=>by
  obtain⟨i,h1,h2⟩:=c.get j o hj;unfold dU;rw[h1];exact h2) g
theorem AP {γ:Type} {h0:γ->List aq} {args a:List PV} {b:γ->PV} {hc:List aq} (d:ACall P f args hc (λres h=>∃g,res=b g/\h=h0 g)) (is:List Nat) (e:OvL h (dU is h.length) hc is) (c:γ->PV) (H1:γ->List aq) (k:∀g,K (c g) (H1 g)) (e2:∀g,tY h is (h0 g)=H1 g:=by intro g;simp only[tY,pd,aOC,aPb,List.drop,At,No,rer];rfl) (i:∀g,xK (dU is h.length) (b g)=c g:=by intro _;rfl)
  (j:hc.length=is.length:=by rfl) (hd:is.Nodup:=by decide) (l:is.all (λid=>Nat.blt id h.length)=true:=by rfl) (m:a=args.map (vF (dU is h.length)):=by rfl):rb P f a h K:=
 ⟨_,d.UM is h e j hd l m,by rintro _ _ ⟨_,_,⟨g,rfl,rfl⟩,rfl,rfl⟩;rw[i,e2];exact k g⟩
end
theorem si {α:Type} {a b:α} (h:some a=some b):a=b:=aOY h
theorem bk {α β:Type} {x:Option α} {f:α->Option β} {r:β} {G:Prop} (h:(x>>=f)=some r) (k:∀a,x=some a->f a=some r->G):G:=by
 obtain⟨a,h1,h2⟩:=bind_some h;exact k a h1 h2
theorem bd {α β:Type} {x:Option α} {f:α->Option β} {r:β} (h:(x>>=f)=some r):∃a,x=some a/\f a=some r:=bind_some h
def jY (cs:List (List PV)):Nat->List PV:=λi=>cs.getD i []
theorem ZY {n:Nat} {l r:List (List PV)} (h:CLL l r):∀i,i<n->pB (l.getD i []) (jY r i):=λi _=>LB h i
theorem Ea {cs a:List (List PV)} {i:Nat} (c:List PV) (h:a=cs.set i c:=by rfl):∀k,k≠i->jY a k=jY cs k:=λk hk=>by
 subst h;unfold jY;rw[aOp,aOp,aOI (aPB hk)]
theorem aqJ {f a q:Nat->List PV} {n i:Nat} (hi:i<n) (h:∀k,k≠i->a k=f k):∀k,k≠i->SP a n q k=SP f n q k:=λk hk=>by
 unfold SP;rw[h k hk]
structure DR {α:Type} (D:List PV->α->Prop) (n:Nat) (f:Nat->List PV) (l:List α):Prop where
 len:l.length=n
 at_:∀i (h:i<l.length),D (f i) l[i]
 z:∀i,n<=i->f i=[]
inductive OD1:PV->PV->Prop
 | p {a:PV} (h:cO a=true):OD1 a a
 | o {a b:PV} (h:Gv a b):OD1 a b
def JF:List PV->List PV->Prop
 | [],[]=>True
 | a::l,b::r=>OD1 a b/\JF l r
 | _,_=>False
class UN {α:Type} (D:List PV->α->Prop) (c:outParam (α->List PV)):Prop where
 frz:∀cs x,D cs x->JF cs (c x)
def zb {α:Type} (c:α->List PV):List PV->α->Prop:=λcs x=>cs=c x
theorem JF.len:∀{l r:List PV},JF l r->r.length=l.length
 | [],[],_=>rfl
 | a::l,b::r,h=>congrArg (·+1) (JF.len h.2)
 | [],_::_,h=>h.elim
 | _::_,[],h=>h.elim
theorem JF.get:∀{l r:List PV},JF l r->∀{j:Nat} {a b:PV},l[j]? =some a->r[j]? =some b->OD1 a b
 | a::l,b::r,h,0,x,y,hx,hy=>by simp at hx hy;subst hx hy;exact h.1
 | a::l,b::r,h,j+1,x,y,hx,hy=>JF.get h.2 (by simpa using hx) aSx
 | [],_,h,j,x,y,hx,hy=>by simp at hx
 | _::_,[],h,_,_,_,_,_=>h.elim
theorem JF.pure:∀{l:List PV},l.all cO=true->JF l l
 | [],_=>trivial
 | a::l,h=>by
  simp only[aOv,As]at h;exact⟨.p h.1,JF.pure h.2⟩
theorem Gv.isO {a b:PV} (h:Gv a b):eV a=true:=by cases h;rfl
theorem Gv.UO {a b:PV} (h:Gv a b):cO b=true:=by cases h;rfl
theorem OD1.po {a b:PV} (h:OD1 a b):cO a=true\/eV a=true:=by
 cases h with
 | p h=>exact .inl h
 | o h=>exact .inr h.isO
theorem OD1.UO {a b:PV} (h:OD1 a b):cO b=true:=by
 cases h with
 | p h=>exact h
 | o h=>exact h.UO
theorem JF.po {l r:List PV} (h:JF l r):∀c,c∈l->cO c=true\/eV c=true:=λc hc=>by
 obtain⟨j,hj,rfl⟩:=List.getElem_of_mem hc;have a:=h.len;exact(h.get (abF hj) (abF (show j<r.length by omega))).po
instance {α:Type} (c:α->List PV) [hp:xN c]:UN (zb c) c:=⟨λcs x h=>by
 have h:cs=c x:=h;subst h;exact JF.pure (hp.pure x)⟩
theorem SV {a:PV} (h:eV a=true):cO a=false:=by cases a<;>first | rfl | cases h
theorem afb {σ:Nat->Nat} {a:PV} (h:cO a=true\/eV a=true):mo σ a=a:=by cases a<;>first | rfl | (rcases h with h | h<;>cases h)
theorem afc {N:Nat} {a:PV} (h:cO a=true\/eV a=true):pX N a=a:=by cases a<;>first | rfl | (rcases h with h | h<;>cases h)
theorem LD {g:PV->PV}:∀{l:List PV},(∀c,c∈l->g c=c)->l.map g=l
 | [],_=>rfl
 | a::l,h=>by simp only[aOC];rw[h a aRN,LD (λc hc=>h c (by simp [hc]))]
section
variable {α:Type}{D:List PV->α->Prop}{c:α->List PV}{n:Nat}{f:Nat->List PV}{l:List α}
theorem afd (d:∀i (h:i<l.length),JF (f i) (c l[i])) (g:l.length=n) (sz:Nat) (e:TypeId) (F:Nat->Prop):Gv (.eg sz n e f F) (sl sz c l):=by
 subst g;have at_:∀i,i<l.length->JF (f i) (row c l i):=λi hi=>by rw[qW hi];exact d i hi
 refine .mk sz l.length e f (row c l) F (λi hi=>(at_ i hi).len) (λi j pv b hi h1 h2 a=>?_) (λi j pv b hi h1 h2 a=>?_) (λi j b hi h2=>?_)
 ·cases(at_ i hi).get h1 h2 with
  | p _=>rfl
  | o h=>rw[h.isO]at a;cases a
 ·cases(at_ i hi).get h1 h2 with
  | p h=>rw[SV a]at h;cases h
  | o h=>exact h
 ·have hj:j<(f i).length:=by rw[<-(at_ i hi).len];exact(N2.1 h2).1
  exact((at_ i hi).get (abF hj) h2).UO
theorem DR.od [hc:UN D c] (d:DR D n f l):∀i (h:i<l.length),JF (f i) (c l[i]):=λi h=>hc.frz _ _ (d.at_ i h)
theorem DR.po [hc:UN D c] (d:DR D n f l):∀i,i<n->∀x,x∈f i->cO x=true\/eV x=true:=λi hi=>(d.od (c:=c) i (by rw[d.len];exact hi)).po
theorem DR.ren [hc:UN D c] (d:DR D n f l) {g:PV->PV} (hg:∀x,cO x=true\/eV x=true->g x=x):(λi=>(f i).map g)=f:=by
 funext i;by_cases hi:i<n
 ·exact LD (λx hx=>hg x (d.po (c:=c) i hi x hx))
 ·rw[d.z i aRK];rfl
theorem red [hc:UN D c] (d:DR D n f l) (σ:Nat->Nat) (g sz a:Nat) (e:TypeId):uN σ (.row g sz a e f)=.row g sz a e f:=by
 show aq.row g sz a e (λi=>(f i).map (mo σ))=_;rw[d.ren (c:=c) (λx=>afb)]
theorem shd [hc:UN D c] (d:DR D n f l) (N g sz a:Nat) (e:TypeId):iG N (.row g sz a e f)=.row g sz a e f:=by
 show aq.row g sz a e (λi=>(f i).map (pX N))=_;rw[d.ren (c:=c) (λx=>afc)]
theorem L6 [hc:UN D c] (d:DR D n f l) {σ:Nat->Nat} {g sz a:Nat} {e:TypeId} {x:Option aq} (hx:x=some (.row g sz a e f):=by rfl):x=some (uN σ (.row g sz a e f)):=by rw[red (c:=c) d];exact hx
theorem DR.self (d:DR D n f l):DR D l.length f l:=by have h:=d.len;subst h;exact d
theorem DR.nil:DR D 0 (λ_=>[]) []:=⟨rfl,λi h=>absurd h (aOX _),λ_ _=>rfl⟩
theorem DR.auJ {c:α->List PV} {l:List α}:DR (zb c) l.length (row c l) l:=⟨rfl,λi h=>qW h,λi hi=>by unfold row;simp [aOp,aPc (show(l.map c).length<=i by simpa using hi)]⟩
theorem jI {f:Nat->List PV} {i:Nat} {cs:List PV}:cp f i cs i=cs:=by
 unfold cp;rw[show Nat.beq i i=true from aPJ i];rfl
theorem mM {f:Nat->List PV} {i k:Nat} {cs:List PV} (h:k≠i):cp f i cs k=f k:=by
 unfold cp;rw[show Nat.beq k i=false from aQb.2 (λq=>h (abL q))];rfl
theorem DR.set (d:DR D n f l) {i:Nat} (hi:i<l.length) {cs:List PV} {x:α} (hx:D cs x):DR D n (cp f i cs) (l.set i x):=by
 refine⟨by rw[aQh];exact d.len,λk hk=>?_,λk hk=>?_⟩
 ·rw[aQh]at hk;rw[List.getElem_set];by_cases h:i=k
  ·subst h;rw[An rfl,jI];exact hx
  ·rw[mg h,mM (aPB h)];exact d.at_ k hk
 ·have:=d.len;rw[mM aRK];exact d.z k hk
theorem DR.app (d:DR D n f l) {cs:List PV} {x:α} (hx:D cs x):DR D (n+1) (cp f n cs) (l++[x]):=by
 have a:=d.len;refine⟨by simp [a],λk hk=>?_,λk hk=>?_⟩
 ·by_cases h:k=n
  ·subst h;rw[jI,aPM aRK];simp only[a,aPz,aQc];exact hx
  ·rw[mM h,aPN (by simp at hk;omega)];exact d.at_ k (by simp at hk;omega)
 ·rw[mM aRK];exact d.z k aRK
theorem DR.idx [Inhabited α] (d:DR D n f l) {i:Int} {x:α} (h:Go.Am.idx l i=some x):D (f i.toNat) x:=by
 have h1:=ae7 h;obtain⟨h2,a⟩:=N2.1 h1;rw[<-a];exact d.at_ _ h2
theorem DR.lt [Inhabited α] (d:DR D n f l) {i:Int} {x:α} (h:Go.Am.idx l i=some x):i.toNat<n:=by rw[<-d.len];exact oL h
theorem DR.bd [Inhabited α] (d:DR D n f l) {i:Int} {x:α} (h:Go.Am.idx l i=some x):0<=i/\i<(n:Int):=by rw[<-d.len];exact aW h
variable {h η:List aq}{k:List Nat}{m:Nat}
theorem aGd {a:PV} (hp:cO a=true\/eV a=true):Fz h η k a a:=by
 cases a<;>first | exact LC rfl | exact .eg _ _ _ _ _ | (rcases hp with hp | hp<;>cases hp)
theorem SW:∀{l:List PV},(∀c,c∈l->cO c=true\/eV c=true)->z7 h η k l l
 | [],_=>trivial
 | a::l,hp=>⟨aGd (hp a aRN),SW (λc hc=>hp c (by simp [hc]))⟩
theorem Fz.rd [hc:UN D c] {id g sz a b:Nat} {e:TypeId} (d:DR D n f l) (m:b=l.length:=by first | rfl | simp [*]) (q:h[id]? =some (aq.row g sz a e f):=by rfl) (hk:id∉k:=by first | decide | simp):Fz h η k (.own id g 0 b) (sl sz c l):=by
 subst m;have at_:∀i,i<l.length->JF (f i) (row c l i):=λi hi=>by rw[qW hi];exact d.od (c:=c) i hi
 refine .frz id g sz a 0 l.length e f (row c l) hk q (λi hi=>by rw[are];exact(at_ i hi).len) (λi j r hi h2=>?_) (λi j pv r hi h1 h2 s=>?_)
 ·have hj:j<(f i).length:=by rw[<-(at_ i hi).len];exact(N2.1 h2).1
  exact((at_ i hi).get (abF hj) h2).UO
 ·rw[are]at h1;cases(at_ i hi).get h1 h2 with
  | p h=>exact LC h
  | o h=>exact absurd h s
theorem odd [hc:UN D c] {id g sz b a:Nat} {e:TypeId} (d:DR D n f l) (j:a=b:=by first | rfl | simp [*]) (hle:a=n:=by first | rfl | simp [*]) (o:h[id]? =some (aq.row g sz b e f):=by rfl):Aa h η k m (.row g sz a e f) id id:=by
 subst j hle;unfold Aa;rw[o];exact⟨λ_=>⟨rfl,rfl⟩,rfl,.inl rfl,rfl,λi hi=>SW (d.po (c:=c) i hi)⟩
theorem nwd [hc:UN D c] {i id g j sz b a:Nat} {e:TypeId} (d:DR D n f l) (o:a=b:=by first | rfl | simp [*]) (hle:a=n:=by first | rfl | simp [*]) (hi:Nat.ble m i=true:=by rfl) (p:h[id]? =some (aq.row g sz b e f):=by rfl):Aa h η k m (.row j sz a e f) i id:=by
 subst o hle;unfold Aa;rw[p];exact⟨λh0=>absurd h0 (Nat.not_lt.2 (aOM hi)),rfl,.inl rfl,rfl,λi hi=>SW (d.po (c:=c) i hi)⟩
theorem Fz.od {id a g b sz i j c n2 d:Nat} {e e':TypeId} {f l:Nat->List PV} (h1:c=n2:=by first | rfl | simp [*]) (h2:n2=d:=by first | rfl | simp [*]) (hk:k[a]? =some id:=by rfl) (m:h[id]? =some (aq.row g sz j e f):=by rfl) (hη:η[a]? =some (aq.row b i d e' l):=by rfl):Fz h η k (.own id g 0 c) (.own a b 0 n2):=by
 subst h1 h2;exact .own _ _ _ _ _ _ _ _ _ _ _ _ _ _ hk m hη (Nat.le_of_eq (are _))
theorem exs (id:Nat) {g sz n:Nat} {e:TypeId} {f:Nat->List PV} {i d b:Nat} {e':TypeId} {l:Nat->List PV} {F:Nat->Prop} (j:Nat) (cs a:List PV) (c:Nat->List PV) (hi:i<n) (hc:f i=cs) (h1:c i=a) (m:∀k,k≠i->c k=f k)
  (hj:cs[j]? =some (.eg d b e' l F):=by rfl) (hs:a=cs.set j (.own h.length 0 0 b):=by rfl) (o:h[id]? =some (.row g sz n e f):=by rfl) {h2:List aq} (p:h2=h.set id (.row g sz n e c)++[.row 0 d b e' l]:=by rfl):Pa h h2:=
 ⟨id,g,sz,n,e,f,i,j,d,b,e',l,F,c,o,hi,by rw[hc];exact hj,by rw[h1,hc,hs],λk _ hk=>m k hk,p⟩
theorem acr {id sub g sz n:Nat} {e:TypeId} {f:Nat->List PV} {g2 mY n2:Nat} {e2:TypeId} {f2:Nat->List PV} {i:Nat} {j:Nat} {F:Nat->Prop} (cs a:List PV) (b:Nat->List PV) (hi:i<n) (hc:f i=cs) (h1:b i=a) (d:∀k,k≠i->b k=f k)
  (hp:∀k,k<n2->∀x,x∈f2 k->cO x=true\/eV x=true) (hj:cs[j]? =some (.own sub g2 0 n2):=by rfl) (hs:a=cs.set j (.eg mY n2 e2 f2 F):=by rfl) (l:h[id]? =some (.row g sz n e f):=by rfl) (c:h[sub]? =some (.row g2 mY n2 e2 f2):=by rfl) (m:id≠sub:=by decide)
  {h2:List aq} (o:h2=(h.set id (.row g sz n e b)).set sub .dead:=by rfl):DC h id i j sub F h2:=
 ⟨g,sz,n,e,f,g2,mY,n2,e2,f2,b,l,c,m,hi,by rw[hc];exact hj,hp,by rw[h1,hc,hs],λk _ hk=>d k hk,o⟩
theorem qN {f:Nat->List PV} {i off n:Nat} {a b cs:List PV} (hc:pB (ie a off b) cs):∀j,j<n->pB (cp f i (ie a off b) j) (cp f i cs j):=λj _=>by
 by_cases h:j=i
 ·subst h;rw[jI,jI];exact hc
 ·rw[mM h,mM h];exact pB.refl _
theorem TN {f:Nat->List PV} {i off n:Nat} {a c b cs:List PV} (hc:pB (ie a off b) cs):∀j,j<n->pB (cp (cp f i c) i (ie a off b) j) (cp f i cs j):=λj _=>by
 by_cases h:j=i
 ·subst h;rw[jI,jI];exact hc
 ·rw[mM h,mM h,mM h];exact pB.refl _
theorem amC {f:Nat->List PV} {i:Nat} {cs:List PV}:∀k,k≠i->cp f i cs k=f k:=λk h=>mM h
theorem TO {f:Nat->List PV} {i:Nat} {cs a:List PV}:∀k,k≠i->cp f i cs k=cp f i a k:=λk h=>by rw[mM h,mM h]
theorem cr {f:Nat->List PV} {n N:Nat} {cs a:List PV} (b:N=n+1) (hc:pB cs a):∀i,i<N->pB (bif Nat.blt i n then f (0+i)else cs) (cp f n a i):=λi hi=>by
 subst b;by_cases h:i<n
 ·rw[ae0 h,mM aRK,are];exact pB.refl _
 ·obtain rfl:i=n:=by omega
  rw[ae1 aRK,jI];exact hc
theorem KB {N:Nat} {cs a:List PV} (b:N=1) (hc:pB cs a):∀i,i<N->pB cs (cp (λ_=>[]) 0 a i):=λi hi=>by
 subst b;obtain rfl:i=0:=by omega
 rw[jI];exact hc
end
section
variable {P:Program}{f:FuncId}{args:List PV}{h:List aq}{K R:PV->List aq->Prop}
theorem aun {hc:List aq} {a:List PV} (b:ACall P f args hc R) (is:List Nat) (c:OvL h (dU is h.length) hc is)
  (k:∀r0 h0,R r0 h0->∃r1 h1,xK (dU is h.length) r0=r1/\tY h is h0=h1/\K r1 h1)
  (d:a=args.map (vF (dU is h.length)):=by rfl) (e:hc.length=is.length:=by rfl) (hd:is.Nodup:=by decide) (g:is.all (λid=>Nat.blt id h.length)=true:=by rfl):rb P f a h K:=
 ⟨_,b.UM is h c e hd g d,by
  rintro _ _ ⟨r0,h0,i,rfl,rfl⟩;obtain⟨r1,h1,rfl,rfl,hk⟩:=k r0 h0 i;exact hk⟩
theorem aai (a:ACall P f args [] R) (k:∀r0 h0,R r0 h0->∃r1 h1,vI h.length r0=r1/\h++h0.map (iG h.length)=h1/\K r1 h1) (hp:args.all UL=true:=by rfl):rb P f args h K:=
 ⟨_,a.frame h hp,by
  rintro _ _ ⟨r0,h0,b,rfl,rfl⟩;obtain⟨r1,h1,rfl,rfl,hk⟩:=k r0 h0 b;exact hk⟩
end
def xP (cs:List PV):Prop:=∀c∈cs,(eV c=false->sx c=true)/\(eV c=true->OG (λpv=>sx pv=true) c)
class Fl1 {α:Type} (c:α->List PV):Prop where
 fl:∀x,(c x).all sx=true
class Dfl {α:Type} (D:List PV->α->Prop):Prop where
 fl:∀cs x,D cs x->xP cs
instance:Fl1 cI:=⟨λ_=>rfl⟩
instance (k:IntKind):Fl1 (aqI k):=⟨λ_=>rfl⟩
instance:Fl1 cB:=⟨λ_=>rfl⟩
instance:Fl1 cT:=⟨λ_=>rfl⟩
instance:Fl1 cS:=⟨λ_=>rfl⟩
theorem Pb {a:PV} (h:sx a=true):eV a=false:=by cases a<;>first | rfl | cases h
theorem aMj:xP []:=λc hc=>absurd hc aQu
theorem aqK {a:PV} {l:List PV} (t:xP l) (h:sx a=true:=by rfl):xP (a::l):=λc hc=>by
 rcases aOz.1 hc with rfl | hc
 ·exact⟨λ_=>h,λq=>by rw[Pb h]at q;cases q⟩
 ·exact t c hc
theorem aqL {l:List PV} (h:l.all sx=true):xP l:=λc hc=>⟨λ_=>aOl.1 h c hc,λq=>by rw[Pb (aOl.1 h c hc)]at q;cases q⟩
theorem aGe {sz n:Nat} {e:TypeId} {f:Nat->List PV} {F:Nat->Prop} (h:∀i,i<n->xP (f i)):OG (λpv=>sx pv=true) (.eg sz n e f F):=
 .mk sz n e f F (λi j pv hi hj a=>(h i hi pv (aOy hj)).1 a) (λi j _ _ _ _ _ hi hj=>(h i hi _ (aOy hj)).2 rfl)
theorem aMk {sz n:Nat} {e:TypeId} {f:Nat->List PV} {F:Nat->Prop} {l:List PV} (h:∀i,i<n->xP (f i)) (t:xP l):xP (.eg sz n e f F::l):=λc hc=>by
 rcases aOz.1 hc with rfl | hc
 ·exact⟨λq=>(by cases q),λ_=>aGe h⟩
 ·exact t c hc
instance {α:Type} (c:α->List PV) [h:Fl1 c]:Dfl (zb c):=⟨λcs x q=>by
 have q:cs=c x:=q;subst q;exact aqL (h.fl x)⟩
theorem b8 {cs:List PV}:∀i,i<1->pB ([cs].getD i []) ((λ_=>cs) i):=λi hi=>by
 obtain rfl:i=0:=by omega
 exact pB.refl _
theorem Pc:∀{l:List PV},l.all cO=true->noO l=true
 | [],_=>rfl
 | a::l,h=>by
  simp only[aOv,As]at h;have:=Pc h.2;cases a<;>first | exact this | (have h1:=h.1;cases h1)
theorem nK {α:Type} {c:α->List PV} [hp:xN c] {f:Nat->List PV} {off:Nat} {l:List α} (hs:Gu c f off l):∀i,i<l.length->noO (f (off+i))=true:=λi hi=>by
 rw[hs i hi];exact Pc (qH hp.pure i)
section
variable {α:Type}{D:List PV->α->Prop}{n:Nat}{f:Nat->List PV}{l q:List α}{x:α}{b:Nat}
theorem Pd (h:cQ b l [x]=some q):l++[x]=q:=(dn h).2
theorem DR.gT (d:DR D n f l) (h:cQ b l [x]=some q) {cs:List PV} (hx:D cs x):DR D q.length (cp f n cs) q:=by
 have h1:=Pd h;subst h1;exact(d.app hx).self
theorem DR.ln (d:DR D n f l) (h:cQ b l [x]=some q):q.length=n+1:=by
 have h1:=Pd h;subst h1;simp [d.len]
theorem DR.lq (d:DR D n f l) (h:cQ b l [x]=some q):n<q.length:=by rw[d.ln h];exact aOr n
theorem DR.tL (d:DR D n f l) (h:cQ b l [x]=some q):(n+1)*b<=140737488355328:=by
 have h1:=jG h;rw[d.len]at h1;exact h1
theorem DR.du:DR D 0 (jY []) []:=⟨rfl,λi h=>absurd h (aOX _),λ_ _=>rfl⟩
theorem DR.bZ {cs:List PV} {a:List (List PV)} (hx:D cs x) (d:DR D n (jY a) l):DR D (n+1) (jY (cs::a)) (x::l):=
 ⟨by simp [d.len],λi h=>by
  cases i with
  | zero=>exact hx
  | succ i=>exact d.at_ i aSi,λi hi=>by
  cases i with
  | zero=>omega
  | succ i=>exact d.z i aRK⟩
theorem DR.jn {m:Nat} {f2:Nat->List PV} {b:List α} (d:DR D n f l) (c:DR D m f2 b):DR D (n+m) (SP f n f2) (l++b):=
 ⟨by simp [d.len,c.len],λi h=>by
  unfold SP;by_cases hi:i<n
  ·have a:Nat.blt i n=true:=by simpa using hi
   rw[a,aPN (by rw[d.len];exact hi)];exact d.at_ i _
  ·have a:Nat.blt i n=false:=by
    rw[aQb];intro hh;exact hi aSy
   have e:=d.len;have h':i<l.length+b.length:=by simpa using h
   rw[a,aPM aRK];have:=c.at_ (i - n) aRK;simp only[e];exact this,λi hi=>by
  unfold SP
  have a:Nat.blt i n=false:=by
   rw[aQb];intro hh;have:i<n:=by simpa using hh
   omega
  rw[a];exact c.z _ aRK⟩
theorem DR.P8 {m:Nat} {f2:Nat->List PV} {a:List α} (d:DR D n f l) (c:DR D m f2 a) (h:cQ b l a=some q):DR D (n+m) (SP f n f2) q:=by
 have h1:l++a=q:=(dn h).2;subst h1;exact d.jn c
theorem DR.jbd {m:Nat} {a:List α} (c:l.length=n) (hm:a.length=m) (h:cQ b l a=some q):(n+m)*b<=140737488355328:=by
 subst c;subst hm;exact jG h
theorem DR.mb (d:DR D n f l) (h:l.length*b<=140737488355328):n*b<=140737488355328:=by rw[<-d.len];exact h
end
def aiL (f:Nat->List PV):Prop:=∀g:PV->PV,(∀x,cO x=true\/eV x=true->g x=x)->(λi=>(f i).map g)=f
theorem DR.afe {α:Type} {D:List PV->α->Prop} {c:α->List PV} [hc:UN D c] {n:Nat} {f:Nat->List PV} {l:List α} (d:DR D n f l):aiL f:=λg hg=>d.ren (c:=c) hg
theorem xQ {α:Type} {c:α->List PV} [hp:xN c] {l:List α}:aiL (row c l):=λg hg=>by
 funext i;exact LD (λx hx=>hg x (.inl (aOl.1 (qH hp.pure i) x hx)))
theorem xR {cs:List PV} (h:cs.all cO=true):aiL (λ_=>cs):=λg hg=>by
 funext i;exact LD (λx hx=>hg x (.inl (aOl.1 h x hx)))
theorem rfx {f:Nat->List PV} (h:aiL f) (σ:Nat->Nat) (g sz n:Nat) (e:TypeId):uN σ (.row g sz n e f)=.row g sz n e f:=by
 show aq.row g sz n e (λi=>(f i).map (mo σ))=_;rw[h _ (λx=>afb)]
theorem xS {cs:List PV} {σ:Nat->Nat} {g sz n:Nat} {e:TypeId}:uN σ (.row g sz n e (λ_=>cs))=.row g sz n e (λ_=>cs.map (mo σ)):=rfl
theorem uQ {σ:Nat->Nat}:uN σ .dead=.dead:=rfl
theorem nx {h h0 h1:List aq} {is:List Nat} {r0 r1:PV} {K:PV->List aq->Prop} (k:K r1 h1)
  (a:xK (dU is h.length) r0=r1:=by simp only[xK,vF,mo,dU,aOC,aPb,At,No,aPd,aOU,aPq,Nat.reduceAdd,Nat.reduceSub];rfl)
  (hh:tY h is h0=h1:=by
   simp (disch:=first | rfl | exact DR.afe aSb | exact xQ | exact xR rfl) only[tY,pd,rfx,xS,uQ,mo,dU,aOC,aPb,aPE,aOu,aQd,At,No,aPK,aPO,aPu,aOB,aPd,aOU,aPq,Nat.reduceAdd,Nat.reduceSub];rfl):∃r1 h1,xK (dU is h.length) r0=r1/\tY h is h0=h1/\K r1 h1:=⟨r1,h1,a,hh,k⟩
section
variable {P:Program}{f:FuncId}{h:List aq}{K:PV->List aq->Prop}{r0 r1:PV}{h0 h1:List aq}
theorem aMl {hc:List aq} {args a:List PV} (b:ACall P f args hc (λres h=>res=r0/\h=h0)) (is:List Nat) (c:OvL h (dU is h.length) hc is) (k:K r1 h1)
  (d:xK (dU is h.length) r0=r1:=by simp only[xK,vF,mo,dU,aOC,aPb,At,No,aPd,aOU,aPq,Nat.reduceAdd,Nat.reduceSub];rfl)
  (hh:tY h is h0=h1:=by
   simp (disch:=first | rfl | exact DR.afe aSb | exact xQ | exact xR rfl) only[tY,pd,rfx,xS,uQ,mo,dU,aOC,aPb,aPE,aOu,aQd,At,No,aPK,aPO,aPu,aOB,aPd,aOU,aPq,Nat.reduceAdd,Nat.reduceSub];rfl)
  (e:hc.length=is.length:=by rfl) (hd:is.Nodup:=by decide) (g:is.all (λid=>Nat.blt id h.length)=true:=by rfl) (i:a=args.map (vF (dU is h.length)):=by rfl):rb P f a h K:=
 ⟨_,b.UM is h c e hd g i,by rintro _ _ ⟨_,_,⟨rfl,rfl⟩,rfl,rfl⟩;rw[d,hh];exact k⟩
theorem bN {hc:List aq} {args a:List PV} (b:ACall P f args hc (λres h=>res=r0/\h=h0)) (is:List Nat) (k:K r1 h1) (c:OvL h (dU is h.length) hc is:=by exact⟨rfl,⟨⟩⟩)
  (d:xK (dU is h.length) r0=r1:=by simp only[xK,vF,mo,dU,aOC,aPb,At,No,aPd,aOU,aPq,Nat.reduceAdd,Nat.reduceSub];rfl)
  (hh:tY h is h0=h1:=by
   simp (disch:=first | rfl | exact DR.afe aSb | exact xQ | exact xR rfl) only[tY,pd,rfx,xS,uQ,mo,dU,aOC,aPb,aPE,aOu,aQd,At,No,aPK,aPO,aPu,aOB,aPd,aOU,aPq,Nat.reduceAdd,Nat.reduceSub];rfl)
  (e:hc.length=is.length:=by rfl) (hd:is.Nodup:=by decide) (g:is.all (λid=>Nat.blt id h.length)=true:=by rfl) (i:a=args.map (vF (dU is h.length)):=by rfl):rb P f a h K:=aMl b is c k d hh e hd g i
theorem MP {α:Type} {D:List PV->α->Prop} {n:Nat} {l:List α} {hc:List aq} {args a:List PV} {X b:(Nat->List PV)->PV} {H H1:(Nat->List PV)->List aq} (c:ACall P f args hc (λres h=>∃F,DR D n F l/\res=X F/\h=H F)) (is:List Nat) (e:OvL h (dU is h.length) hc is) (k:∀F,DR D n F l->K (b F) (H1 F))
  (g:∀F,DR D n F l->xK (dU is h.length) (X F)=b F:=by intro F d;simp only[xK,vF,mo,dU,aOC,aPb,At,No,aPd,aOU,aPq,Nat.reduceAdd,Nat.reduceSub];rfl)
  (hh:∀F,DR D n F l->tY h is (H F)=H1 F:=by
   intro F d;simp (disch:=first | rfl | exact DR.afe aSb | exact xQ | exact xR rfl) only[tY,pd,rfx,xS,uQ,mo,dU,aOC,aPb,aPE,aOu,aQd,At,No,aPK,aPO,aPu,aOB,aPd,aOU,aPq,Nat.reduceAdd,Nat.reduceSub];rfl)
  (i:hc.length=is.length:=by rfl) (hd:is.Nodup:=by decide) (j:is.all (λid=>Nat.blt id h.length)=true:=by rfl) (m:a=args.map (vF (dU is h.length)):=by rfl):rb P f a h K:=
 ⟨_,c.UM is h e i hd j m,by rintro _ _ ⟨_,_,⟨F,d,rfl,rfl⟩,rfl,rfl⟩;rw[g F d,hh F d];exact k F d⟩
theorem bp {α:Type} {D:List PV->α->Prop} {n:Nat} {l:List α} {hc:List aq} {args a:List PV} {X b:(Nat->List PV)->PV} {H H1:(Nat->List PV)->List aq} (c:ACall P f args hc (λres h=>∃F,DR D n F l/\res=X F/\h=H F)) (is:List Nat) (k:∀F,DR D n F l->K (b F) (H1 F)) (e:OvL h (dU is h.length) hc is:=by exact⟨rfl,⟨⟩⟩)
  (g:∀F,DR D n F l->xK (dU is h.length) (X F)=b F:=by intro F d;simp only[xK,vF,mo,dU,aOC,aPb,At,No,aPd,aOU,aPq,Nat.reduceAdd,Nat.reduceSub];rfl)
  (hh:∀F,DR D n F l->tY h is (H F)=H1 F:=by
   intro F d;simp (disch:=first | rfl | exact DR.afe aSb | exact xQ | exact xR rfl) only[tY,pd,rfx,xS,uQ,mo,dU,aOC,aPb,aPE,aOu,aQd,At,No,aPK,aPO,aPu,aOB,aPd,aOU,aPq,Nat.reduceAdd,Nat.reduceSub];rfl)
  (i:hc.length=is.length:=by rfl) (hd:is.Nodup:=by decide) (j:is.all (λid=>Nat.blt id h.length)=true:=by rfl) (m:a=args.map (vF (dU is h.length)):=by rfl):rb P f a h K:=MP c is e k g hh i hd j m
end
theorem al {a b:List PV} {off:Nat} {f:Nat->List PV}:∀j,j<1->pB (cp f 0 (ie a off b) j) ((λ_=>ie a off b) j):=aiI rfl
theorem cC {n:Nat} {l:List (List PV)}:∀i,i<n->pB (l.getD i []) (jY l i):=λi _=>pB.refl _
section
variable {h:List aq}{id sub g sz n g2 mY n2:Nat}{e e2:TypeId}{f2:Nat->List PV}{i j:Nat}{F:Nat->Prop}
theorem qK {f:Nat->List PV} {a c1:List PV} (hi:i<n) (hp:∀k,k<n2->∀x,x∈f2 k->cO x=true\/eV x=true) (c:h[id]? =some (.row g sz n e (cp f i a)):=by rfl) (hj:a[j]? =some (.own sub g2 0 n2):=by rfl)
  (b:h[sub]? =some (.row g2 mY n2 e2 f2):=by rfl) (hs:a.set j (.eg mY n2 e2 f2 F)=c1:=by rfl) (d:id≠sub:=by decide) {h2:List aq} (l:h2=(h.set id (.row g sz n e (cp f i c1))).set sub .dead:=by rfl):DC h id i j sub F h2:=
 acr a c1 (cp f i c1) hi jI jI TO hp hj hs.symm c b d l
theorem UP {cs:List (List PV)} {i:Nat} {c:List PV} (h:cs[i]? =some c):jY cs i=c:=by unfold jY;rw[aOp,h];rfl
theorem Pe {cs:List (List PV)} {i:Nat} {c c1:List PV} (h:cs[i]? =some c):jY (cs.set i c1) i=c1:=by
 unfold jY;rw[aOp,aPi (N2.1 h).1];rfl
theorem iz {cs:List (List PV)} {a c1:List PV} {b:List (List PV)} (hp:∀k,k<n2->∀x,x∈f2 k->cO x=true\/eV x=true) (d:h[id]? =some (.row g sz n e (jY cs)):=by rfl) (hc:cs[i]? =some a:=by rfl) (hj:a[j]? =some (.own sub g2 0 n2):=by rfl)
  (c:h[sub]? =some (.row g2 mY n2 e2 f2):=by rfl) (hs:a.set j (.eg mY n2 e2 f2 F)=c1:=by rfl) (hd:cs.set i c1=b:=by rfl) (hi:Nat.blt i n=true:=by rfl) (f:id≠sub:=by decide) {h2:List aq} (l:h2=(h.set id (.row g sz n e (jY b))).set sub .dead:=by rfl):DC h id i j sub F h2:=
 acr a c1 (jY b) (by simpa using hi) (UP hc) (by rw[<-hd];exact Pe hc) (Ea c1 hd.symm) hp hj hs.symm d c f l
theorem abJ {cs:List (List PV)} {a c1:List PV} {b:List (List PV)} {N:Nat} {q:Nat->List PV} (hp:∀k,k<n2->∀x,x∈f2 k->cO x=true\/eV x=true) (f:h[id]? =some (.row g sz n e (SP (jY cs) N q)):=by rfl) (hc:cs[i]? =some a:=by rfl) (hj:a[j]? =some (.own sub g2 0 n2):=by rfl)
  (c:h[sub]? =some (.row g2 mY n2 e2 f2):=by rfl) (hs:a.set j (.eg mY n2 e2 f2 F)=c1:=by rfl) (hd:cs.set i c1=b:=by rfl) (d:Nat.blt i N=true:=by rfl) (l:id≠sub:=by decide) {h2:List aq} (m:h2=(h.set id (.row g sz n e (SP (jY b) N q))).set sub .dead:=by rfl) (hi:i<n:=by omega):DC h id i j sub F h2:=
 acr a c1 (SP (jY b) N q) hi (by unfold SP;rw[d];exact UP hc) (by unfold SP;rw[d,<-hd];exact Pe hc) (aqJ (by simpa using d) (Ea c1 hd.symm)) hp hj hs.symm f c l m
end
theorem Fz.oe {h η:List aq} {k:List Nat} {id a g b sz i j c n2 d:Nat} {e e':TypeId} {f l:Nat->List PV} (h1:c=n2:=by first | rfl | exact DR.len aSb | exact(DR.len aSb).symm) (h2:n2=d:=by first | rfl | exact DR.len aSb | exact(DR.len aSb).symm) (hk:k[a]? =some id:=by rfl) (m:h[id]? =some (aq.row g sz j e f):=by rfl) (hη:η[a]? =some (aq.row b i d e' l):=by rfl):Fz h η k (.own id g 0 c) (.own a b 0 n2):=Fz.od h1 h2 hk m hη
section
variable {h η:List aq}{k:List Nat}{m:Nat}
theorem z7.n:z7 h η k [] []:=trivial
theorem z7.c {a b:PV} {l r:List PV} (h1:Fz h η k a b) (h2:z7 h η k l r):z7 h η k (a::l) (b::r):=⟨h1,h2⟩
theorem Bs.n {env:Env}:Bs h η k env []:=trivial
theorem Bs.c {env:Env} {t:Nat} {v:PV} {r:List (Nat×PV)} (h1:Fz h η k (env t) v) (h2:Bs h η k env r):Bs h η k env ((t,v)::r):=⟨h1,h2⟩
theorem mW.n {i:Nat}:mW h η k m i [] []:=trivial
theorem mW.c {i id:Nat} {o:aq} {r:List aq} {a:List Nat} (h1:Aa h η k m o i id) (h2:mW h η k m (i+1) r a):mW h η k m i (o::r) (id::a):=⟨h1,h2⟩
theorem nwz {α:Type} {D:List PV->α->Prop} {c:α->List PV} {l:List α} {n:Nat} {f:Nat->List PV} (d:DR D n f l) [hc:UN D c] {i id g j sz b a:Nat} {e:TypeId} (o:h[id]? =some (aq.row g sz b e f):=by rfl) (p:a=b:=by first | rfl | exact DR.len aSb | exact(DR.len aSb).symm) (hle:a=n:=by first | rfl | exact DR.len aSb | exact(DR.len aSb).symm) (hi:Nat.ble m i=true:=by rfl):Aa h η k m (.row j sz a e f) i id:=nwd (c:=c) d p hle hi o
theorem odz {α:Type} {D:List PV->α->Prop} {c:α->List PV} {l:List α} {n:Nat} {f:Nat->List PV} (d:DR D n f l) [hc:UN D c] {id g sz b a:Nat} {e:TypeId} (i:h[id]? =some (aq.row g sz b e f):=by rfl) (j:a=b:=by first | rfl | exact DR.len aSb | exact(DR.len aSb).symm) (hle:a=n:=by first | rfl | exact DR.len aSb | exact(DR.len aSb).symm):Aa h η k m (.row g sz a e f) id id:=odd (c:=c) d j hle i
end
theorem yE {p:Prop} (h:p:=by exact nwz aSb):p:=h
theorem oda {p:Prop} (h:p:=by exact odz aSb):p:=h
theorem rs {α:Type} {D:List PV->α->Prop} {n:Nat} {f:Nat->List PV} {l:List α} (d:DR D n f l) {X:(Nat->List PV)->PV} {H:(Nat->List PV)->List aq}:∃F,DR D l.length F l/\X f=X F/\H f=H F:=⟨f,d.self,rfl,rfl⟩
end Go.Am
namespace Go.Am
open Go Go.RowKit Go.Proofs
mutual
inductive ae where
 | mk (ah:Int) (aF:Int) (ak:aE) (af:List ae)
end
def ae.ah:ae->Int | .mk x _ _ _=>x
def ae.aF:ae->Int | .mk _ x _ _=>x
def ae.ak:ae->aE | .mk _ _ x _=>x
def ae.af:ae->List ae | .mk _ _ _ x=>x
@[simp] theorem ae.qo (a0:Int) (a1:Int) (a:aE) (b:List ae):(ae.mk a0 a1 a b).ah=a0:=rfl
@[simp] theorem ae.rq (a0:Int) (a1:Int) (a:aE) (b:List ae):(ae.mk a0 a1 a b).aF=a1:=rfl
@[simp] theorem ae.nz (a0:Int) (a1:Int) (a:aE) (b:List ae):(ae.mk a0 a1 a b).ak=a:=rfl
@[simp] theorem ae.kg (a0:Int) (a1:Int) (b:aE) (a:List ae):(ae.mk a0 a1 b a).af=a:=rfl
instance:Inhabited ae:=⟨.mk 0 0 [] []⟩
mutual
def ae.cells:ae->List PV | .mk a0 a1 b a=>[.int .i64 a0]++[.int .i64 a1]++[.str b]++[.iT 4 a.length (λi=>(ae.LF a).getD i [])]
def ae.LF:List ae->List (List PV) | []=>[] | x::r=>x.cells::ae.LF r
end
theorem ae.Gw:∀(l:List ae),ae.LF l=l.map ae.cells
 | []=>rfl
 | a::r=>by unfold ae.LF;rw[ae.Gw r];rfl
abbrev ae.lit (x:ae):List PV:=[.int .i64 x.ah,.int .i64 x.aF,.str x.ak,sl 4 ae.cells x.af]
theorem ae.aC (x:ae):x.cells=x.lit:=by
 cases x with
 | mk a0 a1 a b=>
  unfold ae.cells;rw[ae.Gw];rfl
theorem ae.ji (x:ae):x.cells.all cO=true:=by rw[ae.aC];rfl
instance:xN ae.cells:=⟨ae.ji⟩
structure fF where
 n7:aE
 bO:ae
 deriving Inhabited
abbrev fF.lit (x:fF):List PV:=[.str x.n7,.int .i64 x.bO.ah,.int .i64 x.bO.aF,.str x.bO.ak,sl 4 ae.cells x.bO.af]
def fF.cells (x:fF):List PV:=x.lit
theorem fF.aC (x:fF):x.cells=x.lit:=rfl
theorem fF.ji (x:fF):x.cells.all cO=true:=rfl
instance:xN fF.cells:=⟨fF.ji⟩
structure aj where
 ah:Int
 aF:Int
 ak:aE
 bA:Int
 deriving DecidableEq,Inhabited
abbrev aj.lit (x:aj):List PV:=[.int .i64 x.ah,.int .i64 x.aF,.str x.ak,.int .i64 x.bA]
def aj.cells (x:aj):List PV:=x.lit
theorem aj.aC (x:aj):x.cells=x.lit:=rfl
theorem aj.ji (x:aj):x.cells.all cO=true:=rfl
instance:xN aj.cells:=⟨aj.ji⟩
structure aH where
 fT:List aj
 fI:Int
 ax:Int
 aw:Int
 deriving DecidableEq,Inhabited
abbrev aH.lit (x:aH):List PV:=[sl 4 aj.cells x.fT,.int .i64 x.fI,.int .i64 x.ax,.int .i64 x.aw]
def aH.cells (x:aH):List PV:=x.lit
theorem aH.aC (x:aH):x.cells=x.lit:=rfl
theorem aH.ji (x:aH):x.cells.all cO=true:=rfl
instance:xN aH.cells:=⟨aH.ji⟩
structure ao where
 ar:List aj
 bA:Int
 ax:Int
 aw:Bool
 deriving DecidableEq,Inhabited
abbrev ao.lit (x:ao):List PV:=[sl 4 aj.cells x.ar,.int .i64 x.bA,.int .i64 x.ax,.bool x.aw]
def ao.cells (x:ao):List PV:=x.lit
theorem ao.aC (x:ao):x.cells=x.lit:=rfl
theorem ao.ji (x:ao):x.cells.all cO=true:=rfl
instance:xN ao.cells:=⟨ao.ji⟩
structure bP where
 fS:aE
 bA:Int
 bU:List aj
 ed:Int
 deriving DecidableEq,Inhabited
abbrev bP.lit (x:bP):List PV:=[.str x.fS,.int .i64 x.bA,sl 4 aj.cells x.bU,.int .i64 x.ed]
def bP.cells (x:bP):List PV:=x.lit
theorem bP.aC (x:bP):x.cells=x.lit:=rfl
theorem bP.ji (x:bP):x.cells.all cO=true:=rfl
instance:xN bP.cells:=⟨bP.ji⟩
instance:Fl1 aj.cells:=⟨λ_=>rfl⟩
inductive ae.D:List PV->ae->Prop
 | mk (x:ae) (n0:Nat) (F0:Nat->Prop) (M0:x.af.length=n0) (f0:Nat->List PV) (h0:∀i (hi:i<x.af.length),ae.D (f0 i) x.af[i]) (hz0:∀i,n0<=i->f0 i=[]):ae.D [.int .i64 x.ah,.int .i64 x.aF,.str x.ak,.eg 4 n0 24 f0 F0] x
theorem ae.bn {x:ae} {b:Nat} {F0:Nat->Prop} {f0:Nat->List PV} (a:DR ae.D b f0 x.af):ae.D [.int .i64 x.ah,.int .i64 x.aF,.str x.ak,.eg 4 b 24 f0 F0] x:=.mk x _ _ a.len _ a.at_ a.z
theorem ae.ajH {cs:List PV} {x:ae} (h:ae.D cs x):∃(F0:Nat->Prop),∃f0:Nat->List PV,cs=[.int .i64 x.ah,.int .i64 x.aF,.str x.ak,.eg 4 x.af.length 24 f0 F0]/\DR ae.D x.af.length f0 x.af:=by
 cases h with
 | mk _ c F0 b f0 h0 a=>subst b;exact⟨F0,f0,rfl,⟨rfl,h0,a⟩⟩
theorem ae.aGf:∀cs x,ae.D cs x->JF cs x.cells:=λcs x h=>ae.D.rec (motive:=λcs x _=>JF cs x.cells) (λx d F0 b f0 h0 c a=>by rw[ae.aC];exact⟨.p rfl,.p rfl,.p rfl,.o (afd a b 4 24 F0),trivial⟩) h
instance:UN ae.D ae.cells:=⟨ae.aGf⟩
theorem ae.aqM:∀cs x,ae.D cs x->xP cs:=λcs x h=>ae.D.rec (motive:=λcs x _=>xP cs) (λx d F0 b f0 h0 c a=>(aqK (aqK (aqK (aMk (λi hi=>a i (Nat.lt_of_lt_of_eq hi b.symm)) aMj))))) h
instance:Dfl ae.D:=⟨ae.aqM⟩
def Q9:sf:=zj [(3,.int .i64),
 (4,.bool),
 (5,.int .u8),
 (9,.str),
 (22,.slice 24 4 56 [.int .i64 0,.int .i64 0,.str [],.ck]),
 (24,.struct 4 [(0,1,false),(1,1,false),(2,1,false),(3,1,false)] [.int .i64 0,.int .i64 0,.str [],.ck]),
 (26,.struct 5 [(0,1,false),(1,4,true)] [.str [],.int .i64 0,.int .i64 0,.str [],.ck]),
 (37,.slice 58 4 40 [.int .i64 0,.int .i64 0,.str [],.int .i64 0]),
 (41,.struct 4 [(0,1,false),(1,1,false),(2,1,false),(3,1,false)] [.ck,.int .i64 0,.int .i64 0,.int .i64 0]),
 (48,.struct 4 [(0,1,false),(1,1,false),(2,1,false),(3,1,false)] [.ck,.int .i64 0,.int .i64 0,.bool false]),
 (52,.slice 4 1 1 [.bool false]),
 (58,.struct 4 [(0,1,false),(1,1,false),(2,1,false),(3,1,false)] [.int .i64 0,.int .i64 0,.str [],.int .i64 0]),
 (72,.struct 4 [(0,1,false),(1,1,false),(2,1,false),(3,1,false)] [.str [],.int .i64 0,.ck,.int .i64 0]),
 (101,.map 9 4 (.bool false)),
 (103,.slice 5 1 1 [.int .u8 0]),
 (104,.slice 9 1 16 [.str []])]
theorem aiM:e9 Tryz.prog Q9:=aF2 aRP
theorem mixed:Tryz.prog.follows .mixedOrders=true:=by kernel_rfl
theorem dY {f:FuncId} {fn:Func} {c:Code} {args:List PV} {h:List aq} {R:PV->List aq->Prop} (hf:Tryz.prog.funcs[f]? =some fn) (hv:vc Tryz.prog Q9 h.length c (aGg Q9 fn.results.toList h.length R) (xT args) h) (a:fn.body=some c:=by rfl) (b:(fn.name== "runtime.NumGoroutine")=false:=by kernel_rfl) (d:Nat.ble args.length fn.ntmps=true:=by rfl) (e:codeOk fn.ntmps c=true:=by kernel_rfl):ACall Tryz.prog f args h R:=ACall.aGh aiM mixed hf a b _ _ _ d e hv
abbrev pI (x:Int):PV:=.int .i64 x
abbrev fL:=((Unit) ⊕ Bool)
abbrev nL:=(ae×aH)
abbrev lR:=(ae×ao)
abbrev V1:=((List ae)×aH)
abbrev QT:=((List ae)×ao)
abbrev um:=((Unit) ⊕ fL)
abbrev agC:=((List aj)×Int×Int)
abbrev Mk:=(Int×Int×aE×(List ae))
abbrev agB:=(aE×Int×Int×(List aj))
abbrev VN:=((List aj)×Int×Int×Int×Bool)
abbrev WJ:=((List aj)×Int×Int×Bool×Bool)
abbrev agG:=((List ae)×(List ae)×(List ae))
abbrev ag3:=(((List aj)) ⊕ agC)
abbrev Dx:=((List aj)×Int×Int×Int×(List ae))
abbrev FY:=((List aj)×Int×Int×Bool×(List ae))
abbrev ty9:=((List aj)×Int×Int×Int×(List ae)×(List ae))
abbrev ty8:=((List aj)×Int×Int×Bool×(List ae)×(List ae))
abbrev ty7:=(Dx ⊕ V1)
abbrev ty6:=(FY ⊕ QT)
abbrev ty5:=((List aj)×Int×Int×Int×(List ae)×Int×Int×aE×(List ae))
abbrev ty4:=((List aj)×Int×Int×Bool×(List ae)×Int×Int×aE×(List ae))
abbrev ty3:=(ty9 ⊕ nL)
abbrev ty2:=(ty8 ⊕ lR)
abbrev ty1:=(ty5 ⊕ nL)
abbrev ty0:=(ty4 ⊕ lR)
def HH (n:FuncId) (a0:ao) (r:ae×ao) (ai:Nat):Prop:=ACall Tryz.prog n [.aA 0 ai 0 0] [.row ai 4 1 48 (λ_=>a0.lit)] (λres h=>∃F1:Nat->List PV,DR ae.D r.1.af.length F1 r.1.af/\res=.agg [pI r.1.ah,pI r.1.aF,.str r.1.ak,.own 1 0 0 r.1.af.length]/\h=[.row ai 4 1 48 (λ_=>r.2.lit),.row 0 4 r.1.af.length 24 F1])
def IP (n:FuncId) (a0:aH) (r:ae×aH) (ai:Nat):Prop:=ACall Tryz.prog n [.aA 0 ai 0 0] [.row ai 4 1 41 (λ_=>a0.lit)] (λres h=>∃F1:Nat->List PV,DR ae.D r.1.af.length F1 r.1.af/\res=.agg [pI r.1.ah,pI r.1.aF,.str r.1.ak,.own 1 0 0 r.1.af.length]/\h=[.row ai 4 1 41 (λ_=>r.2.lit),.row 0 4 r.1.af.length 24 F1])
def Hv (n:FuncId) (a0:ae) (r:Bool):Prop:=ACall Tryz.prog n [.agg a0.lit] [] (λres h=>res=.bool r/\h=[])
def sg3 (n:FuncId) (a0:ae) (r:Int):Prop:=ACall Tryz.prog n [.agg a0.lit] [] (λres h=>res=pI r/\h=[])
def sg4 (n:FuncId) (a0:aE) (r:Bool):Prop:=ACall Tryz.prog n [.str a0] [] (λres h=>res=.bool r/\h=[])
def sg5 (n:FuncId) (a0:List ae) (r:Bool):Prop:=ACall Tryz.prog n [sl 4 ae.cells a0] [] (λres h=>res=.bool r/\h=[])
def sg6 (n:FuncId) (a0:Int) (r:Bool):Prop:=ACall Tryz.prog n [.int .u8 a0] [] (λres h=>res=.bool r/\h=[])
def sg7 (n:FuncId) (a0:Int) (r:aE):Prop:=ACall Tryz.prog n [pI a0] [] (λres h=>res=.str r/\h=[])
def sg8 (n:FuncId) (a0:List ae) (a1:Bool) (r:Bool):Prop:=ACall Tryz.prog n [sl 4 ae.cells a0,.bool a1] [] (λres h=>res=.bool r/\h=[])
def sg9 (n:FuncId) (a0:ae) (a1:ae) (r:Bool):Prop:=ACall Tryz.prog n [.agg a0.lit,.agg a1.lit] [] (λres h=>res=.bool r/\h=[])
def ams (n:FuncId) (a0:ao) (r:(List ae)×ao) (ai:Nat):Prop:=ACall Tryz.prog n [.aA 0 ai 0 0] [.row ai 4 1 48 (λ_=>a0.lit)] (λres h=>∃F1:Nat->List PV,DR ae.D r.1.length F1 r.1/\res=.own 1 0 0 r.1.length/\h=[.row ai 4 1 48 (λ_=>r.2.lit),.row 0 4 r.1.length 24 F1])
def aCk (n:FuncId) (a0:ao) (a1:Int) (r:ae×ao) (ai:Nat):Prop:=ACall Tryz.prog n [.aA 0 ai 0 0,pI a1] [.row ai 4 1 48 (λ_=>a0.lit)] (λres h=>∃F1:Nat->List PV,DR ae.D r.1.af.length F1 r.1.af/\res=.agg [pI r.1.ah,pI r.1.aF,.str r.1.ak,.own 1 0 0 r.1.af.length]/\h=[.row ai 4 1 48 (λ_=>r.2.lit),.row 0 4 r.1.af.length 24 F1])
def alu (n:FuncId) (a0:aE) (r:Int):Prop:=ACall Tryz.prog n [.str a0] [] (λres h=>res=pI r/\h=[])
def alv (n:FuncId) (a0:Int) (a1:Int) (r:Int):Prop:=ACall Tryz.prog n [pI a0,pI a1] [] (λres h=>res=pI r/\h=[])
def alA (n:FuncId) (a0:ae) (a1:Int) (r:Int):Prop:=ACall Tryz.prog n [.agg a0.lit,pI a1] [] (λres h=>res=pI r/\h=[])
def auk (n:FuncId) (a0:aH) (a1:Int) (r:ae×aH) (ai:Nat):Prop:=ACall Tryz.prog n [.aA 0 ai 0 0,pI a1] [.row ai 4 1 41 (λ_=>a0.lit)] (λres h=>∃F1:Nat->List PV,DR ae.D r.1.af.length F1 r.1.af/\res=.agg [pI r.1.ah,pI r.1.aF,.str r.1.ak,.own 1 0 0 r.1.af.length]/\h=[.row ai 4 1 41 (λ_=>r.2.lit),.row 0 4 r.1.af.length 24 F1])
def atW (n:FuncId) (a0:bP) (r:bP) (ai:Nat) (bJ:Nat):Prop:=ACall Tryz.prog n [.aA 0 ai 0 0] [.row ai 4 1 72 (λ_=>[.str a0.fS,pI a0.bA,.own 1 bJ 0 a0.bU.length,pI a0.ed]),.row bJ 4 a0.bU.length 58 (row aj.cells a0.bU)] (λres h=>∃a:Nat,res=.fV []/\h=[.row ai 4 1 72 (λ_=>[.str r.fS,pI r.bA,.own 1 a 0 r.bU.length,pI r.ed]),.row a 4 r.bU.length 58 (row aj.cells r.bU)])
def atX (n:FuncId) (a0:bP) (a1:aE) (r:bP) (ai:Nat) (bJ:Nat):Prop:=ACall Tryz.prog n [.aA 0 ai 0 0,.str a1] [.row ai 4 1 72 (λ_=>[.str a0.fS,pI a0.bA,.own 1 bJ 0 a0.bU.length,pI a0.ed]),.row bJ 4 a0.bU.length 58 (row aj.cells a0.bU)] (λres h=>∃a:Nat,res=.fV []/\h=[.row ai 4 1 72 (λ_=>[.str r.fS,pI r.bA,.own 1 a 0 r.bU.length,pI r.ed]),.row a 4 r.bU.length 58 (row aj.cells r.bU)])
def aIO (n:FuncId) (a0:aH) (a1:Bool) (r:ae×aH) (ai:Nat):Prop:=ACall Tryz.prog n [.aA 0 ai 0 0,.bool a1] [.row ai 4 1 41 (λ_=>a0.lit)] (λres h=>∃F1:Nat->List PV,DR ae.D r.1.af.length F1 r.1.af/\res=.agg [pI r.1.ah,pI r.1.aF,.str r.1.ak,.own 1 0 0 r.1.af.length]/\h=[.row ai 4 1 41 (λ_=>r.2.lit),.row 0 4 r.1.af.length 24 F1])
def auo (n:FuncId) (a0:aE) (r:ae×Int×Int):Prop:=ACall Tryz.prog n [.str a0] [] (λres h=>∃F0:Nat->List PV,DR ae.D r.1.af.length F0 r.1.af/\res=.fV [.agg [pI r.1.ah,pI r.1.aF,.str r.1.ak,.own 0 0 0 r.1.af.length],pI r.2.1,pI r.2.2]/\h=[.row 0 4 r.1.af.length 24 F0])
def aKC (n:FuncId) (a0:ao) (a1:Bool) (r:ae×ao) (ai:Nat):Prop:=ACall Tryz.prog n [.aA 0 ai 0 0,.bool a1] [.row ai 4 1 48 (λ_=>a0.lit)] (λres h=>∃F1:Nat->List PV,DR ae.D r.1.af.length F1 r.1.af/\res=.agg [pI r.1.ah,pI r.1.aF,.str r.1.ak,.own 1 0 0 r.1.af.length]/\h=[.row ai 4 1 48 (λ_=>r.2.lit),.row 0 4 r.1.af.length 24 F1])
def aus (n:FuncId) (a0:aE) (a1:aE) (r:fF×Int):Prop:=ACall Tryz.prog n [.str a0,.str a1] [] (λres h=>∃F0:Nat->List PV,DR ae.D r.1.bO.af.length F0 r.1.bO.af/\res=.fV [.agg [.str r.1.n7,pI r.1.bO.ah,pI r.1.bO.aF,.str r.1.bO.ak,.own 0 0 0 r.1.bO.af.length],pI r.2]/\h=[.row 0 4 r.1.bO.af.length 24 F0])
theorem pD {p:Prop} (h:p:=by exact⟨(QV rfl),(nb rfl ⟨.i,.i,.s,.oe,⟨⟩⟩),yE,(nb rfl ⟨.i,.i,.s,.oe,⟨⟩⟩),yE,⟨⟩⟩):p:=h
theorem eW {p:Prop} (h:p:=by exact(.jH ⟨.i,.i,.s,.oe,⟨⟩⟩)):p:=h
theorem kZ {p:Prop} (h:p:=by exact⟨(ob rfl ⟨.l,.i,.i,.b,⟨⟩⟩),yE,⟨⟩⟩):p:=h
theorem mX {p:Prop} (h:p:=by exact⟨(ob rfl ⟨.l,.i,.i,.i,⟨⟩⟩),yE,⟨⟩⟩):p:=h
theorem eY {p:Prop} (h:p:=by exact⟨(nbp rfl),⟨⟩⟩):p:=h
theorem Hk {p:Prop} (h:p:=by exact⟨(QV rfl),(nb rfl ⟨.i,.i,.s,.g,⟨⟩⟩),gh,(nb rfl ⟨.i,.i,.s,.oe,⟨⟩⟩),yE,⟨⟩⟩):p:=h
theorem tz6 {p:Prop} (h:p:=by exact⟨(QV rfl),(nb rfl ⟨.i,.i,.s,(.od aSa),⟨⟩⟩),(nwd (DR.nil (D:=ae.D))),(nb rfl ⟨.i,.i,.s,.oe,⟨⟩⟩),yE,⟨⟩⟩):p:=h
theorem sJ {p:Prop} (h:p:=by exact⟨(ob rfl ⟨.s,.i,.o,.i,⟨⟩⟩),od,⟨⟩⟩):p:=h
theorem Xs {p:Prop} (h:p:=by exact⟨(QV rfl),(nb rfl ⟨.i,.i,.s,.g,⟨⟩⟩),gh,(nb rfl ⟨.i,.i,.s,.g,⟨⟩⟩),gh,⟨⟩⟩):p:=h
theorem yU {p:Prop} (h:p:=by exact(.jH ⟨.i,.i,.s,.g,⟨⟩⟩)):p:=h
theorem iB {p:Prop} (h:p:=by exact⟨.p,.p,.p,⟨⟩⟩):p:=h
theorem tK {p:Prop} (h:p:=by exact⟨(ob rfl ⟨.l,.i,.i,.b,⟨⟩⟩),⟨⟩⟩):p:=h
theorem ait {p:Prop} (h:p:=by exact⟨(QV rfl),(nb rfl ⟨.i,.i,.s,(.od aSa),⟨⟩⟩),(nwd (DR.nil (D:=ae.D))),⟨⟩⟩):p:=h
theorem auh {p:Prop} (h:p:=by exact⟨(QV rfl),(nb rfl ⟨.i,.i,.s,(.od aSa),⟨⟩⟩),(nwd (DR.nil (D:=ae.D))),(nb rfl ⟨.i,.i,.s,(.od aSa),⟨⟩⟩),(nwd (DR.nil (D:=ae.D))),⟨⟩⟩):p:=h
theorem yH {p:Prop} (h:p:=by exact⟨(ob rfl ⟨.l,.i,.i,.i,⟨⟩⟩),gh,⟨⟩⟩):p:=h
theorem yD {p:Prop} (h:p:=by exact⟨(ob rfl ⟨.l,.i,.i,.b,⟨⟩⟩),gh,⟨⟩⟩):p:=h
theorem qq {p:Prop} (h:p:=by exact⟨.p,.i,.i,.b,⟨⟩⟩):p:=h
theorem ahA {p:Prop} (h:p:=by exact⟨(QV rfl),(nb rfl ⟨.i,.i,.s,.oe,⟨⟩⟩),yE,(nb rfl ⟨.i,.i,.s,.oe,⟨⟩⟩),yE,(nb rfl ⟨.i,.i,.s,.oe,⟨⟩⟩),yE,⟨⟩⟩):p:=h
theorem HZ {p:Prop} (h:p:=by exact(.ng ⟨.jH ⟨.i,.i,.s,.i,⟨⟩⟩,.i,.i,⟨⟩⟩)):p:=h
theorem Ii {p:Prop} (h:p:=by exact⟨(QV rfl),(nb rfl ⟨.i,.i,.s,.g,⟨⟩⟩),gh,⟨⟩⟩):p:=h
theorem HM {p:Prop} (h:p:=by exact⟨(nbp rfl),(nb rfl ⟨.i,.i,.s,.ck,⟨⟩⟩),⟨⟩⟩):p:=h
theorem rV {p:Prop} (h:p:=by exact⟨oda,(nbp rfl),⟨⟩⟩):p:=h
theorem DD {p:Prop} (h:p:=by exact⟨(ob rfl ⟨.l,.i,.i,.i,⟨⟩⟩),⟨⟩⟩):p:=h
theorem Wm {p:Prop} (h:p:=by exact⟨.p,.i,.p,.p,.i,.p,.p,.p,.l,.p,.p,.p,.i,.i,.b,.b,⟨⟩⟩):p:=h
theorem xf {p:Prop} (h:p:=by exact⟨.i,.b,.b,.p,.b,⟨⟩⟩):p:=h
theorem aiu {p:Prop} (h:p:=by exact⟨(nb rfl ⟨.i,.i,.s,.oe,⟨⟩⟩),yE,(nbp rfl),(nb rfl ⟨.i,.i,.s,.oe,⟨⟩⟩),yE,⟨⟩⟩):p:=h
theorem MH {p:Prop} (h:p:=by exact⟨(ob rfl ⟨.s,.i,.o,.i,⟨⟩⟩),od,nw,⟨⟩⟩):p:=h
theorem B9 {p:Prop} (h:p:=by exact⟨(nbp rfl),(nbp rfl),⟨⟩⟩):p:=h
theorem AH {p:Prop} (h:p:=by exact⟨.p,.b,.b,.i,.b,⟨⟩⟩):p:=h
theorem aeD {p:Prop} (h:p:=by exact⟨(QV rfl),(nb rfl ⟨.i,.i,.s,.g,⟨⟩⟩),gh,(nbp rfl),⟨⟩⟩):p:=h
theorem kQ {p:Prop} (h:p:=by exact⟨nw,⟨⟩⟩):p:=h
theorem VO {p:Prop} (h:p:=by exact(.ng ⟨.jH ⟨.i,.i,.s,.g,⟨⟩⟩,.i,.i,⟨⟩⟩)):p:=h
theorem A3 {p:Prop} (h:p:=by exact⟨.b,.b,.oe,.p,⟨⟩⟩):p:=h
theorem KZ {p:Prop} (h:p:=by exact⟨.p,.i,.i,.b,.b,.i,.b,⟨⟩⟩):p:=h
theorem ql {p:Prop} (h:p:=by exact(.ng ⟨⟩)):p:=h
theorem Ba {p:Prop} (h:p:=by exact⟨.p,.b,.p,.p,⟨⟩⟩):p:=h
theorem V3 {p:Prop} (h:p:=by exact⟨(ob rfl ⟨.l,.i,.i,.i,⟨⟩⟩),dd,yE,⟨⟩⟩):p:=h
theorem sQ {p:Prop} (h:p:=by exact⟨.p,.p,⟨⟩⟩):p:=h
theorem Cl {p:Prop} (h:p:=by exact⟨.s,.o,.b,.i,⟨⟩⟩):p:=h
theorem B5 {p:Prop} (h:p:=by exact⟨(QV rfl),yE,⟨⟩⟩):p:=h
theorem KT {p:Prop} (h:p:=by exact⟨.b,.b,.oe,.p,.b,⟨⟩⟩):p:=h
theorem Ij {p:Prop} (h:p:=by exact⟨.p,.p,.p,.b,⟨⟩⟩):p:=h
theorem agI {p:Prop} (h:p:=by exact(.ng ⟨.jH ⟨.s,.i,.i,.s,.g,⟨⟩⟩,.i,⟨⟩⟩)):p:=h
theorem ZT {p:Prop} (h:p:=by exact⟨(nb rfl ⟨.s,.i,.o,.i,⟨⟩⟩),nw,⟨⟩⟩):p:=h
theorem yB {p:Prop} (h:p:=by exact⟨.b,.b,⟨⟩⟩):p:=h
theorem Dr {p:Prop} (h:p:=by exact⟨.l,.i,.i,⟨⟩⟩):p:=h
theorem VW {p:Prop} (h:p:=by exact⟨.p,.i,.i,.p,.b,.b,.b,⟨⟩⟩):p:=h
theorem Nj {p:Prop} (h:p:=by exact⟨(QV rfl),dd,yE,⟨⟩⟩):p:=h
theorem auu {p:Prop} (h:p:=by exact⟨(nb rfl ⟨.s,.i,.i,.s,.oe,⟨⟩⟩),yE,(nb rfl ⟨.s,.i,.i,.s,.oe,⟨⟩⟩),yE,⟨⟩⟩):p:=h
theorem VB {p:Prop} (h:p:=by exact⟨.p,.i,.b,.b,.i,.b,⟨⟩⟩):p:=h
theorem Hq {p:Prop} (h:p:=by exact⟨.s,.o,.i,⟨⟩⟩):p:=h
theorem ui {p:Prop} (h:p:=by exact⟨.p,⟨⟩⟩):p:=h
theorem Hx {p:Prop} (h:p:=by exact⟨.p,.i,.i,⟨⟩⟩):p:=h
theorem Dk {p:Prop} (h:p:=by exact⟨.s,.i,⟨⟩⟩):p:=h
theorem VC {p:Prop} (h:p:=by exact⟨.p,.i,.l,.i,.i,⟨⟩⟩):p:=h
theorem ag0 {p:Prop} (h:p:=by exact⟨.p,.i,.i,.b,.b,.b,.b,⟨⟩⟩):p:=h
theorem MG {p:Prop} (h:p:=by exact⟨.p,.s,.i,⟨⟩⟩):p:=h
theorem VD {p:Prop} (h:p:=by exact(.ng ⟨.i,.b,⟨⟩⟩)):p:=h
theorem Y1 {p:Prop} (h:p:=by exact⟨.p,.i,.b,.i,.b,⟨⟩⟩):p:=h
theorem HN {p:Prop} (h:p:=by exact⟨.p,.i,⟨⟩⟩):p:=h
theorem VE {p:Prop} (h:p:=by exact⟨.p,.s,.o,.i,⟨⟩⟩):p:=h
theorem VG {p:Prop} (h:p:=by exact⟨.p,.s,.i,.b,⟨⟩⟩):p:=h
theorem Wl {p:Prop} (h:p:=by exact⟨.p,.i,.p,.p,⟨⟩⟩):p:=h
theorem VQ {p:Prop} (h:p:=by exact⟨.p,.p,.i,.b,⟨⟩⟩):p:=h
theorem K6 {p:Prop} (h:p:=by exact⟨.p,.oe,⟨⟩⟩):p:=h
theorem agN {p:Prop} (h:p:=by exact⟨.i,.i,.m,.l,.i,.i,⟨⟩⟩):p:=h
theorem Ka {p:Prop} (h:p:=by exact⟨.i,.b,⟨⟩⟩):p:=h
theorem BT {p:Prop} (h:p:=by exact⟨.i,⟨⟩⟩):p:=h
theorem VJ {p:Prop} (h:p:=by exact⟨.p,.i,.oe,⟨⟩⟩):p:=h
theorem agx {p:Prop} (h:p:=by exact⟨.b,.b,.l,.i,.i,⟨⟩⟩):p:=h
theorem agY {p:Prop} (h:p:=by exact⟨.l,.b,.b,.i,.i,⟨⟩⟩):p:=h
theorem ag2 {p:Prop} (h:p:=by exact⟨.s,.i,.p,.p,.i,⟨⟩⟩):p:=h
theorem ag4 {p:Prop} (h:p:=by exact⟨.s,.o,.b,.i,.b,⟨⟩⟩):p:=h
theorem W1 {p:Prop} (h:p:=by exact⟨.p,.p,.b,⟨⟩⟩):p:=h
theorem aim {p:Prop} (h:p:=by exact⟨.p,.b,.p,.p,.b,⟨⟩⟩):p:=h
theorem VP {p:Prop} (h:p:=by exact⟨.p,.p,.i,⟨⟩⟩):p:=h
theorem agH {p:Prop} (h:p:=by exact⟨.l,.i,.i,.i,.i,⟨⟩⟩):p:=h
theorem agE {p:Prop} (h:p:=by exact⟨.p,.i,.oe,.p,⟨⟩⟩):p:=h
theorem KL {p:Prop} (h:p:=by exact⟨oda,⟨⟩⟩):p:=h
theorem XE {p:Prop} (h:p:=by exact⟨.s,.i,.i,⟨⟩⟩):p:=h
theorem HL {p:Prop} (h:p:=by exact⟨gh,⟨⟩⟩):p:=h
end Go.Am
