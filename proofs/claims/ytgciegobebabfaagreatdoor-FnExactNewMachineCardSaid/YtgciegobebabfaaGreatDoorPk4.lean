/- Texts of the proof, joined and shortened. -/
import Derived.Test.YtgciegobebabfaaGreatDoorPk3
set_option linter.unusedVariables false
set_option linter.unusedSimpArgs false
namespace Go.Am
open Go Go.RowKit
def rj (σ:Nat->Nat):PV->PV
 | .own id gen off len=>.own (σ id) gen off len
 | .bc id gen i off=>.bc (σ id) gen i off
 | .pZ id=>.pZ (σ id)
 | .vg f dp=>.vg f (yJ σ dp)
 | v=>v
def CD (σ:Nat->Nat):PV->PV
 | .agg cs=>.agg (cs.map (rj σ))
 | v=>rj σ v
def FC (σ:Nat->Nat):PV->PV
 | .kc vs=>.kc (vs.map (CD σ))
 | v=>CD σ v
def xJ (σ:Nat->Nat):au->au
 | .row g sz n e f=>.row g sz n e (λi=>(f i).map (rj σ))
 | .dead=>.dead
theorem KK {σ:Nat->Nat} {a:PV} (h:oD (rj σ a)=true):rj σ a=a:=by cases a<;>first | rfl | cases h
theorem KL {σ:Nat->Nat} {a:PV} (h:oD a=true):rj σ a=a:=by cases a<;>first | rfl | cases h
section
variable {P:Program}{T:vE}{μ μ0 μ1:Mu}{h h0 h1 hc:List au}{S S0 S1:Nat->Prop}{w w':World}{σ:Nat->Nat}
theorem W1 {pv:PV} {v:Value} (l:∀j,(∃g sz n e f,h0[j]? =some (au.row g sz n e f)/\(∃h,h1[σ j]? =some (au.row g sz n e h))/\μ1 (σ j)=μ0 j)\/(h0[j]? =some au.dead/\h1[σ j]? =some au.dead)\/h0[j]? =none)
  (c:∀b,S0 b->S1 b) (hc:dA μ0 h0 S0 w pv v):dA μ1 h1 S1 w (rj σ pv) v:=by
 have m:∀(id gen i off:Nat) (v:Value),dE μ0 h0 w id gen i off v->dE μ1 h1 w (σ id) gen i off v:=λid gen i off v hc=>by
  unfold dE at hc ⊢;obtain⟨q1,q2⟩:=hc;refine⟨q1,?_⟩;rcases l id with⟨g,sz,n,e,f,r1,⟨h,a⟩,d⟩ | ⟨r1,a⟩ | r1
  ·rw[r1]at q2;rw[a];show gen<=g/\_;rw[d];exact q2
  ·rw[a];trivial
  ·rw[r1]at q2;exact q2.elim
 cases pv with
 | own id gen off len=>
  have hc:cK μ0 h0 w id gen off len v:=hc;show cK μ1 h1 w (σ id) gen off len v;unfold cK at hc ⊢;obtain⟨q1,q2⟩:=hc;refine⟨q1,?_⟩;rcases l id with⟨g,sz,n,e,f,r1,⟨h,a⟩,d⟩ | ⟨r1,a⟩ | r1
  ·rw[r1]at q2;rw[a];show gen<=g/\_;rw[d];exact q2
  ·rw[a];trivial
  ·rw[r1]at q2;exact q2.elim
 | bc id gen i off=>exact m _ _ _ _ _ hc
 | vg f dp=>exact zx.map (O:=λid g u=>dE μ1 h1 w id g 0 0 u) (zx.mono (show uJ μ0 h0 w f dp v from hc) (λid g u hu=>m id g 0 0 u hu))
 | pZ id=>
  have hc:jq μ0 h0 w id v:=hc;show jq μ1 h1 w (σ id) v;unfold jq at hc ⊢;obtain⟨q1,q2⟩:=hc;refine⟨q1,?_⟩;rcases l id with⟨g,sz,n,e,f,r1,⟨h,a⟩,d⟩ | ⟨r1,a⟩ | r1
  ·rw[r1]at q2;rw[a];obtain⟨b,base,o,p⟩:=q2;exact⟨b,base,d.trans o,p⟩
  ·rw[a];trivial
  ·rw[r1]at q2;exact q2.elim
 | mj=>exact hc
 | aX sz n e f F=>exact hc
 | agg cs=>exact(show False from hc).elim
 | kc cs=>exact(show False from hc).elim
 | int k n=>exact bN.mono (λ_ _=>rfl) c hc
 | bool b=>exact bN.mono (λ_ _=>rfl) c hc
 | str s=>exact bN.mono (λ_ _=>rfl) c hc
 | bn=>exact bN.mono (λ_ _=>rfl) c hc
 | lJ=>exact bN.mono (λ_ _=>rfl) c hc
 | jk sz n f=>exact bN.mono (λ_ _=>rfl) c hc
 | iV cs=>exact bN.mono (λ_ _=>rfl) c hc
 | fn f=>exact bN.mono (λ_ _=>rfl) c hc
theorem kn {pv:PV} {v:Value} (a:∀pv v,dA μ0 h0 S0 w pv v->dA μ1 h1 S1 w (rj σ pv) v) (hc:mh μ0 h0 S0 w pv v):mh μ1 h1 S1 w (CD σ pv) v:=by
 cases pv with
 | agg cs=>
  obtain⟨vs,q1,q2,q3⟩:=hc;refine⟨vs,q1,by simpa using q2,λj pv hj=>?_⟩;rw[akL]at hj;cases d:cs[j]? with
  | none=>rw[d]at hj;cases hj
  | some c=>
   rw[d]at hj;injection hj with hj;subst hj;obtain⟨u,r1,g⟩:=q3 j c d;exact⟨u,r1,a _ _ g⟩
 | mj=>trivial
 | aX sz n e f F=>exact a (.aX sz n e f F) v hc
 | kc cs=>exact(show False from hc).elim
 | own id gen off len=>exact a (.own id gen off len) v hc
 | bc id gen i off=>exact a (.bc id gen i off) v hc
 | pZ id=>exact a (.pZ id) v hc
 | vg f dp=>exact a (.vg f dp) v hc
 | int k n=>exact a (.int k n) v hc
 | bool b=>exact a (.bool b) v hc
 | str s=>exact a (.str s) v hc
 | bn=>exact a .bn v hc
 | lJ=>exact a .lJ v hc
 | jk sz n f=>exact a (.jk sz n f) v hc
 | iV cs=>exact a (.iV cs) v hc
 | fn f=>exact a (.fn f) v hc
theorem W2 {pv:PV} {v:Value} (a:∀pv v,dA μ0 h0 S0 w pv v->dA μ1 h1 S1 w (rj σ pv) v) (hc:da μ0 h0 S0 w pv v):da μ1 h1 S1 w (FC σ pv) v:=by
 cases pv with
 | kc cs=>
  obtain⟨vs,q1,q2,q3⟩:=hc;refine⟨vs,q1,by simpa using q2,λj pv hj=>?_⟩;rw[akL]at hj;cases d:cs[j]? with
  | none=>rw[d]at hj;cases hj
  | some c=>
   rw[d]at hj;injection hj with hj;subst hj;obtain⟨u,r1,g⟩:=q3 j c d;exact⟨u,r1,kn a g⟩
 | agg cs=>exact kn (pv:=.agg cs) a hc
 | mj=>trivial
 | aX sz n e f F=>exact kn (pv:=.aX sz n e f F) a hc
 | own id gen off len=>exact kn (pv:=.own id gen off len) a hc
 | bc id gen i off=>exact kn (pv:=.bc id gen i off) a hc
 | pZ id=>exact kn (pv:=.pZ id) a hc
 | vg f dp=>exact kn (pv:=.vg f dp) a hc
 | int k n=>exact kn (pv:=.int k n) a hc
 | bool b=>exact kn (pv:=.bool b) a hc
 | str s=>exact kn (pv:=.str s) a hc
 | bn=>exact kn (pv:=.bn) a hc
 | lJ=>exact kn (pv:=.lJ) a hc
 | jk sz n f=>exact kn (pv:=.jk sz n f) a hc
 | iV cs=>exact kn (pv:=.iV cs) a hc
 | fn f=>exact kn (pv:=.fn f) a hc
structure Sel (σ:Nat->Nat) (m:Nat) (h:List au):Prop where
 lt:∀j,j<m->σ j<h.length
 new:∀j,m<=j->σ j=h.length+(j - m)
 inj:∀i j,i<m->j<m->σ i=σ j->i=j
theorem Sel.ajw {m:Nat} (hs:Sel σ m h) {i j:Nat} (he:σ i=σ j):i=j:=by
 rcases alm i m with hi | hi
 ·rcases alm j m with hj | hj
  ·exact hs.inj i j hi hj he
  ·have:=hs.lt i hi;have:=hs.new j hj;omega
 ·rcases alm j m with hj | hj
  ·have:=hs.lt j hj;have:=hs.new i hi;omega
  ·have:=hs.new i hi;have:=hs.new j hj;omega
structure abc (σ:Nat->Nat) (h h0 h':List au):Prop where
 Ju:∀id,(∀j,j<h0.length->σ j≠id)->h'[id]? =h[id]?
 Y1:∀j o,h0[j]? =some o->h'[σ j]? =some (xJ σ o)
 len:h.length<=h'.length
def Ig (μ:Mu) (σ:Nat->Nat) (m:Nat):Mu:=λj=>if j<m then μ (σ j)else none
open Classical in
noncomputable def W3 (μ:Mu) (σ:Nat->Nat) (m:Nat) (μ0:Mu):Mu:=λid=>if a:∃j,j<m/\σ j=id then μ0 (Classical.choose a)else μ id
theorem ZV {m:Nat} (b:∀i j,σ i=σ j->i=j) {j:Nat} (hj:j<m):W3 μ σ m μ0 (σ j)=μ0 j:=by
 have a:∃i,i<m/\σ i=σ j:=⟨j,hj,rfl⟩;unfold W3;rw[dif_pos a,b _ _ (Classical.choose_spec a).2]
theorem MI {m id:Nat} (hn:∀j,j<m->σ j≠id):W3 μ σ m μ0 id=μ id:=by
 unfold W3;rw[dif_neg];rintro⟨j,h1,h2⟩;exact hn j h1 h2
theorem iA (q:Sel σ hc.length h) (m:∀j o,hc[j]? =some o->h[σ j]? =some (xJ σ o)) {pv:PV} {v:Value} (a:dA μ h S w (rj σ pv) v):dA (Ig μ σ hc.length) hc S w pv v:=by
 have get:∀id,(∃g sz n e f,hc[id]? =some (au.row g sz n e f)/\h[σ id]? =some (xJ σ (au.row g sz n e f))/\Ig μ σ hc.length id=μ (σ id))\/(hc[id]? =some au.dead/\h[σ id]? =some au.dead)\/h[σ id]? =none:=λid=>by
  cases l:hc[id]? with
  | none=>
   refine .inr (.inr (akT ?_));have r:hc.length<=id:=List.getElem?_eq_none_iff.1 l;have:=q.new id r;omega
  | some o=>
   have t:=(As.1 l).1;cases o with
   | dead=>exact .inr (.inl ⟨rfl,m id _ l⟩)
   | row g sz n e f=>exact .inl ⟨g,sz,n,e,f,rfl,m id _ l,by unfold Ig;rw[an t]⟩
 have p:∀(id gen i off:Nat) (v:Value),dE μ h w (σ id) gen i off v->dE (Ig μ σ hc.length) hc w id gen i off v:=λid gen i off v a=>by
  unfold dE at a ⊢;obtain⟨q1,q2⟩:=a;refine⟨q1,?_⟩;rcases get id with⟨g,sz,n,e,f,r1,c,d⟩ | ⟨r1,c⟩ | r1
  ·rw[c]at q2;rw[r1];show gen<=g/\_;rw[d];exact q2
  ·rw[r1];trivial
  ·rw[r1]at q2;exact q2.elim
 cases pv with
 | own id gen off len=>
  have a:cK μ h w (σ id) gen off len v:=a;show cK _ hc w id gen off len v;unfold cK at a ⊢;obtain⟨q1,q2⟩:=a;refine⟨q1,?_⟩;rcases get id with⟨g,sz,n,e,f,r1,c,d⟩ | ⟨r1,c⟩ | r1
  ·rw[c]at q2;rw[r1];show gen<=g/\_;rw[d];exact q2
  ·rw[r1];trivial
  ·rw[r1]at q2;exact q2.elim
 | bc id gen i off=>exact p _ _ _ _ _ a
 | vg f dp=>exact zx.mono (zx.agc (show uJ μ h w f (yJ σ dp) v from a)) (λid g u hu=>p _ _ _ _ _ hu)
 | pZ id=>
  have a:jq μ h w (σ id) v:=a;show jq _ hc w id v;unfold jq at a ⊢;obtain⟨q1,q2⟩:=a;refine⟨q1,?_⟩;rcases get id with⟨g,sz,n,e,f,r1,c,d⟩ | ⟨r1,c⟩ | r1
  ·rw[c]at q2;rw[r1];obtain⟨b,base,x,y⟩:=q2;exact⟨b,base,d.trans x,y⟩
  ·rw[r1];trivial
  ·rw[r1]at q2;exact q2.elim
 | mj=>exact a
 | aX sz n e f F=>exact a
 | agg cs=>exact(show False from a).elim
 | kc cs=>exact(show False from a).elim
 | int k n=>exact a
 | bool b=>exact a
 | str s=>exact a
 | bn=>exact a
 | lJ=>exact a
 | jk sz n f=>exact a
 | iV cs=>exact a
 | fn f=>exact a
theorem Uw (c:Sel σ hc.length h) (d:∀j o,hc[j]? =some o->h[σ j]? =some (xJ σ o)) {pv:PV} {v:Value} (a:mh μ h S w (CD σ pv) v):mh (Ig μ σ hc.length) hc S w pv v:=by
 cases pv with
 | agg cs=>
  obtain⟨vs,q1,q2,q3⟩:=a;refine⟨vs,q1,by simpa using q2,λj pv hj=>?_⟩;obtain⟨u,r1,g⟩:=q3 j (rj σ pv) (by rw[akL,hj];rfl);exact⟨u,r1,iA c d g⟩
 | mj=>trivial
 | aX sz n e f F=>exact iA (μ:=μ) (S:=S) (w:=w) (pv:=.aX sz n e f F) c d a
 | kc cs=>exact(show False from a).elim
 | own id gen off len=>exact iA (μ:=μ) (S:=S) (w:=w) (pv:=.own id gen off len) c d a
 | bc id gen i off=>exact iA (μ:=μ) (S:=S) (w:=w) (pv:=.bc id gen i off) c d a
 | pZ id=>exact iA (μ:=μ) (S:=S) (w:=w) (pv:=.pZ id) c d a
 | vg f dp=>exact iA (μ:=μ) (S:=S) (w:=w) (pv:=.vg f dp) c d a
 | int k n=>exact iA (μ:=μ) (S:=S) (w:=w) (pv:=.int k n) c d a
 | bool b=>exact iA (μ:=μ) (S:=S) (w:=w) (pv:=.bool b) c d a
 | str s=>exact iA (μ:=μ) (S:=S) (w:=w) (pv:=.str s) c d a
 | bn=>exact iA (μ:=μ) (S:=S) (w:=w) (pv:=.bn) c d a
 | lJ=>exact iA (μ:=μ) (S:=S) (w:=w) (pv:=.lJ) c d a
 | jk sz n f=>exact iA (μ:=μ) (S:=S) (w:=w) (pv:=.jk sz n f) c d a
 | iV cs=>exact iA (μ:=μ) (S:=S) (w:=w) (pv:=.iV cs) c d a
 | fn f=>exact iA (μ:=μ) (S:=S) (w:=w) (pv:=.fn f) c d a
theorem W5 {c:PV} {sz n:Nat} {e:TypeId} {f:Nat->List PV} {F:Nat->Prop} (hc:rj σ c=.aX sz n e f F):c=.aX sz n e f F:=by cases c<;>first | exact hc | cases hc
theorem ZW {c:PV} (h:fI c=false):fI (rj σ c)=false:=by cases c<;>first | rfl | cases h
theorem ACall.Y1 {f:FuncId} {args tS:List PV} {R:PV->List au->Prop} (hA:ACall P f args hc R) (h:List au) (wm:Sel σ hc.length h) (G:∀j o,hc[j]? =some o->h[σ j]? =some (xJ σ o))
  (xK:tS=args.map (CD σ)) (NF:List au->List au) (a0:∀h0,hc.length<=h0.length->abc σ h h0 (NF h0)):
  ACall P f tS h (λres h'=>∃r0 h0,R r0 h0/\res=FC σ r0/\h'=NF h0):=by
 refine⟨hA.1,λw vs μ S hH B oA ha=>?_⟩;subst xK;have W4:∀i j,σ i=σ j->i=j:=λi j=>wm.ajw
 have ZX:∀b,H9 (Ig μ σ hc.length) hc b->H9 μ h b:=λb ⟨j,g,sz,n,e,f,base,q1,q2⟩=>by
  have K:=(As.1 q1).1;unfold Ig at q2;rw[an K]at q2;exact⟨σ j,g,sz,n,e,_,base,G j _ q1,q2⟩
 have Ux:∀j x y b,fg hc j x y b->fg h (σ j) x y b:=λj x y b ⟨g,sz,n,e,f,dk,n',U,f',F',q1,q2,q3,q4⟩=>⟨g,sz,n,e,_,dk,n',U,f',F',G j _ q1,q2,by
  show((f x).map (rj σ))[y]? =_;rw[akL,q3];rfl,q4⟩
 have W6:∀b,dX (Ig μ σ hc.length) hc b->dX μ h b/\True:=λb s=>by
  rcases s with s | ⟨x,y,z,s⟩
  ·exact⟨.inl (ZX b s),trivial⟩
  ·exact⟨.inr ⟨_,_,_,Ux _ _ _ _ s⟩,trivial⟩
 have a6:dT (Ig μ σ hc.length) hc S w:=λj g sz n e f hj=>by
  have K:=(As.1 hj).1;obtain⟨q1,q2⟩:=hH (σ j) _ _ _ _ _ (G j _ hj);refine⟨λi hi=>by simpa using q1 i hi,?_⟩;have hm:Ig μ σ hc.length j=μ (σ j):=by unfold Ig;rw[an K]
  rw[hm];cases L:μ (σ j)with
  | none=>rw[L]at q2;exact q2
  | some p=>
   obtain⟨b,base⟩:=p;rw[L]at q2;obtain⟨o,r1,m⟩:=q2;refine⟨o,r1,?_⟩;cases o with
   | cells cur U z=>
    obtain⟨V,x2,x3,C⟩:=m;refine⟨V,x2,x3,λi k pv hi M=>?_⟩;obtain⟨u,s1,Q⟩:=C i k (rj σ pv) hi (by rw[akL,M];rfl);refine⟨u,s1,?_⟩;cases d:fI pv with
    | false=>exact(iA wm G Q.c).k d
    | true=>
     cases pv with
     | aX tB n2 e2 f2 F2=>exact Q
     | _=>cases d
   | map es c=>
    obtain⟨V,C⟩:=m;refine⟨V,λi hi=>?_⟩;obtain⟨kp,vp,en,y1,y2,y3,y4⟩:=C i hi;refine⟨kp,vp,en,?_,y2,y3,y4⟩;have y1:(f i).map (rj σ)=[kp,vp]:=y1;generalize f i=l at y1;rcases l with _ | ⟨a,_ | ⟨b,_ | ⟨c3,l3⟩⟩⟩<;>simp at y1;obtain⟨rfl,rfl⟩:=y1;rw[KK y2,KK y3]
   | _=>exact m.elim
 have a7:yI (Ig μ σ hc.length) hc S w:=⟨λb s=>B.apart b (W6 b s).1,λb s=>B.lt b (W6 b s).1,B.slt,λi j gi Us ni ei fi gj pN nj ej fj b o o' hi hj tm rS=>by
  have a9:=(As.1 hi).1;have ZY:=(As.1 hj).1;unfold Ig at tm rS;rw[an a9]at tm;rw[an ZY]at rS;exact W4 _ _ (B.inj _ _ _ _ _ _ _ _ _ _ _ _ _ _ _ (G i _ hi) (G j _ hj) tm rS),B.known,λb s x y z d=>B.hv b (ZX b s) _ _ _ (Ux _ _ _ _ d),λb x y z x' y' z' d W=>by
  obtain⟨H,e2,N⟩:=B.hh b _ _ _ _ _ _ (Ux _ _ _ _ d) (Ux _ _ _ _ W);exact⟨W4 _ _ H,e2,N⟩⟩
 refine(hA.2 w vs _ S a6 a7 (by simpa using oA) (λj pv hj=>?_)).mono ?_
 ·obtain⟨v,q1,q2⟩:=ha j (CD σ pv) (by rw[akL,hj];rfl);exact⟨v,q1,Uw wm G q2⟩
 ·rintro e w' ⟨v,r0,h0,μ0,S0,he,hR,hv,bl,X,A⟩;have hlen:hc.length<=h0.length:=A.len;have F:=a0 h0 hlen;obtain⟨h',aa⟩:∃h',h'=NF h0:=⟨_,rfl⟩;rw[<-aa]at F;have O:∀j,j<h0.length->W3 μ σ h0.length μ0 (σ j)=μ0 j:=λj hj=>ZV W4 hj
  have inv:∀id o,h'[id]? =some o->(∃j T,σ j=id/\h0[j]? =some T/\o=xJ σ T/\W3 μ σ h0.length μ0 id=μ0 j)\/((∀j,j<h0.length->σ j≠id)/\h[id]? =some o/\W3 μ σ h0.length μ0 id=μ id):=λid o hid=>by
   by_cases d:∃j,j<h0.length/\σ j=id
   ·obtain⟨j,hj,rfl⟩:=d;have:=F.Y1 j _ (Is hj);rw[this]at hid;injection hid with hid;exact .inl ⟨j,_,rfl,Is hj,hid.symm,O j hj⟩
   ·have hn:∀j,j<h0.length->σ j≠id:=λj hj he=>d ⟨j,hj,he⟩;rw[F.Ju id hn]at hid;exact .inr ⟨hn,hid,MI hn⟩
  have apart:∀id g sz n e f b base,(∀j,j<h0.length->σ j≠id)->h[id]? =some (au.row g sz n e f)->μ id=some (b,base)->¬dX (Ig μ σ hc.length) hc b:=λid g sz n e f b base hn hid hm I=>by
   rcases I with⟨j,gj,pN,nj,ej,fj,bj,q1,q2⟩ | ⟨x,y,z,d⟩;rotate_left
   ·exact B.hv b ⟨id,g,sz,n,e,f,base,hid,hm⟩ _ _ _ (Ux _ _ _ _ d)
   have K:=(As.1 q1).1;unfold Ig at q2;rw[an K]at q2;exact hn j aol (B.inj _ _ _ _ _ _ _ _ _ _ _ _ _ _ _ (G j _ q1) hid q2 hm)
  have Ih:∀id x y b,(∀j,j<h0.length->σ j≠id)->fg h id x y b->¬dX (Ig μ σ hc.length) hc b:=λid x y b hn d I=>by
   rcases I with I | ⟨j,x',y',W⟩
   ·exact B.hv b (ZX b I) _ _ _ d
   ·obtain⟨H,_,_⟩:=B.hh b _ _ _ _ _ _ (Ux _ _ _ _ W) d;obtain⟨_,_,_,_,_,_,_,_,_,_,q1,_⟩:=W;have:=(As.1 q1).1;exact hn j aol H
  have ad:∀b,H9 (W3 μ σ h0.length μ0) h' b->H9 μ0 h0 b\/∃id g sz n e f base,(∀j,j<h0.length->σ j≠id)/\h[id]? =some (au.row g sz n e f)/\μ id=some (b,base):=λb ⟨id,g,sz,n,e,f,base,q1,q2⟩=>by
   rcases inv id _ q1 with⟨j,T,rfl,r1,m,C⟩ | ⟨r1,m,C⟩
   ·rw[C]at q2;cases T with
    | dead=>cases m
    | row g0 ZZ n0 e0 Y=>exact .inl ⟨j,g0,ZZ,n0,e0,Y,base,r1,q2⟩
   ·rw[C]at q2;exact .inr ⟨id,g,sz,n,e,f,base,r1,m,q2⟩
  have KM:∀id x y b,fg h' id x y b->(∃j,σ j=id/\fg h0 j x y b)\/((∀j,j<h0.length->σ j≠id)/\fg h id x y b):=λid x y b ⟨g,sz,n,e,f,dk,n',U,f',F',q1,q2,q3,q4⟩=>by
   rcases inv id _ q1 with⟨j,T,rfl,r1,m,C⟩ | ⟨r1,m,C⟩
   ·cases T with
    | dead=>cases m
    | row g0 ZZ n0 e0 Y=>
     injection m with H e2 N e4 e5;subst H e2 N e4 e5;rw[akL]at q3;cases d:(Y x)[y]? with
     | none=>rw[d]at q3;cases q3
     | some c=>
      rw[d]at q3;injection q3 with q3;rw[W5 q3]at d;exact .inl ⟨j,rfl,_,_,_,_,_,_,_,_,_,_,r1,q2,d,q4⟩
   ·exact .inr ⟨r1,_,_,_,_,_,_,_,_,_,_,m,q2,q3,q4⟩
  have qn:∀b,dX (W3 μ σ h0.length μ0) h' b->dX μ0 h0 b\/(dX μ h b/\¬dX (Ig μ σ hc.length) hc b):=λb s=>by
   rcases s with s | ⟨x,y,z,s⟩
   ·rcases ad b s with q | ⟨id,g,sz,n,e,f,base,q1,q2,q3⟩
    ·exact .inl (.inl q)
    ·exact .inr ⟨.inl ⟨id,g,sz,n,e,f,base,q2,q3⟩,apart id _ _ _ _ _ _ _ q1 q2 q3⟩
   ·rcases KM x y z b s with⟨j,_,q⟩ | ⟨q1,q2⟩
    ·exact .inl (.inr ⟨_,_,_,q⟩)
    ·exact .inr ⟨.inr ⟨_,_,_,q2⟩,Ih _ _ _ _ q1 q2⟩
  have mixed:∀b,dX μ0 h0 b->dX μ h b->¬dX (Ig μ σ hc.length) hc b->False:=λb q1 q2 q3=>by
   rcases A.own b q1 with r | r
   ·exact q3 r
   ·have:=B.lt b q2;omega
  have nq:Fr μ h S w (W3 μ σ h0.length μ0) h' S0 w':=by
   refine⟨F.len,λb s xH=>A.blocks b s (λE=>xH (W6 b E).1),A.sub,λb s=>?_,λb s=>?_,A.size,A.os,A.tape,A.output,λid g sz n e f hid=>?_,λid hid=>?_,λb k s iK=>?_,λid g sz n e f b base hid hm rO=>?_,λb id x y d rO=>?_⟩;rotate_right
   ·by_cases E:dX (Ig μ σ hc.length) hc b
    ·rcases E with E | ⟨j,x',y',E⟩
     ·exact absurd d (B.hv b (ZX b E) _ _ _)
     ·exact A.Bs b j x' y' E rO
    ·obtain⟨es,c,q⟩:=rO;exact⟨es,c,(A.blocks b (akw.1 q).1 E).trans q⟩
   ·rcases A.new b s with q | q | q
    ·exact .inl q
    ·exact .inr (.inl (W6 b q).1)
    ·exact .inr (.inr q)
   ·rcases qn b s with q | ⟨q,_⟩
    ·rcases A.own b q with r | r
     ·exact .inl (W6 b r).1
     ·exact .inr r
    ·exact .inl q
   ·by_cases d:∃j,j<hc.length/\σ j=id
    ·obtain⟨j,hj,rfl⟩:=d;have yK:j<h0.length:=by omega
     have J:=Is hj;have I:=G j _ J;rw[I]at hid;cases D:hc[j]with
     | dead=>rw[D]at hid;cases hid
     | row gc ag nc ec fc=>
      rw[D]at hid J;injection hid with hid;injection hid with H e2 N e4 e5;subst H e2 N e4;have hg:=A.Ia j _ _ _ _ _ J;have hs:=F.Y1 j _ (Is yK);rw[Is yK]at hg;rw[hs];cases bo:h0[j]with
      | dead=>trivial
      | row g' dk n' U f'=>
       rw[bo]at hg;refine⟨hg.1,λTd=>?_⟩;obtain⟨a1,a2,a3,a4⟩:=hg.2 Td;refine⟨?_,a2,a3,a4⟩;rw[O j yK,a1];unfold Ig;rw[an hj]
    ·have hn:∀j,j<h0.length->σ j≠id:=λj hj he=>by
      rcases alm j hc.length with h1 | h1
      ·exact d ⟨j,h1,he⟩
      ·have:=wm.new j h1;have:=(As.1 hid).1;omega
     rw[F.Ju id hn,hid];exact⟨No _,λ_=>⟨MI hn,rfl,rfl,rfl⟩⟩
   ·by_cases d:∃j,j<hc.length/\σ j=id
    ·obtain⟨j,hj,rfl⟩:=d;have yK:j<h0.length:=by omega
     have J:=Is hj;have I:=G j _ J;rw[I]at hid;cases D:hc[j]with
     | row gc ag nc ec fc=>rw[D]at hid;cases hid
     | dead=>
      rw[D]at J;have hd:=A.dead j J;exact F.Y1 j _ hd
    ·have hn:∀j,j<h0.length->σ j≠id:=λj hj he=>by
      rcases alm j hc.length with h1 | h1
      ·exact d ⟨j,h1,he⟩
      ·have:=wm.new j h1;have:=(As.1 hid).1;omega
     rw[F.Ju id hn,hid]
   ·by_cases E:dX (Ig μ σ hc.length) hc b
    ·exact A.dp b k E iK
    ·exact oE.of_same (A.blocks b iK.lt E) iK
   ·by_cases d:∃j,j<hc.length/\σ j=id
    ·obtain⟨j,hj,rfl⟩:=d;have yK:j<h0.length:=by omega
     have J:=Is hj;have I:=G j _ J;rw[I]at hid;cases D:hc[j]with
     | dead=>rw[D]at hid;cases hid
     | row gc ag nc ec fc=>
      rw[D]at hid J;have br:Ig μ σ hc.length j=some (b,base):=by unfold Ig;rw[an hj];exact hm
      obtain⟨r1,m⟩:=A.maps j _ _ _ _ _ b base J br rO;refine⟨r1,?_⟩;rcases m with m | ⟨⟨g',dk,n',U,f',m⟩,C⟩
      ·exact .inl (F.Y1 j _ m)
      ·exact .inr ⟨⟨_,_,_,_,_,F.Y1 j _ m⟩,(O j yK).trans C⟩
    ·have hn:∀j,j<h0.length->σ j≠id:=λj hj he=>by
      rcases alm j hc.length with h1 | h1
      ·exact d ⟨j,h1,he⟩
      ·have:=wm.new j h1;have:=(As.1 hid).1;omega
     obtain⟨es,c,q⟩:=rO;exact⟨⟨es,c,(A.blocks b (akw.1 q).1 (apart id _ _ _ _ _ _ _ hn hid hm)).trans q⟩,.inr ⟨⟨_,_,_,_,_,(F.Ju id hn).trans hid⟩,(MI hn).trans hm⟩⟩
  have cn:∀pv v,dA μ0 h0 S0 w' pv v->dA (W3 μ σ h0.length μ0) h' S0 w' (rj σ pv) v:=λpv v bt=>by
   refine W1 (λj=>?_) (λ_ s=>s) bt;cases E:h0[j]? with
   | none=>exact .inr (.inr rfl)
   | some o=>
    have K:=(As.1 E).1;cases o with
    | dead=>exact .inr (.inl ⟨rfl,F.Y1 j _ E⟩)
    | row g sz n e f=>exact .inl ⟨g,sz,n,e,f,rfl,⟨_,F.Y1 j _ E⟩,O j K⟩
  refine⟨v,_,h',_,S0,he,⟨r0,h0,hR,rfl,?_⟩,W2 cn hv,λid g sz n e f hid=>?_,⟨λb s hs=>?_,λb s=>?_,X.slt,?_,X.known,λb s id x y d=>?_,λb id x y ar x' y' d W=>?_⟩,nq⟩;rotate_right 2
  ·rcases ad b s with q | ⟨k,g,sz,n,e,f,base,q1,q2,q3⟩
   ·rcases KM id x y b d with⟨j,_,r⟩ | ⟨r1,m⟩
    ·exact X.hv b q _ _ _ r
    ·exact mixed b (.inl q) (.inr ⟨_,_,_,m⟩) (Ih _ _ _ _ r1 m)
   ·rcases KM id x y b d with⟨j,_,r⟩ | ⟨r1,m⟩
    ·exact mixed b (.inr ⟨_,_,_,r⟩) (.inl ⟨k,g,sz,n,e,f,base,q2,q3⟩) (apart k _ _ _ _ _ _ _ q1 q2 q3)
    ·exact B.hv b ⟨k,g,sz,n,e,f,base,q2,q3⟩ _ _ _ m
  ·rcases KM id x y b d with⟨j,rfl,r⟩ | ⟨r1,m⟩
   ·rcases KM ar x' y' b W with⟨j',rfl,t⟩ | ⟨t1,t2⟩
    ·obtain⟨H,e2,N⟩:=X.hh b _ _ _ _ _ _ r t;exact⟨by rw[H],e2,N⟩
    ·exact(mixed b (.inr ⟨_,_,_,r⟩) (.inr ⟨_,_,_,t2⟩) (Ih _ _ _ _ t1 t2)).elim
   ·rcases KM ar x' y' b W with⟨j',rfl,t⟩ | ⟨t1,t2⟩
    ·exact(mixed b (.inr ⟨_,_,_,t⟩) (.inr ⟨_,_,_,m⟩) (Ih _ _ _ _ r1 m)).elim
    ·exact B.hh b _ _ _ _ _ _ m t2
  ·exact aa
  ·rcases inv id _ hid with⟨j,T,rfl,r1,m,C⟩ | ⟨r1,m,C⟩
   ·cases T with
    | dead=>cases m
    | row g0 ZZ n0 e0 Y=>
     injection m with H e2 N e4 e5;subst H e2 N e4 e5;obtain⟨q1,q2⟩:=bl j _ _ _ _ _ r1;refine⟨λi hi=>by simpa using q1 i hi,?_⟩;rw[C];cases L:μ0 j with
     | none=>rw[L]at q2;exact q2
     | some p=>
      obtain⟨b,base⟩:=p;rw[L]at q2;obtain⟨o,s1,Q⟩:=q2;refine⟨o,s1,?_⟩;cases o with
      | cells cur U z=>
       obtain⟨V,x2,x3,s3⟩:=Q;refine⟨V,x2,x3,λi k pv hi M=>?_⟩;rw[akL]at M;cases d:(Y i)[k]? with
       | none=>rw[d]at M;cases M
       | some c=>
        rw[d]at M;injection M with M;subst M;obtain⟨u,t1,t2⟩:=s3 i k c hi d;refine⟨u,t1,?_⟩;cases ax:fI c with
        | false=>exact(cn _ _ t2.c).k (ZW ax)
        | true=>
         cases c with
         | aX tB n2 e2 f2 F2=>exact t2
         | _=>cases ax
      | map es c=>
       obtain⟨V,s3⟩:=Q;refine⟨V,λi hi=>?_⟩;obtain⟨kp,vp,en,y1,y2,y3,y4⟩:=s3 i hi;exact⟨kp,vp,en,by show(Y i).map (rj σ)=_;rw[y1];show[rj σ kp,rj σ vp]=_;rw[KL y2,KL y3],y2,y3,y4⟩
      | _=>exact Q.elim
   ·obtain⟨q1,q2⟩:=hH id _ _ _ _ _ m;refine⟨q1,?_⟩;rw[C];cases L:μ id with
    | none=>rw[L]at q2;exact q2
    | some p=>
     obtain⟨b,base⟩:=p;rw[L]at q2;obtain⟨o,s1,Q⟩:=q2;have K:b<w.heap.size:=(akw.1 s1).1
     exact⟨o,(A.blocks b K (apart id _ _ _ _ _ _ _ r1 m L)).trans s1,Q.mono (λi y pv v hi hy hr=>hr.fr nq B (λdk n' U f' F' he b2 lx=>by
      have d:fg h id i y b2:=⟨_,_,_,_,_,_,_,_,_,_,m,hi,he▸hy,lx⟩;exact A.blocks b2 (B.lt b2 (.inr ⟨_,_,_,d⟩)) (Ih _ _ _ _ r1 d)))⟩
  ·rcases qn b s with q | ⟨q1,q2⟩
   ·exact X.apart b q hs
   ·rcases A.new b hs with r | r | r
    ·exact B.apart b q1 r
    ·exact q2 r
    ·have:=B.lt b q1;omega
  ·rcases qn b s with q | ⟨q1,_⟩
   ·exact X.lt b q
   ·exact akK (B.lt b q1) A.size
  ·intro i j gi Us ni ei fi gj pN nj ej fj b o o' hi hj tm rS
   have aV:∀(i':Nat) (o1:au) (g sz n:Nat) (e:TypeId) (f:Nat->List PV) (oo:Nat) (id g2 tB n2:Nat) (e2:TypeId) (f2:Nat->List PV) (Z:Nat),h0[i']? =some (au.row g sz n e f)->μ0 i'=some (b,oo)->(∀j,j<h0.length->σ j≠id)->h[id]? =some (au.row g2 tB n2 e2 f2)->μ id=some (b,Z)->False:=
    λi' o1 g sz n e f oo id g2 tB n2 e2 f2 Z a1 a2 a3 a4 a5=>by
     exact mixed b (.inl ⟨i',g,sz,n,e,f,oo,a1,a2⟩) (.inl ⟨id,g2,tB,n2,e2,f2,Z,a4,a5⟩) (apart id _ _ _ _ _ _ _ a3 a4 a5)
   rcases inv i _ hi with⟨i0,oi,rfl,r1,m,C⟩ | ⟨r1,m,C⟩
   ·rw[C]at tm;cases oi with
    | dead=>cases m
    | row g0 ZZ n0 e0 Y=>
     rcases inv j _ hj with⟨j0,oj,rfl,t1,t2,t3⟩ | ⟨t1,t2,t3⟩
     ·rw[t3]at rS;cases oj with
      | dead=>cases t2
      | row g2 tB n2 e2 f2=>rw[X.inj i0 j0 _ _ _ _ _ _ _ _ _ _ _ _ _ r1 t1 tm rS]
     ·rw[t3]at rS;exact(aV i0 au.dead _ _ _ _ _ _ _ _ _ _ _ _ _ r1 tm t1 t2 rS).elim
   ·rw[C]at tm;rcases inv j _ hj with⟨j0,oj,rfl,t1,t2,t3⟩ | ⟨t1,t2,t3⟩
    ·rw[t3]at rS;cases oj with
     | dead=>cases t2
     | row g2 tB n2 e2 f2=>exact(aV j0 au.dead _ _ _ _ _ _ _ _ _ _ _ _ _ t1 rS r1 m tm).elim
    ·rw[t3]at rS;exact B.inj i j _ _ _ _ _ _ _ _ _ _ _ _ _ m t2 tm rS
def gX (is:List Nat) (N:Nat) (j:Nat):Nat:=match is[j]? with
 | some id=>id
 | none=>N+(j - is.length)
def mX (h:List au):List Nat->List au->List au
 | id::r,o::l=>mX (h.set id o) r l
 | _,_=>h
def vF (h:List au) (is:List Nat) (h0:List au):List au:=
 mX h is (h0.map (xJ (gX is h.length)))++(h0.drop is.length).map (xJ (gX is h.length))
theorem jH:∀(is:List Nat) (l h:List au),(mX h is l).length=h.length
 | [],[],_=>rfl
 | [],_::_,_=>rfl
 | _::_,[],_=>rfl
 | id::r,o::l,h=>by simp only[mX];rw[jH r l];simp
theorem Cf:∀(is:List Nat) (l h:List au) (id:Nat),id∉is->(mX h is l)[id]? =h[id]?
 | [],[],_,_,_=>rfl
 | [],_::_,_,_,_=>rfl
 | _::_,[],_,_,_=>rfl
 | i::r,o::l,h,id,hn=>by
  simp only[akM,not_or]at hn;simp only[mX];rw[Cf r l _ id hn.2,akQ (alJ hn.1)]
theorem Ii:∀(is:List Nat) (l h:List au) (j id:Nat) (o:au),is.Nodup->is[j]? =some id->l[j]? =some o->id<h.length->(mX h is l)[id]? =some o
 | [],_,_,_,_,_,_,h1,_,_=>by simp at h1
 | _::_,[],_,_,_,_,_,_,h2,_=>by simp at h2
 | i::r,b::l,h,j,id,o,hd,h1,h2,a=>by
  simp only[List.nodup_cons]at hd;simp only[mX];cases j with
  | zero=>
   simp at h1 h2;subst h1 h2;rw[Cf r l _ _ hd.1];simp [a]
  | succ j=>
   exact Ii r l _ j id o hd.2 aoO aoG (by simpa using a)
theorem adF (is:List Nat) (h:List au) (hd:is.Nodup) (a:∀id∈is,id<h.length):Sel (gX is h.length) is.length h where
 lt j hj:=by
  unfold gX;rw[Is hj];exact a _ (akx hj)
 new j hj:=by
  unfold gX;rw[akT hj]
 inj i j hi hj he:=by
  unfold gX at he;rw[Is hi,Is hj]at he;exact(List.getElem_inj hd).1 he
theorem W7 (is:List Nat) (h h0:List au) (hd:is.Nodup) (a:∀id∈is,id<h.length) (hle:is.length<=h0.length):abc (gX is h.length) h h0 (vF h is h0) where
 len:=by unfold vF;rw[alj,jH];omega
 Ju id hn:=by
  unfold vF;rcases alm id h.length with h1 | h1
  ·rw[akW (by rw[jH];exact h1),Cf];intro hm;obtain⟨j,hj,rfl⟩:=alq.1 hm;refine hn j aol ?_;unfold gX;rw[Is hj]
  ·rw[akN (by rw[jH];exact h1),jH,akT h1,akT];simp only[alC,amF];rcases alm (id - h.length) (h0.length - is.length)with h2 | h2
   ·refine(hn (is.length+(id - h.length)) aol ?_).elim;unfold gX;rw[akT aol];simp;omega
   ·exact h2
 Y1 j o hj:=by
  have b:=(As.1 hj).1;unfold vF;rcases alm j is.length with h1 | h1
  ·have hs:gX is h.length j=is[j]:=by unfold gX;rw[Is h1]
   have hl:=a _ (akx h1);rw[hs,akW (by rw[jH];exact hl)];exact Ii is _ h j _ _ hd (Is h1) (by rw[akL,hj];rfl) hl
  ·have hs:gX is h.length j=h.length+(j - is.length):=by unfold gX;rw[akT h1]
   rw[hs,akN (by rw[jH];omega),jH,akL,alU];rw[show is.length+(h.length+(j - is.length) - h.length)=j from by omega,hj];rfl
theorem ACall.over {f:FuncId} {args a:List PV} {R:PV->List au->Prop} (c:ACall P f args hc R) (is:List Nat) (h:List au) (hl:hc.length=is.length) (hd:is.Nodup) (b:∀id∈is,id<h.length)
  (d:∀j o,hc[j]? =some o->h[gX is h.length j]? =some (xJ (gX is h.length) o)) (e:a=args.map (CD (gX is h.length))):
  ACall P f a h (λres h'=>∃r0 h0,R r0 h0/\res=FC (gX is h.length) r0/\h'=vF h is h0):=
 c.Y1 h (by rw[hl];exact adF is h hd b) d e (vF h is) (λh0 hle=>W7 is h h0 hd b aol)
end
def look (l:List (Nat×TI)) (t:Nat):TI:=match l with
 | []=>.other
 | (k,ti)::r=>match Nat.beq t k with
  | true=>ti
  | false=>look r t
def Bf (l:List (Nat×TI)):vE:=⟨look l⟩
def kC:List Value->List PV->Bool
 | [],[]=>true
 | .int k n::r,.int c d::a=>xz k c&&n==d&&kC r a
 | .bool b::r,.bool e::a=>b==e&&kC r a
 | .string s::r,.str f::a=>s.data.toList==f&&kC r a
 | .slice none 0 0::r,.bn::a=>kC r a
 | .pointer none::r,.lJ::a=>kC r a
 | _,_=>false
def yL (P:Program) (t n:Nat):Bool:=match P.info? t with
 | some i=>Nat.beq i.size n
 | none=>false
def yf (P:Program):List Field->List (Nat×Nat×Bool)->Bool
 | [],[]=>true
 | f::r,(off,size,a)::b=>Nat.beq f.offset off&&yL P f.type size&&Nat.blt 0 size&&(match P.underlying f.type with | some d=>a==HR d | none=>false)&&yf P r b
 | _,_=>false
def MJ:Value->PV->Bool
 | .int k n,.int a c=>xz k a&&n==c
 | .bool b,.bool d=>b==d
 | .string s,.str e=>s.data.toList==e
 | _,_=>false
theorem MK {v:Value} {z:PV} (h:MJ v z=true):xA z v/\oD z=true/\storable z=true:=by
 unfold MJ at h;split at h
 ·simp only[An,alk]at h;obtain⟨h1,rfl⟩:=h;obtain rfl:=gZ h1;exact⟨rfl,rfl,rfl⟩
 ·rw[alk]at h;subst h;exact⟨rfl,rfl,rfl⟩
 ·rw[alk]at h;subst h;exact⟨rfl,rfl,rfl⟩
 ·cases h
def ur (P:Program) (t:Nat):TI->Bool
 | .int k=>(match P.underlying t with | some (.int b)=>xz k b | _=>false)&&yL P t 1
 | .bool=>(match P.underlying t with | some .bool=>true | _=>false)&&yL P t 1
 | .str=>(match P.underlying t with | some .string=>true | _=>false)&&yL P t 1
 | .ptr e=>(match P.underlying t with | some (.pointer a)=>Nat.beq e a | _=>false)&&yL P t 1
 | .slice e sz c z=>(match P.underlying t with | some (.slice a)=>Nat.beq e a | _=>false)&&yL P t 1&&Nat.blt 0 sz&&Nat.blt 0 c&&
   (match P.info? e with
    | some i=>Nat.beq i.size sz&&Nat.beq i.bytes c&&(match i.zero with | some zv=>Nat.beq zv.cells.size sz&&kC zv.cells.toList z | none=>false)
    | none=>false)
 | .struct sz fl z=>(!(E7 z)||MA P t z)&&(match P.underlying t with | some (.struct fs)=>yf P fs.toList fl | _=>false)&&
   (match P.info? t with
    | some i=>Nat.beq i.size sz&&(match i.zero with | some zv=>Nat.beq zv.cells.size sz&&kC zv.cells.toList z | none=>false)
    | none=>false)
 | .map k e z=>(match P.underlying t with | some (.map b a)=>Nat.beq k b&&Nat.beq e a | _=>false)&&yL P t 1&&(match P.info? e with
   | some i=>(match i.zero with | some zv=>MJ zv z | none=>false)
   | none=>false)
 | .other=>true
def zeroAt (P:Program) (t:Nat) (z:List PV) (n:Nat):Bool:=match P.info? t with
 | some i=>match i.zero with
  | some zv=>Nat.beq zv.cells.size n&&Nat.beq z.length n&&kC zv.cells.toList z
  | none=>false
 | none=>false
def Z0 (P:Program) (t:Nat) (ti:TI):Bool:=ur P t ti&&(match HS ti with | some z=>zeroAt P t z (qk ti) | none=>true)
theorem Ar:∀(vs:List Value) (z:List PV),kC vs z=true->vs.length=z.length/\∀(j:Nat) (u:Value),vs[j]? =some u->∃pv:PV,z[j]? =some pv/\u.oneCell'=true/\∀S w,bN S w pv u:=by
 intro vs;induction vs with
 | nil=>
  intro z d;cases z with
  | nil=>exact⟨rfl,λj u hj=>by simp at hj⟩
  | cons a r=>simp [kC]at d
 | cons v vs g=>
  intro z d;cases z with
  | nil=>cases v<;>simp [kC]at d
  | cons p z=>
   have step:∀(e:kC vs z=true) (f:v.oneCell'=true) (hp:∀S w,bN S w p v),(v::vs).length=(p::z).length/\∀(j:Nat) (u:Value),(v::vs)[j]? =some u->∃pv:PV,(p::z)[j]? =some pv/\u.oneCell'=true/\∀S w,bN S w pv u:=by
    intro e f hp;obtain⟨h1,h2⟩:=g z e;refine⟨by simp [h1],λj u hj=>?_⟩;cases j with
    | zero=>simp at hj;subst hj;exact⟨p,rfl,f,hp⟩
    | succ j=>simp at hj;obtain⟨pv,q1,q2⟩:=h2 j u hj;exact⟨pv,by simpa using q1,q2⟩
   cases v with
   | int k n=>
    cases p<;>simp [kC]at d;obtain⟨⟨h,hn⟩,d⟩:=d;have:=gZ h;subst this hn;exact step d rfl λS w=>.int _ _
   | bool b=>
    cases p<;>simp [kC]at d;obtain⟨i,d⟩:=d;subst i;exact step d rfl λS w=>.bool _
   | string s=>
    cases p<;>simp [kC]at d;obtain⟨hs,d⟩:=d;subst hs;exact step d rfl λS w=>bN.str _
   | slice a n c=>
    cases a with
    | some a=>cases p<;>simp [kC]at d
    | none=>
     cases n with
     | succ n=>cases p<;>simp [kC]at d
     | zero=>
      cases c with
      | succ c=>cases p<;>simp [kC]at d
      | zero=>
       cases p<;>simp [kC]at d;exact step d rfl λS w=>.bn
   | pointer a=>
    cases a with
    | some a=>cases p<;>simp [kC]at d
    | none=>
     cases p<;>simp [kC]at d;exact step d rfl λS w=>.lJ
   | _=>cases p<;>simp [kC]at d
theorem pG {P:Program} {t n:Nat} (h:yL P t n=true):∃i,P.info? t=some i/\i.size=n:=by
 unfold yL at h;split at h
 ·rename_i i hi;exact⟨i,hi,abF h⟩
 ·cases h
theorem Bv {P:Program}:∀(fs:List Field) (fl:List (Nat×Nat×Bool)),yf P fs fl=true->fl.length=fs.length/\
  ∀(k:Nat) (off size:Nat) (b:Bool),fl[k]? =some (off,size,b)->∃f j d,fs[k]? =some f/\f.offset=off/\P.info? f.type=some j/\j.size=size/\0<size/\P.underlying f.type=some d/\b=HR d
 | [],[],_=>⟨rfl,λk off size b a=>by simp at a⟩
 | [],_::_,h=>by simp [yf]at h
 | _::_,[],h=>by simp [yf]at h
 | f::r,(off,size,b)::g,h=>by
  simp only[yf,An]at h;obtain⟨⟨⟨⟨h1,h2⟩,h3⟩,h4⟩,h5⟩:=h;obtain⟨q1,q2⟩:=Bv r g h5;refine⟨by simp [q1],λk i c e a=>?_⟩;cases k with
  | zero=>
   simp at a;obtain⟨rfl,rfl,rfl⟩:=a;obtain⟨j,hj,l⟩:=pG h2;cases hu:P.underlying f.type with
   | none=>rw[hu]at h4;cases h4
   | some d=>
    rw[hu]at h4;exact⟨f,j,d,rfl,abF h1,hj,l,by simpa using h3,hu,by simpa using h4⟩
  | succ k=>exact q2 k i c e (by simpa using a)
theorem Pf:∀(l:List (Nat×TI)) (t:Nat) (ti:TI),look l t=ti->ti=.other\/(t,ti)∈l
 | [],t,ti,h=>.inl h.symm
 | (k,x)::r,t,ti,h=>by
  unfold look at h;split at h
  ·rename_i a;have:=abF a;subst this h;exact .inr aon
  ·rcases Pf r t ti h with h1 | h1
   ·exact .inl h1
   ·exact .inr (by simp [h1])
theorem aeB {P:Program} {l:List (Nat×TI)} (hl:l.all (λp=>Z0 P p.1 p.2)=true):fH P (Bf l):=by
 have m:∀t ti,(Bf l).get t=ti->ti≠.other->Z0 P t ti=true:=λt ti a hn=>by
  rcases Pf l t ti a with h1 | h1
  ·exact(hn h1).elim
  ·exact(akA.1 hl) _ h1
 have all:∀t ti,(Bf l).get t=ti->ti≠.other->ur P t ti=true:=λt ti a hn=>by
  have:=m t ti a hn;simp only[Z0,An]at this;exact this.1
 have zero:∀t z,HS ((Bf l).get t)=some z->∃i zv,P.info? t=some i/\i.zero=some zv/\zv.cells.size=qk ((Bf l).get t)/\z.length=qk ((Bf l).get t)/\
   ∀(j:Nat) (u:Value),zv.cells[j]? =some u->∃pv:PV,z[j]? =some pv/\u.oneCell'=true/\∀S w,bN S w pv u:=λt z c=>by
  have:=m t _ rfl (by intro h0;rw[h0]at c;cases c);simp only[Z0,An]at this;have:=this.2;rw[c]at this;simp only[zeroAt]at this;split at this
  ·rename_i i hi;split at this
   ·rename_i zv o;simp only[An]at this;obtain⟨⟨h1,h2⟩,h3⟩:=this;obtain⟨_,g⟩:=Ar _ _ h3;exact⟨i,zv,hi,o,abF h1,abF h2,λj u hj=>g j u aos⟩
   ·cases this
  ·cases this
 have one:∀t,qk ((Bf l).get t)=1->(∀sz fl z,(Bf l).get t≠.struct sz fl z)->∃i,P.info? t=some i/\i.size=1:=λt h1 h2=>by
  cases a:(Bf l).get t with
  | other=>rw[a]at h1;cases h1
  | struct sz fl z=>exact(h2 _ _ _ a).elim
  | int k=>have:=all t _ a aon;simp only[ur,An]at this;exact pG this.2
  | bool=>have:=all t _ a aon;simp only[ur,An]at this;exact pG this.2
  | str=>have:=all t _ a aon;simp only[ur,An]at this;exact pG this.2
  | ptr e=>have:=all t _ a aon;simp only[ur,An]at this;exact pG this.2
  | map k e z=>have:=all t _ a aon;simp only[ur,An]at this;exact pG this.1.2
  | slice e sz b z=>have:=all t _ a aon;simp only[ur,An]at this;exact pG this.1.1.1.2
 refine⟨λt sz fl z a c=>by
   have:=all t _ a aon;simp only[ur,An,alw,akY]at this;rcases this.1.1 with h | h
   ·rw[c]at h;cases h
   ·exact h,λt k a=>?_,λt a=>?_,λt a=>?_,λt e a=>?_,λt e sz b z a=>?_,λt k e z a=>?_,λt e sz b z a=>?_,one,zero,λt sz fl z a=>?_⟩
 ·have:=all t _ a aon;simp only[ur,An]at this;have:=this.1;split at this
  ·rename_i r hu;rw[hu,gZ this]
  ·cases this
 ·have:=all t _ a aon;simp only[ur,An]at this;have:=this.1;split at this
  ·assumption
  ·cases this
 ·have:=all t _ a aon;simp only[ur,An]at this;have:=this.1;split at this
  ·assumption
  ·cases this
 ·have:=all t _ a aon;simp only[ur,An]at this;have:=this.1;split at this
  ·rename_i q hu;rw[hu,abF this]
  ·cases this
 ·have:=all t _ a aon;simp only[ur,An]at this;obtain⟨⟨⟨⟨h1,h2⟩,h3⟩,h4⟩,h5⟩:=this;refine⟨?_,by simpa using h3,?_⟩
  ·split at h1
   ·rename_i q hu;rw[hu,abF h1]
   ·cases h1
  ·split at h5
   ·rename_i i hi;simp only[An]at h5;obtain⟨⟨q1,q2⟩,q3⟩:=h5;split at q3
    ·rename_i zv c;simp only[An]at q3;obtain⟨r1,g⟩:=Ar _ _ q3.2;have n:=abF q3.1;refine⟨i,zv,hi,abF q1,abF q2,c,n,?_,λj u hj=>g j u aos⟩;rw[<-r1,<-n];simp
    ·cases q3
   ·cases h5
 ·have:=all t _ a aon;simp only[ur,An]at this;obtain⟨⟨h1,_⟩,h3⟩:=this;refine⟨?_,?_⟩
  ·split at h1
   ·rename_i r q hu;simp only[An]at h1;rw[hu,abF h1.1,abF h1.2]
   ·cases h1
  ·split at h3
   ·rename_i i hi;split at h3
    ·rename_i zv c;exact⟨i,zv,hi,c,MK h3⟩
    ·cases h3
   ·cases h3
 ·have:=all t _ a aon;simp only[ur,An]at this;simpa using this.1.2
 ·have:=all t _ a aon;simp only[ur,An]at this;obtain⟨⟨_,h1⟩,h2⟩:=this;split at h1
  ·rename_i fs hu;obtain⟨q1,q2⟩:=Bv _ _ h1;split at h2
   ·rename_i i hi;simp only[An]at h2;obtain⟨r1,g⟩:=h2;split at g
    ·rename_i zv c;simp only[An]at g;obtain⟨s,v⟩:=Ar _ _ g.2;have n:=abF g.1;refine⟨fs,i,hu,hi,abF r1,by simpa using q1,⟨zv,c,n,by rw[<-s,<-n];simp,λj u hj=>v j u aos⟩,λk off size x y=>?_⟩;obtain⟨f,j,d,t1,t2⟩:=q2 k off size x y;exact⟨f,j,d,by simpa using t1,t2⟩
    ·cases g
   ·cases h2
  ·cases h1
section
variable {h η:List au}{k:List Nat}
theorem Fz.int_eq {a:IntKind} {n b:Int} (he:n=b):Fz h η k (.int a n) (.int a b):=by subst he;exact .int _ _
theorem Fz.Ti {b a:Bool} (he:b=a):Fz h η k (.bool b) (.bool a):=by subst he;exact .bool _
theorem Fz.W8 {s a:List UInt8} (he:s=a):Fz h η k (.str s) (.str a):=by subst he;exact .str _
theorem Fz.W9 {id g sz n off len c a:Nat} {e:TypeId} {f b:Nat->List PV} (d:id∉k) (l:h[id]? =some (au.row g sz n e f)) (h1:sz=c) (h2:len=a) (hp:∀i,i<a->(b i).all cr=true)
  (hf:∀i,i<a->zy h η k (f (off+i)) (b i)):Fz h η k (.own id g off len) (.jk c a b):=by
 subst h1 h2;exact .frz id g sz n off len e f b d l (λi hi=>(zy.get _ _ (hf i hi)).1) (λi j pv hi hj=>(akA.1 (hp i hi)) pv (akF hj)) (λi j pv m hi h1 h2 _=>(zy.get _ _ (hf i hi)).2 j pv m h1 h2)
theorem Fz.fC {cs a:List PV} (hl:zy h η k cs a):Fz h η k (.agg cs) (.agg a):=.agg _ _ (zy.get _ _ hl).1 (zy.get _ _ hl).2
theorem Fz.xL {cs a:List PV} (hl:zy h η k cs a):Fz h η k (.kc cs) (.kc a):=.kc _ _ (zy.get _ _ hl).1 (zy.get _ _ hl).2
theorem ML {α:Type} {i l:Nat} {a b:α} (c:i<l):(bif Nat.blt i l then a else b)=a:=by
 have d:Nat.blt i l=true:=by simpa using c
 rw[d];rfl
theorem RQ {α:Type} {i l:Nat} {a b:α} (d:l<=i):(bif Nat.blt i l then a else b)=b:=by
 have c:Nat.blt i l=false:=by
  cases hh:Nat.blt i l with
  | true=>
   have:i<l:=by simpa using hh
   omega
  | false=>rfl
 rw[c];rfl
end
theorem Ij {x:Int} (h1: -9223372036854775808<=x) (h2:x<=9223372036854775807):IntKind.i64.wrap x=x:=by rw[IntKind.wrap_i64];omega
theorem ACall.agf {P:Program} {f:FuncId} {args a:List PV} {R:PV->List au->Prop} (e:ACall P f a [] R) (h:List au) (g:zy h [] [] args a) (hn:a.all qo=true)
  (b:∀r0 h0,R r0 h0->Hz r0=true/\∀o∈h0,OF o):
  ACall P f args h (λres h'=>∃r0 h0,R r0 h0/\res=uN h.length r0/\h'=h++h0.map (iB h.length)):=by
 obtain⟨h1,h2⟩:=zy.get _ _ g;exact e.snap h h1 (λj pv c q1 q2=>⟨h2 j pv c q1 q2,(akA.1 hn) c (akF q2)⟩) (λr0 h0 d=>⟨(b r0 h0 d).1,λo i=>((b r0 h0 d).2 o i).p⟩)
theorem ACall.agh {P:Program} {f:FuncId} {args a:List PV} {R:PV->List au->Prop} (c:ACall P f a [] R) (h:List au) (d:zy h [] [] args a) (hn:a.all qo=true)
  (e:∀r0 h0,R r0 h0->Hz r0=true/\∀o∈h0,Bp o):
  ACall P f args h (λres h'=>∃r0 h0,R r0 h0/\res=uN h.length r0/\h'=h++h0.map (iB h.length)):=by
 obtain⟨h1,h2⟩:=zy.get _ _ d;exact c.snap h h1 (λj pv b q1 q2=>⟨h2 j pv b q1 q2,(akA.1 hn) b (akF q2)⟩) e
theorem Fz.snap {h:List au} {id g sz n off len c a:Nat} {e:TypeId} {f b:Nat->List PV} (d:h[id]? =some (au.row g sz n e f)) (h1:sz=c) (h2:len=a) (hp:∀i,i<a->(b i).all cr=true)
  (hf:∀i,i<a->zy h [] [] (f (off+i)) (b i)):Fz h [] [] (.own id g off len) (.jk c a b):=.W9 aon d h1 h2 hp hf
theorem ACall.heq {P:Program} {f:FuncId} {args:List PV} {h h2:List au} {R:PV->List au->Prop} (s:ACall P f args h R) (he:gv h2 h):ACall P f args h2 R:=by
 refine⟨s.1,λw vs μ S t u A B=>?_⟩;obtain⟨d,i⟩:=he.core ⟨t,u⟩;refine(s.2 w vs μ S d i A (λj pv hj=>?_)).mono ?_
 ·obtain⟨v,h1,h3⟩:=B j pv hj;exact⟨v,h1,he.Ur h3⟩
 ·rintro e w' ⟨v,res,h',μ',S',rfl,C,hv,l,m,a⟩;refine⟨v,res,h',μ',S',rfl,C,hv,l,m,⟨by rw[he.len];exact a.len,λb c o=>a.blocks b c (λp=>o (he.Ev p)),a.sub,λb c=>?_,λb c=>?_,a.size,a.os,a.tape,a.output,λid g sz n e f hid=>?_,λid hid=>a.dead id (he.getD hid),λb k o hc=>a.dp b k (he.owned o) hc,λid g sz n e f b base hid hm q=>?_,λb x y z p q=>a.Bs b x y z (he.hid p) q⟩⟩
  ·rcases a.new b c with h1 | h1 | h1
   ·exact .inl h1
   ·exact .inr (.inl (he.Ev h1))
   ·exact .inr (.inr h1)
  ·rcases a.own b c with h1 | h1
   ·exact .inl (he.Ev h1)
   ·exact .inr h1
  ·obtain⟨r,h1,_⟩:=he.get hid;exact a.Ia id g sz n e r h1
  ·obtain⟨r,h1,_⟩:=he.get hid;exact a.maps id g sz n e r b base h1 hm q
abbrev bZ:=List UInt8
abbrev af (x:Int):Int:=IntKind.i64.wrap x
theorem bind_some {α β:Type} {x:Option α} {f:α->Option β} {r:β} (h:(x>>=f)=some r):∃a,x=some a/\f a=some r:=by
 cases x with
 | none=>cases h
 | some a=>exact⟨a,rfl,h⟩
def idx {α:Type} [Inhabited α] (l:List α) (i:Int):Option α:=if 0<=i/\i<(l.length:Int)then some (l.getD i.toNat default)else none
def zZ (s:bZ) (i:Int):Option UInt8:=if 0<=i/\i<(s.length:Int)then some (s.getD i.toNat 0)else none
def OT (s:bZ) (lo:Int):Option bZ:=if 0<=lo/\lo<=(s.length:Int)then some (s.drop lo.toNat)else none
def lto {α:Type} (s:List α) (hi:Int):Option (List α):=if 0<=hi/\hi<=(s.length:Int)then some (s.take hi.toNat)else none
def yz (a b:bZ):Option bZ:=if a.length+b.length<=4611686018427387904 then some (a++b)else none
def qh {α:Type} (bytes:Nat) (a b:List α):Option (List α):=if(a.length+b.length)*bytes<=140737488355328 then some (a++b)else none
def qw {α:Type} [Inhabited α] (bytes:Nat) (n m:Int):Option (List α):=if 0<=n/\n<=m/\m<=4611686018427387904/\m.toNat*bytes<=140737488355328 then some (List.replicate n.toNat default)else none
def must (p:Prop) [Decidable p]:Option Unit:=if p then some ()else none
theorem ff {α:Type} {c:Prop} [Decidable c] {x r:α} (h:(if c then some x else none)=some r):c/\x=r:=by
 by_cases hc:c
 ·rw[an hc]at h;exact⟨hc,alb h⟩
 ·rw[mg hc]at h;cases h
theorem xY {p:Prop} [Decidable p] {u:Unit} (h:must p=some u):p:=(ff h).1
section
variable {α:Type}{x y r:α}
theorem abf {p:Prop} [Decidable p] (hb:decide p=true) (h:(if p then x else y)=r):x=r:=by rw[an (of_decide_eq_true hb)]at h;exact h
theorem abg {p:Prop} [Decidable p] (hb:decide p=false) (h:(if p then x else y)=r):y=r:=by rw[mg (amy hb)]at h;exact h
theorem Xa {β:Type} [BEq β] [LawfulBEq β] {a b:β} [Decidable (a=b)] (c:(a==b)=true) (h:(if a=b then x else y)=r):x=r:=by rw[an (eq_of_beq c)]at h;exact h
theorem Xb {β:Type} [BEq β] [LawfulBEq β] {a b:β} [Decidable (a=b)] (c:(a==b)=false) (h:(if a=b then x else y)=r):y=r:=by rw[mg (ne_of_beq_false c)]at h;exact h
theorem agi {β:Type} [BEq β] [LawfulBEq β] {a b:β} [Decidable (a=b)] (c:(a != b)=true) (h:(if a=b then x else y)=r):y=r:=Xb (by simpa[bne]using c) h
theorem agj {β:Type} [BEq β] [LawfulBEq β] {a b:β} [Decidable (a=b)] (c:(a != b)=false) (h:(if a=b then x else y)=r):x=r:=Xa (by simpa[bne]using c) h
theorem abh {b:Bool} (a:b=true) (h:(if b=true then x else y)=r):x=r:=by rw[an a]at h;exact h
theorem abi {b:Bool} (a:b=false) (h:(if b=true then x else y)=r):y=r:=by rw[mg (by rw[a];decide)]at h;exact h
end
theorem Xc {b:Bool} (h:(!b)=false):b=true:=by cases b<;>simp_all
theorem Xd {b:Bool} (h:(!b)=true):b=false:=by cases b<;>simp_all
theorem Xe {T F:Prop} (h:T):gu true T F:=.mk (λ_=>h) (λh=>by cases h)
theorem Xf {T F:Prop} (h:F):gu false T F:=.mk (λh=>by cases h) (λ_=>h)
theorem Uz {b:Bool} {T F:Prop} (a:b=true) (h:T):gu b T F:=.mk (λ_=>h) (λh=>by rw[a]at h;cases h)
theorem UA {b:Bool} {T F:Prop} (a:b=false) (h:F):gu b T F:=.mk (λh=>by rw[a]at h;cases h) (λ_=>h)
section
variable {α:Type}{l m:List α}{lo hi:Int}
theorem Rv (h:lto l hi=some m):0<=hi/\hi<=(l.length:Int):=(ff h).1
theorem ko {b:Nat} {q:List α} (h:qh b l m=some q):(l.length+m.length)*b<=140737488355328:=(ff h).1
theorem hU {b:Nat} {q:List α} (h:qh b l m=some q):q.length=l.length+m.length:=by rw[<-(ff h).2];simp
theorem ac6 (h:lto l hi=some m):m.length<=l.length:=by
 have h1:=(ff h).1;have h2:=(ff h).2;subst h2;rw[alR];exact Nat.min_le_right _ _
theorem Ms (h:lto l hi=some m):m.length=hi.toNat:=by
 have a:=Rv h;rw[<-(ff h).2];simp;omega
end
def row {α:Type} (c:α->List PV) (l:List α):Nat->List PV:=λi=>(l.map c).getD i []
abbrev sl {α:Type} (sz:Nat) (c:α->List PV) (l:List α):PV:=.jk sz l.length (row c l)
def cI (x:Int):List PV:=[.int .i64 x]
def adG (k:IntKind) (x:Int):List PV:=[.int k x]
def cB (x:UInt8):List PV:=[.int .u8 x.toNat]
def cT (x:Bool):List PV:=[.bool x]
def cS (x:bZ):List PV:=[.str x]
def cL {α:Type} (sz:Nat) (c:α->List PV) (x:List α):List PV:=[sl sz c x]
section
variable {α:Type}{c:α->List PV}{l m:List α}{x x':α}{i lo hi:Int}
theorem nf (x:Int):(cI x).all cr=true:=rfl
theorem UB (k:IntKind) (x:Int):(adG k x).all cr=true:=rfl
theorem Z2 (x:UInt8):(cB x).all cr=true:=rfl
theorem Z3 (x:Bool):(cT x).all cr=true:=rfl
theorem Z4 (x:bZ):(cS x).all cr=true:=rfl
theorem Z5 {β:Type} (sz:Nat) (d:β->List PV) (x:List β):(cL sz d x).all cr=true:=rfl
theorem LY (x:Int):cB (UInt8.ofNat (IntKind.u8.wrap x).toNat)=[.int .u8 (IntKind.u8.wrap x)]:=by
 have h:0<=IntKind.u8.wrap x/\IntKind.u8.wrap x<256:=by
  have:=IntKind.wrap_u8 x;omega
 unfold cB;congr 2;rw[UInt8.toNat_ofNat'];omega
theorem ow {k:Nat} (h:k<l.length):row c l k=c l[k]:=by unfold row;simp [akv,h]
theorem nr {k:Nat} (h:l[k]? =some x):row c l k=c x:=by unfold row;simp [akv,h]
theorem ns (hp:∀x,(c x).all cr=true) (k:Nat):(row c l k).all cr=true:=by
 by_cases h:k<l.length
 ·rw[ow h];exact hp _
 ·unfold row;simp [akv,akT (show l.length<=k by omega)]
theorem UC {s:bZ} {k:Nat} (h:k<s.length):row cB s k=[.int .u8 (s.getD k 0).toNat]:=by
 rw[ow h];simp [cB,akv,h]
theorem sL {s:bZ} {b:UInt8} (h:zZ s i=some b):0<=i/\i<(s.length:Int):=(ff h).1
theorem sM {s:bZ} {b:UInt8} (h:zZ s i=some b):s.getD i.toNat 0=b:=(ff h).2
theorem Wz {s t:bZ} (h:OT s lo=some t):0<=lo/\lo<=(s.length:Int):=(ff h).1
theorem WA {s t:bZ} (h:OT s lo=some t):s.drop lo.toNat=t:=(ff h).2
theorem sB {s t u:bZ} (h:yz s t=some u):s.length+t.length<=4611686018427387904:=(ff h).1
theorem sC {s t u:bZ} (h:yz s t=some u):s++t=u:=(ff h).2
theorem Z6 (h:lto l hi=some m):∀i,i<m.length->row c m i=row c l i:=λi a=>by
 have hl:=Ms h
 have hm:l[i]? =some m[i]:=by
  rw[<-Is a,<-(ff h).2,amh,an aol]
 rw[ow a,nr hm]
def Bw (c:α->List PV) (f:Nat->List PV) (off:Nat) (l:List α):Prop:=∀i,i<l.length->f (off+i)=row c l i
theorem bU:Bw c (row c l) 0 l:=λi _=>by rw[so]
theorem Uc {f:Nat->List PV} {off:Nat} (hs:Bw c f off l) (h:lto l hi=some m):Bw c f off m:=λi a=>by
 have b:=Rv h;have hl:=Ms h;rw[Z6 h i a];exact hs _ aol
theorem zL {s:bZ} {f:Nat->List PV} {off n:Nat} (hs:Bw cB f off s) (hn:s.length=n):∀i,i<n->f (off+i)=[.int .u8 (s.getD i 0).toNat]:=λi hi=>by
 subst hn;rw[hs i hi];exact UC hi
theorem iL {b:Nat} {q:List α} {f g:Nat->List PV} {off:Nat} (h:qh b l m=some q) (hf:Bw c f off l) (hg:∀i,i<m.length->g i=row c m i):
  ∀i,i<q.length->rF (bif Nat.blt i l.length then f (off+i)else g (i - l.length)) (row c q i):=λi d=>by
 have hl:=hU h;have e:q=l++m:=(ff h).2.symm;subst e;by_cases a:i<l.length
 ·rw[ML a,hf i a,ow d,ow a,alZ a];exact rF.refl _
 ·rw[RQ aol,hg _ aol,ow d,ow aol,alY aol];exact rF.refl _
theorem S4:∀i,i<m.length->row c m i=row c m i:=λ_ _=>rfl
theorem nd {f:Nat->List PV} {off:Nat} (hs:Bw c f off m):∀i,i<m.length->f (off+i)=row c m i:=hs
def CLL:List (List PV)->List (List PV)->Prop
 | [],[]=>True
 | a::l,b::r=>rF a b/\CLL l r
 | _,_=>False
theorem oP {a b lit:List PV} {l r:List (List PV)} (e:b=lit) (h:rF a lit) (t:CLL l r):CLL (a::l) (b::r):=⟨by rw[e];exact h,t⟩
theorem gE:∀{l r:List (List PV)},l=r->CLL l r
 | [],_,rfl=>trivial
 | a::l,_,rfl=>⟨rF.refl _,gE rfl⟩
theorem MM:∀{l r:List (List PV)},CLL l r->∀i,rF (l.getD i []) (r.getD i [])
 | [],[],_,i=>by simp;exact trivial
 | a::l,b::r,h,0=>h.1
 | a::l,b::r,h,i+1=>by simpa using MM h.2 i
 | [],_::_,h,_=>h.elim
 | _::_,[],h,_=>h.elim
theorem ft (c:α->List PV) (l:List α) {n:Nat} {cs:List (List PV)} (hn:n=l.length) (h:CLL cs (l.map c)):∀i,i<n->rF (cs.getD i []) (row c l i):=λi _=>MM h i
theorem oB {k n off:Nat} {a b lit:List PV} (d:k<l.length) (he:c x'=lit) (hc:rF (fJ a off b) lit):∀j,j<n->rF (bz (row c l) k (fJ a off b) j) (row c (l.set k x') j):=λj _=>by
 rw[<-he]at hc;unfold row bz;by_cases hj:j=k
 ·subst hj;simpa[akv,d]using hc
 ·have:Nat.beq j k=false:=by
   cases e:Nat.beq j k with
   | false=>rfl
   | true=>exact absurd (abF e) hj
  rw[this];simp only[cond_false,akv,akL,akQ (alJ hj)];exact rF.refl _
theorem CF {a b new:List PV} {off:Nat} {f:Nat->List PV} (h:new=fJ a off b):∀j,j<1->rF (bz f 0 (fJ a off b) j) ((λ_=>new) j):=λj hj=>by
 obtain rfl:j=0:=by omega
 subst h;exact rF.refl _
end
section
variable {α:Type} [Inhabited α] {c:α->List PV} {l m:List α} {x x':α} {i lo hi:Int}
theorem av (h:idx l i=some x):0<=i/\i<(l.length:Int):=(ff h).1
theorem Xg (h:idx l i=some x):l[i.toNat]? =some x:=by
 have a:=av h;have hl:i.toNat<l.length:=by omega
 rw[<-(ff h).2,akv,Is hl];rfl
theorem dB (h:idx l i=some x):i.toNat<l.length:=by have a:=av h;omega
theorem ao (h:idx l i=some x):row c l i.toNat=c x:=nr (Xg h)
theorem nu {b:Nat} {n k:Int} {q:List α} (h:qw b n k=some q):0<=n/\n<=k/\k<=4611686018427387904/\k.toNat*b<=140737488355328:=(ff h).1
theorem jN {b:Nat} {n k:Int} {q:List α} (h:qw b n k=some q):q.length=n.toNat:=by rw[<-(ff h).2];simp
theorem vu {b:Nat} {n k:Int} {q:List α} {z lit:List PV} (h:qw b n k=some q) (he:c default=lit) (a:rF z lit):∀i,i<q.length->rF z (row c q i):=λi d=>by
 have hl:=jN h;rw[nr (x:=default) (by rw[<-(ff h).2,amc,an aol]),he];exact a
end
section
variable {h η:List au}{k:List Nat}
theorem GC {pv:PV} (hp:cr pv=true):Fz h η k pv pv:=by
 cases pv with
 | int k n=>exact .int _ _
 | bool b=>exact .bool _
 | str s=>exact .str _
 | bn=>exact .bn
 | lJ=>exact .lJ
 | jk sz n f=>exact .jk _ _ _ _ (λ_ _=>rfl)
 | iV cs=>exact .iV _
 | fn f=>exact .fn _
 | _=>cases hp
theorem tg:∀{l:List PV},l.all cr=true->zy h η k l l
 | [],_=>trivial
 | a::l,hp=>by
  simp only[alP,An]at hp;exact⟨GC hp.1,tg hp.2⟩
theorem Xh {cs:List PV} (hp:cs.all cr=true):Fz h η k (.agg cs) (.agg cs):=.fC (tg hp)
theorem Wx {α:Type} {c:α->List PV} (hp:∀x,(c x).all cr=true) {f:Nat->List PV} {m:List α} (hs:Bw c f 0 m):∀i,i<m.length->zy h η k (f i) (row c m i):=λi hi=>by
 have h1:=hs i hi;rw[so]at h1;rw[h1];exact tg (ns hp i)
def RR (h η:List au) (k:List Nat):List (Nat×Nat)->List (Nat×Nat)->Prop
 | [],[]=>True
 | p::r,a::b=>(k[a.1]? =some p.1/\(∃sz n e f,h[p.1]? =some (au.row p.2 sz n e f))/\∃sz n e f,η[a.1]? =some (au.row a.2 sz n e f)/\0<n)/\RR h η k r b
 | _,_=>False
theorem RR.get:∀(l l':List (Nat×Nat)),RR h η k l l'->l'.length=l.length/\∀(j:Nat) (p a:Nat×Nat),l[j]? =some p->l'[j]? =some a->
  k[a.1]? =some p.1/\(∃sz n e f,h[p.1]? =some (au.row p.2 sz n e f))/\∃sz n e f,η[a.1]? =some (au.row a.2 sz n e f)/\0<n
 | [],[],_=>⟨rfl,λj p a hj _=>by simp at hj⟩
 | [],_::_,hh=>hh.elim
 | _::_,[],hh=>hh.elim
 | q::r,d::c,hh=>by
  obtain⟨h1,h2⟩:=hh;obtain⟨q1,q2⟩:=RR.get r c h2;refine⟨by simp [q1],λj p a hj b=>?_⟩;cases j with
  | zero=>
   simp at hj b;subst hj b;exact h1
  | succ j=>exact q2 j p a aos (by simpa using b)
theorem Fz.aaZ {f:Nat} {dp a:List (Nat×Nat)} (hh:RR h η k dp a):Fz h η k (.vg f dp) (.vg f a):=.vg f dp a (RR.get _ _ hh).1 (RR.get _ _ hh).2
theorem Xi {α:Type} {c:α->List PV} (hp:∀x,(c x).all cr=true) {id g sz n off:Nat} {e:TypeId} {f:Nat->List PV} {l:List α} (a:id∉k) (b:h[id]? =some (au.row g sz n e f)) (hs:Bw c f off l):
  Fz h η k (.own id g off l.length) (sl sz c l):=
 .W9 a b rfl rfl (λi hi=>ns hp i) (λi hi=>by rw[hs i hi];exact tg (ns hp i))
theorem Z7 {α:Type} {c:α->List PV} (hp:∀x,(c x).all cr=true) {id g sz n off len:Nat} {e:TypeId} {f:Nat->List PV} {l:List α} (a:id∉k) (b:h[id]? =some (au.row g sz n e f)) (hs:Bw c f off l) (hl:len=l.length):
  Fz h η k (.own id g off len) (sl sz c l):=by subst hl;exact Xi hp a b hs
end
theorem RS {α:Type} {c:α->List PV} (hp:∀x,(c x).all cr=true) (N g sz n:Nat) (e:TypeId) (l:List α):iB N (.row g sz n e (row c l))=.row g sz n e (row c l):=by
 suffices e:(λi=>(row c l i).map (tM N))=row c l by unfold iB;simp only[e]
 funext i;have h:=ns (l:=l) hp i;generalize row c l i=q at h;induction q with
 | nil=>rfl
 | cons a r b=>
  simp only[alP,An]at h;rw[akB,b h.2];cases a<;>first | rfl | cases h.1
theorem gG {α:Type} {c:α->List PV} (hp:∀x,(c x).all cr=true) (σ:Nat->Nat) (g sz n:Nat) (e:TypeId) (l:List α):xJ σ (.row g sz n e (row c l))=.row g sz n e (row c l):=by
 suffices e:(λi=>(row c l i).map (rj σ))=row c l by unfold xJ;simp only[e]
 funext i;have h:=ns (l:=l) hp i;generalize row c l i=q at h;induction q with
 | nil=>rfl
 | cons a r b=>
  simp only[alP,An]at h;rw[akB,b h.2];cases a<;>first | rfl | cases h.1
theorem ACall.agk {P:Program} {f:FuncId} {args:List PV} {r0:PV} (a:ACall P f args [] (λres h=>res=r0/\h=[])) (h:List au) (hp:args.all Pg=true) (b:∀n,uN n r0=r0):
  ACall P f args h (λres h'=>res=r0/\h'=h):=
 (a.frame h hp).mono (by rintro _ _ ⟨_,_,⟨rfl,rfl⟩,rfl,rfl⟩;exact⟨b _,by simp⟩)
theorem ACall.agl {P:Program} {f:FuncId} {args a:List PV} {r0:PV} (b:ACall P f a [] (λres h=>res=r0/\h=[])) (h:List au) (c:zy h [] [] args a) (hn:a.all qo=true) (hf:Hz r0=true) (d:∀n,uN n r0=r0):
  ACall P f args h (λres h'=>res=r0/\h'=h):=
 (b.agf h c hn (by rintro _ _ ⟨rfl,rfl⟩;exact⟨hf,by simp⟩)).mono (by rintro _ _ ⟨_,_,⟨rfl,rfl⟩,rfl,rfl⟩;exact⟨d _,by simp⟩)
section
variable {κ β:Type} [DecidableEq κ]
def jI:List (κ×β)->κ->Option β
 | [],_=>none
 | (a,b)::r,k=>if k=a then some b else jI r k
def wX (l:List (κ×β)) (k:κ) (z:β):β:=(jI l k).getD z
def yF (l:List (κ×β)) (k:κ):Bool:=(jI l k).isSome
def hZ:List (κ×β)->κ->β->List (κ×β)
 | [],k,v=>[(k,v)]
 | (a,b)::r,k,v=>if k=a then(k,v)::r else(a,b)::hZ r k v
def mc (c:κ->PV) (d:β->PV) (p:κ×β):List PV:=[c p.1,d p.2]
def scP:PV->Bool
 | .agg cs=>cs.all cr
 | v=>cr v
theorem AS {c:κ->PV} {d:β->PV} {ti:TI} (he:∀a b,pt ti (c a) (c b)=some (decide (a=b))):∀(l:List (κ×β)) (k:κ) (n:Nat),n<=l.length->(∀j,j<n->∀p,l[j]? =some p->k≠p.1)->KI ti (row (mc c d) l) n (c k):=λl k n hn h j hj=>by
 have e:j<l.length:=by omega
 refine⟨c l[j].1,d l[j].2,by rw[ow e];rfl,?_⟩;rw[he,akI (h j hj _ (Is e))]
theorem Ph:∀(l:List (κ×β)) (k:κ) (b:β),jI l k=some b->∃i,i<l.length/\l[i]? =some (k,b)/\∀j,j<i->∀p,l[j]? =some p->k≠p.1
 | [],_,_,h=>by cases h
 | (a,d)::r,k,b,h=>by
  unfold jI at h;by_cases c:k=a
  ·rw[an c]at h;obtain rfl:=alb h;subst c;exact⟨0,by simp,rfl,λj hj=>absurd hj (akG _)⟩
  ·rw[mg c]at h;obtain⟨i,h1,h2,h3⟩:=Ph r k b h;refine⟨i+1,by simpa using h1,by simpa using h2,λj hj p hp=>?_⟩;cases j with
   | zero=>simp at hp;subst hp;exact c
   | succ j=>exact h3 j aol p aoN
theorem Cg:∀(l:List (κ×β)) (k:κ),jI l k=none->∀(j:Nat) (p:κ×β),l[j]? =some p->k≠p.1
 | [],_,_,j,p,hp=>by simp at hp
 | (a,c)::r,k,h,j,p,hp=>by
  unfold jI at h;by_cases b:k=a
  ·rw[an b]at h;cases h
  ·rw[mg b]at h;cases j with
   | zero=>simp at hp;subst hp;exact b
   | succ j=>exact Cg r k h j p aoN
theorem wg {c:κ->PV} {d:β->PV} {ti:TI} (he:∀a b,pt ti (c a) (c b)=some (decide (a=b))) (l:List (κ×β)) (k:κ) (z:β):Xj ti (row (mc c d) l) l.length (c k) (d z) (d (wX l k z)) (yF l k):=by
 unfold wX yF;cases h:jI l k with
 | some b=>
  obtain⟨i,h1,h2,h3⟩:=Ph l k b h;exact .inl ⟨rfl,i,h1,AS he l k i aol h3,c k,by rw[nr h2];rfl,by rw[he,ala rfl]⟩
 | none=>exact .inr ⟨rfl,rfl,AS he l k _ (No _) (λj _ p hp=>Cg l k h j p hp)⟩
theorem KO:∀(l:List (κ×β)) (k:κ) (v:β),jI l k=none->hZ l k v=l++[(k,v)]
 | [],_,_,_=>rfl
 | (a,c)::r,k,v,h=>by
  unfold jI at h;unfold hZ;by_cases b:k=a
  ·rw[an b]at h;cases h
  ·rw[mg b]at h;rw[mg b,KO r k v h];rfl
theorem KP:∀(l:List (κ×β)) (k:κ) (v b:β),jI l k=some b->∃i,i<l.length/\l[i]? =some (k,b)/\(∀j,j<i->∀p,l[j]? =some p->k≠p.1)/\(hZ l k v).length=l.length/\(hZ l k v)[i]? =some (k,v)/\∀j,j≠i->(hZ l k v)[j]? =l[j]?
 | [],_,_,_,h=>by cases h
 | (a,d)::r,k,v,b,h=>by
  unfold jI at h;unfold hZ;by_cases c:k=a
  ·rw[an c]at h;obtain rfl:=alb h;rw[an c];subst c;exact⟨0,by simp,rfl,λj hj=>absurd hj (akG _),by simp,rfl,λj hj=>by cases j with | zero=>exact absurd rfl hj | succ j=>rfl⟩
  ·rw[mg c]at h;obtain⟨i,h1,h2,h3,h4,h5,h6⟩:=KP r k v b h;rw[mg c];refine⟨i+1,by simpa using h1,by simpa using h2,λj hj p hp=>?_,by simpa using h4,by simpa using h5,λj hj=>?_⟩
   ·cases j with
    | zero=>simp at hp;subst hp;exact c
    | succ j=>exact h3 j aol p aoN
   ·cases j with
    | zero=>rfl
    | succ j=>simpa using h6 j aol
theorem yG {c:κ->PV} {d:β->PV} {ti:TI} (he:∀a b,pt ti (c a) (c b)=some (decide (a=b))) (l:List (κ×β)) (k:κ) (v:β):agm ti (row (mc c d) l) l.length (c k) (d v) (hZ l k v).length (row (mc c d) (hZ l k v)):=by
 cases h:jI l k with
 | some b=>
  obtain⟨i,h1,h2,h3,h4,h5,h6⟩:=KP l k v b h;refine .inl ⟨i,d b,⟨h1,AS he l k i aol h3,c k,by rw[nr h2];rfl,by rw[he,ala rfl]⟩,h4,by rw[nr h5];rfl,λj hj e=>?_⟩;rw[nr (Is hj),nr ((h6 j e).trans (Is hj))]
 | none=>
  rw[KO l k v h];refine .inr ⟨AS he l k _ (No _) (λj _ p hp=>Cg l k h j p hp),by simp,?_,λj hj=>?_⟩
  ·rw[nr (x:=(k,v)) aon];rfl
  ·rw[nr (Is hj),nr (x:=l[j]) (by rw[akW hj,Is hj])]
end
theorem abj {h η:List au} {k:List Nat} {pv:PV} (hp:scP pv=true):Fz h η k pv pv:=by
 cases pv with
 | agg cs=>exact Xh hp
 | _=>exact GC hp
theorem Mv {h η:List au} {k:List Nat} {κ β:Type} {c:κ->PV} {d:β->PV} (hc:∀x,scP (c x)=true) (hd:∀x,scP (d x)=true) {l:List (κ×β)} {n:Nat}:∀i,i<n->zy h η k (row (mc c d) l i) (row (mc c d) l i):=λi _=>by
 by_cases h:i<l.length
 ·rw[ow h];exact⟨abj (hc _),abj (hd _),trivial⟩
 ·unfold row;simp [akv,akT (show l.length<=i by omega)];trivial
theorem sS (a b:bZ):pt .str (.str a) (.str b)=some (decide (a=b)):=by
 simp only[pt];have e:(a==b)=decide (a=b):=by rw[akX];simp
 rw[e]
theorem Em {α:Type} {c:α->List PV} (hf:∀x,(c x).all uj=true) {g sz:Nat} {e:TypeId} {l:List α}:OF (.row g sz l.length e (row c l)):=λi hi=>by
 rw[ow hi];exact hf _
theorem ln {a b:Nat} (h:a=b:=by first | rfl | simp):a=b:=h
class rh {α:Type} (c:α->List PV):Prop where
 pure:∀x,(c x).all cr=true
instance:rh cI:=⟨nf⟩
instance (k:IntKind):rh (adG k):=⟨UB k⟩
instance:rh cB:=⟨Z2⟩
instance:rh cT:=⟨Z3⟩
instance:rh cS:=⟨Z4⟩
instance {α:Type} (sz:Nat) (c:α->List PV):rh (cL sz c):=⟨Z5 sz c⟩
instance (a b:IntKind):rh (mc (PV.int a) (PV.int b)):=⟨λ_=>rfl⟩
instance (a:IntKind):rh (mc (PV.int a) PV.bool):=⟨λ_=>rfl⟩
instance (a:IntKind):rh (mc (PV.int a) PV.str):=⟨λ_=>rfl⟩
instance (b:IntKind):rh (mc PV.str (PV.int b)):=⟨λ_=>rfl⟩
instance:rh (mc PV.str PV.bool):=⟨λ_=>rfl⟩
instance:rh (mc PV.str PV.str):=⟨λ_=>rfl⟩
def abk {α:Type} (l:List α) (off:Nat) (s:List α):List α:=l.mapIdx λi x=>if i<off then x else if i<off+s.length then s.getD (i - off) x else x
@[simp] theorem aeA {α:Type} (l:List α) (off:Nat) (s:List α):(abk l off s).length=l.length:=by unfold abk;simp
section
variable {h η:List au}{k:List Nat}
theorem Fz.i {q:IntKind} {a b:Int} (e:a=b:=by rfl):Fz h η k (.int q a) (.int q b):=.int_eq e
theorem Fz.b {a b:Bool} (e:a=b:=by rfl):Fz h η k (.bool a) (.bool b):=.Ti e
theorem Fz.s {a b:List UInt8} (e:a=b:=by rfl):Fz h η k (.str a) (.str b):=.W8 e
theorem Fz.l {sz n:Nat} {f:Nat->List PV}:Fz h η k (.jk sz n f) (.jk sz n f):=.jk _ _ _ _ (λ_ _=>rfl)
theorem Fz.z {α:Type} {c:α->List PV} {sz:Nat}:Fz h η k .bn (sl sz c []):=.abl _ _
theorem Fz.g {id a b c:Nat} {d:TypeId} {e:Nat->List PV} (f:k[a]? =some id:=by rfl) (i:h[id]? =none:=by rfl) (hη:η[a]? =some (au.row b c 0 d e):=by rfl):Fz h η k .bn (.own a b 0 0):=.agn id a b c d e f i hη
theorem Fz.o {id a g b sz c n len:Nat} {e d:TypeId} {f i:Nat->List PV} (j:k[a]? =some id:=by rfl) (l:h[id]? =some (au.row g sz n e f):=by rfl) (hη:η[a]? =some (au.row b c len d i):=by rfl):Fz h η k (.own id g 0 len) (.own a b 0 len):=
 .own _ _ _ _ _ _ _ _ _ _ _ _ _ _ j l hη (Nat.le_of_eq (so _))
theorem Fz.ox {id a g c sz d n len b:Nat} {e i:TypeId} {f j:Nat->List PV} (hl:len=b) (l:k[a]? =some id:=by rfl) (m:h[id]? =some (au.row g sz n e f):=by rfl) (hη:η[a]? =some (au.row c d b i j):=by rfl):Fz h η k (.own id g 0 len) (.own a c 0 b):=by
 subst hl;exact Fz.o l m hη
theorem Fz.p {id a g b sz c n d off:Nat} {e i:TypeId} {f j:Nat->List PV} (l:k[a]? =some id:=by rfl) (m:h[id]? =some (au.row g sz n e f):=by rfl) (hη:η[a]? =some (au.row b c (d+1) i j):=by rfl):Fz h η k (.bc id g 0 off) (.bc a b 0 off):=
 .bc _ _ _ _ _ _ _ _ _ _ _ _ _ _ l m hη (Nat.succ_pos _)
theorem Fz.m {id a g b sz c n d:Nat} {e i:TypeId} {f j:Nat->List PV} (l:k[a]? =some id:=by rfl) (o:h[id]? =some (au.row g sz n e f):=by rfl) (hη:η[a]? =some (au.row b c d i j):=by rfl):Fz h η k (.pZ id) (.pZ a):=
 .pZ _ _ _ _ _ _ _ _ _ _ _ _ l o hη
theorem Fz.j {pv:PV}:Fz h η k pv .mj:=.mj _
theorem Fz.f {n:Nat}:Fz h η k (.fn n) (.fn n):=.fn _
theorem Fz.r {α:Type} {c:α->List PV} [rh c] {id g sz n:Nat} {e:TypeId} {l:List α} (a:h[id]? =some (au.row g sz n e (row c l)):=by rfl) (b:id∉k:=by first | decide | simp):Fz h η k (.own id g 0 l.length) (sl sz c l):=Xi rh.pure b a bU
theorem Fz.rx {α:Type} {c:α->List PV} [rh c] {id g sz n len:Nat} {e:TypeId} {l:List α} (hl:len=l.length) (a:h[id]? =some (au.row g sz n e (row c l)):=by rfl) (b:id∉k:=by first | decide | simp):Fz h η k (.own id g 0 len) (sl sz c l):=Z7 rh.pure b a bU hl
variable {m:Nat}
theorem od {α:Type} {c:α->List PV} [rh c] {id g sz:Nat} {e:TypeId} {l:List α} (a:h[id]? =some (au.row g sz l.length e (row c l)):=by rfl):AO h η k m (.row g sz l.length e (row c l)) id id:=by
 unfold AO;rw[a];exact⟨λ_=>⟨rfl,rfl⟩,rfl,.inl rfl,rfl,λi _=>tg (ns rh.pure i)⟩
theorem odx {α:Type} {c:α->List PV} [rh c] {id g sz n a:Nat} {e:TypeId} {l:List α} (b:h[id]? =some (au.row g sz n e (row c l))) (hn:a=n):AO h η k m (.row g sz a e (row c l)) id id:=by
 unfold AO;rw[b];exact⟨λ_=>⟨rfl,rfl⟩,rfl,.inl hn,rfl,λi _=>tg (ns rh.pure i)⟩
theorem ob {id g sz:Nat} {e:TypeId} {a b:List PV} (c:h[id]? =some (au.row g sz 1 e (λ_=>a))) (F:zy h η k a b):AO h η k m (.row g sz 1 e (λ_=>b)) id id:=by
 unfold AO;rw[c];exact⟨λ_=>⟨rfl,rfl⟩,rfl,.inl rfl,rfl,λi _=>F⟩
theorem nw {α:Type} {c:α->List PV} [rh c] {i id g a sz:Nat} {e:TypeId} {l:List α} (hi:Nat.ble m i=true:=by rfl) (b:h[id]? =some (au.row g sz l.length e (row c l)):=by rfl):AO h η k m (.row a sz l.length e (row c l)) i id:=by
 unfold AO;rw[b];exact⟨λh0=>absurd h0 (Nat.not_lt.2 (akS hi)),rfl,.inl rfl,rfl,λi _=>tg (ns rh.pure i)⟩
theorem Zn {α:Type} {c:α->List PV} [rh c] {i id g b sz n a:Nat} {e:TypeId} {l:List α} (d:h[id]? =some (au.row g sz n e (row c l))) (hn:a=n) (hi:Nat.ble m i=true:=by rfl):AO h η k m (.row b sz a e (row c l)) i id:=by
 unfold AO;rw[d];exact⟨λh0=>absurd h0 (Nat.not_lt.2 (akS hi)),rfl,.inl hn,rfl,λi _=>tg (ns rh.pure i)⟩
theorem nb {i id g c sz:Nat} {e:TypeId} {a b:List PV} (d:h[id]? =some (au.row g sz 1 e (λ_=>a))) (F:zy h η k a b) (hi:Nat.ble m i=true:=by rfl):AO h η k m (.row c sz 1 e (λ_=>b)) i id:=by
 unfold AO;rw[d];exact⟨λh0=>absurd h0 (Nat.not_lt.2 (akS hi)),rfl,.inl rfl,rfl,λi _=>F⟩
theorem uy {i id g b sz:Nat} {e:TypeId} {a:List PV} (c:h[id]? =some (au.row g sz 1 e (λ_=>a))) (hp:a.all cr=true:=by rfl) (hi:Nat.ble m i=true:=by rfl):AO h η k m (.row b sz 1 e (λ_=>a)) i id:=nb c (tg hp) hi
theorem Fz.ap {cs:List PV} (hp:cs.all cr=true:=by rfl):Fz h η k (.agg cs) (.agg cs):=Xh hp
theorem dd {i id:Nat}:AO h η k m .dead i id:=by unfold AO;trivial
theorem gh {i id a b:Nat} {c:TypeId} {d:Nat->List PV} (hi:Nat.ble m i=true:=by rfl) (e:h[id]? =none:=by rfl):AO h η k m (.row a b 0 c d) i id:=by
 unfold AO;rw[e];exact⟨akS hi,rfl⟩
theorem tk {env:Env} {σ:List (Nat×PV)} (k:List Nat) (he:CG h η k env σ) (hh:qe h η k m 0 η k) (hd:uO (uu η k)=true:=by rfl) (hl:Nat.ble m k.length=true:=by rfl):Dt m env h σ η:=⟨k,hd,akS hl,he,hh⟩
theorem ct {J:List (Nat×PV)->List au->Prop} {env:Env} {σ:List (Nat×PV)} (hj:J σ η) (a:Dt m env h σ η):Du m J env h:=.mk σ η a hj
theorem lg {body:(Env->List au->Prop)->Env->List au->Prop} {env:Env} {σ:List (Nat×PV)} (hj:aw m body σ η) (a:Dt m env h σ η):loopGo m body env h:=.mk σ η a hj
theorem le {body:(Env->List au->Prop)->Env->List au->Prop} {env:Env} {σ:List (Nat×PV)} (hj:aw m body σ η) (a:Dt m env h σ η):xc m body env h:=.take σ η a hj
theorem en {R:PV->List au->Prop} {vs:List PV} {res:PV} (k:List Nat) (a:R res η) (F:Fz h η k (oneOf vs) res) (hh:qe h η k m 0 η k) (hd:uO (uu η k)=true:=by rfl) (hl:Nat.ble m k.length=true:=by rfl) (hn:vs.all qo=true:=by rfl):Ends m R h vs:=by
 exact .mk hn k res η hd (akS hl) F hh a
theorem eB {a r:Bool} (hh:some a=some r):Ends 0 (λres h=>res=.bool r/\h=[]) h [.bool a]:=.mk rfl [] _ [] rfl (No _) (.Ti (alb hh)) trivial ⟨rfl,rfl⟩
theorem eI {q:IntKind} {a r:Int} (hh:some a=some r):Ends 0 (λres h=>res=.int q r/\h=[]) h [.int q a]:=.mk rfl [] _ [] rfl (No _) (.int_eq (alb hh)) trivial ⟨rfl,rfl⟩
theorem eS {a r:List UInt8} (hh:some a=some r):Ends 0 (λres h=>res=.str r/\h=[]) h [.str a]:=.mk rfl [] _ [] rfl (No _) (.W8 (alb hh)) trivial ⟨rfl,rfl⟩
end
section
variable {α:Type}{x y r:α}{T F:Prop}
theorem sD {c:Prop} [Decidable c] (h:(if c then x else y)=r) (b:decide c=true->x=r->T) (d:decide c=false->y=r->F):gu (decide c) T F:=.mk (λa=>b a (abf a h)) (λa=>d a (abg a h))
theorem sDn {c:Prop} [Decidable c] (h:(if c then x else y)=r) (b:(!decide c)=true->y=r->T) (d:(!decide c)=false->x=r->F):gu (!decide c) T F:=.mk (λa=>b a (abg (Xd a) h)) (λa=>d a (abf (Xc a) h))
theorem sE {β:Type} [BEq β] [LawfulBEq β] {a b:β} [Decidable (a=b)] (h:(if a=b then x else y)=r) (d:(a==b)=true->x=r->T) (e:(a==b)=false->y=r->F):gu (a==b) T F:=.mk (λc=>d c (Xa c h)) (λc=>e c (Xb c h))
theorem lN {β:Type} [BEq β] [LawfulBEq β] {a b:β} [Decidable (a=b)] (h:(if a=b then x else y)=r) (d:(!(a==b))=true->y=r->T) (e:(!(a==b))=false->x=r->F):gu (!(a==b)) T F:=.mk (λc=>d c (Xb (Xd c) h)) (λc=>e c (Xa (Xc c) h))
theorem sN {β:Type} [BEq β] [LawfulBEq β] {a b:β} [Decidable (a=b)] (h:(if a=b then x else y)=r) (d:(a != b)=true->y=r->T) (e:(a != b)=false->x=r->F):gu (a != b) T F:=.mk (λc=>d c (agi c h)) (λc=>e c (agj c h))
theorem sV {b:Bool} (h:(if b=true then x else y)=r) (c:b=true->x=r->T) (d:b=false->y=r->F):gu b T F:=.mk (λa=>c a (abh a h)) (λa=>d a (abi a h))
theorem fD {b:Bool} (h:(if b=true then x else y)=r) (c:(!b)=true->y=r->T) (d:(!b)=false->x=r->F):gu (!b) T F:=.mk (λa=>c a (abi (Xd a) h)) (λa=>d a (abh (Xc a) h))
end
theorem gu.t {T F:Prop} (h:T):gu true T F:=Xe h
theorem gu.f {T F:Prop} (h:F):gu false T F:=Xf h
theorem gu.kt {b:Bool} {T F:Prop} (a:b=true) (h:T):gu b T F:=Uz a h
theorem gu.kf {b:Bool} {T F:Prop} (a:b=false) (h:F):gu b T F:=UA a h
theorem Au.d {m:Nat} {A B:XQ->Env->List au->Prop} {Q:XQ} {env:Env} {h:List au} (hd:A (XQ.then (B Q) Q) env h):Au m A B Q env h:=.direct hd
inductive Nz:PV->PV->Prop
 | same (a:PV):Nz a a
 | nil (sz:Nat) (f:Nat->List PV):Nz .bn (.jk sz 0 f)
def NzL:List PV->List PV->Prop
 | [],[]=>True
 | a::l,b::r=>Nz a b/\NzL l r
 | _,_=>False
inductive NzA:PV->PV->Prop
 | same (a:PV):NzA a a
 | nil (sz:Nat) (f:Nat->List PV):NzA .bn (.jk sz 0 f)
 | agg {cs D8:List PV} (h:NzL cs D8):NzA (.agg cs) (.agg D8)
def Z8:List PV->List PV->Prop
 | [],[]=>True
 | a::l,b::r=>NzA a b/\Z8 l r
 | _,_=>False
theorem NzL.get:∀{l r:List PV},NzL l r->r.length=l.length/\∀(j:Nat) (p:PV),r[j]? =some p->∃q:PV,l[j]? =some q/\Nz q p
 | [],[],_=>⟨rfl,λj p h=>by simp at h⟩
 | a::l,b::r,h=>by
  obtain⟨h1,h2⟩:=NzL.get h.2;refine⟨by simp [h1],λj p hj=>?_⟩;cases j with
  | zero=>simp at hj;subst hj;exact⟨a,rfl,h.1⟩
  | succ j=>obtain⟨q,q1,q2⟩:=h2 j p aos;exact⟨q,by simpa using q1,q2⟩
 | [],_::_,h=>h.elim
 | _::_,[],h=>h.elim
theorem Z8.get:∀{l r:List PV},Z8 l r->r.length=l.length/\∀(j:Nat) (p:PV),r[j]? =some p->∃q:PV,l[j]? =some q/\NzA q p
 | [],[],_=>⟨rfl,λj p h=>by simp at h⟩
 | a::l,b::r,h=>by
  obtain⟨h1,h2⟩:=Z8.get h.2;refine⟨by simp [h1],λj p hj=>?_⟩;cases j with
  | zero=>simp at hj;subst hj;exact⟨a,rfl,h.1⟩
  | succ j=>obtain⟨q,q1,q2⟩:=h2 j p aos;exact⟨q,by simpa using q1,q2⟩
 | [],_::_,h=>h.elim
 | _::_,[],h=>h.elim
section
variable {P:Program}{f:FuncId}{args:List PV}{h:List au}{K:PV->List au->Prop}{r0:PV}
theorem b8 (a:ACall P f args [] (λres h=>res=r0/\h=[])) (k:K r0 h) (hp:args.all Pg=true:=by rfl) (b:∀n,uN n r0=r0:=by intro _;rfl):Bh P f args h K:=
 ⟨_,a.agk h hp b,by rintro _ _ ⟨rfl,rfl⟩;exact k⟩
theorem Vc {a:List PV} (b:ACall P f a [] (λres h=>res=r0/\h=[])) (c:zy h [] [] args a) (k:K r0 h) (hn:a.all qo=true:=by rfl) (hf:Hz r0=true:=by rfl) (d:∀n,uN n r0=r0:=by intro _;rfl):Bh P f args h K:=
 ⟨_,b.agl h c hn hf d,by rintro _ _ ⟨rfl,rfl⟩;exact k⟩
theorem shr {α:Type} {c:α->List PV} [rh c] (N g sz n:Nat) (e:TypeId) (l:List α):iB N (.row g sz n e (row c l))=.row g sz n e (row c l):=RS rh.pure N g sz n e l
theorem rer {α:Type} {c:α->List PV} [rh c] (σ:Nat->Nat) (g sz n:Nat) (e:TypeId) (l:List α):xJ σ (.row g sz n e (row c l))=.row g sz n e (row c l):=gG rh.pure σ g sz n e l
theorem Zq {h0:List au} (a:ACall P f args [] (λres h=>res=r0/\h=h0)) (r1:PV) (h1:List au) (k:K r1 h1) (e2:h++h0.map (iB h.length)=h1:=by simp only[akB,akE,shr];rfl) (b:uN h.length r0=r1:=by rfl) (hp:args.all Pg=true:=by rfl):Bh P f args h K:=
 ⟨_,a.frame h hp,by rintro _ _ ⟨_,_,⟨rfl,rfl⟩,rfl,rfl⟩;rw[b,e2];exact k⟩
def OvL (h:List au) (σ:Nat->Nat):List au->List Nat->Prop
 | [],_=>True
 | o::r,i::is=>h[i]? =some (xJ σ o)/\OvL h σ r is
 | _::_,[]=>False
theorem OvL.get {h:List au} {σ:Nat->Nat}:∀{hc:List au} {is:List Nat},OvL h σ hc is->∀(j:Nat) (o:au),hc[j]? =some o->∃i:Nat,is[j]? =some i/\h[i]? =some (xJ σ o)
 | [],_,_,j,o,hj=>by simp at hj
 | a::r,[],hh,_,_,_=>hh.elim
 | a::r,i::is,hh,0,o,hj=>by simp at hj;subst hj;exact⟨i,rfl,hh.1⟩
 | a::r,i::is,hh,j+1,o,hj=>by
  obtain⟨q,h1,h2⟩:=OvL.get hh.2 j o aos;exact⟨q,by simpa using h1,h2⟩
theorem ov {α:Type} {c:α->List PV} [rh c] {σ:Nat->Nat} {g sz n:Nat} {e:TypeId} {l:List α} {x:Option au} (a:x=some (.row g sz n e (row c l)):=by rfl):x=some (xJ σ (.row g sz n e (row c l))):=by rw[gG rh.pure];exact a
theorem ACall.Vs {hc:List au} {args a:List PV} {R:PV->List au->Prop} (b:ACall P f args hc R) (is:List Nat) (h:List au) (c:OvL h (gX is h.length) hc is) (hl:hc.length=is.length) (hd:is.Nodup) (d:is.all (λid=>Nat.blt id h.length)=true)
  (e:a=args.map (CD (gX is h.length))):ACall P f a h (λres h'=>∃r0 h0,R r0 h0/\res=FC (gX is h.length) r0/\h'=vF h is h0):=
 b.over is h hl hd (λid hid=>akS (akA.1 d id hid)) (λj o hj=>by
  obtain⟨i,h1,h2⟩:=c.get j o hj;unfold gX;rw[h1];exact h2) e
end
theorem si {α:Type} {a b:α} (h:some a=some b):a=b:=alb h
theorem bk {α β:Type} {x:Option α} {f:α->Option β} {r:β} {G:Prop} (h:(x>>=f)=some r) (k:∀a,x=some a->f a=some r->G):G:=by
 obtain⟨a,h1,h2⟩:=bind_some h;exact k a h1 h2
theorem bd {α β:Type} {x:Option α} {f:α->Option β} {r:β} (h:(x>>=f)=some r):∃a,x=some a/\f a=some r:=bind_some h
def Rd (cs:List (List PV)):Nat->List PV:=λi=>cs.getD i []
theorem Wb {n:Nat} {l r:List (List PV)} (h:CLL l r):∀i,i<n->rF (l.getD i []) (Rd r i):=λi _=>MM h i
structure DR {α:Type} (D:List PV->α->Prop) (n:Nat) (f:Nat->List PV) (l:List α):Prop where
 len:l.length=n
 at_:∀i (h:i<l.length),D (f i) l[i]
 z:∀i,n<=i->f i=[]
inductive OD1:PV->PV->Prop
 | p {a:PV} (h:cr a=true):OD1 a a
 | o {a b:PV} (h:Gi a b):OD1 a b
def wE:List PV->List PV->Prop
 | [],[]=>True
 | a::l,b::r=>OD1 a b/\wE l r
 | _,_=>False
class ET {α:Type} (D:List PV->α->Prop) (c:outParam (α->List PV)):Prop where
 frz:∀cs x,D cs x->wE cs (c x)
def mO {α:Type} (c:α->List PV):List PV->α->Prop:=λcs x=>cs=c x
theorem wE.len:∀{l r:List PV},wE l r->r.length=l.length
 | [],[],_=>rfl
 | a::l,b::r,h=>congrArg (·+1) (wE.len h.2)
 | [],_::_,h=>h.elim
 | _::_,[],h=>h.elim
theorem wE.get:∀{l r:List PV},wE l r->∀{j:Nat} {a b:PV},l[j]? =some a->r[j]? =some b->OD1 a b
 | a::l,b::r,h,0,x,y,c,hy=>by simp at c hy;subst c hy;exact h.1
 | a::l,b::r,h,j+1,x,y,c,hy=>wE.get h.2 (by simpa using c) aoV
 | [],_,h,j,x,y,c,hy=>by simp at c
 | _::_,[],h,_,_,_,_,_=>h.elim
theorem wE.pure:∀{l:List PV},l.all cr=true->wE l l
 | [],_=>trivial
 | a::l,h=>by
  simp only[alP,An]at h;exact⟨.p h.1,wE.pure h.2⟩
theorem Gi.isO {a b:PV} (h:Gi a b):fI a=true:=by cases h;rfl
theorem Gi.Tj {a b:PV} (h:Gi a b):cr b=true:=by cases h;rfl
theorem OD1.po {a b:PV} (h:OD1 a b):cr a=true\/fI a=true:=by
 cases h with
 | p h=>exact .inl h
 | o h=>exact .inr h.isO
theorem OD1.Tj {a b:PV} (h:OD1 a b):cr b=true:=by
 cases h with
 | p h=>exact h
 | o h=>exact h.Tj
theorem wE.po {l r:List PV} (h:wE l r):∀c,c∈l->cr c=true\/fI c=true:=λc hc=>by
 obtain⟨j,hj,rfl⟩:=List.getElem_of_mem hc;have hl:=h.len;exact(h.get (Is hj) (Is (show j<r.length by omega))).po
instance {α:Type} (c:α->List PV) [hp:rh c]:ET (mO c) c:=⟨λcs x h=>by
 have h:cs=c x:=h;subst h;exact wE.pure (hp.pure x)⟩
theorem RT {a:PV} (h:fI a=true):cr a=false:=by cases a<;>first | rfl | cases h
theorem Vr {σ:Nat->Nat} {a:PV} (h:cr a=true\/fI a=true):rj σ a=a:=by cases a<;>first | rfl | (rcases h with h | h<;>cases h)
theorem Xk {N:Nat} {a:PV} (h:cr a=true\/fI a=true):tM N a=a:=by cases a<;>first | rfl | (rcases h with h | h<;>cases h)
theorem Ly {g:PV->PV}:∀{l:List PV},(∀c,c∈l->g c=c)->l.map g=l
 | [],_=>rfl
 | a::l,h=>by simp only[akB];rw[h a aon,Ly (λc hc=>h c (by simp [hc]))]
section
variable {α:Type}{D:List PV->α->Prop}{c:α->List PV}{n:Nat}{f:Nat->List PV}{l:List α}
theorem lu (b:∀i (h:i<l.length),wE (f i) (c l[i])) (hl:l.length=n) (sz:Nat) (e:TypeId) (F:Nat->Prop):Gi (.aX sz n e f F) (sl sz c l):=by
 subst hl;have at_:∀i,i<l.length->wE (f i) (row c l i):=λi hi=>by rw[ow hi];exact b i hi
 refine .mk sz l.length e f (row c l) F (λi hi=>(at_ i hi).len) (λi j pv a hi h1 h2 hn=>?_) (λi j pv a hi h1 h2 hn=>?_) (λi j a hi h2=>?_)
 ·cases(at_ i hi).get h1 h2 with
  | p _=>rfl
  | o h=>rw[h.isO]at hn;cases hn
 ·cases(at_ i hi).get h1 h2 with
  | p h=>rw[RT hn]at h;cases h
  | o h=>exact h
 ·have hj:j<(f i).length:=by rw[<-(at_ i hi).len];exact(As.1 h2).1
  exact((at_ i hi).get (Is hj) h2).Tj
theorem DR.od [hc:ET D c] (d:DR D n f l):∀i (h:i<l.length),wE (f i) (c l[i]):=λi h=>hc.frz _ _ (d.at_ i h)
theorem DR.po [hc:ET D c] (d:DR D n f l):∀i,i<n->∀x,x∈f i->cr x=true\/fI x=true:=λi hi=>(d.od (c:=c) i (by rw[d.len];exact hi)).po
theorem DR.ren [hc:ET D c] (d:DR D n f l) {g:PV->PV} (hg:∀x,cr x=true\/fI x=true->g x=x):(λi=>(f i).map g)=f:=by
 funext i;by_cases hi:i<n
 ·exact Ly (λx a=>hg x (d.po (c:=c) i hi x a))
 ·rw[d.z i aol];rfl
theorem red [hc:ET D c] (d:DR D n f l) (σ:Nat->Nat) (g sz a:Nat) (e:TypeId):xJ σ (.row g sz a e f)=.row g sz a e f:=by
 show au.row g sz a e (λi=>(f i).map (rj σ))=_;rw[d.ren (c:=c) (λx=>Vr)]
theorem Ef [hc:ET D c] (d:DR D n f l) (N g sz a:Nat) (e:TypeId):iB N (.row g sz a e f)=.row g sz a e f:=by
 show au.row g sz a e (λi=>(f i).map (tM N))=_;rw[d.ren (c:=c) (λx=>Xk)]
theorem lB [hc:ET D c] (d:DR D n f l) {σ:Nat->Nat} {g sz a:Nat} {e:TypeId} {x:Option au} (b:x=some (.row g sz a e f):=by rfl):x=some (xJ σ (.row g sz a e f)):=by rw[red (c:=c) d];exact b
theorem DR.self (d:DR D n f l):DR D l.length f l:=by have h:=d.len;subst h;exact d
theorem DR.nil:DR D 0 (λ_=>[]) []:=⟨rfl,λi h=>absurd h (akG _),λ_ _=>rfl⟩
theorem DR.lZ {c:α->List PV} {l:List α}:DR (mO c) l.length (row c l) l:=⟨rfl,λi h=>ow h,λi hi=>by unfold row;simp [akv,akT (show(l.map c).length<=i by simpa using hi)]⟩
theorem DR.RP {c:α->List PV} (d:DR (mO c) n f l):f=row c l:=by
 funext i;by_cases hi:i<l.length
 ·rw[ow hi];exact d.at_ i hi
 ·rw[d.z i (by rw[<-d.len];omega),DR.lZ.z i aol]
theorem aD {f:Nat->List PV} {i:Nat} {cs:List PV}:bz f i cs i=cs:=by
 unfold bz;rw[show Nat.beq i i=true from alV i];rfl
theorem np {f:Nat->List PV} {i k:Nat} {cs:List PV} (h:k≠i):bz f i cs k=f k:=by
 unfold bz;rw[show Nat.beq k i=false from amg.2 (λq=>h (abF q))];rfl
theorem DR.set (d:DR D n f l) {i:Nat} (hi:i<l.length) {cs:List PV} {x:α} (b:D cs x):DR D n (bz f i cs) (l.set i x):=by
 refine⟨by rw[alI];exact d.len,λk a=>?_,λk a=>?_⟩
 ·rw[alI]at a;rw[List.getElem_set];by_cases h:i=k
  ·subst h;rw[an rfl,aD];exact b
  ·rw[mg h,np (alJ h)];exact d.at_ k a
 ·have:=d.len;rw[np aol];exact d.z k a
theorem DR.app (d:DR D n f l) {cs:List PV} {x:α} (b:D cs x):DR D (n+1) (bz f n cs) (l++[x]):=by
 have hl:=d.len;refine⟨by simp [hl],λk a=>?_,λk a=>?_⟩
 ·by_cases h:k=n
  ·subst h;rw[aD,alY aol];simp only[hl,alK,List.getElem_cons_zero];exact b
  ·rw[np h,alZ (by simp at a;omega)];exact d.at_ k (by simp at a;omega)
 ·rw[np aol];exact d.z k aol
theorem DR.rep {x:α} {cs:List PV} (b:D cs x) (n:Nat):DR D n (λi=>bif Nat.blt i n then cs else[]) (List.replicate n x):=
 ⟨by simp,λk a=>by
  simp only[List.length_replicate]at a;show D (bif Nat.blt k n then cs else[]) _;rw[ML a,List.getElem_replicate];exact b,λk a=>by
  show(bif Nat.blt k n then cs else[])=[];rw[RQ aol]⟩
theorem DR.idx [Inhabited α] (d:DR D n f l) {i:Int} {x:α} (h:Go.Am.idx l i=some x):D (f i.toNat) x:=by
 have h1:=Xg h;obtain⟨h2,h3⟩:=As.1 h1;rw[<-h3];exact d.at_ _ h2
theorem DR.lt [Inhabited α] (d:DR D n f l) {i:Int} {x:α} (h:Go.Am.idx l i=some x):i.toNat<n:=by rw[<-d.len];exact dB h
theorem DR.bd [Inhabited α] (d:DR D n f l) {i:Int} {x:α} (h:Go.Am.idx l i=some x):0<=i/\i<(n:Int):=by rw[<-d.len];exact av h
variable {h η:List au}{k:List Nat}{m:Nat}
theorem ago {a:PV} (hp:cr a=true\/fI a=true):Fz h η k a a:=by
 cases a<;>first | exact GC rfl | exact .aX _ _ _ _ _ | (rcases hp with hp | hp<;>cases hp)
theorem RU:∀{l:List PV},(∀c,c∈l->cr c=true\/fI c=true)->zy h η k l l
 | [],_=>trivial
 | a::l,hp=>⟨ago (hp a aon),RU (λc hc=>hp c (by simp [hc]))⟩
theorem Fz.rd [hc:ET D c] {id g sz a b:Nat} {e:TypeId} (d:DR D n f l) (hn:b=l.length:=by first | rfl | simp [*]) (m:h[id]? =some (au.row g sz a e f):=by rfl) (q:id∉k:=by first | decide | simp):Fz h η k (.own id g 0 b) (sl sz c l):=by
 subst hn;have at_:∀i,i<l.length->wE (f i) (row c l i):=λi hi=>by rw[ow hi];exact d.od (c:=c) i hi
 refine .frz id g sz a 0 l.length e f (row c l) q m (λi hi=>by rw[so];exact(at_ i hi).len) (λi j r hi h2=>?_) (λi j pv r hi h1 h2 s=>?_)
 ·have hj:j<(f i).length:=by rw[<-(at_ i hi).len];exact(As.1 h2).1
  exact((at_ i hi).get (Is hj) h2).Tj
 ·rw[so]at h1;cases(at_ i hi).get h1 h2 with
  | p h=>exact GC h
  | o h=>exact absurd h s
theorem odd [hc:ET D c] {id g sz b a:Nat} {e:TypeId} (d:DR D n f l) (hn:a=b:=by first | rfl | simp [*]) (hle:a=n:=by first | rfl | simp [*]) (j:h[id]? =some (au.row g sz b e f):=by rfl):AO h η k m (.row g sz a e f) id id:=by
 subst hn hle;unfold AO;rw[j];exact⟨λ_=>⟨rfl,rfl⟩,rfl,.inl rfl,rfl,λi hi=>RU (d.po (c:=c) i hi)⟩
theorem uE [hc:ET D c] {i id g j sz b a:Nat} {e:TypeId} (d:DR D n f l) (hn:a=b:=by first | rfl | simp [*]) (hle:a=n:=by first | rfl | simp [*]) (hi:Nat.ble m i=true:=by rfl) (o:h[id]? =some (au.row g sz b e f):=by rfl):AO h η k m (.row j sz a e f) i id:=by
 subst hn hle;unfold AO;rw[o];exact⟨λh0=>absurd h0 (Nat.not_lt.2 (akS hi)),rfl,.inl rfl,rfl,λi hi=>RU (d.po (c:=c) i hi)⟩
theorem Fz.od {id a g b sz i j c n2 d:Nat} {e l:TypeId} {f m:Nat->List PV} (h1:c=n2:=by first | rfl | simp [*]) (h2:n2=d:=by first | rfl | simp [*]) (n:k[a]? =some id:=by rfl) (o:h[id]? =some (au.row g sz j e f):=by rfl) (hη:η[a]? =some (au.row b i d l m):=by rfl):Fz h η k (.own id g 0 c) (.own a b 0 n2):=by
 subst h1 h2;exact .own _ _ _ _ _ _ _ _ _ _ _ _ _ _ n o hη (Nat.le_of_eq (so _))
theorem Cs (id:Nat) {g sz n:Nat} {e:TypeId} {f:Nat->List PV} {i d b:Nat} {l:TypeId} {m:Nat->List PV} {F:Nat->Prop} (j:Nat) (cs a:List PV) (c:Nat->List PV) (hi:i<n) (hc:f i=cs) (h1:c i=a) (o:∀k,k≠i->c k=f k)
  (hj:cs[j]? =some (.aX d b l m F):=by rfl) (hs:a=cs.set j (.own h.length 0 0 b):=by rfl) (p:h[id]? =some (.row g sz n e f):=by rfl) {h2:List au} (h3:h2=h.set id (.row g sz n e c)++[.row 0 d b l m]:=by rfl):Pj h h2:=
 ⟨id,g,sz,n,e,f,i,j,d,b,l,m,F,c,p,hi,by rw[hc];exact hj,by rw[h1,hc,hs],λk _ q=>o k q,h3⟩
theorem ahB {id sub g sz n:Nat} {e:TypeId} {f:Nat->List PV} {g2 tB n2:Nat} {e2:TypeId} {f2:Nat->List PV} {i:Nat} {j:Nat} {F:Nat->Prop} (cs a:List PV) (b:Nat->List PV) (hi:i<n) (hc:f i=cs) (h1:b i=a) (d:∀k,k≠i->b k=f k)
  (hp:∀k,k<n2->∀x,x∈f2 k->cr x=true\/fI x=true) (hj:cs[j]? =some (.own sub g2 0 n2):=by rfl) (hs:a=cs.set j (.aX tB n2 e2 f2 F):=by rfl) (l:h[id]? =some (.row g sz n e f):=by rfl) (c:h[sub]? =some (.row g2 tB n2 e2 f2):=by rfl) (m:id≠sub:=by decide)
  {h2:List au} (h3:h2=(h.set id (.row g sz n e b)).set sub .dead:=by rfl):Lz h id i j sub F h2:=
 ⟨g,sz,n,e,f,g2,tB,n2,e2,f2,b,l,c,m,hi,by rw[hc];exact hj,hp,by rw[h1,hc,hs],λk _ o=>d k o,h3⟩
theorem tE {c:α->List PV} [hp:rh c] {l:List α} {n:Nat}:∀k,k<n->∀x,x∈row c l k->cr x=true\/fI x=true:=λk _ x a=>.inl (akA.1 (ns hp.pure k) x a)
theorem kB {f:Nat->List PV} {i off n:Nat} {a b cs:List PV} (hc:rF (fJ a off b) cs):∀j,j<n->rF (bz f i (fJ a off b) j) (bz f i cs j):=λj _=>by
 by_cases h:j=i
 ·subst h;rw[aD,aD];exact hc
 ·rw[np h,np h];exact rF.refl _
theorem Ff:∀(c p b:List PV),b.length=c.length->fJ (p++b) p.length c=p++c
 | [],p,b,h=>by rw[alF h];rfl
 | v::c,p,[],h=>by simp at h
 | v::c,p,a::b,h=>by
  have e:(p++a::b).set p.length v=(p++[v])++b:=by simp
  have e2:p.length+1=(p++[v]).length:=by simp
  show fJ ((p++a::b).set p.length v) (p.length+1) c=_;rw[e,e2,Ff c (p++[v]) b aow];simp
theorem yv {f:Nat->List PV} {i n:Nat} {b a cs:List PV} (hc:rF a cs) (hl:b.length=a.length:=by rfl):∀j,j<n->rF (bz f i (fJ b 0 a) j) (bz f i cs j):=by
 have e:fJ b 0 a=a:=Ff a [] b hl;rw[e]
 exactλj _=>by
  by_cases h:j=i
  ·subst h;rw[aD,aD];exact hc
  ·rw[np h,np h];exact rF.refl _
theorem bI {f:Nat->List PV} {i off n:Nat} {a c b cs:List PV} (hc:rF (fJ a off b) cs):∀j,j<n->rF (bz (bz f i c) i (fJ a off b) j) (bz f i cs j):=λj _=>by
 by_cases h:j=i
 ·subst h;rw[aD,aD];exact hc
 ·rw[np h,np h,np h];exact rF.refl _
theorem ack {f:Nat->List PV} {i:Nat} {cs:List PV}:∀k,k≠i->bz f i cs k=f k:=λk h=>np h
theorem eK {f:Nat->List PV} {i:Nat} {cs a:List PV}:∀k,k≠i->bz f i cs k=bz f i a k:=λk h=>by rw[np h,np h]
theorem SV {f:Nat->List PV} {n N:Nat} {cs a:List PV} (b:N=n+1) (hc:rF cs a):∀i,i<N->rF (bif Nat.blt i n then f (0+i)else cs) (bz f n a i):=λi hi=>by
 subst b;by_cases h:i<n
 ·rw[ML h,np aol,so];exact rF.refl _
 ·obtain rfl:i=n:=by omega
  rw[RQ aol,aD];exact hc
theorem Ed {a:Nat} {n:Nat} {z cs:List PV} (hn:a=n) (hc:rF z cs):∀i,i<a->rF z ((λi=>bif Nat.blt i n then cs else[]) i):=λi hi=>by
 subst hn;show rF z (bif Nat.blt i a then cs else[]);rw[ML hi];exact hc
end
section
variable {P:Program}{f:FuncId}{args:List PV}{h:List au}{K R:PV->List au->Prop}
theorem Hr {hc:List au} {a:List PV} (b:ACall P f args hc R) (is:List Nat) (c:OvL h (gX is h.length) hc is)
  (k:∀r0 h0,R r0 h0->∃r1 h1,FC (gX is h.length) r0=r1/\vF h is h0=h1/\K r1 h1)
  (d:a=args.map (CD (gX is h.length)):=by rfl) (hl:hc.length=is.length:=by rfl) (hd:is.Nodup:=by decide) (e:is.all (λid=>Nat.blt id h.length)=true:=by rfl):Bh P f a h K:=
 ⟨_,b.Vs is h c hl hd e d,by
  rintro _ _ ⟨r0,h0,g,rfl,rfl⟩;obtain⟨r1,h1,rfl,rfl,i⟩:=k r0 h0 g;exact i⟩
theorem zH (a:ACall P f args [] R) (k:∀r0 h0,R r0 h0->∃r1 h1,uN h.length r0=r1/\h++h0.map (iB h.length)=h1/\K r1 h1) (hp:args.all Pg=true:=by rfl):Bh P f args h K:=
 ⟨_,a.frame h hp,by
  rintro _ _ ⟨r0,h0,b,rfl,rfl⟩;obtain⟨r1,h1,rfl,rfl,c⟩:=k r0 h0 b;exact c⟩
theorem agp {a:List PV} (b:ACall P f a [] R) (c:zy h [] [] args a) (d:∀r0 h0,R r0 h0->Hz r0=true/\∀o∈h0,Bp o) (k:∀r0 h0,R r0 h0->∃r1 h1,uN h.length r0=r1/\h++h0.map (iB h.length)=h1/\K r1 h1) (hn:a.all qo=true:=by rfl):Bh P f args h K:=
 ⟨_,b.agh h c hn d,by
  rintro _ _ ⟨r0,h0,e,rfl,rfl⟩;obtain⟨r1,h1,rfl,rfl,g⟩:=k r0 h0 e;exact g⟩
end
def kd (cs:List PV):Prop:=∀c∈cs,(fI c=false->uj c=true)/\(fI c=true->OG (λpv=>uj pv=true) c)
class Qs {α:Type} (c:α->List PV):Prop where
 fl:∀x,(c x).all uj=true
class U8 {α:Type} (D:List PV->α->Prop):Prop where
 fl:∀cs x,D cs x->kd cs
instance:Qs cI:=⟨λ_=>rfl⟩
instance (k:IntKind):Qs (adG k):=⟨λ_=>rfl⟩
instance:Qs cB:=⟨λ_=>rfl⟩
instance:Qs cT:=⟨λ_=>rfl⟩
instance:Qs cS:=⟨λ_=>rfl⟩
theorem Pk {a:PV} (h:uj a=true):fI a=false:=by cases a<;>first | rfl | cases h
theorem D7:kd []:=λc hc=>absurd hc amI
theorem gq {a:PV} {l:List PV} (t:kd l) (h:uj a=true:=by rfl):kd (a::l):=λc hc=>by
 rcases akM.1 hc with rfl | hc
 ·exact⟨λ_=>h,λq=>by rw[Pk h]at q;cases q⟩
 ·exact t c hc
theorem Re {l:List PV} (h:l.all uj=true):kd l:=λc hc=>⟨λ_=>akA.1 h c hc,λq=>by rw[Pk (akA.1 h c hc)]at q;cases q⟩
theorem agq {sz n:Nat} {e:TypeId} {f:Nat->List PV} {F:Nat->Prop} (h:∀i,i<n->kd (f i)):OG (λpv=>uj pv=true) (.aX sz n e f F):=
 .mk sz n e f F (λi j pv hi hj hn=>(h i hi pv (akF hj)).1 hn) (λi j _ _ _ _ _ hi hj=>(h i hi _ (akF hj)).2 rfl)
theorem wF {sz n:Nat} {e:TypeId} {f:Nat->List PV} {F:Nat->Prop} {l:List PV} (h:∀i,i<n->kd (f i)) (t:kd l):kd (.aX sz n e f F::l):=λc hc=>by
 rcases akM.1 hc with rfl | hc
 ·exact⟨λq=>(by cases q),λ_=>agq h⟩
 ·exact t c hc
theorem zC {α:Type} {c:α->List PV} [h:Qs c] {l:List α} {n:Nat}:∀i,i<n->kd (row c l i):=λi _=>by
 by_cases hi:i<l.length
 ·rw[ow hi];exact Re (h.fl _)
 ·rw[show row c l i=[] by unfold row;simp [akv,akT (show(l.map c).length<=i by simpa using hi)]];exact D7
instance {α:Type} (c:α->List PV) [h:Qs c]:U8 (mO c):=⟨λcs x q=>by
 have q:cs=c x:=q;subst q;exact Re (h.fl x)⟩
theorem DR.flp {α:Type} {D:List PV->α->Prop} [hf:U8 D] {n:Nat} {f:Nat->List PV} {l:List α} (d:DR D n f l) {g sz:Nat} {e:TypeId}:Bp (.row g sz n e f):=λi hi=>hf.fl _ _ (d.at_ i (by rw[d.len];exact hi))
theorem acA:∀o∈([]:List au),Bp o:=λ_ h=>absurd h amI
theorem vb {a:au} {l:List au} (h1:Bp a) (h2:∀o∈l,Bp o):∀o∈a::l,Bp o:=λo h=>by
 rcases akM.1 h with rfl | h
 ·exact h1
 ·exact h2 o h
theorem SU {cs:List PV}:∀i,i<1->rF ([cs].getD i []) ((λ_=>cs) i):=λi hi=>by
 obtain rfl:i=0:=by omega
 exact rF.refl _
theorem Pl:∀{l:List PV},l.all cr=true->noO l=true
 | [],_=>rfl
 | a::l,h=>by
  simp only[alP,An]at h;have:=Pl h.2;cases a<;>first | exact this | (have h1:=h.1;cases h1)
theorem rn {α:Type} {c:α->List PV} [hp:rh c] {f:Nat->List PV} {off:Nat} {l:List α} (hs:Bw c f off l):∀i,i<l.length->noO (f (off+i))=true:=λi hi=>by
 rw[hs i hi];exact Pl (ns hp.pure i)
section
variable {α:Type}{D:List PV->α->Prop}{n:Nat}{f:Nat->List PV}{l q:List α}{x:α}{b:Nat}
theorem Pm (h:qh b l [x]=some q):l++[x]=q:=(ff h).2
theorem DR.ae8 (d:DR D n f l) (h:qh b l [x]=some q) {cs:List PV} (a:D cs x):DR D q.length (bz f n cs) q:=by
 have h1:=Pm h;subst h1;exact(d.app a).self
theorem DR.ln (d:DR D n f l) (h:qh b l [x]=some q):q.length=n+1:=by
 have h1:=Pm h;subst h1;simp [d.len]
theorem DR.lq (d:DR D n f l) (h:qh b l [x]=some q):n<q.length:=by rw[d.ln h];exact amH n
theorem DR.lbd (d:DR D n f l) (h:qh b l [x]=some q):(n+1)*b<=140737488355328:=by
 have h1:=ko h;rw[d.len]at h1;exact h1
theorem xN [Inhabited α] {b:Nat} {i j:Int} (h:qw b i j=some l) {cs:List PV} (a:D cs default):DR D l.length (λi=>bif Nat.blt i l.length then cs else[]) l:=by
 have h1:=(ff h).2;subst h1;have:=DR.rep a i.toNat
 simpa using this
theorem DR.afj:DR D 0 (Rd []) []:=⟨rfl,λi h=>absurd h (akG _),λ_ _=>rfl⟩
theorem DR.afi {cs:List PV} {l':List (List PV)} (a:D cs x) (d:DR D n (Rd l') l):DR D (n+1) (Rd (cs::l')) (x::l):=
 ⟨by simp [d.len],λi h=>by
  cases i with
  | zero=>exact a
  | succ i=>exact d.at_ i aow,λi hi=>by
  cases i with
  | zero=>omega
  | succ i=>exact d.z i aol⟩
end
theorem ib {α:Type} {c:α->List PV} [hp:rh c] {l:List α} {n:Nat} (hl:l.length=n) (sz:Nat) (e:TypeId) (F:Nat->Prop):Gi (.aX sz n e (row c l) F) (sl sz c l):=
 lu (λi hi=>by rw[ow hi];exact wE.pure (hp.pure _)) hl sz e F
end Go.Am
