/- Texts of the proof, joined and shortened. -/
import Derived.Test.YtiigfbapjeefbaaGreatDoorPk3
import Derived.Test.YtiigfbapjeefbaaGreatDoorProg
set_option linter.unusedVariables false
set_option linter.unusedSimpArgs false
namespace Go.Am
open Go Go.RowKit
def kV (σ:Nat->Nat):PV->PV
 | .own id gen off len=>.own (σ id) gen off len
 | .aC id gen i off=>.aC (σ id) gen i off
 | .oL id=>.oL (σ id)
 | .qE f cH=>.qE f (te σ cH)
 | v=>v
def tf (σ:Nat->Nat):PV->PV
 | .agg cs=>.agg (cs.map (kV σ))
 | v=>kV σ v
def vd (σ:Nat->Nat):PV->PV
 | .fv vs=>.fv (vs.map (tf σ))
 | v=>tf σ v
def r8 (σ:Nat->Nat):ak->ak
 | .row g sz n e f=>.row g sz n e (λi=>(f i).map (kV σ))
 | .dead=>.dead
theorem Fh {σ:Nat->Nat} {a:PV} (h:ko (kV σ a)=true):kV σ a=a:=by cases a<;>first | rfl | cases h
theorem Fi {σ:Nat->Nat} {a:PV} (h:ko a=true):kV σ a=a:=by cases a<;>first | rfl | cases h
section
variable {P:Program} {T:o9} {μ μ0 μ1:Mu} {h h0 h1 hc:List ak} {S S0 S1:Nat->Prop} {w w':World} {σ:Nat->Nat}
theorem Zn {pv:PV} {v:Value} (gT:∀j,(∃g sz n e f,h0[j]? =some (ak.row g sz n e f)/\(∃f',h1[σ j]? =some (ak.row g sz n e f'))/\μ1 (σ j)=μ0 j)\/(h0[j]? =some ak.dead/\h1[σ j]? =some ak.dead)\/h0[j]? =none)
  (hS:∀b,S0 b->S1 b) (hc:cz μ0 h0 S0 w pv v):cz μ1 h1 S1 w (kV σ pv) v:=by
 have ve:∀(id gen i off:Nat) (v:Value),cG μ0 h0 w id gen i off v->cG μ1 h1 w (σ id) gen i off v:=λid gen i off v hc=>by
  unfold cG at hc ⊢
  obtain ⟨q1,q2⟩:=hc
  refine ⟨q1,?_⟩
  rcases gT id with ⟨g,sz,n,e,f,r1,⟨f',r2⟩,r3⟩ | ⟨r1,r2⟩ | r1
  ·rw [r1] at q2
   rw [r2]
   show gen<=g/\_
   rw [r3]
   exact q2
  ·rw [r2];trivial
  ·rw [r1] at q2;exact q2.elim
 cases pv with
 | own id gen off len=>
  have hc:bC μ0 h0 w id gen off len v:=hc
  show bC μ1 h1 w (σ id) gen off len v
  unfold bC at hc ⊢
  obtain ⟨q1,q2⟩:=hc
  refine ⟨q1,?_⟩
  rcases gT id with ⟨g,sz,n,e,f,r1,⟨f',r2⟩,r3⟩ | ⟨r1,r2⟩ | r1
  ·rw [r1] at q2
   rw [r2]
   show gen<=g/\_
   rw [r3]
   exact q2
  ·rw [r2];trivial
  ·rw [r1] at q2;exact q2.elim
 | aC id gen i off=>exact ve _ _ _ _ _ hc
 | qE f cH=>exact uq.map (O:=λid g u=>cG μ1 h1 w id g 0 0 u) (uq.mono (show pc μ0 h0 w f cH v from hc) (λid g u hu=>ve id g 0 0 u hu))
 | oL id=>
  have hc:gI μ0 h0 w id v:=hc
  show gI μ1 h1 w (σ id) v
  unfold gI at hc ⊢
  obtain ⟨q1,q2⟩:=hc
  refine ⟨q1,?_⟩
  rcases gT id with ⟨g,sz,n,e,f,r1,⟨f',r2⟩,r3⟩ | ⟨r1,r2⟩ | r1
  ·rw [r1] at q2
   rw [r2]
   obtain ⟨b,base,x1,x2⟩:=q2
   exact ⟨b,base,r3.trans x1,x2⟩
  ·rw [r2];trivial
  ·rw [r1] at q2;exact q2.elim
 | jf=>exact hc
 | dY sz n e f F=>exact hc
 | agg cs=>exact (show False from hc).elim
 | fv cs=>exact (show False from hc).elim
 | int k n=>exact aY.mono (λ_ _=>rfl) hS hc
 | bool b=>exact aY.mono (λ_ _=>rfl) hS hc
 | str s=>exact aY.mono (λ_ _=>rfl) hS hc
 | cd=>exact aY.mono (λ_ _=>rfl) hS hc
 | iC=>exact aY.mono (λ_ _=>rfl) hS hc
 | ig sz n f=>exact aY.mono (λ_ _=>rfl) hS hc
 | gB cs=>exact aY.mono (λ_ _=>rfl) hS hc
 | fn f=>exact aY.mono (λ_ _=>rfl) hS hc
theorem iv {pv:PV} {v:Value} (bs:∀pv v,cz μ0 h0 S0 w pv v->cz μ1 h1 S1 w (kV σ pv) v) (hc:jF μ0 h0 S0 w pv v):jF μ1 h1 S1 w (tf σ pv) v:=by
 cases pv with
 | agg cs=>
  obtain ⟨vs,q1,q2,q3⟩:=hc
  refine ⟨vs,q1,by simpa using q2,λj pv hj=>?_⟩
  rw [aIb] at hj
  cases hx:cs[j]? with
  | none=>rw [hx] at hj;cases hj
  | some c=>
   rw [hx] at hj
   injection hj with hj
   subst hj
   obtain ⟨u,r1,r2⟩:=q3 j c hx
   exact ⟨u,r1,bs _ _ r2⟩
 | jf=>trivial
 | dY sz n e f F=>exact bs (.dY sz n e f F) v hc
 | fv cs=>exact (show False from hc).elim
 | own id gen off len=>exact bs (.own id gen off len) v hc
 | aC id gen i off=>exact bs (.aC id gen i off) v hc
 | oL id=>exact bs (.oL id) v hc
 | qE f cH=>exact bs (.qE f cH) v hc
 | int k n=>exact bs (.int k n) v hc
 | bool b=>exact bs (.bool b) v hc
 | str s=>exact bs (.str s) v hc
 | cd=>exact bs .cd v hc
 | iC=>exact bs .iC v hc
 | ig sz n f=>exact bs (.ig sz n f) v hc
 | gB cs=>exact bs (.gB cs) v hc
 | fn f=>exact bs (.fn f) v hc
theorem Zo {pv:PV} {v:Value} (bs:∀pv v,cz μ0 h0 S0 w pv v->cz μ1 h1 S1 w (kV σ pv) v) (hc:bS μ0 h0 S0 w pv v):bS μ1 h1 S1 w (vd σ pv) v:=by
 cases pv with
 | fv cs=>
  obtain ⟨vs,q1,q2,q3⟩:=hc
  refine ⟨vs,q1,by simpa using q2,λj pv hj=>?_⟩
  rw [aIb] at hj
  cases hx:cs[j]? with
  | none=>rw [hx] at hj;cases hj
  | some c=>
   rw [hx] at hj
   injection hj with hj
   subst hj
   obtain ⟨u,r1,r2⟩:=q3 j c hx
   exact ⟨u,r1,iv bs r2⟩
 | agg cs=>exact iv (pv:=.agg cs) bs hc
 | jf=>trivial
 | dY sz n e f F=>exact iv (pv:=.dY sz n e f F) bs hc
 | own id gen off len=>exact iv (pv:=.own id gen off len) bs hc
 | aC id gen i off=>exact iv (pv:=.aC id gen i off) bs hc
 | oL id=>exact iv (pv:=.oL id) bs hc
 | qE f cH=>exact iv (pv:=.qE f cH) bs hc
 | int k n=>exact iv (pv:=.int k n) bs hc
 | bool b=>exact iv (pv:=.bool b) bs hc
 | str s=>exact iv (pv:=.str s) bs hc
 | cd=>exact iv (pv:=.cd) bs hc
 | iC=>exact iv (pv:=.iC) bs hc
 | ig sz n f=>exact iv (pv:=.ig sz n f) bs hc
 | gB cs=>exact iv (pv:=.gB cs) bs hc
 | fn f=>exact iv (pv:=.fn f) bs hc
structure Sel (σ:Nat->Nat) (m:Nat) (h:List ak):Prop where
 lt:∀j,j<m->σ j<h.length
 new:∀j,m<=j->σ j=h.length+(j - m)
 inj:∀i j,i<m->j<m->σ i=σ j->i=j
theorem Sel.aFn {m:Nat} (hs:Sel σ m h) {i j:Nat} (he:σ i=σ j):i=j:=by
 rcases aIE i m with hi | hi
 ·rcases aIE j m with hj | hj
  ·exact hs.inj i j hi hj he
  ·have:=hs.lt i hi;have:=hs.new j hj;omega
 ·rcases aIE j m with hj | hj
  ·have:=hs.lt j hj;have:=hs.new i hi;omega
  ·have:=hs.new i hi;have:=hs.new j hj;omega
structure af6 (σ:Nat->Nat) (h h0 h':List ak):Prop where
 Ni:∀id,(∀j,j<h0.length->σ j≠id)->h'[id]? =h[id]?
 sel:∀j o,h0[j]? =some o->h'[σ j]? =some (r8 σ o)
 len:h.length<=h'.length
def CK (μ:Mu) (σ:Nat->Nat) (m:Nat):Mu:=λj=>if j<m then μ (σ j) else none
open Classical in
noncomputable def Zp (μ:Mu) (σ:Nat->Nat) (m:Nat) (μ0:Mu):Mu:=λid=>if hx:∃j,j<m/\σ j=id then μ0 (Classical.choose hx) else μ id
theorem adz {m:Nat} (Zq:∀i j,σ i=σ j->i=j) {j:Nat} (hj:j<m):Zp μ σ m μ0 (σ j)=μ0 j:=by
 have hx:∃i,i<m/\σ i=σ j:=⟨j,hj,rfl⟩
 unfold Zp
 rw [dif_pos hx,Zq _ _ (Classical.choose_spec hx).2]
theorem GW {m id:Nat} (hn:∀j,j<m->σ j≠id):Zp μ σ m μ0 id=μ id:=by
 unfold Zp
 rw [dif_neg]
 rintro ⟨j,h1,h2⟩
 exact hn j h1 h2
theorem fZ (qd:Sel σ hc.length h) (gT:∀j o,hc[j]? =some o->h[σ j]? =some (r8 σ o)) {pv:PV} {v:Value} (hr:cz μ h S w (kV σ pv) v):cz (CK μ σ hc.length) hc S w pv v:=by
 have get:∀id,(∃g sz n e f,hc[id]? =some (ak.row g sz n e f)/\h[σ id]? =some (r8 σ (ak.row g sz n e f))/\CK μ σ hc.length id=μ (σ id))\/(hc[id]? =some ak.dead/\h[σ id]? =some ak.dead)\/h[σ id]? =none:=λid=>by
  cases ho:hc[id]? with
  | none=>
   refine .inr (.inr (aIw ?_))
   have Pw:hc.length<=id:=List.getElem?_eq_none_iff.1 ho
   have:=qd.new id Pw
   omega
  | some o=>
   have bg:=(An.1 ho).1
   cases o with
   | dead=>exact .inr (.inl ⟨rfl,gT id _ ho⟩)
   | row g sz n e f=>exact .inl ⟨g,sz,n,e,f,rfl,gT id _ ho,by unfold CK;rw [if_pos bg]⟩
 have ve:∀(id gen i off:Nat) (v:Value),cG μ h w (σ id) gen i off v->cG (CK μ σ hc.length) hc w id gen i off v:=λid gen i off v hr=>by
  unfold cG at hr ⊢
  obtain ⟨q1,q2⟩:=hr
  refine ⟨q1,?_⟩
  rcases get id with ⟨g,sz,n,e,f,r1,r2,r3⟩ | ⟨r1,r2⟩ | r1
  ·rw [r2] at q2
   rw [r1]
   show gen<=g/\_
   rw [r3]
   exact q2
  ·rw [r1];trivial
  ·rw [r1] at q2;exact q2.elim
 cases pv with
 | own id gen off len=>
  have hr:bC μ h w (σ id) gen off len v:=hr
  show bC _ hc w id gen off len v
  unfold bC at hr ⊢
  obtain ⟨q1,q2⟩:=hr
  refine ⟨q1,?_⟩
  rcases get id with ⟨g,sz,n,e,f,r1,r2,r3⟩ | ⟨r1,r2⟩ | r1
  ·rw [r2] at q2
   rw [r1]
   show gen<=g/\_
   rw [r3]
   exact q2
  ·rw [r1];trivial
  ·rw [r1] at q2;exact q2.elim
 | aC id gen i off=>exact ve _ _ _ _ _ hr
 | qE f cH=>exact uq.mono (uq.aAx (show pc μ h w f (te σ cH) v from hr)) (λid g u hu=>ve _ _ _ _ _ hu)
 | oL id=>
  have hr:gI μ h w (σ id) v:=hr
  show gI _ hc w id v
  unfold gI at hr ⊢
  obtain ⟨q1,q2⟩:=hr
  refine ⟨q1,?_⟩
  rcases get id with ⟨g,sz,n,e,f,r1,r2,r3⟩ | ⟨r1,r2⟩ | r1
  ·rw [r2] at q2
   rw [r1]
   obtain ⟨b,base,x1,x2⟩:=q2
   exact ⟨b,base,r3.trans x1,x2⟩
  ·rw [r1];trivial
  ·rw [r1] at q2;exact q2.elim
 | jf=>exact hr
 | dY sz n e f F=>exact hr
 | agg cs=>exact (show False from hr).elim
 | fv cs=>exact (show False from hr).elim
 | int k n=>exact hr
 | bool b=>exact hr
 | str s=>exact hr
 | cd=>exact hr
 | iC=>exact hr
 | ig sz n f=>exact hr
 | gB cs=>exact hr
 | fn f=>exact hr
theorem RC (qd:Sel σ hc.length h) (gT:∀j o,hc[j]? =some o->h[σ j]? =some (r8 σ o)) {pv:PV} {v:Value} (hr:jF μ h S w (tf σ pv) v):jF (CK μ σ hc.length) hc S w pv v:=by
 cases pv with
 | agg cs=>
  obtain ⟨vs,q1,q2,q3⟩:=hr
  refine ⟨vs,q1,by simpa using q2,λj pv hj=>?_⟩
  obtain ⟨u,r1,r2⟩:=q3 j (kV σ pv) (by rw [aIb,hj];rfl)
  exact ⟨u,r1,fZ qd gT r2⟩
 | jf=>trivial
 | dY sz n e f F=>exact fZ (μ:=μ) (S:=S) (w:=w) (pv:=.dY sz n e f F) qd gT hr
 | fv cs=>exact (show False from hr).elim
 | own id gen off len=>exact fZ (μ:=μ) (S:=S) (w:=w) (pv:=.own id gen off len) qd gT hr
 | aC id gen i off=>exact fZ (μ:=μ) (S:=S) (w:=w) (pv:=.aC id gen i off) qd gT hr
 | oL id=>exact fZ (μ:=μ) (S:=S) (w:=w) (pv:=.oL id) qd gT hr
 | qE f cH=>exact fZ (μ:=μ) (S:=S) (w:=w) (pv:=.qE f cH) qd gT hr
 | int k n=>exact fZ (μ:=μ) (S:=S) (w:=w) (pv:=.int k n) qd gT hr
 | bool b=>exact fZ (μ:=μ) (S:=S) (w:=w) (pv:=.bool b) qd gT hr
 | str s=>exact fZ (μ:=μ) (S:=S) (w:=w) (pv:=.str s) qd gT hr
 | cd=>exact fZ (μ:=μ) (S:=S) (w:=w) (pv:=.cd) qd gT hr
 | iC=>exact fZ (μ:=μ) (S:=S) (w:=w) (pv:=.iC) qd gT hr
 | ig sz n f=>exact fZ (μ:=μ) (S:=S) (w:=w) (pv:=.ig sz n f) qd gT hr
 | gB cs=>exact fZ (μ:=μ) (S:=S) (w:=w) (pv:=.gB cs) qd gT hr
 | fn f=>exact fZ (μ:=μ) (S:=S) (w:=w) (pv:=.fn f) qd gT hr
theorem Zr {c:PV} {sz n:Nat} {e:TypeId} {f:Nat->List PV} {F:Nat->Prop} (hc:kV σ c=.dY sz n e f F):c=.dY sz n e f F:=by cases c<;>first | exact hc | cases hc
theorem adA {c:PV} (h:dW c=false):dW (kV σ c)=false:=by cases c<;>first | rfl | cases h
theorem ACall.sel {f:FuncId} {args jH:List PV} {R:PV->List ak->Prop} (hA:ACall P f args hc R) (h:List ak) (qd:Sel σ hc.length h) (gT:∀j o,hc[j]? =some o->h[σ j]? =some (r8 σ o))
  (mn:jH=args.map (tf σ)) (nxt:List ak->List ak) (aFo:∀h0,hc.length<=h0.length->af6 σ h h0 (nxt h0)):
  ACall P f jH h (λres h'=>∃r0 h0,R r0 h0/\res=vd σ r0/\h'=nxt h0):=by
 refine ⟨hA.1,λw vs μ S hH hM gK ha=>?_⟩
 subst mn
 have Zq:∀i j,σ i=σ j->i=j:=λi j=>qd.aFn
 have adB:∀b,CG (CK μ σ hc.length) hc b->CG μ h b:=λb ⟨j,g,sz,n,e,f,base,q1,q2⟩=>by
  have bg:=(An.1 q1).1
  unfold CK at q2
  rw [if_pos bg] at q2
  exact ⟨σ j,g,sz,n,e,_,base,gT j _ q1,q2⟩
 have RD:∀j x y b,dU hc j x y b->dU h (σ j) x y b:=λj x y b ⟨g,sz,n,e,f,cr,n',e',f',F',q1,q2,q3,q4⟩=>⟨g,sz,n,e,_,cr,n',e',f',F',gT j _ q1,q2,by
  show ((f x).map (kV σ))[y]? =_
  rw [aIb,q3];rfl,q4⟩
 have Zs:∀b,di (CK μ σ hc.length) hc b->di μ h b/\True:=λb hb=>by
  rcases hb with hb | ⟨x,y,z,hb⟩
  ·exact ⟨.inl (adB b hb),trivial⟩
  ·exact ⟨.inr ⟨_,_,_,RD _ _ _ _ hb⟩,trivial⟩
 have hHc:cZ (CK μ σ hc.length) hc S w:=λj g sz n e f hj=>by
  have bg:=(An.1 hj).1
  obtain ⟨q1,q2⟩:=hH (σ j) _ _ _ _ _ (gT j _ hj)
  refine ⟨λi hi=>by simpa using q1 i hi,?_⟩
  have hm:CK μ σ hc.length j=μ (σ j):=by unfold CK;rw [if_pos bg]
  rw [hm]
  cases hC:μ (σ j) with
  | none=>rw [hC] at q2;exact q2
  | some p=>
   obtain ⟨b,base⟩:=p
   rw [hC] at q2
   obtain ⟨o,r1,r2⟩:=q2
   refine ⟨o,r1,?_⟩
   cases o with
   | cells cur e' z=>
    obtain ⟨x1,x2,x3,r3⟩:=r2
    refine ⟨x1,x2,x3,λi k pv hi hk=>?_⟩
    obtain ⟨u,s1,s2⟩:=r3 i k (kV σ pv) hi (by rw [aIb,hk];rfl)
    refine ⟨u,s1,?_⟩
    cases hx:dW pv with
    | false=>exact (fZ qd gT s2.c).k hx
    | true=>
     cases pv with
     | dY lG n2 e2 f2 F2=>exact s2
     | _=>cases hx
   | map es c=>
    obtain ⟨x1,r3⟩:=r2
    refine ⟨x1,λi hi=>?_⟩
    obtain ⟨kp,vp,en,y1,y2,y3,y4⟩:=r3 i hi
    refine ⟨kp,vp,en,?_,y2,y3,y4⟩
    have y1:(f i).map (kV σ)=[kp,vp]:=y1
    generalize f i=l at y1
    rcases l with _ | ⟨a,_ | ⟨b,_ | ⟨c3,l3⟩⟩⟩<;>simp at y1
    obtain ⟨rfl,rfl⟩:=y1
    rw [Fh y2,Fh y3]
   | _=>exact r2.elim
 have hMc:ta (CK μ σ hc.length) hc S w:=⟨λb hb=>hM.apart b (Zs b hb).1,λb hb=>hM.lt b (Zs b hb).1,hM.slt,λi j gi Rr ni ei fi gj k9 nj ej fj b o o' hi hj nB mF=>by
  have hli:=(An.1 hi).1
  have Sm:=(An.1 hj).1
  unfold CK at nB mF
  rw [if_pos hli] at nB
  rw [if_pos Sm] at mF
  exact Zq _ _ (hM.inj _ _ _ _ _ _ _ _ _ _ _ _ _ _ _ (gT i _ hi) (gT j _ hj) nB mF),hM.known,λb hb x y z hx=>hM.hv b (adB b hb) _ _ _ (RD _ _ _ _ hx),λb x y z x' y' z' hx uo=>by
  obtain ⟨e1,e2,e3⟩:=hM.hh b _ _ _ _ _ _ (RD _ _ _ _ hx) (RD _ _ _ _ uo)
  exact ⟨Zq _ _ e1,e2,e3⟩⟩
 refine (hA.2 w vs _ S hHc hMc aLs (λj pv hj=>?_)).mono ?_
 ·obtain ⟨v,q1,q2⟩:=ha j (tf σ pv) (by rw [aIb,hj];rfl)
  exact ⟨v,q1,RC qd gT q2⟩
 ·rintro e w' ⟨v,r0,h0,μ0,S0,he,hR,hv,hH0,Hq,hF⟩
  have hlen:hc.length<=h0.length:=hF.len
  have RE:=aFo h0 hlen
  obtain ⟨h',hh'⟩:∃h',h'=nxt h0:=⟨_,rfl⟩
  rw [<-hh'] at RE
  have hmA:∀j,j<h0.length->Zp μ σ h0.length μ0 (σ j)=μ0 j:=λj hj=>adz Zq hj
  have inv:∀id o,h'[id]? =some o->(∃j o0,σ j=id/\h0[j]? =some o0/\o=r8 σ o0/\Zp μ σ h0.length μ0 id=μ0 j)\/((∀j,j<h0.length->σ j≠id)/\h[id]? =some o/\Zp μ σ h0.length μ0 id=μ id):=λid o hid=>by
   by_cases hx:∃j,j<h0.length/\σ j=id
   ·obtain ⟨j,hj,rfl⟩:=hx
    have:=RE.sel j _ (abF hj)
    rw [this] at hid
    injection hid with hid
    exact .inl ⟨j,_,rfl,abF hj,hid.symm,hmA j hj⟩
   ·have hn:∀j,j<h0.length->σ j≠id:=λj hj he=>hx ⟨j,hj,he⟩
    rw [RE.Ni id hn] at hid
    exact .inr ⟨hn,hid,GW hn⟩
  have apart:∀id g sz n e f b base,(∀j,j<h0.length->σ j≠id)->h[id]? =some (ak.row g sz n e f)->μ id=some (b,base)->¬di (CK μ σ hc.length) hc b:=λid g sz n e f b base hn hid hm yM=>by
   rcases yM with ⟨j,gj,k9,nj,ej,fj,bj,q1,q2⟩ | ⟨x,y,z,hx⟩
   rotate_left
   ·exact hM.hv b ⟨id,g,sz,n,e,f,base,hid,hm⟩ _ _ _ (RD _ _ _ _ hx)
   have bg:=(An.1 q1).1
   unfold CK at q2
   rw [if_pos bg] at q2
   exact hn j aKK (hM.inj _ _ _ _ _ _ _ _ _ _ _ _ _ _ _ (gT j _ q1) hid q2 hm)
  have CL:∀id x y b,(∀j,j<h0.length->σ j≠id)->dU h id x y b->¬di (CK μ σ hc.length) hc b:=λid x y b hn hx yM=>by
   rcases yM with yM | ⟨j,x',y',uo⟩
   ·exact hM.hv b (adB b yM) _ _ _ hx
   ·obtain ⟨e1,_,_⟩:=hM.hh b _ _ _ _ _ _ (RD _ _ _ _ uo) hx
    obtain ⟨_,_,_,_,_,_,_,_,_,_,q1,_⟩:=uo
    have:=(An.1 q1).1
    exact hn j aKK e1
  have af7:∀b,CG (Zp μ σ h0.length μ0) h' b->CG μ0 h0 b\/∃id g sz n e f base,(∀j,j<h0.length->σ j≠id)/\h[id]? =some (ak.row g sz n e f)/\μ id=some (b,base):=λb ⟨id,g,sz,n,e,f,base,q1,q2⟩=>by
   rcases inv id _ q1 with ⟨j,o0,rfl,r1,r2,r3⟩ | ⟨r1,r2,r3⟩
   ·rw [r3] at q2
    cases o0 with
    | dead=>cases r2
    | row g0 sz0 n0 e0 f0=>exact .inl ⟨j,g0,sz0,n0,e0,f0,base,r1,q2⟩
   ·rw [r3] at q2
    exact .inr ⟨id,g,sz,n,e,f,base,r1,r2,q2⟩
  have Fj:∀id x y b,dU h' id x y b->(∃j,σ j=id/\dU h0 j x y b)\/((∀j,j<h0.length->σ j≠id)/\dU h id x y b):=λid x y b ⟨g,sz,n,e,f,cr,n',e',f',F',q1,q2,q3,q4⟩=>by
   rcases inv id _ q1 with ⟨j,o0,rfl,r1,r2,r3⟩ | ⟨r1,r2,r3⟩
   ·cases o0 with
    | dead=>cases r2
    | row g0 sz0 n0 e0 f0=>
     injection r2 with e1 e2 e3 e4 e5
     subst e1 e2 e3 e4 e5
     rw [aIb] at q3
     cases hx:(f0 x)[y]? with
     | none=>rw [hx] at q3;cases q3
     | some c=>
      rw [hx] at q3
      injection q3 with q3
      rw [Zr q3] at hx
      exact .inl ⟨j,rfl,_,_,_,_,_,_,_,_,_,_,r1,q2,hx,q4⟩
   ·exact .inr ⟨r1,_,_,_,_,_,_,_,_,_,_,r2,q2,q3,q4⟩
  have lE:∀b,di (Zp μ σ h0.length μ0) h' b->di μ0 h0 b\/(di μ h b/\¬di (CK μ σ hc.length) hc b):=λb hb=>by
   rcases hb with hb | ⟨x,y,z,hb⟩
   ·rcases af7 b hb with q | ⟨id,g,sz,n,e,f,base,q1,q2,q3⟩
    ·exact .inl (.inl q)
    ·exact .inr ⟨.inl ⟨id,g,sz,n,e,f,base,q2,q3⟩,apart id _ _ _ _ _ _ _ q1 q2 q3⟩
   ·rcases Fj x y z b hb with ⟨j,_,q⟩ | ⟨q1,q2⟩
    ·exact .inl (.inr ⟨_,_,_,q⟩)
    ·exact .inr ⟨.inr ⟨_,_,_,q2⟩,CL _ _ _ _ q1 q2⟩
  have mixed:∀b,di μ0 h0 b->di μ h b->¬di (CK μ σ hc.length) hc b->False:=λb q1 q2 q3=>by
   rcases hF.own b q1 with r | r
   ·exact q3 r
   ·have:=hM.lt b q2;omega
  have jG:Fr μ h S w (Zp μ σ h0.length μ0) h' S0 w':=by
   refine ⟨RE.len,λb hb xB=>hF.blocks b hb (λho=>xB (Zs b ho).1),hF.sub,λb hb=>?_,λb hb=>?_,hF.size,hF.os,hF.tape,hF.output,λid g sz n e f hid=>?_,λid hid=>?_,λb k hb fY=>?_,λid g sz n e f b base hid hm mu=>?_,λb id x y hx mu=>?_⟩
   rotate_right
   ·by_cases ho:di (CK μ σ hc.length) hc b
    ·rcases ho with ho | ⟨j,x',y',ho⟩
     ·exact absurd hx (hM.hv b (adB b ho) _ _ _)
     ·exact hF.wv b j x' y' ho mu
    ·obtain ⟨es,c,q⟩:=mu
     exact ⟨es,c,(hF.blocks b (abL.1 q).1 ho).trans q⟩
   ·rcases hF.new b hb with q | q | q
    ·exact .inl q
    ·exact .inr (.inl (Zs b q).1)
    ·exact .inr (.inr q)
   ·rcases lE b hb with q | ⟨q,_⟩
    ·rcases hF.own b q with r | r
     ·exact .inl (Zs b r).1
     ·exact .inr r
    ·exact .inl q
   ·by_cases hx:∃j,j<hc.length/\σ j=id
    ·obtain ⟨j,hj,rfl⟩:=hx
     have th:j<h0.length:=by omega
     have Rw:=abF hj
     have yM:=gT j _ Rw
     rw [yM] at hid
     cases hoc:hc[j] with
     | dead=>rw [hoc] at hid;cases hid
     | row gc szc nc ec fc=>
      rw [hoc] at hid Rw
      injection hid with hid
      injection hid with e1 e2 e3 e4 e5
      subst e1 e2 e3 e4
      have hg:=hF.CH j _ _ _ _ _ Rw
      have hs:=RE.sel j _ (abF th)
      rw [abF th] at hg
      rw [hs]
      cases ho0:h0[j] with
      | dead=>trivial
      | row g' cr n' e' f'=>
       rw [ho0] at hg
       refine ⟨hg.1,λPw=>?_⟩
       obtain ⟨a1,a2,a3,a4⟩:=hg.2 Pw
       refine ⟨?_,a2,a3,a4⟩
       rw [hmA j th,a1]
       unfold CK
       rw [if_pos hj]
    ·have hn:∀j,j<h0.length->σ j≠id:=λj hj he=>by
      rcases aIE j hc.length with h1 | h1
      ·exact hx ⟨j,h1,he⟩
      ·have:=qd.new j h1
       have:=(An.1 hid).1
       omega
     rw [RE.Ni id hn,hid]
     exact ⟨No _,λ_=>⟨GW hn,rfl,rfl,rfl⟩⟩
   ·by_cases hx:∃j,j<hc.length/\σ j=id
    ·obtain ⟨j,hj,rfl⟩:=hx
     have th:j<h0.length:=by omega
     have Rw:=abF hj
     have yM:=gT j _ Rw
     rw [yM] at hid
     cases hoc:hc[j] with
     | row gc szc nc ec fc=>rw [hoc] at hid;cases hid
     | dead=>
      rw [hoc] at Rw
      have hd:=hF.dead j Rw
      exact RE.sel j _ hd
    ·have hn:∀j,j<h0.length->σ j≠id:=λj hj he=>by
      rcases aIE j hc.length with h1 | h1
      ·exact hx ⟨j,h1,he⟩
      ·have:=qd.new j h1
       have:=(An.1 hid).1
       omega
     rw [RE.Ni id hn,hid]
   ·by_cases ho:di (CK μ σ hc.length) hc b
    ·exact hF.cH b k ho fY
    ·exact kq.of_same (hF.blocks b fY.lt ho) fY
   ·by_cases hx:∃j,j<hc.length/\σ j=id
    ·obtain ⟨j,hj,rfl⟩:=hx
     have th:j<h0.length:=by omega
     have Rw:=abF hj
     have yM:=gT j _ Rw
     rw [yM] at hid
     cases hoc:hc[j] with
     | dead=>rw [hoc] at hid;cases hid
     | row gc szc nc ec fc=>
      rw [hoc] at hid Rw
      have hmc:CK μ σ hc.length j=some (b,base):=by unfold CK;rw [if_pos hj];exact hm
      obtain ⟨r1,r2⟩:=hF.maps j _ _ _ _ _ b base Rw hmc mu
      refine ⟨r1,?_⟩
      rcases r2 with r2 | ⟨⟨g',cr,n',e',f',r2⟩,r3⟩
      ·exact .inl (RE.sel j _ r2)
      ·exact .inr ⟨⟨_,_,_,_,_,RE.sel j _ r2⟩,(hmA j th).trans r3⟩
    ·have hn:∀j,j<h0.length->σ j≠id:=λj hj he=>by
      rcases aIE j hc.length with h1 | h1
      ·exact hx ⟨j,h1,he⟩
      ·have:=qd.new j h1
       have:=(An.1 hid).1
       omega
     obtain ⟨es,c,q⟩:=mu
     exact ⟨⟨es,c,(hF.blocks b (abL.1 q).1 (apart id _ _ _ _ _ _ _ hn hid hm)).trans q⟩,.inr ⟨⟨_,_,_,_,_,(RE.Ni id hn).trans hid⟩,(GW hn).trans hm⟩⟩
  have bs:∀pv v,cz μ0 h0 S0 w' pv v->cz (Zp μ σ h0.length μ0) h' S0 w' (kV σ pv) v:=λpv v hcr=>by
   refine Zn (λj=>?_) (λ_ hb=>hb) hcr
   cases ho:h0[j]? with
   | none=>exact .inr (.inr rfl)
   | some o=>
    have bg:=(An.1 ho).1
    cases o with
    | dead=>exact .inr (.inl ⟨rfl,RE.sel j _ ho⟩)
    | row g sz n e f=>exact .inl ⟨g,sz,n,e,f,rfl,⟨_,RE.sel j _ ho⟩,hmA j bg⟩
  refine ⟨v,_,h',_,S0,he,⟨r0,h0,hR,rfl,?_⟩,Zo bs hv,λid g sz n e f hid=>?_,⟨λb hb hs=>?_,λb hb=>?_,Hq.slt,?_,Hq.known,λb hb id x y hx=>?_,λb id x y id' x' y' hx uo=>?_⟩,jG⟩
  rotate_right 2
  ·rcases af7 b hb with q | ⟨k,g,sz,n,e,f,base,q1,q2,q3⟩
   ·rcases Fj id x y b hx with ⟨j,_,r⟩ | ⟨r1,r2⟩
    ·exact Hq.hv b q _ _ _ r
    ·exact mixed b (.inl q) (.inr ⟨_,_,_,r2⟩) (CL _ _ _ _ r1 r2)
   ·rcases Fj id x y b hx with ⟨j,_,r⟩ | ⟨r1,r2⟩
    ·exact mixed b (.inr ⟨_,_,_,r⟩) (.inl ⟨k,g,sz,n,e,f,base,q2,q3⟩) (apart k _ _ _ _ _ _ _ q1 q2 q3)
    ·exact hM.hv b ⟨k,g,sz,n,e,f,base,q2,q3⟩ _ _ _ r2
  ·rcases Fj id x y b hx with ⟨j,rfl,r⟩ | ⟨r1,r2⟩
   ·rcases Fj id' x' y' b uo with ⟨j',rfl,t⟩ | ⟨t1,t2⟩
    ·obtain ⟨e1,e2,e3⟩:=Hq.hh b _ _ _ _ _ _ r t
     exact ⟨by rw [e1],e2,e3⟩
    ·exact (mixed b (.inr ⟨_,_,_,r⟩) (.inr ⟨_,_,_,t2⟩) (CL _ _ _ _ t1 t2)).elim
   ·rcases Fj id' x' y' b uo with ⟨j',rfl,t⟩ | ⟨t1,t2⟩
    ·exact (mixed b (.inr ⟨_,_,_,t⟩) (.inr ⟨_,_,_,r2⟩) (CL _ _ _ _ r1 r2)).elim
    ·exact hM.hh b _ _ _ _ _ _ r2 t2
  ·exact hh'
  ·rcases inv id _ hid with ⟨j,o0,rfl,r1,r2,r3⟩ | ⟨r1,r2,r3⟩
   ·cases o0 with
    | dead=>cases r2
    | row g0 sz0 n0 e0 f0=>
     injection r2 with e1 e2 e3 e4 e5
     subst e1 e2 e3 e4 e5
     obtain ⟨q1,q2⟩:=hH0 j _ _ _ _ _ r1
     refine ⟨λi hi=>by simpa using q1 i hi,?_⟩
     rw [r3]
     cases hC:μ0 j with
     | none=>rw [hC] at q2;exact q2
     | some p=>
      obtain ⟨b,base⟩:=p
      rw [hC] at q2
      obtain ⟨o,s1,s2⟩:=q2
      refine ⟨o,s1,?_⟩
      cases o with
      | cells cur e' z=>
       obtain ⟨x1,x2,x3,s3⟩:=s2
       refine ⟨x1,x2,x3,λi k pv hi hk=>?_⟩
       rw [aIb] at hk
       cases hx:(f0 i)[k]? with
       | none=>rw [hx] at hk;cases hk
       | some c=>
        rw [hx] at hk
        injection hk with hk
        subst hk
        obtain ⟨u,t1,t2⟩:=s3 i k c hi hx
        refine ⟨u,t1,?_⟩
        cases hxo:dW c with
        | false=>exact (bs _ _ t2.c).k (adA hxo)
        | true=>
         cases c with
         | dY lG n2 e2 f2 F2=>exact t2
         | _=>cases hxo
      | map es c=>
       obtain ⟨x1,s3⟩:=s2
       refine ⟨x1,λi hi=>?_⟩
       obtain ⟨kp,vp,en,y1,y2,y3,y4⟩:=s3 i hi
       exact ⟨kp,vp,en,by show (f0 i).map (kV σ)=_;rw [y1];show [kV σ kp,kV σ vp]=_;rw [Fi y2,Fi y3],y2,y3,y4⟩
      | _=>exact s2.elim
   ·obtain ⟨q1,q2⟩:=hH id _ _ _ _ _ r2
    refine ⟨q1,?_⟩
    rw [r3]
    cases hC:μ id with
    | none=>rw [hC] at q2;exact q2
    | some p=>
     obtain ⟨b,base⟩:=p
     rw [hC] at q2
     obtain ⟨o,s1,s2⟩:=q2
     have bg:b<w.heap.size:=(abL.1 s1).1
     exact ⟨o,(hF.blocks b bg (apart id _ _ _ _ _ _ _ r1 r2 hC)).trans s1,s2.mono (λi y pv v hi hy hr=>hr.fr jG hM (λcr n' e' f' F' he b2 sC=>by
      have hx:dU h id i y b2:=⟨_,_,_,_,_,_,_,_,_,_,r2,hi,he▸hy,sC⟩
      exact hF.blocks b2 (hM.lt b2 (.inr ⟨_,_,_,hx⟩)) (CL _ _ _ _ r1 hx)))⟩
  ·rcases lE b hb with q | ⟨q1,q2⟩
   ·exact Hq.apart b q hs
   ·rcases hF.new b hs with r | r | r
    ·exact hM.apart b q1 r
    ·exact q2 r
    ·have:=hM.lt b q1;omega
  ·rcases lE b hb with q | ⟨q1,_⟩
   ·exact Hq.lt b q
   ·exact aHX (hM.lt b q1) hF.size
  ·intro i j gi Rr ni ei fi gj k9 nj ej fj b o o' hi hj nB mF
   have af8:∀(i':Nat) (o1:ak) (g sz n:Nat) (e:TypeId) (f:Nat->List PV) (oo:Nat) (id g2 lG n2:Nat) (e2:TypeId) (f2:Nat->List PV) (oo2:Nat),h0[i']? =some (ak.row g sz n e f)->μ0 i'=some (b,oo)->(∀j,j<h0.length->σ j≠id)->h[id]? =some (ak.row g2 lG n2 e2 f2)->μ id=some (b,oo2)->False:=
    λi' o1 g sz n e f oo id g2 lG n2 e2 f2 oo2 a1 a2 a3 a4 a5=>by
     exact mixed b (.inl ⟨i',g,sz,n,e,f,oo,a1,a2⟩) (.inl ⟨id,g2,lG,n2,e2,f2,oo2,a4,a5⟩) (apart id _ _ _ _ _ _ _ a3 a4 a5)
   rcases inv i _ hi with ⟨i0,oi,rfl,r1,r2,r3⟩ | ⟨r1,r2,r3⟩
   ·rw [r3] at nB
    cases oi with
    | dead=>cases r2
    | row g0 sz0 n0 e0 f0=>
     rcases inv j _ hj with ⟨j0,oj,rfl,t1,t2,t3⟩ | ⟨t1,t2,t3⟩
     ·rw [t3] at mF
      cases oj with
      | dead=>cases t2
      | row g2 lG n2 e2 f2=>rw [Hq.inj i0 j0 _ _ _ _ _ _ _ _ _ _ _ _ _ r1 t1 nB mF]
     ·rw [t3] at mF
      exact (af8 i0 ak.dead _ _ _ _ _ _ _ _ _ _ _ _ _ r1 nB t1 t2 mF).elim
   ·rw [r3] at nB
    rcases inv j _ hj with ⟨j0,oj,rfl,t1,t2,t3⟩ | ⟨t1,t2,t3⟩
    ·rw [t3] at mF
     cases oj with
     | dead=>cases t2
     | row g2 lG n2 e2 f2=>exact (af8 j0 ak.dead _ _ _ _ _ _ _ _ _ _ _ _ _ t1 mF r1 r2 nB).elim
    ·rw [t3] at mF
     exact hM.inj i j _ _ _ _ _ _ _ _ _ _ _ _ _ r2 t2 nB mF
def dC (is:List Nat) (N:Nat) (j:Nat):Nat:=match is[j]? with
 | some id=>id
 | none=>N+(j - is.length)
def ns (h:List ak):List Nat->List ak->List ak
 | id::r,o::l=>ns (h.set id o) r l
 | _,_=>h
def ri (h:List ak) (is:List Nat) (h0:List ak):List ak:=
 ns h is (h0.map (r8 (dC is h.length)))++(h0.drop is.length).map (r8 (dC is h.length))
theorem hJ:∀(is:List Nat) (l h:List ak),(ns h is l).length=h.length
 | [],[],_=>rfl
 | [],_::_,_=>rfl
 | _::_,[],_=>rfl
 | id::r,o::l,h=>by simp only [ns];rw [hJ r l];simp
theorem xi:∀(is:List Nat) (l h:List ak) (id:Nat),id∉is->(ns h is l)[id]? =h[id]?
 | [],[],_,_,_=>rfl
 | [],_::_,_,_,_=>rfl
 | _::_,[],_,_,_=>rfl
 | i::r,o::l,h,id,hn=>by
  simp only [aHM,not_or] at hn
  simp only [ns]
  rw [xi r l _ id hn.2,aId (aIT hn.1)]
theorem CM:∀(is:List Nat) (l h:List ak) (j id:Nat) (o:ak),is.Nodup->is[j]? =some id->l[j]? =some o->id<h.length->(ns h is l)[id]? =some o
 | [],_,_,_,_,_,_,h1,_,_=>by simp at h1
 | _::_,[],_,_,_,_,_,_,h2,_=>by simp at h2
 | i::r,o'::l,h,j,id,o,hd,h1,h2,bg=>by
  simp only [List.nodup_cons] at hd
  simp only [ns]
  cases j with
  | zero=>
   simp at h1 h2
   subst h1 h2
   rw [xi r l _ _ hd.1]
   simp [bg]
  | succ j=>
   exact CM r l _ j id o hd.2 aLr aLq (by simpa using bg)
theorem aln (is:List Nat) (h:List ak) (hd:is.Nodup) (bg:∀id∈is,id<h.length):Sel (dC is h.length) is.length h where
 lt j hj:=by
  unfold dC
  rw [abF hj]
  exact bg _ (aIh hj)
 new j hj:=by
  unfold dC
  rw [aIw hj]
 inj i j hi hj he:=by
  unfold dC at he
  rw [abF hi,abF hj] at he
  exact (List.getElem_inj hd).1 he
theorem Zt (is:List Nat) (h h0:List ak) (hd:is.Nodup) (bg:∀id∈is,id<h.length) (hle:is.length<=h0.length):af6 (dC is h.length) h h0 (ri h is h0) where
 len:=by unfold ri;rw [aHK,hJ];omega
 Ni id hn:=by
  unfold ri
  rcases aIE id h.length with h1 | h1
  ·rw [aIk (by rw [hJ];exact h1),xi]
   intro hm
   obtain ⟨j,hj,rfl⟩:=aJc.1 hm
   refine hn j aKK ?_
   unfold dC
   rw [abF hj]
  ·rw [aIc (by rw [hJ];exact h1),hJ,aIw h1,aIw]
   simp only [aJm,aIz]
   rcases aIE (id - h.length) (h0.length - is.length) with h2 | h2
   ·refine (hn (is.length+(id - h.length)) aKK ?_).elim
    unfold dC
    rw [aIw aKK]
    simp
    omega
   ·exact h2
 sel j o hj:=by
  have th:=(An.1 hj).1
  unfold ri
  rcases aIE j is.length with h1 | h1
  ·have hs:dC is h.length j=is[j]:=by unfold dC;rw [abF h1]
   have hl:=bg _ (aIh h1)
   rw [hs,aIk (by rw [hJ];exact hl)]
   exact CM is _ h j _ _ hd (abF h1) (by rw [aIb,hj];rfl) hl
  ·have hs:dC is h.length j=h.length+(j - is.length):=by unfold dC;rw [aIw h1]
   rw [hs,aIc (by rw [hJ];omega),hJ,aIb,aIQ]
   rw [show is.length+(h.length+(j - is.length) - h.length)=j from by omega,hj]
   rfl
theorem ACall.over {f:FuncId} {args jH:List PV} {R:PV->List ak->Prop} (hA:ACall P f args hc R) (is:List Nat) (h:List ak) (hl:hc.length=is.length) (hd:is.Nodup) (bg:∀id∈is,id<h.length)
  (gT:∀j o,hc[j]? =some o->h[dC is h.length j]? =some (r8 (dC is h.length) o)) (mn:jH=args.map (tf (dC is h.length))):
  ACall P f jH h (λres h'=>∃r0 h0,R r0 h0/\res=vd (dC is h.length) r0/\h'=ri h is h0):=
 hA.sel h (by rw [hl];exact aln is h hd bg) gT mn (ri h is) (λh0 hle=>Zt is h h0 hd bg aKK)
end
def look (l:List (Nat×TI)) (t:Nat):TI:=match l with
 | []=>.other
 | (k,ti)::r=>match Nat.beq t k with
  | true=>ti
  | false=>look r t
def wx (l:List (Nat×TI)):o9:=⟨look l⟩
def iD:List Value->List PV->Bool
 | [],[]=>true
 | .int k n::r,.int k' n'::r'=>qY k k'&&n==n'&&iD r r'
 | .bool b::r,.bool b'::r'=>b==b'&&iD r r'
 | .string s::r,.str s'::r'=>s.data.toList==s'&&iD r r'
 | .slice none 0 0::r,.cd::r'=>iD r r'
 | .pointer none::r,.iC::r'=>iD r r'
 | _,_=>false
def tj (P:Program) (t n:Nat):Bool:=match P.info? t with
 | some i=>Nat.beq i.size n
 | none=>false
def r9 (P:Program):List Field->List (Nat×Nat×Bool)->Bool
 | [],[]=>true
 | f::r,(off,size,ag)::r'=>Nat.beq f.offset off&&tj P f.type size&&Nat.blt 0 size&&(match P.underlying f.type with | some d=>ag==Cp d | none=>false)&&r9 P r r'
 | _,_=>false
def GX:Value->PV->Bool
 | .int k n,.int k' n'=>qY k k'&&n==n'
 | .bool b,.bool b'=>b==b'
 | .string s,.str s'=>s.data.toList==s'
 | _,_=>false
theorem GY {v:Value} {z:PV} (h:GX v z=true):qZ z v/\ko z=true/\storable z=true:=by
 unfold GX at h
 split at h
 ·simp only [As,beq_iff_eq] at h
  obtain ⟨h1,rfl⟩:=h
  obtain rfl:=fD h1
  exact ⟨rfl,rfl,rfl⟩
 ·rw [beq_iff_eq] at h;subst h;exact ⟨rfl,rfl,rfl⟩
 ·rw [beq_iff_eq] at h;subst h;exact ⟨rfl,rfl,rfl⟩
 ·cases h
def oP (P:Program) (t:Nat):TI->Bool
 | .int k=>(match P.underlying t with | some (.int k')=>qY k k' | _=>false)&&tj P t 1
 | .bool=>(match P.underlying t with | some .bool=>true | _=>false)&&tj P t 1
 | .str=>(match P.underlying t with | some .string=>true | _=>false)&&tj P t 1
 | .ptr e=>(match P.underlying t with | some (.pointer e')=>Nat.beq e e' | _=>false)&&tj P t 1
 | .slice e sz Za z=>(match P.underlying t with | some (.slice e')=>Nat.beq e e' | _=>false)&&tj P t 1&&Nat.blt 0 sz&&Nat.blt 0 Za&&
   (match P.info? e with
    | some i=>Nat.beq i.size sz&&Nat.beq i.bytes Za&&(match i.zero with | some zv=>Nat.beq zv.cells.size sz&&iD zv.cells.toList z | none=>false)
    | none=>false)
 | .struct sz fl z=>(!(zW z)||GO P t z)&&(match P.underlying t with | some (.struct fs)=>r9 P fs.toList fl | _=>false)&&
   (match P.info? t with
    | some i=>Nat.beq i.size sz&&(match i.zero with | some zv=>Nat.beq zv.cells.size sz&&iD zv.cells.toList z | none=>false)
    | none=>false)
 | .map k e z=>(match P.underlying t with | some (.map k' e')=>Nat.beq k k'&&Nat.beq e e' | _=>false)&&tj P t 1&&(match P.info? e with
   | some i=>(match i.zero with | some zv=>GX zv z | none=>false)
   | none=>false)
 | .other=>true
def zeroAt (P:Program) (t:Nat) (z:List PV) (n:Nat):Bool:=match P.info? t with
 | some i=>match i.zero with
  | some zv=>Nat.beq zv.cells.size n&&Nat.beq z.length n&&iD zv.cells.toList z
  | none=>false
 | none=>false
def adC (P:Program) (t:Nat) (ti:TI):Bool:=oP P t ti&&(match Cq ti with | some z=>zeroAt P t z (lD ti) | none=>true)
theorem vg:∀(vs:List Value) (z:List PV),iD vs z=true->vs.length=z.length/\∀(j:Nat) (u:Value),vs[j]? =some u->∃pv:PV,z[j]? =some pv/\u.oneCell'=true/\∀S w,aY S w pv u:=by
 intro vs
 induction vs with
 | nil=>
  intro z hz
  cases z with
  | nil=>exact ⟨rfl,λj u hj=>by simp at hj⟩
  | cons a r=>simp [iD] at hz
 | cons v vs ih=>
  intro z hz
  cases z with
  | nil=>cases v<;>simp [iD] at hz
  | cons p z=>
   have step:∀(hz':iD vs z=true) (adp:v.oneCell'=true) (hp:∀S w,aY S w p v),(v::vs).length=(p::z).length/\∀(j:Nat) (u:Value),(v::vs)[j]? =some u->∃pv:PV,(p::z)[j]? =some pv/\u.oneCell'=true/\∀S w,aY S w pv u:=by
    intro hz' adp hp
    obtain ⟨h1,h2⟩:=ih z hz'
    refine ⟨by simp [h1],λj u hj=>?_⟩
    cases j with
    | zero=>simp at hj;subst hj;exact ⟨p,rfl,adp,hp⟩
    | succ j=>simp at hj;obtain ⟨pv,q1,q2⟩:=h2 j u hj;exact ⟨pv,by simpa using q1,q2⟩
   cases v with
   | int k n=>
    cases p<;>simp [iD] at hz
    obtain ⟨⟨hk,hn⟩,hz⟩:=hz
    have:=fD hk
    subst this hn
    exact step hz rfl λS w=>.int _ _
   | bool b=>
    cases p<;>simp [iD] at hz
    obtain ⟨hb,hz⟩:=hz
    subst hb
    exact step hz rfl λS w=>.bool _
   | string s=>
    cases p<;>simp [iD] at hz
    obtain ⟨hs,hz⟩:=hz
    subst hs
    exact step hz rfl λS w=>aY.str _
   | slice a n c=>
    cases a with
    | some a=>cases p<;>simp [iD] at hz
    | none=>
     cases n with
     | succ n=>cases p<;>simp [iD] at hz
     | zero=>
      cases c with
      | succ c=>cases p<;>simp [iD] at hz
      | zero=>
       cases p<;>simp [iD] at hz
       exact step hz rfl λS w=>.cd
   | pointer a=>
    cases a with
    | some a=>cases p<;>simp [iD] at hz
    | none=>
     cases p<;>simp [iD] at hz
     exact step hz rfl λS w=>.iC
   | _=>cases p<;>simp [iD] at hz
theorem kW {P:Program} {t n:Nat} (h:tj P t n=true):∃i,P.info? t=some i/\i.size=n:=by
 unfold tj at h
 split at h
 ·rename_i i hi;exact ⟨i,hi,Of h⟩
 ·cases h
theorem wy {P:Program}:∀(fs:List Field) (fl:List (Nat×Nat×Bool)),r9 P fs fl=true->fl.length=fs.length/\
  ∀(k:Nat) (off size:Nat) (ag:Bool),fl[k]? =some (off,size,ag)->∃f j d,fs[k]? =some f/\f.offset=off/\P.info? f.type=some j/\j.size=size/\0<size/\P.underlying f.type=some d/\ag=Cp d
 | [],[],_=>⟨rfl,λk off size ag hk=>by simp at hk⟩
 | [],_::_,h=>by simp [r9] at h
 | _::_,[],h=>by simp [r9] at h
 | f::r,(off,size,ag)::r',h=>by
  simp only [r9,As] at h
  obtain ⟨⟨⟨⟨h1,h2⟩,h3⟩,h4⟩,h5⟩:=h
  obtain ⟨q1,q2⟩:=wy r r' h5
  refine ⟨by simp [q1],λk adD aAy ag' hk=>?_⟩
  cases k with
  | zero=>
   simp at hk
   obtain ⟨rfl,rfl,rfl⟩:=hk
   obtain ⟨j,hj,K0⟩:=kW h2
   cases hu:P.underlying f.type with
   | none=>rw [hu] at h4;cases h4
   | some d=>
    rw [hu] at h4
    exact ⟨f,j,d,rfl,Of h1,hj,K0,by simpa using h3,hu,by simpa using h4⟩
  | succ k=>exact q2 k adD aAy ag' (by simpa using hk)
theorem J3:∀(l:List (Nat×TI)) (t:Nat) (ti:TI),look l t=ti->ti=.other\/(t,ti)∈l
 | [],t,ti,h=>.inl h.symm
 | (k,x)::r,t,ti,h=>by
  unfold look at h
  split at h
  ·rename_i hb
   have:=Of hb
   subst this h
   exact .inr aKN
  ·rcases J3 r t ti h with h1 | h1
   ·exact .inl h1
   ·exact .inr (by simp [h1])
theorem aAz {P:Program} {l:List (Nat×TI)} (hl:l.all (λp=>adC P p.1 p.2)=true):dJ P (wx l):=by
 have aAA:∀t ti,(wx l).get t=ti->ti≠.other->adC P t ti=true:=λt ti ht hn=>by
  rcases J3 l t ti ht with h1 | h1
  ·exact (hn h1).elim
  ·exact (aHH.1 hl) _ h1
 have all:∀t ti,(wx l).get t=ti->ti≠.other->oP P t ti=true:=λt ti ht hn=>by
  have:=aAA t ti ht hn
  simp only [adC,As] at this
  exact this.1
 have zero:∀t z,Cq ((wx l).get t)=some z->∃i zv,P.info? t=some i/\i.zero=some zv/\zv.cells.size=lD ((wx l).get t)/\z.length=lD ((wx l).get t)/\
   ∀(j:Nat) (u:Value),zv.cells[j]? =some u->∃pv:PV,z[j]? =some pv/\u.oneCell'=true/\∀S w,aY S w pv u:=λt z hz=>by
  have:=aAA t _ rfl (by intro h0;rw [h0] at hz;cases hz)
  simp only [adC,As] at this
  have:=this.2
  rw [hz] at this
  simp only [zeroAt] at this
  split at this
  ·rename_i i hi
   split at this
   ·rename_i zv hzv
    simp only [As] at this
    obtain ⟨⟨h1,h2⟩,h3⟩:=this
    obtain ⟨_,r2⟩:=vg _ _ h3
    exact ⟨i,zv,hi,hzv,Of h1,Of h2,λj u hj=>r2 j u aKZ⟩
   ·cases this
  ·cases this
 have one:∀t,lD ((wx l).get t)=1->(∀sz fl z,(wx l).get t≠.struct sz fl z)->∃i,P.info? t=some i/\i.size=1:=λt h1 h2=>by
  cases ht:(wx l).get t with
  | other=>rw [ht] at h1;cases h1
  | struct sz fl z=>exact (h2 _ _ _ ht).elim
  | int k=>have:=all t _ ht aKN;simp only [oP,As] at this;exact kW this.2
  | bool=>have:=all t _ ht aKN;simp only [oP,As] at this;exact kW this.2
  | str=>have:=all t _ ht aKN;simp only [oP,As] at this;exact kW this.2
  | ptr e=>have:=all t _ ht aKN;simp only [oP,As] at this;exact kW this.2
  | map k e z=>have:=all t _ ht aKN;simp only [oP,As] at this;exact kW this.1.2
  | slice e sz b z=>have:=all t _ ht aKN;simp only [oP,As] at this;exact kW this.1.1.1.2
 refine ⟨λt sz fl z ht hz=>by
   have:=all t _ ht aKN
   simp only [oP,As,aIJ,aIt] at this
   rcases this.1.1 with h | h
   ·rw [hz] at h;cases h
   ·exact h,λt k ht=>?_,λt ht=>?_,λt ht=>?_,λt e ht=>?_,λt e sz b z ht=>?_,λt k e z ht=>?_,λt e sz b z ht=>?_,one,zero,λt sz fl z ht=>?_⟩
 ·have:=all t _ ht aKN
  simp only [oP,As] at this
  have:=this.1
  split at this
  ·rename_i k' hu;rw [hu,fD this]
  ·cases this
 ·have:=all t _ ht aKN
  simp only [oP,As] at this
  have:=this.1
  split at this
  ·assumption
  ·cases this
 ·have:=all t _ ht aKN
  simp only [oP,As] at this
  have:=this.1
  split at this
  ·assumption
  ·cases this
 ·have:=all t _ ht aKN
  simp only [oP,As] at this
  have:=this.1
  split at this
  ·rename_i e' hu;rw [hu,Of this]
  ·cases this
 ·have:=all t _ ht aKN
  simp only [oP,As] at this
  obtain ⟨⟨⟨⟨h1,h2⟩,h3⟩,h4⟩,h5⟩:=this
  refine ⟨?_,by simpa using h3,?_⟩
  ·split at h1
   ·rename_i e' hu;rw [hu,Of h1]
   ·cases h1
  ·split at h5
   ·rename_i i hi
    simp only [As] at h5
    obtain ⟨⟨q1,q2⟩,q3⟩:=h5
    split at q3
    ·rename_i zv hz
     simp only [As] at q3
     obtain ⟨r1,r2⟩:=vg _ _ q3.2
     have e1:=Of q3.1
     refine ⟨i,zv,hi,Of q1,Of q2,hz,e1,?_,λj u hj=>r2 j u aKZ⟩
     rw [<-r1,<-e1];simp
    ·cases q3
   ·cases h5
 ·have:=all t _ ht aKN
  simp only [oP,As] at this
  obtain ⟨⟨h1,_⟩,h3⟩:=this
  refine ⟨?_,?_⟩
  ·split at h1
   ·rename_i k' e' hu
    simp only [As] at h1
    rw [hu,Of h1.1,Of h1.2]
   ·cases h1
  ·split at h3
   ·rename_i i hi
    split at h3
    ·rename_i zv hz
     exact ⟨i,zv,hi,hz,GY h3⟩
    ·cases h3
   ·cases h3
 ·have:=all t _ ht aKN
  simp only [oP,As] at this
  simpa using this.1.2
 ·have:=all t _ ht aKN
  simp only [oP,As] at this
  obtain ⟨⟨_,h1⟩,h2⟩:=this
  split at h1
  ·rename_i fs hu
   obtain ⟨q1,q2⟩:=wy _ _ h1
   split at h2
   ·rename_i i hi
    simp only [As] at h2
    obtain ⟨r1,r2⟩:=h2
    split at r2
    ·rename_i zv hz
     simp only [As] at r2
     obtain ⟨s1,s2⟩:=vg _ _ r2.2
     have e1:=Of r2.1
     refine ⟨fs,i,hu,hi,Of r1,by simpa using q1,⟨zv,hz,e1,by rw [<-s1,<-e1];simp,λj u hj=>s2 j u aKZ⟩,λk off size ag hk=>?_⟩
     obtain ⟨f,j,d,t1,t2⟩:=q2 k off size ag hk
     exact ⟨f,j,d,by simpa using t1,t2⟩
    ·cases r2
   ·cases h2
  ·cases h1
theorem aa5 {P:Program} {f:FuncId} {args:List PV} {vs:Array Value} {w:World} (aho:Oc (λb=>b<w.heap.size) w) (hA:ACall P f args [] (λres _=>res=.bool true)) (gK:vs.size=args.length)
  (ha:∀(j:Nat) (pv:PV),args[j]? =some pv->∃v,vs[j]? =some v/\aY (λb=>b<w.heap.size) w pv v):
  Calls P f vs w λe w'=>e=.returned (.bool true)/\Below w.heap.size w w':=by
 refine (hA.2 w vs (λ_=>none) (λb=>b<w.heap.size) (λid g sz n e f hid=>by simp at hid) ⟨λb hb=>absurd hb lx,λb hb=>absurd hb lx,λb hb=>hb,λi j g sz n e f g' cr n' e' f' b o o' hi=>by simp at hi,aho,λb _ x y z hx=>yl hx,λb _ _ _ _ _ _ hx=>absurd hx yl⟩ gK (λj pv hj=>?_)).mono ?_
 ·obtain ⟨v,h1,h2⟩:=ha j pv hj
  refine ⟨v,h1,?_⟩
  have hc:cz (λ_=>none) [] (λb=>b<w.heap.size) w pv v:=cz.lp h2
  cases pv with
  | agg cs=>exact (show False from hc).elim
  | fv cs=>exact (show False from hc).elim
  | jf=>trivial
  | _=>exact hc
 ·rintro e w' ⟨v,res,h',μ',S',rfl,rfl,hv,hH,hM,hF⟩
  refine ⟨by rw [hv.ng],hF.os,hF.tape,hF.output,hF.size,λb hb=>hF.blocks b hb lx⟩
section
variable {h η:List ak} {k:List Nat}
theorem Fz.int_eq {k':IntKind} {n n':Int} (he:n=n'):Fz h η k (.int k' n) (.int k' n'):=by subst he;exact .int _ _
theorem Fz.PB {b b':Bool} (he:b=b'):Fz h η k (.bool b) (.bool b'):=by subst he;exact .bool _
theorem Fz.Zu {s s':List UInt8} (he:s=s'):Fz h η k (.str s) (.str s'):=by subst he;exact .str _
theorem Fz.Zv {id g sz n off len cr GZ:Nat} {e:TypeId} {f f':Nat->List PV} (hk:id∉k) (ho:h[id]? =some (ak.row g sz n e f)) (h1:sz=cr) (h2:len=GZ) (hp:∀i,i<GZ->(f' i).all cu=true)
  (hf:∀i,i<GZ->Aa h η k (f (off+i)) (f' i)):Fz h η k (.own id g off len) (.ig cr GZ f'):=by
 subst h1 h2
 exact .frz id g sz n off len e f f' hk ho (λi hi=>(Aa.get _ _ (hf i hi)).1) (λi j pv hi hj=>(aHH.1 (hp i hi)) pv (aHU hj)) (λi j pv gw hi h1 h2 _=>(Aa.get _ _ (hf i hi)).2 j pv gw h1 h2)
theorem Fz.aI {cs Ba:List PV} (hl:Aa h η k cs Ba):Fz h η k (.agg cs) (.agg Ba):=.agg _ _ (Aa.get _ _ hl).1 (Aa.get _ _ hl).2
theorem Fz.cP {cs Ba:List PV} (hl:Aa h η k cs Ba):Fz h η k (.fv cs) (.fv Ba):=.fv _ _ (Aa.get _ _ hl).1 (Aa.get _ _ hl).2
theorem Zw {α:Type} {i l:Nat} {a b:α} (ru:i<l):(bif Nat.blt i l then a else b)=a:=by
 have hb:Nat.blt i l=true:=by simpa using ru
 rw [hb];rfl
theorem Zx {α:Type} {i l:Nat} {a b:α} (ru:l<=i):(bif Nat.blt i l then a else b)=b:=by
 have hb:Nat.blt i l=false:=by
  cases hh:Nat.blt i l with
  | true=>
   have:i<l:=by simpa using hh
   omega
  | false=>rfl
 rw [hb];rfl
end
theorem U7 {x:Int} (h1: -9223372036854775808<=x) (h2:x<=9223372036854775807):IntKind.i64.wrap x=x:=by rw [IntKind.wrap_i64];omega
theorem ACall.aAB {P:Program} {f:FuncId} {args my:List PV} {R:PV->List ak->Prop} (hA:ACall P f my [] R) (h:List ak) (hz:Aa h [] [] args my) (hn:my.all nu=true)
  (PD:∀r0 h0,R r0 h0->PE r0=true/\∀o∈h0,Zy o):
  ACall P f args h (λres h'=>∃r0 h0,R r0 h0/\res=tl h.length r0/\h'=h++h0.map (gU h.length)):=by
 obtain ⟨h1,h2⟩:=Aa.get _ _ hz
 exact hA.snap h h1 (λj pv gw q1 q2=>⟨h2 j pv gw q1 q2,(aHH.1 hn) gw (aHU q2)⟩) (λr0 h0 hR=>⟨(PD r0 h0 hR).1,λo ho=>((PD r0 h0 hR).2 o ho).p⟩)
theorem Fz.snap {h:List ak} {id g sz n off len cr GZ:Nat} {e:TypeId} {f f':Nat->List PV} (ho:h[id]? =some (ak.row g sz n e f)) (h1:sz=cr) (h2:len=GZ) (hp:∀i,i<GZ->(f' i).all cu=true)
  (hf:∀i,i<GZ->Aa h [] [] (f (off+i)) (f' i)):Fz h [] [] (.own id g off len) (.ig cr GZ f'):=.Zv aKN ho h1 h2 hp hf
theorem ACall.heq {P:Program} {f:FuncId} {args:List PV} {h h2:List ak} {R:PV->List ak->Prop} (hA:ACall P f args h R) (he:eO h2 h):ACall P f args h2 R:=by
 refine ⟨hA.1,λw vs μ S hH hM gK ha=>?_⟩
 obtain ⟨hH2,hM2⟩:=he.core ⟨hH,hM⟩
 refine (hA.2 w vs μ S hH2 hM2 gK (λj pv hj=>?_)).mono ?_
 ·obtain ⟨v,h1,h3⟩:=ha j pv hj
  exact ⟨v,h1,he.Rq h3⟩
 ·rintro e w' ⟨v,res,h',μ',S',rfl,hr,hv,hH',hM',hF⟩
  refine ⟨v,res,h',μ',S',rfl,hr,hv,hH',hM',⟨by rw [he.len];exact hF.len,λb hb ho=>hF.blocks b hb (λhx=>ho (he.zl hx)),hF.sub,λb hb=>?_,λb hb=>?_,hF.size,hF.os,hF.tape,hF.output,λid g sz n e f hid=>?_,λid hid=>hF.dead id (he.getD hid),λb k ho hc=>hF.cH b k (he.owned ho) hc,λid g sz n e f b base hid hm mu=>?_,λb x y z hx mu=>hF.wv b x y z (he.hid hx) mu⟩⟩
  ·rcases hF.new b hb with h1 | h1 | h1
   ·exact .inl h1
   ·exact .inr (.inl (he.zl h1))
   ·exact .inr (.inr h1)
  ·rcases hF.own b hb with h1 | h1
   ·exact .inl (he.zl h1)
   ·exact .inr h1
  ·obtain ⟨f',h1,_⟩:=he.get hid
   exact hF.CH id g sz n e f' h1
  ·obtain ⟨f',h1,_⟩:=he.get hid
   exact hF.maps id g sz n e f' b base h1 hm mu
abbrev aB:=List UInt8
abbrev bq (x:Int):Int:=IntKind.i64.wrap x
theorem bind_some {α β:Type} {x:Option α} {f:α->Option β} {r:β} (h:(x>>=f)=some r):∃a,x=some a/\f a=some r:=by
 cases x with
 | none=>cases h
 | some a=>exact ⟨a,rfl,h⟩
def idx {α:Type} [Inhabited α] (l:List α) (i:Int):Option α:=if 0<=i/\i<(l.length:Int) then some (l.getD i.toNat default) else none
def gx (s:aB) (i:Int):Option UInt8:=if 0<=i/\i<(s.length:Int) then some (s.getD i.toNat 0) else none
def sB (s:aB) (lo hi:Int):Option aB:=if 0<=lo/\lo<=hi/\hi<=(s.length:Int) then some ((s.take hi.toNat).drop lo.toNat) else none
def mK (s:aB) (lo:Int):Option aB:=if 0<=lo/\lo<=(s.length:Int) then some (s.drop lo.toNat) else none
def sto (s:aB) (hi:Int):Option aB:=if 0<=hi/\hi<=(s.length:Int) then some (s.take hi.toNat) else none
def pP {α:Type} (s:List α) (lo:Int):Option (List α):=if 0<=lo/\lo<=(s.length:Int) then some (s.drop lo.toNat) else none
def R7 {α:Type} (s:List α) (hi:Int):Option (List α):=if 0<=hi/\hi<=(s.length:Int) then some (s.take hi.toNat) else none
def sF (a b:aB):Option aB:=if a.length+b.length<=4611686018427387904 then some (a++b) else none
def db {α:Type} (bytes:Nat) (a b:List α):Option (List α):=if (a.length+b.length)*bytes<=140737488355328 then some (a++b) else none
def must (p:Prop) [Decidable p]:Option Unit:=if p then some () else none
theorem dk {α:Type} {c:Prop} [Decidable c] {x r:α} (h:(if c then some x else none)=some r):c/\x=r:=by
 by_cases hc:c
 ·rw [if_pos hc] at h;exact ⟨hc,aIv h⟩
 ·rw [if_neg hc] at h;cases h
theorem QR {p:Prop} [Decidable p] {u:Unit} (h:must p=some u):p:=(dk h).1
section
variable {α:Type} {x y r:α}
theorem aAC {p:Prop} [Decidable p] (hb:decide p=true) (h:(if p then x else y)=r):x=r:=by rw [if_pos (of_decide_eq_true hb)] at h;exact h
theorem aAD {p:Prop} [Decidable p] (hb:decide p=false) (h:(if p then x else y)=r):y=r:=by rw [if_neg (of_decide_eq_false hb)] at h;exact h
theorem Zz {β:Type} [BEq β] [LawfulBEq β] {a b:β} [Decidable (a=b)] (hb:(a==b)=true) (h:(if a=b then x else y)=r):x=r:=by rw [if_pos (eq_of_beq hb)] at h;exact h
theorem ZA {β:Type} [BEq β] [LawfulBEq β] {a b:β} [Decidable (a=b)] (hb:(a==b)=false) (h:(if a=b then x else y)=r):y=r:=by rw [if_neg (ne_of_beq_false hb)] at h;exact h
theorem aAE {β:Type} [BEq β] [LawfulBEq β] {a b:β} [Decidable (a=b)] (hb:(a != b)=true) (h:(if a=b then x else y)=r):y=r:=ZA (by simpa [bne] using hb) h
theorem aAF {β:Type} [BEq β] [LawfulBEq β] {a b:β} [Decidable (a=b)] (hb:(a != b)=false) (h:(if a=b then x else y)=r):x=r:=Zz (by simpa [bne] using hb) h
theorem af9 {b:Bool} (hb:b=true) (h:(if b=true then x else y)=r):x=r:=by rw [if_pos hb] at h;exact h
theorem aga {b:Bool} (hb:b=false) (h:(if b=true then x else y)=r):y=r:=by rw [if_neg (by rw [hb];decide)] at h;exact h
end
theorem agb {b:Bool} (h:(!b)=false):b=true:=by cases b<;>simp_all
theorem agc {b:Bool} (h:(!b)=true):b=false:=by cases b<;>simp_all
theorem ZB {T F:Prop} (h:T):gJ true T F:=.mk (λ_=>h) (λh=>by cases h)
theorem ZC {T F:Prop} (h:F):gJ false T F:=.mk (λh=>by cases h) (λ_=>h)
theorem RF {b:Bool} {T F:Prop} (hb:b=true) (h:T):gJ b T F:=.mk (λ_=>h) (λh=>by rw [hb] at h;cases h)
section
variable {α:Type} {l m:List α} {lo hi:Int}
theorem pQ (h:pP l lo=some m):0<=lo/\lo<=(l.length:Int):=(dk h).1
theorem nM (h:pP l lo=some m):m.length=l.length - lo.toNat:=by rw [<-(dk h).2];simp
theorem Ga (h:R7 l hi=some m):0<=hi/\hi<=(l.length:Int):=(dk h).1
theorem iY {b:Nat} {q:List α} (h:db b l m=some q):(l.length+m.length)*b<=140737488355328:=(dk h).1
theorem gN {b:Nat} {q:List α} (h:db b l m=some q):q.length=l.length+m.length:=by rw [<-(dk h).2];simp
theorem AS (h:R7 l hi=some m):m.length=hi.toNat:=by
 have hb:=Ga h
 rw [<-(dk h).2];simp;omega
end
def row {α:Type} (c:α->List PV) (l:List α):Nat->List PV:=λi=>(l.map c).getD i []
abbrev sl {α:Type} (sz:Nat) (c:α->List PV) (l:List α):PV:=.ig sz l.length (row c l)
def cI (x:Int):List PV:=[.int .i64 x]
def alo (k:IntKind) (x:Int):List PV:=[.int k x]
def cB (x:UInt8):List PV:=[.int .u8 x.toNat]
def cT (x:Bool):List PV:=[.bool x]
def cS (x:aB):List PV:=[.str x]
def cL {α:Type} (sz:Nat) (c:α->List PV) (x:List α):List PV:=[sl sz c x]
section
variable {α:Type} {c:α->List PV} {l m:List α} {x x':α} {i lo hi:Int}
theorem adE (x:Int):(cI x).all cu=true:=rfl
theorem RG (k:IntKind) (x:Int):(alo k x).all cu=true:=rfl
theorem adF (x:UInt8):(cB x).all cu=true:=rfl
theorem adG (x:Bool):(cT x).all cu=true:=rfl
theorem adH (x:aB):(cS x).all cu=true:=rfl
theorem adI {β:Type} (sz:Nat) (d:β->List PV) (x:List β):(cL sz d x).all cu=true:=rfl
theorem FJ (x:Int):cB (UInt8.ofNat (IntKind.u8.wrap x).toNat)=[.int .u8 (IntKind.u8.wrap x)]:=by
 have h:0<=IntKind.u8.wrap x/\IntKind.u8.wrap x<256:=by
  have:=IntKind.wrap_u8 x
  omega
 unfold cB
 congr 2
 rw [UInt8.toNat_ofNat']
 omega
theorem rj {k:Nat} (h:k<l.length):row c l k=c l[k]:=by unfold row;simp [aHL,h]
theorem CN {k:Nat} (h:l[k]? =some x):row c l k=c x:=by unfold row;simp [aHL,h]
theorem oQ (hp:∀x,(c x).all cu=true) (k:Nat):(row c l k).all cu=true:=by
 by_cases h:k<l.length
 ·rw [rj h];exact hp _
 ·unfold row;simp [aHL,aIw (show l.length<=k by omega)]
theorem RH {s:aB} {k:Nat} (h:k<s.length):row cB s k=[.int .u8 (s.getD k 0).toNat]:=by
 rw [rj h];simp [cB,aHL,h]
theorem cf {s:aB} {b:UInt8} (h:gx s i=some b):0<=i/\i<(s.length:Int):=(dk h).1
theorem cg {s:aB} {b:UInt8} (h:gx s i=some b):s.getD i.toNat 0=b:=(dk h).2
theorem qt {s t:aB} (h:sB s lo hi=some t):0<=lo/\lo<=hi/\hi<=(s.length:Int):=(dk h).1
theorem qu {s t:aB} (h:sB s lo hi=some t):(s.take hi.toNat).drop lo.toNat=t:=(dk h).2
theorem rv {s t:aB} (h:mK s lo=some t):0<=lo/\lo<=(s.length:Int):=(dk h).1
theorem rz {s t:aB} (h:mK s lo=some t):s.drop lo.toNat=t:=(dk h).2
theorem FH {s t:aB} (h:sto s hi=some t):0<=hi/\hi<=(s.length:Int):=(dk h).1
theorem FI {s t:aB} (h:sto s hi=some t):s.take hi.toNat=t:=(dk h).2
theorem mM {s t u:aB} (h:sF s t=some u):s.length+t.length<=4611686018427387904:=(dk h).1
theorem mN {s t u:aB} (h:sF s t=some u):s++t=u:=(dk h).2
theorem nN (h:pP l lo=some m):∀i,i<m.length->row c m i=row c l (lo.toNat+i):=λi rf=>by
 have hm:l[lo.toNat+i]? =some m[i]:=by
  rw [<-abF rf,<-(dk h).2,aIQ]
 rw [rj rf,CN hm]
theorem Gb (h:R7 l hi=some m):∀i,i<m.length->row c m i=row c l i:=λi rf=>by
 have hl:=AS h
 have hm:l[i]? =some m[i]:=by
  rw [<-abF rf,<-(dk h).2,aJn,if_pos aKK]
 rw [rj rf,CN hm]
def CO (c:α->List PV) (f:Nat->List PV) (off:Nat) (l:List α):Prop:=∀i,i<l.length->f (off+i)=row c l i
theorem bb:CO c (row c l) 0 l:=λi _=>by rw [aHJ]
theorem ow {s:aB} {f:Nat->List PV} {off n:Nat} (hs:CO cB f off s) (hn:s.length=n):∀i,i<n->f (off+i)=[.int .u8 (s.getD i 0).toNat]:=λi hi=>by
 subst hn
 rw [hs i hi];exact RH hi
theorem iu {b:Nat} {q:List α} {f g:Nat->List PV} {off:Nat} (h:db b l m=some q) (hf:CO c f off l) (hg:∀i,i<m.length->g i=row c m i):
  ∀i,i<q.length->nY (bif Nat.blt i l.length then f (off+i) else g (i - l.length)) (row c q i):=λi rf=>by
 have hl:=gN h
 have e:q=l++m:=(dk h).2.symm
 subst e
 by_cases ru:i<l.length
 ·rw [Zw ru,hf i ru,rj rf,rj ru,aJe ru];exact nY.refl _
 ·rw [Zx aKK,hg _ aKK,rj rf,rj aKK,aJd aKK];exact nY.refl _
theorem jP {f:Nat->List PV} {off:Nat} (hs:CO c f off m):∀i,i<m.length->f (off+i)=row c m i:=hs
def CLL:List (List PV)->List (List PV)->Prop
 | [],[]=>True
 | a::l,b::r=>nY a b/\CLL l r
 | _,_=>False
theorem Bg {a b lit:List PV} {l r:List (List PV)} (e:b=lit) (h:nY a lit) (t:CLL l r):CLL (a::l) (b::r):=⟨by rw [e];exact h,t⟩
theorem dA:∀{l r:List (List PV)},l=r->CLL l r
 | [],_,rfl=>trivial
 | a::l,_,rfl=>⟨nY.refl _,dA rfl⟩
theorem PF:∀{l r:List (List PV)},CLL l r->∀i,nY (l.getD i []) (r.getD i [])
 | [],[],_,i=>by simp;exact trivial
 | a::l,b::r,h,0=>h.1
 | a::l,b::r,h,i+1=>by simpa using PF h.2 i
 | [],_::_,h,_=>h.elim
 | _::_,[],h,_=>h.elim
theorem dX (c:α->List PV) (l:List α) {n:Nat} {cs:List (List PV)} (hn:n=l.length) (h:CLL cs (l.map c)):∀i,i<n->nY (cs.getD i []) (row c l i):=λi _=>PF h i
theorem adJ {c0 cv new:List PV} {off:Nat} {f:Nat->List PV} (h:new=gF c0 off cv):∀j,j<1->nY (dV f 0 (gF c0 off cv) j) ((λ_=>new) j):=λj hj=>by
 obtain rfl:j=0:=by omega
 subst h
 exact nY.refl _
end
section
variable {α:Type} [Inhabited α] {c:α->List PV} {l m:List α} {x x':α} {i lo hi:Int}
theorem bn (h:idx l i=some x):0<=i/\i<(l.length:Int):=(dk h).1
theorem ZD (h:idx l i=some x):l[i.toNat]? =some x:=by
 have hb:=bn h
 have hl:i.toNat<l.length:=by omega
 rw [<-(dk h).2,aHL,abF hl];rfl
theorem MZ (h:idx l i=some x):i.toNat<l.length:=by have hb:=bn h;omega
theorem ba (h:idx l i=some x):row c l i.toNat=c x:=CN (ZD h)
end
section
variable {h η:List ak} {k:List Nat}
theorem G0 {pv:PV} (hp:cu pv=true):Fz h η k pv pv:=by
 cases pv with
 | int k n=>exact .int _ _
 | bool b=>exact .bool _
 | str s=>exact .str _
 | cd=>exact .cd
 | iC=>exact .iC
 | ig sz n f=>exact .ig _ _ _ _ (λ_ _=>rfl)
 | gB cs=>exact .gB _
 | fn f=>exact .fn _
 | _=>cases hp
theorem sc:∀{l:List PV},l.all cu=true->Aa h η k l l
 | [],_=>trivial
 | a::l,hp=>by
  simp only [aHS,As] at hp
  exact ⟨G0 hp.1,sc hp.2⟩
def adK (h η:List ak) (k:List Nat):List (Nat×Nat)->List (Nat×Nat)->Prop
 | [],[]=>True
 | p::r,p'::r'=>(k[p'.1]? =some p.1/\(∃sz n e f,h[p.1]? =some (ak.row p.2 sz n e f))/\∃sz n e f,η[p'.1]? =some (ak.row p'.2 sz n e f)/\0<n)/\adK h η k r r'
 | _,_=>False
theorem adK.get:∀(l l':List (Nat×Nat)),adK h η k l l'->l'.length=l.length/\∀(j:Nat) (p p':Nat×Nat),l[j]? =some p->l'[j]? =some p'->
  k[p'.1]? =some p.1/\(∃sz n e f,h[p.1]? =some (ak.row p.2 sz n e f))/\∃sz n e f,η[p'.1]? =some (ak.row p'.2 sz n e f)/\0<n
 | [],[],_=>⟨rfl,λj p p' hj _=>by simp at hj⟩
 | [],_::_,hh=>hh.elim
 | _::_,[],hh=>hh.elim
 | q::r,q'::r',hh=>by
  obtain ⟨h1,h2⟩:=hh
  obtain ⟨q1,q2⟩:=adK.get r r' h2
  refine ⟨by simp [q1],λj p p' hj yK=>?_⟩
  cases j with
  | zero=>
   simp at hj yK
   subst hj yK
   exact h1
  | succ j=>exact q2 j p p' aKZ (by simpa using yK)
theorem ZE {α:Type} {c:α->List PV} (hp:∀x,(c x).all cu=true) {id g sz n off:Nat} {e:TypeId} {f:Nat->List PV} {l:List α} (hk:id∉k) (ho:h[id]? =some (ak.row g sz n e f)) (hs:CO c f off l):
  Fz h η k (.own id g off l.length) (sl sz c l):=
 .Zv hk ho rfl rfl (λi hi=>oQ hp i) (λi hi=>by rw [hs i hi];exact sc (oQ hp i))
theorem adL {α:Type} {c:α->List PV} (hp:∀x,(c x).all cu=true) {id g sz n off len:Nat} {e:TypeId} {f:Nat->List PV} {l:List α} (hk:id∉k) (ho:h[id]? =some (ak.row g sz n e f)) (hs:CO c f off l) (hl:len=l.length):
  Fz h η k (.own id g off len) (sl sz c l):=by subst hl;exact ZE hp hk ho hs
end
theorem Nj {α:Type} {c:α->List PV} (hp:∀x,(c x).all cu=true) (N g sz n:Nat) (e:TypeId) (l:List α):gU N (.row g sz n e (row c l))=.row g sz n e (row c l):=by
 suffices e:(λi=>(row c l i).map (nZ N))=row c l by unfold gU;simp only [e]
 funext i
 have h:=oQ (l:=l) hp i
 generalize row c l i=q at h
 induction q with
 | nil=>rfl
 | cons a r ih=>
  simp only [aHS,As] at h
  rw [aHQ,ih h.2]
  cases a<;>first | rfl | cases h.1
theorem J4 {α:Type} {c:α->List PV} (hp:∀x,(c x).all cu=true) (σ:Nat->Nat) (g sz n:Nat) (e:TypeId) (l:List α):r8 σ (.row g sz n e (row c l))=.row g sz n e (row c l):=by
 suffices e:(λi=>(row c l i).map (kV σ))=row c l by unfold r8;simp only [e]
 funext i
 have h:=oQ (l:=l) hp i
 generalize row c l i=q at h
 induction q with
 | nil=>rfl
 | cons a r ih=>
  simp only [aHS,As] at h
  rw [aHQ,ih h.2]
  cases a<;>first | rfl | cases h.1
theorem ACall.aAG {P:Program} {f:FuncId} {args:List PV} {r0:PV} (hA:ACall P f args [] (λres h=>res=r0/\h=[])) (h:List ak) (hp:args.all PG=true) (hr:∀n,tl n r0=r0):
  ACall P f args h (λres h'=>res=r0/\h'=h):=
 (hA.frame h hp).mono (by rintro _ _ ⟨_,_,⟨rfl,rfl⟩,rfl,rfl⟩;exact ⟨hr _,by simp⟩)
theorem ACall.aAH {P:Program} {f:FuncId} {args my:List PV} {r0:PV} (hA:ACall P f my [] (λres h=>res=r0/\h=[])) (h:List ak) (hz:Aa h [] [] args my) (hn:my.all nu=true) (hf:PE r0=true) (hr:∀n,tl n r0=r0):
  ACall P f args h (λres h'=>res=r0/\h'=h):=
 (hA.aAB h hz hn (by rintro _ _ ⟨rfl,rfl⟩;exact ⟨hf,by simp⟩)).mono (by rintro _ _ ⟨_,_,⟨rfl,rfl⟩,rfl,rfl⟩;exact ⟨hr _,by simp⟩)
section
variable {κ β:Type} [DecidableEq κ]
def mc (c:κ->PV) (d:β->PV) (p:κ×β):List PV:=[c p.1,d p.2]
end
theorem ln {a b:Nat} (h:a=b:=by first | rfl | simp):a=b:=h
class vh {α:Type} (c:α->List PV):Prop where
 pure:∀x,(c x).all cu=true
instance:vh cI:=⟨adE⟩
instance (k:IntKind):vh (alo k):=⟨RG k⟩
instance:vh cB:=⟨adF⟩
instance:vh cT:=⟨adG⟩
instance:vh cS:=⟨adH⟩
instance {α:Type} (sz:Nat) (c:α->List PV):vh (cL sz c):=⟨adI sz c⟩
instance (a b:IntKind):vh (mc (PV.int a) (PV.int b)):=⟨λ_=>rfl⟩
instance (a:IntKind):vh (mc (PV.int a) PV.bool):=⟨λ_=>rfl⟩
instance (a:IntKind):vh (mc (PV.int a) PV.str):=⟨λ_=>rfl⟩
instance (b:IntKind):vh (mc PV.str (PV.int b)):=⟨λ_=>rfl⟩
instance:vh (mc PV.str PV.bool):=⟨λ_=>rfl⟩
instance:vh (mc PV.str PV.str):=⟨λ_=>rfl⟩
def agd {α:Type} (l:List α) (off:Nat) (s:List α):List α:=l.mapIdx λi x=>if i<off then x else if i<off+s.length then s.getD (i - off) x else x
@[simp] theorem alU {α:Type} (l:List α) (off:Nat) (s:List α):(agd l off s).length=l.length:=by unfold agd;simp
section
variable {h η:List ak} {k:List Nat}
theorem Fz.i {q:IntKind} {a b:Int} (e:a=b:=by rfl):Fz h η k (.int q a) (.int q b):=.int_eq e
theorem Fz.b {a b:Bool} (e:a=b:=by rfl):Fz h η k (.bool a) (.bool b):=.PB e
theorem Fz.s {a b:List UInt8} (e:a=b:=by rfl):Fz h η k (.str a) (.str b):=.Zu e
theorem Fz.l {sz n:Nat} {f:Nat->List PV}:Fz h η k (.ig sz n f) (.ig sz n f):=.ig _ _ _ _ (λ_ _=>rfl)
theorem Fz.z {α:Type} {c:α->List PV} {sz:Nat}:Fz h η k .cd (sl sz c []):=.age _ _
theorem Fz.g {id id' g' cr:Nat} {e':TypeId} {f':Nat->List PV} (hk:k[id']? =some id:=by rfl) (ho:h[id]? =none:=by rfl) (hη:η[id']? =some (ak.row g' cr 0 e' f'):=by rfl):Fz h η k .cd (.own id' g' 0 0):=.aAI id id' g' cr e' f' hk ho hη
theorem Fz.o {id id' g g' sz cr n len:Nat} {e e':TypeId} {f f':Nat->List PV} (hk:k[id']? =some id:=by rfl) (ho:h[id]? =some (ak.row g sz n e f):=by rfl) (hη:η[id']? =some (ak.row g' cr len e' f'):=by rfl):Fz h η k (.own id g 0 len) (.own id' g' 0 len):=
 .own _ _ _ _ _ _ _ _ _ _ _ _ _ _ hk ho hη (Nat.le_of_eq (aHJ _))
theorem Fz.p {id id' g g' sz cr n n' off:Nat} {e e':TypeId} {f f':Nat->List PV} (hk:k[id']? =some id:=by rfl) (ho:h[id]? =some (ak.row g sz n e f):=by rfl) (hη:η[id']? =some (ak.row g' cr (n'+1) e' f'):=by rfl):Fz h η k (.aC id g 0 off) (.aC id' g' 0 off):=
 .aC _ _ _ _ _ _ _ _ _ _ _ _ _ _ hk ho hη (Nat.succ_pos _)
theorem Fz.m {id id' g g' sz cr n n':Nat} {e e':TypeId} {f f':Nat->List PV} (hk:k[id']? =some id:=by rfl) (ho:h[id]? =some (ak.row g sz n e f):=by rfl) (hη:η[id']? =some (ak.row g' cr n' e' f'):=by rfl):Fz h η k (.oL id) (.oL id'):=
 .oL _ _ _ _ _ _ _ _ _ _ _ _ hk ho hη
theorem Fz.j {pv:PV}:Fz h η k pv .jf:=.jf _
theorem Fz.f {n:Nat}:Fz h η k (.fn n) (.fn n):=.fn _
theorem Fz.r {α:Type} {c:α->List PV} [vh c] {id g sz n:Nat} {e:TypeId} {l:List α} (ho:h[id]? =some (ak.row g sz n e (row c l)):=by rfl) (hk:id∉k:=by first | decide | simp):Fz h η k (.own id g 0 l.length) (sl sz c l):=ZE vh.pure hk ho bb
theorem Fz.rx {α:Type} {c:α->List PV} [vh c] {id g sz n len:Nat} {e:TypeId} {l:List α} (hl:len=l.length) (ho:h[id]? =some (ak.row g sz n e (row c l)):=by rfl) (hk:id∉k:=by first | decide | simp):Fz h η k (.own id g 0 len) (sl sz c l):=adL vh.pure hk ho bb hl
variable {m:Nat}
theorem od {α:Type} {c:α->List PV} [vh c] {id g sz:Nat} {e:TypeId} {l:List α} (ho:h[id]? =some (ak.row g sz l.length e (row c l)):=by rfl):yN h η k m (.row g sz l.length e (row c l)) id id:=by
 unfold yN;rw [ho];exact ⟨λ_=>⟨rfl,rfl⟩,rfl,.inl rfl,rfl,λi _=>sc (oQ vh.pure i)⟩
theorem ob {id g sz:Nat} {e:TypeId} {a b:List PV} (ho:h[id]? =some (ak.row g sz 1 e (λ_=>a))) (F:Aa h η k a b):yN h η k m (.row g sz 1 e (λ_=>b)) id id:=by
 unfold yN;rw [ho];exact ⟨λ_=>⟨rfl,rfl⟩,rfl,.inl rfl,rfl,λi _=>F⟩
theorem nw {α:Type} {c:α->List PV} [vh c] {i id g g' sz:Nat} {e:TypeId} {l:List α} (hi:Nat.ble m i=true:=by rfl) (ho:h[id]? =some (ak.row g sz l.length e (row c l)):=by rfl):yN h η k m (.row g' sz l.length e (row c l)) i id:=by
 unfold yN;rw [ho];exact ⟨λh0=>absurd h0 (Nat.not_lt.2 (aHV hi)),rfl,.inl rfl,rfl,λi _=>sc (oQ vh.pure i)⟩
theorem nb {i id g g' sz:Nat} {e:TypeId} {a b:List PV} (ho:h[id]? =some (ak.row g sz 1 e (λ_=>a))) (F:Aa h η k a b) (hi:Nat.ble m i=true:=by rfl):yN h η k m (.row g' sz 1 e (λ_=>b)) i id:=by
 unfold yN;rw [ho];exact ⟨λh0=>absurd h0 (Nat.not_lt.2 (aHV hi)),rfl,.inl rfl,rfl,λi _=>F⟩
theorem fM {id g sz:Nat} {e:TypeId} {a:List PV} (ho:h[id]? =some (ak.row g sz 1 e (λ_=>a))) (hp:a.all cu=true:=by rfl):yN h η k m (.row g sz 1 e (λ_=>a)) id id:=ob ho (sc hp)
theorem gg {i id g g' sz:Nat} {e:TypeId} {a:List PV} (ho:h[id]? =some (ak.row g sz 1 e (λ_=>a))) (hp:a.all cu=true:=by rfl) (hi:Nat.ble m i=true:=by rfl):yN h η k m (.row g' sz 1 e (λ_=>a)) i id:=nb ho (sc hp) hi
theorem dd {i id:Nat}:yN h η k m .dead i id:=by unfold yN;trivial
theorem gh {i id g' cr:Nat} {e':TypeId} {f':Nat->List PV} (hi:Nat.ble m i=true:=by rfl) (ho:h[id]? =none:=by rfl):yN h η k m (.row g' cr 0 e' f') i id:=by
 unfold yN;rw [ho];exact ⟨aHV hi,rfl⟩
theorem tk {env:Env} {σ:List (Nat×PV)} (k:List Nat) (he:PH h η k env σ) (hh:qe h η k m 0 η k) (hd:pg (oR η k)=true:=by rfl) (hl:Nat.ble m k.length=true:=by rfl):vi m env h σ η:=⟨k,hd,aHV hl,he,hh⟩
theorem ct {J:List (Nat×PV)->List ak->Prop} {env:Env} {σ:List (Nat×PV)} (hj:J σ η) (ht:vi m env h σ η):ym m J env h:=.mk σ η ht hj
theorem lg {body:(Env->List ak->Prop)->Env->List ak->Prop} {env:Env} {σ:List (Nat×PV)} (hj:aQ m body σ η) (ht:vi m env h σ η):loopGo m body env h:=.mk σ η ht hj
theorem le {body:(Env->List ak->Prop)->Env->List ak->Prop} {env:Env} {σ:List (Nat×PV)} (hj:aQ m body σ η) (ht:vi m env h σ η):qK m body env h:=.take σ η ht hj
theorem en {R:PV->List ak->Prop} {vs:List PV} {res:PV} (k:List Nat) (hR:R res η) (F:Fz h η k (oneOf vs) res) (hh:qe h η k m 0 η k) (hd:pg (oR η k)=true:=by rfl) (hl:Nat.ble m k.length=true:=by rfl) (hn:vs.all nu=true:=by rfl):Ends m R h vs:=by
 exact .mk hn k res η hd (aHV hl) F hh hR
theorem eB {a r:Bool} (hh:some a=some r):Ends 0 (λres h=>res=.bool r/\h=[]) h [.bool a]:=.mk rfl [] _ [] rfl (No _) (.PB (aIv hh)) trivial ⟨rfl,rfl⟩
theorem eI {q:IntKind} {a r:Int} (hh:some a=some r):Ends 0 (λres h=>res=.int q r/\h=[]) h [.int q a]:=.mk rfl [] _ [] rfl (No _) (.int_eq (aIv hh)) trivial ⟨rfl,rfl⟩
theorem eS {a r:List UInt8} (hh:some a=some r):Ends 0 (λres h=>res=.str r/\h=[]) h [.str a]:=.mk rfl [] _ [] rfl (No _) (.Zu (aIv hh)) trivial ⟨rfl,rfl⟩
end
section
variable {α:Type} {x y r:α} {T F:Prop}
theorem sD {c:Prop} [Decidable c] (h:(if c then x else y)=r) (kT:decide c=true->x=r->T) (kF:decide c=false->y=r->F):gJ (decide c) T F:=.mk (λhb=>kT hb (aAC hb h)) (λhb=>kF hb (aAD hb h))
theorem sE {β:Type} [BEq β] [LawfulBEq β] {a b:β} [Decidable (a=b)] (h:(if a=b then x else y)=r) (kT:(a==b)=true->x=r->T) (kF:(a==b)=false->y=r->F):gJ (a==b) T F:=.mk (λhb=>kT hb (Zz hb h)) (λhb=>kF hb (ZA hb h))
theorem sEn {β:Type} [BEq β] [LawfulBEq β] {a b:β} [Decidable (a=b)] (h:(if a=b then x else y)=r) (kT:(!(a==b))=true->y=r->T) (kF:(!(a==b))=false->x=r->F):gJ (!(a==b)) T F:=.mk (λhb=>kT hb (ZA (agc hb) h)) (λhb=>kF hb (Zz (agb hb) h))
theorem sN {β:Type} [BEq β] [LawfulBEq β] {a b:β} [Decidable (a=b)] (h:(if a=b then x else y)=r) (kT:(a != b)=true->y=r->T) (kF:(a != b)=false->x=r->F):gJ (a != b) T F:=.mk (λhb=>kT hb (aAE hb h)) (λhb=>kF hb (aAF hb h))
theorem sV {b:Bool} (h:(if b=true then x else y)=r) (kT:b=true->x=r->T) (kF:b=false->y=r->F):gJ b T F:=.mk (λhb=>kT hb (af9 hb h)) (λhb=>kF hb (aga hb h))
theorem jj {b:Bool} (h:(if b=true then x else y)=r) (kT:(!b)=true->y=r->T) (kF:(!b)=false->x=r->F):gJ (!b) T F:=.mk (λhb=>kT hb (aga (agc hb) h)) (λhb=>kF hb (af9 (agb hb) h))
end
theorem gJ.t {T F:Prop} (h:T):gJ true T F:=ZB h
theorem gJ.f {T F:Prop} (h:F):gJ false T F:=ZC h
theorem gJ.kt {b:Bool} {T F:Prop} (hb:b=true) (h:T):gJ b T F:=RF hb h
theorem vj.d {m:Nat} {A B:XQ->Env->List ak->Prop} {Q:XQ} {env:Env} {h:List ak} (hd:A (XQ.then (B Q) Q) env h):vj m A B Q env h:=.direct hd
inductive Nz:PV->PV->Prop
 | same (a:PV):Nz a a
 | nil (sz:Nat) (f:Nat->List PV):Nz .cd (.ig sz 0 f)
def NzL:List PV->List PV->Prop
 | [],[]=>True
 | a::l,b::r=>Nz a b/\NzL l r
 | _,_=>False
inductive NzA:PV->PV->Prop
 | same (a:PV):NzA a a
 | nil (sz:Nat) (f:Nat->List PV):NzA .cd (.ig sz 0 f)
 | agg {cs Ba:List PV} (h:NzL cs Ba):NzA (.agg cs) (.agg Ba)
def adM:List PV->List PV->Prop
 | [],[]=>True
 | a::l,b::r=>NzA a b/\adM l r
 | _,_=>False
theorem NzL.get:∀{l r:List PV},NzL l r->r.length=l.length/\∀(j:Nat) (p:PV),r[j]? =some p->∃q:PV,l[j]? =some q/\Nz q p
 | [],[],_=>⟨rfl,λj p h=>by simp at h⟩
 | a::l,b::r,h=>by
  obtain ⟨h1,h2⟩:=NzL.get h.2
  refine ⟨by simp [h1],λj p hj=>?_⟩
  cases j with
  | zero=>simp at hj;subst hj;exact ⟨a,rfl,h.1⟩
  | succ j=>obtain ⟨q,q1,q2⟩:=h2 j p aKZ;exact ⟨q,by simpa using q1,q2⟩
 | [],_::_,h=>h.elim
 | _::_,[],h=>h.elim
theorem adM.get:∀{l r:List PV},adM l r->r.length=l.length/\∀(j:Nat) (p:PV),r[j]? =some p->∃q:PV,l[j]? =some q/\NzA q p
 | [],[],_=>⟨rfl,λj p h=>by simp at h⟩
 | a::l,b::r,h=>by
  obtain ⟨h1,h2⟩:=adM.get h.2
  refine ⟨by simp [h1],λj p hj=>?_⟩
  cases j with
  | zero=>simp at hj;subst hj;exact ⟨a,rfl,h.1⟩
  | succ j=>obtain ⟨q,q1,q2⟩:=h2 j p aKZ;exact ⟨q,by simpa using q1,q2⟩
 | [],_::_,h=>h.elim
 | _::_,[],h=>h.elim
section
variable {P:Program} {f:FuncId} {args:List PV} {h:List ak} {K:PV->List ak->Prop} {r0:PV}
theorem cx (hA:ACall P f args [] (λres h=>res=r0/\h=[])) (k:K r0 h) (hp:args.all PG=true:=by rfl) (hr:∀n,tl n r0=r0:=by intro _;rfl):pA P f args h K:=
 ⟨_,hA.aAG h hp hr,by rintro _ _ ⟨rfl,rfl⟩;exact k⟩
theorem R9 {my:List PV} (hA:ACall P f my [] (λres h=>res=r0/\h=[])) (hz:Aa h [] [] args my) (k:K r0 h) (hn:my.all nu=true:=by rfl) (hf:PE r0=true:=by rfl) (hr:∀n,tl n r0=r0:=by intro _;rfl):pA P f args h K:=
 ⟨_,hA.aAH h hz hn hf hr,by rintro _ _ ⟨rfl,rfl⟩;exact k⟩
theorem shr {α:Type} {c:α->List PV} [vh c] (N g sz n:Nat) (e:TypeId) (l:List α):gU N (.row g sz n e (row c l))=.row g sz n e (row c l):=Nj vh.pure N g sz n e l
theorem rer {α:Type} {c:α->List PV} [vh c] (σ:Nat->Nat) (g sz n:Nat) (e:TypeId) (l:List α):r8 σ (.row g sz n e (row c l))=.row g sz n e (row c l):=J4 vh.pure σ g sz n e l
def ZF (h:List ak) (σ:Nat->Nat):List ak->List Nat->Prop
 | [],_=>True
 | o::r,i::is=>h[i]? =some (r8 σ o)/\ZF h σ r is
 | _::_,[]=>False
theorem ZF.get {h:List ak} {σ:Nat->Nat}:∀{hc:List ak} {is:List Nat},ZF h σ hc is->∀(j:Nat) (o:ak),hc[j]? =some o->∃i:Nat,is[j]? =some i/\h[i]? =some (r8 σ o)
 | [],_,_,j,o,hj=>by simp at hj
 | a::r,[],hh,_,_,_=>hh.elim
 | a::r,i::is,hh,0,o,hj=>by simp at hj;subst hj;exact ⟨i,rfl,hh.1⟩
 | a::r,i::is,hh,j+1,o,hj=>by
  obtain ⟨q,h1,h2⟩:=ZF.get hh.2 j o aKZ
  exact ⟨q,by simpa using h1,h2⟩
theorem ov {α:Type} {c:α->List PV} [vh c] {σ:Nat->Nat} {g sz n:Nat} {e:TypeId} {l:List α} {x:Option ak} (hx:x=some (.row g sz n e (row c l)):=by rfl):x=some (r8 σ (.row g sz n e (row c l))):=by rw [J4 vh.pure];exact hx
theorem ACall.PI {hc:List ak} {args jH:List PV} {R:PV->List ak->Prop} (hA:ACall P f args hc R) (is:List Nat) (h:List ak) (gT:ZF h (dC is h.length) hc is) (hl:hc.length=is.length) (hd:is.Nodup) (bg:is.all (λid=>Nat.blt id h.length)=true)
  (mn:jH=args.map (tf (dC is h.length))):ACall P f jH h (λres h'=>∃r0 h0,R r0 h0/\res=vd (dC is h.length) r0/\h'=ri h is h0):=
 hA.over is h hl hd (λid hid=>aHV (aHH.1 bg id hid)) (λj o hj=>by
  obtain ⟨i,h1,h2⟩:=gT.get j o hj
  unfold dC;rw [h1];exact h2) mn
theorem x9 {γ:Type} {h0:γ->List ak} {args jH:List PV} {R0:γ->PV} {hc:List ak} (hA:ACall P f args hc (λres h=>∃g,res=R0 g/\h=h0 g)) (is:List Nat) (gT:ZF h (dC is h.length) hc is) (R1:γ->PV) (H1:γ->List ak) (k:∀g,K (R1 g) (H1 g)) (e2:∀g,ri h is (h0 g)=H1 g:=by intro g;simp only [ri,ns,aHQ,aIr,List.drop,an,At,rer];rfl) (e1:∀g,vd (dC is h.length) (R0 g)=R1 g:=by intro _;rfl)
  (hl:hc.length=is.length:=by rfl) (hd:is.Nodup:=by decide) (bg:is.all (λid=>Nat.blt id h.length)=true:=by rfl) (mn:jH=args.map (tf (dC is h.length)):=by rfl):pA P f jH h K:=
 ⟨_,hA.PI is h gT hl hd bg mn,by rintro _ _ ⟨_,_,⟨g,rfl,rfl⟩,rfl,rfl⟩;rw [e1,e2];exact k g⟩
end
theorem si {α:Type} {a b:α} (h:some a=some b):a=b:=aIv h
theorem bk {α β:Type} {x:Option α} {f:α->Option β} {r:β} {G:Prop} (h:(x>>=f)=some r) (k:∀a,x=some a->f a=some r->G):G:=by
 obtain ⟨a,h1,h2⟩:=bind_some h
 exact k a h1 h2
theorem bd {α β:Type} {x:Option α} {f:α->Option β} {r:β} (h:(x>>=f)=some r):∃a,x=some a/\f a=some r:=bind_some h
def kg (cs:List (List PV)):Nat->List PV:=λi=>cs.getD i []
theorem A5 {cs Ba:List (List PV)} {i:Nat} (c:List PV) (h:Ba=cs.set i c:=by rfl):∀k,k≠i->kg Ba k=kg cs k:=λk hk=>by
 subst h
 unfold kg
 rw [aHL,aHL,aId (aIT hk)]
theorem alp {f f' q:Nat->List PV} {n i:Nat} (hi:i<n) (h:∀k,k≠i->f' k=f k):∀k,k≠i->Mo f' n q k=Mo f n q k:=λk hk=>by
 unfold Mo
 rw [h k hk]
structure DR {α:Type} (D:List PV->α->Prop) (n:Nat) (f:Nat->List PV) (l:List α):Prop where
 len:l.length=n
 at_:∀i (h:i<l.length),D (f i) l[i]
 z:∀i,n<=i->f i=[]
inductive OD1:PV->PV->Prop
 | p {a:PV} (h:cu a=true):OD1 a a
 | o {a b:PV} (h:CP a b):OD1 a b
def Fk:List PV->List PV->Prop
 | [],[]=>True
 | a::l,b::r=>OD1 a b/\Fk l r
 | _,_=>False
class Sn {α:Type} (D:List PV->α->Prop) (c:outParam (α->List PV)):Prop where
 frz:∀cs x,D cs x->Fk cs (c x)
def DEq {α:Type} (c:α->List PV):List PV->α->Prop:=λcs x=>cs=c x
theorem Fk.len:∀{l r:List PV},Fk l r->r.length=l.length
 | [],[],_=>rfl
 | a::l,b::r,h=>congrArg (·+1) (Fk.len h.2)
 | [],_::_,h=>h.elim
 | _::_,[],h=>h.elim
theorem Fk.get:∀{l r:List PV},Fk l r->∀{j:Nat} {a b:PV},l[j]? =some a->r[j]? =some b->OD1 a b
 | a::l,b::r,h,0,x,y,hx,hy=>by simp at hx hy;subst hx hy;exact h.1
 | a::l,b::r,h,j+1,x,y,hx,hy=>Fk.get h.2 (by simpa using hx) aLp
 | [],_,h,j,x,y,hx,hy=>by simp at hx
 | _::_,[],h,_,_,_,_,_=>h.elim
theorem Fk.pure:∀{l:List PV},l.all cu=true->Fk l l
 | [],_=>trivial
 | a::l,h=>by
  simp only [aHS,As] at h
  exact ⟨.p h.1,Fk.pure h.2⟩
theorem CP.isO {a b:PV} (h:CP a b):dW a=true:=by cases h;rfl
theorem CP.PJ {a b:PV} (h:CP a b):cu b=true:=by cases h;rfl
theorem OD1.po {a b:PV} (h:OD1 a b):cu a=true\/dW a=true:=by
 cases h with
 | p h=>exact .inl h
 | o h=>exact .inr h.isO
theorem OD1.PJ {a b:PV} (h:OD1 a b):cu b=true:=by
 cases h with
 | p h=>exact h
 | o h=>exact h.PJ
theorem Fk.po {l r:List PV} (h:Fk l r):∀c,c∈l->cu c=true\/dW c=true:=λc hc=>by
 obtain ⟨j,hj,rfl⟩:=List.getElem_of_mem hc
 have hl:=h.len
 exact (h.get (abF hj) (abF (show j<r.length by omega))).po
instance {α:Type} (c:α->List PV) [hp:vh c]:Sn (DEq c) c:=⟨λcs x h=>by
 have h:cs=c x:=h
 subst h;exact Fk.pure (hp.pure x)⟩
theorem Nk {a:PV} (h:dW a=true):cu a=false:=by cases a<;>first | rfl | cases h
theorem ZG {σ:Nat->Nat} {a:PV} (h:cu a=true\/dW a=true):kV σ a=a:=by cases a<;>first | rfl | (rcases h with h | h<;>cases h)
theorem ZH {N:Nat} {a:PV} (h:cu a=true\/dW a=true):nZ N a=a:=by cases a<;>first | rfl | (rcases h with h | h<;>cases h)
theorem G2 {g:PV->PV}:∀{l:List PV},(∀c,c∈l->g c=c)->l.map g=l
 | [],_=>rfl
 | a::l,h=>by simp only [aHQ];rw [h a aKN,G2 (λc hc=>h c (by simp [hc]))]
section
variable {α:Type} {D:List PV->α->Prop} {c:α->List PV} {n:Nat} {f:Nat->List PV} {l:List α}
theorem ZI (hD:∀i (h:i<l.length),Fk (f i) (c l[i])) (hl:l.length=n) (sz:Nat) (e:TypeId) (F:Nat->Prop):CP (.dY sz n e f F) (sl sz c l):=by
 subst hl
 have at_:∀i,i<l.length->Fk (f i) (row c l i):=λi hi=>by rw [rj hi];exact hD i hi
 refine .mk sz l.length e f (row c l) F (λi hi=>(at_ i hi).len) (λi j pv gw hi h1 h2 hn=>?_) (λi j pv gw hi h1 h2 hn=>?_) (λi j gw hi h2=>?_)
 ·cases (at_ i hi).get h1 h2 with
  | p _=>rfl
  | o h=>rw [h.isO] at hn;cases hn
 ·cases (at_ i hi).get h1 h2 with
  | p h=>rw [Nk hn] at h;cases h
  | o h=>exact h
 ·have hj:j<(f i).length:=by rw [<-(at_ i hi).len];exact (An.1 h2).1
  exact ((at_ i hi).get (abF hj) h2).PJ
theorem DR.od [hc:Sn D c] (d:DR D n f l):∀i (h:i<l.length),Fk (f i) (c l[i]):=λi h=>hc.frz _ _ (d.at_ i h)
theorem DR.po [hc:Sn D c] (d:DR D n f l):∀i,i<n->∀x,x∈f i->cu x=true\/dW x=true:=λi hi=>(d.od (c:=c) i (by rw [d.len];exact hi)).po
theorem DR.ren [hc:Sn D c] (d:DR D n f l) {g:PV->PV} (hg:∀x,cu x=true\/dW x=true->g x=x):(λi=>(f i).map g)=f:=by
 funext i
 by_cases hi:i<n
 ·exact G2 (λx hx=>hg x (d.po (c:=c) i hi x hx))
 ·rw [d.z i aKK];rfl
theorem red [hc:Sn D c] (d:DR D n f l) (σ:Nat->Nat) (g sz n':Nat) (e:TypeId):r8 σ (.row g sz n' e f)=.row g sz n' e f:=by
 show ak.row g sz n' e (λi=>(f i).map (kV σ))=_
 rw [d.ren (c:=c) (λx=>ZG)]
theorem shd [hc:Sn D c] (d:DR D n f l) (N g sz n':Nat) (e:TypeId):gU N (.row g sz n' e f)=.row g sz n' e f:=by
 show ak.row g sz n' e (λi=>(f i).map (nZ N))=_
 rw [d.ren (c:=c) (λx=>ZH)]
theorem Q9 [hc:Sn D c] (d:DR D n f l) {σ:Nat->Nat} {g sz n':Nat} {e:TypeId} {x:Option ak} (hx:x=some (.row g sz n' e f):=by rfl):x=some (r8 σ (.row g sz n' e f)):=by rw [red (c:=c) d];exact hx
theorem DR.self (d:DR D n f l):DR D l.length f l:=by have h:=d.len;subst h;exact d
theorem DR.nil:DR D 0 (λ_=>[]) []:=⟨rfl,λi h=>absurd h (aIs _),λ_ _=>rfl⟩
theorem iX {f:Nat->List PV} {i:Nat} {cs:List PV}:dV f i cs i=cs:=by
 unfold dV
 rw [show Nat.beq i i=true from aIW i]
 rfl
theorem ly {f:Nat->List PV} {i k:Nat} {cs:List PV} (h:k≠i):dV f i cs k=f k:=by
 unfold dV
 rw [show Nat.beq k i=false from aJr.2 (λq=>h (Of q))]
 rfl
theorem DR.set (d:DR D n f l) {i:Nat} (hi:i<l.length) {cs:List PV} {x:α} (hx:D cs x):DR D n (dV f i cs) (l.set i x):=by
 refine ⟨by rw [aJw];exact d.len,λk hk=>?_,λk hk=>?_⟩
 ·rw [aJw] at hk
  rw [List.getElem_set]
  by_cases h:i=k
  ·subst h;rw [if_pos rfl,iX];exact hx
  ·rw [if_neg h,ly (aIT h)];exact d.at_ k hk
 ·have:=d.len
  rw [ly aKK];exact d.z k hk
theorem DR.app (d:DR D n f l) {cs:List PV} {x:α} (hx:D cs x):DR D (n+1) (dV f n cs) (l++[x]):=by
 have hl:=d.len
 refine ⟨by simp [hl],λk hk=>?_,λk hk=>?_⟩
 ·by_cases h:k=n
  ·subst h
   rw [iX,aJd aKK]
   simp only [hl,aIR,aJs]
   exact hx
  ·rw [ly h,aJe (by simp at hk;omega)];exact d.at_ k (by simp at hk;omega)
 ·rw [ly aKK];exact d.z k aKK
theorem DR.idx [Inhabited α] (d:DR D n f l) {i:Int} {x:α} (h:Go.Am.idx l i=some x):D (f i.toNat) x:=by
 have h1:=ZD h
 obtain ⟨h2,h3⟩:=An.1 h1
 rw [<-h3];exact d.at_ _ h2
theorem DR.lt [Inhabited α] (d:DR D n f l) {i:Int} {x:α} (h:Go.Am.idx l i=some x):i.toNat<n:=by rw [<-d.len];exact MZ h
theorem DR.bd [Inhabited α] (d:DR D n f l) {i:Int} {x:α} (h:Go.Am.idx l i=some x):0<=i/\i<(n:Int):=by rw [<-d.len];exact bn h
variable {h η:List ak} {k:List Nat} {m:Nat}
theorem aAJ {a:PV} (hp:cu a=true\/dW a=true):Fz h η k a a:=by
 cases a<;>first | exact G0 rfl | exact .dY _ _ _ _ _ | (rcases hp with hp | hp<;>cases hp)
theorem Nl:∀{l:List PV},(∀c,c∈l->cu c=true\/dW c=true)->Aa h η k l l
 | [],_=>trivial
 | a::l,hp=>⟨aAJ (hp a aKN),Nl (λc hc=>hp c (by simp [hc]))⟩
theorem Fz.rd [hc:Sn D c] {id g sz n0 n':Nat} {e:TypeId} (d:DR D n f l) (hn:n'=l.length:=by first | rfl | simp [*]) (ho:h[id]? =some (ak.row g sz n0 e f):=by rfl) (hk:id∉k:=by first | decide | simp):Fz h η k (.own id g 0 n') (sl sz c l):=by
 subst hn
 have at_:∀i,i<l.length->Fk (f i) (row c l i):=λi hi=>by rw [rj hi];exact d.od (c:=c) i hi
 refine .frz id g sz n0 0 l.length e f (row c l) hk ho (λi hi=>by rw [aHJ];exact (at_ i hi).len) (λi j gw hi h2=>?_) (λi j pv gw hi h1 h2 xB=>?_)
 ·have hj:j<(f i).length:=by rw [<-(at_ i hi).len];exact (An.1 h2).1
  exact ((at_ i hi).get (abF hj) h2).PJ
 ·rw [aHJ] at h1
  cases (at_ i hi).get h1 h2 with
  | p h=>exact G0 h
  | o h=>exact absurd h xB
theorem odd [hc:Sn D c] {id g sz n0 n':Nat} {e:TypeId} (d:DR D n f l) (hn:n'=n0:=by first | rfl | simp [*]) (hle:n'=n:=by first | rfl | simp [*]) (ho:h[id]? =some (ak.row g sz n0 e f):=by rfl):yN h η k m (.row g sz n' e f) id id:=by
 subst hn hle
 unfold yN;rw [ho];exact ⟨λ_=>⟨rfl,rfl⟩,rfl,.inl rfl,rfl,λi hi=>Nl (d.po (c:=c) i hi)⟩
theorem bu [hc:Sn D c] {i id g g' sz n0 n':Nat} {e:TypeId} (d:DR D n f l) (hn:n'=n0:=by first | rfl | simp [*]) (hle:n'=n:=by first | rfl | simp [*]) (hi:Nat.ble m i=true:=by rfl) (ho:h[id]? =some (ak.row g sz n0 e f):=by rfl):yN h η k m (.row g' sz n' e f) i id:=by
 subst hn hle
 unfold yN;rw [ho];exact ⟨λh0=>absurd h0 (Nat.not_lt.2 (aHV hi)),rfl,.inl rfl,rfl,λi hi=>Nl (d.po (c:=c) i hi)⟩
theorem Fz.od {id id' g g' sz cr n0 n1 n2 n3:Nat} {e e':TypeId} {f f':Nat->List PV} (h1:n1=n2:=by first | rfl | simp [*]) (h2:n2=n3:=by first | rfl | simp [*]) (hk:k[id']? =some id:=by rfl) (ho:h[id]? =some (ak.row g sz n0 e f):=by rfl) (hη:η[id']? =some (ak.row g' cr n3 e' f'):=by rfl):Fz h η k (.own id g 0 n1) (.own id' g' 0 n2):=by
 subst h1 h2
 exact .own _ _ _ _ _ _ _ _ _ _ _ _ _ _ hk ho hη (Nat.le_of_eq (aHJ _))
theorem exs (id:Nat) {g sz n:Nat} {e:TypeId} {f:Nat->List PV} {i cr n':Nat} {e':TypeId} {f':Nat->List PV} {F:Nat->Prop} (j:Nat) (cs cs1:List PV) (f1:Nat->List PV) (hi:i<n) (hc:f i=cs) (h1:f1 i=cs1) (hr:∀k,k≠i->f1 k=f k)
  (hj:cs[j]? =some (.dY cr n' e' f' F):=by rfl) (hs:cs1=cs.set j (.own h.length 0 0 n'):=by rfl) (ho:h[id]? =some (.row g sz n e f):=by rfl) {h2:List ak} (h3:h2=h.set id (.row g sz n e f1)++[.row 0 cr n' e' f']:=by rfl):J5 h h2:=
 ⟨id,g,sz,n,e,f,i,j,cr,n',e',f',F,f1,ho,hi,by rw [hc];exact hj,by rw [h1,hc,hs],λk _ hk=>hr k hk,h3⟩
theorem YI {id sub g sz n:Nat} {e:TypeId} {f:Nat->List PV} {g2 lG n2:Nat} {e2:TypeId} {f2:Nat->List PV} {i:Nat} {j:Nat} {F:Nat->Prop} (cs cs1:List PV) (f1:Nat->List PV) (hi:i<n) (hc:f i=cs) (h1:f1 i=cs1) (hr:∀k,k≠i->f1 k=f k)
  (hp:∀k,k<n2->∀x,x∈f2 k->cu x=true\/dW x=true) (hj:cs[j]? =some (.own sub g2 0 n2):=by rfl) (hs:cs1=cs.set j (.dY lG n2 e2 f2 F):=by rfl) (ho:h[id]? =some (.row g sz n e f):=by rfl) (Vg:h[sub]? =some (.row g2 lG n2 e2 f2):=by rfl) (mJ:id≠sub:=by decide)
  {h2:List ak} (h3:h2=(h.set id (.row g sz n e f1)).set sub .dead:=by rfl):AL h id i j sub F h2:=
 ⟨g,sz,n,e,f,g2,lG,n2,e2,f2,f1,ho,Vg,mJ,hi,by rw [hc];exact hj,hp,by rw [h1,hc,hs],λk _ hk=>hr k hk,h3⟩
theorem alq {f:Nat->List PV} {i off n:Nat} {c0 cv cs:List PV} (hc:nY (gF c0 off cv) cs):∀j,j<n->nY (dV f i (gF c0 off cv) j) (dV f i cs j):=λj _=>by
 by_cases h:j=i
 ·subst h;rw [iX,iX];exact hc
 ·rw [ly h,ly h];exact nY.refl _
theorem PK {f:Nat->List PV} {i off n:Nat} {c0 cq cv cs:List PV} (hc:nY (gF c0 off cv) cs):∀j,j<n->nY (dV (dV f i cq) i (gF c0 off cv) j) (dV f i cs j):=λj _=>by
 by_cases h:j=i
 ·subst h;rw [iX,iX];exact hc
 ·rw [ly h,ly h,ly h];exact nY.refl _
theorem akS {f:Nat->List PV} {i:Nat} {cs:List PV}:∀k,k≠i->dV f i cs k=f k:=λk h=>ly h
theorem PL {f:Nat->List PV} {i:Nat} {cs cq:List PV}:∀k,k≠i->dV f i cs k=dV f i cq k:=λk h=>by rw [ly h,ly h]
theorem dE {f:Nat->List PV} {n N:Nat} {cs cq:List PV} (hN:N=n+1) (hc:nY cs cq):∀i,i<N->nY (bif Nat.blt i n then f (0+i) else cs) (dV f n cq i):=λi hi=>by
 subst hN
 by_cases h:i<n
 ·rw [Zw h,ly aKK,aHJ];exact nY.refl _
 ·obtain rfl:i=n:=by omega
  rw [Zx aKK,iX];exact hc
theorem abN {N:Nat} {cs cq:List PV} (hN:N=1) (hc:nY cs cq):∀i,i<N->nY cs (dV (λ_=>[]) 0 cq i):=λi hi=>by
 subst hN
 obtain rfl:i=0:=by omega
 rw [iX];exact hc
end
section
variable {P:Program} {f:FuncId} {args:List PV} {h:List ak} {K:PV->List ak->Prop} {R:PV->List ak->Prop}
theorem az2 {hc:List ak} {jH:List PV} (hA:ACall P f args hc R) (is:List Nat) (gT:ZF h (dC is h.length) hc is)
  (k:∀r0 h0,R r0 h0->∃r1 h1,vd (dC is h.length) r0=r1/\ri h is h0=h1/\K r1 h1)
  (mn:jH=args.map (tf (dC is h.length)):=by rfl) (hl:hc.length=is.length:=by rfl) (hd:is.Nodup:=by decide) (bg:is.all (λid=>Nat.blt id h.length)=true:=by rfl):pA P f jH h K:=
 ⟨_,hA.PI is h gT hl hd bg mn,by
  rintro _ _ ⟨r0,h0,hR,rfl,rfl⟩
  obtain ⟨r1,h1,rfl,rfl,hk⟩:=k r0 h0 hR
  exact hk⟩
theorem alr (hA:ACall P f args [] R) (k:∀r0 h0,R r0 h0->∃r1 h1,tl h.length r0=r1/\h++h0.map (gU h.length)=h1/\K r1 h1) (hp:args.all PG=true:=by rfl):pA P f args h K:=
 ⟨_,hA.frame h hp,by
  rintro _ _ ⟨r0,h0,hR,rfl,rfl⟩
  obtain ⟨r1,h1,rfl,rfl,hk⟩:=k r0 h0 hR
  exact hk⟩
end
def vk (cs:List PV):Prop:=∀c∈cs,(dW c=false->qf c=true)/\(dW c=true->OG (λpv=>qf pv=true) c)
class Fl1 {α:Type} (c:α->List PV):Prop where
 fl:∀x,(c x).all qf=true
class Dfl {α:Type} (D:List PV->α->Prop):Prop where
 fl:∀cs x,D cs x->vk cs
instance:Fl1 cI:=⟨λ_=>rfl⟩
instance (k:IntKind):Fl1 (alo k):=⟨λ_=>rfl⟩
instance:Fl1 cB:=⟨λ_=>rfl⟩
instance:Fl1 cT:=⟨λ_=>rfl⟩
instance:Fl1 cS:=⟨λ_=>rfl⟩
theorem J6 {a:PV} (h:qf a=true):dW a=false:=by cases a<;>first | rfl | cases h
theorem aFp:vk []:=λc hc=>absurd hc aJE
theorem als {a:PV} {l:List PV} (t:vk l) (h:qf a=true:=by rfl):vk (a::l):=λc hc=>by
 rcases aHM.1 hc with rfl | hc
 ·exact ⟨λ_=>h,λq=>by rw [J6 h] at q;cases q⟩
 ·exact t c hc
theorem alu {l:List PV} (h:l.all qf=true):vk l:=λc hc=>⟨λ_=>aHH.1 h c hc,λq=>by rw [J6 (aHH.1 h c hc)] at q;cases q⟩
theorem aAK {sz n:Nat} {e:TypeId} {f:Nat->List PV} {F:Nat->Prop} (h:∀i,i<n->vk (f i)):OG (λpv=>qf pv=true) (.dY sz n e f F):=
 .mk sz n e f F (λi j pv hi hj hn=>(h i hi pv (aHU hj)).1 hn) (λi j _ _ _ _ _ hi hj=>(h i hi _ (aHU hj)).2 rfl)
theorem aFq {sz n:Nat} {e:TypeId} {f:Nat->List PV} {F:Nat->Prop} {l:List PV} (h:∀i,i<n->vk (f i)) (t:vk l):vk (.dY sz n e f F::l):=λc hc=>by
 rcases aHM.1 hc with rfl | hc
 ·exact ⟨λq=>(by cases q),λ_=>aAK h⟩
 ·exact t c hc
instance {α:Type} (c:α->List PV) [h:Fl1 c]:Dfl (DEq c):=⟨λcs x q=>by
 have q:cs=c x:=q
 subst q;exact alu (h.fl x)⟩
theorem dx {cs:List PV}:∀i,i<1->nY ([cs].getD i []) ((λ_=>cs) i):=λi hi=>by
 obtain rfl:i=0:=by omega
 exact nY.refl _
theorem J7:∀{l:List PV},l.all cu=true->noO l=true
 | [],_=>rfl
 | a::l,h=>by
  simp only [aHS,As] at h
  have:=J7 h.2
  cases a<;>first | exact this | (have h1:=h.1;cases h1)
theorem mf {α:Type} {c:α->List PV} [hp:vh c] {f:Nat->List PV} {off:Nat} {l:List α} (hs:CO c f off l):∀i,i<l.length->noO (f (off+i))=true:=λi hi=>by
 rw [hs i hi];exact J7 (oQ hp.pure i)
section
variable {α:Type} {D:List PV->α->Prop} {n:Nat} {f:Nat->List PV} {l q:List α} {x:α} {b:Nat}
theorem J8 (h:db b l [x]=some q):l++[x]=q:=(dk h).2
theorem DR.jE (d:DR D n f l) (h:db b l [x]=some q) {cs:List PV} (hx:D cs x):DR D q.length (dV f n cs) q:=by
 have h1:=J8 h
 subst h1
 exact (d.app hx).self
theorem DR.ln (d:DR D n f l) (h:db b l [x]=some q):q.length=n+1:=by
 have h1:=J8 h
 subst h1
 simp [d.len]
theorem DR.lq (d:DR D n f l) (h:db b l [x]=some q):n<q.length:=by rw [d.ln h];exact aHP n
theorem DR.xA (d:DR D n f l) (h:db b l [x]=some q):(n+1)*b<=140737488355328:=by
 have h1:=iY h
 rw [d.len] at h1
 exact h1
theorem DR.dL:DR D 0 (kg []) []:=⟨rfl,λi h=>absurd h (aIs _),λ_ _=>rfl⟩
theorem DR.cp {cs:List PV} {l':List (List PV)} (hx:D cs x) (d:DR D n (kg l') l):DR D (n+1) (kg (cs::l')) (x::l):=
 ⟨by simp [d.len],λi h=>by
  cases i with
  | zero=>exact hx
  | succ i=>exact d.at_ i aLi,λi hi=>by
  cases i with
  | zero=>omega
  | succ i=>exact d.z i aKK⟩
theorem DR.jn {m:Nat} {f2:Nat->List PV} {l2:List α} (d:DR D n f l) (d2:DR D m f2 l2):DR D (n+m) (Mo f n f2) (l++l2):=
 ⟨by simp [d.len,d2.len],λi h=>by
  unfold Mo
  by_cases hi:i<n
  ·have hb:Nat.blt i n=true:=by simpa using hi
   rw [hb,aJe (by rw [d.len];exact hi)]
   exact d.at_ i _
  ·have hb:Nat.blt i n=false:=by
    rw [aJr]
    intro hh
    exact hi aLx
   have hl:=d.len
   have h':i<l.length+l2.length:=by simpa using h
   rw [hb,aJd aKK]
   have:=d2.at_ (i - n) aKK
   simp only [hl]
   exact this,λi hi=>by
  unfold Mo
  have hb:Nat.blt i n=false:=by
   rw [aJr]
   intro hh
   have:i<n:=by simpa using hh
   omega
  rw [hb]
  exact d2.z _ aKK⟩
theorem DR.jnq {m:Nat} {f2:Nat->List PV} {l2:List α} (d:DR D n f l) (d2:DR D m f2 l2) (h:db b l l2=some q):DR D (n+m) (Mo f n f2) q:=by
 have h1:l++l2=q:=(dk h).2
 subst h1
 exact d.jn d2
theorem DR.jbd {m:Nat} {l2:List α} (hl:l.length=n) (hm:l2.length=m) (h:db b l l2=some q):(n+m)*b<=140737488355328:=by
 subst hl;subst hm;exact iY h
end
def adN (f:Nat->List PV):Prop:=∀g:PV->PV,(∀x,cu x=true\/dW x=true->g x=x)->(λi=>(f i).map g)=f
theorem DR.ZJ {α:Type} {D:List PV->α->Prop} {c:α->List PV} [hc:Sn D c] {n:Nat} {f:Nat->List PV} {l:List α} (d:DR D n f l):adN f:=λg hg=>d.ren (c:=c) hg
theorem vm {α:Type} {c:α->List PV} [hp:vh c] {l:List α}:adN (row c l):=λg hg=>by
 funext i
 exact G2 (λx hx=>hg x (.inl (aHH.1 (oQ hp.pure i) x hx)))
theorem vn {cs:List PV} (h:cs.all cu=true):adN (λ_=>cs):=λg hg=>by
 funext i
 exact G2 (λx hx=>hg x (.inl (aHH.1 h x hx)))
theorem rfx {f:Nat->List PV} (h:adN f) (σ:Nat->Nat) (g sz n:Nat) (e:TypeId):r8 σ (.row g sz n e f)=.row g sz n e f:=by
 show ak.row g sz n e (λi=>(f i).map (kV σ))=_
 rw [h _ (λx=>ZG)]
theorem vo {cs:List PV} {σ:Nat->Nat} {g sz n:Nat} {e:TypeId}:r8 σ (.row g sz n e (λ_=>cs))=.row g sz n e (λ_=>cs.map (kV σ)):=rfl
theorem sd {σ:Nat->Nat}:r8 σ .dead=.dead:=rfl
theorem nx {h h0 h1:List ak} {is:List Nat} {r0 r1:PV} {K:PV->List ak->Prop} (k:K r1 h1)
  (hr:vd (dC is h.length) r0=r1:=by simp only [vd,tf,kV,dC,aHQ,aIr,an,At,aIq,aIm,aIG,Nat.reduceAdd,Nat.reduceSub];rfl)
  (hh:ri h is h0=h1:=by
   simp (disch:=first | rfl | exact DR.ZJ aLk | exact vm | exact vn rfl) only [ri,ns,rfx,vo,sd,kV,dC,aHQ,aIr,aIV,aHY,aJt,an,At,aJa,aJg,aIM,aIg,aIq,aIm,aIG,Nat.reduceAdd,Nat.reduceSub]
   rfl):∃r1 h1,vd (dC is h.length) r0=r1/\ri h is h0=h1/\K r1 h1:=⟨r1,h1,hr,hh,k⟩
section
variable {P:Program} {f:FuncId} {h:List ak} {K:PV->List ak->Prop} {r0 r1:PV} {h0 h1:List ak}
theorem aFr {hc:List ak} {args jH:List PV} (hA:ACall P f args hc (λres h=>res=r0/\h=h0)) (is:List Nat) (gT:ZF h (dC is h.length) hc is) (k:K r1 h1)
  (hr:vd (dC is h.length) r0=r1:=by simp only [vd,tf,kV,dC,aHQ,aIr,an,At,aIq,aIm,aIG,Nat.reduceAdd,Nat.reduceSub];rfl)
  (hh:ri h is h0=h1:=by
   simp (disch:=first | rfl | exact DR.ZJ aLk | exact vm | exact vn rfl) only [ri,ns,rfx,vo,sd,kV,dC,aHQ,aIr,aIV,aHY,aJt,an,At,aJa,aJg,aIM,aIg,aIq,aIm,aIG,Nat.reduceAdd,Nat.reduceSub]
   rfl)
  (hl:hc.length=is.length:=by rfl) (hd:is.Nodup:=by decide) (bg:is.all (λid=>Nat.blt id h.length)=true:=by rfl) (mn:jH=args.map (tf (dC is h.length)):=by rfl):pA P f jH h K:=
 ⟨_,hA.PI is h gT hl hd bg mn,by rintro _ _ ⟨_,_,⟨rfl,rfl⟩,rfl,rfl⟩;rw [hr,hh];exact k⟩
theorem cb {hc:List ak} {args jH:List PV} (hA:ACall P f args hc (λres h=>res=r0/\h=h0)) (is:List Nat) (k:K r1 h1) (gT:ZF h (dC is h.length) hc is:=by exact ⟨rfl,⟨⟩⟩)
  (hr:vd (dC is h.length) r0=r1:=by simp only [vd,tf,kV,dC,aHQ,aIr,an,At,aIq,aIm,aIG,Nat.reduceAdd,Nat.reduceSub];rfl)
  (hh:ri h is h0=h1:=by
   simp (disch:=first | rfl | exact DR.ZJ aLk | exact vm | exact vn rfl) only [ri,ns,rfx,vo,sd,kV,dC,aHQ,aIr,aIV,aHY,aJt,an,At,aJa,aJg,aIM,aIg,aIq,aIm,aIG,Nat.reduceAdd,Nat.reduceSub]
   rfl)
  (hl:hc.length=is.length:=by rfl) (hd:is.Nodup:=by decide) (bg:is.all (λid=>Nat.blt id h.length)=true:=by rfl) (mn:jH=args.map (tf (dC is h.length)):=by rfl):pA P f jH h K:=aFr hA is gT k hr hh hl hd bg mn
theorem Sd {α:Type} {D:List PV->α->Prop} {n:Nat} {l:List α} {hc:List ak} {args jH:List PV} {X R1:(Nat->List PV)->PV} {H H1:(Nat->List PV)->List ak} (hA:ACall P f args hc (λres h=>∃F,DR D n F l/\res=X F/\h=H F)) (is:List Nat) (gT:ZF h (dC is h.length) hc is) (k:∀F,DR D n F l->K (R1 F) (H1 F))
  (hr:∀F,DR D n F l->vd (dC is h.length) (X F)=R1 F:=by intro F d;simp only [vd,tf,kV,dC,aHQ,aIr,an,At,aIq,aIm,aIG,Nat.reduceAdd,Nat.reduceSub];rfl)
  (hh:∀F,DR D n F l->ri h is (H F)=H1 F:=by
   intro F d
   simp (disch:=first | rfl | exact DR.ZJ aLk | exact vm | exact vn rfl) only [ri,ns,rfx,vo,sd,kV,dC,aHQ,aIr,aIV,aHY,aJt,an,At,aJa,aJg,aIM,aIg,aIq,aIm,aIG,Nat.reduceAdd,Nat.reduceSub]
   rfl)
  (hl:hc.length=is.length:=by rfl) (hd:is.Nodup:=by decide) (bg:is.all (λid=>Nat.blt id h.length)=true:=by rfl) (mn:jH=args.map (tf (dC is h.length)):=by rfl):pA P f jH h K:=
 ⟨_,hA.PI is h gT hl hd bg mn,by rintro _ _ ⟨_,_,⟨F,d,rfl,rfl⟩,rfl,rfl⟩;rw [hr F d,hh F d];exact k F d⟩
theorem bz {α:Type} {D:List PV->α->Prop} {n:Nat} {l:List α} {hc:List ak} {args jH:List PV} {X R1:(Nat->List PV)->PV} {H H1:(Nat->List PV)->List ak} (hA:ACall P f args hc (λres h=>∃F,DR D n F l/\res=X F/\h=H F)) (is:List Nat) (k:∀F,DR D n F l->K (R1 F) (H1 F)) (gT:ZF h (dC is h.length) hc is:=by exact ⟨rfl,⟨⟩⟩)
  (hr:∀F,DR D n F l->vd (dC is h.length) (X F)=R1 F:=by intro F d;simp only [vd,tf,kV,dC,aHQ,aIr,an,At,aIq,aIm,aIG,Nat.reduceAdd,Nat.reduceSub];rfl)
  (hh:∀F,DR D n F l->ri h is (H F)=H1 F:=by
   intro F d
   simp (disch:=first | rfl | exact DR.ZJ aLk | exact vm | exact vn rfl) only [ri,ns,rfx,vo,sd,kV,dC,aHQ,aIr,aIV,aHY,aJt,an,At,aJa,aJg,aIM,aIg,aIq,aIm,aIG,Nat.reduceAdd,Nat.reduceSub]
   rfl)
  (hl:hc.length=is.length:=by rfl) (hd:is.Nodup:=by decide) (bg:is.all (λid=>Nat.blt id h.length)=true:=by rfl) (mn:jH=args.map (tf (dC is h.length)):=by rfl):pA P f jH h K:=Sd hA is gT k hr hh hl hd bg mn
end
theorem ao {c0 cv:List PV} {off:Nat} {f:Nat->List PV}:∀j,j<1->nY (dV f 0 (gF c0 off cv) j) ((λ_=>gF c0 off cv) j):=adJ rfl
theorem cJ {n:Nat} {l:List (List PV)}:∀i,i<n->nY (l.getD i []) (kg l i):=λi _=>nY.refl _
section
variable {h:List ak} {id sub g sz n g2 lG n2:Nat} {e e2:TypeId} {f2:Nat->List PV} {i j:Nat} {F:Nat->Prop}
theorem rT {f:Nat->List PV} {cq c1:List PV} (hi:i<n) (hp:∀k,k<n2->∀x,x∈f2 k->cu x=true\/dW x=true) (ho:h[id]? =some (.row g sz n e (dV f i cq)):=by rfl) (hj:cq[j]? =some (.own sub g2 0 n2):=by rfl)
  (Vg:h[sub]? =some (.row g2 lG n2 e2 f2):=by rfl) (hs:cq.set j (.dY lG n2 e2 f2 F)=c1:=by rfl) (mJ:id≠sub:=by decide) {h2:List ak} (h3:h2=(h.set id (.row g sz n e (dV f i c1))).set sub .dead:=by rfl):AL h id i j sub F h2:=
 YI cq c1 (dV f i c1) hi iX iX PL hp hj hs.symm ho Vg mJ h3
theorem PM {cs:List (List PV)} {i:Nat} {c:List PV} (h:cs[i]? =some c):kg cs i=c:=by unfold kg;rw [aHL,h];rfl
theorem Ka {cs:List (List PV)} {i:Nat} {c c1:List PV} (h:cs[i]? =some c):kg (cs.set i c1) i=c1:=by
 unfold kg
 rw [aHL,aIx (An.1 h).1];rfl
theorem iB {cs:List (List PV)} {cq c1:List PV} {ds:List (List PV)} (hp:∀k,k<n2->∀x,x∈f2 k->cu x=true\/dW x=true) (ho:h[id]? =some (.row g sz n e (kg cs)):=by rfl) (hc:cs[i]? =some cq:=by rfl) (hj:cq[j]? =some (.own sub g2 0 n2):=by rfl)
  (Vg:h[sub]? =some (.row g2 lG n2 e2 f2):=by rfl) (hs:cq.set j (.dY lG n2 e2 f2 F)=c1:=by rfl) (hd:cs.set i c1=ds:=by rfl) (hi:Nat.blt i n=true:=by rfl) (mJ:id≠sub:=by decide) {h2:List ak} (h3:h2=(h.set id (.row g sz n e (kg ds))).set sub .dead:=by rfl):AL h id i j sub F h2:=
 YI cq c1 (kg ds) (by simpa using hi) (PM hc) (by rw [<-hd];exact Ka hc) (A5 c1 hd.symm) hp hj hs.symm ho Vg mJ h3
theorem abJ {cs:List (List PV)} {cq c1:List PV} {ds:List (List PV)} {N:Nat} {q:Nat->List PV} (hp:∀k,k<n2->∀x,x∈f2 k->cu x=true\/dW x=true) (ho:h[id]? =some (.row g sz n e (Mo (kg cs) N q)):=by rfl) (hc:cs[i]? =some cq:=by rfl) (hj:cq[j]? =some (.own sub g2 0 n2):=by rfl)
  (Vg:h[sub]? =some (.row g2 lG n2 e2 f2):=by rfl) (hs:cq.set j (.dY lG n2 e2 f2 F)=c1:=by rfl) (hd:cs.set i c1=ds:=by rfl) (hN:Nat.blt i N=true:=by rfl) (mJ:id≠sub:=by decide) {h2:List ak} (h3:h2=(h.set id (.row g sz n e (Mo (kg ds) N q))).set sub .dead:=by rfl) (hi:i<n:=by omega):AL h id i j sub F h2:=
 YI cq c1 (Mo (kg ds) N q) hi (by unfold Mo;rw [hN];exact PM hc) (by unfold Mo;rw [hN,<-hd];exact Ka hc) (alp (by simpa using hN) (A5 c1 hd.symm)) hp hj hs.symm ho Vg mJ h3
end
theorem Fz.oe {h η:List ak} {k:List Nat} {id id' g g' sz cr n0 n1 n2 n3:Nat} {e e':TypeId} {f f':Nat->List PV} (h1:n1=n2:=by first | rfl | exact DR.len aLk | exact (DR.len aLk).symm) (h2:n2=n3:=by first | rfl | exact DR.len aLk | exact (DR.len aLk).symm) (hk:k[id']? =some id:=by rfl) (ho:h[id]? =some (ak.row g sz n0 e f):=by rfl) (hη:η[id']? =some (ak.row g' cr n3 e' f'):=by rfl):Fz h η k (.own id g 0 n1) (.own id' g' 0 n2):=Fz.od h1 h2 hk ho hη
end Go.Am
namespace Go.Am
open Go Go.RowKit Go.Proofs
mutual
inductive ae where
 | mk (aj:Int) (aP:Int) (aq:aB) (ah:List ae)
end
def ae.aj:ae->Int | .mk x _ _ _=>x
def ae.aP:ae->Int | .mk _ x _ _=>x
def ae.aq:ae->aB | .mk _ _ x _=>x
def ae.ah:ae->List ae | .mk _ _ _ x=>x
@[simp] theorem ae.pV (a0:Int) (a1:Int) (a2:aB) (a3:List ae):(ae.mk a0 a1 a2 a3).aj=a0:=rfl
@[simp] theorem ae.qA (a0:Int) (a1:Int) (a2:aB) (a3:List ae):(ae.mk a0 a1 a2 a3).aP=a1:=rfl
@[simp] theorem ae.mS (a0:Int) (a1:Int) (a2:aB) (a3:List ae):(ae.mk a0 a1 a2 a3).aq=a2:=rfl
@[simp] theorem ae.kK (a0:Int) (a1:Int) (a2:aB) (a3:List ae):(ae.mk a0 a1 a2 a3).ah=a3:=rfl
instance:Inhabited ae:=⟨.mk 0 0 [] []⟩
mutual
def ae.cells:ae->List PV | .mk a0 a1 a2 a3=>[.int .i64 a0]++[.int .i64 a1]++[.str a2]++[.ig 4 a3.length (λi=>(ae.G3 a3).getD i [])]
def ae.G3:List ae->List (List PV) | []=>[] | x::r=>x.cells::ae.G3 r
end
theorem ae.CQ:∀(l:List ae),ae.G3 l=l.map ae.cells
 | []=>rfl
 | a::r=>by unfold ae.G3;rw [ae.CQ r];rfl
abbrev ae.lit (x:ae):List PV:=[.int .i64 x.aj,.int .i64 x.aP,.str x.aq,sl 4 ae.cells x.ah]
theorem ae.aO (x:ae):x.cells=x.lit:=by
 cases x with
 | mk a0 a1 a2 a3=>
  unfold ae.cells
  rw [ae.CQ]
  rfl
theorem ae.iw (x:ae):x.cells.all cu=true:=by rw [ae.aO];rfl
instance:vh ae.cells:=⟨ae.iw⟩
structure ZK where
 aGz:Unit
 aHz:List UInt8
 deriving DecidableEq,Inhabited
structure aAL where
 aAM:ZK
 deriving DecidableEq,Inhabited
structure af where
 aj:Int
 aP:Int
 aq:aB
 bM:Int
 deriving DecidableEq,Inhabited
abbrev af.lit (x:af):List PV:=[.int .i64 x.aj,.int .i64 x.aP,.str x.aq,.int .i64 x.bM]
def af.cells (x:af):List PV:=x.lit
theorem af.aO (x:af):x.cells=x.lit:=rfl
theorem af.iw (x:af):x.cells.all cu=true:=rfl
instance:vh af.cells:=⟨af.iw⟩
structure aA where
 fT:List af
 fI:Int
 az:Int
 ay:Int
 deriving DecidableEq,Inhabited
abbrev aA.lit (x:aA):List PV:=[sl 4 af.cells x.fT,.int .i64 x.fI,.int .i64 x.az,.int .i64 x.ay]
def aA.cells (x:aA):List PV:=x.lit
theorem aA.aO (x:aA):x.cells=x.lit:=rfl
theorem aA.iw (x:aA):x.cells.all cu=true:=rfl
instance:vh aA.cells:=⟨aA.iw⟩
structure ai where
 ar:List af
 bM:Int
 az:Int
 ay:Bool
 deriving DecidableEq,Inhabited
abbrev ai.lit (x:ai):List PV:=[sl 4 af.cells x.ar,.int .i64 x.bM,.int .i64 x.az,.bool x.ay]
def ai.cells (x:ai):List PV:=x.lit
theorem ai.aO (x:ai):x.cells=x.lit:=rfl
theorem ai.iw (x:ai):x.cells.all cu=true:=rfl
instance:vh ai.cells:=⟨ai.iw⟩
structure bG where
 fS:aB
 bM:Int
 bO:List af
 dM:Int
 deriving DecidableEq,Inhabited
abbrev bG.lit (x:bG):List PV:=[.str x.fS,.int .i64 x.bM,sl 4 af.cells x.bO,.int .i64 x.dM]
def bG.cells (x:bG):List PV:=x.lit
theorem bG.aO (x:bG):x.cells=x.lit:=rfl
theorem bG.iw (x:bG):x.cells.all cu=true:=rfl
instance:vh bG.cells:=⟨bG.iw⟩
structure rk where
 fB:List UInt8
 fI:Int
 fH:Int
 deriving DecidableEq,Inhabited
abbrev rk.lit (x:rk):List PV:=[sl 1 cB x.fB,.int .i64 x.fI,.int .i64 x.fH]
def rk.cells (x:rk):List PV:=x.lit
theorem rk.aO (x:rk):x.cells=x.lit:=rfl
theorem rk.iw (x:rk):x.cells.all cu=true:=rfl
instance:vh rk.cells:=⟨rk.iw⟩
instance:Fl1 af.cells:=⟨λ_=>rfl⟩
inductive ae.D:List PV->ae->Prop
 | mk (x:ae) (n0:Nat) (F0:Nat->Prop) (H8:x.ah.length=n0) (f0:Nat->List PV) (h0:∀i (hi:i<x.ah.length),ae.D (f0 i) x.ah[i]) (hz0:∀i,n0<=i->f0 i=[]):ae.D [.int .i64 x.aj,.int .i64 x.aP,.str x.aq,.dY 4 n0 29 f0 F0] x
theorem ae.bx {x:ae} {n0:Nat} {F0:Nat->Prop} {f0:Nat->List PV} (d0:DR ae.D n0 f0 x.ah):ae.D [.int .i64 x.aj,.int .i64 x.aP,.str x.aq,.dY 4 n0 29 f0 F0] x:=.mk x _ _ d0.len _ d0.at_ d0.z
theorem ae.af0 {cs:List PV} {x:ae} (h:ae.D cs x):∃(F0:Nat->Prop),∃f0:Nat->List PV,cs=[.int .i64 x.aj,.int .i64 x.aP,.str x.aq,.dY 4 x.ah.length 29 f0 F0]/\DR ae.D x.ah.length f0 x.ah:=by
 cases h with
 | mk _ n0 F0 H8 f0 h0 hz0=>subst H8;exact ⟨F0,f0,rfl,⟨rfl,h0,hz0⟩⟩
theorem ae.aAN:∀cs x,ae.D cs x->Fk cs x.cells:=λcs x h=>ae.D.rec (motive:=λcs x _=>Fk cs x.cells) (λx n0 F0 H8 f0 h0 hz0 ih0=>by rw [ae.aO];exact ⟨.p rfl,.p rfl,.p rfl,.o (ZI ih0 H8 4 29 F0),trivial⟩) h
instance:Sn ae.D ae.cells:=⟨ae.aAN⟩
theorem ae.alv:∀cs x,ae.D cs x->vk cs:=λcs x h=>ae.D.rec (motive:=λcs x _=>vk cs) (λx n0 F0 H8 f0 h0 hz0 ih0=>(als (als (als (aFq (λi hi=>ih0 i (Nat.lt_of_lt_of_eq hi H8.symm)) aFp))))) h
instance:Dfl ae.D:=⟨ae.alv⟩
def alw:o9:=wx [(3,.int .i64),
 (4,.bool),
 (5,.int .u8),
 (9,.str),
 (22,.slice 24 4 56 [.int .i64 0,.int .i64 0,.str [],.cd]),
 (24,.struct 4 [(0,1,false),(1,1,false),(2,1,false),(3,1,false)] [.int .i64 0,.int .i64 0,.str [],.cd]),
 (27,.slice 29 4 56 [.int .i64 0,.int .i64 0,.str [],.cd]),
 (29,.struct 4 [(0,1,false),(1,1,false),(2,1,false),(3,1,false)] [.int .i64 0,.int .i64 0,.str [],.cd]),
 (39,.slice 5 1 1 [.int .u8 0]),
 (49,.struct 2 [(0,1,false),(1,1,false)] [.iC,.cd]),
 (51,.struct 2 [(0,2,true)] [.iC,.cd]),
 (58,.slice 101 4 40 [.int .i64 0,.int .i64 0,.str [],.int .i64 0]),
 (62,.struct 4 [(0,1,false),(1,1,false),(2,1,false),(3,1,false)] [.cd,.int .i64 0,.int .i64 0,.int .i64 0]),
 (67,.struct 4 [(0,1,false),(1,1,false),(2,1,false),(3,1,false)] [.cd,.int .i64 0,.int .i64 0,.bool false]),
 (78,.slice 9 1 16 [.str []]),
 (88,.ptr 5),
 (101,.struct 4 [(0,1,false),(1,1,false),(2,1,false),(3,1,false)] [.int .i64 0,.int .i64 0,.str [],.int .i64 0]),
 (107,.struct 4 [(0,1,false),(1,1,false),(2,1,false),(3,1,false)] [.str [],.int .i64 0,.cd,.int .i64 0]),
 (117,.struct 3 [(0,1,false),(1,1,false),(2,1,false)] [.cd,.int .i64 0,.int .i64 0]),
 (120,.slice 3 1 8 [.int .i64 0])]
theorem adO:dJ Tryz.prog alw:=aAz aKR
theorem mixed:Tryz.prog.follows .mixedOrders=true:=by kernel_rfl
theorem eT {f:FuncId} {fn:Func} {c:Code} {args:List PV} {h:List ak} {R:PV->List ak->Prop} (hf:Tryz.prog.funcs[f]? =some fn) (hv:vc Tryz.prog alw h.length c (aAO alw fn.results.toList h.length R) (vq args) h) (hb:fn.body=some c:=by rfl) (yn:(fn.name== "runtime.NumGoroutine")=false:=by kernel_rfl) (hn:Nat.ble args.length fn.ntmps=true:=by rfl) (wi:codeOk fn.ntmps c=true:=by kernel_rfl):ACall Tryz.prog f args h R:=ACall.aAP adO mixed hf hb yn _ _ _ hn wi hv
def Hj (n:FuncId) (a0:ai) (r:ae×ai) (g1000:Nat):Prop:=ACall Tryz.prog n [.aC 0 g1000 0 0] [.row g1000 4 1 67 (λ_=>a0.lit)] (λres h=>∃F1:Nat->List PV,DR ae.D r.1.ah.length F1 r.1.ah/\res=.agg [.int .i64 r.1.aj,.int .i64 r.1.aP,.str r.1.aq,.own 1 0 0 r.1.ah.length]/\h=[.row g1000 4 1 67 (λ_=>r.2.lit),.row 0 4 r.1.ah.length 29 F1])
def KY (n:FuncId) (a0:aA) (r:ae×aA) (g1000:Nat):Prop:=ACall Tryz.prog n [.aC 0 g1000 0 0] [.row g1000 4 1 62 (λ_=>a0.lit)] (λres h=>∃F1:Nat->List PV,DR ae.D r.1.ah.length F1 r.1.ah/\res=.agg [.int .i64 r.1.aj,.int .i64 r.1.aP,.str r.1.aq,.own 1 0 0 r.1.ah.length]/\h=[.row g1000 4 1 62 (λ_=>r.2.lit),.row 0 4 r.1.ah.length 29 F1])
def La (n:FuncId) (a0:ae) (r:Bool):Prop:=ACall Tryz.prog n [.agg a0.lit] [] (λres h=>res=.bool r/\h=[])
def sg3 (n:FuncId) (a0:aB) (r:Bool):Prop:=ACall Tryz.prog n [.str a0] [] (λres h=>res=.bool r/\h=[])
def sg4 (n:FuncId) (a0:ae) (r:Int):Prop:=ACall Tryz.prog n [.agg a0.lit] [] (λres h=>res=.int .i64 r/\h=[])
def sg5 (n:FuncId) (a0:List ae) (r:Bool):Prop:=ACall Tryz.prog n [sl 4 ae.cells a0] [] (λres h=>res=.bool r/\h=[])
def sg6 (n:FuncId) (a0:Int) (r:aB):Prop:=ACall Tryz.prog n [.int .i64 a0] [] (λres h=>res=.str r/\h=[])
def sg7 (n:FuncId) (a0:ae) (a1:Int) (r:Int):Prop:=ACall Tryz.prog n [.agg a0.lit,.int .i64 a1] [] (λres h=>res=.int .i64 r/\h=[])
def sg8 (n:FuncId) (a0:Int) (r:Bool):Prop:=ACall Tryz.prog n [.int .u8 a0] [] (λres h=>res=.bool r/\h=[])
def sg9 (n:FuncId) (a0:List ae) (a1:Bool) (r:Bool):Prop:=ACall Tryz.prog n [sl 4 ae.cells a0,.bool a1] [] (λres h=>res=.bool r/\h=[])
def aAQ (n:FuncId) (a0:List ae) (a1:Int) (r:Int):Prop:=ACall Tryz.prog n [sl 4 ae.cells a0,.int .i64 a1] [] (λres h=>res=.int .i64 r/\h=[])
def arh (n:FuncId) (a0:ai) (r:(List ae)×ai) (g1000:Nat):Prop:=ACall Tryz.prog n [.aC 0 g1000 0 0] [.row g1000 4 1 67 (λ_=>a0.lit)] (λres h=>∃F1:Nat->List PV,DR ae.D r.1.length F1 r.1/\res=.own 1 0 0 r.1.length/\h=[.row g1000 4 1 67 (λ_=>r.2.lit),.row 0 4 r.1.length 29 F1])
def arf (n:FuncId) (a0:ai) (a1:Int) (r:ae×ai) (g1000:Nat):Prop:=ACall Tryz.prog n [.aC 0 g1000 0 0,.int .i64 a1] [.row g1000 4 1 67 (λ_=>a0.lit)] (λres h=>∃F1:Nat->List PV,DR ae.D r.1.ah.length F1 r.1.ah/\res=.agg [.int .i64 r.1.aj,.int .i64 r.1.aP,.str r.1.aq,.own 1 0 0 r.1.ah.length]/\h=[.row g1000 4 1 67 (λ_=>r.2.lit),.row 0 4 r.1.ah.length 29 F1])
def ak4 (n:FuncId) (a0:aB) (r:Int):Prop:=ACall Tryz.prog n [.str a0] [] (λres h=>res=.int .i64 r/\h=[])
def agq (n:FuncId) (a0:Int) (a1:Int) (r:Int):Prop:=ACall Tryz.prog n [.int .i64 a0,.int .i64 a1] [] (λres h=>res=.int .i64 r/\h=[])
def aDz (n:FuncId) (a0:aA) (a1:Int) (r:ae×aA) (g1000:Nat):Prop:=ACall Tryz.prog n [.aC 0 g1000 0 0,.int .i64 a1] [.row g1000 4 1 62 (λ_=>a0.lit)] (λres h=>∃F1:Nat->List PV,DR ae.D r.1.ah.length F1 r.1.ah/\res=.agg [.int .i64 r.1.aj,.int .i64 r.1.aP,.str r.1.aq,.own 1 0 0 r.1.ah.length]/\h=[.row g1000 4 1 62 (λ_=>r.2.lit),.row 0 4 r.1.ah.length 29 F1])
def az3 (n:FuncId) (a0:bG) (r:bG) (g1000:Nat) (g1001:Nat):Prop:=ACall Tryz.prog n [.aC 0 g1000 0 0] [.row g1000 4 1 107 (λ_=>[.str a0.fS,.int .i64 a0.bM,.own 1 g1001 0 a0.bO.length,.int .i64 a0.dM]),.row g1001 4 a0.bO.length 101 (row af.cells a0.bO)] (λres h=>∃G1:Nat,res=.fv []/\h=[.row g1000 4 1 107 (λ_=>[.str r.fS,.int .i64 r.bM,.own 1 G1 0 r.bO.length,.int .i64 r.dM]),.row G1 4 r.bO.length 101 (row af.cells r.bO)])
def az4 (n:FuncId) (a0:bG) (a1:aB) (r:bG) (g1000:Nat) (g1001:Nat):Prop:=ACall Tryz.prog n [.aC 0 g1000 0 0,.str a1] [.row g1000 4 1 107 (λ_=>[.str a0.fS,.int .i64 a0.bM,.own 1 g1001 0 a0.bO.length,.int .i64 a0.dM]),.row g1001 4 a0.bO.length 101 (row af.cells a0.bO)] (λres h=>∃G1:Nat,res=.fv []/\h=[.row g1000 4 1 107 (λ_=>[.str r.fS,.int .i64 r.bM,.own 1 G1 0 r.bO.length,.int .i64 r.dM]),.row G1 4 r.bO.length 101 (row af.cells r.bO)])
def aDy (n:FuncId) (a0:aA) (a1:Bool) (r:ae×aA) (g1000:Nat):Prop:=ACall Tryz.prog n [.aC 0 g1000 0 0,.bool a1] [.row g1000 4 1 62 (λ_=>a0.lit)] (λres h=>∃F1:Nat->List PV,DR ae.D r.1.ah.length F1 r.1.ah/\res=.agg [.int .i64 r.1.aj,.int .i64 r.1.aP,.str r.1.aq,.own 1 0 0 r.1.ah.length]/\h=[.row g1000 4 1 62 (λ_=>r.2.lit),.row 0 4 r.1.ah.length 29 F1])
def au0 (n:FuncId) (a0:aB) (r:ae×Int):Prop:=ACall Tryz.prog n [.str a0] [] (λres h=>∃F0:Nat->List PV,DR ae.D r.1.ah.length F0 r.1.ah/\res=.fv [.agg [.int .i64 r.1.aj,.int .i64 r.1.aP,.str r.1.aq,.own 0 0 0 r.1.ah.length],.int .i64 r.2]/\h=[.row 0 4 r.1.ah.length 29 F0])
def aCn (n:FuncId) (a0:ai) (a1:Bool) (r:ae×ai) (g1000:Nat):Prop:=ACall Tryz.prog n [.aC 0 g1000 0 0,.bool a1] [.row g1000 4 1 67 (λ_=>a0.lit)] (λres h=>∃F1:Nat->List PV,DR ae.D r.1.ah.length F1 r.1.ah/\res=.agg [.int .i64 r.1.aj,.int .i64 r.1.aP,.str r.1.aq,.own 1 0 0 r.1.ah.length]/\h=[.row g1000 4 1 67 (λ_=>r.2.lit),.row 0 4 r.1.ah.length 29 F1])
def yQ (a0:Int) (a1:Int) (a2:Int):Option (Bool):=
 (if a0>=a1 then
 some (decide (a0<=a2))
 else
 some false)
theorem rB {a0:Int} {a1:Int} {a2:Int} {r:Bool} (h:yQ a0 a1 a2=some r):ACall Tryz.prog 146 [.int .i64 a0,.int .i64 a1,.int .i64 a2] [] (λres h=>res=.bool r/\h=[]):=by
 refine eT Tryz.func146 ?_
 unfold yQ at h
 refine .d (.d (sD h (λlA h=>?_) (λlA h=>?_)))
 exact .t (.t (.t (eB h)))
 exact aKE
def R6 (a0:Int) (a1:Int) (a2:Int):Option (Bool):=
 (if a1<=a0 then
 some (decide (a0<=a2))
 else
 some false)
theorem Lx {a0:Int} {a1:Int} {a2:Int} {r:Bool} (h:R6 a0 a1 a2=some r):ACall Tryz.prog 135 [.int .i64 a0,.int .i64 a1,.int .i64 a2] [] (λres h=>res=.bool r/\h=[]):=by
 refine eT Tryz.func135 ?_
 unfold R6 at h
 refine .d (.d (sD h (λlA h=>?_) (λlA h=>?_)))
 exact .t (.t (.t (eB h)))
 exact aKE
def mR (a0:Int):Option (Bool):=
 (if a0>=65 then
 (if a0<=90 then
 some true
 else
 (if a0>=97 then
 some (decide (a0<=122))
 else
 some false))
 else
 (if a0>=97 then
 some (decide (a0<=122))
 else
 some false))
theorem Ek {a0:Int} {r:Bool} (h:mR a0=some r):sg8 206 a0 r:=by
 refine eT Tryz.func206 ?_
 unfold mR at h
 refine .d (.d (sD h (λlA h=>?_) (λlA h=>?_)))
 refine .t (.t (sD h (λsC h=>?_) (λsC h=>?_)))
 exact .t (.t (.t (.t (eB h))))
 refine .f (.f (sD h (λyE h=>?_) (λyE h=>?_)))
 exact .t (.f (.t (.f (eB h))))
 exact .f (.f (.f (.f (eB h))))
 refine .f (.f (.f (.f (.f (sD h (λwh h=>?_) (λwh h=>?_))))))
 exact .t (.f (.t (.f (eB h))))
 exact .f (.f (.f (.f (eB h))))
def kG (a0:Int):Option (Bool):=
 (if a0>=48 then
 some (decide (a0<=57))
 else
 some false)
theorem sW {a0:Int} {r:Bool} (h:kG a0=some r):sg8 172 a0 r:=by
 refine eT Tryz.func172 ?_
 unfold kG at h
 refine .d (.d (sD h (λlA h=>?_) (λlA h=>?_)))
 exact .t (.t (eB h))
 exact .f (.f (eB h))
def j6 (a0:Int):Option (Bool):=
 yQ (bq (a0)) 97 122>>=λv1=>
 (if v1=true then
 some true
 else
 yQ (bq (a0)) 65 90>>=λv4=>
 (if v4=true then
 some true
 else
 some (a0==95)))
theorem vb {a0:Int} {r:Bool} (h:j6 a0=some r):sg8 161 a0 r:=by
 refine eT Tryz.func161 ?_
 unfold j6 at h
 refine .d (.d (bk h λv1 rA h=>(cx (rB rA) (sV h (λyE h=>?_) (λyE h=>?_)))))
 exact .t (.t (.t (.t (.t (.t (eB h))))))
 refine .f (.f (bk h λv4 Hw h=>(cx (rB Hw) (.f (sV h (λEv h=>?_) (λEv h=>?_))))))
 exact .t (.t (eB h))
 exact .f (.f (eB h))
def jM (a0:Int):Option (Bool):=
 yQ (bq (a0)) 48 57>>=λv1=>
 some v1
theorem rh {a0:Int} {r:Bool} (h:jM a0=some r):sg8 162 a0 r:=by
 refine eT Tryz.func162 ?_
 unfold jM at h
 exact .d (.d (bk h λv1 rA h=>(cx (rB rA) (eB h))))
def cE (a0:aB) (y5:Int):Option (Int):=
 (if y5<(a0.length:Int) then
 gx a0 y5>>=λc9=>
 mR (c9.toNat:Int)>>=λv11=>
 (if v11=true then
 cE a0 (bq (y5+1))
 else
 gx a0 y5>>=λc14=>
 (if (c14.toNat:Int)=95 then
 cE a0 (bq (y5+1))
 else
 (if y5>0 then
 gx a0 y5>>=λc18=>
 kG (c18.toNat:Int)>>=λv20=>
 (if v20=true then
 cE a0 (bq (y5+1))
 else
 some y5)
 else
 some y5)))
 else
 some y5)
partial_fixpoint
def dR (a0:aB):Option (Int):=
 (
 cE a0 0
 :Option (Int))>>=λy1=>
 some y1
theorem lV {a0:aB} {r:Int} (h:dR a0=some r):ak4 171 a0 r:=by
 refine eT Tryz.func171 ?_
 unfold dR at h
 refine .d (.d ?_)
 obtain ⟨o2,h,FL⟩:=bd h
 refine .cut (λσ η=>∃y1,y1=o2/\σ=[(3,.int .i64 y1)]/\η=[]) ?_ ?_
 refine le (cE.partial_correctness a0 (motive:=λy5 o23=>o2=o23->aQ _ _ [(0,.str a0),(3,.int .i64 y5)] []) ?_ 0 o2 h rfl) (tk [] ⟨.s,.i,⟨⟩⟩ ⟨⟩)
 intro F7 Hm y5 o23 h aFs
 subst aFs
 refine aQ.round (.d (.d (sD h (λKR h=>?_) (λKR h=>?_))))
 refine .t (.t (bk h λc9 ya h=>⟨cf ya,c9,cg ya,(.t (bk h λv11 GN h=>(cx (Ek GN) (.t (sV h (λtU h=>?_) (λtU h=>?_))))))⟩))
 exact .t (.t (.t (.t (.t (.t (.t (.t (.t (.t (.t (.t (.t (.t (lg (Hm _ _ h rfl) (tk [] ⟨.s,.i,⟨⟩⟩ ⟨⟩)))))))))))))))
 refine .f (.f (bk h λc14 Ht h=>⟨cf Ht,c14,cg Ht,(.f (.t (.f (.t (sE h (λrD h=>?_) (λrD h=>?_))))))⟩))
 exact .t (.t (.t (.t (.t (.t (.t (lg (Hm _ _ h rfl) (tk [] ⟨.s,.i,⟨⟩⟩ ⟨⟩))))))))
 refine .f (.f (sD h (λtX h=>?_) (λtX h=>?_)))
 refine .t (.t (bk h λc18 Zl h=>⟨cf Zl,c18,cg Zl,(.t (bk h λv20 aFt h=>(cx (sW aFt) (.f (.t (.t (.f (.t (sV h (λDJ h=>?_) (λDJ h=>?_))))))))))⟩))
 exact lg (Hm _ _ h rfl) (tk [] ⟨.s,.i,⟨⟩⟩ ⟨⟩)
 exact aKu
 exact .f (.f (.f (.f (.f (.t (.f (.t (.f (ct ⟨_,si h,rfl,rfl⟩ (tk [] ⟨.i,⟨⟩⟩ ⟨⟩))))))))))
 exact .f (.f (.f (.f (.f (.f (.f (.f (.f (ct ⟨_,si h,rfl,rfl⟩ (tk [] ⟨.i,⟨⟩⟩ ⟨⟩))))))))))
 exact aJN
def nQ (a0:aB):Option (Bool):=
 (if (a0.length:Int)<=20 then
 dR a0>>=λv2=>
 (if v2=(a0.length:Int) then
 some (!(a0==([]:aB)))
 else
 some false)
 else
 some false)
theorem Kb {a0:aB} {r:Bool} (h:nQ a0=some r):sg3 196 a0 r:=by
 refine eT Tryz.func196 ?_
 unfold nQ at h
 refine .d (.d (sD h (λlA h=>?_) (λlA h=>?_)))
 refine .t (bk h λv2 uC h=>(cx (lV uC) (.t (.t (.t (.t (sE h (λwh h=>?_) (λwh h=>?_))))))))
 exact .t (.t (eB h))
 exact .f (.f (eB h))
 exact aKH
def kI (a0:aB):Option (Bool):=
 (if a0=([101,99,104,111]:aB) then
 some true
 else
 (if a0=([105,102]:aB) then
 some true
 else
 (if a0=([101,108,115,101]:aB) then
 some true
 else
 (if a0=([119,104,105,108,101]:aB) then
 some true
 else
 (if a0=([102,111,114,101,97,99,104]:aB) then
 some true
 else
 (if a0=([97,115]:aB) then
 some true
 else
 (if a0=([98,114,101,97,107]:aB) then
 some true
 else
 (if a0=([99,111,110,116,105,110,117,101]:aB) then
 some true
 else
 (if a0=([114,101,116,117,114,110]:aB) then
 some true
 else
 (if a0=([103,108,111,98,97,108]:aB) then
 some true
 else
 (if a0=([117,110,115,101,116]:aB) then
 some true
 else
 (if a0=([116,104,114,111,119]:aB) then
 some true
 else
 (if a0=([116,114,121]:aB) then
 some true
 else
 (if a0=([99,97,116,99,104]:aB) then
 some true
 else
 (if a0=([102,105,110,97,108,108,121]:aB) then
 some true
 else
 (if a0=([121,105,101,108,100]:aB) then
 some true
 else
 (if a0=([105,110,99,108,117,100,101]:aB) then
 some true
 else
 (if a0=([102,117,110,99,116,105,111,110]:aB) then
 some true
 else
 (if a0=([99,108,97,115,115]:aB) then
 some true
 else
 (if a0=([116,114,97,105,116]:aB) then
 some true
 else
 (if a0=([101,120,116,101,110,100,115]:aB) then
 some true
 else
 (if a0=([117,115,101]:aB) then
 some true
 else
 (if a0=([112,114,105,118,97,116,101]:aB) then
 some true
 else
 (if a0=([115,116,97,116,105,99]:aB) then
 some true
 else
 (if a0=([110,101,119]:aB) then
 some true
 else
 (if a0=([116,114,117,101]:aB) then
 some true
 else
 (if a0=([102,97,108,115,101]:aB) then
 some true
 else
 (if a0=([110,117,108,108]:aB) then
 some true
 else
 some false))))))))))))))))))))))))))))
theorem AO {a0:aB} {r:Bool} (h:kI a0=some r):sg3 197 a0 r:=by
 refine eT Tryz.func197 ?_
 unfold kI at h
 refine .d (.d (.d (.d (.d (sE h (λlA h=>?_) (λlA h=>?_))))))
 exact .kt lA (.d (eB h))
 refine .d (sE h (λsC h=>?_) (λsC h=>?_))
 exact .kt sC (.d (eB h))
 refine .d (sE h (λyE h=>?_) (λyE h=>?_))
 exact .kt yE (.d (eB h))
 refine .d (sE h (λwh h=>?_) (λwh h=>?_))
 exact .kt wh (.d (eB h))
 refine .d (sE h (λEu h=>?_) (λEu h=>?_))
 exact .kt Eu (.d (eB h))
 refine .d (sE h (λEv h=>?_) (λEv h=>?_))
 exact .kt Ev (.d (eB h))
 refine .d (sE h (λzL h=>?_) (λzL h=>?_))
 exact .kt zL (.d (eB h))
 refine .d (sE h (λKR h=>?_) (λKR h=>?_))
 exact .kt KR (.d (eB h))
 refine .d (sE h (λOa h=>?_) (λOa h=>?_))
 exact .kt Oa (.d (eB h))
 refine .d (sE h (λlH h=>?_) (λlH h=>?_))
 exact .kt lH (.d (eB h))
 refine .d (sE h (λrC h=>?_) (λrC h=>?_))
 exact .kt rC (.d (eB h))
 refine .d (sE h (λrF h=>?_) (λrF h=>?_))
 exact .kt rF (.d (eB h))
 refine .d (sE h (λtU h=>?_) (λtU h=>?_))
 exact .kt tU (.d (eB h))
 refine .d (sE h (λtV h=>?_) (λtV h=>?_))
 exact .kt tV (.d (eB h))
 refine .d (sE h (λtW h=>?_) (λtW h=>?_))
 exact .kt tW (.d (eB h))
 refine .d (sE h (λrD h=>?_) (λrD h=>?_))
 exact .kt rD (.d (eB h))
 refine .d (sE h (λtX h=>?_) (λtX h=>?_))
 exact .kt tX (.d (eB h))
 refine .d (sE h (λAi h=>?_) (λAi h=>?_))
 exact .kt Ai (.d (eB h))
 refine .d (sE h (λBi h=>?_) (λBi h=>?_))
 exact .kt Bi (.d (eB h))
 refine .d (sE h (λAj h=>?_) (λAj h=>?_))
 exact .kt Aj (.d (eB h))
 refine .d (sE h (λRc h=>?_) (λRc h=>?_))
 exact .kt Rc (.d (eB h))
 refine .d (sE h (λDJ h=>?_) (λDJ h=>?_))
 exact .kt DJ (.d (eB h))
 refine .d (sE h (λAk h=>?_) (λAk h=>?_))
 exact .kt Ak (.d (eB h))
 refine .d (sE h (λRe h=>?_) (λRe h=>?_))
 exact .kt Re (.d (eB h))
 refine .d (sE h (λJY h=>?_) (λJY h=>?_))
 exact .kt JY (.d (eB h))
 refine .d (sE h (λEe h=>?_) (λEe h=>?_))
 exact .kt Ee (.d (eB h))
 refine .d (sE h (λaAR h=>?_) (λaAR h=>?_))
 exact .kt aAR (.d (eB h))
 refine sE h (λLb h=>?_) (λLb h=>?_)
 exact aKo
 exact aKo
def bK (a0:aB):Option (Bool):=
 nQ a0>>=λv1=>
 (if v1=true then
 kI a0>>=λv4=>
 some (!v4)
 else
 some false)
theorem da {a0:aB} {r:Bool} (h:bK a0=some r):sg3 133 a0 r:=by
 refine eT Tryz.func133 ?_
 unfold bK at h
 refine .d (.d (bk h λv1 rA h=>(cx (Kb rA) (sV h (λyE h=>?_) (λyE h=>?_)))))
 exact .t (bk h λv4 Hw h=>(cx (AO Hw) (.t (.t (eB h)))))
 exact aKE
def eD (a0:aB) (a1:Int) (y5:Int):Option (Int):=
 (if y5<(a0.length:Int) then
 gx a0 y5>>=λc9=>
 j6 (c9.toNat:Int)>>=λv11=>
 (if v11=true then
 eD a0 a1 (bq (y5+1))
 else
 (if y5>a1 then
 gx a0 y5>>=λc15=>
 jM (c15.toNat:Int)>>=λJZ=>
 (if JZ=true then
 eD a0 a1 (bq (y5+1))
 else
 some y5)
 else
 some y5))
 else
 some y5)
partial_fixpoint
def iN (a0:aB) (a1:Int):Option (Int):=
 (
 eD a0 a1 a1
 :Option (Int))>>=λy1=>
 some y1
theorem tc {a0:aB} {a1:Int} {r:Int} (h:iN a0 a1=some r):ACall Tryz.prog 160 [.str a0,.int .i64 a1] [] (λres h=>res=.int .i64 r/\h=[]):=by
 refine eT Tryz.func160 ?_
 unfold iN at h
 refine .d (.d ?_)
 obtain ⟨o2,h,FL⟩:=bd h
 refine .cut (λσ η=>∃y1,y1=o2/\σ=[(5,.int .i64 y1)]/\η=[]) ?_ ?_
 refine le (eD.partial_correctness a0 a1 (motive:=λy5 o20=>o2=o20->aQ _ _ [(0,.str a0),(1,.int .i64 a1),(5,.int .i64 y5)] []) ?_ a1 o2 h rfl) (tk [] ⟨.s,.i,.i,⟨⟩⟩ ⟨⟩)
 intro F7 Hm y5 o20 h ale
 subst ale
 refine aQ.round (.d (.d (sD h (λKR h=>?_) (λKR h=>?_))))
 refine .t (.t (bk h λc9 ya h=>⟨cf ya,c9,cg ya,(.t (bk h λv11 GN h=>(cx (vb GN) (.t (sV h (λtU h=>?_) (λtU h=>?_))))))⟩))
 exact .t (.t (.t (.t (.t (.t (.t (.t (lg (Hm _ _ h rfl) (tk [] ⟨.s,.i,.i,⟨⟩⟩ ⟨⟩)))))))))
 refine .f (.f (.f (sD h (λtV h=>?_) (λtV h=>?_))))
 refine .t (.t (bk h λc15 ZL h=>⟨cf ZL,c15,cg ZL,(.t (bk h λJZ alf h=>(cx (rh alf) (.f (.t (.t (.f (.t (sV h (λBi h=>?_) (λBi h=>?_))))))))))⟩))
 exact lg (Hm _ _ h rfl) (tk [] ⟨.s,.i,.i,⟨⟩⟩ ⟨⟩)
 exact aKu
 exact .f (.f (.f (.f (.f (.t (.f (.t (.f (ct ⟨_,si h,rfl,rfl⟩ (tk [] ⟨.i,⟨⟩⟩ ⟨⟩))))))))))
 exact .f (.f (.f (.f (.f (.f (.f (ct ⟨_,si h,rfl,rfl⟩ (tk [] ⟨.i,⟨⟩⟩ ⟨⟩))))))))
 exact aJN
def pU (a0:aB):Option (Bool):=
 (if (a0.length:Int)>=1 then
 (if (a0.length:Int)<=20 then
 iN a0 0>>=λv3=>
 some (v3==(a0.length:Int))
 else
 some false)
 else
 some false)
theorem Kc {a0:aB} {r:Bool} (h:pU a0=some r):sg3 199 a0 r:=by
 refine eT Tryz.func199 ?_
 unfold pU at h
 refine .d (.d (sD h (λlA h=>?_) (λlA h=>?_)))
 refine .t (.t (.t (sD h (λsC h=>?_) (λsC h=>?_))))
 exact .t (bk h λv3 Sy h=>(cx (tc Sy) (.t (.t (.t (.t (eB h)))))))
 exact .f (.f (.f (.f (.f (eB h)))))
 exact .f (.f (.f (.f (.f (.f (.f (.f (.f (eB h)))))))))
def iP (a0:aB) (y4:Int):Option ((Unit) ⊕ Bool):=
 (if y4<(([[101,99,104,111],[105,102],[101,108,115,101],[119,104,105,108,101],[102,111,114,101,97,99,104],[97,115],[98,114,101,97,107],[99,111,110,116,105,110,117,101],[114,101,116,117,114,110],[103,108,111,98,97,108],[117,110,115,101,116],[116,104,114,111,119],[116,114,121],[99,97,116,99,104],[102,105,110,97,108,108,121],[121,105,101,108,100],[105,110,99,108,117,100,101],[102,117,110,99,116,105,111,110],[99,108,97,115,115],[116,114,97,105,116],[101,120,116,101,110,100,115],[117,115,101],[112,114,105,118,97,116,101],[115,116,97,116,105,99],[110,101,119],[116,114,117,101],[102,97,108,115,101],[110,117,108,108]]:List aB).length:Int) then
 idx ([[101,99,104,111],[105,102],[101,108,115,101],[119,104,105,108,101],[102,111,114,101,97,99,104],[97,115],[98,114,101,97,107],[99,111,110,116,105,110,117,101],[114,101,116,117,114,110],[103,108,111,98,97,108],[117,110,115,101,116],[116,104,114,111,119],[116,114,121],[99,97,116,99,104],[102,105,110,97,108,108,121],[121,105,101,108,100],[105,110,99,108,117,100,101],[102,117,110,99,116,105,111,110],[99,108,97,115,115],[116,114,97,105,116],[101,120,116,101,110,100,115],[117,115,101],[112,114,105,118,97,116,101],[115,116,97,116,105,99],[110,101,119],[116,114,117,101],[102,97,108,115,101],[110,117,108,108]]:List aB) y4>>=λx8=>
 (if x8=a0 then
 some (.inr true)
 else
 iP a0 (bq (y4+1)))
 else
 some (.inl ()))
partial_fixpoint
def kH (a0:aB):Option (Bool):=
 ((
 iP a0 0
 :Option ((Unit) ⊕ Bool))>>=λo1=>match o1 with
 | .inr r=>some r
 | .inl _=>
 some false
 )
theorem AP {a0:aB} {r:Bool} (h:kH a0=some r):sg3 200 a0 r:=by
 refine eT Tryz.func200 ?_
 unfold kH at h
 refine .d (.d ⟨row cS ([[101,99,104,111],[105,102],[101,108,115,101],[119,104,105,108,101],[102,111,114,101,97,99,104],[97,115],[98,114,101,97,107],[99,111,110,116,105,110,117,101],[114,101,116,117,114,110],[103,108,111,98,97,108],[117,110,115,101,116],[116,104,114,111,119],[116,114,121],[99,97,116,99,104],[102,105,110,97,108,108,121],[121,105,101,108,100],[105,110,99,108,117,100,101],[102,117,110,99,116,105,111,110],[99,108,97,115,115],[116,114,97,105,116],[101,120,116,101,110,100,115],[117,115,101],[112,114,105,118,97,116,101],[115,116,97,116,105,99],[110,101,119],[116,114,117,101],[102,97,108,115,101],[110,117,108,108]]:List aB),dX cS ([[101,99,104,111],[105,102],[101,108,115,101],[119,104,105,108,101],[102,111,114,101,97,99,104],[97,115],[98,114,101,97,107],[99,111,110,116,105,110,117,101],[114,101,116,117,114,110],[103,108,111,98,97,108],[117,110,115,101,116],[116,104,114,111,119],[116,114,121],[99,97,116,99,104],[102,105,110,97,108,108,121],[121,105,101,108,100],[105,110,99,108,117,100,101],[102,117,110,99,116,105,111,110],[99,108,97,115,115],[116,114,97,105,116],[101,120,116,101,110,100,115],[117,115,101],[112,114,105,118,97,116,101],[115,116,97,116,105,99],[110,101,119],[116,114,117,101],[102,97,108,115,101],[110,117,108,108]]:List aB) rfl (dA rfl),?_⟩)
 obtain ⟨o1,h,gd⟩:=bd h
 refine .cut (λσ η=>.inl ()=o1/\σ=[]/\η=[]) ?_ ?_
 refine .d ?_
 refine le (iP.partial_correctness a0 (motive:=λy4 o11=>o1=o11->aQ _ _ [(0,.str a0),(3,.own 0 0 0 ([[101,99,104,111],[105,102],[101,108,115,101],[119,104,105,108,101],[102,111,114,101,97,99,104],[97,115],[98,114,101,97,107],[99,111,110,116,105,110,117,101],[114,101,116,117,114,110],[103,108,111,98,97,108],[117,110,115,101,116],[116,104,114,111,119],[116,114,121],[99,97,116,99,104],[102,105,110,97,108,108,121],[121,105,101,108,100],[105,110,99,108,117,100,101],[102,117,110,99,116,105,111,110],[99,108,97,115,115],[116,114,97,105,116],[101,120,116,101,110,100,115],[117,115,101],[112,114,105,118,97,116,101],[115,116,97,116,105,99],[110,101,119],[116,114,117,101],[102,97,108,115,101],[110,117,108,108]]:List aB).length),(4,.int .i64 y4)] [.row 0 1 ([[101,99,104,111],[105,102],[101,108,115,101],[119,104,105,108,101],[102,111,114,101,97,99,104],[97,115],[98,114,101,97,107],[99,111,110,116,105,110,117,101],[114,101,116,117,114,110],[103,108,111,98,97,108],[117,110,115,101,116],[116,104,114,111,119],[116,114,121],[99,97,116,99,104],[102,105,110,97,108,108,121],[121,105,101,108,100],[105,110,99,108,117,100,101],[102,117,110,99,116,105,111,110],[99,108,97,115,115],[116,114,97,105,116],[101,120,116,101,110,100,115],[117,115,101],[112,114,105,118,97,116,101],[115,116,97,116,105,99],[110,101,119],[116,114,117,101],[102,97,108,115,101],[110,117,108,108]]:List aB).length 9 (row cS ([[101,99,104,111],[105,102],[101,108,115,101],[119,104,105,108,101],[102,111,114,101,97,99,104],[97,115],[98,114,101,97,107],[99,111,110,116,105,110,117,101],[114,101,116,117,114,110],[103,108,111,98,97,108],[117,110,115,101,116],[116,104,114,111,119],[116,114,121],[99,97,116,99,104],[102,105,110,97,108,108,121],[121,105,101,108,100],[105,110,99,108,117,100,101],[102,117,110,99,116,105,111,110],[99,108,97,115,115],[116,114,97,105,116],[101,120,116,101,110,100,115],[117,115,101],[112,114,105,118,97,116,101],[115,116,97,116,105,99],[110,101,119],[116,114,117,101],[102,97,108,115,101],[110,117,108,108]]:List aB))]) ?_ 0 o1 h rfl) (tk [0] ⟨.s,.o,.i,⟨⟩⟩ ⟨nw,⟨⟩⟩)
 intro F6 Sr y4 o11 h Y6
 subst Y6
 refine aQ.round (.d (.d ⟨rfl,(sD h (λzL h=>?_) (λzL h=>?_))⟩))
 refine .d (.d (bk h λx8 St h=>⟨rfl,bn St,_,aHJ _,rfl,_,((ba St).trans rfl),(sE h (λlH h=>?_) (λlH h=>?_))⟩))
 refine .d ?_
 exact aJG
 exact lg (Sr _ _ h rfl) (tk [0] ⟨.s,.o,.i,⟨⟩⟩ ⟨nw,⟨⟩⟩)
 exact aKn
 rintro _ _ ⟨rfl,rfl,rfl⟩
 replace h:=gd
 exact aKo
def dI (a0:aB):Option (Bool):=
 pU a0>>=λv1=>
 (if v1=true then
 kH a0>>=λv4=>
 some (!v4)
 else
 some false)
theorem eY {a0:aB} {r:Bool} (h:dI a0=some r):sg3 147 a0 r:=by
 refine eT Tryz.func147 ?_
 unfold dI at h
 refine .d (.d (bk h λv1 rA h=>(cx (Kc rA) (sV h (λyE h=>?_) (λyE h=>?_)))))
 exact .t (bk h λv4 Hw h=>(cx (AP Hw) (.t (.t (eB h)))))
 exact aKE
end Go.Am
