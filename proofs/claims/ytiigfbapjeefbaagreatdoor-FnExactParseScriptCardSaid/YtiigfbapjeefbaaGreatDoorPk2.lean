/- Texts of the proof, joined and shortened. -/
import Derived.Test.YtiigfbapjeefbaaGreatDoorPk1
import Derived.MapKept
import Derived.Lib.ConvBytes
import Derived.Lib.AtoiErrMem
import Derived.Deep.LoopGhost
set_option linter.unusedVariables false
set_option linter.unusedSimpArgs false
namespace Go.Am
open Go Go.RowKit
section
variable {P:Program} {T:qq} {μ:Mu} {h:List al} {S:Nat->Prop} {w w1:World}
theorem TQ (hc:Core μ h S w) (ll g sz n:Nat) (e:TypeId) (f:Nat->List PV) (hh:h[ll]? =some (al.row g sz n e f)):Fr μ h S w μ (h.set ll .dead) S w/\Core μ (h.set ll .dead) S w:=by
 have hid:ll<h.length:=(An.1 hh).1
 have tY:(h.set ll al.dead)[ll]? =some al.dead:=by simp [hid]
 have dB:∀j,j≠ll->(h.set ll al.dead)[j]? =h[j]? :=λj hj=>by rw [aKs (aLo hj)]
 have mz:∀{j gj mF nj ej fj},(h.set ll al.dead)[j]? =some (al.row gj mF nj ej fj)->j≠ll:=λhj hx=>by subst hx;rw [tY] at hj;cases hj
 have BO:∀b,GJ μ (h.set ll al.dead) b->GJ μ h b:=λb ⟨j,gj,mF,nj,ej,fj,qy,hj,hm⟩=>by
  rw [dB j (mz hj)] at hj;exact ⟨j,gj,mF,nj,ej,fj,qy,hj,hm⟩
 have qY:∀j x y b,eA (h.set ll al.dead) j x y b->eA h j x y b:=λj x y b ⟨gj,mF,nj,ej,fj,cJ,n',e',f',F',q1,q2,q3,q4⟩=>by
  rw [dB j (mz q1)] at q1;exact ⟨_,_,_,_,_,_,_,_,_,_,q1,q2,q3,q4⟩
 have nD:∀b,dx μ (h.set ll al.dead) b->dx μ h b:=λb hb=>by
  rcases hb with hb | ⟨x,y,z,hb⟩
  ·exact .inl (BO b hb)
  ·exact .inr ⟨x,y,z,qY _ _ _ _ hb⟩
 have lu:Fr μ h S w μ (h.set ll .dead) S w:=by
  refine ⟨by simp,λ_ _ _=>rfl,λ_ hb=>hb,λ_ hb=>.inl hb,λb hb=>.inl (nD b hb),As _,rfl,rfl,rfl,λj gj mF nj ej fj hj=>?_,λj hj=>?_,λ_ _ _ ic=>ic,λj gj mF nj ej fj b base hj hm nI=>⟨nI,?_⟩,λ_ _ _ _ _ nI=>nI⟩
  ·by_cases BW:j=ll
   ·subst BW;rw [tY];trivial
   ·rw [dB j BW,hj];exact ⟨As _,λ_=>⟨rfl,rfl,rfl,rfl⟩⟩
  ·have BW:j≠ll:=by rintro rfl;rw [hh] at hj;cases hj
   rw [dB j BW];exact hj
  ·by_cases BW:j=ll
   ·subst BW;exact .inl tY
   ·exact .inr ⟨⟨_,_,_,_,_,(dB j BW).trans hj⟩,hm⟩
 refine ⟨lu,⟨λj gj mF nj ej fj hj=>?_,⟨λb hb=>hc.ok.apart b (nD b hb),λb hb=>hc.ok.lt b (nD b hb),hc.ok.slt,?_,hc.ok.known,λb hb x y z hx=>hc.ok.hv b (BO b hb) x y z (qY _ _ _ _ hx),λb _ _ _ _ _ _ hx hy=>hc.ok.hh b _ _ _ _ _ _ (qY _ _ _ _ hx) (qY _ _ _ _ hy)⟩⟩⟩
 ·rw [dB j (mz hj)] at hj
  obtain ⟨h1,h2⟩:=hc.heap j gj mF nj ej fj hj
  refine ⟨h1,?_⟩
  cases hm:μ j with
  | none=>rw [hm] at h2;exact h2
  | some p=>
   obtain ⟨b,base⟩:=p
   rw [hm] at h2
   obtain ⟨o,q1,q2⟩:=h2
   exact ⟨o,q1,q2.mono (λ_ _ _ _ _ _ hr=>hr.fr lu hc.ok (λ_ _ _ _ _ _ _ _=>rfl))⟩
 ·intro i j gi Uc ni ei fi gj mF nj ej fj b o o' hi hj nV nz
  rw [dB i (mz hi)] at hi
  rw [dB j (mz hj)] at hj
  exact aMO
theorem GQ (hc:Core μ h S w) (id ll:Nat) (oY:ll≠id) (g2 lN n2:Nat) (e2:TypeId) (f2:Nat->List PV) (Mb:h[ll]? =some (al.row g2 lN n2 e2 f2)) (l0:Nat) (g g1 sz n n1:Nat) (e:TypeId) (f f1:Nat->List PV) (hh:h[id]? =some (al.row g sz n e f)) (b1 sS:Nat) (lJ:Array Value)
  (hg:g<=g1) (hg1:g1=g->μ id=some (b1,sS)/\n1=n)
  (hb:w.heap.size<=b1\/∃base cur,μ id=some (b1,base)/\w.heap[b1]? =some (.cells cur e (0,0))/\cur.size=lJ.size)
  (hw:w1.heap[b1]? =some (.cells lJ e (0,0))) (wY:sS+n1*sz<=lJ.size)
  (jI:∀b,b<w.heap.size->b≠b1->w1.heap[b]? =w.heap[b]?) (zg:w.heap.size<=w1.heap.size) (hos:w1.os=w.os) (aa5:w1.tape=w.tape) (aa6:w1.output=w.output)
  (hl:∀i,i<n1->(f1 i).length=sz) (Tm:∀b base,μ id=some (b,base)->¬rS w b)
  (bB:∀(i j:Nat) (pv:PV),i<n1->(f1 i)[j]? =some pv->∃v:Value,lJ[sS+i*sz+j]? =some v/\pz μ h S w pv v) (LF yb:Nat)
  (vJ:∀(i j cJ n':Nat) (e':TypeId) (f':Nat->List PV) (F':Nat->Prop),i<n1->(f1 i)[j]? =some (.dI cJ n' e' f' F')->(i<l0/\LF+i<n/\(f (LF+i))[j]? =some (.dI cJ n' e' f' F'))\/(l0<=i/\yb+(i - l0)<n2/\(f2 (yb+(i - l0)))[j]? =some (.dI cJ n' e' f' F'))):
  Fr μ h S w (nU μ id (some (b1,sS))) ((h.set id (.row g1 sz n1 e f1)).set ll .dead) S w1/\Core (nU μ id (some (b1,sS))) ((h.set id (.row g1 sz n1 e f1)).set ll .dead) S w1:=by
 have hid:id<h.length:=(An.1 hh).1
 have kW:((h.set id (al.row g1 sz n1 e f1)).set ll .dead)[id]? =some (al.row g1 sz n1 e f1):=by rw [aKs oY];simp [hid]
 have am5:ll<h.length:=(An.1 Mb).1
 have tY:((h.set id (al.row g1 sz n1 e f1)).set ll .dead)[ll]? =some al.dead:=by simp [am5]
 have nE:∀j,j≠id->j≠ll->((h.set id (al.row g1 sz n1 e f1)).set ll .dead)[j]? =h[j]? :=λj hj BW=>by rw [aKs (aLo BW),aKs (aLo hj)]
 have mz:∀{j gj mF nj ej fj},((h.set id (al.row g1 sz n1 e f1)).set ll .dead)[j]? =some (al.row gj mF nj ej fj)->j≠ll:=λhj hx=>by subst hx;rw [tY] at hj;cases hj
 have aa7:b1<w1.heap.size:=(abF.1 hw).1
 have vK:b1<w.heap.size->dx μ h b1:=λbc=>by
  rcases hb with hb | ⟨base,cur,hm,_,_⟩
  ·omega
  ·exact .inl ⟨id,g,sz,n,e,f,base,hh,hm⟩
 have eU:∀j x y b,eA ((h.set id (al.row g1 sz n1 e f1)).set ll .dead) j x y b->j≠ll/\∃j0 x0,eA h j0 x0 y b/\((j≠id/\j0=j/\x0=x)\/(j=id/\x<l0/\j0=id/\x0=LF+x)\/(j=id/\l0<=x/\j0=ll/\x0=yb+(x - l0))):=λj x y b ⟨gj,mF,nj,ej,fj,cJ,n',e',f',F',q1,q2,q3,q4⟩=>by
  refine ⟨mz q1,?_⟩
  by_cases ie:j=id
  ·subst ie
   rw [kW] at q1
   injection q1 with q1
   injection q1 with e1 e2 e3 e4 e5
   subst e1 e2 e3 e4 e5
   rcases vJ x y _ _ _ _ _ q2 q3 with ⟨r0,r1,r2⟩ | ⟨r0,r1,r2⟩
   ·exact ⟨_,_,⟨_,_,_,_,_,_,_,_,_,_,hh,r1,r2,q4⟩,.inr (.inl ⟨rfl,r0,rfl,rfl⟩)⟩
   ·exact ⟨_,_,⟨_,_,_,_,_,_,_,_,_,_,Mb,r1,r2,q4⟩,.inr (.inr ⟨rfl,r0,rfl,rfl⟩)⟩
  ·have BW:=mz q1
   rw [nE j ie BW] at q1
   exact ⟨_,_,⟨_,_,_,_,_,_,_,_,_,_,q1,q2,q3,q4⟩,.inl ⟨ie,rfl,rfl⟩⟩
 have xi:∀j x y b,eA h j x y b->b<w.heap.size/\b≠b1:=λj x y b hx=>by
  have bc:=hc.ok.lt b (.inr ⟨j,x,y,hx⟩)
  refine ⟨bc,?_⟩
  rintro rfl
  rcases hb with hb | ⟨base,cur,hm,_,_⟩
  ·omega
  ·exact hc.ok.hv b ⟨id,g,sz,n,e,f,base,hh,hm⟩ j x y hx
 have lu:Fr μ h S w (nU μ id (some (b1,sS))) ((h.set id (.row g1 sz n1 e f1)).set ll .dead) S w1:=by
  refine ⟨by simp,λb bc Ah=>?_,λ_ hb=>hb,λ_ hb=>.inl hb,λb sd=>?_,zg,hos,aa5,aa6,λj gj mF nj ej fj hj=>?_,λj hj=>?_,λb k Bb ic=>?_,λj gj mF nj ej fj b base hj hm nI=>?_,λb j x y hx nI=>?_⟩
  rotate_right
  ·obtain ⟨q1,q2⟩:=xi j x y b hx
   obtain ⟨es,c,q⟩:=nI
   exact ⟨es,c,(jI b q1 q2).trans q⟩
  ·by_cases Is:b=b1
   ·subst Is;exact (Ah (vK bc)).elim
   ·exact jI b bc Is
  ·rcases sd with ⟨j,gj,mF,nj,ej,fj,qy,hj,hm⟩ | ⟨j,x,y,hx⟩
   rotate_left
   ·obtain ⟨_,j0,x0,hx0,_⟩:=eU j x y b hx
    exact .inl (.inr ⟨_,_,_,hx0⟩)
   by_cases ie:j=id
   ·subst ie
    rw [bH] at hm
    injection hm with hm
    injection hm with h1 h2
    subst h1
    rcases aKX b1 w.heap.size with bc | Q8
    ·exact .inl (vK bc)
    ·exact .inr Q8
   ·rw [nE j ie (mz hj)] at hj
    rw [dr μ _ ie] at hm
    exact .inl (.inl ⟨j,gj,mF,nj,ej,fj,qy,hj,hm⟩)
  ·by_cases ie:j=id
   ·subst ie
    rw [hh] at hj
    injection hj with hj
    injection hj with e1 e2 e3 e4 e5
    subst e1 e2 e3 e4 e5
    rw [kW]
    refine ⟨hg,λhe=>?_⟩
    obtain ⟨h1,h2⟩:=hg1 he
    exact ⟨by rw [bH,h1],rfl,h2,rfl⟩
   ·by_cases BW:j=ll
    ·subst BW;rw [tY];trivial
    ·rw [nE j ie BW,hj]
     exact ⟨As _,λ_=>⟨dr μ _ ie,rfl,rfl,rfl⟩⟩
  ·have ie:j≠id:=by rintro rfl;rw [hh] at hj;cases hj
   have BW:j≠ll:=by rintro rfl;rw [Mb] at hj;cases hj
   rw [nE j ie BW];exact hj
  ·by_cases Is:b=b1
   ·subst Is
    obtain ⟨cur,e',z,q1,q2⟩:=ic
    rcases hb with hb | ⟨base,BI,hm,ny,jO⟩
    ·have:=(abF.1 q1).1;omega
    ·rw [ny] at q1
     injection q1 with q1
     injection q1 with q1 _ _
     subst q1
     exact ⟨lJ,e,_,hw,by omega⟩
   ·exact kX.of_same (jI b ic.lt Is) ic
  ·have ie:j≠id:=by rintro rfl;exact Tm b base hm nI
   have Is:b≠b1:=by
    rintro rfl
    obtain ⟨es,c,q⟩:=nI
    rcases hb with hb | ⟨rn,BI,Je,ny,_⟩
    ·have:=(abF.1 q).1;omega
    ·rw [ny] at q;cases q
   obtain ⟨es,c,q⟩:=nI
   refine ⟨⟨es,c,(jI b (abF.1 q).1 Is).trans q⟩,?_⟩
   by_cases BW:j=ll
   ·subst BW;exact .inl tY
   ·exact .inr ⟨⟨_,_,_,_,_,(nE j ie BW).trans hj⟩,by rw [dr μ _ ie];exact hm⟩
 refine ⟨lu,⟨λj gj mF nj ej fj hj=>?_,?_⟩⟩
 ·by_cases ie:j=id
  ·subst ie
   rw [kW] at hj
   injection hj with hj
   injection hj with e1 e2 e3 e4 e5
   subst e1 e2 e3 e4 e5
   rw [bH]
   refine ⟨hl,de.DC ⟨lJ,hw,wY,λi k pv hi hk=>?_⟩⟩
   obtain ⟨v,h1,h2⟩:=bB i k pv hi hk
   refine ⟨v,h1,h2.fr lu hc.ok (λcJ n' e' f' F' he b sd=>?_)⟩
   rw [he] at hk
   rcases vJ i k _ _ _ _ _ hi hk with ⟨r0,r1,r2⟩ | ⟨r0,r1,r2⟩
   ·obtain ⟨q1,q2⟩:=xi _ _ k b ⟨_,_,_,_,_,_,_,_,_,_,hh,r1,r2,sd⟩
    exact jI b q1 q2
   ·obtain ⟨q1,q2⟩:=xi _ _ k b ⟨_,_,_,_,_,_,_,_,_,_,Mb,r1,r2,sd⟩
    exact jI b q1 q2
  ·rw [nE j ie (mz hj)] at hj
   obtain ⟨h1,h2⟩:=hc.heap j gj mF nj ej fj hj
   refine ⟨h1,?_⟩
   rw [dr μ _ ie]
   cases hm:μ j with
   | none=>rw [hm] at h2;exact h2
   | some p=>
    obtain ⟨b,base⟩:=p
    rw [hm] at h2
    obtain ⟨o,q1,q2⟩:=h2
    have bc:b<w.heap.size:=(abF.1 q1).1
    have Is:b≠b1:=by
     rintro rfl
     rcases hb with hb | ⟨rn,BI,Je,_⟩
     ·omega
     ·exact ie (hc.ok.inj j id _ _ _ _ _ _ _ _ _ _ _ _ _ hj hh hm Je)
    exact ⟨o,(jI b bc Is).trans q1,q2.mono (λi y pv v hi hy hr=>hr.fr lu hc.ok (λcJ n' e' f' F' he b' sd=>by
     obtain ⟨q1,q2⟩:=xi j i y b' ⟨_,_,_,_,_,_,_,_,_,_,hj,hi,by rw [hy,he],sd⟩
     exact jI b' q1 q2))⟩
 ·refine ⟨λb Bb Q9=>?_,λb Bb=>?_,λb Q9=>aKm (hc.ok.slt b Q9) zg,?_,hc.ok.DD lu,λb hvb j x y hx=>?_,λb j x y j' x' y' hx uT=>?_⟩
  rotate_right 2
  ·obtain ⟨_,j0,x0,hx0,_⟩:=eU j x y b hx
   obtain ⟨q1,q2⟩:=xi _ _ _ b hx0
   obtain ⟨k,gk,szk,nk,ek,fk,LG,hk,hm⟩:=hvb
   by_cases zE:k=id
   ·subst zE
    rw [bH] at hm
    injection hm with hm
    injection hm with h1 h2
    exact q2 h1.symm
   ·rw [nE k zE (mz hk)] at hk
    rw [dr μ _ zE] at hm
    exact hc.ok.hv b ⟨k,gk,szk,nk,ek,fk,LG,hk,hm⟩ _ _ _ hx0
  ·obtain ⟨k1,j0,x0,hx0,c0⟩:=eU j x y b hx
   obtain ⟨k2,j1,x1,hx1,c1⟩:=eU j' x' y' b uT
   obtain ⟨r1,r2,r3⟩:=hc.ok.hh b _ _ _ _ _ _ hx0 hx1
   subst r1;subst r2
   rcases c0 with ⟨a1,a2,a3⟩ | ⟨a1,a2,a3,a4⟩ | ⟨a1,a2,a3,a4⟩<;>rcases c1 with ⟨d1,d2,d3⟩ | ⟨d1,d2,d3,d4⟩ | ⟨d1,d2,d3,d4⟩<;>refine ⟨?_,?_,r3⟩<;>omega
  ·rcases lu.own b Bb with h1 | h1
   ·exact hc.ok.apart b h1 Q9
   ·have:=hc.ok.slt b Q9;omega
  ·rcases Bb with ⟨j,gj,mF,nj,ej,fj,qy,hj,hm⟩ | ⟨j,x,y,hx⟩
   rotate_left
   ·obtain ⟨_,j0,x0,hx0,_⟩:=eU j x y b hx
    exact aKm (hc.ok.lt b (.inr ⟨_,_,_,hx0⟩)) zg
   by_cases ie:j=id
   ·subst ie
    rw [bH] at hm
    injection hm with hm
    injection hm with h1 h2
    subst h1
    exact aa7
   ·rw [nE j ie (mz hj)] at hj
    rw [dr μ _ ie] at hm
    exact aKm (hc.ok.lt b (.inl ⟨j,gj,mF,nj,ej,fj,qy,hj,hm⟩)) zg
  ·intro i j gi Uc ni ei fi gj mF nj ej fj b o o' hi hj nV nz
   by_cases Ud:i=id
   ·by_cases ie:j=id
    ·rw [Ud,ie]
    ·subst Ud
     rw [bH] at nV
     injection nV with nV
     injection nV with h1 h2
     subst h1
     rw [nE j ie (mz hj)] at hj
     rw [dr μ _ ie] at nz
     rcases hb with hb | ⟨rn,BI,Je,_⟩
     ·have:=hc.ok.lt _ (.inl ⟨j,gj,mF,nj,ej,fj,o',hj,nz⟩);omega
     ·exact hc.ok.inj i j _ _ _ _ _ _ _ _ _ _ _ _ _ hh hj Je nz
   ·rw [nE i Ud (mz hi)] at hi
    rw [dr μ _ Ud] at nV
    by_cases ie:j=id
    ·subst ie
     rw [bH] at nz
     injection nz with nz
     injection nz with h1 h2
     subst h1
     rcases hb with hb | ⟨rn,BI,Je,_⟩
     ·have:=hc.ok.lt _ (.inl ⟨i,gi,Uc,ni,ei,fi,o,hi,nV⟩);omega
     ·exact hc.ok.inj i j _ _ _ _ _ _ _ _ _ _ _ _ _ hi hh nV Je
    ·rw [nE j ie (mz hj)] at hj
     rw [dr μ _ ie] at nz
     exact aMO
end
section
variable {P:Program} {T:qq} {μ:Mu} {h:List al} {S:Nat->Prop} {w:World}
theorem xl (hc:Core μ h S w) (id g g1 sz n:Nat) (e:TypeId) (f f1:Nat->List PV) (hh:h[id]? =some (al.row g sz n e f)) (ju:μ id=none) (hg:g<g1):
  Fr μ h S w μ (h.set id (.row g1 sz 0 e f1)) S w/\Core μ (h.set id (.row g1 sz 0 e f1)) S w:=by
 have hid:id<h.length:=(An.1 hh).1
 have kW:(h.set id (al.row g1 sz 0 e f1))[id]? =some (al.row g1 sz 0 e f1):=by simp [hid]
 have dB:∀j,j≠id->(h.set id (al.row g1 sz 0 e f1))[j]? =h[j]? :=λj hj=>by rw [aKs (aLo hj)]
 have BO:∀b,GJ μ (h.set id (al.row g1 sz 0 e f1)) b->GJ μ h b:=λb hb=>by
  obtain ⟨j,gj,mF,nj,ej,fj,qy,hj,hm⟩:=hb
  by_cases ie:j=id
  ·subst ie;rw [ju] at hm;cases hm
  ·rw [dB j ie] at hj;exact ⟨j,gj,mF,nj,ej,fj,qy,hj,hm⟩
 have qY:∀j x y b,eA (h.set id (al.row g1 sz 0 e f1)) j x y b->eA h j x y b:=λj x y b ⟨gj,mF,nj,ej,fj,cJ,n',e',f',F',q1,q2,q3,q4⟩=>by
  by_cases ie:j=id
  ·subst ie
   rw [kW] at q1
   injection q1 with q1
   injection q1 with e1 e2 e3 e4 e5
   omega
  ·rw [dB j ie] at q1
   exact ⟨_,_,_,_,_,_,_,_,_,_,q1,q2,q3,q4⟩
 have nD:∀b,dx μ (h.set id (al.row g1 sz 0 e f1)) b->dx μ h b:=λb hb=>by
  rcases hb with hb | ⟨x,y,z,hb⟩
  ·exact .inl (BO b hb)
  ·exact .inr ⟨x,y,z,qY _ _ _ _ hb⟩
 have lu:Fr μ h S w μ (h.set id (.row g1 sz 0 e f1)) S w:=by
  refine ⟨by simp,λ_ _ _=>rfl,λ_ hb=>hb,λ_ hb=>.inl hb,λb hb=>.inl (nD b hb),As _,rfl,rfl,rfl,λj gj mF nj ej fj hj=>?_,λj hj=>?_,λ_ _ _ ic=>ic,λj gj mF nj ej fj b base hj hm nI=>⟨nI,.inr ⟨⟨_,_,_,_,_,(dB j (by rintro rfl;rw [ju] at hm;cases hm)).trans hj⟩,hm⟩⟩,λ_ _ _ _ _ nI=>nI⟩
  ·by_cases ie:j=id
   ·subst ie
    rw [hh] at hj
    injection hj with hj
    injection hj with e1 e2 e3 e4 e5
    subst e1 e2 e3 e4 e5
    rw [kW]
    exact ⟨by omega,λhe=>absurd he aNc⟩
   ·rw [dB j ie,hj]
    exact aMY
  ·have ie:j≠id:=by rintro rfl;rw [hh] at hj;cases hj
   rw [dB j ie];exact hj
 refine ⟨lu,⟨λj gj mF nj ej fj hj=>?_,⟨λb hb=>hc.ok.apart b (nD b hb),λb hb=>hc.ok.lt b (nD b hb),hc.ok.slt,?_,hc.ok.known,λb hb x y z hx=>hc.ok.hv b (BO b hb) x y z (qY _ _ _ _ hx),λb _ _ _ _ _ _ hx hy=>hc.ok.hh b _ _ _ _ _ _ (qY _ _ _ _ hx) (qY _ _ _ _ hy)⟩⟩⟩
 ·by_cases ie:j=id
  ·subst ie
   rw [kW] at hj
   injection hj with hj
   injection hj with e1 e2 e3 e4 e5
   subst e1 e2 e3 e4 e5
   refine ⟨λi hi=>absurd hi aNc,?_⟩
   rw [ju]
  ·rw [dB j ie] at hj
   obtain ⟨h1,h2⟩:=hc.heap j gj mF nj ej fj hj
   refine ⟨h1,?_⟩
   cases hm:μ j with
   | none=>rw [hm] at h2;exact h2
   | some p=>
    obtain ⟨b,base⟩:=p
    rw [hm] at h2
    obtain ⟨o,q1,q2⟩:=h2
    exact ⟨o,q1,q2.mono (λ_ _ _ _ _ _ hr=>hr.fr lu hc.ok (λ_ _ _ _ _ _ _ _=>rfl))⟩
 ·intro i j gi Uc ni ei fi gj mF nj ej fj b o o' hi hj nV nz
  have Ud:i≠id:=by rintro rfl;rw [ju] at nV;cases nV
  have ie:j≠id:=by rintro rfl;rw [ju] at nz;cases nz
  rw [dB i Ud] at hi
  rw [dB j ie] at hj
  exact aMO
variable {a:Act} {env:Env} {K:PV->List al->Prop} {dst:Option Tmp} {ty:TypeId} {pos:String} {after:Array Edge} {guard:Option (Nat×Bool)}
theorem qH (z:Array Value) (n:Nat):(Builtin.zeroCells z n).size=n*z.size:=by simp [Builtin.zeroCells]
theorem jW {s x:Operand} {t tx:TypeId} {sv xv v':Value} {w':World} (hs:a.eval s=sv) (hx:a.eval x=xv) (hr:(Builtin.append_ #[t,tx] ty #[sv,xv]).run P w=.ok v' w'):
  (execOp a.eval ⟨dst,.call ⟨.builtin .append,#[s,x],#[t,tx]⟩,ty,pos,after,guard⟩).run P w=.ok (.value v') w':=by
 simp only [execOp,resolve,invoke,builtin,Sem.run_bind,Sem.run_pure,Result.andThen_ok,aLS,aKp,aKI,hs,hx,hr]
theorem DZ {sz l m:Nat} {f q:Nat->List PV} {xX news rest:Array Value} (ho:xX.size=l*sz) (hn:news.size=m*sz)
  (h1:∀(i j:Nat) (pv:PV),i<l->(f i)[j]? =some pv->∃u,xX[i*sz+j]? =some u/\pz μ h S w pv u)
  (h2:∀(i j:Nat) (pv:PV),i<m->(q i)[j]? =some pv->∃u,news[i*sz+j]? =some u/\pz μ h S w pv u)
  (hl1:∀i,i<l->(f i).length=sz) (HG:∀i,i<m->(q i).length=sz):
  ∀(i j:Nat) (pv:PV),i<l+m->(bif Nat.blt i l then f i else q (i - l))[j]? =some pv->∃u,(xX++news++rest)[i*sz+j]? =some u/\pz μ h S w pv u:=by
 intro i j pv hi hj
 by_cases uE:i<l
 ·have hb:Nat.blt i l=true:=by simpa using uE
  rw [hb] at hj
  simp only [cond_true] at hj
  obtain ⟨u,q1,q2⟩:=h1 i j pv uE hj
  have bc:i*sz+j<xX.size:=(abF.1 q1).1
  exact ⟨u,by rw [aKU aNl,aKU bc];exact q1,q2⟩
 ·have hb:Nat.blt i l=false:=by
   cases hh:Nat.blt i l with
   | true=>exact (uE aNN).elim
   | false=>rfl
  rw [hb] at hj
  simp only [cond_false] at hj
  obtain ⟨u,q1,q2⟩:=h2 (i - l) j pv aNc hj
  have bc:(i - l)*sz+j<news.size:=(abF.1 q1).1
  have hmul:i*sz=l*sz+(i - l)*sz:=by rw [<-aKi];congr 1;omega
  refine ⟨u,?_,q2⟩
  rw [aKU aNl,Array.getElem?_append_right aNc,<-q1]
  congr 1
  omega
theorem Mc {sz l m:Nat} {f q:Nat->List PV} (hl1:∀i,i<l->(f i).length=sz) (HG:∀i,i<m->(q i).length=sz):∀i,i<l+m->(bif Nat.blt i l then f i else q (i - l)).length=sz:=by
 intro i hi
 by_cases uE:i<l
 ·have hb:Nat.blt i l=true:=by simpa using uE
  rw [hb];exact hl1 i uE
 ·have hb:Nat.blt i l=false:=by
   cases hh:Nat.blt i l with
   | true=>exact (uE aNN).elim
   | false=>rfl
  rw [hb];exact HG _ aNc
theorem Ax (w:World) (o:Obj):c7 w (w.drew.alloc o):=(c7.drew w).trans (oZ w.drew o)
theorem Md (hT:fe P T) (hc:Core μ h S w) (t tx e sz bytes:Nat) (zero:List PV) (d:TypeDesc) (jP:T.get t=.slice e sz bytes zero) (uT:P.underlying tx=some d) (hd:(∃e',d=.slice e')\/d=.string)
  (s x:Operand) (hs:a.eval s=.slice none 0 0) (m:Nat) (g:Nat->List PV) (BP:Src P μ h S w (a.eval x) sz m g) (hgo:∀(i j:Nat) (pv:PV),i<m->(g i)[j]? =some pv->eh pv=false) (hb:m*bytes<=140737488355328) (hK:K (.own h.length 0 0 m) (h++[.row 0 sz m e g])):
  iG P ⟨dst,.call ⟨.builtin .append,#[s,x],#[t,tx]⟩,ty,pos,after,guard⟩ a μ h S w K:=by
 obtain ⟨hu,jO,inf,zv,nN,qX,hib,hz,hzs,hzl,hzc⟩:=hT.slice _ _ _ _ _ jP
 have hbp:=hT.bytes _ _ _ _ _ jP
 subst qX hib
 obtain ⟨hl,news,q1,q2,q3,q4⟩:=BP
 rcases aLf m with h0 | h0
 ·subst h0
  have hn:news=#[]:=aLd aNM
  subst hn
  obtain ⟨r1,r2⟩:=q4 w (c7.refl w)
  have hr:=kY (P:=P) (w:=w) t tx ty e inf d hu uT hd nN none 0 0 (a.eval x) 0 #[] w r1 r2 (As _) rfl
  obtain ⟨lu,uD⟩:=oK (w1:=w) hc inf.size 0 e g none rfl (c7.refl w) hl hgo
  refine iG.jJ (jW hs rfl hr) hK ?_ uD lu
  show bG _ _ _ _ _ _ _ _
  unfold bG
  rw [aKt (As _),aLm]
  refine ⟨⟨_,_,_,rfl⟩,As _,λ_=>⟨by omega,?_⟩⟩
  rw [bH]
 ·obtain ⟨r1,_⟩:=q4 w (c7.refl w)
  obtain ⟨_,r2⟩:=q4 w.drew (c7.drew w)
  have hr:=pB (P:=P) (w:=w) t tx ty e inf zv d hu uT hd nN hz none 0 0 (a.eval x) m #[] news r1 rfl r2 aNc hbp (by rw [aKc];exact hb)
  rw [aKc] at hr
  obtain ⟨lu,uD⟩:=oK (w1:=w.drew.alloc (.cells (#[]++news++Builtin.zeroCells zv.cells (grownCap w m 0 e - m)) e)) hc inf.size m e g (some (w.heap.size,0))
   ⟨As _,_,heap_alloc_new w.drew _,by simp [q1],λi j pv hi hj=>by
    obtain ⟨u,p1,p2⟩:=q2 i j pv hi hj
    have bc:=(abF.1 p1).1
    exact ⟨u,by rw [aLD,aKc,aKU bc];exact p1,p2.c⟩⟩ (Ax w _) hl hgo
  refine iG.jJ (jW hs rfl hr) hK ?_ uD lu
  show bG _ _ _ _ _ _ _ _
  unfold bG
  rw [aKt (As _),aLm]
  refine ⟨⟨_,_,_,rfl⟩,As _,λ_=>⟨by omega,?_⟩⟩
  rw [bH]
  have Q8:=grownCap_ge w m 0 e
  refine ⟨_,grownCap w m 0 e,rfl,Q8,λ_=>by simp,_,e,_,heap_alloc_new w.drew _,?_⟩
  simp only [aLw,qH,hzs,q1]
  simp only [aKc]
  have:grownCap w m 0 e*inf.size=m*inf.size+(grownCap w m 0 e - m)*inf.size:=by rw [<-aKi];congr 1;omega
  simp
  omega
theorem PI (hT:fe P T) (hc:Core μ h S w) (t tx e sz bytes:Nat) (zero:List PV) (d:TypeDesc) (jP:T.get t=.slice e sz bytes zero) (uT:P.underlying tx=some d) (hd:(∃e',d=.slice e')\/d=.string)
  (s x:Operand) (id g off len n:Nat) (f:Nat->List PV) (hh:h[id]? =some (al.row g sz n e f)) (hs:cj μ h S w (.own id g off len) (a.eval s)) (m:Nat) (q:Nat->List PV) (BP:Src P μ h S w (a.eval x) sz m q) (hqo:∀(i j:Nat) (pv:PV),i<m->(q i)[j]? =some pv->eh pv=false)
  (hb:(len+m)*bytes<=140737488355328)
  (hK:K (.own id (g+1) 0 (len+m)) (h.set id (.row (g+1) sz (len+m) e (λi=>bif Nat.blt i len then f (off+i) else q (i - len))))):
  iG P ⟨dst,.call ⟨.builtin .append,#[s,x],#[t,tx]⟩,ty,pos,after,guard⟩ a μ h S w K:=by
 obtain ⟨hu,jO,inf,zv,nN,qX,hib,hz,hzs,hzl,hzc⟩:=hT.slice _ _ _ _ _ jP
 have hbp:=hT.bytes _ _ _ _ _ jP
 subst qX hib
 have hid:id<h.length:=(An.1 hh).1
 obtain ⟨hl1,xX,o1,o2,o3,o4⟩:=qb (P:=P) hc id g off len inf.size n e f hh _ hs jO
 obtain ⟨HG,news,q1,q2,q3,q4⟩:=BP
 have hlj:=Mc hl1 HG
 have hjo:∀{sl:Nat},off+sl<=n->∀(i j cJ n':Nat) (e':TypeId) (f':Nat->List PV) (F':Nat->Prop),i<sl+m->(bif Nat.blt i sl then f (off+i) else q (i - sl))[j]? =some (.dI cJ n' e' f' F')->off+i<n/\(f (off+i))[j]? =some (.dI cJ n' e' f' F'):=λ{sl} hsn i j cJ n' e' f' F' hi hj=>by
  by_cases uE:i<sl
  ·have hb:Nat.blt i sl=true:=by simpa using uE
   rw [hb] at hj
   exact ⟨by omega,hj⟩
  ·have hb:Nat.blt i sl=false:=by
    cases hh:Nat.blt i sl with
    | true=>exact (uE aNN).elim
    | false=>rfl
   rw [hb] at hj
   have:=hqo (i - sl) j _ aNc hj
   cases this
 have Ay:=hs.pV
 unfold bG at Ay
 rw [hh] at Ay
 obtain ⟨⟨sa,sl,oC,Me⟩,_,Ay⟩:=Ay
 obtain ⟨hle,Ay⟩:=Ay rfl
 have hsl:sl=len:=by
  obtain ⟨e1,_⟩:=o4 w (c7.refl w)
  rw [Me] at e1
  simp [Builtin.lenOf] at e1
  exact e1
 subst hsl
 obtain ⟨hl,bB⟩:=hc.heap id g _ n e f hh
 have Tm:∀b base,μ id=some (b,base)->¬rS w b:=λb base ju=>by
  rw [ju] at Ay
  obtain ⟨_,_,_,_,_,ic⟩:=Ay
  exact ic.Pb
 by_cases rr:sl+m<=oC
 ·-- in place
  obtain ⟨r1,r2⟩:=q4 w (c7.refl w)
  cases ju:μ id with
  | none=>
   rw [ju] at Ay bB
   rw [Me] at Ay
   injection Ay with e1 e2 e3
   subst e1 e2 e3
   have hm:m=0:=by omega
   subst hm
   have hn:news=#[]:=aLd aNM
   subst hn
   have hr:=kY (P:=P) (w:=w) t tx ty e inf d hu uT hd nN none 0 0 (a.eval x) 0 #[] w r1 r2 (As _) rfl
   obtain ⟨lu,uD⟩:=xl hc id g (g+1) inf.size n e f (λi=>bif Nat.blt i 0 then f (off+i) else q (i - 0)) hh ju (aKe g)
   refine iG.jJ (jW Me rfl hr) hK ?_ uD lu
   show bG _ _ _ _ _ _ _ _
   unfold bG
   rw [aKP hid]
   refine ⟨⟨_,_,_,rfl⟩,As _,λ_=>⟨by omega,?_⟩⟩
   rw [ju]
  | some p=>
   obtain ⟨b,base⟩:=p
   rw [ju] at Ay bB
   obtain ⟨ad,cap,hv,hlc,yt,ic⟩:=Ay
   rw [Me] at hv
   injection hv with e1 e2 e3
   subst e1 e3
   obtain ⟨cur,ny,wY,lK⟩:=de.cells ic bB
   have abP:base+(off+oC)*inf.size<=cur.size:=by
    obtain ⟨BI,e',z',p1,p2⟩:=ic
    rw [ny] at p1
    injection p1 with p1
    injection p1 with p1 _ _
    subst p1
    exact p2
   rw [aKi] at abP
   have key:∃lJ:Array Value,lJ.size=cur.size/\(match (some ad:Option Addr) with | some a=>(storeCells (a.add (sl*inf.size)) news.toList).run P w=.ok () (w.setRow b lJ) | none=>w.setRow b lJ=w)/\
     ∀k,lJ[k]? =if base+off*inf.size+sl*inf.size<=k/\k<base+off*inf.size+sl*inf.size+m*inf.size then news[k - (base+off*inf.size+sl*inf.size)]? else cur[k]? :=by
    rcases aLf m with h0 | h0
    ·subst h0
     have hn:news=#[]:=aLd aNM
     subst hn
     refine ⟨cur,rfl,?_,λk=>by rw [if_neg aNc]⟩
     show (storeCells (ad.add (sl*inf.size)) []).run P w=.ok () (w.setRow b cur)
     rw [setRow_self w b cur e (0,0) ny]
     rfl
    ·have yt:=yt aNc
     subst yt
     have hmul:(sl+m)*inf.size<=oC*inf.size:=aKn _ rr
     rw [aKi] at hmul
     have Ag:=run_storeCells_at P b (base+off*inf.size+sl*inf.size) e news.toList 0 cur w ny aNl q3
     rw [aKZ] at Ag
     refine ⟨(cur.toList.take (base+off*inf.size+sl*inf.size)++news.toList++cur.toList.drop (base+off*inf.size+sl*inf.size+news.toList.length)).toArray,?_,?_,λk=>?_⟩
     ·simp;omega
     ·show (storeCells ((⟨b,base+off*inf.size,none⟩:Addr).add (sl*inf.size)) news.toList).run P w=.ok () _
      rw [Addr.add_lit]
      exact Ag
     ·have hsp:=xW cur.toList news.toList (base+off*inf.size+sl*inf.size) k aNl
      rw [aLH,hsp]
      simp only [aKG,aLj,q1]
   obtain ⟨lJ,c1,c2,c3⟩:=key
   have hr:=kY (P:=P) (w:=w) t tx ty e inf d hu uT hd nN (some ad) sl oC (a.eval x) m news (w.setRow b lJ) r1 r2 rr c2
   have hmul:(sl+m)*inf.size<=oC*inf.size:=aKn _ rr
   rw [aKi] at hmul
   have oX:=DB (w1:=w.setRow b lJ) hc id g (g+1) inf.size n (sl+m) e f (λi=>bif Nat.blt i sl then f (off+i) else q (i - sl)) hh b (base+off*inf.size) lJ aNc (λhe=>absurd he aNc)
    (.inr ⟨base,cur,ju,ny,c1.symm⟩) (setRow_heap w b cur _ e _ ny) (by rw [c1,aKi];omega) (λb' _ oY=>setRow_other w b b' _ oY) aNf rfl rfl rfl hlj Tm
    (λi j pv hi hj=>by
     have O6:j<inf.size:=by rw [<-hlj i hi];exact (An.1 hj).1
     rw [c3]
     by_cases uE:i<sl
     ·have hbl:Nat.blt i sl=true:=by simpa using uE
      rw [hbl] at hj
      simp only [cond_true] at hj
      have nV:(i+1)*inf.size<=sl*inf.size:=aKn _ uE
      rw [aKi] at nV
      rw [if_neg aNc]
      obtain ⟨u,p1,p2⟩:=lK (off+i) j pv aNc hj
      refine ⟨u,?_,p2⟩
      rw [<-p1]
      congr 1
      rw [aKi]
      omega
     ·have hbl:Nat.blt i sl=false:=by
       cases hh':Nat.blt i sl with
       | true=>exact (uE (by simpa using hh')).elim
       | false=>rfl
      rw [hbl] at hj
      simp only [cond_false] at hj
      have e1:i*inf.size=sl*inf.size+(i - sl)*inf.size:=by rw [<-aKi];congr 1;omega
      have e2:(i - sl+1)*inf.size<=m*inf.size:=aKn _ aNc
      rw [aKi] at e2
      rw [if_pos aNc]
      obtain ⟨u,p1,p2⟩:=q2 (i - sl) j pv aNc hj
      exact ⟨u,by rw [<-p1];congr 1;omega,p2⟩) off (hjo aNc)
   obtain ⟨lu,uD⟩:=oX
   refine iG.jJ (jW Me rfl hr) hK ?_ uD lu
   show bG _ _ _ _ _ _ _ _
   unfold bG
   rw [aKP hid]
   refine ⟨⟨_,_,_,rfl⟩,As _,λ_=>⟨by omega,?_⟩⟩
   rw [bH]
   refine ⟨ad,oC,rfl,rr,λhc0=>?_,lJ,e,_,setRow_heap w b cur _ e _ ny,?_⟩
   ·rw [yt hc0,Nat.zero_mul,aKZ]
   ·rw [c1,aKc];omega
 ·-- it grows
  obtain ⟨r1,_⟩:=q4 w (c7.refl w)
  obtain ⟨_,r2⟩:=q4 w.drew (c7.drew w)
  obtain ⟨_,s2⟩:=o4 w.drew (c7.drew w)
  rw [Me] at s2
  have hr:=pB (P:=P) (w:=w) t tx ty e inf zv d hu uT hd nN hz sa sl oC (a.eval x) m xX news r1 s2 r2 aNc hbp hb
  have Q8:=grownCap_ge w (sl+m) oC e
  have oX:=DB (w1:=w.drew.alloc (.cells (xX++news++Builtin.zeroCells zv.cells (grownCap w (sl+m) oC e - (sl+m))) e)) hc id g (g+1) inf.size n (sl+m) e f (λi=>bif Nat.blt i sl then f (off+i) else q (i - sl)) hh
   w.heap.size 0 (xX++news++Builtin.zeroCells zv.cells (grownCap w (sl+m) oC e - (sl+m))) aNc (λhe=>absurd he aNc) (.inl (As _)) (heap_alloc_new w.drew _)
   (by simp only [aLw,o1,q1,aKi];omega) (λb bc _=>heap_alloc_old w.drew _ bc) aNf rfl rfl rfl hlj Tm
   (λi j pv hi hj=>by
    rw [aKc]
    exact DZ o1 q1 o2 q2 hl1 HG i j pv hi hj) off (hjo aNc)
  obtain ⟨lu,uD⟩:=oX
  refine iG.jJ (jW Me rfl hr) hK ?_ uD lu
  show bG _ _ _ _ _ _ _ _
  unfold bG
  rw [aKP hid]
  refine ⟨⟨_,_,_,rfl⟩,As _,λ_=>⟨by omega,?_⟩⟩
  rw [bH]
  refine ⟨_,grownCap w (sl+m) oC e,rfl,Q8,λ_=>by simp,_,e,_,heap_alloc_new w.drew _,?_⟩
  simp only [aLw,qH,hzs,o1,q1,aKc]
  have:grownCap w (sl+m) oC e*inf.size=(sl+m)*inf.size+(grownCap w (sl+m) oC e - (sl+m))*inf.size:=by rw [<-aKi];congr 1;omega
  rw [aKi] at this
  omega
theorem iG.afj {o:Oper} {a:Act} {K:PV->List al->Prop} {μ1:Mu} {h1:List al} (hf:Fr μ h S w μ1 h1 S w) (hm:tQ μ h S w) (hA:iG P o a μ1 h1 S w K):iG P o a μ h S w K:=by
 intro next Q hn
 exact hA next Q λv val h' μ' S' w' hK hv hc hF=>hn v val h' μ' S' w' hK hv hc (hf.trans hF)
theorem Be (hT:fe P T) (hc:Core μ h S w) (t tx e sz bytes:Nat) (zero:List PV) (d:TypeDesc) (jP:T.get t=.slice e sz bytes zero) (uT:P.underlying tx=some d) (hd:(∃e',d=.slice e')\/d=.string)
  (s x:Operand) (id g off len n:Nat) (f:Nat->List PV) (hh:h[id]? =some (al.row g sz n e f)) (hs:cj μ h S w (.own id g off len) (a.eval s)) (ll:Nat) (oY:ll≠id) (g2 n2:Nat) (afk:TypeId) (q2:Nat->List PV) (yb m:Nat) (Mb:h[ll]? =some (al.row g2 sz n2 afk q2)) (FL:yb+m<=n2) (BP:Src P μ h S w (a.eval x) sz m (λi=>q2 (yb+i)))
  (hb:(len+m)*bytes<=140737488355328)
  (hK:K (.own id (g+1) 0 (len+m)) ((h.set id (.row (g+1) sz (len+m) e (λi=>bif Nat.blt i len then f (off+i) else q2 (yb+(i - len))))).set ll .dead)):
  iG P ⟨dst,.call ⟨.builtin .append,#[s,x],#[t,tx]⟩,ty,pos,after,guard⟩ a μ h S w K:=by
 obtain ⟨hu,jO,inf,zv,nN,qX,hib,hz,hzs,hzl,hzc⟩:=hT.slice _ _ _ _ _ jP
 have hbp:=hT.bytes _ _ _ _ _ jP
 subst qX hib
 have hid:id<h.length:=(An.1 hh).1
 obtain ⟨hl1,xX,o1,o2,o3,o4⟩:=qb (P:=P) hc id g off len inf.size n e f hh _ hs jO
 obtain ⟨HG,news,q1,q2c,q3,q4⟩:=BP
 have hlj:=Mc hl1 HG
 have hjo:∀{sl:Nat},off+sl<=n->∀(i j cJ n':Nat) (e':TypeId) (f':Nat->List PV) (F':Nat->Prop),i<sl+m->(bif Nat.blt i sl then f (off+i) else q2 (yb+(i - sl)))[j]? =some (.dI cJ n' e' f' F')->(i<sl/\off+i<n/\(f (off+i))[j]? =some (.dI cJ n' e' f' F'))\/(sl<=i/\yb+(i - sl)<n2/\(q2 (yb+(i - sl)))[j]? =some (.dI cJ n' e' f' F')):=λ{sl} hsn i j cJ n' e' f' F' hi hj=>by
  by_cases uE:i<sl
  ·have hb:Nat.blt i sl=true:=by simpa using uE
   rw [hb] at hj
   exact .inl ⟨uE,by omega,hj⟩
  ·have hb:Nat.blt i sl=false:=by
    cases hh:Nat.blt i sl with
    | true=>exact (uE aNN).elim
    | false=>rfl
   rw [hb] at hj
   exact .inr ⟨by omega,by omega,hj⟩
 have Ay:=hs.pV
 unfold bG at Ay
 rw [hh] at Ay
 obtain ⟨⟨sa,sl,oC,Me⟩,_,Ay⟩:=Ay
 obtain ⟨hle,Ay⟩:=Ay rfl
 have hsl:sl=len:=by
  obtain ⟨e1,_⟩:=o4 w (c7.refl w)
  rw [Me] at e1
  simp [Builtin.lenOf] at e1
  exact e1
 subst hsl
 obtain ⟨hl,bB⟩:=hc.heap id g _ n e f hh
 have Tm:∀b base,μ id=some (b,base)->¬rS w b:=λb base ju=>by
  rw [ju] at Ay
  obtain ⟨_,_,_,_,_,ic⟩:=Ay
  exact ic.Pb
 by_cases rr:sl+m<=oC
 ·-- in place
  obtain ⟨r1,r2⟩:=q4 w (c7.refl w)
  cases ju:μ id with
  | none=>
   rw [ju] at Ay bB
   rw [Me] at Ay
   injection Ay with e1 e2 e3
   subst e1 e2 e3
   have hm:m=0:=by omega
   subst hm
   have hn:news=#[]:=aLd aNM
   subst hn
   have hr:=kY (P:=P) (w:=w) t tx ty e inf d hu uT hd nN none 0 0 (a.eval x) 0 #[] w r1 r2 (As _) rfl
   obtain ⟨aId,aIe⟩:=xl hc id g (g+1) inf.size n e f (λi=>bif Nat.blt i 0 then f (off+i) else q2 (yb+(i - 0))) hh ju (aKe g)
   obtain ⟨aIf,uD⟩:=TQ aIe ll g2 inf.size n2 afk q2 (by rw [aKs (aLo oY)];exact Mb)
   have lu:=aId.trans aIf
   refine iG.jJ (jW Me rfl hr) hK ?_ uD lu
   show bG _ _ _ _ _ _ _ _
   unfold bG
   rw [aKs oY,aKP hid]
   refine ⟨⟨_,_,_,rfl⟩,As _,λ_=>⟨by omega,?_⟩⟩
   rw [ju]
  | some p=>
   obtain ⟨b,base⟩:=p
   rw [ju] at Ay bB
   obtain ⟨ad,cap,hv,hlc,yt,ic⟩:=Ay
   rw [Me] at hv
   injection hv with e1 e2 e3
   subst e1 e3
   obtain ⟨cur,ny,wY,lK⟩:=de.cells ic bB
   have abP:base+(off+oC)*inf.size<=cur.size:=by
    obtain ⟨BI,e',z',p1,p2⟩:=ic
    rw [ny] at p1
    injection p1 with p1
    injection p1 with p1 _ _
    subst p1
    exact p2
   rw [aKi] at abP
   have key:∃lJ:Array Value,lJ.size=cur.size/\(match (some ad:Option Addr) with | some a=>(storeCells (a.add (sl*inf.size)) news.toList).run P w=.ok () (w.setRow b lJ) | none=>w.setRow b lJ=w)/\
     ∀k,lJ[k]? =if base+off*inf.size+sl*inf.size<=k/\k<base+off*inf.size+sl*inf.size+m*inf.size then news[k - (base+off*inf.size+sl*inf.size)]? else cur[k]? :=by
    rcases aLf m with h0 | h0
    ·subst h0
     have hn:news=#[]:=aLd aNM
     subst hn
     refine ⟨cur,rfl,?_,λk=>by rw [if_neg aNc]⟩
     show (storeCells (ad.add (sl*inf.size)) []).run P w=.ok () (w.setRow b cur)
     rw [setRow_self w b cur e (0,0) ny]
     rfl
    ·have yt:=yt aNc
     subst yt
     have hmul:(sl+m)*inf.size<=oC*inf.size:=aKn _ rr
     rw [aKi] at hmul
     have Ag:=run_storeCells_at P b (base+off*inf.size+sl*inf.size) e news.toList 0 cur w ny aNl q3
     rw [aKZ] at Ag
     refine ⟨(cur.toList.take (base+off*inf.size+sl*inf.size)++news.toList++cur.toList.drop (base+off*inf.size+sl*inf.size+news.toList.length)).toArray,?_,?_,λk=>?_⟩
     ·simp;omega
     ·show (storeCells ((⟨b,base+off*inf.size,none⟩:Addr).add (sl*inf.size)) news.toList).run P w=.ok () _
      rw [Addr.add_lit]
      exact Ag
     ·have hsp:=xW cur.toList news.toList (base+off*inf.size+sl*inf.size) k aNl
      rw [aLH,hsp]
      simp only [aKG,aLj,q1]
   obtain ⟨lJ,c1,c2,c3⟩:=key
   have hr:=kY (P:=P) (w:=w) t tx ty e inf d hu uT hd nN (some ad) sl oC (a.eval x) m news (w.setRow b lJ) r1 r2 rr c2
   have hmul:(sl+m)*inf.size<=oC*inf.size:=aKn _ rr
   rw [aKi] at hmul
   have oX:=GQ (w1:=w.setRow b lJ) hc id ll oY g2 inf.size n2 afk q2 Mb sl g (g+1) inf.size n (sl+m) e f (λi=>bif Nat.blt i sl then f (off+i) else q2 (yb+(i - sl))) hh b (base+off*inf.size) lJ aNc (λhe=>absurd he aNc)
    (.inr ⟨base,cur,ju,ny,c1.symm⟩) (setRow_heap w b cur _ e _ ny) (by rw [c1,aKi];omega) (λb' _ oY=>setRow_other w b b' _ oY) aNf rfl rfl rfl hlj Tm
    (λi j pv hi hj=>by
     have O6:j<inf.size:=by rw [<-hlj i hi];exact (An.1 hj).1
     rw [c3]
     by_cases uE:i<sl
     ·have hbl:Nat.blt i sl=true:=by simpa using uE
      rw [hbl] at hj
      simp only [cond_true] at hj
      have nV:(i+1)*inf.size<=sl*inf.size:=aKn _ uE
      rw [aKi] at nV
      rw [if_neg aNc]
      obtain ⟨u,p1,p2⟩:=lK (off+i) j pv aNc hj
      refine ⟨u,?_,p2⟩
      rw [<-p1]
      congr 1
      rw [aKi]
      omega
     ·have hbl:Nat.blt i sl=false:=by
       cases hh':Nat.blt i sl with
       | true=>exact (uE (by simpa using hh')).elim
       | false=>rfl
      rw [hbl] at hj
      simp only [cond_false] at hj
      have e1:i*inf.size=sl*inf.size+(i - sl)*inf.size:=by rw [<-aKi];congr 1;omega
      have e2:(i - sl+1)*inf.size<=m*inf.size:=aKn _ aNc
      rw [aKi] at e2
      rw [if_pos aNc]
      obtain ⟨u,p1,p2⟩:=q2c (i - sl) j pv aNc hj
      exact ⟨u,by rw [<-p1];congr 1;omega,p2⟩) off yb (hjo aNc)
   obtain ⟨lu,uD⟩:=oX
   refine iG.jJ (jW Me rfl hr) hK ?_ uD lu
   show bG _ _ _ _ _ _ _ _
   unfold bG
   rw [aKs oY,aKP hid]
   refine ⟨⟨_,_,_,rfl⟩,As _,λ_=>⟨by omega,?_⟩⟩
   rw [bH]
   refine ⟨ad,oC,rfl,rr,λhc0=>?_,lJ,e,_,setRow_heap w b cur _ e _ ny,?_⟩
   ·rw [yt hc0,Nat.zero_mul,aKZ]
   ·rw [c1,aKc];omega
 ·-- it grows
  obtain ⟨r1,_⟩:=q4 w (c7.refl w)
  obtain ⟨_,r2⟩:=q4 w.drew (c7.drew w)
  obtain ⟨_,s2⟩:=o4 w.drew (c7.drew w)
  rw [Me] at s2
  have hr:=pB (P:=P) (w:=w) t tx ty e inf zv d hu uT hd nN hz sa sl oC (a.eval x) m xX news r1 s2 r2 aNc hbp hb
  have Q8:=grownCap_ge w (sl+m) oC e
  have oX:=GQ (w1:=w.drew.alloc (.cells (xX++news++Builtin.zeroCells zv.cells (grownCap w (sl+m) oC e - (sl+m))) e)) hc id ll oY g2 inf.size n2 afk q2 Mb sl g (g+1) inf.size n (sl+m) e f (λi=>bif Nat.blt i sl then f (off+i) else q2 (yb+(i - sl))) hh
   w.heap.size 0 (xX++news++Builtin.zeroCells zv.cells (grownCap w (sl+m) oC e - (sl+m))) aNc (λhe=>absurd he aNc) (.inl (As _)) (heap_alloc_new w.drew _)
   (by simp only [aLw,o1,q1,aKi];omega) (λb bc _=>heap_alloc_old w.drew _ bc) aNf rfl rfl rfl hlj Tm
   (λi j pv hi hj=>by
    rw [aKc]
    exact DZ o1 q1 o2 q2c hl1 HG i j pv hi hj) off yb (hjo aNc)
  obtain ⟨lu,uD⟩:=oX
  refine iG.jJ (jW Me rfl hr) hK ?_ uD lu
  show bG _ _ _ _ _ _ _ _
  unfold bG
  rw [aKs oY,aKP hid]
  refine ⟨⟨_,_,_,rfl⟩,As _,λ_=>⟨by omega,?_⟩⟩
  rw [bH]
  refine ⟨_,grownCap w (sl+m) oC e,rfl,Q8,λ_=>by simp,_,e,_,heap_alloc_new w.drew _,?_⟩
  simp only [aLw,qH,hzs,o1,q1,aKc]
  have:grownCap w (sl+m) oC e*inf.size=(sl+m)*inf.size+(grownCap w (sl+m) oC e - (sl+m))*inf.size:=by rw [<-aKi];congr 1;omega
  rw [aKi] at this
  omega
theorem IL (hT:fe P T) (hc:Core μ h S w) (ht:∀t,cj μ h S w (env t) (a.tmps.getD t undef)) (args:Array Operand) (ts:Array TypeId) (hp:pop P T (.call ⟨.builtin .append,args,ts⟩) env h K):
  iG P ⟨dst,.call ⟨.builtin .append,args,ts⟩,ty,pos,after,guard⟩ a μ h S w K:=by
 obtain ⟨args⟩:=args
 obtain ⟨ts⟩:=ts
 simp only [pop] at hp
 split at hp
 ·rename_i s x t tx
  have hs:=dq ht s
  have hx:=dq ht x
  have main:∀(e sz bytes:Nat) (zero:List PV) (d:TypeDesc),T.get t=.slice e sz bytes zero->P.underlying tx=some d->((∃e',d=.slice e')\/d=.string)->PJ e sz bytes (ev env s) (ev env x) h K->
    iG P ⟨dst,.call ⟨.builtin .append,#[s,x],#[t,tx]⟩,ty,pos,after,guard⟩ a μ h S w K:=by
   intro e sz bytes zero d jP hxu hd hp
   have jO:=(hT.slice _ _ _ _ _ jP).2.1
   cases hp with
   | move hp=>
    unfold Mf at hp
    split at hp
    ·rename_i ll abQ m hes hex
     rw [hes] at hs
     rw [hex] at hx
     split at hp
     ·rename_i g' lN n2 e' q hg
      obtain ⟨rfl,hp⟩:=hp
      replace hp:=bX hp
      obtain ⟨B1,hb,hK⟩:=hp
      obtain rfl:=No B1
      have Mb:=fY hg
      have am5:ll<h.length:=(An.1 Mb).1
      have BP:=qb (P:=P) hc ll g' 0 m sz n2 e' q Mb _ hx jO
      have FL:0+m<=n2:=by
       have hr:=hx.pV
       unfold bG at hr
       rw [Mb] at hr
       exact (hr.2.2 rfl).1
      obtain ⟨fr1,c1⟩:=oK (w1:=w) hc sz 0 e (λ_=>[]) none rfl (c7.refl w) (λi hi=>absurd hi (aKR _)) (λi j pv hi=>absurd hi (aKR _))
      have hN:(h++[al.row 0 sz 0 e (λ_=>[])])[h.length]? =some (.row 0 sz 0 e (λ_=>[])):=by simp
      have aCy:(h++[al.row 0 sz 0 e (λ_=>[])])[ll]? =some (.row g' sz n2 e' q):=by rw [aKB am5];exact Mb
      have Me:cj (nU μ h.length none) (h++[al.row 0 sz 0 e (λ_=>[])]) S w (.own h.length 0 0 0) (a.eval s):=by
       rw [hs.qt]
       show bG _ _ w h.length 0 0 0 _
       unfold bG
       rw [hN,bH]
       exact ⟨⟨_,_,_,rfl⟩,As _,λ_=>⟨As _,rfl⟩⟩
      have hxv:=cj.fr fr1 hc.ok hx
      have aCz:=qb (P:=P) c1 ll g' 0 m sz n2 e' q aCy _ hxv jO
      have key:=Be (dst:=dst) (pos:=pos) (after:=after) (guard:=guard) (ty:=ty) (K:=K) hT c1 t tx e sz bytes zero d jP hxu hd s x h.length 0 0 0 0 (λ_=>[]) hN Me ll aNc g' n2 e' q 0 m aCy FL aCz (by rw [aKc];exact hb) (by
       have e1:(λi=>bif Nat.blt i 0 then ([]:List PV) else q (0+(i - 0)))=q:=by funext i;rw [aKc];rfl
       rw [e1,aKc m];exact hK)
      exact iG.afj fr1 hc.ok key
     ·exact aMG
    ·rename_i id gen len ll abQ m hes hex
     rw [hes] at hs
     rw [hex] at hx
     split at hp
     ·rename_i g cJ n e' f hg
      split at hp
      ·rename_i g' lN n2 e2 q hg2
       obtain ⟨rfl,rfl,hp⟩:=hp
       replace hp:=bX hp
       obtain ⟨B1,hb,hK⟩:=hp
       simp only [At,aKN] at B1
       obtain ⟨h1,h2,h3,h4⟩:=B1
       obtain rfl:=No h1
       obtain rfl:=No h2
       obtain rfl:=No h3
       have oY:ll≠id:=Nat.ne_of_beq_eq_false h4
       have Mb:=fY hg2
       have FL:0+m<=n2:=by
        have hr:=hx.pV
        unfold bG at hr
        rw [Mb] at hr
        exact (hr.2.2 rfl).1
       have BP:=qb (P:=P) hc ll g' 0 m sz n2 e2 q Mb _ hx jO
       refine Be hT hc t tx e sz bytes zero d jP hxu hd s x id g 0 len n f (fY hg) hs ll oY g' n2 e2 q 0 m Mb FL BP hb ?_
       have e1:(λi=>bif Nat.blt i len then f (0+i) else q (0+(i - len)))=Od f len q:=by funext i;rw [aKc,aKc];rfl
       rw [e1];exact hK
      ·exact aMG
     ·exact aMG
    ·exact aMG
   | dO hp=>
   unfold wD at hp
   split at hp
   ·rename_i hes
    rw [hes] at hs
    obtain ⟨_,g,⟨hb,m,f',rfl,Jf,hK⟩,BP,hgo⟩:=GK (P:=P) hc _ _ hx sz jO _ hp
    exact iG.rows (Md hT hc t tx e sz bytes zero d jP hxu hd s x hs.qt m g BP hgo hb ⟨_,e9.snoc _ _ _ _ _ _ _ Jf,hK⟩)
   ·rename_i id gen off len hes
    rw [hes] at hs
    split at hp
    ·rename_i g cJ n e' f hg
     obtain ⟨rfl,hp⟩:=hp
     replace hp:=bX hp
     obtain ⟨B1,hp⟩:=hp
     simp only [At] at B1
     obtain rfl:=No B1.1
     obtain rfl:=No B1.2
     obtain ⟨m,q,⟨hb,n',f',rfl,Jf,hK⟩,BP,hqo⟩:=GK (P:=P) hc _ _ hx sz jO _ hp
     exact iG.rows (PI hT hc t tx e sz bytes zero d jP hxu hd s x id g off len n f (fY hg) hs m q BP hqo hb ⟨_,e9.set _ _ _ _ _ _ _ _ Jf,hK⟩)
    ·exact aMG
   ·exact aMG
  split at hp
  ·rename_i e sz bytes zero e' cJ aIg aI0 jP htx
   exact main e sz bytes zero _ jP (hT.slice _ _ _ _ _ htx).1 (.inl ⟨_,rfl⟩) hp
  ·rename_i e sz bytes zero jP htx
   exact main e sz bytes zero _ jP (hT.str _ htx) (.inr rfl) hp
  ·exact aMG
 ·exact aMG
theorem cj.afl {pv:PV} {v:Value} (hr:kz μ h S w pv v):cj μ h S w pv v:=by
 cases pv with
 | fM ps=>exact (show False from hr).elim
 | _=>exact hr
theorem PK (hc:Core μ h S w) (ht:∀t,cj μ h S w (env t) (a.tmps.getD t undef)) (fo:Operand) (args:Array Operand) (ts:Array TypeId) (hp:pop P T (.call ⟨.value fo,args,ts⟩) env h K):
  iG P ⟨dst,.call ⟨.value fo,args,ts⟩,ty,pos,after,guard⟩ a μ h S w K:=by
 have Ua:=dq ht fo
 simp only [pop] at hp
 split at hp
 ·rename_i f hef
  rw [hef] at Ua
  replace hp:=bX hp
  obtain ⟨hnt,R,⟨⟨fn,c,hfn,Mg,zk⟩,hA⟩,hK⟩:=hp
  simp only [aKd] at hnt
  have Mh:=hA w (args.map a.eval) μ S hc.heap hc.ok aNf (λj pv hj=>by
   rw [aKq] at hj
   cases hx:args.toList[j]? with
   | none=>rw [hx] at hj;cases hj
   | some x=>
    rw [hx] at hj
    injection hj with hj
    subst hj
    refine ⟨a.eval x,by rw [aLN];simp only [aKG] at hx;rw [hx];rfl,?_⟩
    have hv:=dq ht x
    have oY:=hnt x (aKl hx)
    cases he:ev env x with
    | fM ps=>rw [he] at oY;cases oY
    | _=>rw [he] at hv;exact hv)
  intro next Q hn
  have ox:(execOp a.eval ⟨dst,.call ⟨.value fo,args,ts⟩,ty,pos,after,guard⟩).run P w=.ok (.enter f (args.map a.eval)) w:=by
   simp only [execOp,resolve,Ua.aa2,Deferred.ofValue,invoke,callFunc,Sem.run_bind,Sem.run_pure,Result.andThen_ok,Array.append_empty,aLD]
   have D0:¬fn.name= "runtime.NumGoroutine" :=by simpa using zk
   simp [program,Sem.run,Result.andThen,hfn,D0,Mg]
  unfold Oper.wp
  rw [ox]
  show Calls P f (args.map a.eval) w _
  refine Mh.mono λe w' ⟨v,res,h',μ',S',he,hR,hv,hH,hM,hF⟩=>?_
  subst he
  exact hn res v h' μ' S' w' (hK res h' hR) hv ⟨hH,hM⟩ hF
 ·rename_i f df hef
  rw [hef] at Ua
  replace hp:=bX hp
  obtain ⟨hnt,R,⟨⟨fn,c,hfn,Mg,zk⟩,hA⟩,hK⟩:=hp
  simp only [aKd] at hnt
  obtain ⟨vs,hvf,hvl,hvc⟩:=(show qz μ h w f df (a.eval fo) from Ua)
  have Mh:=hA w (args.map a.eval++vs) μ S hc.heap hc.ok (by simp [hvl]) (λj pv hj=>by
   by_cases bc:j<args.size
   ·rw [aKB (by simpa using bc),aKq] at hj
    cases hx:args.toList[j]? with
    | none=>rw [hx] at hj;cases hj
    | some x=>
     rw [hx] at hj
     injection hj with hj
     subst hj
     refine ⟨a.eval x,by rw [aKU (by simpa using bc),aLN];simp only [aKG] at hx;rw [hx];rfl,?_⟩
     have hv:=dq ht x
     have oY:=hnt x (aKl hx)
     cases he:ev env x with
     | fM ps=>rw [he] at oY;cases oY
     | _=>rw [he] at hv;exact hv
   ·rw [aKt (by simpa using Nat.le_of_not_lt bc),aKq] at hj
    simp only [aLB,aLj] at hj
    cases hx:df[j - args.size]? with
    | none=>rw [hx] at hj;cases hj
    | some p=>
     rw [hx] at hj
     injection hj with hj
     subst hj
     obtain ⟨u,q1,q2⟩:=hvc _ p hx
     exact ⟨u,by rw [Array.getElem?_append_right (by simpa using Nat.le_of_not_lt bc)];simpa using q1,q2⟩)
  intro next Q hn
  have ox:(execOp a.eval ⟨dst,.call ⟨.value fo,args,ts⟩,ty,pos,after,guard⟩).run P w=.ok (.enter f (args.map a.eval++vs)) w:=by
   simp only [execOp,resolve,hvf,Deferred.ofValue,invoke,callFunc,Sem.run_bind,Sem.run_pure,Result.andThen_ok,aLD]
   have D0:¬fn.name= "runtime.NumGoroutine" :=by simpa using zk
   simp [program,Sem.run,Result.andThen,hfn,D0,Mg]
  unfold Oper.wp
  rw [ox]
  show Calls P f (args.map a.eval++vs) w _
  refine Mh.mono λe w' ⟨v,res,h',μ',S',he,hR,hv,hH,hM,hF⟩=>?_
  subst he
  exact hn res v h' μ' S' w' (hK res h' hR) hv ⟨hH,hM⟩ hF
 ·exact aMG
theorem TR {w1:World} (hc:Core μ h S w) (ha:c7 w w1) (b:Nat) (hb:w.heap.size<=b) (mJ:b<w1.heap.size):Fr μ h S w μ h (λx=>S x\/x=b) w1/\Core μ h (λx=>S x\/x=b) w1:=by
 have lu:Fr μ h S w μ h (λx=>S x\/x=b) w1:=by
  refine ⟨As _,λb' sd _=>ha.blocks b' sd,λ_ hs=>.inl hs,λb' sd=>?_,λ_ ho=>.inl ho,ha.size,ha.os,ha.tape,ha.output,λj gj mF nj ej fj hj=>?_,λ_ hd=>hd,λb' k ho ic=>?_,λj gj mF nj ej fj b' rn hj hm nI=>?_,λb' j x y hx nI=>let ⟨es2,c2,q⟩:=nI;⟨es2,c2,(ha.blocks b' (hc.ok.lt b' (.inr ⟨j,x,y,hx⟩))).trans q⟩⟩
  ·rcases sd with sd | rfl
   ·exact .inl sd
   ·exact .inr (.inr hb)
  ·rw [hj];exact ⟨As _,λ_=>⟨rfl,rfl,rfl,rfl⟩⟩
  ·exact kX.of_same (ha.blocks b' (hc.ok.lt b' ho)) ic
  ·obtain ⟨es,c,q⟩:=nI
   exact ⟨⟨es,c,(ha.blocks b' (hc.ok.lt b' (.inl ⟨_,_,_,_,_,_,_,hj,hm⟩))).trans q⟩,.inr ⟨⟨_,_,_,_,_,hj⟩,hm⟩⟩
 refine ⟨lu,⟨λj gj mF nj ej fj hj=>?_,⟨λb' ho hs=>?_,λb' ho=>aKm (hc.ok.lt b' ho) ha.size,λb' hs=>?_,hc.ok.inj,hc.ok.DD lu,hc.ok.hv,hc.ok.hh⟩⟩⟩
 ·obtain ⟨h1,h2⟩:=hc.heap j gj mF nj ej fj hj
  refine ⟨h1,?_⟩
  cases hm:μ j with
  | none=>rw [hm] at h2;exact h2
  | some p=>
   obtain ⟨b',rn⟩:=p
   rw [hm] at h2
   obtain ⟨o,q1,q2⟩:=h2
   exact ⟨o,(ha.blocks b' (hc.ok.lt b' (.inl ⟨_,_,_,_,_,_,_,hj,hm⟩))).trans q1,q2.mono (λi y pv v hi hy hr=>hr.fr lu hc.ok (λcJ n' e' f' F' he b2 AS=>ha.blocks b2 (hc.ok.lt b2 (.inr ⟨j,i,y,_,_,_,_,_,_,_,_,_,_,hj,hi,he▸hy,AS⟩))))⟩
 ·rcases hs with hs | rfl
  ·exact hc.ok.apart b' ho hs
  ·exact absurd (hc.ok.lt b' ho) aNc
 ·rcases hs with hs | rfl
  ·exact aKm (hc.ok.slt b' hs) ha.size
  ·exact mJ
theorem D1 (hT:fe P T) (hc:Core μ h S w) (ht:∀t,cj μ h S w (env t) (a.tmps.getD t undef)) (s d:Nat) (x:Operand) (hp:pop P T (.convert s d x) env h K):iG P ⟨dst,.convert s d x,ty,pos,after,guard⟩ a μ h S w K:=by
 simp only [pop] at hp
 split at hp
 ·rename_i e sz by' z b hs hd hx
  split at hp
  ·rename_i he
   obtain ⟨f',Jf,hK⟩:=hp
   have hv:=dq ht x
   rw [hx] at hv
   have ox:=Lib.run_convert_string_bytes (P:=P) w s d e ⟨⟨b⟩⟩ (hT.str _ hs) (hT.slice _ _ _ _ _ hd).1 (hT.int _ _ he)
   have hag:c7 w (Lib.bytesWorld w e ⟨⟨b⟩⟩):=by
    have:=Lib.bytesWorld_below w e ⟨⟨b⟩⟩
    exact ⟨this.block,this.size,this.os,this.tape,this.output⟩
   obtain ⟨lu,uD⟩:=TR hc hag w.heap.size (As _) (by rw [Lib.bytesWorld_size];omega)
   refine iG.jJ (val:=.slice (some ⟨w.heap.size,0,none⟩) b.length (grownCap w b.length 0 e)) (eK rfl ?_) hK ?_ uD lu
   ·rw [hv.oF]
    exact ox
   ·show ba _ _ (.ij 1 b.length f') _
    refine .ij 1 b.length f' w.heap.size 0 _ (λi _=>.int .u8 (b.getD i 0).toNat) (.inr rfl) (λi hi=>by rw [Jf i hi];rfl) ?_ (λi j pv hi hj=>?_) (λi j pv hi hj=>?_)
    ·have:=grownCap_ge w b.length 0 e;omega
    ·rw [Jf i hi] at hj
     have tZ:j=0:=by
      have:=(An.1 hj).1
      simpa using this
     subst tZ
     have:=Lib.bytesWorld_cell w e ⟨⟨b⟩⟩ i (by show i<b.length;exact hi)
     rw [show 0+i*1+0=i by omega]
     exact this
    ·rw [Jf i hi] at hj
     have tZ:j=0:=by
      have:=(An.1 hj).1
      simpa using this
     subst tZ
     simp at hj
     subst hj
     exact .int _ _
  ·exact aMG
 ·exact .sT hc (oy hT hc.heap ht hp)
theorem IM (hT:fe P T) (hc:Core μ h S w) (ht:∀t,cj μ h S w (env t) (a.tmps.getD t undef)) (bo:BinOp) (t t':TypeId) (x y:Operand) (hp:pop P T (.binOp bo t x y t') env h K):
  iG P ⟨dst,.binOp bo t x y t',ty,pos,after,guard⟩ a μ h S w K:=by
 simp only [pop] at hp
 split at hp
 ·rename_i e sz by' z cJ n f jP hx hy
  obtain ⟨h1,h2⟩:=hp
  have rx:=dq ht x
  have ry:=dq ht y
  rw [hx] at rx
  rw [hy] at ry
  have rx:ba S w (.ij cJ n f) (a.eval x):=rx
  have ry:ba S w .ck (a.eval y):=ry
  have ey:a.eval y=.slice none 0 0:=by
   generalize a.eval y=v at ry
   cases ry
   rfl
  obtain ⟨ad,c,ex,hn⟩:∃ad c,a.eval x=.slice ad n c/\(ad=none->n=0):=by
   generalize a.eval x=v at rx
   cases rx with
   | uS _ _ ad c=>exact ⟨ad,c,rfl,λ_=>rfl⟩
   | ij _ _ _ b off c vf _ _ _ _ _=>exact ⟨_,c,rfl,λh0=>by cases h0⟩
  obtain ⟨hu,_⟩:=hT.slice _ _ _ _ _ jP
  have hg:eqGuard .eql t x y (a.eval x) (a.eval y)=pure ():=by rw [ex];apply eqGuard_at_slice
  have hK:K (.bool ad.isNone) h:=by
   cases ad with
   | none=>exact h1 (hn rfl)
   | some _=>exact h2
  refine .sT hc (.mk (v:=.bool ad.isNone) hK (ba.bool _) λw' _=>A7 (Q4 hg ?_))
  rw [ex,ey]
  first | exact Lib.run_eql_slice_nil _ _ _ _ _ _ _ _ hu | exact run_eql_slice_nil _ _ _ _ _ _ hu
 ·exact .sT hc (oy hT hc.heap ht hp)
theorem GR (hT:fe P T) (hc:Core μ h S w) (ht:∀t,cj μ h S w (env t) (a.tmps.getD t undef)) {op:Op} (hp:pop P T op env h K):
  iG P ⟨dst,op,ty,pos,after,guard⟩ a μ h S w K:=by
 cases op with
 | store t ad x=>exact LH hT hc ht t ad x hp
 | makeSlice t l c=>exact Pc hT hc ht t l c hp
 | box t x=>exact Tx hc ht t x hp
 | alloc t=>exact LJ hT hc t hp
 | buildSlice t len parts=>exact Aj hT hc ht t len parts hp
 | convert s d x=>exact D1 hT hc ht s d x hp
 | binOp bo t x y t'=>exact IM hT hc ht bo t t' x y hp
 | call c=>
  obtain ⟨cal,args,ts⟩:=c
  cases cal with
  | value fo=>exact PK hc ht fo args ts hp
  | invoke r m=>exact .sT hc (oy hT hc.heap ht hp)
  | builtin b=>cases b with
   | append=>exact IL hT hc ht args ts hp
   | _=>exact .sT hc (oy hT hc.heap ht hp)
 | _=>exact .sT hc (oy hT hc.heap ht hp)
end
section
variable {P:Program} {T:qq} {μ:Mu} {h η:List al} {k:List Nat} {S:Nat->Prop} {w:World} {m:Nat}
theorem xZ.get:∀(l r:List PV),xZ h η k l r->r.length=l.length/\∀(j:Nat) (pv gy:PV),l[j]? =some pv->r[j]? =some gy->Fz h η k pv gy
 | [],[],_=>⟨rfl,λj pv gy hj=>by simp at hj⟩
 | [],_::_,hh=>hh.elim
 | _::_,[],hh=>hh.elim
 | a::l,b::r,hh=>by
  obtain ⟨h1,h2⟩:=hh
  obtain ⟨q1,q2⟩:=xZ.get l r h2
  refine ⟨by simp [q1],λj pv gy hj Du=>?_⟩
  cases j with
  | zero=>
   simp at hj Du
   subst hj Du
   exact h1
  | succ j=>exact q2 j pv gy aNu (by simpa using Du)
theorem oD:∀(l:List al) (r:List Nat) (i:Nat),lL h η k m i l r->l.length=r.length/\∀(j:Nat) (o:al),l[j]? =some o->∃id,r[j]? =some id/\x5 h η k m o (i+j) id
 | [],[],i,_=>⟨rfl,λj o hj=>by simp at hj⟩
 | [],_::_,_,hh=>hh.elim
 | _::_,[],_,hh=>hh.elim
 | o::l,id::r,i,hh=>by
  obtain ⟨h1,h2⟩:=hh
  obtain ⟨q1,q2⟩:=oD l r (i+1) h2
  refine ⟨by simp [q1],λj o' hj=>?_⟩
  cases j with
  | zero=>
   simp at hj
   subst hj
   exact ⟨id,rfl,h1⟩
  | succ j=>
   simp at hj
   obtain ⟨id',r1,r2⟩:=q2 j o' hj
   exact ⟨id',by simpa using r1,by rw [show i+(j+1)=i+1+j from by omega];exact r2⟩
def mA (μ:Mu) (h:List al) (k:List Nat):Mu:=λid'=>match k[id']? with | some id=>(match h[id]? with | some _=>μ id | none=>none) | none=>none
theorem ua {μ:Mu} {h:List al} {k:List Nat} {id id':Nat} {o:al} (hk:k[id']? =some id) (ho:h[id]? =some o):mA μ h k id'=μ id:=by unfold mA;rw [hk];simp only [ho]
theorem GS {μ:Mu} {h:List al} {k:List Nat} {id id':Nat} (hk:k[id']? =some id) (ho:h[id]? =none):mA μ h k id'=none:=by unfold mA;rw [hk];simp only [ho]
def GU (μ:Mu) (h:List al) (k:List Nat) (S:Nat->Prop):Nat->Prop:=
 λb=>S b\/∃(id g sz n:Nat) (e:TypeId) (f:Nat->List PV) (base:Nat),id∉k/\h[id]? =some (al.row g sz n e f)/\(μ id=some (b,base)\/∃i j,eA h id i j b)
theorem abR {S S':Nat->Prop} {w:World} (hS:∀b,S b->S' b) {pv:PV} {v:Value} (h:my S w pv v):∀gy,DL pv gy->(∀sz n e f F,pv=.dI sz n e f F->∀b,F b->S' b)->ba S' w gy v:=by
 induction h with
 | nil sz e f F hF=>
  intro gy ho _
  cases ho
  exact .uS _ _ _ _
 | Mi sz n e f F b off c a cur vf hF hb hlen hc ha ic bB pt vJ FN Mj ih=>
  intro gy ho hk
  have hk:=hk _ _ _ _ _ rfl
  cases ho with
  | mk _ _ _ _ f' _ hl hf hoo hp=>
   rcases aLf n with h0 | h0
   ·subst h0;exact .uS _ _ _ _
   ·obtain rfl:=ha aNc
    have get:∀(i j:Nat) (gy:PV),i<n->(f' i)[j]? =some gy->∃pv,(f i)[j]? =some pv:=λi j gy hi hj=>by
     have MN:j<(f i).length:=by rw [<-hl i hi];exact (An.1 hj).1
     exact ⟨_,Of MN⟩
    refine .ij sz n f' b off c vf (hk b hF) (λi hi=>by rw [hl i hi];exact hlen i hi) hc (λi j gy hi hj=>?_) (λi j gy hi hj=>?_)
    ·obtain ⟨pv,tZ⟩:=get i j gy hi hj
     rw [cell_of_row w b _ cur e (0,0) hb,<-bB i j pv hi tZ]
    ·obtain ⟨pv,tZ⟩:=get i j gy hi hj
     cases hx:eh pv with
     | false=>
      rw [hf i j pv gy hi tZ hj hx]
      rcases pt i j pv hi tZ with q | ⟨_,_,_,_,_,q⟩
      ·exact q.mono (λ_ _=>rfl) hS
      ·rw [q] at hx;cases hx
     | true=>
      have hoo:=hoo i j pv gy hi tZ hj hx
      cases pv with
      | dI lN n2 e2 f2 F2=>exact ih i j lN n2 e2 f2 F2 hi tZ gy hoo (λ_ _ _ _ _ he b' sd=>by
        injection he with _ _ _ _ he
        subst he
        exact hk b' (FN i j _ _ _ _ _ hi tZ b' sd).1)
      | _=>cases hx
theorem Az {μ':Mu} {h':List al} {S':Nat->Prop} {pv:PV} {v:Value} (hp:cA pv=true) (hc:cQ μ' h' S' w pv v):ba S' w pv v:=by
 cases pv<;>first | exact hc | cases hp
theorem wg (hc:Core μ h S w) (hh:lL h η k m 0 η k) {pv gy:PV} (hz:Fz h η k pv gy):
  (∀v,cQ μ h S w pv v->cQ (mA μ h k) η (GU μ h k S) w gy v)/\(∀v,kz μ h S w pv v->kz (mA μ h k) η (GU μ h k S) w gy v)/\(∀v,cj μ h S w pv v->cj (mA μ h k) η (GU μ h k S) w gy v):=by
 have up:∀pv v,ba S w pv v->ba (GU μ h k S) w pv v:=λpv v hp=>ba.mono (λ_ _=>rfl) (λb hb=>.inl hb) hp
 have same:∀pv:PV,(∀v,cQ μ h S w pv v->ba S w pv v)->(∀v,kz μ h S w pv v->cQ μ h S w pv v)->(∀v,cj μ h S w pv v->kz μ h S w pv v)->∀gy:PV,(∀v,ba S w pv v->ba (GU μ h k S) w gy v)->
   (∀v,cQ μ h S w pv v->cQ (mA μ h k) η (GU μ h k S) w gy v)/\(∀v,kz μ h S w pv v->cQ (mA μ h k) η (GU μ h k S) w gy v)/\(∀v,cj μ h S w pv v->cQ (mA μ h k) η (GU μ h k S) w gy v):=
  λpv h1 h2 h3 gy hp=>⟨λv hv=>cQ.lB (hp v (h1 v hv)),λv hv=>cQ.lB (hp v (h1 v (h2 v hv))),λv hv=>cQ.lB (hp v (h1 v (h2 v (h3 v hv))))⟩
 induction hz with
 | int k' n=>exact same (.int k' n) (λ_ h=>h) (λ_ h=>h) (λ_ h=>h) _ (up _)
 | bool b=>exact same (.bool b) (λ_ h=>h) (λ_ h=>h) (λ_ h=>h) _ (up _)
 | str s=>exact same (.str s) (λ_ h=>h) (λ_ h=>h) (λ_ h=>h) _ (up _)
 | ck=>exact same .ck (λ_ h=>h) (λ_ h=>h) (λ_ h=>h) _ (up _)
 | iF=>exact same .iF (λ_ h=>h) (λ_ h=>h) (λ_ h=>h) _ (up _)
 | ahn sz f=>exact same .ck (λ_ h=>h) (λ_ h=>h) (λ_ h=>h) (.ij sz 0 f) (λv hv=>by cases hv;exact .uS _ _ _ _)
 | aCd id id' g' cJ e' f' hk ho hη=>
  have key:∀v,v=Value.slice none 0 0->bG (mA μ h k) η w id' g' 0 0 v:=λv hv=>by
   unfold bG
   rw [hη]
   refine ⟨⟨_,_,_,hv⟩,As _,λ_=>⟨As _,?_⟩⟩
   rw [GS hk ho]
   exact hv
  have inv:∀v,ba S w .ck v->v=Value.slice none 0 0:=λv hv=>by cases hv;rfl
  exact ⟨λv hv=>key v (inv v hv),λv hv=>key v (inv v hv),λv hv=>key v (inv v hv)⟩
 | fn f=>exact same (.fn f) (λ_ h=>h) (λ_ h=>h) (λ_ h=>h) _ (up _)
 | gD cs=>exact same (.gD cs) (λ_ h=>h) (λ_ h=>h) (λ_ h=>h) _ (up _)
 | ij sz n f f' hf=>
  exact same (.ij sz n f) (λ_ h=>h) (λ_ h=>h) (λ_ h=>h) (.ij sz n f') (λv hv=>by
   have hv:=up _ _ hv
   cases hv with
   | uS _ _ a c=>exact .uS _ _ _ _
   | ij _ _ _ b off c vf h1 h2 h3 h4 h5=>
    exact .ij sz n f' b off c vf h1 (λi hi=>by rw [hf i hi];exact h2 i hi) h3 (λi j pv hi hj=>h4 i j pv hi aND) (λi j pv hi hj=>h5 i j pv hi aND))
 | jQ pv=>exact ⟨λv hv=>hv.one,λ_ _=>trivial,λ_ _=>trivial⟩
 | dI sz n e f F=>exact ⟨λv hv=>hv,λv hv=>hv,λv hv=>hv⟩
 | Bu sz e f=>exact ⟨λv hv=>cQ.one hv,λv hv=>cQ.one (pv:=.ck) (μ:=μ) (h:=h) hv,λv hv=>cQ.one (pv:=.ck) (μ:=μ) (h:=h) hv⟩
 | own id id' g g' sz cJ n n' off len e e' f f' hk ho hη hn=>
  have key:∀v,bG μ h w id g off len v->bG (mA μ h k) η w id' g' off len v:=λv hv=>by
   unfold bG at hv ⊢
   rw [ho] at hv
   rw [hη]
   obtain ⟨h1,_,tu⟩:=hv
   have tD:=tu rfl
   clear tu
   obtain ⟨h2,h3⟩:=tD
   obtain ⟨_,er⟩:=oD η k 0 hh
   obtain ⟨ll,r1,r2⟩:=er id' _ hη
   rw [hk] at r1
   injection r1 with r1
   subst r1
   unfold x5 at r2
   rw [ho] at r2
   obtain ⟨_,rfl,_,_⟩:=r2
   refine ⟨h1,As _,λ_=>⟨hn,?_⟩⟩
   have hm:mA μ h k id'=μ id:=ua hk ho
   rw [hm]
   exact h3
  exact ⟨key,key,key⟩
 | aA id id' g g' sz cJ n n' i off e e' f f' hk ho hη hn=>
  have key:∀v,cN μ h w id g i off v->cN (mA μ h k) η w id' g' i off v:=λv hv=>by
   unfold cN at hv ⊢
   rw [ho] at hv
   rw [hη]
   obtain ⟨h1,_,tu⟩:=hv
   have tD:=tu rfl
   clear tu
   obtain ⟨h2,h3⟩:=tD
   obtain ⟨_,er⟩:=oD η k 0 hh
   obtain ⟨ll,r1,r2⟩:=er id' _ hη
   rw [hk] at r1
   injection r1 with r1
   subst r1
   unfold x5 at r2
   rw [ho] at r2
   obtain ⟨_,rfl,_,rfl,_⟩:=r2
   refine ⟨h1,As _,λ_=>⟨hn,?_⟩⟩
   have hm:mA μ h k id'=μ id:=ua hk ho
   rw [hm]
   exact h3
  exact ⟨key,key,key⟩
 | se f df Mk hl hcc=>
  have key:∀v,qz μ h w f df v->qz (mA μ h k) η w f Mk v:=λv hv=>by
   obtain ⟨vs,h1,h2,h3⟩:=hv
   refine ⟨vs,h1,h2.trans hl.symm,λj p' hj=>?_⟩
   have bc:j<df.length:=by rw [<-hl];exact (An.1 hj).1
   obtain ⟨hk,⟨sz,n,e,g,ho⟩,cJ,n',e',g',hη,hn⟩:=hcc j _ p' (Of bc) hj
   obtain ⟨u,q1,q2⟩:=h3 j _ (Of bc)
   refine ⟨u,q1,?_⟩
   unfold cN at q2 ⊢
   rw [ho] at q2
   rw [hη]
   obtain ⟨a1,_,a2⟩:=q2
   have a3:=a2 rfl
   clear a2
   obtain ⟨a4,a5⟩:=a3
   obtain ⟨_,er⟩:=oD η k 0 hh
   obtain ⟨ll,r1,r2⟩:=er p'.1 _ hη
   rw [hk] at r1
   injection r1 with r1
   subst r1
   unfold x5 at r2
   rw [ho] at r2
   obtain ⟨_,rfl,_,rfl,_⟩:=r2
   refine ⟨a1,As _,λ_=>⟨hn,?_⟩⟩
   rw [ua hk ho]
   exact a5
  exact ⟨key,key,key⟩
 | qv id id' g g' sz cJ n n' e e' f f' hk ho hη=>
  have key:∀v,iv μ h w id v->iv (mA μ h k) η w id' v:=λv hv=>by
   unfold iv at hv ⊢
   rw [ho] at hv
   rw [hη]
   obtain ⟨h1,b,base,q1,q2,q3⟩:=hv
   exact ⟨h1,b,base,(ua hk ho).trans q1,q2,q3⟩
  exact ⟨key,key,key⟩
 | frz id g sz n off len e f f' hk ho hl hp hf ih=>
  have key:∀v,bG μ h w id g off len v->cQ (mA μ h k) η (GU μ h k S) w (.ij sz len f') v:=λv hv=>by
   refine cQ.lB ?_
   unfold bG at hv
   rw [ho] at hv
   obtain ⟨_,_,hv⟩:=hv
   obtain ⟨hle,hv⟩:=hv rfl
   obtain ⟨hlr,bB⟩:=hc.heap id g sz n e f ho
   cases ju:μ id with
   | none=>
    rw [ju] at hv bB
    have hn:n=0:=bB
    have h0:len=0:=by omega
    subst h0
    have hv:v=.slice none 0 0:=hv
    subst hv
    exact .uS _ _ _ _
   | some p=>
    obtain ⟨b,base⟩:=p
    rw [ju] at hv bB
    obtain ⟨ad,cap,rfl,hlc,yt,O7⟩:=hv
    obtain ⟨cur,ny,wY,lK⟩:=de.cells O7 bB
    rcases aLf len with h0 | h0
    ·subst h0
     exact .uS _ _ _ _
    ·have yt:=yt aNc
     subst yt
     have hcl:∀(i j:Nat) (gy:PV),i<len->(f' i)[j]? =some gy->∃u,w.cell? ⟨b,base+off*sz+i*sz+j,none⟩=some u/\ba (GU μ h k S) w gy u:=λi j gy hi hj=>by
      have MN:j<(f (off+i)).length:=by rw [<-hl i hi];exact (An.1 hj).1
      have tZ:=Of MN
      obtain ⟨u,h1,h2⟩:=lK (off+i) j _ aNc tZ
      have h3:ba (GU μ h k S) w gy u:=by
       by_cases hof:DL (f (off+i))[j] gy
       ·generalize hpv:(f (off+i))[j]=pv at hof h2 tZ
        cases hof with
        | mk lN n2 e2 f2 f2' F2 a1 a2 a3 a4=>
         exact abR (λb hb=>.inl hb) (show my S w (.dI lN n2 e2 f2 F2) u from h2) _ (.mk lN n2 e2 f2 f2' F2 a1 a2 a3 a4) (λ_ _ _ _ _ he b' sd=>by
          injection he with _ _ _ _ he
          subst he
          exact .inr ⟨id,g,sz,n,e,f,base,hk,ho,.inr ⟨off+i,j,_,_,_,_,_,_,_,_,_,_,ho,by omega,tZ,sd⟩⟩)
       ·exact Az (hp i j gy hi hj) ((ih i j _ gy hi tZ hj hof).1 u h2.c)
      refine ⟨u,?_,h3⟩
      rw [cell_of_row w b _ cur e (0,0) ny,<-h1]
      congr 1
      rw [aKi]
      omega
     refine .ij sz len f' b (base+off*sz) cap (λi j=>(w.cell? ⟨b,base+off*sz+i*sz+j,none⟩).getD undef) (.inr ⟨id,g,sz,n,e,f,base,hk,ho,.inl ju⟩) (λi hi=>by rw [hl i hi];exact hlr _ aNc) hlc (λi j pv hi hj=>?_) (λi j pv hi hj=>?_)
     ·obtain ⟨u,h1,_⟩:=hcl i j pv hi hj
      rw [h1];rfl
     ·obtain ⟨u,h1,h2⟩:=hcl i j pv hi hj
      simp only [h1,aLR]
      exact h2
  exact ⟨key,key,key⟩
 | agg cs B3 hl hcc ih=>
  have key:∀v,kz μ h S w (.agg cs) v->kz (mA μ h k) η (GU μ h k S) w (.agg B3) v:=λv hv=>by
   obtain ⟨vs,h1,h2,h3⟩:=hv
   refine ⟨vs,h1,h2.trans hl.symm,λj gy hj=>?_⟩
   have MN:j<cs.length:=by rw [<-hl];exact (An.1 hj).1
   have tZ:=Of MN
   obtain ⟨u,q1,q2⟩:=h3 j _ tZ
   exact ⟨u,q1,(ih j _ gy tZ hj).1 u q2⟩
  exact ⟨λ_ hv=>(show False from hv).elim,key,key⟩
 | fM cs B3 hl hcc ih=>
  refine ⟨λ_ hv=>(show False from hv).elim,λ_ hv=>(show False from hv).elim,λv hv=>?_⟩
  obtain ⟨vs,h1,h2,h3⟩:=hv
  refine ⟨vs,h1,h2.trans hl.symm,λj gy hj=>?_⟩
  have MN:j<cs.length:=by rw [<-hl];exact (An.1 hj).1
  have tZ:=Of MN
  obtain ⟨u,q1,q2⟩:=h3 j _ tZ
  exact ⟨u,q1,(ih j _ gy tZ hj).2.1 u q2⟩
end
section
variable {P:Program} {T:qq} {μ:Mu} {h η:List al} {k:List Nat} {S:Nat->Prop} {w:World} {m:Nat}
theorem abS {a a':PV} (hz:Fz h η k a a') (ha:GI a=true):GI a'=true/\∀v,DA a v->DA a' v:=by
 cases hz with
 | int k' n=>exact ⟨rfl,λ_ h=>h⟩
 | bool b=>exact ⟨rfl,λ_ h=>h⟩
 | str s=>exact ⟨rfl,λ_ h=>h⟩
 | jQ _=>exact ⟨rfl,λv h=>by
   cases a<;>first | (cases ha;done) | (have h:v=_:=h;subst h;rfl) | exact h⟩
 | _=>cases ha
theorem Rz {a a':PV} (hz:Fz h η k a a') (ha:qs a=true):qs a'=true/\∀v,FA a v->FA a' v:=by
 cases hz with
 | int k' n=>exact ⟨rfl,λ_ h=>h⟩
 | bool b=>exact ⟨rfl,λ_ h=>h⟩
 | str s=>exact ⟨rfl,λ_ h=>h⟩
 | jQ _=>exact ⟨rfl,λ_ _=>trivial⟩
 | agg cs B3 hl hc=>
  have el:∀j gy,B3[j]? =some gy->∃pv,cs[j]? =some pv/\GI gy=true/\∀v,DA pv v->DA gy v:=λj gy hj=>by
   have bc:j<cs.length:=by rw [<-hl];exact (An.1 hj).1
   have h1:=Of bc
   have h2:=abS (hc j _ _ h1 hj) (aKd.1 ha _ (aKr bc))
   exact ⟨_,h1,h2⟩
  refine ⟨aKd.2 (λx hx=>?_),λv hv=>?_⟩
  ·obtain ⟨j,hj,rfl⟩:=aLx.1 hx
   obtain ⟨_,_,h2,_⟩:=el j _ (Of hj)
   exact h2
  ·obtain ⟨vs,q1,q2,q3⟩:=hv
   refine ⟨vs,q1,q2.trans hl.symm,λj gy hj=>?_⟩
   obtain ⟨pv,e1,_,e2⟩:=el j gy hj
   obtain ⟨u,hu,hr⟩:=q3 j pv e1
   exact ⟨u,hu,e2 u hr⟩
 | _=>cases ha
theorem D2:∀{l:List Nat} {x i:Nat},l[i]? =some x->TS l x=true
 | [],x,i,h=>by simp at h
 | a::r,x,0,h=>by
  simp at h;subst h
  unfold TS
  rw [show Nat.beq a a=true from aLp a]
 | a::r,x,i+1,h=>by
  unfold TS
  cases Nat.beq a x
  ·exact D2 aNH
  ·rfl
theorem wE:∀{η:List al} {k:List Nat} {i id g sz n:Nat} {e:TypeId} {f:Nat->List PV},η[i]? =some (al.row g sz n e f)->k[i]? =some id->∃j:Nat,(pc η k)[j]? =some id
 | [],_,i,_,_,_,_,_,_,h,_=>by simp at h
 | _::_,[],i,_,_,_,_,_,_,_,h=>by simp at h
 | .row _ _ _ _ _::r,a::is,0,id,_,_,_,_,_,_,h=>by simp at h;subst h;exact ⟨0,rfl⟩
 | .dead::r,a::is,0,id,_,_,_,_,_,h,_=>by simp at h
 | .row _ _ _ _ _::r,a::is,i+1,id,_,_,_,_,_,h1,h2=>by
  obtain ⟨j,hj⟩:=wE (i:=i) aNF aNE
  exact ⟨j+1,by simpa [pc] using hj⟩
 | .dead::r,a::is,i+1,id,_,_,_,_,_,h1,h2=>by
  obtain ⟨j,hj⟩:=wE (i:=i) aNF aNE
  exact ⟨j,by simpa [pc] using hj⟩
theorem wF:∀{η:List al} {k:List Nat} {i j id g sz n g' cJ n':Nat} {e e':TypeId} {f f':Nat->List PV},pC (pc η k)=true->η[i]? =some (al.row g sz n e f)->k[i]? =some id->η[j]? =some (al.row g' cJ n' e' f')->k[j]? =some id->i=j
 | [],_,i,_,_,_,_,_,_,_,_,_,_,_,_,_,h,_,_,_=>by simp at h
 | _::_,[],i,_,_,_,_,_,_,_,_,_,_,_,_,_,_,h,_,_=>by simp at h
 | .row _ _ _ _ _::r,a::is,0,0,_,_,_,_,_,_,_,_,_,_,_,_,_,_,_,_=>rfl
 | .row _ _ _ _ _::r,a::is,0,j+1,id,_,_,_,_,_,_,_,_,_,_,hn,_,h2,h3,h4=>by
  simp at h2;subst h2
  obtain ⟨q,hq⟩:=wE (η:=r) (k:=is) (i:=j) (by simpa using h3) (by simpa using h4)
  unfold pc pC at hn
  rw [D2 hq] at hn;cases hn
 | .row _ _ _ _ _::r,a::is,i+1,0,id,_,_,_,_,_,_,_,_,_,_,hn,h1,h2,_,h4=>by
  simp at h4;subst h4
  obtain ⟨q,hq⟩:=wE (η:=r) (k:=is) (i:=i) aNF aNE
  unfold pc pC at hn
  rw [D2 hq] at hn;cases hn
 | .row _ _ _ _ _::r,a::is,i+1,j+1,id,_,_,_,_,_,_,_,_,_,_,hn,h1,h2,h3,h4=>by
  unfold pc pC at hn
  cases hm:TS (pc r is) a with
  | true=>rw [hm] at hn;cases hn
  | false=>
   rw [hm] at hn
   rw [wF (η:=r) (k:=is) (i:=i) (j:=j) hn aNF aNE (by simpa using h3) (by simpa using h4)]
 | .dead::r,a::is,0,_,_,_,_,_,_,_,_,_,_,_,_,_,h,_,_,_=>by simp at h
 | .dead::r,a::is,_+1,0,_,_,_,_,_,_,_,_,_,_,_,_,_,_,h,_=>by simp at h
 | .dead::r,a::is,i+1,j+1,id,_,_,_,_,_,_,_,_,_,_,hn,h1,h2,h3,h4=>by
  rw [wF (η:=r) (k:=is) (i:=i) (j:=j) hn aNF aNE (by simpa using h3) (by simpa using h4)]
theorem zo (hc:Core μ h S w) (hh:lL h η k m 0 η k) (hk:pC (pc η k)=true):Core (mA μ h k) η (GU μ h k S) w/\(∀b,dx (mA μ h k) η b->dx μ h b)/\∀b,GU μ h k S b->S b\/dx μ h b:=by
 obtain ⟨hlen,er⟩:=oD η k 0 hh
 have back:∀(id' g' cJ n':Nat) (e':TypeId) (f':Nat->List PV),η[id']? =some (al.row g' cJ n' e' f')->(n'=0/\mA μ h k id'=none)\/∃(id g:Nat) (f:Nat->List PV),k[id']? =some id/\(∃n,h[id]? =some (al.row g cJ n e' f)/\n'<=n/\(n'=n\/cJ≠2))/\mA μ h k id'=μ id/\
   ∀i,i<n'->(f' i).length=(f i).length/\∀(j:Nat) (pv gy:PV),(f i)[j]? =some pv->(f' i)[j]? =some gy->Fz h η k pv gy:=λid' g' cJ n' e' f' hη=>by
  obtain ⟨id,r1,r2⟩:=er id' _ hη
  unfold x5 at r2
  cases ho:h[id]? with
  | none=>rw [ho] at r2;exact .inl ⟨r2.2,GS r1 ho⟩
  | some o=>
   cases o with
   | dead=>rw [ho] at r2;exact r2.elim
   | row g sz n e f=>
    rw [ho] at r2
    obtain ⟨_,rfl,r4,rfl,r3⟩:=r2
    refine .inr ⟨id,g,f,r1,⟨n,ho,?_⟩,ua r1 ho,λi hi=>xZ.get _ _ (r3 i hi)⟩
    rcases r4 with rfl | ⟨_,r5,r6⟩
    ·exact ⟨As _,.inl rfl⟩
    ·exact ⟨r6,.inr r5⟩
 have BO:∀b,GJ (mA μ h k) η b->∃id,id∈k/\∃g sz n e f base,h[id]? =some (al.row g sz n e f)/\μ id=some (b,base):=λb hb=>by
  obtain ⟨id',g',cJ,n',e',f',base,hη,hm⟩:=hb
  rcases back id' g' cJ n' e' f' hη with ⟨_,q3⟩ | ⟨id,g,f,q1,⟨n,q2,_⟩,q3,_⟩
  ·rw [q3] at hm;cases hm
  ·rw [q3] at hm
   exact ⟨id,aKl q1,g,cJ,n,e',f,base,q2,hm⟩
 have aCA:∀{pv:PV} {sz n:Nat} {e:TypeId} {f:Nat->List PV} {F:Nat->Prop},Fz h η k pv (.dI sz n e f F)->pv=.dI sz n e f F\/(pv=.ck/\n=0/\∀b,¬F b):=λhz=>by
  cases hz with
  | dI=>exact .inl rfl
  | Bu=>exact .inr ⟨rfl,rfl,λ_ h=>h⟩
 have qY:∀id' i j b,eA η id' i j b->∃id,k[id']? =some id/\eA h id i j b/\∃g sz n e f,η[id']? =some (al.row g sz n e f):=λid' i j b ⟨g',cJ,n',e',f',lN,n2,e2,f2,F2,q1,q2,q3,q4⟩=>by
  rcases back id' g' cJ n' e' f' q1 with ⟨r1,_⟩ | ⟨id,g,f,r1,⟨n,r2,hle,_⟩,r3,r4⟩
  ·omega
  ·obtain ⟨s1,s2⟩:=r4 i q2
   have MN:j<(f i).length:=by rw [<-s1];exact (An.1 q3).1
   have tZ:=Of MN
   rcases aCA (s2 j _ _ tZ q3) with this | ⟨_,_,this⟩
   ·exact ⟨id,r1,⟨g,cJ,n,e',f,_,_,_,_,_,r2,by omega,by rw [tZ,this],q4⟩,_,_,_,_,_,q1⟩
   ·exact absurd q4 (this b)
 have nD:∀b,dx (mA μ h k) η b->dx μ h b:=λb hb=>by
  rcases hb with hb | ⟨x,y,z,hb⟩
  ·obtain ⟨id,_,g,sz,n,e,f,base,q2,hm⟩:=BO b hb
   exact .inl ⟨id,g,sz,n,e,f,base,q2,hm⟩
  ·obtain ⟨id,_,q,_⟩:=qY x y z b hb
   exact aNb
 have hs:∀b,GU μ h k S b->S b\/dx μ h b:=λb hb=>by
  rcases hb with hb | ⟨id,g,sz,n,e,f,base,_,h1,h2 | ⟨i,j,h2⟩⟩
  ·exact .inl hb
  ·exact .inr (.inl ⟨id,g,sz,n,e,f,base,h1,h2⟩)
  ·exact .inr (.inr ⟨_,_,_,h2⟩)
 refine ⟨⟨λid' g' cJ n' e' f' hη=>?_,?_⟩,nD,hs⟩
 ·rcases back id' g' cJ n' e' f' hη with ⟨rfl,q3⟩ | ⟨id,g,f,q1,⟨n,q2,hle,hor⟩,q3,q4⟩
  ·exact ⟨λi hi=>absurd hi (aKR _),by rw [q3]⟩
  obtain ⟨r1,r2⟩:=hc.heap id g cJ n e' f q2
  refine ⟨λi hi=>(q4 i hi).1.trans (r1 i (aKm hi hle)),?_⟩
  rw [q3]
  cases hm:μ id with
  | none=>rw [hm] at r2;have r2:n=0:=r2;show n'=0;omega
  | some p=>
   obtain ⟨b,base⟩:=p
   rw [hm] at r2
   obtain ⟨o,s1,s2⟩:=r2
   refine ⟨o,s1,?_⟩
   cases o with
   | cells cur e2 z=>
    obtain ⟨x1,x2,x3,s3⟩:=s2
    refine ⟨x1,x2,aKW (Nat.add_le_add_left (aKn _ hle) _) x3,λi j gy hi hj=>?_⟩
    have MN:j<(f i).length:=by rw [<-(q4 i hi).1];exact (An.1 hj).1
    have tZ:=Of MN
    obtain ⟨u,t1,t2⟩:=s3 i j _ (aKm hi hle) tZ
    have hz:=(q4 i hi).2 j _ gy tZ hj
    refine ⟨u,t1,?_⟩
    cases hx:eh gy with
    | false=>exact cQ.k ((wg hc hh hz).1 u t2.c) hx
    | true=>
     cases gy with
     | dI lN n2 e2 f2 F2=>
      rcases aCA hz with hq | ⟨hq,rfl,hF⟩
      ·rw [hq] at t2
       exact my.mono (λ_ _=>rfl) (λb hb=>.inl hb) (show my S w (.dI lN n2 e2 f2 F2) u from t2) (λ_ _ _ _ _ _ _ _=>rfl)
      ·rw [hq] at t2
       have t2:ba S w .ck u:=t2
       cases t2
       exact my.nil _ _ _ _ hF
     | _=>cases hx
   | map es c=>
    obtain ⟨x1,s3⟩:=s2
    have hn:n'=n:=by
     rcases hor with h0 | h0
     ·exact h0
     ·rcases aLf n with h1 | h1
      ·omega
      ·obtain ⟨kp,vp,en,y1,_⟩:=s3 0 h1
       have:=r1 0 h1
       rw [y1] at this
       exact absurd this.symm h0
    subst hn
    refine ⟨x1,λi hi=>?_⟩
    obtain ⟨kp,vp,en,y1,y2,y3,y4,y5,y6⟩:=s3 i hi
    obtain ⟨z1,z2⟩:=q4 i hi
    rw [y1] at z1 z2
    generalize Jf:f' i=l' at z1 z2 ⊢
    rcases l' with _ | ⟨kp',_ | ⟨vp',_ | ⟨c3,l3⟩⟩⟩<;>simp at z1
    have w1:=Rz (z2 0 kp kp' rfl rfl) y2
    have w2:=Rz (z2 1 vp vp' rfl rfl) y3
    exact ⟨kp',vp',en,rfl,w1.1,w2.1,y4,w1.2 _ y5,w2.2 _ y6⟩
   | _=>exact s2.elim
 ·refine ⟨λb hb hsb=>?_,λb hb=>hc.ok.lt b (nD b hb),λb hb=>?_,?_,hc.ok.known.dO (λ_ _=>rfl) (λ_ hb=>.inl hb),λb hb x y z hx=>?_,λb i x y j x' y' hx uT=>?_⟩
  rotate_right 2
  ·obtain ⟨id,_,g,sz,n,e,f,base,q2,hm⟩:=BO b hb
   obtain ⟨ll,_,q,_⟩:=qY x y z b hx
   exact hc.ok.hv b ⟨id,g,sz,n,e,f,base,q2,hm⟩ _ _ _ q
  ·obtain ⟨id1,k1,q1,_,_,_,_,_,r1⟩:=qY i x y b hx
   obtain ⟨ll,k2,q2,_,_,_,_,_,r2⟩:=qY j x' y' b uT
   obtain ⟨e1,e2,e3⟩:=hc.ok.hh b _ _ _ _ _ _ q1 q2
   subst e1
   exact ⟨wF hk r1 k1 r2 k2,e2,e3⟩
  ·rcases hsb with hsb | ⟨ll,g2,lN,n2,e2,f2,aCB,hnk,h1,h2⟩
   ·exact hc.ok.apart b (nD b hb) hsb
   ·rcases hb with hb | ⟨x,y,z,hb⟩
    ·obtain ⟨id,hik,g,sz,n,e,f,base,q2,hm⟩:=BO b hb
     rcases h2 with h2 | ⟨i,j,h2⟩
     ·have:=hc.ok.inj id ll _ _ _ _ _ _ _ _ _ _ _ _ _ q2 h1 hm h2
      subst this
      exact hnk hik
     ·exact hc.ok.hv b ⟨id,g,sz,n,e,f,base,q2,hm⟩ _ _ _ h2
    ·obtain ⟨id,hik,q,_⟩:=qY x y z b hb
     rcases h2 with h2 | ⟨i,j,h2⟩
     ·exact hc.ok.hv b ⟨ll,g2,lN,n2,e2,f2,aCB,h1,h2⟩ _ _ _ q
     ·obtain ⟨e1,_,_⟩:=hc.ok.hh b _ _ _ _ _ _ q h2
      subst e1
      exact hnk (aKl hik)
  ·rcases hs b hb with h1 | h1
   ·exact hc.ok.slt b h1
   ·exact hc.ok.lt b h1
  ·intro i j gi Uc ni ei fi gj mF nj ej fj b o o' hi hj nV nz
   rcases back i gi Uc ni ei fi hi with ⟨_,q3⟩ | ⟨id1,g1,f1,q1,⟨nn1,q2,_⟩,q3,_⟩
   ·rw [q3] at nV;cases nV
   rcases back j gj mF nj ej fj hj with ⟨_,r3⟩ | ⟨ll,g2,f2,r1,⟨nn2,r2,_⟩,r3,_⟩
   ·rw [r3] at nz;cases nz
   rw [q3] at nV
   rw [r3] at nz
   have:=hc.ok.inj id1 ll _ _ _ _ _ _ _ _ _ _ _ _ _ q2 r2 nV nz
   subst this
   exact wF hk hi q1 hj r1
structure Start where
 μ:Mu
 h:List al
 S:Nat->Prop
 w:World
 nt:Nat
theorem aht {C:Start} (hc:Core μ h S w) (hf:Fr C.μ C.h C.S C.w μ h S w) (hh:lL h η k C.h.length 0 η k) (hk:pC (pc η k)=true) (hm:C.h.length<=k.length):
  Fr C.μ C.h C.S C.w (mA μ h k) η (GU μ h k S) w:=by
 obtain ⟨hlen,er⟩:=oD η k 0 hh
 obtain ⟨_,nD,hs⟩:=zo hc hh hk
 have idx:∀id,id<C.h.length->∃o id',η[id]? =some o/\k[id]? =some id'/\x5 h η k C.h.length o id id':=λid hid=>by
  have bc:id<η.length:=by omega
  obtain ⟨id',r1,r2⟩:=er id _ (Of bc)
  rw [aKc] at r2
  exact ⟨_,id',Of bc,r1,r2⟩
 refine ⟨by omega,hf.blocks,λb hb=>.inl (hf.sub b hb),λb hb=>?_,λb hb=>hf.own b (nD b hb),hf.size,hf.os,hf.tape,hf.output,λid g0 sz0 n0 e0 f0 h0=>?_,λid h0=>?_,hf.df,λid g0 sz0 n0 e0 f0 b base h0 hm0 nI=>?_,hf.xj⟩
 rotate_right
 ·have hid:id<C.h.length:=(An.1 h0).1
  obtain ⟨o,id',q1,q2,q3⟩:=idx id hid
  obtain ⟨r1,r2⟩:=hf.maps id g0 sz0 n0 e0 f0 b base h0 hm0 nI
  refine ⟨r1,?_⟩
  rw [q1]
  unfold x5 at q3
  cases o with
  | dead=>exact .inl rfl
  | row g' cJ n' e' f'=>
   cases ho:h[id']? with
   | none=>rw [ho] at q3;exact absurd q3.1 aNc
   | some o2=>
    cases o2 with
    | dead=>rw [ho] at q3;exact q3.elim
    | row g sz n e f=>
     rw [ho] at q3
     obtain ⟨s1,rfl,s2,rfl,_⟩:=q3
     obtain ⟨rfl,rfl⟩:=s1 hid
     obtain rfl:=s2.resolve_right (λhx=>absurd hx.1 aNc)
     rw [ho] at r2
     rcases r2 with r2 | ⟨_,r3⟩
     ·cases r2
     ·exact .inr ⟨⟨_,_,_,_,_,rfl⟩,(ua q2 ho).trans r3⟩
 ·rcases hs b hb with h1 | h1
  ·exact hf.new b h1
  ·rcases hf.own b h1 with h2 | h2
   ·exact .inr (.inl h2)
   ·exact .inr (.inr h2)
 ·have hid:id<C.h.length:=(An.1 h0).1
  obtain ⟨o,id',q1,q2,q3⟩:=idx id hid
  have hg:=hf.DE id g0 sz0 n0 e0 f0 h0
  rw [q1]
  unfold x5 at q3
  cases o with
  | dead=>trivial
  | row g' cJ n' e' f'=>
   cases ho:h[id']? with
   | none=>rw [ho] at q3;exact absurd q3.1 aNc
   | some o2=>
    cases o2 with
    | dead=>rw [ho] at q3;exact q3.elim
    | row g sz n e f=>
     rw [ho] at q3
     obtain ⟨r1,rfl,r2,rfl,_⟩:=q3
     obtain ⟨rfl,rfl⟩:=r1 hid
     obtain rfl:=r2.resolve_right (λhx=>absurd hx.1 aNc)
     rw [ho] at hg
     refine ⟨hg.1,λhe=>?_⟩
     obtain ⟨s1,s2,s3,s4⟩:=hg.2 he
     exact ⟨by rw [ua q2 ho];exact s1,s2,s3,s4⟩
 ·have hid:id<C.h.length:=(An.1 h0).1
  obtain ⟨o,id',q1,q2,q3⟩:=idx id hid
  have hd:=hf.dead id h0
  rw [q1]
  unfold x5 at q3
  cases o with
  | dead=>rfl
  | row g' cJ n' e' f'=>
   cases ho:h[id']? with
   | none=>rw [ho] at q3;exact absurd q3.1 aNc
   | some o2=>
    cases o2 with
    | dead=>rw [ho] at q3;exact q3.elim
    | row g sz n e f=>
     rw [ho] at q3
     obtain ⟨rfl,rfl⟩:=q3.1 hid
     rw [ho] at hd
     cases hd
structure pg (C:Start) (μ:Mu) (h:List al) (S:Nat->Prop) (env:Env) (a:Act) (w:World):Prop where
 core:Core μ h S w
 fr:Fr C.μ C.h C.S C.w μ h S w
 tmps:∀t,cj μ h S w (env t) (a.tmps.getD t undef)
 size:a.tmps.size=C.nt
 far:∀t,C.nt<=t->env t=.jQ
 defers:a.defers=[]
variable {C:Start} {env:Env} {a:Act}
theorem D3 (env:Env) (t:Nat) (v:PV):qZ env t v t=v:=by simp [qZ]
theorem IP (env:Env) {t j:Nat} (v:PV) (hj:j≠t):qZ env t v j=env j:=by
 unfold qZ
 have:Nat.beq j t=false:=by
  cases hb:Nat.beq j t with
  | true=>exact (hj (No hb)).elim
  | false=>rfl
 rw [this];rfl
def qI (nt:Nat) (o:Oper):Bool:=match o.dst with | some t=>Nat.blt t nt | none=>true
theorem pg.put (hs:pg C μ h S env a w) {μ':Mu} {h':List al} {S':Nat->Prop} {w':World} (hf:Fr μ h S w μ' h' S' w') (hc:Core μ' h' S' w') {dst:Option Nat} {v:PV} {val:Value} (hv:cj μ' h' S' w' v val)
  (hd:∀t,dst=some t->t<C.nt):pg C μ' h' S' (fx env dst v) (a.put dst val) w':=by
 refine ⟨hc,hs.fr.trans hf,λt=>?_,?_,λt ht=>?_,?_⟩
 ·cases dst with
  | none=>exact (hs.tmps t).fr hf hs.core.ok
  | some d=>
   have hdl:=hd d rfl
   by_cases htd:t=d
   ·subst htd
    show cj μ' h' S' w' (qZ env t v t) _
    rw [D3]
    have:((a.put (some t) val).tmps).getD t undef=val:=by
     have bc:t<a.tmps.size:=by rw [hs.size];exact hdl
     simp [Act.put,bc]
    rw [this];exact hv
   ·show cj μ' h' S' w' (qZ env d v t) _
    rw [IP env v htd]
    have:((a.put (some d) val).tmps).getD t undef=a.tmps.getD t undef:=by
     simp [Act.put,aLI (aLo htd)]
    rw [this];exact (hs.tmps t).fr hf hs.core.ok
 ·cases dst with
  | none=>exact hs.size
  | some d=>simp [Act.put,hs.size]
 ·cases dst with
  | none=>exact hs.far t ht
  | some d=>
   have hdl:=hd d rfl
   show qZ env d v t=_
   rw [IP env v aNc]
   exact hs.far t ht
 ·cases dst with
  | none=>exact hs.defers
  | some d=>exact hs.defers
theorem pg.D4 (hs:pg C μ h S env a w) {t:Nat} {b:Bool} (he:env t=.bool b):pg C μ h S (qZ env t (.bool b)) a w:=by
 have:qZ env t (.bool b)=env:=by
  funext j
  by_cases hj:j=t
  ·subst hj;rw [D3,he]
  ·rw [IP env _ hj]
 rw [this];exact hs
def D5 (C:Start) (Q:XQ):Exit->Act->World->Prop:=λe a w=>∃μ h S env,pg C μ h S env a w/\Q e env h
theorem yc (hs:pg C μ h S env a w) {ops:Array Oper} {j t:Nat} {b:Bool} (hj:(ops.toList[j]?).bind (·.dst)=some t) (he:env t=.bool b):yielded ops a.tmps j=some b:=by
 have hv:=hs.tmps t
 rw [he] at hv
 have hv:=hv.ns
 have bc:t<a.tmps.size:=by
  rcases aKX t a.tmps.size with h1 | h1
  ·exact h1
  ·rw [hs.far t (by rw [<-hs.size];exact h1)] at he;cases he
 unfold yielded
 rw [aKG] at hj
 rw [hj]
 simp only [aLT]
 have:a.tmps[t]? =some (.bool b):=by
  rw [aKA bc]
  simp [bc] at hv
  rw [hv]
 rw [this]
theorem yd:cj μ h S w (.fM []) undef:=⟨#[],rfl,rfl,λj pv hj=>by simp at hj⟩
theorem ub (hs:pg C μ h S env a w) {ops:Array Oper} {j t:Nat} (hj:(ops.toList[j]?).bind (·.dst)=some t) (he:env t=.fM []):yielded ops a.tmps j=none:=by
 have hv:=hs.tmps t
 rw [he] at hv
 obtain ⟨vs,hv,_⟩:=hv
 unfold yielded
 rw [aKG] at hj
 rw [hj]
 simp only [aLT]
 rcases aKX t a.tmps.size with h1 | h1
 ·have:a.tmps[t]? =some (.tuple vs):=by
   rw [aKA h1]
   simp [h1] at hv
   rw [hv]
  rw [this]
 ·rw [Array.getElem?_eq_none h1]
theorem ye {K:Env->List al->Prop} (all:List Oper) (o:Oper) (rest:List Oper) (env:Env) (h:List al) {j:Nat} {want:Bool} (hg:o.guard=some (j,want)):
  wh P T all K (o::rest) env h=(match (all[j]?).bind (·.dst) with
     | some t=>match env t with
      | .bool b=>gJ b
        (match (generalizing:=false) want with
         | true=>pop P T o.op (qZ env t (.bool true)) h (λv h'=>wh P T all K rest (fx (qZ env t (.bool true)) o.dst v) h')
         | false=>wh P T all K rest (fx (qZ env t (.bool true)) o.dst (.fM [])) h)
        (match (generalizing:=false) want with
         | true=>wh P T all K rest (fx (qZ env t (.bool false)) o.dst (.fM [])) h
         | false=>pop P T o.op (qZ env t (.bool false)) h (λv h'=>wh P T all K rest (fx (qZ env t (.bool false)) o.dst v) h'))
      | .fM []=>wh P T all K rest (fx env o.dst (.fM [])) h
      | _=>False
     | none=>False):=by
 obtain ⟨dst,op,ty,pos,after,guard⟩:=o
 have hg:guard=some (j,want):=hg
 rw [hg]
 rfl
theorem yf (hT:fe P T) (ops:Array Oper) {K:Env->List al->Prop} {Q:Exit->Act->World->Prop} (hK:∀env h a w μ S,K env h->pg C μ h S env a w->Q .normal a w):
  ∀(l:List Oper) (env:Env) (h:List al) (a:Act) (w:World) (μ:Mu) (S:Nat->Prop),wh P T ops.toList K l env h->(∀o∈l,qI C.nt o=true)->pg C μ h S env a w->wpList P ops Q l a w
 | [],env,h,a,w,μ,S,hp,_,hs=>hK env h a w μ S hp hs
 | o::rest,env,h,a,w,μ,S,hp,hd,hs=>by
  have hdo:∀t,o.dst=some t->t<C.nt:=λt ht=>by
   have:=hd o aNf
   unfold qI at this
   rw [ht] at this
   simpa using this
  have hdr:∀o∈rest,qI C.nt o=true:=λo ho=>hd o (by simp [ho])
  have run:∀env',pg C μ h S env' a w->pop P T o.op env' h (λv h'=>wh P T ops.toList K rest (fx env' o.dst v) h')->o.wp P a w (wpList P ops Q rest) Q:=λenv' mj yx=>by
   obtain ⟨dst,op,ty,pos,after,guard⟩:=o
   refine GR (env:=env') hT mj.core mj.tmps yx _ _ λv val h' μ' S' w' hK' hv hc hf=>?_
   exact yf hT ops hK rest _ h' _ w' μ' S' hK' hdr (mj.put hf hc hv hdo)
  have skip:∀env',pg C μ h S env' a w->wh P T ops.toList K rest (fx env' o.dst (.fM [])) h->wpList P ops Q rest (a.put o.dst undef) w:=λenv' mj yx=>
   yf hT ops hK rest _ h _ w μ S yx hdr (mj.put Fr.refl mj.core yd hdo)
  unfold wpList
  cases hg:o.guard with
  | none=>
   have hp:pop P T o.op env h (λv h'=>wh P T ops.toList K rest (fx env o.dst v) h'):=by
    exact aMk
   rw [if_pos (by simp [Region.wanted,hg])]
   exact .inl (run env hs hp)
  | some p=>
   obtain ⟨j,want⟩:=p
   rw [ye ops.toList o rest env h hg] at hp
   split at hp
   ·rename_i t hj
    split at hp
    ·rename_i b he
     have hy:=yc hs hj he
     obtain ⟨ht,hf⟩:=kV hp
     have mj:=hs.D4 he
     cases b with
     | true=>
      have hp:=ht rfl
      cases want with
      | true=>rw [if_pos aNp];exact .inl (run _ mj hp)
      | false=>rw [if_neg aNp];exact skip _ mj hp
     | false=>
      have hp:=hf rfl
      cases want with
      | true=>rw [if_neg aNp];exact skip _ mj hp
      | false=>rw [if_pos aNp];exact .inl (run _ mj hp)
    ·rename_i he
     rw [if_neg aNI]
     exact skip _ hs hp
    ·exact aMG
   ·exact aMG
end
section
variable {P:Program} {T:qq} {μ:Mu} {h h1:List al} {S:Nat->Prop} {w:World}
theorem RA (hc:Core μ h S w) (hx:LQ h h1):∃μ',Fr μ h S w μ' h1 S w/\Core μ' h1 S w:=by
 obtain ⟨id,g,sz,n,e,f,i,j,cJ,n',e',f',F,f1,hh,hi,hj,hf1,hf2,rfl⟩:=hx
 have hid:id<h.length:=(An.1 hh).1
 obtain ⟨hl,bB⟩:=hc.heap id g sz n e f hh
 have O6:j<sz:=by rw [<-hl i hi];exact (An.1 hj).1
 have zP:∃b0 Bf Ml v,μ id=some (b0,Bf)/\w.heap[b0]? =some (.cells Ml e (0,0))/\Bf+n*sz<=Ml.size/\Ml[Bf+i*sz+j]? =some v/\my S w (.dI cJ n' e' f' F) v/\
   ∀(i j:Nat) (pv:PV),i<n->(f i)[j]? =some pv->∃v:Value,Ml[Bf+i*sz+j]? =some v/\pz μ h S w pv v:=by
  cases ju:μ id with
  | none=>rw [ju] at bB;have bB:n=0:=bB;omega
  | some p=>
   obtain ⟨b0,Bf⟩:=p
   rw [ju] at bB
   obtain ⟨o,q1,q2⟩:=bB
   cases o with
   | cells Ml e0 z=>
    obtain ⟨rfl,rfl,q3,q4⟩:=q2
    obtain ⟨v,r1,r2⟩:=q4 i j _ hi hj
    exact ⟨b0,Bf,Ml,v,rfl,q1,q3,r1,r2,q4⟩
   | map es c=>
    obtain ⟨kp,vp,en,y1,y2,y3,_⟩:=q2.2 i hi
    rw [y1] at hj
    match j,hj with
    | 0,hj=>simp at hj;rw [hj] at y2;cases y2
    | 1,hj=>simp at hj;rw [hj] at y3;cases y3
    | y+2,hj=>simp at hj
   | _=>exact q2.elim
 obtain ⟨b0,Bf,Ml,v,ju,Jg,wY,RO,htv,lK⟩:=zP
 have abT:∀b,F b->eA h id i j b:=λb hb=>⟨_,_,_,_,_,_,_,_,_,_,hh,hi,hj,hb⟩
 obtain ⟨p,hp⟩:∃p:Option (Nat×Nat),match p with
   | none=>v=.slice none 0 0/\n'=0
   | some (b,off)=>F b/\∃(c:Nat) (a:Addr) (cur:Array Value),w.heap[b]? =some (.cells cur e' (0,0))/\v=.slice (some a) n' c/\n'<=c/\(0<c->a=⟨b,off,none⟩)/\off+c*cJ<=cur.size/\(∀i,i<n'->(f' i).length=cJ)/\
     (∀(i j:Nat) (pv:PV),i<n'->(f' i)[j]? =some pv->∃u,cur[off+i*cJ+j]? =some u/\(ba S w pv u\/∃s2 n2 e2 f2 F2,pv=.dI s2 n2 e2 f2 F2/\my S w (.dI s2 n2 e2 f2 F2) u))/\
     (∀(i j lN n2:Nat) (e2:TypeId) (f2:Nat->List PV) (F2:Nat->Prop),i<n'->(f' i)[j]? =some (.dI lN n2 e2 f2 F2)->∀b',F2 b'->F b'/\b'≠b)/\
     (∀(i j lN n2:Nat) (e2:TypeId) (f2:Nat->List PV) (F2:Nat->Prop) (i' j' sz3 n3:Nat) (e3:TypeId) (f3:Nat->List PV) (F3:Nat->Prop),i<n'->(f' i)[j]? =some (.dI lN n2 e2 f2 F2)->i'<n'->(f' i')[j']? =some (.dI sz3 n3 e3 f3 F3)->∀b',F2 b'->F3 b'->i=i'/\j=j'):=by
  cases htv with
  | nil _ _ _ _ hF=>exact ⟨none,rfl,rfl⟩
  | Mi _ _ _ _ _ b off c a cur vf hF hb hlen hcc ha ic hcel pt vJ FN Mj=>
   refine ⟨some (b,off),hF,c,a,cur,hb,rfl,hcc,ha,ic,hlen,λi j pv hi hj=>⟨_,hcel i j pv hi hj,?_⟩,FN,Mj⟩
   rcases pt i j pv hi hj with q | ⟨s2,n2,e2,f2,F2,rfl⟩
   ·exact .inl q
   ·exact .inr ⟨s2,n2,e2,f2,F2,rfl,vJ i j _ _ _ _ _ hi hj⟩
 have hpF:∀b off,p=some (b,off)->F b:=λb off hq=>by subst hq;exact hp.1
 generalize hh1:h.set id (al.row g sz n e f1)++[al.row 0 cJ n' e' f']=h1
 have aI1:h1.length=h.length+1:=by rw [<-hh1];simp
 have yg:h1[id]? =some (al.row g sz n e f1):=by rw [<-hh1,aKB (by simpa using hid)];simp [hid]
 have B2:h1[h.length]? =some (al.row 0 cJ n' e' f'):=by rw [<-hh1,aKt aNf];simp
 have dB:∀k,k≠id->k<h.length->h1[k]? =h[k]? :=λk hk hkl=>by rw [<-hh1,aKB (by simpa using hkl),aKs (aLo hk)]
 have inv:∀k o,h1[k]? =some o->(k=id/\o=al.row g sz n e f1)\/(k=h.length/\o=al.row 0 cJ n' e' f')\/(k≠id/\k<h.length/\h[k]? =some o):=λk o hk=>by
  by_cases h2:k=id
  ·subst h2;rw [yg] at hk;injection hk with hk;exact .inl ⟨rfl,hk.symm⟩
  ·by_cases h3:k=h.length
   ·subst h3;rw [B2] at hk;injection hk with hk;exact .inr (.inl ⟨rfl,hk.symm⟩)
   ·have h4:k<h.length:=by have:=(An.1 hk).1;omega
    rw [dB k h2 h4] at hk
    exact .inr (.inr ⟨h2,h4,hk⟩)
 let μ1:Mu:=nU μ h.length p
 have D6:μ1 h.length=p:=bH _ _ _
 have pA:∀k,k<h.length->μ1 k=μ k:=λk hk=>dr μ _ aNc
 have D7:∀x y pv,x<n->(f1 x)[y]? =some pv->((x,y)=(i,j)/\pv=.own h.length 0 0 n')\/((x,y)≠(i,j)/\(f x)[y]? =some pv):=λx y pv hx hy=>by
  by_cases hxi:x=i
  ·subst hxi
   rw [hf1,aLP] at hy
   by_cases hyj:j=y
   ·subst hyj
    rw [if_pos rfl,if_pos (by rw [hl x hx];exact O6)] at hy
    injection hy with hy
    exact .inl ⟨rfl,hy.symm⟩
   ·rw [if_neg hyj] at hy
    exact .inr ⟨λq=>hyj (by injection q with _ q;exact q.symm),hy⟩
  ·rw [hf2 x hx hxi] at hy
   exact .inr ⟨λq=>hxi (by injection q),hy⟩
 have eU:∀k x y b,eA h1 k x y b->(k≠h.length/\¬(k=id/\x=i/\y=j)/\eA h k x y b)\/(k=h.length/\eA h id i j b/\∃lN n2 e2 f2 F2,x<n'/\(f' x)[y]? =some (.dI lN n2 e2 f2 F2)/\F2 b):=λk x y b ⟨g2,s2,n2,e2,f2,s3,n3,e3,f3,F3,q1,q2,q3,q4⟩=>by
  rcases inv k _ q1 with ⟨rfl,ho⟩ | ⟨rfl,ho⟩ | ⟨h2,h3,h4⟩
  ·injection ho with a1 a2 a3 a4 a5
   subst a1 a2 a3 a4 a5
   rcases D7 x y _ q2 q3 with ⟨_,hq⟩ | ⟨oY,hq⟩
   ·cases hq
   ·exact .inl ⟨by omega,λ⟨_,b1,b2⟩=>oY (by rw [b1,b2]),_,_,_,_,_,_,_,_,_,_,hh,q2,hq,q4⟩
  ·injection ho with a1 a2 a3 a4 a5
   subst a1 a2 a3 a4 a5
   refine .inr ⟨rfl,abT b ?_,_,_,_,_,_,q2,q3,q4⟩
   cases p with
   | none=>have:=hp.2;omega
   | some pp=>
    obtain ⟨pb,am6⟩:=pp
    obtain ⟨_,_,_,_,_,_,_,_,_,_,_,hs,_⟩:=hp
    exact (hs x y _ _ _ _ _ q2 q3 b q4).1
  ·exact .inl ⟨by omega,λ⟨b1,_⟩=>h2 b1,_,_,_,_,_,_,_,_,_,_,h4,q2,q3,q4⟩
 have D8:∀b,GJ μ1 h1 b->GJ μ h b\/(∃off,p=some (b,off)):=λb ⟨k,g2,s2,n2,e2,f2,base,q1,q2⟩=>by
  rcases inv k _ q1 with ⟨rfl,ho⟩ | ⟨rfl,ho⟩ | ⟨h2,h3,h4⟩
  ·rw [pA k hid] at q2
   exact .inl ⟨k,_,_,_,_,_,_,hh,q2⟩
  ·rw [D6] at q2
   exact .inr ⟨base,q2⟩
  ·rw [pA k h3] at q2
   exact .inl ⟨k,_,_,_,_,_,_,h4,q2⟩
 have nD:∀b,dx μ1 h1 b->dx μ h b:=λb hb=>by
  rcases hb with hb | ⟨k,x,y,hb⟩
  ·rcases D8 b hb with q | ⟨off,q⟩
   ·exact .inl q
   ·exact .inr ⟨_,_,_,abT b (hpF b off q)⟩
  ·rcases eU k x y b hb with ⟨_,_,q⟩ | ⟨_,q,_⟩
   ·exact aNb
   ·exact aNb
 have lu:Fr μ h S w μ1 h1 S w:=by
  refine ⟨by omega,λ_ _ _=>rfl,λ_ hb=>hb,λ_ hb=>.inl hb,λb hb=>.inl (nD b hb),As _,rfl,rfl,rfl,λk g2 s2 n2 e2 f2 hk=>?_,λk hk=>?_,λ_ _ _ hc=>hc,λk g2 s2 n2 e2 f2 b base hk hm nI=>⟨nI,.inr ⟨?_,?_⟩⟩,λ_ _ _ _ _ nI=>nI⟩
  ·have hkl:=(An.1 hk).1
   by_cases zE:k=id
   ·subst zE
    rw [hh] at hk
    injection hk with hk
    injection hk with a1 a2 a3 a4 a5
    subst a1 a2 a3 a4 a5
    rw [yg]
    exact ⟨As _,λ_=>⟨pA _ hid,rfl,rfl,rfl⟩⟩
   ·rw [dB k zE hkl,hk]
    exact ⟨As _,λ_=>⟨pA k hkl,rfl,rfl,rfl⟩⟩
  ·have hkl:=(An.1 hk).1
   rw [dB k (by rintro rfl;rw [hh] at hk;cases hk) hkl];exact hk
  ·have hkl:=(An.1 hk).1
   by_cases zE:k=id
   ·subst zE;exact ⟨_,_,_,_,_,yg⟩
   ·exact ⟨_,_,_,_,_,(dB k zE hkl).trans hk⟩
  ·rw [pA k (An.1 hk).1];exact hm
 refine ⟨μ1,lu,⟨λk g2 s2 n2 e2 f2 hk=>?_,⟨λb hb=>hc.ok.apart b (nD b hb),λb hb=>hc.ok.lt b (nD b hb),hc.ok.slt,?_,hc.ok.known,λb hb k x y hx=>?_,λb k x y k' x' y' hx uT=>?_⟩⟩⟩
 ·rcases inv k _ hk with ⟨rfl,ho⟩ | ⟨rfl,ho⟩ | ⟨h2,h3,h4⟩
  ·injection ho with a1 a2 a3 a4 a5
   subst a1 a2 a3 a4 a5
   refine ⟨λx hx=>?_,?_⟩
   ·by_cases hxi:x=i
    ·subst hxi;rw [hf1,aLJ];exact hl x hx
    ·rw [hf2 x hx hxi];exact hl x hx
   ·rw [pA k hid,ju]
    refine ⟨_,Jg,rfl,rfl,wY,λx y pv hx hy=>?_⟩
    rcases D7 x y pv hx hy with ⟨hq,rfl⟩ | ⟨_,hq⟩
    ·injection hq with r1 r2
     subst r1 r2
     refine ⟨v,RO,?_⟩
     show bG μ1 h1 w h.length 0 0 n' v
     unfold bG
     rw [B2]
     cases p with
     | none=>
      obtain ⟨rfl,rfl⟩:=hp
      exact ⟨⟨_,_,_,rfl⟩,As _,λ_=>⟨As _,by rw [D6]⟩⟩
     | some pp=>
      obtain ⟨pb,am6⟩:=pp
      obtain ⟨_,c,a,cur,t1,rfl,t3,t4,t5,_⟩:=hp
      refine ⟨⟨_,_,_,rfl⟩,As _,λ_=>⟨by omega,?_⟩⟩
      rw [D6]
      exact ⟨a,c,rfl,t3,λh0=>by rw [t4 h0];simp,cur,e',_,t1,by rw [aKc];exact t5⟩
    ·obtain ⟨u,r1,r2⟩:=lK x y pv hx hq
     exact ⟨u,r1,r2.fr lu hc.ok (λ_ _ _ _ _ _ _ _=>rfl)⟩
  ·injection ho with a1 a2 a3 a4 a5
   subst a1 a2 a3 a4 a5
   rw [D6]
   cases p with
   | none=>exact ⟨λx hx=>by have:=hp.2;omega,hp.2⟩
   | some pp=>
    obtain ⟨pb,am6⟩:=pp
    obtain ⟨_,c,a,cur,t1,_,t3,_,t5,t6,t7,_,_⟩:=hp
    refine ⟨t6,_,t1,rfl,rfl,aKW (Nat.add_le_add_left (aKn _ t3) _) t5,λx y pv hx hy=>?_⟩
    obtain ⟨u,r1,r2⟩:=t7 x y pv hx hy
    refine ⟨u,r1,?_⟩
    rcases r2 with r2 | ⟨_,_,_,_,_,rfl,r2⟩
    ·exact (cQ.lB r2).k (ba.no r2)
    ·exact r2
  ·obtain ⟨q1,q2⟩:=hc.heap k _ _ _ _ _ h4
   refine ⟨q1,?_⟩
   rw [pA k h3]
   cases hm:μ k with
   | none=>rw [hm] at q2;exact q2
   | some pp=>
    obtain ⟨b,base⟩:=pp
    rw [hm] at q2
    obtain ⟨o,r1,r2⟩:=q2
    exact ⟨o,r1,r2.mono (λ_ _ _ _ _ _ hr=>hr.fr lu hc.ok (λ_ _ _ _ _ _ _ _=>rfl))⟩
 ·intro a b ga sa na ea fa gb sb nb eb fb Mi o o' ha hb hma nI
  have Uf:∀k gk sk nk ek fk oo,h1[k]? =some (al.row gk sk nk ek fk)->μ1 k=some (Mi,oo)->(k=h.length/\F Mi)\/(k<h.length/\∃gk sk nk ek fk,h[k]? =some (al.row gk sk nk ek fk)/\μ k=some (Mi,oo)):=λk gk sk nk ek fk oo hk hm=>by
   rcases inv k _ hk with ⟨rfl,ho⟩ | ⟨rfl,ho⟩ | ⟨h2,h3,h4⟩
   ·rw [pA k hid] at hm;exact .inr ⟨hid,_,_,_,_,_,hh,hm⟩
   ·rw [D6] at hm;exact .inl ⟨rfl,hpF _ _ hm⟩
   ·rw [pA k h3] at hm;exact .inr ⟨h3,_,_,_,_,_,h4,hm⟩
  rcases Uf a _ _ _ _ _ _ ha hma with ⟨rfl,q⟩ | ⟨q0,_,_,_,_,_,q1,q2⟩
  ·rcases Uf b _ _ _ _ _ _ hb nI with ⟨rfl,_⟩ | ⟨r0,_,_,_,_,_,r1,r2⟩
   ·rfl
   ·exact absurd (abT Mi q) (hc.ok.hv Mi ⟨b,_,_,_,_,_,_,r1,r2⟩ _ _ _)
  ·rcases Uf b _ _ _ _ _ _ hb nI with ⟨rfl,r⟩ | ⟨r0,_,_,_,_,_,r1,r2⟩
   ·exact absurd (abT Mi r) (hc.ok.hv Mi ⟨a,_,_,_,_,_,_,q1,q2⟩ _ _ _)
   ·exact hc.ok.inj a b _ _ _ _ _ _ _ _ _ _ _ _ _ q1 r1 q2 r2
 ·rcases D8 b hb with q | ⟨off,q⟩
  ·rcases eU k x y b hx with ⟨_,_,r⟩ | ⟨_,r,_⟩
   ·exact hc.ok.hv b q _ _ _ r
   ·exact hc.ok.hv b q _ _ _ r
  ·rcases eU k x y b hx with ⟨_,oY,r⟩ | ⟨_,r,lN,n2,e2,f2,F2,r1,r2,r3⟩
   ·exact oY (hc.ok.hh b _ _ _ _ _ _ r (abT b (hpF b off q)))
   ·subst q
    obtain ⟨_,_,_,_,_,_,_,_,_,_,_,hs,_⟩:=hp
    exact (hs x y _ _ _ _ _ r1 r2 b r3).2 rfl
 ·rcases eU k x y b hx with ⟨k1,oY,r⟩ | ⟨rfl,r,lN,n2,e2,f2,F2,r1,r2,r3⟩
  ·rcases eU k' x' y' b uT with ⟨k2,hne',r'⟩ | ⟨rfl,r',_⟩
   ·exact hc.ok.hh b _ _ _ _ _ _ r r'
   ·exact absurd (hc.ok.hh b _ _ _ _ _ _ r r') oY
  ·rcases eU k' x' y' b uT with ⟨k2,hne',r'⟩ | ⟨rfl,r',sz3,n3,e3,f3,F3,t1,t2,t3⟩
   ·exact absurd (hc.ok.hh b _ _ _ _ _ _ r' r) hne'
   ·cases p with
    | none=>have:=hp.2;omega
    | some pp=>
     obtain ⟨pb,am6⟩:=pp
     obtain ⟨_,_,_,_,_,_,_,_,_,_,_,_,hd⟩:=hp
     obtain ⟨e1,e2⟩:=hd x y _ _ _ _ _ x' y' _ _ _ _ _ r1 r2 t1 t2 b r3 t3
     exact ⟨rfl,e1,e2⟩
def FAb (μ:Mu) (h:List al) (sub:Nat) (b:Nat):Prop:=(∃g sz n e f base,h[sub]? =some (al.row g sz n e f)/\μ sub=some (b,base))\/∃x y,eA h sub x y b
theorem HM (hc:Core μ h S w) {id i j sub:Nat} (hx:Bm h id i j sub (FAb μ h sub) h1):Fr μ h S w μ h1 S w/\Core μ h1 S w:=by
 obtain ⟨g,sz,n,e,f,g2,lN,n2,e2,f2,f1,hh,hs,oY,hi,hj,hpu,hf1,hf2,rfl⟩:=hx
 have hid:id<h.length:=(An.1 hh).1
 have hsl:sub<h.length:=(An.1 hs).1
 obtain ⟨hl,bB⟩:=hc.heap id g sz n e f hh
 have O6:j<sz:=by rw [<-hl i hi];exact (An.1 hj).1
 generalize hFF:FAb μ h sub=F
 rw [hFF] at hf1
 have aCC:∀b,F b->dx μ h b:=λb hb=>by
  rw [<-hFF] at hb
  rcases hb with ⟨g,sz,n,e,f,base,q1,q2⟩ | ⟨x,y,q⟩
  ·exact .inl ⟨sub,_,_,_,_,_,_,q1,q2⟩
  ·exact aNb
 generalize hh1:(h.set id (al.row g sz n e f1)).set sub al.dead=h1
 have yg:h1[id]? =some (al.row g sz n e f1):=by rw [<-hh1,aKs (aLo oY)];simp [hid]
 have B4:h1[sub]? =some al.dead:=by rw [<-hh1,aKP (by simpa using hsl)]
 have dB:∀k,k≠id->k≠sub->h1[k]? =h[k]? :=λk h2 h3=>by rw [<-hh1,aKs (aLo h3),aKs (aLo h2)]
 have inv:∀k gk sk nk ek fk,h1[k]? =some (al.row gk sk nk ek fk)->k≠sub/\((k=id/\al.row gk sk nk ek fk=al.row g sz n e f1)\/(k≠id/\h[k]? =some (al.row gk sk nk ek fk))):=λk gk sk nk ek fk hk=>by
  have h3:k≠sub:=by rintro rfl;rw [B4] at hk;cases hk
  refine ⟨h3,?_⟩
  by_cases h2:k=id
  ·subst h2;rw [yg] at hk;injection hk with hk;exact .inl ⟨rfl,hk.symm⟩
  ·rw [dB k h2 h3] at hk;exact .inr ⟨h2,hk⟩
 have D7:∀x y pv,x<n->(f1 x)[y]? =some pv->((x=i/\y=j)/\pv=.dI lN n2 e2 f2 F)\/(¬(x=i/\y=j)/\(f x)[y]? =some pv):=λx y pv hx hy=>by
  by_cases hxi:x=i
  ·subst hxi
   rw [hf1,aLP] at hy
   by_cases hyj:j=y
   ·subst hyj
    rw [if_pos rfl,if_pos (by rw [hl x hx];exact O6)] at hy
    injection hy with hy
    exact .inl ⟨⟨rfl,rfl⟩,hy.symm⟩
   ·rw [if_neg hyj] at hy
    exact .inr ⟨λq=>hyj q.2.symm,hy⟩
  ·rw [hf2 x hx hxi] at hy
   exact .inr ⟨λq=>hxi q.1,hy⟩
 have eU:∀k x y b,eA h1 k x y b->(k=id/\x=i/\y=j/\F b)\/(k≠sub/\¬(k=id/\x=i/\y=j)/\eA h k x y b):=λk x y b ⟨g3,s3,n3,e3,f3,s4,n4,e4,f4,F4,q1,q2,q3,q4⟩=>by
  obtain ⟨h3,hq⟩:=inv k _ _ _ _ _ q1
  rcases hq with ⟨rfl,ho⟩ | ⟨h2,h4⟩
  ·injection ho with a1 a2 a3 a4 a5
   subst a1 a2 a3 a4 a5
   rcases D7 x y _ q2 q3 with ⟨⟨r1,r2⟩,hq⟩ | ⟨hne',hq⟩
   ·injection hq with _ _ _ _ hq
    subst hq
    exact .inl ⟨rfl,r1,r2,q4⟩
   ·exact .inr ⟨h3,λ⟨_,b1⟩=>hne' b1,_,_,_,_,_,_,_,_,_,_,hh,q2,hq,q4⟩
  ·exact .inr ⟨h3,λ⟨b1,_⟩=>h2 b1,_,_,_,_,_,_,_,_,_,_,h4,q2,q3,q4⟩
 have D8:∀b,GJ μ h1 b->∃k gk sk nk ek fk base,k≠sub/\h[k]? =some (al.row gk sk nk ek fk)/\μ k=some (b,base):=λb ⟨k,g3,s3,n3,e3,f3,base,q1,q2⟩=>by
  obtain ⟨h3,hq⟩:=inv k _ _ _ _ _ q1
  rcases hq with ⟨rfl,ho⟩ | ⟨h2,h4⟩
  ·exact ⟨k,_,_,_,_,_,_,h3,hh,q2⟩
  ·exact ⟨k,_,_,_,_,_,_,h3,h4,q2⟩
 have nD:∀b,dx μ h1 b->dx μ h b:=λb hb=>by
  rcases hb with hb | ⟨k,x,y,hb⟩
  ·obtain ⟨k,_,_,_,_,_,_,_,q1,q2⟩:=D8 b hb
   exact .inl ⟨k,_,_,_,_,_,_,q1,q2⟩
  ·rcases eU k x y b hb with ⟨_,_,_,q⟩ | ⟨_,_,q⟩
   ·exact aCC b q
   ·exact aNb
 have lu:Fr μ h S w μ h1 S w:=by
  refine ⟨by rw [<-hh1];simp,λ_ _ _=>rfl,λ_ hb=>hb,λ_ hb=>.inl hb,λb hb=>.inl (nD b hb),As _,rfl,rfl,rfl,λk g3 s3 n3 e3 f3 hk=>?_,λk hk=>?_,λ_ _ _ hc=>hc,λk g3 s3 n3 e3 f3 b base hk hm nI=>⟨nI,?_⟩,λ_ _ _ _ _ nI=>nI⟩
  ·by_cases zE:k=id
   ·subst zE
    rw [hh] at hk
    injection hk with hk
    injection hk with a1 a2 a3 a4 a5
    subst a1 a2 a3 a4 a5
    rw [yg]
    exact aMY
   ·by_cases hks:k=sub
    ·subst hks;rw [B4];trivial
    ·rw [dB k zE hks,hk]
     exact aMY
  ·by_cases hks:k=sub
   ·subst hks;exact B4
   ·rw [dB k (by rintro rfl;rw [hh] at hk;cases hk) hks];exact hk
  ·by_cases hks:k=sub
   ·subst hks;exact .inl B4
   ·refine .inr ⟨?_,hm⟩
    by_cases zE:k=id
    ·subst zE;exact ⟨_,_,_,_,_,yg⟩
    ·exact ⟨_,_,_,_,_,(dB k zE hks).trans hk⟩
 have ahu:∀k x y b,k≠sub->eA h k x y b->¬F b:=λk x y b hk hx hF=>by
  rw [<-hFF] at hF
  rcases hF with ⟨_,_,_,_,_,_,q1,q2⟩ | ⟨_,_,q⟩
  ·exact hc.ok.hv b ⟨sub,_,_,_,_,_,_,q1,q2⟩ _ _ _ hx
  ·exact hk (hc.ok.hh b _ _ _ _ _ _ hx q).1
 refine ⟨lu,⟨λk g3 s3 n3 e3 f3 hk=>?_,⟨λb hb=>hc.ok.apart b (nD b hb),λb hb=>hc.ok.lt b (nD b hb),hc.ok.slt,?_,hc.ok.known,λb hb k x y hx=>?_,λb k x y k' x' y' hx uT=>?_⟩⟩⟩
 ·obtain ⟨h3,hq⟩:=inv k _ _ _ _ _ hk
  rcases hq with ⟨rfl,ho⟩ | ⟨h2,h4⟩
  ·injection ho with a1 a2 a3 a4 a5
   subst a1 a2 a3 a4 a5
   refine ⟨λx hx=>?_,?_⟩
   ·by_cases hxi:x=i
    ·subst hxi;rw [hf1,aLJ];exact hl x hx
    ·rw [hf2 x hx hxi];exact hl x hx
   ·cases ju:μ k with
    | none=>rw [ju] at bB;exact bB
    | some p=>
     obtain ⟨b0,Bf⟩:=p
     rw [ju] at bB
     obtain ⟨o,q1,q2⟩:=bB
     refine ⟨o,q1,?_⟩
     cases o with
     | cells Ml e0 z=>
      obtain ⟨rfl,rfl,q3,q4⟩:=q2
      refine ⟨rfl,rfl,q3,λx y pv hx hy=>?_⟩
      rcases D7 x y pv hx hy with ⟨⟨rfl,rfl⟩,rfl⟩ | ⟨_,hq⟩
      ·obtain ⟨v,r1,r2⟩:=q4 x y _ hx hj
       refine ⟨v,r1,?_⟩
       show my S w (.dI lN n2 e2 f2 F) v
       have r2:bG μ h w sub g2 0 n2 v:=r2
       unfold bG at r2
       rw [hs] at r2
       obtain ⟨_,_,r3⟩:=r2
       obtain ⟨_,r4⟩:=r3 rfl
       obtain ⟨s1,s2⟩:=hc.heap sub _ _ _ _ _ hs
       cases hms:μ sub with
       | none=>
        rw [hms] at r4 s2
        have s2:n2=0:=s2
        have r4:v=.slice none 0 0:=r4
        subst s2 r4
        refine .nil _ _ _ _ (λb hb=>?_)
        rw [<-hFF] at hb
        rcases hb with ⟨_,_,_,_,_,_,_,t2⟩ | ⟨x',y',t1,t2,t3,t4,t5,t6,t7,t8,t9,t10,u1,u2,u3,u4⟩
        ·rw [hms] at t2;cases t2
        ·rw [hs] at u1
         injection u1 with u1
         injection u1 with _ _ u1 _ _
         omega
       | some p=>
        obtain ⟨b,base⟩:=p
        rw [hms] at r4 s2
        obtain ⟨a,cap,rfl,t2,t3,t4⟩:=r4
        obtain ⟨cur,u1,u2,u3⟩:=de.cells t4 s2
        have ic:base+cap*lN<=cur.size:=by
         obtain ⟨BI,e',z',p1,p2⟩:=t4
         rw [u1] at p1
         injection p1 with p1
         injection p1 with p1 _ _
         subst p1
         rw [aKc] at p2
         exact p2
        have vis:GJ μ h b:=⟨sub,_,_,_,_,_,_,hs,hms⟩
        have am7:∀(x y s5 n5:Nat) (e5:TypeId) (f5:Nat->List PV) (F5:Nat->Prop),x<n2->(f2 x)[y]? =some (.dI s5 n5 e5 f5 F5)->∀b',F5 b'->eA h sub x y b':=λx y s5 n5 e5 f5 F5 hx hy b' sd=>⟨_,_,_,_,_,_,_,_,_,_,hs,hx,hy,sd⟩
        refine .Mi lN n2 e2 f2 F b base cap a cur (λx y=>(cur[base+x*lN+y]?).getD undef) (by rw [<-hFF];exact .inl ⟨_,_,_,_,_,_,hs,hms⟩) u1 s1 t2 (λh0=>by rw [t3 h0];simp) ic (λx y pv hx hy=>?_) (λx y pv hx hy=>?_) (λx y s5 n5 e5 f5 F5 hx hy=>?_) (λx y s5 n5 e5 f5 F5 hx hy b' sd=>?_) (λx y s5 n5 e5 f5 F5 x' y' s6 n6 e6 f6 F6 hx hy uT hy' b' sd BR=>?_)
        ·obtain ⟨u,w1,_⟩:=u3 x y pv hx hy
         rw [w1];rfl
        ·obtain ⟨u,w1,w2⟩:=u3 x y pv hx hy
         rw [w1]
         rcases hpu x hx pv (aKl hy) with z1 | z1
         ·exact .inl (Az z1 w2.c)
         ·exact .inr (by cases pv<;>first | exact ⟨_,_,_,_,_,rfl⟩ | cases z1)
        ·obtain ⟨u,w1,w2⟩:=u3 x y _ hx hy
         rw [w1]
         exact w2
        ·have hq:=am7 x y s5 n5 e5 f5 F5 hx hy b' sd
         refine ⟨by rw [<-hFF];exact .inr ⟨_,_,hq⟩,?_⟩
         rintro rfl
         exact hc.ok.hv b' vis _ _ _ hq
        ·exact (hc.ok.hh b' _ _ _ _ _ _ (am7 x y s5 n5 e5 f5 F5 hx hy b' sd) (am7 x' y' s6 n6 e6 f6 F6 uT hy' b' BR)).2
      ·obtain ⟨u,r1,r2⟩:=q4 x y pv hx hq
       exact ⟨u,r1,r2.fr lu hc.ok (λ_ _ _ _ _ _ _ _=>rfl)⟩
     | map es c=>
      obtain ⟨kp,vp,en,y1,y2,y3,_⟩:=q2.2 i hi
      rw [y1] at hj
      match j,hj with
      | 0,hj=>simp at hj;rw [hj] at y2;cases y2
      | 1,hj=>simp at hj;rw [hj] at y3;cases y3
      | y+2,hj=>simp at hj
     | _=>exact q2.elim
  ·obtain ⟨q1,q2⟩:=hc.heap k _ _ _ _ _ h4
   refine ⟨q1,?_⟩
   cases hm:μ k with
   | none=>rw [hm] at q2;exact q2
   | some pp=>
    obtain ⟨b,base⟩:=pp
    rw [hm] at q2
    obtain ⟨o,r1,r2⟩:=q2
    exact ⟨o,r1,r2.mono (λ_ _ _ _ _ _ hr=>hr.fr lu hc.ok (λ_ _ _ _ _ _ _ _=>rfl))⟩
 ·intro a b ga sa na ea fa gb sb nb eb fb Mi o o' ha hb hma nI
  have Uf:∀k gk sk nk ek fk,h1[k]? =some (al.row gk sk nk ek fk)->∃gk sk nk ek fk,h[k]? =some (al.row gk sk nk ek fk):=λk gk sk nk ek fk hk=>by
   rcases (inv k _ _ _ _ _ hk).2 with ⟨rfl,_⟩ | ⟨_,q⟩
   ·exact ⟨_,_,_,_,_,hh⟩
   ·exact ⟨_,_,_,_,_,q⟩
  obtain ⟨_,_,_,_,_,q1⟩:=Uf a _ _ _ _ _ ha
  obtain ⟨_,_,_,_,_,q2⟩:=Uf b _ _ _ _ _ hb
  exact hc.ok.inj a b _ _ _ _ _ _ _ _ _ _ _ _ _ q1 q2 hma nI
 ·obtain ⟨k0,_,_,_,_,_,_,q0,q1,q2⟩:=D8 b hb
  rcases eU k x y b hx with ⟨_,_,_,q⟩ | ⟨_,_,q⟩
  ·rw [<-hFF] at q
   rcases q with ⟨_,_,_,_,_,_,r1,r2⟩ | ⟨_,_,r⟩
   ·exact q0 (hc.ok.inj k0 sub _ _ _ _ _ _ _ _ _ _ _ _ _ q1 r1 q2 r2)
   ·exact hc.ok.hv b ⟨k0,_,_,_,_,_,_,q1,q2⟩ _ _ _ r
  ·exact hc.ok.hv b ⟨k0,_,_,_,_,_,_,q1,q2⟩ _ _ _ q
 ·rcases eU k x y b hx with ⟨rfl,rfl,rfl,q⟩ | ⟨k1,_,q⟩
  ·rcases eU k' x' y' b uT with ⟨rfl,rfl,rfl,_⟩ | ⟨k2,_,r⟩
   ·exact ⟨rfl,rfl,rfl⟩
   ·exact absurd q (ahu _ _ _ _ k2 r)
  ·rcases eU k' x' y' b uT with ⟨rfl,rfl,rfl,r⟩ | ⟨k2,_,r⟩
   ·exact absurd r (ahu _ _ _ _ k1 q)
   ·exact hc.ok.hh b _ _ _ _ _ _ q r
variable {C:Start} {env:Env} {a:Act}
theorem pg.turn (hs:pg C μ h S env a w) {μ':Mu} (hf:Fr μ h S w μ' h1 S w) (hc:Core μ' h1 S w):pg C μ' h1 S env a w:=
 ⟨hc,hs.fr.trans hf,λt=>(hs.tmps t).fr hf hs.core.ok,hs.size,hs.far,hs.defers⟩
theorem pg.ex (hs:pg C μ h S env a w) (hx:LQ h h1):∃μ',pg C μ' h1 S env a w:=by
 obtain ⟨μ',hf,hc⟩:=RA hs.core hx
 exact ⟨μ',hs.turn hf hc⟩
theorem pg.ab (hs:pg C μ h S env a w) {id i j sub:Nat} {h1:(Nat->Prop)->List al} (ha:∀F,Bm h id i j sub F (h1 F)):∃F,pg C μ (h1 F) S env a w:=by
 obtain ⟨hf,hc⟩:=HM hs.core (ha (FAb μ h sub))
 exact ⟨_,hs.turn hf hc⟩
end
end Go.Am
