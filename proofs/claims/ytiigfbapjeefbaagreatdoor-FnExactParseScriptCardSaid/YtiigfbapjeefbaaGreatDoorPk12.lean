/- Texts of the proof, joined and shortened. -/
import Derived.Test.YtiigfbapjeefbaaGreatDoorPk11
set_option linter.unusedVariables false
set_option linter.unusedSimpArgs false
namespace Go.Am
open Go Go.RowKit Go.Proofs
section
variable {ts:List ah} {e e':Int}
theorem lH {i:Nat} (h:i<ts.length):¬(pS ts e (.g i)).fI>=((pS ts e (.g i)).fT.length:Int):=λhh=>by
 have hh:(i:Int)>=(ts.length:Int):=hh
 omega
theorem zm {i:Nat} {w:aD} (h:tw ts i w=true) (h1:(w==([116,114,117,101]:aD))=false) (h2:(w==([102,97,108,115,101]:aD))=false) (h3:(w==([110,117,108,108]:aD))=false):jR ts i=false:=by
 obtain ⟨k4,k5,k2,_⟩:=lh h
 unfold jR
 rw [beq_eq_false_iff_ne.2 k4,beq_eq_false_iff_ne.2 k5,ay h h1,ay h h2,ay h h3];rfl
theorem aH5 {i:Nat} {k:Int} (hk:kd ts i≠k):wZ ts k i=false:=by unfold wZ;rw [beq_eq_false_iff_ne.2 hk];rfl
theorem TH (H:Tk ts e) {i:Nat} (hi:i<=ts.length) (IH:∀s,Lt ts i s->PC ts e e' s) (hw:tw ts i [110,117,108,108]=true):C1 ts e e' true 0 (.g i) aJ aH:=by
 have hs:(JS.g i).Ok ts:=hi
 have bc:=bU hw
 obtain ⟨k4,k5,k2,_⟩:=lh hw
 refine ⟨.g (i+1),.mk 3 0 [] [],.mk 3 0 [] [],?_,?_,Rs.leaf aNd bc aNf aNK⟩
 ·rw [aJ]
  refine bQ (lH bc) ?_
  refine (dP (ig bc)).trans ?_
  refine bQ k4 ?_
  refine bQ k5 ?_
  refine bQ k2 ?_
  refine du (cg H hw) ?_
  rfl
 ·rw [aH]
  refine (dP (bP H _ hs)).trans ?_
  refine bQ qg ?_
  refine aW (tW H hi) ?_
  refine mN (show jR ts i=true by unfold jR;simp [hw]) ?_
  refine (dP (a:=(ae.mk 3 0 [] [],qS ts e' (.g (i+1)))) ?_).trans rfl
  unfold bJ
  rw [dc]
  refine (dP (bP H _ hs)).trans ?_
  refine bQ k4 ?_
  refine bQ k5 ?_
  refine du (bE H hw) ?_
  rfl
theorem Pq (H:Tk ts e) {i:Nat} (hi:i<=ts.length) (IH:∀s,Lt ts i s->PC ts e e' s) (hw:tw ts i [102,97,108,115,101]=true):C1 ts e e' true 0 (.g i) aJ aH:=by
 have hs:(JS.g i).Ok ts:=hi
 have bc:=bU hw
 obtain ⟨k4,k5,k2,_⟩:=lh hw
 refine ⟨.g (i+1),.mk 3 1 [] [],.mk 3 1 [] [],?_,?_,Rs.leaf aNd bc aNf aNK⟩
 ·rw [aJ]
  refine bQ (lH bc) ?_
  refine (dP (ig bc)).trans ?_
  refine bQ k4 ?_
  refine bQ k5 ?_
  refine bQ k2 ?_
  refine aF (ax H hs (w:=[110,117,108,108]) (ay hw aNd)) ?_
  refine du (cg H hw) ?_
  rfl
 ·rw [aH]
  refine (dP (bP H _ hs)).trans ?_
  refine bQ qg ?_
  refine aW (tW H hi) ?_
  refine mN (show jR ts i=true by unfold jR;simp [hw]) ?_
  refine (dP (a:=(ae.mk 3 1 [] [],qS ts e' (.g (i+1)))) ?_).trans rfl
  unfold bJ
  rw [dc]
  refine (dP (bP H _ hs)).trans ?_
  refine bQ k4 ?_
  refine bQ k5 ?_
  refine aF (ar H hs (w:=[110,117,108,108]) (ay hw aNd)) ?_
  refine du (bE H hw) ?_
  rfl
theorem TJ (H:Tk ts e) {i:Nat} (hi:i<=ts.length) (IH:∀s,Lt ts i s->PC ts e e' s) (hw:tw ts i [116,114,117,101]=true):C1 ts e e' true 0 (.g i) aJ aH:=by
 have hs:(JS.g i).Ok ts:=hi
 have bc:=bU hw
 obtain ⟨k4,k5,k2,_⟩:=lh hw
 refine ⟨.g (i+1),.mk 3 2 [] [],.mk 3 2 [] [],?_,?_,Rs.leaf aNd bc aNf aNK⟩
 ·rw [aJ]
  refine bQ (lH bc) ?_
  refine (dP (ig bc)).trans ?_
  refine bQ k4 ?_
  refine bQ k5 ?_
  refine bQ k2 ?_
  refine aF (ax H hs (w:=[110,117,108,108]) (ay hw aNd)) ?_
  refine aF (ax H hs (w:=[102,97,108,115,101]) (ay hw aNd)) ?_
  refine du (cg H hw) ?_
  rfl
 ·rw [aH]
  refine (dP (bP H _ hs)).trans ?_
  refine bQ qg ?_
  refine aW (tW H hi) ?_
  refine mN (show jR ts i=true by unfold jR;simp [hw]) ?_
  refine (dP (a:=(ae.mk 3 2 [] [],qS ts e' (.g (i+1)))) ?_).trans rfl
  unfold bJ
  rw [dc]
  refine (dP (bP H _ hs)).trans ?_
  refine bQ k4 ?_
  refine bQ k5 ?_
  refine aF (ar H hs (w:=[110,117,108,108]) (ay hw aNd)) ?_
  refine aF (ar H hs (w:=[102,97,108,115,101]) (ay hw aNd)) ?_
  refine du (bE H hw) ?_
  rfl
theorem TK (H:Tk ts e) {i:Nat} (hi:i<=ts.length) (IH:∀s,Lt ts i s->PC ts e e' s) (hw:tw ts i [91]=true):C1 ts e e' true 0 (.g i) aJ aH:=by
 have hs:(JS.g i).Ok ts:=hi
 have bc:=bU hw
 obtain ⟨k4,k5,k2,_⟩:=lh hw
 obtain ⟨s',n,m,h1,h2,h3⟩:=(IH _ (Lt.g (aKe i) bc)).list
 refine ⟨s',n,m,?_,?_,h3.up (aKe i)⟩
 ·rw [aJ]
  refine bQ (lH bc) ?_
  refine (dP (ig bc)).trans ?_
  refine bQ k4 ?_
  refine bQ k5 ?_
  refine bQ k2 ?_
  refine aF (ax H hs (w:=[110,117,108,108]) (ay hw aNd)) ?_
  refine aF (ax H hs (w:=[102,97,108,115,101]) (ay hw aNd)) ?_
  refine aF (ax H hs (w:=[116,114,117,101]) (ay hw aNd)) ?_
  refine du (cg H hw) ?_
  refine aW h1 ?_
  rfl
 ·rw [aH]
  refine (dP (bP H _ hs)).trans ?_
  refine bQ qg ?_
  refine aW (tW H hi) ?_
  refine bQ (show ¬jR ts i=true by rw [zm hw aNd aNd aNd];exact are) ?_
  refine bQ k2 ?_
  refine du (bE H hw) ?_
  refine aW h2 ?_
  rfl
theorem abx (H:Tk ts e) {i:Nat} (hi:i<=ts.length) (IH:∀s,Lt ts i s->PC ts e e' s) (hw:tw ts i [40]=true):C1 ts e e' true 0 (.g i) aJ aH:=by
 have hs:(JS.g i).Ok ts:=hi
 have bc:=bU hw
 obtain ⟨k4,k5,k2,_⟩:=lh hw
 obtain ⟨s',n,m,h1,h2,h3⟩:=(IH _ (Lt.g (aKe i) bc)).expr
 refine ⟨wS ts s' [41],n,m,?_,?_,h3.want (aKe i) [41]⟩
 ·rw [aJ]
  refine bQ (lH bc) ?_
  refine (dP (ig bc)).trans ?_
  refine bQ k4 ?_
  refine bQ k5 ?_
  refine bQ k2 ?_
  refine aF (ax H hs (w:=[110,117,108,108]) (ay hw aNd)) ?_
  refine aF (ax H hs (w:=[102,97,108,115,101]) (ay hw aNd)) ?_
  refine aF (ax H hs (w:=[116,114,117,101]) (ay hw aNd)) ?_
  refine aF (ax H hs (w:=[91]) (ay hw aNd)) ?_
  refine du (cg H hw) ?_
  refine aW h1 ?_
  refine aW (dN H _ h3.ok [41]) ?_
  rfl
 ·rw [aH]
  refine (dP (bP H _ hs)).trans ?_
  refine bQ qg ?_
  refine aW (tW H hi) ?_
  refine bQ (show ¬jR ts i=true by rw [zm hw aNd aNd aNd];exact are) ?_
  refine bQ k2 ?_
  refine aF (ar H hs (w:=[91]) (ay hw aNd)) ?_
  refine du (bE H hw) ?_
  refine aW h2 ?_
  refine aW (eM H _ h3.ok [41]) ?_
  rfl
theorem aby (H:Tk ts e) {i:Nat} (hi:i<=ts.length) (IH:∀s,Lt ts i s->PC ts e e' s) (hw:tw ts i [110,101,119]=true):C1 ts e e' true 0 (.g i) aJ aH:=by
 have hs:(JS.g i).Ok ts:=hi
 have bc:=bU hw
 obtain ⟨k4,k5,k2,_⟩:=lh hw
 have ed:(JS.g (i+1)).Ok ts:=bc
 rcases IF (ts:=ts) (.g (i+1)) [115,116,97,116,105,99] with Ag | ⟨i1,h0,Ag⟩
 ·have hL:=Lt.n (c:=3) ed (i:=i+1) (As _) aNd
  obtain ⟨s2,l,m,h1,h2,h3⟩:=(IH (nS ts (.g (i+1)) 3) ⟨hL.ok,hL.nd,λk hk=>by have:=hL.lt k hk;omega⟩).args [] aNf
  have hx:=iK H (.g (i+1)) 3
  refine ⟨s2,.mk 22 0 (nT ts (.g (i+1)) 3) l,.mk 22 0 (nT ts (.g (i+1)) 3) m,?_,?_,Rs.node aNd h3.ok h3.nd ?_ ?_⟩
  ·rw [aJ]
   refine bQ (lH bc) ?_
   refine (dP (ig bc)).trans ?_
   refine bQ k4 ?_
   refine bQ k5 ?_
   refine bQ k2 ?_
   refine aF (ax H hs (w:=[110,117,108,108]) (ay hw aNd)) ?_
   refine aF (ax H hs (w:=[102,97,108,115,101]) (ay hw aNd)) ?_
   refine aF (ax H hs (w:=[116,114,117,101]) (ay hw aNd)) ?_
   refine aF (ax H hs (w:=[91]) (ay hw aNd)) ?_
   refine aF (ax H hs (w:=[40]) (ay hw aNd)) ?_
   refine du (cg H hw) ?_
   refine aF (ax H ed Ag) ?_
   refine aW (nW H _ ed 3) ?_
   refine aW h1 ?_
   rfl
  ·rw [aH]
   refine (dP (bP H _ hs)).trans ?_
   refine bQ qg ?_
   refine aW (tW H hi) ?_
   refine bQ (show ¬jR ts i=true by rw [zm hw aNd aNd aNd];exact are) ?_
   refine bQ k2 ?_
   refine aF (ar H hs (w:=[91]) (ay hw aNd)) ?_
   refine aF (ar H hs (w:=[40]) (ay hw aNd)) ?_
   refine du (bE H hw) ?_
   refine (dP (a:=(nT ts (.g (i+1)) 3,qS ts e' (nS ts (.g (i+1)) 3))) ?_).trans ?_
   ·unfold cE
    refine aF (ar H ed Ag) ?_
    refine aW (nC H _ ed rfl 3 (.inr rfl)) ?_
    rfl
   refine aW h2 ?_
   rfl
  ·have:=h3.le;have q:=@lM ts (.g (i+1)) 3
   have q:i+1<=(nS ts (.g (i+1)) 3).pos:=q
   omega
  ·intro i' rT
   obtain ⟨k,q1,q2,q3,q4⟩:=h3.good i' rT
   obtain ⟨k1,q5,q6,_⟩:=lj q1
   cases q5
   refine ⟨by omega,rfl,q3,?_⟩
   rw [aKk] at q3
   rw [q3]
   omega
 ·cases h0
  have Aq:=bU Ag
  obtain ⟨s2,l,m,h1,h2,h3⟩:=(IH (.g (i+1+1)) (Lt.g aNc Aq)).args [] aNf
  refine ⟨s2,.mk 22 0 [115,116,97,116,105,99] l,.mk 22 0 [115,116,97,116,105,99] m,?_,?_,Rs.node aNd h3.ok h3.nd ?_ ?_⟩
  ·rw [aJ]
   refine bQ (lH bc) ?_
   refine (dP (ig bc)).trans ?_
   refine bQ k4 ?_
   refine bQ k5 ?_
   refine bQ k2 ?_
   refine aF (ax H hs (w:=[110,117,108,108]) (ay hw aNd)) ?_
   refine aF (ax H hs (w:=[102,97,108,115,101]) (ay hw aNd)) ?_
   refine aF (ax H hs (w:=[116,114,117,101]) (ay hw aNd)) ?_
   refine aF (ax H hs (w:=[91]) (ay hw aNd)) ?_
   refine aF (ax H hs (w:=[40]) (ay hw aNd)) ?_
   refine du (cg H hw) ?_
   refine du (cg H Ag) ?_
   refine aW h1 ?_
   rfl
  ·rw [aH]
   refine (dP (bP H _ hs)).trans ?_
   refine bQ qg ?_
   refine aW (tW H hi) ?_
   refine bQ (show ¬jR ts i=true by rw [zm hw aNd aNd aNd];exact are) ?_
   refine bQ k2 ?_
   refine aF (ar H hs (w:=[91]) (ay hw aNd)) ?_
   refine aF (ar H hs (w:=[40]) (ay hw aNd)) ?_
   refine du (bE H hw) ?_
   refine (dP (a:=(([115,116,97,116,105,99]:aD),qS ts e' (.g (i+1+1)))) ?_).trans ?_
   ·unfold cE
    refine du (bE H Ag) ?_
    rfl
   refine aW h2 ?_
   rfl
  ·have:=h3.le
   have:i+1+1<=s2.pos:=this
   omega
  ·intro i' rT
   obtain ⟨k,q1,q2,q3,q4⟩:=h3.good i' rT
   cases q1
   refine ⟨by omega,rfl,q3,?_⟩
   rw [aKk] at q3
   rw [q3]
   simp only [an,mg]
   omega
theorem abz (H:Tk ts e) {i:Nat} (hi:i<=ts.length) (IH:∀s,Lt ts i s->PC ts e e' s) (hw:tw ts i [102,117,110,99,116,105,111,110]=true):C1 ts e e' true 0 (.g i) aJ aH:=by
 have hs:(JS.g i).Ok ts:=hi
 have bc:=bU hw
 obtain ⟨k4,k5,k2,_⟩:=lh hw
 have hL:=H.len
 have ed:(JS.g (i+1)).Ok ts:=bc
 obtain ⟨s1,l,m,h1,h2,h3⟩:=Ar (e':=e') H 24 (.inl rfl) [] aNf (.g (i+1)) ed rfl (λh=>by cases h)
 have hlen:=h3.len
 have aJW:=h3.lem
 have FR:=okp h3.ok
 have ae8:i+1<=s1.pos:=h3.le
 have hpm:ee (qS ts e' (.g (i+1)))=some (m,qS ts e' s1):=by unfold ee;rw [h2,sb]
 simp only [mg] at hlen
 have l1:Lt ts i s1:=Lt.r h3 (λk hk=>by cases hk;omega)
 rcases IF (ts:=ts) s1 [117,115,101] with hu | ⟨i1,rfl,hu⟩
 ·obtain ⟨s2,n,n2,g1,g2,g3⟩:=(IH s1 l1).block
  have l2:=Lt.rs (i:=i) g3 (λk hk=>aKC (l1.lt k hk))
  refine ⟨s2,.mk 23 0 [] (l++[n]),.mk 23 0 [] (m++[n2]),?_,?_,Rs.node aNd g3.ok l2.nd ?_ ?_⟩
  ·rw [aJ]
   refine bQ (lH bc) ?_
   refine (dP (ig bc)).trans ?_
   refine bQ k4 ?_
   refine bQ k5 ?_
   refine bQ k2 ?_
   refine aF (ax H hs (w:=[110,117,108,108]) (ay hw aNd)) ?_
   refine aF (ax H hs (w:=[102,97,108,115,101]) (ay hw aNd)) ?_
   refine aF (ax H hs (w:=[116,114,117,101]) (ay hw aNd)) ?_
   refine aF (ax H hs (w:=[91]) (ay hw aNd)) ?_
   refine aF (ax H hs (w:=[40]) (ay hw aNd)) ?_
   refine aF (ax H hs (w:=[110,101,119]) (ay hw aNd)) ?_
   refine du (cg H hw) ?_
   refine aW h1 ?_
   refine aF (ax H h3.ok hu) ?_
   refine aW g1 ?_
   refine aW (eY _ aNc) ?_
   rfl
  ·rw [aH]
   refine (dP (bP H _ hs)).trans ?_
   refine bQ qg ?_
   refine aW (tW H hi) ?_
   refine bQ (show ¬jR ts i=true by rw [zm hw aNd aNd aNd];exact are) ?_
   refine bQ k2 ?_
   refine aF (ar H hs (w:=[91]) (ay hw aNd)) ?_
   refine aF (ar H hs (w:=[40]) (ay hw aNd)) ?_
   refine aF (ar H hs (w:=[110,101,119]) (ay hw aNd)) ?_
   refine du (bE H hw) ?_
   refine aW hpm ?_
   refine aF (ar H h3.ok hu) ?_
   refine aW g2 ?_
   refine aW (eY _ aNc) ?_
   rfl
  ·have:=g3.le;omega
  ·intro i' rT
   obtain ⟨k,q1,q2,q3,q4,_⟩:=g3.good i' rT
   obtain ⟨k1,q5,q6,q7,q8⟩:=h3.good k q1
   cases q5
   rw [aKk] at q7
   subst q7;subst q3
   refine ⟨by omega,rfl,rfl,?_⟩
   rw [gU,cG]
   simp only [mg]
   omega
 ·have Aq:=bU hu
  have nJ:(JS.g (i1+1)).Ok ts:=Aq
  have Tl:i+1<=i1:=ae8
  have step1:au (qS ts e' (.g i1)) [117,115,101]=some (true,qS ts e' (.g (i1+1))):=bE H hu
  cases hb:(tw ts (i1+1) [40]&&tw ts (i1+1+1) [41]) with
  | true=>
   rw [At] at hb
   obtain ⟨l',g1,g2⟩:=ae9 H hb.1 hb.2 l aNc
   have uV:=bU hb.2
   have x7:(JS.b (i1+1+1)).Ok ts:=aKC uV
   obtain ⟨n,g3⟩:=Rn H x7
   refine ⟨.b (i1+1+1),.mk 23 0 [] (l'++[n]),.mk 23 0 [] m,?_,?_,Rs.node aNd x7 rfl (by show i<=i1+1+1;omega) (λi' h=>by cases h)⟩
   ·rw [aJ]
    refine bQ (lH bc) ?_
    refine (dP (ig bc)).trans ?_
    refine bQ k4 ?_
    refine bQ k5 ?_
    refine bQ k2 ?_
    refine aF (ax H hs (w:=[110,117,108,108]) (ay hw aNd)) ?_
    refine aF (ax H hs (w:=[102,97,108,115,101]) (ay hw aNd)) ?_
    refine aF (ax H hs (w:=[116,114,117,101]) (ay hw aNd)) ?_
    refine aF (ax H hs (w:=[91]) (ay hw aNd)) ?_
    refine aF (ax H hs (w:=[40]) (ay hw aNd)) ?_
    refine aF (ax H hs (w:=[110,101,119]) (ay hw aNd)) ?_
    refine du (cg H hw) ?_
    refine aW h1 ?_
    refine du (cg H hu) ?_
    refine aW g1 ?_
    refine aW g3 ?_
    refine aW (eY _ aNc) ?_
    rfl
   ·rw [aH]
    refine (dP (bP H _ hs)).trans ?_
    refine bQ qg ?_
    refine aW (tW H hi) ?_
    refine bQ (show ¬jR ts i=true by rw [zm hw aNd aNd aNd];exact are) ?_
    refine bQ k2 ?_
    refine aF (ar H hs (w:=[91]) (ay hw aNd)) ?_
    refine aF (ar H hs (w:=[40]) (ay hw aNd)) ?_
    refine aF (ar H hs (w:=[110,101,119]) (ay hw aNd)) ?_
    refine du (bE H hw) ?_
    refine aW hpm ?_
    refine du step1 ?_
    refine (dP (a:=((qS ts e' (.g (i1+1))).ao,(qS ts e' (.g (i1+1))).bx,(qS ts e' (.g (i1+1))).aw,(qS ts e' (.g (i1+1))).av,true)) ?_).trans ?_
    ·refine du ((eZ (e':=e') H (.g (i1+1)) nJ [40]).trans (by rw [show tw ts (JS.g (i1+1)).pos [40]=true from hb.1])) ?_
     refine aW ((afa (e':=e') H (.g (i1+1)) nJ [41]).trans (by rw [show tw ts ((JS.g (i1+1)).pos+1) [41]=true from hb.2])) ?_
     rfl
    refine mN rfl ?_
    have:ak.mk (qS ts e' (.g (i1+1))).ao (bm ((qS ts e' (.g (i1+1))).bx+1)) (qS ts e' (.g (i1+1))).aw true=qS ts e' (.b (i1+1+1)):=by
     show ak.mk ts (bm (((i1+1:Nat):Int)+1)) e' true=_
     rw [bN aNc];rfl
    rw [this]
  | false=>
   have hnb:tw ts (i1+1) [40]=true->tw ts (i1+1+1) [41]=false:=λh=>by rw [h,aLc] at hb;exact hb
   obtain ⟨s3,l2,m2,g1,g2,g3⟩:=Ar (e':=e') H 25 (.inr rfl) l aNc (.g (i1+1)) nJ rfl (λ_ k hk=>by cases hk;exact hnb)
   have l3:Lt ts i s3:=Lt.r g3 (λk hk=>by cases hk;omega)
   obtain ⟨s4,n,n2,f1,f2,f3⟩:=(IH s3 l3).block
   have l4:=Lt.rs (i:=i) f3 (λk hk=>aKC (l3.lt k hk))
   have hp3:=okp g3.ok
   have aH6:i1+1<=s3.pos:=g3.le
   have aIX:=g3.len
   have aIY:=g3.lem
   refine ⟨s4,.mk 23 0 [] (l2++[n]),.mk 23 0 [] (m++m2++[n2]),?_,?_,Rs.node aNd f3.ok l4.nd ?_ ?_⟩
   ·rw [aJ]
    refine bQ (lH bc) ?_
    refine (dP (ig bc)).trans ?_
    refine bQ k4 ?_
    refine bQ k5 ?_
    refine bQ k2 ?_
    refine aF (ax H hs (w:=[110,117,108,108]) (ay hw aNd)) ?_
    refine aF (ax H hs (w:=[102,97,108,115,101]) (ay hw aNd)) ?_
    refine aF (ax H hs (w:=[116,114,117,101]) (ay hw aNd)) ?_
    refine aF (ax H hs (w:=[91]) (ay hw aNd)) ?_
    refine aF (ax H hs (w:=[40]) (ay hw aNd)) ?_
    refine aF (ax H hs (w:=[110,101,119]) (ay hw aNd)) ?_
    refine du (cg H hw) ?_
    refine aW h1 ?_
    refine du (cg H hu) ?_
    refine aW g1 ?_
    refine aW f1 ?_
    refine aW (eY _ aNc) ?_
    rfl
   ·rw [aH]
    refine (dP (bP H _ hs)).trans ?_
    refine bQ qg ?_
    refine aW (tW H hi) ?_
    refine bQ (show ¬jR ts i=true by rw [zm hw aNd aNd aNd];exact are) ?_
    refine bQ k2 ?_
    refine aF (ar H hs (w:=[91]) (ay hw aNd)) ?_
    refine aF (ar H hs (w:=[40]) (ay hw aNd)) ?_
    refine aF (ar H hs (w:=[110,101,119]) (ay hw aNd)) ?_
    refine du (bE H hw) ?_
    refine aW hpm ?_
    refine du step1 ?_
    refine (dP (a:=((qS ts e' (.g (i1+1))).ao,(qS ts e' (.g (i1+1))).bx,(qS ts e' (.g (i1+1))).aw,(qS ts e' (.g (i1+1))).av,false)) ?_).trans ?_
    ·cases BX:tw ts (i1+1) [40] with
     | false=>
      refine aF ((eZ (e':=e') H (.g (i1+1)) nJ [40]).trans (by rw [show tw ts (JS.g (i1+1)).pos [40]=false from BX])) ?_
      rfl
     | true=>
      refine du ((eZ (e':=e') H (.g (i1+1)) nJ [40]).trans (by rw [show tw ts (JS.g (i1+1)).pos [40]=true from BX])) ?_
      refine aW ((afa (e':=e') H (.g (i1+1)) nJ [41]).trans (by rw [show tw ts ((JS.g (i1+1)).pos+1) [41]=false from hnb BX])) ?_
      rfl
    refine bQ are ?_
    refine aW g2 ?_
    refine aW (jX (b:=56) (l:=m) (m:=m2) aNc) ?_
    refine aW f2 ?_
    refine aW (eY _ (by rw [abL];omega)) ?_
    rfl
   ·have:=f3.le;omega
   ·intro i' rT
    obtain ⟨k,q1,q2,q3,q4,_⟩:=f3.good i' rT
    obtain ⟨k1,q5,q6,q7,q8⟩:=g3.good k q1
    cases q5
    obtain ⟨k2,q9,q10,q11,q12⟩:=h3.good i1 rfl
    cases q9
    rw [aKk] at q11
    subst q11;subst q3;subst q7
    refine ⟨by omega,rfl,rfl,?_⟩
    rw [gU,gU,cG]
    simp only [mg]
    omega
end
set_option maxRecDepth 10000
section
variable {ts:List ah} {e e':Int}
theorem GM (H:Tk ts e) {i:Nat} (IH:∀s,Lt ts i s->PC ts e e' s) (s0:JS) (hs:s0.Ok ts) (hd:s0.nd=true) (hl:i<=s0.pos):
  ∃s' l m,dU (pS ts e (nS ts (wS ts s0 [58,58]) 3)) []=some (l,pS ts e s')/\cV (qS ts e' (nS ts (wS ts s0 [58,58]) 3))=some (m,qS ts e' s')/\s'.Ok ts/\s'.nd=true/\i<=s'.pos/\
   ∀i',s'=.g i'->∃i0,s0=.g i0/\i0+2<i'/\l=m/\(wl l:Int)+16384*(i0:Int)+32768<=16384*(i':Int):=by
 have h1:=jU hs [58,58]
 have p1:=fL (ts:=ts) s0 [58,58]
 have p2:=lM (ts:=ts) (wS ts s0 [58,58]) 3
 have hL:=Lt.n (ts:=ts) (c:=3) (i:=i) h1 aNc aNd
 obtain ⟨s',l,m,g1,g2,g3⟩:=(IH _ hL).args [] aNf
 refine ⟨s',l,m,g1,g2,g3.ok,g3.nd,by have:=g3.le;omega,λi' rT=>?_⟩
 obtain ⟨k,q1,q2,q3,q4⟩:=g3.good i' rT
 obtain ⟨k1,q5,q7,_⟩:=lj q1
 obtain ⟨k2,q6,q8,_⟩:=eV q5
 rw [aKk] at q3
 subst q3
 exact ⟨k2,q6,by omega,rfl,by omega⟩
theorem LY (H:Tk ts e) {i:Nat} (hi:i<=ts.length) (IH:∀s,Lt ts i s->PC ts e e' s) (hw:tw ts i [115,116,97,116,105,99]=true):C1 ts e e' true 0 (.g i) aJ aH:=by
 have hs:(JS.g i).Ok ts:=hi
 have bc:=bU hw
 obtain ⟨k4,k5,k2,_⟩:=lh hw
 have ed:(JS.g (i+1)).Ok ts:=bc
 obtain ⟨s',l,m,g1,g2,g3,g4,g5,g6⟩:=GM H IH (.g (i+1)) ed rfl (aKQ i)
 refine ⟨s',.mk 21 0 ([115,116,97,116,105,99]++[58,58]++nT ts (wS ts (.g (i+1)) [58,58]) 3) l,.mk 21 0 ([115,116,97,116,105,99]++[58,58]++nT ts (wS ts (.g (i+1)) [58,58]) 3) m,?_,?_,Rs.node aNd g3 g4 ?_ ?_⟩
 ·rw [aJ]
  refine bQ (lH bc) ?_
  refine (dP (ig bc)).trans ?_
  refine bQ k4 ?_
  refine bQ k5 ?_
  refine bQ k2 ?_
  refine aF (ax H hs (w:=[110,117,108,108]) (ay hw aNd)) ?_
  refine aF (ax H hs (w:=[102,97,108,115,101]) (ay hw aNd)) ?_
  refine aF (ax H hs (w:=[116,114,117,101]) (ay hw aNd)) ?_
  refine aF (ax H hs (w:=[91]) (ay hw aNd)) ?_
  refine aF (ax H hs (w:=[40]) (ay hw aNd)) ?_
  refine aF (ax H hs (w:=[110,101,119]) (ay hw aNd)) ?_
  refine aF (ax H hs (w:=[102,117,110,99,116,105,111,110]) (ay hw aNd)) ?_
  refine (dP (a:=(Sum.inl ((pS ts e (.g (i+1))).fT,(pS ts e (.g (i+1))).fI,(pS ts e (.g (i+1))).aw,(pS ts e (.g (i+1))).av,([115,116,97,116,105,99]:aD)):((List ah)×Int×Int×Int×aD) ⊕ (ae×aC))) ?_).trans ?_
  ·refine du (cg H hw) ?_
   rfl
  refine aW (dN H _ ed [58,58]) ?_
  refine aW (rz (a:=([115,116,97,116,105,99]:aD)) (b:=[58,58]) aNA) ?_
  refine aW (nW H _ (jU ed _) 3) ?_
  refine aW (rz aNw) ?_
  refine aW g1 ?_
  rfl
 ·rw [aH]
  refine (dP (bP H _ hs)).trans ?_
  refine bQ qg ?_
  refine aW (tW H hi) ?_
  refine bQ (show ¬jR ts i=true by rw [zm hw aNd aNd aNd];exact are) ?_
  refine bQ k2 ?_
  refine aF (ar H hs (w:=[91]) (ay hw aNd)) ?_
  refine aF (ar H hs (w:=[40]) (ay hw aNd)) ?_
  refine aF (ar H hs (w:=[110,101,119]) (ay hw aNd)) ?_
  refine aF (ar H hs (w:=[102,117,110,99,116,105,111,110]) (ay hw aNd)) ?_
  refine (dP (a:=(([115,116,97,116,105,99]:aD),qS ts e' (.g (i+1)))) ?_).trans ?_
  ·unfold cE
   refine du (bE H hw) ?_
   rfl
  refine (dP (a:=(Sum.inl ((qS ts e' (.g (i+1))).ao,(qS ts e' (.g (i+1))).bx,(qS ts e' (.g (i+1))).aw,(qS ts e' (.g (i+1))).av):((List ah)×Int×Int×Bool) ⊕ (ae×ak))) ?_).trans ?_
  ·refine mN rfl ?_
   rfl
  refine aW (eM H _ ed [58,58]) ?_
  refine aW (rz (a:=([115,116,97,116,105,99]:aD)) (b:=[58,58]) aNA) ?_
  refine aW (nC H _ (jU ed _) (me _ _) 3 (.inr rfl)) ?_
  refine aW (rz aNw) ?_
  refine aW g2 ?_
  rfl
 ·exact g5
 ·intro i' rT
  obtain ⟨i0,q1,q2,q3,q4⟩:=g6 i' rT
  cases q1
  refine ⟨by omega,rfl,q3,?_⟩
  have:=(show ([115,116,97,116,105,99]:aD).length<=4000 by decide)
  have:=iK H (wS ts (.g (i+1)) [58,58]) 3
  simp only [abL,an,mg]
  omega
theorem TL (H:Tk ts e) {i:Nat} (hi:i<=ts.length) (IH:∀s,Lt ts i s->PC ts e e' s) (k4:¬kd ts i=4) (k5:¬kd ts i=5) (k2:¬kd ts i=2) (f1:tw ts i [110,117,108,108]=false) (f2:tw ts i [102,97,108,115,101]=false) (f3:tw ts i [116,114,117,101]=false) (f4:tw ts i [91]=false) (f5:tw ts i [40]=false) (f6:tw ts i [110,101,119]=false) (f7:tw ts i [102,117,110,99,116,105,111,110]=false) (f8:tw ts i [115,116,97,116,105,99]=false):C1 ts e e' true 0 (.g i) aJ aH:=by
 have hs:(JS.g i).Ok ts:=hi
 have LZ:jR ts i=false:=by unfold jR;rw [beq_eq_false_iff_ne.2 k4,beq_eq_false_iff_ne.2 k5,f1,f2,f3];rfl
 cases hn:wZ ts 3 i with
 | true=>
  have bc:=Pr aNd hn
  have ed:(JS.g (i+1)).Ok ts:=bc
  have hx:=tX H i
  have hns:¬tx ts i=([115,116,97,116,105,99]:aD):=λhh=>by
   unfold wZ at hn
   rw [At,beq_iff_eq] at hn
   unfold tw at f8
   rw [hn.1,hh] at f8
   exact absurd f8 aNd
  have hcn:cE (qS ts e' (.g i))=some (tx ts i,qS ts e' (.g (i+1))):=by
   unfold cE
   refine aF (ar H hs f8) ?_
   refine aW ((nC H (.g i) hs rfl 3 (.inr rfl)).trans (by rw [Ps hn,Pt hn])) ?_
   rfl
  have hsn:cf (pS ts e (.g i)) 3=some (tx ts i,pS ts e (.g (i+1))):=by rw [nW H (.g i) hs 3,Ps hn,Pt hn]
  cases hp:tw ts (i+1) [40] with
  | true=>
   obtain ⟨s',l,m,g1,g2,g3⟩:=(IH (.g (i+1)) (Lt.g (aKe i) bc)).args [] aNf
   refine ⟨s',.mk 18 0 (tx ts i) l,.mk 18 0 (tx ts i) m,?_,?_,Rs.node aNd g3.ok g3.nd ?_ ?_⟩
   ·rw [aJ]
    refine bQ (lH bc) ?_
    refine (dP (ig bc)).trans ?_
    refine bQ k4 ?_
    refine bQ k5 ?_
    refine bQ k2 ?_
    refine aF (ax H hs (w:=[110,117,108,108]) f1) ?_
    refine aF (ax H hs (w:=[102,97,108,115,101]) f2) ?_
    refine aF (ax H hs (w:=[116,114,117,101]) f3) ?_
    refine aF (ax H hs (w:=[91]) f4) ?_
    refine aF (ax H hs (w:=[40]) f5) ?_
    refine aF (ax H hs (w:=[110,101,119]) f6) ?_
    refine aF (ax H hs (w:=[102,117,110,99,116,105,111,110]) f7) ?_
    refine (dP (a:=(Sum.inr (ae.mk 18 0 (tx ts i) l,pS ts e s'):((List ah)×Int×Int×Int×aD) ⊕ (ae×aC))) ?_).trans ?_
    ·refine aF (ax H hs f8) ?_
     refine aW hsn ?_
     refine du ((dG H _ ed 6 [40] aNd).trans (by rw [show aS ts (.g (i+1)) 0 6 [40]=true from (aM H aNd aNd).trans hp])) ?_
     refine aW g1 ?_
     rfl
    rfl
   ·rw [aH]
    refine (dP (bP H _ hs)).trans ?_
    refine bQ qg ?_
    refine aW (tW H hi) ?_
    refine bQ (show ¬jR ts i=true by rw [LZ];exact are) ?_
    refine bQ k2 ?_
    refine aF (ar H hs (w:=[91]) f4) ?_
    refine aF (ar H hs (w:=[40]) f5) ?_
    refine aF (ar H hs (w:=[110,101,119]) f6) ?_
    refine aF (ar H hs (w:=[102,117,110,99,116,105,111,110]) f7) ?_
    refine aW hcn ?_
    refine (dP (a:=(Sum.inr (ae.mk 18 0 (tx ts i) m,qS ts e' s'):((List ah)×Int×Int×Bool) ⊕ (ae×ak))) ?_).trans ?_
    ·refine bQ hns ?_
     refine du ((eZ (e':=e') H (.g (i+1)) ed [40]).trans (by rw [show tw ts (JS.g (i+1)).pos [40]=true from hp])) ?_
     refine aW g2 ?_
     rfl
    rfl
   ·have:=g3.le
    have:i+1<=s'.pos:=this
    omega
   ·intro i' rT
    obtain ⟨k,q1,q2,q3,q4⟩:=g3.good i' rT
    cases q1
    rw [aKk] at q3
    subst q3
    exact ⟨by omega,rfl,rfl,by omega⟩
  | false=>
   obtain ⟨s',l,m,g1,g2,g3,g4,g5,g6⟩:=GM H IH (.g (i+1)) ed rfl (aKQ i)
   refine ⟨s',.mk 21 0 (tx ts i++[58,58]++nT ts (wS ts (.g (i+1)) [58,58]) 3) l,.mk 21 0 (tx ts i++[58,58]++nT ts (wS ts (.g (i+1)) [58,58]) 3) m,?_,?_,Rs.node aNd g3 g4 ?_ ?_⟩
   ·rw [aJ]
    refine bQ (lH bc) ?_
    refine (dP (ig bc)).trans ?_
    refine bQ k4 ?_
    refine bQ k5 ?_
    refine bQ k2 ?_
    refine aF (ax H hs (w:=[110,117,108,108]) f1) ?_
    refine aF (ax H hs (w:=[102,97,108,115,101]) f2) ?_
    refine aF (ax H hs (w:=[116,114,117,101]) f3) ?_
    refine aF (ax H hs (w:=[91]) f4) ?_
    refine aF (ax H hs (w:=[40]) f5) ?_
    refine aF (ax H hs (w:=[110,101,119]) f6) ?_
    refine aF (ax H hs (w:=[102,117,110,99,116,105,111,110]) f7) ?_
    refine (dP (a:=(Sum.inl ((pS ts e (.g (i+1))).fT,(pS ts e (.g (i+1))).fI,(pS ts e (.g (i+1))).aw,(pS ts e (.g (i+1))).av,(tx ts i)):((List ah)×Int×Int×Int×aD) ⊕ (ae×aC))) ?_).trans ?_
    ·refine aF (ax H hs f8) ?_
     refine aW hsn ?_
     refine aF ((dG H _ ed 6 [40] aNd).trans (by rw [show aS ts (.g (i+1)) 0 6 [40]=false from (aM H aNd aNd).trans hp])) ?_
     rfl
    refine aW (dN H _ ed [58,58]) ?_
    refine aW (rz (a:=(tx ts i)) (b:=[58,58]) (by have:=hx;simp only [an,mg];omega)) ?_
    refine aW (nW H _ (jU ed _) 3) ?_
    refine aW (rz aNC) ?_
    refine aW g1 ?_
    rfl
   ·rw [aH]
    refine (dP (bP H _ hs)).trans ?_
    refine bQ qg ?_
    refine aW (tW H hi) ?_
    refine bQ (show ¬jR ts i=true by rw [LZ];exact are) ?_
    refine bQ k2 ?_
    refine aF (ar H hs (w:=[91]) f4) ?_
    refine aF (ar H hs (w:=[40]) f5) ?_
    refine aF (ar H hs (w:=[110,101,119]) f6) ?_
    refine aF (ar H hs (w:=[102,117,110,99,116,105,111,110]) f7) ?_
    refine (dP (a:=((tx ts i),qS ts e' (.g (i+1)))) ?_).trans ?_
    ·exact hcn
    refine (dP (a:=(Sum.inl ((qS ts e' (.g (i+1))).ao,(qS ts e' (.g (i+1))).bx,(qS ts e' (.g (i+1))).aw,(qS ts e' (.g (i+1))).av):((List ah)×Int×Int×Bool) ⊕ (ae×ak))) ?_).trans ?_
    ·refine bQ hns ?_
     refine aF ((eZ (e':=e') H (.g (i+1)) ed [40]).trans (by rw [show tw ts (JS.g (i+1)).pos [40]=false from hp])) ?_
     rfl
    refine aW (eM H _ ed [58,58]) ?_
    refine aW (rz (a:=(tx ts i)) (b:=[58,58]) (by have:=hx;simp only [an,mg];omega)) ?_
    refine aW (nC H _ (jU ed _) (me _ _) 3 (.inr rfl)) ?_
    refine aW (rz aNC) ?_
    refine aW g2 ?_
    rfl
   ·exact g5
   ·intro i' rT
    obtain ⟨i0,q1,q2,q3,q4⟩:=g6 i' rT
    cases q1
    refine ⟨by omega,rfl,q3,?_⟩
    have:=hx
    have:=iK H (wS ts (.g (i+1)) [58,58]) 3
    simp only [abL,an,mg]
    omega
 | false=>
  have ed:(JS.b i).Ok ts:=hi
  refine ⟨.b i,if i<ts.length then .mk 21 0 ([]++[58,58]++[]) [] else .mk 0 0 [] [],.mk 21 0 ([]++[58,58]++[]) [],?_,?_,⟨hi,As i,λi' h=>aNy,λi' h=>aNy⟩⟩
  ·by_cases bc:i<ts.length
   ·rw [if_pos bc]
    rw [aJ]
    refine bQ (lH bc) ?_
    refine (dP (ig bc)).trans ?_
    refine bQ k4 ?_
    refine bQ k5 ?_
    refine bQ k2 ?_
    refine aF (ax H hs (w:=[110,117,108,108]) f1) ?_
    refine aF (ax H hs (w:=[102,97,108,115,101]) f2) ?_
    refine aF (ax H hs (w:=[116,114,117,101]) f3) ?_
    refine aF (ax H hs (w:=[91]) f4) ?_
    refine aF (ax H hs (w:=[40]) f5) ?_
    refine aF (ax H hs (w:=[110,101,119]) f6) ?_
    refine aF (ax H hs (w:=[102,117,110,99,116,105,111,110]) f7) ?_
    refine (dP (a:=(Sum.inl ((pS ts e (.b i)).fT,(pS ts e (.b i)).fI,(pS ts e (.b i)).aw,(pS ts e (.b i)).av,[]):((List ah)×Int×Int×Int×aD) ⊕ (ae×aC))) ?_).trans ?_
    ·refine aF (ax H hs f8) ?_
     refine aW (Pu H hi hn) ?_
     refine aF (dG H _ ed 6 [40] aNd) ?_
     rfl
    refine aW (dN H _ ed [58,58]) ?_
    refine aW (rz (a:=[]) (b:=[58,58]) aNd) ?_
    refine aW (nW H _ ed 3) ?_
    refine aW (rz (a:=[]++[58,58]) (b:=[]) aNd) ?_
    refine aW (abA H ed []) ?_
    rfl
   ·rw [if_neg bc,aJ]
    refine mN (show (pS ts e (.g i)).fI>=((pS ts e (.g i)).fT.length:Int) from by show (i:Int)>=(ts.length:Int);omega) ?_
    refine aW (rA H _ hs) ?_
    rfl
  ·rw [aH]
   refine (dP (bP H _ hs)).trans ?_
   refine bQ qg ?_
   refine aW (tW H hi) ?_
   refine bQ (show ¬jR ts i=true by rw [LZ];exact are) ?_
   refine bQ k2 ?_
   refine aF (ar H hs (w:=[91]) f4) ?_
   refine aF (ar H hs (w:=[40]) f5) ?_
   refine aF (ar H hs (w:=[110,101,119]) f6) ?_
   refine aF (ar H hs (w:=[102,117,110,99,116,105,111,110]) f7) ?_
   refine (dP (a:=(([]:aD),qS ts e' (.b i))) ?_).trans ?_
   ·unfold cE
    refine aF (ar H hs f8) ?_
    refine aW (Pv H hi hn (.inr rfl)) ?_
    rfl
   refine (dP (a:=(Sum.inl ((qS ts e' (.b i)).ao,(qS ts e' (.b i)).bx,(qS ts e' (.b i)).aw,(qS ts e' (.b i)).av):((List ah)×Int×Int×Bool) ⊕ (ae×ak))) ?_).trans ?_
   ·refine bQ (show ¬([]:aD)=[115,116,97,116,105,99] by decide) ?_
    refine aF ((eZ (e':=e') H (.b i) ed [40]).trans (by rw [show tw ts (JS.b i).pos [40]=false from f5])) ?_
    rfl
   refine aW (eM H _ ed [58,58]) ?_
   refine aW (rz (a:=[]) (b:=[58,58]) aNd) ?_
   refine aW (nC H _ ed rfl 3 (.inr rfl)) ?_
   refine aW (rz (a:=[]++[58,58]) (b:=[]) aNd) ?_
   refine aW (IG H ed) ?_
   rfl
theorem Ro (H:Tk ts e) {i:Nat} (hi:i<=ts.length) (IH:∀s,Lt ts i s->PC ts e e' s):C1 ts e e' true 0 (.g i) aJ aH:=by
 have hs:(JS.g i).Ok ts:=hi
 have lf:∀{k m:Int} {t:aD},kd ts i≠0->t.length<=4000->k≠7->(k==4)=(kd ts i==2)->Rs ts true 0 (.g i) (.g (i+1)) (.mk k m t []) (.mk k m t []):=λh0 ht hk hv=>Rs.leaf hk (rB h0) ht hv
 by_cases k4:kd ts i=4
 ·have bc:i<ts.length:=rB aNc
  refine ⟨.g (i+1),.mk 1 (tok ts i).aE [] [],.mk 1 (tok ts i).aE [] [],?_,?_,lf aNc aNf aNd (by rw [k4];rfl)⟩
  ·rw [aJ]
   refine bQ (lH bc) ?_
   refine (dP (ig bc)).trans ?_
   refine mN k4 ?_
   rw [qD H hi]
  ·rw [aH]
   refine (dP (bP H _ hs)).trans ?_
   refine bQ qg ?_
   refine aW (tW H hi) ?_
   refine mN (show jR ts i=true by unfold jR;rw [k4];rfl) ?_
   refine (dP (a:=(ae.mk 1 (tok ts i).aE [] [],qS ts e' (.g (i+1)))) ?_).trans rfl
   unfold bJ
   rw [dc]
   refine (dP (bP H _ hs)).trans ?_
   refine mN k4 ?_
   rw [pK H hi]
   rfl
 by_cases k5:kd ts i=5
 ·have bc:i<ts.length:=rB aNc
  refine ⟨.g (i+1),.mk 2 0 (tx ts i) [],.mk 2 0 (tx ts i) [],?_,?_,lf aNc (tX H i) aNd (by rw [k5];rfl)⟩
  ·rw [aJ]
   refine bQ (lH bc) ?_
   refine (dP (ig bc)).trans ?_
   refine bQ k4 ?_
   refine mN k5 ?_
   rw [qD H hi]
   rfl
  ·rw [aH]
   refine (dP (bP H _ hs)).trans ?_
   refine bQ qg ?_
   refine aW (tW H hi) ?_
   refine mN (show jR ts i=true by unfold jR;rw [k5];rfl) ?_
   refine (dP (a:=(ae.mk 2 0 (tx ts i) [],qS ts e' (.g (i+1)))) ?_).trans rfl
   unfold bJ
   rw [dc]
   refine (dP (bP H _ hs)).trans ?_
   refine bQ k4 ?_
   refine mN k5 ?_
   rw [pK H hi]
   rfl
 by_cases k2:kd ts i=2
 ·have bc:i<ts.length:=rB aNc
  have Ah:∀w,tw ts i w=false:=vY aNc aNc
  refine ⟨nS ts (.g i) 2,.mk 4 0 (nT ts (.g i) 2) [],.mk 4 0 (nT ts (.g i) 2) [],?_,?_,?_⟩
  ·rw [aJ]
   refine bQ (lH bc) ?_
   refine (dP (ig bc)).trans ?_
   refine bQ k4 ?_
   refine bQ k5 ?_
   refine mN k2 ?_
   refine aW (Pw H _ hs) ?_
   rfl
  ·rw [aH]
   refine (dP (bP H _ hs)).trans ?_
   refine bQ qg ?_
   refine aW (tW H hi) ?_
   refine bQ (show ¬jR ts i=true by unfold jR;rw [k2,Ah,Ah,Ah];decide) ?_
   refine mN k2 ?_
   rw [dc]
   refine aW (Px H _ hs rfl) ?_
   rfl
  ·cases hn:wZ ts 2 i with
   | true=>rw [Pt hn,Ps hn];exact lf aNc (tX H i) aNd (by rw [k2];rfl)
   | false=>rw [abB hn];exact ⟨hi,As i,λi' h=>aNy,λi' h=>aNy⟩
 cases f1:tw ts i [110,117,108,108] with
 | true=>exact TH H hi IH f1
 | false=>
 cases f2:tw ts i [102,97,108,115,101] with
 | true=>exact Pq H hi IH f2
 | false=>
 cases f3:tw ts i [116,114,117,101] with
 | true=>exact TJ H hi IH f3
 | false=>
 cases f4:tw ts i [91] with
 | true=>exact TK H hi IH f4
 | false=>
 cases f5:tw ts i [40] with
 | true=>exact abx H hi IH f5
 | false=>
 cases f6:tw ts i [110,101,119] with
 | true=>exact aby H hi IH f6
 | false=>
 cases f7:tw ts i [102,117,110,99,116,105,111,110] with
 | true=>exact abz H hi IH f7
 | false=>
 cases f8:tw ts i [115,116,97,116,105,99] with
 | true=>exact LY H hi IH f8
 | false=>
 exact TL H hi IH k4 k5 k2 f1 f2 f3 f4 f5 f6 f7 f8
end
set_option maxRecDepth 10000
def S9 (x:Option (((List ah)×Int×Int×Int×(List ae)×Int×Int×aD×(List ae)) ⊕ (ae×aC))) (n:ae) (p:aC):Prop:=x=some (.inr (n,p))\/x=some (.inl (p.fT,p.fI,p.aw,p.av,[],n.ai,n.aE,n.aq,n.af))
def I9 (x:Option (((List ah)×Int×Int×Bool×(List ae)×Int×Int×aD×(List ae)) ⊕ (ae×ak))) (n:ae) (p:ak):Prop:=x=some (.inr (n,p))\/x=some (.inl (p.ao,p.bx,p.aw,p.av,[],n.ai,n.aE,n.aq,n.af))
theorem S9.run {x:Option (((List ah)×Int×Int×Int×(List ae)×Int×Int×aD×(List ae)) ⊕ (ae×aC))} {n:ae} {p:aC} (h:S9 x n p):(x>>=λo=>match o with
  | .inr r=>some r
  | .inl (CZ,C2,C3,C4,Fg,C5,C6,C7,yZ)=>some ((ae.mk C5 C6 C7 yZ),(aC.mk CZ C2 C3 C4)))=some (n,p):=by
 cases n
 rcases h with h | h<;>rw [h]<;>rfl
theorem I9.run {x:Option (((List ah)×Int×Int×Bool×(List ae)×Int×Int×aD×(List ae)) ⊕ (ae×ak))} {n:ae} {p:ak} (h:I9 x n p):(x>>=λo=>match o with
  | .inr r=>some r
  | .inl (CZ,C2,C3,C4,Fg,C5,C6,C7,yZ)=>some ((ae.mk C5 C6 C7 yZ),(ak.mk CZ C2 C3 C4)))=some (n,p):=by
 cases n
 rcases h with h | h<;>rw [h]<;>rfl
section
variable {ts:List ah} {e e':Int}
theorem abC (H:Tk ts e) {i:Nat} (h:i<=ts.length):ak.mk (qS ts e' (.g i)).ao (bm ((qS ts e' (.g i)).bx+2)) (qS ts e' (.g i)).aw (qS ts e' (.g i)).av=qS ts e' (.g (i+2)):=by
 have:=H.len
 show ak.mk ts (bm ((i:Int)+2)) e' false=⟨ts,((i+2:Nat):Int),e',false⟩
 rw [wW aNc aNc];rfl
def wa (ts:List ah) (i:Nat) (n:ae) (u:Bool):Bool:=tw ts i [91]&&(tw ts (i+1) [93]&&(yo n&&u))
theorem DS (H:Tk ts e) {i:Nat} (hi:i<=ts.length) (u:Bool) (k m:Int) (t:aD) (l:List ae):((
 aV (qS ts e' (.g i)) 0 [91]>>=λ(St,uN)=>
 (if St=true then
 aV uN 1 [93]>>=λ(Su,j3)=>
 (if Su=true then
 fg (ae.mk k m t l)>>=λSv=>
 (if Sv=true then
 some (j3.ao,j3.bx,j3.aw,j3.av,(!(!u)))
 else
 some (j3.ao,j3.bx,j3.aw,j3.av,false))
 else
 some (j3.ao,j3.bx,j3.aw,j3.av,false))
 else
 some (uN.ao,uN.bx,uN.aw,uN.av,false))
 :Option ((List ah)×Int×Int×Bool×Bool))=some ((qS ts e' (.g i)).ao,(qS ts e' (.g i)).bx,(qS ts e' (.g i)).aw,(qS ts e' (.g i)).av,wa ts i (.mk k m t l) u)):=by
 have hs:(JS.g i).Ok ts:=hi
 have is0:∀w,aV (qS ts e' (.g i)) 0 w=some (tw ts i w,qS ts e' (.g i)):=λw=>eZ (e':=e') H _ hs w
 have is1:∀w,aV (qS ts e' (.g i)) 1 w=some (tw ts (i+1) w,qS ts e' (.g i)):=λw=>afa (e':=e') H _ hs w
 unfold wa
 cases h1:tw ts i [91] with
 | false=>refine aF ((is0 _).trans aNL) ?_;rfl
 | true=>
  refine du ((is0 _).trans aNL) ?_
  cases h2:tw ts (i+1) [93] with
  | false=>refine aF ((is1 _).trans (by rw [h2])) ?_;rfl
  | true=>
   refine du ((is1 _).trans (by rw [h2])) ?_
   cases h3:yo (.mk k m t l) with
   | false=>refine aF ((pk _).trans (by rw [h3])) ?_;rfl
   | true=>refine du ((pk _).trans (by rw [h3])) ?_;rw [Bool.not_not];rfl
structure Inv (ts:List ah) (i0 i:Nat) (n:ae):Prop where
 lt:i0<i
 wt:(wt n:Int)+8192+16384*(i0:Int)<=16384*(i:Int)
 tg:yo n=uZ n
 va:i=i0+1->(n.ai==4)=(kd ts i0==2)
theorem Rs.inv {D i0 i:Nat} {n m:ae} (h:Rs ts true D (.g i0) (.g i) n m):n=m/\Inv ts i0 i n:=by
 obtain ⟨k,h1,h2,h3,h4,h5,h6⟩:=h.good i rfl
 cases h1
 exact ⟨h3,h2,h4,h5,h6 rfl⟩
theorem Inv.rs {i0 i D:Nat} {n:ae} (h:Inv ts i0 i n) (hi:i<=ts.length):Rs ts true D (.g i0) (.g i) n n:=
 ⟨hi,aKC h.lt,λi' h'=>by cases h';exact ⟨i0,rfl,h.lt,rfl,h.wt,h.tg,λ_=>h.va⟩,λj hj=>by cases hj⟩
theorem Rs.b {v:Bool} {D i0 j:Nat} {n m:ae} (hj:j<=ts.length) (h:i0<=j):Rs ts v D (.g i0) (.b j) n m:=⟨hj,h,λi h=>aNy,λi h=>aNy⟩
theorem qE (H:Tk ts e) {i0:Nat} (IH:∀s,Lt ts i0 s->PC ts e e' s) (u:Bool):∀(N:Nat) (s:JS) (n m:ae),s.Ok ts->s.nd=true->i0<=s.pos->(∀i,s=.g i->ts.length - i<N/\n=m/\Inv ts i0 i n)->
  ∃s' n' m',S9 (aZ u (pS ts e s).fT (pS ts e s).fI (pS ts e s).aw (pS ts e s).av [] n.ai n.aE n.aq n.af) n' (pS ts e s')/\
   I9 (aG (!u) (qS ts e' s).ao (qS ts e' s).bx (qS ts e' s).aw (qS ts e' s).av [] m.ai m.aE m.aq m.af) m' (qS ts e' s')/\Rs ts true 1 (.g i0) s' n' m'
 | N,.d j,n,m,_,hd,_,_=>by cases hd
 | N,.b j,n,m,hs,_,hp,_=>by
  refine ⟨.b j,n,m,.inr ?_,.inr ?_,Rs.b hs hp⟩
  ·rw [aZ];simp only [pD H,if_false]
  ·rw [aG];simp only [iL,if_true]
 | 0,.g i,n,m,_,_,_,h=>by have:=(h i rfl).1;omega
 | N+1,.g i,n,m,hs,_,hp,hinv=>by
  obtain ⟨hN,rfl,inv⟩:=hinv i rfl
  have hi:i<=ts.length:=hs
  have hL:=H.len
  have afb:=inv.lt
  obtain ⟨k,a,t,l⟩:=n
  have mk:∀(i2:Nat) (k' a':Int) (t':aD) (l':List ae),i0+1<i2->yo (.mk k' a' t' l')=uZ (.mk k' a' t' l')->(t'.length:Int)+(wl l':Int)+8192+16384*(i0:Int)<=16384*(i2:Int)->Inv ts i0 i2 (.mk k' a' t' l'):=λi2 k' a' t' l' h1 h2 h3=>⟨by omega,by rw [iI];omega,h2,λhh=>by omega⟩
  have hwt:=inv.wt
  cases hb:tw ts i [91] with
  | true=>
   have bc:=bU hb
   have ed:(JS.g (i+1)).Ok ts:=bc
   cases hq:wa ts i (.mk k a t l) u with
   | true=>
    unfold wa at hq
    simp only [At] at hq
    obtain ⟨_,h93,Ga,hu⟩:=hq
    have hq:wa ts i (.mk k a t l) u=true:=by unfold wa;rw [hb,h93,Ga,hu];rfl
    have Aq:=bU h93
    have nJ:(JS.g (i+1+1)).Ok ts:=Aq
    have l2:=Lt.w (i:=i0) nJ (show i0<=i+1+1 by omega) [61]
    obtain ⟨s',x,y,g1,g2,g3⟩:=(IH _ l2).expr
    have hle:i0<=s'.pos:=by have:=g3.le;have q:=@fL ts (.g (i+1+1)) [61];have q:i+1+1<=(wS ts (.g (i+1+1)) [61]).pos:=q;omega
    refine ⟨s',.mk 16 0 [] [.mk k a t l,x],.mk 16 0 [] [.mk k a t l,y],.inl ?_,.inl ?_,⟨g3.ok,hle,λi' h=>?_,λj hj=>?_⟩⟩
    ·rw [aZ]
     simp only [jM,if_true]
     refine du (cg H hb) ?_
     refine mN hu ?_
     refine du ((ph _).trans (congrArg some (show uZ (.mk k a t l)=true by rw [<-inv.tg];exact Ga))) ?_
     refine du (cg H h93) ?_
     refine aW (dN H _ nJ [61]) ?_
     refine aW g1 ?_
     rfl
    ·rw [aG]
     simp only [iM,if_false]
     refine aW (DS H hi u k a t l) ?_
     refine mN hq ?_
     rw [abC H hi]
     refine aW (eM H (.g (i+2)) nJ [61] (.inr rfl)) ?_
     refine aW g2 ?_
     rfl
    ·obtain ⟨k1,q1,q2,q3,q4,q5,_⟩:=g3.good i' h
     obtain ⟨k2,q6,q7,_⟩:=eV q1
     cases q6
     subst q3
     refine ⟨i0,rfl,by omega,rfl,?_,qF aNd,λ_ hh=>by omega⟩
     rw [iI,jk,cG]
     simp only [mg]
     omega
    ·obtain ⟨⟨k1,q1⟩,q2,q3,q4⟩:=g3.dm j hj
     obtain ⟨k2,q6,q7,_⟩:=eV q1
     cases q6
     rw [q1] at q2
     have q2:k1<j:=q2
     exact ⟨⟨i0,rfl⟩,by show i0<j;omega,As _,λ_=>DT aNd aNd aNd⟩
   | false=>
    obtain ⟨s1,x,y,g1,g2,g3⟩:=(IH _ (Lt.g (show i0<i+1 by omega) bc)).expr
    have nJ:=jU g3.ok [93]
    have hle:i0<=(wS ts s1 [93]).pos:=by have:=g3.le;have q:=@fL ts s1 [93];have:i+1<=s1.pos:=this;omega
    obtain ⟨s',n',m',f1,f2,f3⟩:=qE H IH u N (wS ts s1 [93]) (.mk 7 0 [] [.mk k a t l,x]) (.mk 7 0 [] [.mk k a t l,y]) nJ (me _ _) hle (λi2 h2=>by
     obtain ⟨i1,q1,q2,q3⟩:=eV h2
     obtain ⟨k1,q4,q5,q6,q7,q8,_⟩:=g3.good i1 q1
     cases q4
     subst q6
     have:=bU q3
     refine ⟨by omega,rfl,mk _ _ _ _ _ aNc (by rw [amU,amV];exact inv.tg) ?_⟩
     rw [jk,cG]
     simp only [mg]
     omega)
    refine ⟨s',n',m',?_,?_,f3⟩
    ·have key:aZ u (pS ts e (.g i)).fT (pS ts e (.g i)).fI (pS ts e (.g i)).aw (pS ts e (.g i)).av [] k a t l=
       aZ u (pS ts e (wS ts s1 [93])).fT (pS ts e (wS ts s1 [93])).fI (pS ts e (wS ts s1 [93])).aw (pS ts e (wS ts s1 [93])).av [] 7 0 [] [.mk k a t l,x]:=by
      rw [aZ]
      simp only [jM,if_true]
      refine du (cg H hb) ?_
      cases u with
      | false=>
       refine bQ are ?_
       refine aW g1 ?_
       refine aW (dN H _ g3.ok [93]) ?_
       rfl
      | true=>
       refine mN rfl ?_
       cases Ga:uZ (.mk k a t l) with
       | false=>
        refine aF ((ph _).trans (congrArg some Ga)) ?_
        refine aW g1 ?_
        refine aW (dN H _ g3.ok [93]) ?_
        rfl
       | true=>
        refine du ((ph _).trans (congrArg some Ga)) ?_
        have h93:tw ts (i+1) [93]=false:=by
         unfold wa at hq
         rw [hb,inv.tg,Ga,aLc,aKv,aKv] at hq
         exact hq
        refine aF (ax (w:=[93]) H ed h93) ?_
        refine aW g1 ?_
        refine aW (dN H _ g3.ok [93]) ?_
        rfl
     rw [show aZ u (pS ts e (.g i)).fT (pS ts e (.g i)).fI (pS ts e (.g i)).aw (pS ts e (.g i)).av [] (ae.mk k a t l).ai (ae.mk k a t l).aE (ae.mk k a t l).aq (ae.mk k a t l).af=_ from key]
     exact f1
    ·have key:aG (!u) (qS ts e' (.g i)).ao (qS ts e' (.g i)).bx (qS ts e' (.g i)).aw (qS ts e' (.g i)).av [] k a t l=
       aG (!u) (qS ts e' (wS ts s1 [93])).ao (qS ts e' (wS ts s1 [93])).bx (qS ts e' (wS ts s1 [93])).aw (qS ts e' (wS ts s1 [93])).av [] 7 0 [] [.mk k a t l,y]:=by
      rw [aG]
      simp only [iM,if_false]
      refine aW (DS H hi u k a t l) ?_
      refine bQ (show ¬wa ts i (.mk k a t l) u=true by rw [hq];exact are) ?_
      rw [dc]
      refine du (bE H hb) ?_
      refine aW g2 ?_
      refine aW (eM H _ g3.ok [93]) ?_
      rfl
     rw [show aG (!u) (qS ts e' (.g i)).ao (qS ts e' (.g i)).bx (qS ts e' (.g i)).aw (qS ts e' (.g i)).av [] (ae.mk k a t l).ai (ae.mk k a t l).aE (ae.mk k a t l).aq (ae.mk k a t l).af=_ from key]
     exact f2
  | false=>
   have hq:wa ts i (.mk k a t l) u=false:=by unfold wa;rw [hb];rfl
   have hqn:¬wa ts i (.mk k a t l) u=true:=by rw [hq];exact are
   cases hc:tw ts i [45,62] with
   | true=>
    have bc:=bU hc
    have ed:(JS.g (i+1)).Ok ts:=bc
    have hx:=iK H (.g (i+1)) 3
    cases hn:wZ ts 3 (i+1) with
    | false=>
     have mJ:(JS.b (i+1)).Ok ts:=bc
     refine ⟨.b (i+1),.mk 8 0 [] [.mk k a t l],if tw ts (i+1) [40]=true then .mk 20 0 [] [.mk k a t l] else .mk 8 0 [] [.mk k a t l],.inr ?_,.inr ?_,Rs.b bc aNc⟩
     ·rw [aZ]
      simp only [jM,if_true]
      refine aF (ax (w:=[91]) H hs hb) ?_
      refine du (cg H hc) ?_
      refine aW (Pu H ed hn) ?_
      refine aF (dG H _ mJ 6 [40] aNd) ?_
      rw [aZ]
      simp only [pD H,if_false]
      rfl
     ·rw [aG]
      simp only [iM,if_false]
      refine aW (DS H hi u k a t l) ?_
      refine bQ hqn ?_
      rw [dc]
      refine aF (ar (w:=[91]) H hs hb) ?_
      refine du (bE H hc) ?_
      refine aW (Pv H ed hn (.inr rfl)) ?_
      cases BX:tw ts (i+1) [40] with
      | true=>
       refine du ((eZ (e':=e') H (.b (i+1)) mJ [40]).trans (by rw [show tw ts (JS.b (i+1)).pos [40]=true from BX])) ?_
       refine aW (IG H mJ) ?_
       refine aW (jX (b:=56) (l:=[ae.mk k a t l]) (m:=[]) aNf) ?_
       rw [aG]
       simp only [iL,if_true]
       rfl
      | false=>
       refine aF ((eZ (e':=e') H (.b (i+1)) mJ [40]).trans (by rw [show tw ts (JS.b (i+1)).pos [40]=false from BX])) ?_
       rw [aG]
       simp only [iL,if_true,amb,if_false]
       rfl
    | true=>
     have Aq:=Pr aNd hn
     have nJ:(JS.g (i+1+1)).Ok ts:=Aq
     have hxl:=tX H (i+1)
     have hsn:cf (pS ts e (.g (i+1))) 3=some (tx ts (i+1),pS ts e (.g (i+1+1))):=by rw [nW H (.g (i+1)) ed 3,Ps hn,Pt hn]
     have hin:bu (qS ts e' (.g (i+1))) 3=some (tx ts (i+1),qS ts e' (.g (i+1+1))):=by rw [nC H (.g (i+1)) ed rfl 3 (.inr rfl),Ps hn,Pt hn]
     cases BX:tw ts (i+1+1) [40] with
     | true=>
      obtain ⟨s1,la,lb,g1,g2,g3⟩:=(IH _ (Lt.g (show i0<i+1+1 by omega) Aq)).args [.mk k a t l] aNf
      have hlb:=g3.lem
      have aH7:=okp g3.ok
      have hle:i0<=s1.pos:=by have:i+1+1<=s1.pos:=g3.le;omega
      obtain ⟨s',n',m',f1,f2,f3⟩:=qE H IH u N s1 (.mk 20 0 (tx ts (i+1)) la) (.mk 20 0 (tx ts (i+1)) ([.mk k a t l]++lb)) g3.ok g3.nd hle (λi2 h2=>by
       obtain ⟨k1,q1,q2,q3,q4⟩:=g3.good i2 h2
       cases q1
       subst q3
       refine ⟨by omega,rfl,mk _ _ _ _ _ aNc (qF aNd) ?_⟩
       rw [gU,cG]
       omega)
      refine ⟨s',n',m',?_,?_,f3⟩
      ·have key:aZ u (pS ts e (.g i)).fT (pS ts e (.g i)).fI (pS ts e (.g i)).aw (pS ts e (.g i)).av [] k a t l=aZ u (pS ts e s1).fT (pS ts e s1).fI (pS ts e s1).aw (pS ts e s1).av [] 20 0 (tx ts (i+1)) la:=by
        rw [aZ]
        simp only [jM,if_true]
        refine aF (ax (w:=[91]) H hs hb) ?_
        refine du (cg H hc) ?_
        refine aW hsn ?_
        refine du ((dG H _ nJ 6 [40] aNd).trans (by rw [show aS ts (.g (i+1+1)) 0 6 [40]=true from (aM H aNd aNd).trans BX])) ?_
        refine aW g1 ?_
        rfl
       rw [show aZ u (pS ts e (.g i)).fT (pS ts e (.g i)).fI (pS ts e (.g i)).aw (pS ts e (.g i)).av [] (ae.mk k a t l).ai (ae.mk k a t l).aE (ae.mk k a t l).aq (ae.mk k a t l).af=_ from key]
       exact f1
      ·have key:aG (!u) (qS ts e' (.g i)).ao (qS ts e' (.g i)).bx (qS ts e' (.g i)).aw (qS ts e' (.g i)).av [] k a t l=aG (!u) (qS ts e' s1).ao (qS ts e' s1).bx (qS ts e' s1).aw (qS ts e' s1).av [] 20 0 (tx ts (i+1)) ([.mk k a t l]++lb):=by
        rw [aG]
        simp only [iM,if_false]
        refine aW (DS H hi u k a t l) ?_
        refine bQ hqn ?_
        rw [dc]
        refine aF (ar (w:=[91]) H hs hb) ?_
        refine du (bE H hc) ?_
        refine aW hin ?_
        refine du ((eZ (e':=e') H (.g (i+1+1)) nJ [40]).trans (by rw [show tw ts (JS.g (i+1+1)).pos [40]=true from BX])) ?_
        refine aW g2 ?_
        refine aW (jX (b:=56) (l:=[ae.mk k a t l]) (m:=lb) aNm) ?_
        rfl
       rw [show aG (!u) (qS ts e' (.g i)).ao (qS ts e' (.g i)).bx (qS ts e' (.g i)).aw (qS ts e' (.g i)).av [] (ae.mk k a t l).ai (ae.mk k a t l).aE (ae.mk k a t l).aq (ae.mk k a t l).af=_ from key]
       exact f2
     | false=>
      obtain ⟨s',n',m',f1,f2,f3⟩:=qE H IH u N (.g (i+1+1)) (.mk 8 0 (tx ts (i+1)) [.mk k a t l]) (.mk 8 0 (tx ts (i+1)) [.mk k a t l]) nJ rfl (by show i0<=i+1+1;omega) (λi2 h2=>by
       cases h2
       refine ⟨by omega,rfl,mk _ _ _ _ _ aNc (qF aNd) ?_⟩
       rw [cG]
       omega)
      refine ⟨s',n',m',?_,?_,f3⟩
      ·have key:aZ u (pS ts e (.g i)).fT (pS ts e (.g i)).fI (pS ts e (.g i)).aw (pS ts e (.g i)).av [] k a t l=aZ u (pS ts e (.g (i+1+1))).fT (pS ts e (.g (i+1+1))).fI (pS ts e (.g (i+1+1))).aw (pS ts e (.g (i+1+1))).av [] 8 0 (tx ts (i+1)) [.mk k a t l]:=by
        rw [aZ]
        simp only [jM,if_true]
        refine aF (ax (w:=[91]) H hs hb) ?_
        refine du (cg H hc) ?_
        refine aW hsn ?_
        refine aF ((dG H _ nJ 6 [40] aNd).trans (by rw [show aS ts (.g (i+1+1)) 0 6 [40]=false from (aM H aNd aNd).trans BX])) ?_
        rfl
       rw [show aZ u (pS ts e (.g i)).fT (pS ts e (.g i)).fI (pS ts e (.g i)).aw (pS ts e (.g i)).av [] (ae.mk k a t l).ai (ae.mk k a t l).aE (ae.mk k a t l).aq (ae.mk k a t l).af=_ from key]
       exact f1
      ·have key:aG (!u) (qS ts e' (.g i)).ao (qS ts e' (.g i)).bx (qS ts e' (.g i)).aw (qS ts e' (.g i)).av [] k a t l=aG (!u) (qS ts e' (.g (i+1+1))).ao (qS ts e' (.g (i+1+1))).bx (qS ts e' (.g (i+1+1))).aw (qS ts e' (.g (i+1+1))).av [] 8 0 (tx ts (i+1)) [.mk k a t l]:=by
        rw [aG]
        simp only [iM,if_false]
        refine aW (DS H hi u k a t l) ?_
        refine bQ hqn ?_
        rw [dc]
        refine aF (ar (w:=[91]) H hs hb) ?_
        refine du (bE H hc) ?_
        refine aW hin ?_
        refine aF ((eZ (e':=e') H (.g (i+1+1)) nJ [40]).trans (by rw [show tw ts (JS.g (i+1+1)).pos [40]=false from BX])) ?_
        rfl
       rw [show aG (!u) (qS ts e' (.g i)).ao (qS ts e' (.g i)).bx (qS ts e' (.g i)).aw (qS ts e' (.g i)).av [] (ae.mk k a t l).ai (ae.mk k a t l).aE (ae.mk k a t l).aq (ae.mk k a t l).af=_ from key]
       exact f2
   | false=>
    cases BX:tw ts i [40] with
    | true=>
     obtain ⟨s1,la,lb,g1,g2,g3⟩:=(IH _ (Lt.g afb hi)).args [.mk k a t l] aNf
     have hlb:=g3.lem
     have aH7:=okp g3.ok
     have hle:i0<=s1.pos:=by have:i<=s1.pos:=g3.le;omega
     obtain ⟨s',n',m',f1,f2,f3⟩:=qE H IH u N s1 (.mk 19 0 [] la) (.mk 19 0 [] ([.mk k a t l]++lb)) g3.ok g3.nd hle (λi2 h2=>by
      obtain ⟨k1,q1,q2,q3,q4⟩:=g3.good i2 h2
      cases q1
      subst q3
      have amW:=okp g3.ok
      rw [h2] at amW
      have amW:i2<=ts.length:=amW
      refine ⟨by omega,rfl,mk _ _ _ _ _ aNc (qF aNd) ?_⟩
      rw [gU,cG]
      simp only [mg]
      have aJX:=bU BX
      omega)
     refine ⟨s',n',m',?_,?_,f3⟩
     ·have key:aZ u (pS ts e (.g i)).fT (pS ts e (.g i)).fI (pS ts e (.g i)).aw (pS ts e (.g i)).av [] k a t l=aZ u (pS ts e s1).fT (pS ts e s1).fI (pS ts e s1).aw (pS ts e s1).av [] 19 0 [] la:=by
       rw [aZ]
       simp only [jM,if_true]
       refine aF (ax (w:=[91]) H hs hb) ?_
       refine aF (ax (w:=[45,62]) H hs hc) ?_
       refine du ((dG H _ hs 6 [40] aNd).trans (by rw [show aS ts (.g i) 0 6 [40]=true from (aM H aNd aNd).trans BX])) ?_
       refine aW g1 ?_
       rfl
      rw [show aZ u (pS ts e (.g i)).fT (pS ts e (.g i)).fI (pS ts e (.g i)).aw (pS ts e (.g i)).av [] (ae.mk k a t l).ai (ae.mk k a t l).aE (ae.mk k a t l).aq (ae.mk k a t l).af=_ from key]
      exact f1
     ·have key:aG (!u) (qS ts e' (.g i)).ao (qS ts e' (.g i)).bx (qS ts e' (.g i)).aw (qS ts e' (.g i)).av [] k a t l=aG (!u) (qS ts e' s1).ao (qS ts e' s1).bx (qS ts e' s1).aw (qS ts e' s1).av [] 19 0 [] ([.mk k a t l]++lb):=by
       rw [aG]
       simp only [iM,if_false]
       refine aW (DS H hi u k a t l) ?_
       refine bQ hqn ?_
       rw [dc]
       refine aF (ar (w:=[91]) H hs hb) ?_
       refine aF (ar (w:=[45,62]) H hs hc) ?_
       refine du ((eZ (e':=e') H (.g i) hs [40]).trans (by rw [show tw ts (JS.g i).pos [40]=true from BX])) ?_
       refine aW g2 ?_
       refine aW (jX (b:=56) (l:=[ae.mk k a t l]) (m:=lb) aNm) ?_
       rfl
      rw [show aG (!u) (qS ts e' (.g i)).ao (qS ts e' (.g i)).bx (qS ts e' (.g i)).aw (qS ts e' (.g i)).av [] (ae.mk k a t l).ai (ae.mk k a t l).aE (ae.mk k a t l).aq (ae.mk k a t l).af=_ from key]
      exact f2
    | false=>
     refine ⟨.g i,.mk k a t l,.mk k a t l,.inl ?_,.inl ?_,inv.rs hi⟩
     ·rw [aZ]
      simp only [jM,if_true]
      refine aF (ax (w:=[91]) H hs hb) ?_
      refine aF (ax (w:=[45,62]) H hs hc) ?_
      refine aF ((dG H _ hs 6 [40] aNd).trans (by rw [show aS ts (.g i) 0 6 [40]=false from (aM H aNd aNd).trans BX])) ?_
      rfl
     ·rw [aG]
      simp only [iM,if_false]
      refine aW (DS H hi u k a t l) ?_
      refine bQ hqn ?_
      rw [dc]
      refine aF (ar (w:=[91]) H hs hb) ?_
      refine aF (ar (w:=[45,62]) H hs hc) ?_
      refine aF ((eZ (e':=e') H (.g i) hs [40]).trans (by rw [show tw ts (JS.g i).pos [40]=false from BX])) ?_
      rfl
theorem L0 (H:Tk ts e) {i:Nat} (hi:i<=ts.length) (IH:∀s,Lt ts i s->PC ts e e' s) (u:Bool):C1 ts e e' true 1 (.g i) (λp=>gg p u) (λq=>bW q (!u)):=by
 obtain ⟨s1,n,m,g1,g2,g3⟩:=Ro H hi IH
 have hd:s1.nd=true:=by
  cases s1 with
  | d j=>have:=(g3.dm j rfl).2.2.1;omega
  | _=>rfl
 obtain ⟨s',n',m',f1,f2,f3⟩:=qE H IH u (ts.length+1) s1 n m g3.ok hd g3.le (λi1 h1=>by
  subst h1
  obtain ⟨q1,q2⟩:=g3.inv
  exact ⟨by omega,q1,q2⟩)
 refine ⟨s',n',m',?_,?_,f3⟩
 ·show gg (pS ts e (.g i)) u=_
  rw [gg]
  refine aW g1 ?_
  exact f1.run
 ·show bW (qS ts e' (.g i)) (!u)=_
  rw [bW]
  refine aW g2 ?_
  exact f2.run
end
set_option maxRecDepth 10000
theorem afc (t:aD):∃v:Int,kj t=some v/\lV t=some v/\(v=0\/(1<=v/\v<=15/\iZ v=some t)):=by
 have go:∀(k:Nat) (y:Int),1<=y->y+k=16->∃o,mG t y=some o/\mD t y=some o/\(o=.inl ()\/∃v,o=.inr v/\1<=v/\v<=15/\iZ v=some t):=by
  intro k
  induction k with
  | zero=>
   intro y h1 h2
   rw [mG,mD,if_neg aNc,if_neg aNc]
   exact ⟨_,rfl,rfl,.inl rfl⟩
  | succ k ih=>
   intro y h1 h2
   obtain ⟨x,e1,e2,_⟩:=sOp y h1 aNc
   rw [mG,mD,if_pos aNc,if_pos aNc,e1,sb,e2,sb]
   by_cases hx:x=t
   ·rw [if_pos hx,if_pos hx]
    exact ⟨_,rfl,rfl,.inr ⟨y,rfl,h1,by omega,by rw [e1,hx]⟩⟩
   ·rw [if_neg hx,if_neg hx,wW aNc aNc]
    exact ih (y+1) aNc aNc
 obtain ⟨o,h1,h2,h3⟩:=go 15 1 aNc aNc
 unfold kj lV
 rw [h1,h2,sb]
 rcases h3 with rfl | ⟨v,rfl,h3⟩
 ·exact ⟨0,rfl,rfl,.inl rfl⟩
 ·exact ⟨v,rfl,rfl,.inr h3⟩
theorem L1 {v:Int} (h1:1<=v) (h2:v<=15):∃k,ly v=some k/\kJ v=some k/\6<=k/\k<=10:=by
 obtain ⟨_,_,_,k,q1,q2,q3,q4⟩:=sOp v h1 h2
 exact ⟨k,q1,q2,q3,q4⟩
theorem amX {v:Int} (h1:1<=v) (h2:v<=15):iZ v≠some [61]:=by
 obtain ⟨n,rfl⟩:∃n:Nat,v=(n:Int):=⟨v.toNat,by omega⟩
 have:n=1\/n=2\/n=3\/n=4\/n=5\/n=6\/n=7\/n=8\/n=9\/n=10\/n=11\/n=12\/n=13\/n=14\/n=15:=by omega
 rcases this with rfl | rfl | rfl | rfl | rfl | rfl | rfl | rfl | rfl | rfl | rfl | rfl | rfl | rfl | rfl<;>(unfold iZ;intro h;revert h;decide)
def J9 (x:Option ((List ah)×Int×Int×Bool×(List ae)×Int×Int×aD×(List ae))) (n:ae) (p:ak):Prop:=x=some (p.ao,p.bx,p.aw,p.av,[],n.ai,n.aE,n.aq,n.af)
theorem J9.run {x:Option ((List ah)×Int×Int×Bool×(List ae)×Int×Int×aD×(List ae))} {n:ae} {p:ak} (h:J9 x n p):(x>>=λ(CZ,C2,C3,C4,Fg,C5,C6,C7,yZ)=>some ((ae.mk C5 C6 C7 yZ),(ak.mk CZ C2 C3 C4)))=some (n,p):=by
 cases n
 rw [h];rfl
section
variable {ts:List ah} {e e':Int}
theorem Rs.Rp {v:Bool} {D i:Nat} {s':JS} {k m:Int} {t t':aD} {l l':List ae} (hk:k≠7) (h4:k≠4) (h8:k≠8) (yu:s'.Ok ts) (hle:i<=s'.pos) (hD:1<=D) (MJ:∀j,s'=.d j->i<j)
  (hg:∀i',s'=.g i'->i+1<i'/\t=t'/\l=l'/\(t.length:Int)+(wl l:Int)+8192+16384*(i:Int)<=16384*(i':Int)):Rs ts v D (.g i) s' (.mk k m t l) (.mk k m t' l'):=
 ⟨yu,hle,λi' h=>by
  obtain ⟨h1,rfl,rfl,h2⟩:=hg i' h
  exact ⟨i,rfl,by omega,rfl,by rw [iI];omega,qF hk,λ_ hh=>by omega⟩,λj hj=>⟨⟨i,rfl⟩,MJ j hj,hD,λ_=>DT hk h4 h8⟩⟩
theorem aho (H:Tk ts e) {i:Nat} (hi:i<=ts.length) (IH:∀s,Lt ts i s->PC ts e e' s):C1 ts e e' true 1 (.g i) fu cy:=by
 have hs:(JS.g i).Ok ts:=hi
 have wrap:∀(a:Int) (s':JS) (n m:ae),i<ts.length->Rs ts true 1 (.g (i+1)) s' n m->Rs ts true 1 (.g i) s' (.mk 9 a [] [n]) (.mk 9 a [] [m]):=λa s' n m bc h=>by
  refine Rs.Rp aNd aNd aNd h.ok (by have:i+1<=s'.pos:=h.le;omega) (As _) (λj hj=>?_) (λi' h'=>?_)
  ·have q:i+1<j:=(h.dm j hj).2.1
   omega
  ·obtain ⟨k,q1,q2,q3,q4,_⟩:=h.good i' h'
   cases q1
   subst q3
   refine ⟨by omega,rfl,rfl,?_⟩
   rw [cG]
   simp only [mg]
   omega
 cases h1:tw ts i [33] with
 | true=>
  have bc:=bU h1
  obtain ⟨s',n,m,g1,g2,g3⟩:=(IH _ (Lt.g (aKe i) bc)).un
  refine ⟨s',_,_,?_,?_,wrap 1 s' n m bc g3⟩
  ·rw [fu]
   refine du (cg H h1) ?_
   refine aW g1 ?_
   rfl
  ·rw [cy]
   refine du (bE H h1) ?_
   refine aW g2 ?_
   rfl
 | false=>
  cases h2:tw ts i [45] with
  | true=>
   have bc:=bU h2
   obtain ⟨s',n,m,g1,g2,g3⟩:=(IH _ (Lt.g (aKe i) bc)).un
   refine ⟨s',_,_,?_,?_,wrap 2 s' n m bc g3⟩
   ·rw [fu]
    refine aF (ax (w:=[33]) H hs h1) ?_
    refine du (cg H h2) ?_
    refine aW g1 ?_
    rfl
   ·rw [cy]
    refine aF (ar (w:=[33]) H hs h1) ?_
    refine du (bE H h2) ?_
    refine aW g2 ?_
    rfl
  | false=>
   obtain ⟨s',n,m,g1,g2,g3⟩:=L0 (e':=e') H hi IH true
   refine ⟨s',n,m,?_,?_,g3⟩
   ·rw [fu]
    refine aF (ax (w:=[33]) H hs h1) ?_
    refine aF (ax (w:=[45]) H hs h2) ?_
    rw [ng]
    refine (dP (a:=(n,pS ts e s')) ?_).trans rfl
    exact (dP g1).trans rfl
   ·rw [cy]
    refine aF (ar (w:=[33]) H hs h1) ?_
    refine aF (ar (w:=[45]) H hs h2) ?_
    refine aW g2 ?_
    rfl
theorem eq6 (H:Tk ts e) {j:Nat} (h:tw ts j [61]=true):kd ts j=6:=by
 rw [<-aM H aNd aNd] at h
 unfold aT at h
 rw [At,beq_iff_eq] at h
 exact h.1
theorem L2 (H:Tk ts e) {i0:Nat} (IH:∀s,Lt ts i0 s->PC ts e e' s) (lv:Nat) (h6:6<=lv) (h10:lv<=10):∀(N:Nat) (s:JS) (n m:ae),s.Ok ts->i0<=s.pos->(∀i,s=.g i->ts.length - i<N/\n=m/\Inv ts i0 i n)->(∀j,s=.d j->i0<j/\yo m=false)->
  ∃s' n' m',S9 (aP (lv:Int) (pS ts e s).fT (pS ts e s).fI (pS ts e s).aw (pS ts e s).av [] n.ai n.aE n.aq n.af) n' (pS ts e s')/\
   I9 (bI (lv:Int) (qS ts e' s).ao (qS ts e' s).bx (qS ts e' s).aw (qS ts e' s).av [] m.ai m.aE m.aq m.af) m' (qS ts e' s')/\Rs ts true 1 (.g i0) s' n' m'
 | N,.b j,n,m,hs,hp,_,_=>by
  refine ⟨.b j,n,m,.inr ?_,.inr ?_,Rs.b hs hp⟩
  ·rw [aP,if_neg (show ¬(pS ts e (.b j)).fI<((pS ts e (.b j)).fT.length:Int) from λh=>by have h:(ts.length:Int)<ts.length:=h;omega)]
  ·rw [bI];simp only [iL,if_true]
 | N,.d j,n,m,hs,hp,_,hd=>by
  refine ⟨.d j,n,m,.inr ?_,.inl ?_,⟨hs,hp,λi h=>aNy,λj' h=>by cases h;exact ⟨⟨i0,rfl⟩,(hd j rfl).1,As _,λ_=>(hd j rfl).2⟩⟩⟩
  ·rw [aP,if_neg (show ¬(pS ts e (.d j)).fI<((pS ts e (.d j)).fT.length:Int) from λh=>by have h:(ts.length:Int)<ts.length:=h;omega)]
  ·obtain ⟨v,o1,o2,o3⟩:=afc (tx ts j)
   have hv:v=0:=by
    rcases o3 with h | ⟨h1,h2,h3⟩
    ·exact h
    ·rw [(Rq hs.2).2] at h3
     exact (amX h1 h2 h3).elim
   subst hv
   rw [bI]
   simp only [Py,if_false,dc]
   refine (dP (bP H _ hs)).trans ?_
   refine aW (show lV (tok ts j).aq=some 0 from o2) ?_
   refine mN (show (tok ts j).ai=6 from eq6 H hs.2) ?_
   refine mN rfl ?_
   rw [TM]
 | 0,.g i,n,m,_,_,h,_=>by have:=(h i rfl).1;omega
 | N+1,.g i,n,m,hs,hp,hinv,_=>by
  obtain ⟨hN,rfl,inv⟩:=hinv i rfl
  have hi:i<=ts.length:=hs
  have hL:=H.len
  have afb:=inv.lt
  have hwt:=inv.wt
  obtain ⟨k,a,t,l⟩:=n
  have next:∀(k' a':Int) (s1:JS) (x y:ae),k'≠7->k'≠4->k'≠8->i<ts.length->Rs ts true 1 (.g (i+1)) s1 x y->(∀i2,s1=.g i2->ts.length - i2<N/\ae.mk k' a' [] [.mk k a t l,x]=.mk k' a' [] [.mk k a t l,y]/\Inv ts i0 i2 (.mk k' a' [] [.mk k a t l,x]))/\(∀j,s1=.d j->i0<j/\yo (.mk k' a' [] [.mk k a t l,y])=false)/\i0<=s1.pos:=λk' a' s1 x y h7 h4 h8 bc h=>by
   refine ⟨λi2 h2=>?_,λj hj=>⟨?_,DT h7 h4 h8⟩,by have:i+1<=s1.pos:=h.le;omega⟩
   ·obtain ⟨k1,q1,q2,q3,q4,_⟩:=h.good i2 h2
    cases q1
    subst q3
    refine ⟨by omega,rfl,⟨by omega,?_,qF h7,λhh=>by omega⟩⟩
    rw [iI,jk,cG]
    simp only [mg]
    omega
   ·have q:i+1<j:=(h.dm j hj).2.1
    omega
  have DU:i<ts.length->(pS ts e (.g i)).fI<((pS ts e (.g i)).fT.length:Int):=λh=>by show (i:Int)<(ts.length:Int);omega
  have send:¬(i<ts.length/\kd ts i=6)->aP (lv:Int) (pS ts e (.g i)).fT (pS ts e (.g i)).fI (pS ts e (.g i)).aw (pS ts e (.g i)).av [] k a t l=some (.inl ((pS ts e (.g i)).fT,(pS ts e (.g i)).fI,(pS ts e (.g i)).aw,(pS ts e (.g i)).av,[],k,a,t,l)):=λhh=>by
   rw [aP]
   by_cases bc:i<ts.length
   ·rw [if_pos (DU bc)]
    refine (dP (ig bc)).trans ?_
    refine bQ (show ¬(tok ts i).ai=6 from λh=>hh ⟨bc,h⟩) ?_
    rfl
   ·rw [if_neg (show ¬(pS ts e (.g i)).fI<((pS ts e (.g i)).fT.length:Int) from λh=>by have h:(i:Int)<(ts.length:Int):=h;omega)]
  obtain ⟨v,o1,o2,o3⟩:=afc (tx ts i)
  by_cases h:i<ts.length/\kd ts i=6
  ·obtain ⟨bc,k6⟩:=h
   have ed:(JS.g (i+1)).Ok ts:=bc
   by_cases hop:v≠0/\kJ v=some (lv:Int)
   ·have o4:=o3.resolve_left hop.1
    obtain ⟨lk,v1,v2,v3,v4⟩:=L1 o4.1 o4.2.1
    have hlk:lk=(lv:Int):=aLh (v2.symm.trans hop.2)
    subst hlk
    obtain ⟨s1,x,y,g1,g2,g3⟩:=(IH _ (Lt.g (show i0<i+1 by omega) bc)).bin (lv+1) aNc aNc
    obtain ⟨n1,n2,n3⟩:=next 10 v s1 x y aNd aNd aNd bc g3
    obtain ⟨s',n',m',f1,f2,f3⟩:=L2 H IH lv h6 h10 N s1 _ _ g3.ok n3 n1 n2
    have ib:bn (qS ts e' (.g (i+1))) ((lv+1:Nat):Int)=some (y,qS ts e' s1):=by
     match lv,h6 with
     | z+6,_=>exact g2
    refine ⟨s',n',m',?_,?_,f3⟩
    ·have key:aP (lv:Int) (pS ts e (.g i)).fT (pS ts e (.g i)).fI (pS ts e (.g i)).aw (pS ts e (.g i)).av [] k a t l=aP (lv:Int) (pS ts e s1).fT (pS ts e s1).fI (pS ts e s1).aw (pS ts e s1).av [] 10 v [] [.mk k a t l,x]:=by
      rw [aP,if_pos (DU bc)]
      refine (dP (ig bc)).trans ?_
      refine mN (show (tok ts i).ai=6 from k6) ?_
      refine (dP (ig bc)).trans ?_
      refine aW (show kj (tok ts i).aq=some v from o1) ?_
      refine (dP (a:=((pS ts e (.g i)).fT,(pS ts e (.g i)).fI,(pS ts e (.g i)).aw,(pS ts e (.g i)).av,false)) (if_neg aNc)).trans ?_
      refine bQ are ?_
      refine (dP (a:=((pS ts e (.g i)).fT,(pS ts e (.g i)).fI,(pS ts e (.g i)).aw,(pS ts e (.g i)).av,false)) (if_neg aNc)).trans ?_
      refine bQ are ?_
      refine (dP (a:=true) ?_).trans ?_
      ·rw [if_pos (show v>0 by omega),v1,sb,beq_self_eq_true]
      refine mN rfl ?_
      rw [qD H hi,bN aNc]
      refine aW g1 ?_
      rfl
     rw [show aP (lv:Int) (pS ts e (.g i)).fT (pS ts e (.g i)).fI (pS ts e (.g i)).aw (pS ts e (.g i)).av [] (ae.mk k a t l).ai (ae.mk k a t l).aE (ae.mk k a t l).aq (ae.mk k a t l).af=_ from key]
     exact f1
    ·have key:bI (lv:Int) (qS ts e' (.g i)).ao (qS ts e' (.g i)).bx (qS ts e' (.g i)).aw (qS ts e' (.g i)).av [] k a t l=bI (lv:Int) (qS ts e' s1).ao (qS ts e' s1).bx (qS ts e' s1).aw (qS ts e' s1).av [] 10 v [] [.mk k a t l,y]:=by
      rw [bI]
      simp only [iM,if_false,dc]
      refine (dP (bP H _ hs)).trans ?_
      refine aW (show lV (tok ts i).aq=some v from o2) ?_
      refine mN (show (tok ts i).ai=6 from k6) ?_
      refine bQ hop.1 ?_
      refine aW hop.2 ?_
      refine mN rfl ?_
      rw [pK H hi,bN aNc]
      refine aW ib ?_
      rfl
     rw [show bI (lv:Int) (qS ts e' (.g i)).ao (qS ts e' (.g i)).bx (qS ts e' (.g i)).aw (qS ts e' (.g i)).av [] (ae.mk k a t l).ai (ae.mk k a t l).aE (ae.mk k a t l).aq (ae.mk k a t l).af=_ from key]
     exact f2
   ·refine ⟨.g i,.mk k a t l,.mk k a t l,.inl ?_,.inl ?_,inv.rs hi⟩
    ·rw [aP,if_pos (DU bc)]
     refine (dP (ig bc)).trans ?_
     refine mN (show (tok ts i).ai=6 from k6) ?_
     refine (dP (ig bc)).trans ?_
     refine aW (show kj (tok ts i).aq=some v from o1) ?_
     refine (dP (a:=((pS ts e (.g i)).fT,(pS ts e (.g i)).fI,(pS ts e (.g i)).aw,(pS ts e (.g i)).av,false)) (if_neg aNc)).trans ?_
     refine bQ are ?_
     refine (dP (a:=((pS ts e (.g i)).fT,(pS ts e (.g i)).fI,(pS ts e (.g i)).aw,(pS ts e (.g i)).av,false)) (if_neg aNc)).trans ?_
     refine bQ are ?_
     refine (dP (a:=false) ?_).trans ?_
     ·rcases o3 with rfl | ⟨h1,h2,h3⟩
      ·rw [if_neg aNd]
      ·obtain ⟨lk,v1,v2,v3,v4⟩:=L1 h1 h2
       rw [if_pos (show v>0 by omega),v1,sb,beq_eq_false_iff_ne.2 (λhh=>hop ⟨by omega,by rw [v2,hh]⟩)]
     refine bQ are ?_
     rfl
    ·rw [bI]
     simp only [iM,if_false,dc]
     refine (dP (bP H _ hs)).trans ?_
     refine aW (show lV (tok ts i).aq=some v from o2) ?_
     refine mN (show (tok ts i).ai=6 from k6) ?_
     by_cases hv:v=0
     ·refine mN hv ?_
      rfl
     ·refine bQ hv ?_
      have o4:=o3.resolve_left hv
      obtain ⟨lk,v1,v2,v3,v4⟩:=L1 o4.1 o4.2.1
      refine aW v2 ?_
      refine bQ (show ¬lk=(lv:Int) from λhh=>hop ⟨hv,by rw [v2,hh]⟩) ?_
      rfl
  ·refine ⟨.g i,.mk k a t l,.mk k a t l,.inr (send h),.inl ?_,inv.rs hi⟩
   rw [bI]
   simp only [iM,if_false,dc]
   refine (dP (bP H _ hs)).trans ?_
   refine aW (show lV (tok ts i).aq=some v from o2) ?_
   refine bQ (show ¬(tok ts i).ai=6 from λhk=>h ⟨rB (by unfold kd;omega),hk⟩) ?_
   rfl
theorem L3 (H:Tk ts e) {i0:Nat} (IH:∀s,Lt ts i0 s->PC ts e e' s):∀(N:Nat) (s:JS) (n m:ae),s.Ok ts->i0<=s.pos->(∀i,s=.g i->ts.length - i<N/\n=m/\Inv ts i0 i n)->(∀j,s=.d j->i0<j/\yo m=false)->
  ∃s' n' m',S9 (aP 5 (pS ts e s).fT (pS ts e s).fI (pS ts e s).aw (pS ts e s).av [] n.ai n.aE n.aq n.af) n' (pS ts e s')/\
   J9 (bR (qS ts e' s).ao (qS ts e' s).bx (qS ts e' s).aw (qS ts e' s).av [] m.ai m.aE m.aq m.af) m' (qS ts e' s')/\Rs ts true 1 (.g i0) s' n' m'
 | N,.b j,n,m,hs,hp,_,_=>by
  refine ⟨.b j,n,m,.inr ?_,?_,Rs.b hs hp⟩
  ·rw [aP,if_neg (show ¬(pS ts e (.b j)).fI<((pS ts e (.b j)).fT.length:Int) from λh=>by have h:(ts.length:Int)<ts.length:=h;omega)]
  ·rw [bR];rw [dc];refine aF (ar (w:=[38,38]) H hs rfl) ?_;rfl
 | N,.d j,n,m,hs,hp,_,hd=>by
  refine ⟨.d j,n,m,.inr ?_,?_,⟨hs,hp,λi h=>aNy,λj' h=>by cases h;exact ⟨⟨i0,rfl⟩,(hd j rfl).1,As _,λ_=>(hd j rfl).2⟩⟩⟩
  ·rw [aP,if_neg (show ¬(pS ts e (.d j)).fI<((pS ts e (.d j)).fT.length:Int) from λh=>by have h:(ts.length:Int)<ts.length:=h;omega)]
  ·rw [bR];rw [dc];refine aF (ar (w:=[38,38]) H hs rfl) ?_;rfl
 | 0,.g i,n,m,_,_,h,_=>by have:=(h i rfl).1;omega
 | N+1,.g i,n,m,hs,hp,hinv,_=>by
  obtain ⟨hN,rfl,inv⟩:=hinv i rfl
  have hi:i<=ts.length:=hs
  have hL:=H.len
  have afb:=inv.lt
  have hwt:=inv.wt
  obtain ⟨k,a,t,l⟩:=n
  have next:∀(k' a':Int) (s1:JS) (x y:ae),k'≠7->k'≠4->k'≠8->i<ts.length->Rs ts true 1 (.g (i+1)) s1 x y->(∀i2,s1=.g i2->ts.length - i2<N/\ae.mk k' a' [] [.mk k a t l,x]=.mk k' a' [] [.mk k a t l,y]/\Inv ts i0 i2 (.mk k' a' [] [.mk k a t l,x]))/\(∀j,s1=.d j->i0<j/\yo (.mk k' a' [] [.mk k a t l,y])=false)/\i0<=s1.pos:=λk' a' s1 x y h7 h4 h8 bc h=>by
   refine ⟨λi2 h2=>?_,λj hj=>⟨?_,DT h7 h4 h8⟩,by have:i+1<=s1.pos:=h.le;omega⟩
   ·obtain ⟨k1,q1,q2,q3,q4,_⟩:=h.good i2 h2
    cases q1
    subst q3
    refine ⟨by omega,rfl,⟨by omega,?_,qF h7,λhh=>by omega⟩⟩
    rw [iI,jk,cG]
    simp only [mg]
    omega
   ·have q:i+1<j:=(h.dm j hj).2.1
    omega
  have DU:i<ts.length->(pS ts e (.g i)).fI<((pS ts e (.g i)).fT.length:Int):=λh=>by show (i:Int)<(ts.length:Int);omega
  have send:¬(i<ts.length/\kd ts i=6)->aP 5 (pS ts e (.g i)).fT (pS ts e (.g i)).fI (pS ts e (.g i)).aw (pS ts e (.g i)).av [] k a t l=some (.inl ((pS ts e (.g i)).fT,(pS ts e (.g i)).fI,(pS ts e (.g i)).aw,(pS ts e (.g i)).av,[],k,a,t,l)):=λhh=>by
   rw [aP]
   by_cases bc:i<ts.length
   ·rw [if_pos (DU bc)]
    refine (dP (ig bc)).trans ?_
    refine bQ (show ¬(tok ts i).ai=6 from λh=>hh ⟨bc,h⟩) ?_
    rfl
   ·rw [if_neg (show ¬(pS ts e (.g i)).fI<((pS ts e (.g i)).fT.length:Int) from λh=>by have h:(i:Int)<(ts.length:Int):=h;omega)]
  obtain ⟨v,o1,o2,o3⟩:=afc (tx ts i)
  cases hw:tw ts i [38,38] with
  | true=>
   have bc:=bU hw
   have k6:kd ts i=6:=by
    have hw2:=hw
    rw [<-aM H aNd aNd] at hw2
    unfold aT at hw2
    rw [At,beq_iff_eq] at hw2
    exact hw2.1
   obtain ⟨s1,x,y,g1,g2,g3⟩:=(IH _ (Lt.g (show i0<i+1 by omega) bc)).bin 6 aNd aNd
   obtain ⟨n1,n2,n3⟩:=next 11 0 s1 x y aNd aNd aNd bc g3
   obtain ⟨s',n',m',f1,f2,f3⟩:=L3 H IH N s1 _ _ g3.ok n3 n1 n2
   refine ⟨s',n',m',?_,?_,f3⟩
   ·have key:aP 5 (pS ts e (.g i)).fT (pS ts e (.g i)).fI (pS ts e (.g i)).aw (pS ts e (.g i)).av [] k a t l=aP 5 (pS ts e s1).fT (pS ts e s1).fI (pS ts e s1).aw (pS ts e s1).av [] 11 0 [] [.mk k a t l,x]:=by
      rw [aP,if_pos (DU bc)]
      refine (dP (ig bc)).trans ?_
      refine mN (show (tok ts i).ai=6 from k6) ?_
      refine (dP (ig bc)).trans ?_
      refine aW (show kj (tok ts i).aq=some v from o1) ?_
      refine (dP (a:=((pS ts e (.g i)).fT,(pS ts e (.g i)).fI,(pS ts e (.g i)).aw,(pS ts e (.g i)).av,false)) (if_neg aNd)).trans ?_
      refine bQ are ?_
      refine (dP (a:=((pS ts e (.g (i+1))).fT,(pS ts e (.g (i+1))).fI,(pS ts e (.g (i+1))).aw,(pS ts e (.g (i+1))).av,true)) ?_).trans ?_
      ·refine mN rfl ?_
       refine aW (cg H hw) ?_
       rfl
      refine mN rfl ?_
      refine aW g1 ?_
      rfl
    rw [show aP 5 (pS ts e (.g i)).fT (pS ts e (.g i)).fI (pS ts e (.g i)).aw (pS ts e (.g i)).av [] (ae.mk k a t l).ai (ae.mk k a t l).aE (ae.mk k a t l).aq (ae.mk k a t l).af=_ from key]
    exact f1
   ·have key:bR (qS ts e' (.g i)).ao (qS ts e' (.g i)).bx (qS ts e' (.g i)).aw (qS ts e' (.g i)).av [] k a t l=bR (qS ts e' s1).ao (qS ts e' s1).bx (qS ts e' s1).aw (qS ts e' s1).av [] 11 0 [] [.mk k a t l,y]:=by
      rw [bR]
      rw [dc]
      refine du (bE H hw) ?_
      refine aW g2 ?_
      rfl
    rw [show bR (qS ts e' (.g i)).ao (qS ts e' (.g i)).bx (qS ts e' (.g i)).aw (qS ts e' (.g i)).av [] (ae.mk k a t l).ai (ae.mk k a t l).aE (ae.mk k a t l).aq (ae.mk k a t l).af=_ from key]
    exact f2
  | false=>
   have fI:J9 (bR (qS ts e' (.g i)).ao (qS ts e' (.g i)).bx (qS ts e' (.g i)).aw (qS ts e' (.g i)).av [] (ae.mk k a t l).ai (ae.mk k a t l).aE (ae.mk k a t l).aq (ae.mk k a t l).af) (.mk k a t l) (qS ts e' (.g i)):=by
    show bR (qS ts e' (.g i)).ao (qS ts e' (.g i)).bx (qS ts e' (.g i)).aw (qS ts e' (.g i)).av [] k a t l=_
    rw [bR]
    rw [dc]
    refine aF (ar (w:=[38,38]) H hs hw) ?_
    rfl
   by_cases h:i<ts.length/\kd ts i=6
   ·obtain ⟨bc,k6⟩:=h
    refine ⟨.g i,.mk k a t l,.mk k a t l,.inl ?_,fI,inv.rs hi⟩
    ·rw [aP,if_pos (DU bc)]
     refine (dP (ig bc)).trans ?_
     refine mN (show (tok ts i).ai=6 from k6) ?_
     refine (dP (ig bc)).trans ?_
     refine aW (show kj (tok ts i).aq=some v from o1) ?_
     refine (dP (a:=((pS ts e (.g i)).fT,(pS ts e (.g i)).fI,(pS ts e (.g i)).aw,(pS ts e (.g i)).av,false)) (if_neg aNd)).trans ?_
     refine bQ are ?_
     refine (dP (a:=((pS ts e (.g i)).fT,(pS ts e (.g i)).fI,(pS ts e (.g i)).aw,(pS ts e (.g i)).av,false)) ?_).trans ?_
     ·refine mN rfl ?_
      rw [iJ]
      refine aW (ax (w:=[38,38]) H hs hw) ?_
      rfl
     refine bQ are ?_
     refine (dP (a:=false) ?_).trans ?_
     ·rcases o3 with rfl | ⟨h1,h2,h3⟩
      ·rw [if_neg aNd]
      ·obtain ⟨lk,v1,v2,v3,v4⟩:=L1 h1 h2
       rw [if_pos (show v>0 by omega),v1,sb,beq_eq_false_iff_ne.2 (show lk≠5 by omega)]
     refine bQ are ?_
     rfl
   ·exact ⟨.g i,.mk k a t l,.mk k a t l,.inr (send h),fI,inv.rs hi⟩
theorem Rr (H:Tk ts e) {i0:Nat} (IH:∀s,Lt ts i0 s->PC ts e e' s):∀(N:Nat) (s:JS) (n m:ae),s.Ok ts->i0<=s.pos->(∀i,s=.g i->ts.length - i<N/\n=m/\Inv ts i0 i n)->(∀j,s=.d j->i0<j/\yo m=false)->
  ∃s' n' m',S9 (aP 4 (pS ts e s).fT (pS ts e s).fI (pS ts e s).aw (pS ts e s).av [] n.ai n.aE n.aq n.af) n' (pS ts e s')/\
   J9 (ca (qS ts e' s).ao (qS ts e' s).bx (qS ts e' s).aw (qS ts e' s).av [] m.ai m.aE m.aq m.af) m' (qS ts e' s')/\Rs ts true 1 (.g i0) s' n' m'
 | N,.b j,n,m,hs,hp,_,_=>by
  refine ⟨.b j,n,m,.inr ?_,?_,Rs.b hs hp⟩
  ·rw [aP,if_neg (show ¬(pS ts e (.b j)).fI<((pS ts e (.b j)).fT.length:Int) from λh=>by have h:(ts.length:Int)<ts.length:=h;omega)]
  ·rw [ca];rw [dc];refine aF (ar (w:=[124,124]) H hs rfl) ?_;rfl
 | N,.d j,n,m,hs,hp,_,hd=>by
  refine ⟨.d j,n,m,.inr ?_,?_,⟨hs,hp,λi h=>aNy,λj' h=>by cases h;exact ⟨⟨i0,rfl⟩,(hd j rfl).1,As _,λ_=>(hd j rfl).2⟩⟩⟩
  ·rw [aP,if_neg (show ¬(pS ts e (.d j)).fI<((pS ts e (.d j)).fT.length:Int) from λh=>by have h:(ts.length:Int)<ts.length:=h;omega)]
  ·rw [ca];rw [dc];refine aF (ar (w:=[124,124]) H hs rfl) ?_;rfl
 | 0,.g i,n,m,_,_,h,_=>by have:=(h i rfl).1;omega
 | N+1,.g i,n,m,hs,hp,hinv,_=>by
  obtain ⟨hN,rfl,inv⟩:=hinv i rfl
  have hi:i<=ts.length:=hs
  have hL:=H.len
  have afb:=inv.lt
  have hwt:=inv.wt
  obtain ⟨k,a,t,l⟩:=n
  have next:∀(k' a':Int) (s1:JS) (x y:ae),k'≠7->k'≠4->k'≠8->i<ts.length->Rs ts true 1 (.g (i+1)) s1 x y->(∀i2,s1=.g i2->ts.length - i2<N/\ae.mk k' a' [] [.mk k a t l,x]=.mk k' a' [] [.mk k a t l,y]/\Inv ts i0 i2 (.mk k' a' [] [.mk k a t l,x]))/\(∀j,s1=.d j->i0<j/\yo (.mk k' a' [] [.mk k a t l,y])=false)/\i0<=s1.pos:=λk' a' s1 x y h7 h4 h8 bc h=>by
   refine ⟨λi2 h2=>?_,λj hj=>⟨?_,DT h7 h4 h8⟩,by have:i+1<=s1.pos:=h.le;omega⟩
   ·obtain ⟨k1,q1,q2,q3,q4,_⟩:=h.good i2 h2
    cases q1
    subst q3
    refine ⟨by omega,rfl,⟨by omega,?_,qF h7,λhh=>by omega⟩⟩
    rw [iI,jk,cG]
    simp only [mg]
    omega
   ·have q:i+1<j:=(h.dm j hj).2.1
    omega
  have DU:i<ts.length->(pS ts e (.g i)).fI<((pS ts e (.g i)).fT.length:Int):=λh=>by show (i:Int)<(ts.length:Int);omega
  have send:¬(i<ts.length/\kd ts i=6)->aP 4 (pS ts e (.g i)).fT (pS ts e (.g i)).fI (pS ts e (.g i)).aw (pS ts e (.g i)).av [] k a t l=some (.inl ((pS ts e (.g i)).fT,(pS ts e (.g i)).fI,(pS ts e (.g i)).aw,(pS ts e (.g i)).av,[],k,a,t,l)):=λhh=>by
   rw [aP]
   by_cases bc:i<ts.length
   ·rw [if_pos (DU bc)]
    refine (dP (ig bc)).trans ?_
    refine bQ (show ¬(tok ts i).ai=6 from λh=>hh ⟨bc,h⟩) ?_
    rfl
   ·rw [if_neg (show ¬(pS ts e (.g i)).fI<((pS ts e (.g i)).fT.length:Int) from λh=>by have h:(i:Int)<(ts.length:Int):=h;omega)]
  obtain ⟨v,o1,o2,o3⟩:=afc (tx ts i)
  cases hw:tw ts i [124,124] with
  | true=>
   have bc:=bU hw
   have k6:kd ts i=6:=by
    have hw2:=hw
    rw [<-aM H aNd aNd] at hw2
    unfold aT at hw2
    rw [At,beq_iff_eq] at hw2
    exact hw2.1
   obtain ⟨s1,x,y,g1,g2,g3⟩:=(IH _ (Lt.g (show i0<i+1 by omega) bc)).bin 5 aNd aNd
   obtain ⟨n1,n2,n3⟩:=next 12 0 s1 x y aNd aNd aNd bc g3
   obtain ⟨s',n',m',f1,f2,f3⟩:=Rr H IH N s1 _ _ g3.ok n3 n1 n2
   refine ⟨s',n',m',?_,?_,f3⟩
   ·have key:aP 4 (pS ts e (.g i)).fT (pS ts e (.g i)).fI (pS ts e (.g i)).aw (pS ts e (.g i)).av [] k a t l=aP 4 (pS ts e s1).fT (pS ts e s1).fI (pS ts e s1).aw (pS ts e s1).av [] 12 0 [] [.mk k a t l,x]:=by
      rw [aP,if_pos (DU bc)]
      refine (dP (ig bc)).trans ?_
      refine mN (show (tok ts i).ai=6 from k6) ?_
      refine (dP (ig bc)).trans ?_
      refine aW (show kj (tok ts i).aq=some v from o1) ?_
      refine (dP (a:=((pS ts e (.g (i+1))).fT,(pS ts e (.g (i+1))).fI,(pS ts e (.g (i+1))).aw,(pS ts e (.g (i+1))).av,true)) ?_).trans ?_
      ·refine mN rfl ?_
       refine aW (cg H hw) ?_
       rfl
      refine mN rfl ?_
      refine aW g1 ?_
      rfl
    rw [show aP 4 (pS ts e (.g i)).fT (pS ts e (.g i)).fI (pS ts e (.g i)).aw (pS ts e (.g i)).av [] (ae.mk k a t l).ai (ae.mk k a t l).aE (ae.mk k a t l).aq (ae.mk k a t l).af=_ from key]
    exact f1
   ·have key:ca (qS ts e' (.g i)).ao (qS ts e' (.g i)).bx (qS ts e' (.g i)).aw (qS ts e' (.g i)).av [] k a t l=ca (qS ts e' s1).ao (qS ts e' s1).bx (qS ts e' s1).aw (qS ts e' s1).av [] 12 0 [] [.mk k a t l,y]:=by
      rw [ca]
      rw [dc]
      refine du (bE H hw) ?_
      refine aW g2 ?_
      rfl
    rw [show ca (qS ts e' (.g i)).ao (qS ts e' (.g i)).bx (qS ts e' (.g i)).aw (qS ts e' (.g i)).av [] (ae.mk k a t l).ai (ae.mk k a t l).aE (ae.mk k a t l).aq (ae.mk k a t l).af=_ from key]
    exact f2
  | false=>
   have fI:J9 (ca (qS ts e' (.g i)).ao (qS ts e' (.g i)).bx (qS ts e' (.g i)).aw (qS ts e' (.g i)).av [] (ae.mk k a t l).ai (ae.mk k a t l).aE (ae.mk k a t l).aq (ae.mk k a t l).af) (.mk k a t l) (qS ts e' (.g i)):=by
    show ca (qS ts e' (.g i)).ao (qS ts e' (.g i)).bx (qS ts e' (.g i)).aw (qS ts e' (.g i)).av [] k a t l=_
    rw [ca]
    rw [dc]
    refine aF (ar (w:=[124,124]) H hs hw) ?_
    rfl
   by_cases h:i<ts.length/\kd ts i=6
   ·obtain ⟨bc,k6⟩:=h
    refine ⟨.g i,.mk k a t l,.mk k a t l,.inl ?_,fI,inv.rs hi⟩
    ·rw [aP,if_pos (DU bc)]
     refine (dP (ig bc)).trans ?_
     refine mN (show (tok ts i).ai=6 from k6) ?_
     refine (dP (ig bc)).trans ?_
     refine aW (show kj (tok ts i).aq=some v from o1) ?_
     refine (dP (a:=((pS ts e (.g i)).fT,(pS ts e (.g i)).fI,(pS ts e (.g i)).aw,(pS ts e (.g i)).av,false)) ?_).trans ?_
     ·refine mN rfl ?_
      rw [iJ]
      refine aW (ax (w:=[124,124]) H hs hw) ?_
      rfl
     refine bQ are ?_
     refine (dP (a:=((pS ts e (.g i)).fT,(pS ts e (.g i)).fI,(pS ts e (.g i)).aw,(pS ts e (.g i)).av,false)) (if_neg aNd)).trans ?_
     refine bQ are ?_
     refine (dP (a:=false) ?_).trans ?_
     ·rcases o3 with rfl | ⟨h1,h2,h3⟩
      ·rw [if_neg aNd]
      ·obtain ⟨lk,v1,v2,v3,v4⟩:=L1 h1 h2
       rw [if_pos (show v>0 by omega),v1,sb,beq_eq_false_iff_ne.2 (show lk≠4 by omega)]
     refine bQ are ?_
     rfl
   ·exact ⟨.g i,.mk k a t l,.mk k a t l,.inr (send h),fI,inv.rs hi⟩
theorem Pz (H:Tk ts e) {i:Nat} (hi:i<=ts.length) (IH:∀s,Lt ts i s->PC ts e e' s):∀k lv:Nat,lv+k=11->4<=lv->C1 ts e e' true 1 (.g i) (λp=>cu p lv) (aCs lv)
 | 0,lv,h,_=>by
  obtain rfl:lv=11:=h
  obtain ⟨s',n,m,g1,g2,g3⟩:=aho (e':=e') H hi IH
  refine ⟨s',n,m,?_,?_,g3⟩
  ·show cu (pS ts e (.g i)) 11=_
   rw [cu,if_pos rfl]
   refine aW g1 ?_
   rfl
  ·show bn (qS ts e' (.g i)) 11=_
   rw [bn,if_pos aNd]
   refine aW g2 ?_
   rfl
 | k+1,lv,h,h4=>by
  obtain ⟨s1,n,m,g1,g2,g3⟩:=Pz H hi IH k (lv+1) aNc aNc
  have g1:cu (pS ts e (.g i)) ((lv+1:Nat):Int)=some (n,pS ts e s1):=g1
  have A1:∀i1,s1=.g i1->ts.length - i1<ts.length+1/\n=m/\Inv ts i i1 n:=λi1 h1=>by
   subst h1
   obtain ⟨q1,q2⟩:=g3.inv
   exact ⟨by omega,q1,q2⟩
  have A2:∀j,s1=.d j->i<j/\yo m=false:=λj hj=>by
   obtain ⟨_,q2,_,q4⟩:=g3.dm j hj
   exact ⟨q2,q4 rfl⟩
  have eS:∀(s':JS) (n':ae),S9 (aP (lv:Int) (pS ts e s1).fT (pS ts e s1).fI (pS ts e s1).aw (pS ts e s1).av [] n.ai n.aE n.aq n.af) n' (pS ts e s')->cu (pS ts e (.g i)) (lv:Int)=some (n',pS ts e s'):=λs' n' f=>by
   rw [cu,if_neg aNc,bN aNc]
   refine aW g1 ?_
   exact f.run
  match lv,h4 with
  | 4,_=>
   have g2:dF (qS ts e' (.g i))=some (m,qS ts e' s1):=g2
   obtain ⟨s',n',m',f1,f2,f3⟩:=Rr (e':=e') H IH _ s1 n m g3.ok g3.le A1 A2
   refine ⟨s',n',m',eS _ _ f1,?_,f3⟩
   show eN (qS ts e' (.g i))=_
   rw [eN]
   refine aW g2 ?_
   exact f2.run
  | 5,_=>
   have g2:bn (qS ts e' (.g i)) 6=some (m,qS ts e' s1):=g2
   obtain ⟨s',n',m',f1,f2,f3⟩:=L3 (e':=e') H IH _ s1 n m g3.ok g3.le A1 A2
   refine ⟨s',n',m',eS _ _ f1,?_,f3⟩
   show dF (qS ts e' (.g i))=_
   rw [dF]
   refine aW g2 ?_
   exact f2.run
  | z+6,_=>
   have g2:bn (qS ts e' (.g i)) ((z+6+1:Nat):Int)=some (m,qS ts e' s1):=g2
   obtain ⟨s',n',m',f1,f2,f3⟩:=L2 (e':=e') H IH (z+6) aNc aNc _ s1 n m g3.ok g3.le A1 A2
   refine ⟨s',n',m',eS _ _ f1,?_,f3⟩
   show bn (qS ts e' (.g i)) ((z+6:Nat):Int)=_
   rw [bn,if_neg aNc,bN aNc]
   refine aW g2 ?_
   exact f2.run
end
set_option maxRecDepth 10000
section
variable {ts:List ah} {e e':Int}
theorem Rt (H:Tk ts e) {i:Nat} (hi:i<=ts.length) (IH:∀s,Lt ts i s->PC ts e e' s):C1 ts e e' true 1 (.g i) eO bY:=by
 obtain ⟨s1,n,m,g1,g2,g3⟩:=Pz (e':=e') H hi IH 7 4 rfl aNd
 have g1:cu (pS ts e (.g i)) 4=some (n,pS ts e s1):=g1
 have g2:eN (qS ts e' (.g i))=some (m,qS ts e' s1):=g2
 rcases IF (ts:=ts) s1 [63,63] with h | ⟨i1,rfl,h⟩
 ·refine ⟨s1,n,m,?_,?_,g3⟩
  ·rw [eO]
   refine aW g1 ?_
   refine aF (ax (w:=[63,63]) H g3.ok h) ?_
   rfl
  ·rw [bY]
   refine aW g2 ?_
   refine aF (ar (w:=[63,63]) H g3.ok h) ?_
   rfl
 ·have bc:=bU h
  have hle:i<=i1:=g3.le
  obtain ⟨s2,x,y,f1,f2,f3⟩:=(IH _ (Lt.g (show i<i1+1 by omega) bc)).aH8
  have FL:i1+1<=s2.pos:=f3.le
  refine ⟨s2,.mk 13 0 [] [n,x],.mk 13 0 [] [m,y],?_,?_,Rs.Rp aNd aNd aNd f3.ok aNc (As _) (λj hj=>?_) (λi' h'=>?_)⟩
  ·rw [eO]
   refine aW g1 ?_
   refine du (cg H h) ?_
   refine aW f1 ?_
   rfl
  ·rw [bY]
   refine aW g2 ?_
   refine du (bE H h) ?_
   refine aW f2 ?_
   rfl
  ·have q:i1+1<j:=(f3.dm j hj).2.1
   omega
  ·obtain ⟨k,q1,q2,q3,q4,_⟩:=f3.good i' h'
   cases q1
   obtain ⟨k,q5,q6,q7,q8,_⟩:=g3.good i1 rfl
   cases q5
   subst q3;subst q7
   refine ⟨by omega,rfl,rfl,?_⟩
   rw [jk,cG]
   simp only [mg]
   omega
theorem Ru (H:Tk ts e) {i:Nat} (hi:i<=ts.length) (IH:∀s,Lt ts i s->PC ts e e' s):C1 ts e e' true 1 (.g i) je dj:=by
 obtain ⟨s1,n,m,g1,g2,g3⟩:=Rt (e':=e') H hi IH
 rcases IF (ts:=ts) s1 [63] with h | ⟨i1,rfl,h⟩
 ·refine ⟨s1,n,m,?_,?_,g3⟩
  ·rw [je]
   refine aW g1 ?_
   refine aF (ax (w:=[63]) H g3.ok h) ?_
   rfl
  ·rw [dj]
   refine aW g2 ?_
   refine aF (ar (w:=[63]) H g3.ok h) ?_
   rfl
 ·have bc:=bU h
  have hle:i<=i1:=g3.le
  obtain ⟨s2,x,y,f1,f2,f3⟩:=(IH _ (Lt.g (show i<i1+1 by omega) bc)).expr
  have FL:i1+1<=s2.pos:=f3.le
  obtain ⟨s3,z,z',h1,h2,h3⟩:=(IH _ (Lt.w (i:=i) f3.ok aNc [58])).cond
  have aH6:=h3.le
  have aJY:=fL (ts:=ts) s2 [58]
  refine ⟨s3,.mk 14 0 [] [n,x,z],.mk 14 0 [] [m,y,z'],?_,?_,Rs.Rp aNd aNd aNd h3.ok aNc (As _) (λj hj=>?_) (λi' h'=>?_)⟩
  ·rw [je]
   refine aW g1 ?_
   refine du (cg H h) ?_
   refine aW f1 ?_
   refine aW (dN H _ f3.ok [58]) ?_
   refine aW h1 ?_
   rfl
  ·rw [dj]
   refine aW g2 ?_
   refine du (bE H h) ?_
   refine aW f2 ?_
   refine aW (eM H _ f3.ok [58]) ?_
   refine aW h2 ?_
   rfl
  ·have q:=(h3.dm j hj).2.1
   omega
  ·obtain ⟨k,q1,q2,q3,q4,_⟩:=h3.good i' h'
   obtain ⟨k1,q9,q10,_⟩:=eV q1
   obtain ⟨k2,r1,r2,r3,r4,_⟩:=f3.good k1 q9
   cases r1
   obtain ⟨k3,q5,q6,q7,q8,_⟩:=g3.good i1 rfl
   cases q5
   subst q3;subst q7;subst r3
   refine ⟨by omega,rfl,rfl,?_⟩
   rw [jk,jk,cG]
   simp only [mg]
   omega
theorem aH9 (H:Tk ts e) {i:Nat} (h:tw ts i [38]=true):∃m,aH (qS ts e' (.g i))=some (m,qS ts e' (.b i)):=by
 have hi:i<=ts.length:=aKC (bU h)
 have hs:(JS.g i).Ok ts:=hi
 have ed:(JS.b i).Ok ts:=hi
 obtain ⟨k4,k5,k2,_⟩:=lh h
 have LZ:jR ts i=false:=zm h aNd aNd aNd
 have hn:wZ ts 3 i=false:=by
  have h6:=h
  rw [<-aM H aNd aNd] at h6
  unfold aT at h6
  rw [At,beq_iff_eq] at h6
  exact aH5 (by rw [h6.1];decide)
 refine ⟨.mk 21 0 ([]++[58,58]++[]) [],?_⟩
 rw [aH]
 refine (dP (bP H _ hs)).trans ?_
 refine bQ qg ?_
 refine aW (tW H hi) ?_
 refine bQ (show ¬jR ts i=true by rw [LZ];exact are) ?_
 refine bQ k2 ?_
 refine aF (ar H hs (w:=[91]) (ay h aNd)) ?_
 refine aF (ar H hs (w:=[40]) (ay h aNd)) ?_
 refine aF (ar H hs (w:=[110,101,119]) (ay h aNd)) ?_
 refine aF (ar H hs (w:=[102,117,110,99,116,105,111,110]) (ay h aNd)) ?_
 refine (dP (a:=(([]:aD),qS ts e' (.b i))) ?_).trans ?_
 ·unfold cE
  refine aF (ar H hs (ay h aNd)) ?_
  refine aW (Pv H hi hn (.inr rfl)) ?_
  rfl
 refine (dP (a:=(Sum.inl ((qS ts e' (.b i)).ao,(qS ts e' (.b i)).bx,(qS ts e' (.b i)).aw,(qS ts e' (.b i)).av):((List ah)×Int×Int×Bool) ⊕ (ae×ak))) ?_).trans ?_
 ·refine bQ (show ¬([]:aD)=[115,116,97,116,105,99] by decide) ?_
  refine aF ((eZ (e':=e') H (.b i) ed [40]).trans (by rw [show tw ts (JS.b i).pos [40]=false from ay h aNd])) ?_
  rfl
 refine aW (eM H _ ed [58,58]) ?_
 refine aW (rz (a:=[]) (b:=[58,58]) aNd) ?_
 refine aW (nC H _ ed rfl 3 (.inr rfl)) ?_
 refine aW (rz (a:=[]++[58,58]) (b:=[]) aNd) ?_
 refine aW (IG H ed) ?_
 rfl
theorem aIa (H:Tk ts e) {i:Nat} (h:tw ts i [38]=true):∃m,a7 (qS ts e' (.g i))=some (m,qS ts e' (.b i)):=by
 have hi:i<=ts.length:=aKC (bU h)
 have hs:(JS.g i).Ok ts:=hi
 have hb:(JS.b i).Ok ts:=hi
 obtain ⟨m,h1⟩:=aH9 (e':=e') H h
 have h2:bW (qS ts e' (.g i)) false=some (m,qS ts e' (.b i)):=by
  rw [bW]
  refine aW h1 ?_
  refine I9.run (x:=_) (.inr ?_)
  rw [aG]
  simp only [iL,if_true]
 have h3:cy (qS ts e' (.g i))=some (m,qS ts e' (.b i)):=by
  rw [cy]
  refine aF (ar (w:=[33]) H hs (ay h aNd)) ?_
  refine aF (ar (w:=[45]) H hs (ay h aNd)) ?_
  refine aW h2 ?_
  rfl
 have h4:∀k lv:Nat,lv+k=11->bn (qS ts e' (.g i)) lv=some (m,qS ts e' (.b i)):=by
  intro k
  induction k with
  | zero=>
   intro lv hl
   obtain rfl:lv=11:=hl
   rw [bn,if_pos aNd]
   refine aW h3 ?_
   rfl
  | succ k ih=>
   intro lv hl
   rw [bn,if_neg aNc,bN aNc]
   refine aW (ih (lv+1) aNc) ?_
   refine I9.run (x:=_) (.inr ?_)
   rw [bI]
   simp only [iL,if_true]
 have h5:dF (qS ts e' (.g i))=some (m,qS ts e' (.b i)):=by
  rw [dF]
  refine aW (h4 5 6 rfl) ?_
  refine J9.run (x:=_) ?_
  rw [bR,dc]
  refine aF (ar (w:=[38,38]) H hb rfl) ?_
  rfl
 have h6:eN (qS ts e' (.g i))=some (m,qS ts e' (.b i)):=by
  rw [eN]
  refine aW h5 ?_
  refine J9.run (x:=_) ?_
  rw [ca,dc]
  refine aF (ar (w:=[124,124]) H hb rfl) ?_
  rfl
 have h7:bY (qS ts e' (.g i))=some (m,qS ts e' (.b i)):=by
  rw [bY]
  refine aW h6 ?_
  refine aF (ar (w:=[63,63]) H hb rfl) ?_
  rfl
 have h8:dj (qS ts e' (.g i))=some (m,qS ts e' (.b i)):=by
  rw [dj]
  refine aW h7 ?_
  refine aF (ar (w:=[63]) H hb rfl) ?_
  rfl
 refine ⟨m,?_⟩
 rw [a7]
 refine aW h8 ?_
 refine mN (show (qS ts e' (.b i)).av=true from rfl) ?_
 rfl
theorem Rs.amY {v:Bool} {D:Nat} {s s':JS} {n m:ae} (h:Rs ts v D s s' n m) (hD:1<=D):Rs ts false 2 s s' n m:=
 ⟨h.ok,h.le,λi' h'=>by
  obtain ⟨i,q1,q2,q3,q4,q5,_⟩:=h.good i' h'
  exact ⟨i,q1,q2,q3,q4,q5,λhh=>by cases hh⟩,λj hj=>by
  obtain ⟨q1,q2,q3,q4⟩:=h.dm j hj
  exact ⟨q1,q2,by omega,λhh=>by omega⟩⟩
theorem II (H:Tk ts e) {i:Nat} (hi:i<=ts.length) (IH:∀s,Lt ts i s->PC ts e e' s):C1 ts e e' false 2 (.g i) bz a7:=by
 have hL:=H.len
 obtain ⟨s1,n,m,g1,g2,g3⟩:=Ru (e':=e') H hi IH
 have back:aS ts s1 0 6 [61]=false->bz (pS ts e (.g i))=some (n,pS ts e s1):=λha=>by
  rw [bz]
  refine aW g1 ?_
  refine aF ((dG H _ g3.ok 6 [61] aNd).trans (by rw [ha])) ?_
  rfl
 match s1,g1,g2,g3,back with
 | .b j,g1,g2,g3,back=>
  refine ⟨.b j,n,m,back rfl,?_,g3.amY (As _)⟩
  rw [a7]
  refine aW g2 ?_
  refine mN (show (qS ts e' (.b j)).av=true from rfl) ?_
  rfl
 | .d j,g1,g2,g3,back=>
  refine ⟨.d j,n,m,back rfl,?_,g3.amY (As _)⟩
  rw [a7]
  refine aW g2 ?_
  refine bQ (show ¬(qS ts e' (.d j)).av=true by rw [Py];exact id) ?_
  refine du ((eZ (e':=e') H (.d j) g3.ok [61]).trans (by rw [show tw ts (JS.d j).pos [61]=true from g3.ok.2])) ?_
  refine aF ((pk m).trans (by rw [(g3.dm j rfl).2.2.2 rfl])) ?_
  rfl
 | .g i1,g1,g2,g3,back=>
  have Tl:i1<=ts.length:=g3.ok
  have hle:i<=i1:=g3.le
  obtain ⟨k0,q0,qlt,Tm,hwt,Ga,hva⟩:=g3.good i1 rfl
  cases q0
  subst Tm
  have isE:aV (qS ts e' (.g i1)) 0 [61]=some (tw ts i1 [61],qS ts e' (.g i1)):=eZ (e':=e') H (.g i1) g3.ok [61]
  cases h:tw ts i1 [61] with
  | false=>
   refine ⟨.g i1,n,n,back ((aM H aNd aNd).trans h),?_,g3.amY (As _)⟩
   rw [a7]
   refine aW g2 ?_
   refine bQ qg ?_
   refine aF (isE.trans (by rw [h])) ?_
   rfl
  | true=>
   have bc:=bU h
   have atE:bq (pS ts e (.g i1)) 0 6 [61]=some (true,pS ts e (.g i1)):=(dG H _ g3.ok 6 [61] aNd).trans (by rw [show aS ts (.g i1) 0 6 [61]=true from (aM H aNd aNd).trans h])
   cases htn:uZ n with
   | false=>
    refine ⟨.d i1,.mk 0 0 [] [],n,?_,?_,⟨⟨bc,h⟩,hle,λi' h'=>(by cases h'),λj hj=>by cases hj;exact ⟨⟨i,rfl⟩,qlt,by decide,λhh=>(by cases hh)⟩⟩⟩
    ·rw [bz]
     refine aW g1 ?_
     refine du atE ?_
     refine aF ((ph n).trans (by rw [htn])) ?_
     refine aW (rA H (.g i1) g3.ok) ?_
     rfl
    ·rw [a7]
     refine aW g2 ?_
     refine bQ qg ?_
     refine du (isE.trans (by rw [h])) ?_
     refine aF ((pk n).trans (by rw [Ga,htn])) ?_
     rfl
   | true=>
    have nJ:(JS.g (i1+1)).Ok ts:=bc
    have atA:bq (pS ts e (.g (i1+1))) 0 6 [38]=some (tw ts (i1+1) [38],pS ts e (.g (i1+1))):=(dG H _ nJ 6 [38] aNd).trans (by rw [show aS ts (.g (i1+1)) 0 6 [38]=tw ts (i1+1) [38] from aM H aNd aNd])
    have FC:(bm ((qS ts e' (.g i1)).bx+1)=bm ((qS ts e' (.g i)).bx+2))↔i1=i+1:=by
     show (bm ((i1:Int)+1)=bm ((i:Int)+2))↔_
     rw [bN aNc,wW aNc aNc]
     omega
    cases ha:tw ts (i1+1) [38] with
    | false=>
     obtain ⟨s2,x,y,f1,f2,f3⟩:=(IH _ (Lt.g (show i<i1+1 by omega) bc)).expr
     have FL:i1+1<=s2.pos:=f3.le
     refine ⟨s2,.mk 15 0 [] [n,x],.mk 15 0 [] [n,y],?_,?_,Rs.Rp aNd aNd aNd f3.ok aNc aNd (λj hj=>?_) (λi' h'=>?_)⟩
     ·rw [bz]
      refine aW g1 ?_
      refine du atE ?_
      refine du ((ph n).trans (by rw [htn])) ?_
      rw [qD H Tl]
      refine aF (atA.trans (by rw [ha])) ?_
      refine aW f1 ?_
      rfl
     ·rw [a7]
      refine aW g2 ?_
      refine bQ qg ?_
      refine du (isE.trans (by rw [h])) ?_
      refine du ((pk n).trans (by rw [Ga,htn])) ?_
      by_cases hal:i1=i+1
      ·refine mN (FC.2 hal) ?_
       refine aW (ig (show i<ts.length by omega)) ?_
       by_cases yP:kd ts i=2
       ·refine mN (show (tok ts i).ai=2 from yP) ?_
        rw [pK H Tl]
        refine aF (ar (w:=[38]) H nJ ha) ?_
        refine aW f2 ?_
        rfl
       ·refine bQ (show ¬(tok ts i).ai=2 from yP) ?_
        rw [pK H Tl]
        refine aW f2 ?_
        rfl
      ·refine bQ (λhh=>hal (FC.1 hh)) ?_
       rw [pK H Tl]
       refine aW f2 ?_
       rfl
     ·have q:i1+1<j:=(f3.dm j hj).2.1
      omega
     ·obtain ⟨k,q1,q2,q3,q4,_⟩:=f3.good i' h'
      cases q1
      subst q3
      refine ⟨by omega,rfl,rfl,?_⟩
      rw [jk,cG]
      simp only [mg]
      omega
    | true=>
     have uV:=bU ha
     have x7:(JS.g (i1+1+1)).Ok ts:=uV
     by_cases hal:n.ai=4/\i1=i+1
     ·have yP:kd ts i=2:=by
       have:=hva rfl hal.2
       rw [hal.1] at this
       have this:=this.symm
       rw [show ((4:Int)==4)=true from rfl,beq_iff_eq] at this
       exact this
      have hn2:=iK H (.g (i1+1+1)) 2
      have FL:=@lM ts (.g (i1+1+1)) 2
      have FL:i1+1+1<=(nS ts (.g (i1+1+1)) 2).pos:=FL
      refine ⟨nS ts (.g (i1+1+1)) 2,.mk 17 0 n.aq [.mk 4 0 (nT ts (.g (i1+1+1)) 2) []],.mk 17 0 n.aq [.mk 4 0 (nT ts (.g (i1+1+1)) 2) []],?_,?_,Rs.node aNd (qG x7 aNd) (tc _ _) aNc (λi' h'=>?_)⟩
      ·rw [bz]
       refine aW g1 ?_
       refine du atE ?_
       refine du ((ph n).trans (by rw [htn])) ?_
       rw [qD H Tl]
       refine du (atA.trans (by rw [ha])) ?_
       refine mN hal.1 ?_
       refine mN (show (pS ts e (.g i1)).fI=bm ((pS ts e (.g i)).fI+1) from by show (i1:Int)=bm ((i:Int)+1);rw [bN aNc,hal.2]) ?_
       rw [qD H nJ]
       refine aW (Pw H _ x7) ?_
       rfl
      ·rw [a7]
       refine aW g2 ?_
       refine bQ qg ?_
       refine du (isE.trans (by rw [h])) ?_
       refine du ((pk n).trans (by rw [Ga,htn])) ?_
       refine mN (FC.2 hal.2) ?_
       refine aW (ig (show i<ts.length by omega)) ?_
       refine mN (show (tok ts i).ai=2 from yP) ?_
       rw [pK H Tl]
       refine du (bE H ha) ?_
       refine aW (Px H _ x7 rfl) ?_
       rfl
      ·obtain ⟨k,q1,q2,_⟩:=lj h'
       cases q1
       refine ⟨by omega,rfl,rfl,?_⟩
       have:=w6 n
       rw [cG,iI,gv]
       omega
     ·obtain ⟨y,f2⟩:=aIa (e':=e') H ha
      refine ⟨.b (i1+1),.mk 0 0 [] [],.mk 15 0 [] [n,y],?_,?_,Rs.b bc aNc⟩
      ·rw [bz]
       refine aW g1 ?_
       refine du atE ?_
       refine du ((ph n).trans (by rw [htn])) ?_
       rw [qD H Tl]
       refine du (atA.trans (by rw [ha])) ?_
       by_cases hk:n.ai=4
       ·refine mN hk ?_
        refine bQ (show ¬(pS ts e (.g i1)).fI=bm ((pS ts e (.g i)).fI+1) from λhh=>by
         have hh:(i1:Int)=bm ((i:Int)+1):=hh
         rw [bN aNc] at hh
         exact hal ⟨hk,by omega⟩) ?_
        refine aW (rA H _ nJ) ?_
        rfl
       ·refine bQ hk ?_
        refine aW (rA H _ nJ) ?_
        rfl
      ·rw [a7]
       refine aW g2 ?_
       refine bQ qg ?_
       refine du (isE.trans (by rw [h])) ?_
       refine du ((pk n).trans (by rw [Ga,htn])) ?_
       by_cases afd:i1=i+1
       ·refine mN (FC.2 afd) ?_
        refine aW (ig (show i<ts.length by omega)) ?_
        have yP:¬kd ts i=2:=λyP=>hal ⟨by
         have:=hva rfl afd
         rw [yP,show ((2:Int)==2)=true from rfl,beq_iff_eq] at this
         exact this,afd⟩
        refine bQ (show ¬(tok ts i).ai=2 from yP) ?_
        rw [pK H Tl]
        refine aW f2 ?_
        rfl
       ·refine bQ (λhh=>afd (FC.1 hh)) ?_
        rw [pK H Tl]
        refine aW f2 ?_
        rfl
end
set_option maxRecDepth 10000
section
variable {ts:List ah} {e e':Int}
theorem comma (s:JS) (c:aD) (hc:(([44]:aD)==c)=false):(∃i,s=.g i/\tw ts i [44]=true/\tw ts i c=false)\/(tS ts s [44]=false/\∃i,s=.g i/\tw ts i c=true)\/(tS ts s [44]=false/\tS ts s c=false):=by
 rcases IF (ts:=ts) s [44] with h | ⟨i,rfl,h⟩
 ·rcases IF (ts:=ts) s c with h2 | ⟨i,rfl,h2⟩
  ·exact .inr (.inr ⟨h,h2⟩)
  ·exact .inr (.inl ⟨h,i,rfl,h2⟩)
 ·exact .inl ⟨i,rfl,h,ay h hc⟩
theorem GN (H:Tk ts e) {i0:Nat} (IH:∀s,Lt ts i0 s->PC ts e e' s):∀(N:Nat) (i:Nat) (l m:List ae),ts.length - i<N->i0<i->i<=ts.length->l.length+ts.length<=10000+i->m.length+ts.length<=10000+i->
  ∃s' x y,S5 (dV (pS ts e (.g i)).fT (pS ts e (.g i)).fI (pS ts e (.g i)).aw (pS ts e (.g i)).av l) (l++x) (pS ts e s')/\
   I5 (cM (qS ts e' (.g i)).ao (qS ts e' (.g i)).bx (qS ts e' (.g i)).aw (qS ts e' (.g i)).av m) (m++y) (qS ts e' s')/\
   s'.Ok ts/\s'.nd=true/\i<=s'.pos/\x.length+i<=s'.pos+1/\y.length+i<=s'.pos+1/\(∀i',s'=.g i'->i<i'/\x=y/\(wl x:Int)+16384*(i:Int)<=16384*(i':Int))
 | 0,i,l,m,h,_,_,_,_=>by omega
 | N+1,i,l,m,hN,h0,hi,hl,hm=>by
  have hL:=H.len
  have hs:(JS.g i).Ok ts:=hi
  obtain ⟨s1,n,n',g1,g2,g3⟩:=(IH _ (Lt.g h0 hi)).expr
  have hle:i<=s1.pos:=g3.le
  have eS:dV (pS ts e (.g i)).fT (pS ts e (.g i)).fI (pS ts e (.g i)).aw (pS ts e (.g i)).av l=
    (aB (pS ts e s1) [44]>>=λ(tt,v53)=>(if tt=true then dV v53.fT v53.fI v53.aw v53.av (l++[n]) else aL v53 [41]>>=λyD=>some (.inr (l++[n],yD)))):=by
   rw [dV]
   simp only [jM,if_true,iJ]
   refine aW g1 ?_
   refine aW (eY _ aNc) ?_
   rfl
  have eI:cM (qS ts e' (.g i)).ao (qS ts e' (.g i)).bx (qS ts e' (.g i)).aw (qS ts e' (.g i)).av m=
    (au (qS ts e' s1) [41]>>=λ(v46,vy)=>(if v46=true then some (.inr (m++[n'],vy)) else aI vy [44]>>=λtt=>cM tt.ao tt.bx tt.aw tt.av (m++[n']))):=by
   rw [cM]
   simp only [iM,if_false,dc]
   refine aW g2 ?_
   refine aW (eY _ aNc) ?_
   rfl
  rcases comma (ts:=ts) s1 [41] aNd with ⟨i2,rfl,h,h2⟩ | ⟨h,i2,rfl,h2⟩ | ⟨h,h2⟩
  ·have bc:=bU h
   obtain ⟨k,q1,q2,q3,q4,_⟩:=g3.good i2 rfl
   cases q1
   subst q3
   have nJ:(JS.g i2).Ok ts:=g3.ok
   obtain ⟨s',x,y,f1,f2,f3,f4,f5,f6,f7,f8⟩:=GN H IH N (i2+1) (l++[n]) (m++[n]) aNc aNc aNc aNq aNq
   rw [aKy] at f1 f2
   have eS2:dV (pS ts e (.g i)).fT (pS ts e (.g i)).fI (pS ts e (.g i)).aw (pS ts e (.g i)).av l=dV (pS ts e (.g (i2+1))).fT (pS ts e (.g (i2+1))).fI (pS ts e (.g (i2+1))).aw (pS ts e (.g (i2+1))).av (l++[n]):=by
    rw [eS]
    refine du (cg H h) ?_
    rfl
   have eI2:cM (qS ts e' (.g i)).ao (qS ts e' (.g i)).bx (qS ts e' (.g i)).aw (qS ts e' (.g i)).av m=cM (qS ts e' (.g (i2+1))).ao (qS ts e' (.g (i2+1))).bx (qS ts e' (.g (i2+1))).aw (qS ts e' (.g (i2+1))).av (m++[n]):=by
    rw [eI]
    refine aF (ar (w:=[41]) H nJ h2) ?_
    refine aW (DV H h) ?_
    rfl
   refine ⟨s',_,_,by rw [eS2];exact f1,by rw [eI2];exact f2,f3,f4,by omega,?_,?_,λi' rT=>?_⟩
   ·simp only [abL,an,mg];omega
   ·simp only [abL,an,mg];omega
   ·obtain ⟨r1,r2,r3⟩:=f8 i' rT
    subst r2
    refine ⟨by omega,rfl,?_⟩
    rw [gU,cG]
    omega
  ·have bc:=bU h2
   obtain ⟨k,q1,q2,q3,q4,_⟩:=g3.good i2 rfl
   cases q1
   subst q3
   have nJ:(JS.g i2).Ok ts:=g3.ok
   refine ⟨.g (i2+1),[n],[n],.inl ?_,.inl ?_,bc,rfl,by show i<=i2+1;omega,?_,?_,λi' rT=>?_⟩
   ·rw [eS]
    refine aF (ax (w:=[44]) H nJ h) ?_
    refine aW (Au H h2) ?_
    rfl
   ·rw [eI]
    refine du (bE H h2) ?_
    rfl
   ·show 1+i<=i2+1+1;omega
   ·show 1+i<=i2+1+1;omega
   ·cases rT
    refine ⟨by omega,rfl,?_⟩
    rw [cG]
    omega
  ·refine ⟨MM s1,[n],[n'],.inl ?_,.inr ?_,Av g3.ok,DW _,by rw [rC];exact hle,?_,?_,λi' rT=>(L4 rT).elim⟩
   ·rw [eS]
    refine aF (ax (w:=[44]) H g3.ok h) ?_
    refine aW ((dN H _ g3.ok [41]).trans (by rw [jV h2])) ?_
    rfl
   ·rw [eI]
    refine aF (ar (w:=[41]) H g3.ok h2) ?_
    refine aW ((eM H _ g3.ok [44]).trans (by rw [jV h])) ?_
    rw [cM]
    simp only [DX,if_true]
   ·rw [rC];show 1+i<=s1.pos+1;omega
   ·rw [rC];show 1+i<=s1.pos+1;omega
theorem afe (H:Tk ts e) {i:Nat} (hi:i<=ts.length) (IH:∀s,Lt ts i s->PC ts e e' s) (a:List ae) (ha:a.length<=100):
  ∃s' l m,dU (pS ts e (.g i)) a=some (l,pS ts e s')/\cV (qS ts e' (.g i))=some (m,qS ts e' s')/\RL ts a (.g i) s' l m:=by
 have hL:=H.len
 have hs:(JS.g i).Ok ts:=hi
 have hb:(JS.b i).Ok ts:=hi
 cases h:tw ts i [40] with
 | false=>
  refine ⟨.b i,a,[],?_,?_,⟨hi,rfl,As i,by show a.length+i<=a.length+i+1;omega,by show 0+i<=i+1;omega,λi' h'=>(by cases h')⟩⟩
  ·rw [dU]
   refine aW ((dN H _ hs [40]).trans (by rw [aCt h])) ?_
   refine aF (ax (w:=[41]) H hb rfl) ?_
   refine S5.run (x:=_) (.inr ?_)
   rw [dV]
   simp only [pD H,if_false]
  ·rw [cV]
   refine aW ((eM H _ hs [40]).trans (by rw [aCt h])) ?_
   refine aF (ar (w:=[41]) H hb rfl) ?_
   refine I5.run (x:=_) (.inr ?_)
   rw [cM]
   simp only [iL,if_true]
 | true=>
  have bc:=bU h
  have ed:(JS.g (i+1)).Ok ts:=bc
  cases h2:tw ts (i+1) [41] with
  | true=>
   have uV:=bU h2
   refine ⟨.g (i+1+1),a,[],?_,?_,⟨uV,rfl,by show i<=i+1+1;omega,by show a.length+i<=a.length+(i+1+1)+1;omega,by show 0+i<=i+1+1+1;omega,λi' h'=>?_⟩⟩
   ·rw [dU]
    refine aW (Au H h) ?_
    refine du (cg H h2) ?_
    rfl
   ·rw [cV]
    refine aW (DV H h) ?_
    refine du (bE H h2) ?_
    rfl
   ·cases h'
    exact ⟨i,rfl,by omega,by simp,by rw [gv];omega⟩
  | false=>
   obtain ⟨s',x,y,f1,f2,f3,f4,f5,f6,f7,f8⟩:=GN H IH _ (i+1) a [] (aKe _) (aKe i) bc aNc aNl
   refine ⟨s',a++x,[]++y,?_,?_,⟨f3,f4,by show i<=s'.pos;omega,?_,?_,λi' h'=>?_⟩⟩
   ·rw [dU]
    refine aW (Au H h) ?_
    refine aF (ax (w:=[41]) H ed h2) ?_
    exact f1.run
   ·rw [cV]
    refine aW (DV H h) ?_
    refine aF (ar (w:=[41]) H ed h2) ?_
    exact f2.run
   ·simp only [abL];show a.length+x.length+i<=a.length+s'.pos+1;omega
   ·simp only [aKk];show y.length+i<=s'.pos+1;omega
   ·obtain ⟨r1,r2,r3⟩:=f8 i' h'
    subst r2
    exact ⟨i,rfl,by omega,rfl,by simp only [aKk];omega⟩
def S10 (x:Option (((List ah)×Int×Int×Int×(List ae)×(List ae)) ⊕ (ae×aC))) (l:List ae) (p:aC):Prop:=x=some (.inr (.mk 5 0 [] l,p))\/x=some (.inl (p.fT,p.fI,p.aw,p.av,[],l))
def I10 (x:Option (((List ah)×Int×Int×Bool×(List ae)×(List ae)) ⊕ (ae×ak))) (l:List ae) (p:ak):Prop:=x=some (.inr (.mk 5 0 [] l,p))\/x=some (.inl (p.ao,p.bx,p.aw,p.av,[],l))
theorem S10.run {x:Option (((List ah)×Int×Int×Int×(List ae)×(List ae)) ⊕ (ae×aC))} {l:List ae} {p:aC} (h:S10 x l p):(x>>=λo=>match o with
  | .inr r=>some r
  | .inl (l5,y6,y7,y8,l9,Ff)=>some ((ae.mk 5 0 [] Ff),(aC.mk l5 y6 y7 y8)))=some (.mk 5 0 [] l,p):=by
 rcases h with h | h<;>rw [h]<;>rfl
theorem I10.run {x:Option (((List ah)×Int×Int×Bool×(List ae)×(List ae)) ⊕ (ae×ak))} {l:List ae} {p:ak} (h:I10 x l p):(x>>=λo=>match o with
  | .inr r=>some r
  | .inl (l5,y6,y7,y8,l9,Ff)=>some ((ae.mk 5 0 [] Ff),(ak.mk l5 y6 y7 y8)))=some (.mk 5 0 [] l,p):=by
 rcases h with h | h<;>rw [h]<;>rfl
theorem GO (H:Tk ts e) {i0:Nat} (IH:∀s,Lt ts i0 s->PC ts e e' s) (E0:C1 ts e e' false 2 (.g i0) bz a7):∀(N:Nat) (i:Nat) (l m:List ae),ts.length - i<N->i0<=i->i<=ts.length->l.length+ts.length<=10000+i->m.length+ts.length<=10000+i->
  ∃s' x y,S10 (eJ (pS ts e (.g i)).fT (pS ts e (.g i)).fI (pS ts e (.g i)).aw (pS ts e (.g i)).av [] l) (l++x) (pS ts e s')/\
   I10 (cW (qS ts e' (.g i)).ao (qS ts e' (.g i)).bx (qS ts e' (.g i)).aw (qS ts e' (.g i)).av [] m) (m++y) (qS ts e' s')/\
   s'.Ok ts/\s'.nd=true/\i<=s'.pos/\(∀i',s'=.g i'->i+1<i'/\x=y/\(wl x:Int)+16384*(i:Int)+8192<=16384*(i':Int))
 | 0,i,l,m,h,_,_,_,_=>by omega
 | N+1,i,l,m,hN,h0,hi,hl,hm=>by
  have hL:=H.len
  have hs:(JS.g i).Ok ts:=hi
  have hE:C1 ts e e' false 2 (.g i) bz a7:=by
   rcases Nat.eq_or_lt_of_le h0 with h | h
   ·rw [<-h];exact E0
   ·exact (IH _ (Lt.g h hi)).expr
  obtain ⟨s0,n,n',g1,g2,g3⟩:=hE
  have hle:i<=s0.pos:=g3.le
  obtain ⟨s1,c,c',e1,e2,ok1,ae8,wc⟩:∃(s1:JS) (c c':List ae),
    (aB (pS ts e s0) [61,62]>>=λ(Jl,zD)=>(if Jl=true then bz zD>>=λ(EB,AR)=>cC 56 ([n]:List ae) [EB]>>=λFj=>some (AR.fT,AR.fI,AR.aw,AR.av,Fj) else some (zD.fT,zD.fI,zD.aw,zD.av,([n]:List ae))))=some ((pS ts e s1).fT,(pS ts e s1).fI,(pS ts e s1).aw,(pS ts e s1).av,c)/\
    (au (qS ts e' s0) [61,62]>>=λ(Jl,zD)=>(if Jl=true then a7 zD>>=λ(EB,AR)=>cC 56 ([n']:List ae) [EB]>>=λFj=>some (AR.ao,AR.bx,AR.aw,AR.av,Fj) else some (zD.ao,zD.bx,zD.aw,zD.av,([n']:List ae))))=some ((qS ts e' s1).ao,(qS ts e' s1).bx,(qS ts e' s1).aw,(qS ts e' s1).av,c')/\
    s1.Ok ts/\i<=s1.pos/\(∀i2,s1=.g i2->i<i2/\c=c'/\(wl c:Int)+16384*(i:Int)+8191<=16384*(i2:Int)):=by
   rcases IF (ts:=ts) s0 [61,62] with h | ⟨i1,rfl,h⟩
   ·refine ⟨s0,[n],[n'],?_,?_,g3.ok,hle,λi2 h2=>?_⟩
    ·refine aF (ax (w:=[61,62]) H g3.ok h) ?_
     rfl
    ·refine aF (ar (w:=[61,62]) H g3.ok h) ?_
     rfl
    ·obtain ⟨k,q1,q2,q3,q4,_⟩:=g3.good i2 h2
     cases q1
     subst q3
     exact ⟨q2,rfl,by rw [cG];omega⟩
   ·have bc:=bU h
    have hle:i<=i1:=hle
    obtain ⟨s1,x,x',f1,f2,f3⟩:=(IH _ (Lt.g (show i0<i1+1 by omega) bc)).expr
    have ae8:i1+1<=s1.pos:=f3.le
    refine ⟨s1,[n,x],[n',x'],?_,?_,f3.ok,by omega,λi2 h2=>?_⟩
    ·refine du (cg H h) ?_
     refine aW f1 ?_
     refine aW (eY (l:=[n]) _ aNf) ?_
     rfl
    ·refine du (bE H h) ?_
     refine aW f2 ?_
     refine aW (eY (l:=[n']) _ aNf) ?_
     rfl
    ·obtain ⟨k,q1,q2,q3,q4,_⟩:=f3.good i2 h2
     cases q1
     obtain ⟨k,q5,q6,q7,q8,_⟩:=g3.good i1 rfl
     cases q5
     subst q3;subst q7
     exact ⟨by omega,rfl,by rw [jk,cG];omega⟩
  have eS:eJ (pS ts e (.g i)).fT (pS ts e (.g i)).fI (pS ts e (.g i)).aw (pS ts e (.g i)).av [] l=
    (aB (pS ts e s1) [44]>>=λ(v80,zU)=>(if v80=true then eJ zU.fT zU.fI zU.aw zU.av [] (l++[.mk 6 0 [] c]) else aL zU [93]>>=λGA=>some (.inr ((ae.mk 5 0 [] (l++[.mk 6 0 [] c])),GA)))):=by
   rw [eJ]
   simp only [jM,if_true,iJ]
   refine aW g1 ?_
   refine aW e1 ?_
   refine aW (eY _ aNc) ?_
   rfl
  have eI:cW (qS ts e' (.g i)).ao (qS ts e' (.g i)).bx (qS ts e' (.g i)).aw (qS ts e' (.g i)).av [] m=
    (au (qS ts e' s1) [93]>>=λ(v80,zU)=>(if v80=true then some (.inr ((ae.mk 5 0 [] (m++[.mk 6 0 [] c'])),zU)) else aI zU [44]>>=λGA=>cW GA.ao GA.bx GA.aw GA.av [] (m++[.mk 6 0 [] c']))):=by
   rw [cW]
   simp only [iM,if_false,dc]
   refine aW g2 ?_
   refine aW e2 ?_
   refine aW (eY _ aNc) ?_
   rfl
  have hit:∀z:List ae,wl [ae.mk 6 0 [] z]=1+wl z:=λz=>by rw [cG,iI];simp
  rcases comma (ts:=ts) s1 [93] aNd with ⟨i2,rfl,h,h2⟩ | ⟨h,i2,rfl,h2⟩ | ⟨h,h2⟩
  ·have bc:=bU h
   obtain ⟨q2,q3,q4⟩:=wc i2 rfl
   subst q3
   have nJ:(JS.g i2).Ok ts:=ok1
   obtain ⟨s',x,y,f1,f2,f3,f4,f5,f8⟩:=GO H IH E0 N (i2+1) (l++[.mk 6 0 [] c]) (m++[.mk 6 0 [] c]) aNc aNc aNc aNq aNq
   rw [aKy] at f1 f2
   have eS2:eJ (pS ts e (.g i)).fT (pS ts e (.g i)).fI (pS ts e (.g i)).aw (pS ts e (.g i)).av [] l=eJ (pS ts e (.g (i2+1))).fT (pS ts e (.g (i2+1))).fI (pS ts e (.g (i2+1))).aw (pS ts e (.g (i2+1))).av [] (l++[.mk 6 0 [] c]):=by
    rw [eS]
    refine du (cg H h) ?_
    rfl
   have eI2:cW (qS ts e' (.g i)).ao (qS ts e' (.g i)).bx (qS ts e' (.g i)).aw (qS ts e' (.g i)).av [] m=cW (qS ts e' (.g (i2+1))).ao (qS ts e' (.g (i2+1))).bx (qS ts e' (.g (i2+1))).aw (qS ts e' (.g (i2+1))).av [] (m++[.mk 6 0 [] c]):=by
    rw [eI]
    refine aF (ar (w:=[93]) H nJ h2) ?_
    refine aW (DV H h) ?_
    rfl
   refine ⟨s',_,_,by rw [eS2];exact f1,by rw [eI2];exact f2,f3,f4,by omega,λi' rT=>?_⟩
   obtain ⟨r1,r2,r3⟩:=f8 i' rT
   subst r2
   refine ⟨by omega,rfl,?_⟩
   rw [gU,hit]
   omega
  ·have bc:=bU h2
   obtain ⟨q2,q3,q4⟩:=wc i2 rfl
   subst q3
   have nJ:(JS.g i2).Ok ts:=ok1
   refine ⟨.g (i2+1),[.mk 6 0 [] c],[.mk 6 0 [] c],.inl ?_,.inl ?_,bc,rfl,by show i<=i2+1;omega,λi' rT=>?_⟩
   ·rw [eS]
    refine aF (ax (w:=[44]) H nJ h) ?_
    refine aW (Au H h2) ?_
    rfl
   ·rw [eI]
    refine du (bE H h2) ?_
    rfl
   ·cases rT
    refine ⟨by omega,rfl,?_⟩
    rw [hit]
    omega
  ·refine ⟨MM s1,[.mk 6 0 [] c],[.mk 6 0 [] c'],.inl ?_,.inr ?_,Av ok1,DW _,by rw [rC];exact ae8,λi' rT=>(L4 rT).elim⟩
   ·rw [eS]
    refine aF (ax (w:=[44]) H ok1 h) ?_
    refine aW ((dN H _ ok1 [93]).trans (by rw [jV h2])) ?_
    rfl
   ·rw [eI]
    refine aF (ar (w:=[93]) H ok1 h2) ?_
    refine aW ((eM H _ ok1 [44]).trans (by rw [jV h])) ?_
    rw [cW]
    simp only [DX,if_true]
theorem aff (H:Tk ts e) {i:Nat} (hi:i<=ts.length) (IH:∀s,Lt ts i s->PC ts e e' s):C1 ts e e' false 0 (.g i) jd gq:=by
 have hL:=H.len
 have hs:(JS.g i).Ok ts:=hi
 cases h:tw ts i [93] with
 | true=>
  have bc:=bU h
  refine ⟨.g (i+1),.mk 5 0 [] [],.mk 5 0 [] [],?_,?_,⟨bc,aKQ i,λi' h'=>(by cases h';exact ⟨i,rfl,aKe i,rfl,by rw [iI,gv];simp only [mg];omega,qF aNd,λhh=>by cases hh⟩),λj hj=>(by cases hj)⟩⟩
  ·rw [jd]
   refine du (cg H h) ?_
   rfl
  ·rw [gq]
   refine du (bE H h) ?_
   rfl
 | false=>
  obtain ⟨s',x,y,f1,f2,f3,f4,f5,f8⟩:=GO H IH (II H hi IH) _ i [] [] (aKe _) (As i) hi aNl aNl
  refine ⟨s',.mk 5 0 [] ([]++x),.mk 5 0 [] ([]++y),?_,?_,Rs.node aNd f3 f4 f5 (λi' h'=>?_)⟩
  ·rw [jd]
   refine aF (ax (w:=[93]) H hs h) ?_
   exact f1.run
  ·rw [gq]
   refine aF (ar (w:=[93]) H hs h) ?_
   exact f2.run
  ·obtain ⟨r1,r2,r3⟩:=f8 i' h'
   subst r2
   simp only [aKk,mg]
   exact ⟨by omega,trivial,trivial,by omega⟩
def S11 (x:Option ((List ah)×Int×Int×Int×(List ae)×(List ae))) (l:List ae) (p:aC):Prop:=x=some (p.fT,p.fI,p.aw,p.av,[],l)
def I11 (x:Option ((List ah)×Int×Int×Bool×(List ae)×(List ae))) (l:List ae) (p:ak):Prop:=x=some (p.ao,p.bx,p.aw,p.av,[],l)
theorem ya (H:Tk ts e) {i0:Nat} (IH:∀s,Lt ts i0 s->PC ts e e' s):∀(N:Nat) (s:JS) (l m:List ae),s.Ok ts->s.nd=true->i0<=s.pos->(∀i,s=.g i->ts.length - i<N/\i0<i)->l.length+ts.length<=10000+s.pos->m.length+ts.length<=10000+s.pos->
  ∃s' x y,S11 (dh (pS ts e s).fT (pS ts e s).fI (pS ts e s).aw (pS ts e s).av [] l) (l++x) (pS ts e s')/\I11 (cw (qS ts e' s).ao (qS ts e' s).bx (qS ts e' s).aw (qS ts e' s).av [] m) (m++y) (qS ts e' s')/\
   s'.Ok ts/\s'.nd=true/\i0<=s'.pos/\(∀i',s'=.g i'->∃i,s=.g i/\i<i'/\x=y/\(wl x:Int)+16384*(i:Int)+8192<=16384*(i':Int))
 | N,.d j,l,m,_,hd,_,_,_,_=>by cases hd
 | N,.b j,l,m,hs,_,hp,_,_,_=>by
  refine ⟨.b j,[],[],?_,?_,hs,rfl,hp,λi' h=>by cases h⟩
  ·rw [dh];simp only [pD H,if_false,aKF];rfl
  ·rw [cw];simp only [iL,if_true,aKF];rfl
 | 0,.g i,_,_,_,_,_,h,_,_=>by have:=(h i rfl).1;omega
 | N+1,.g i,l,m,hs,_,hp,hN,hl,hm=>by
  have hL:=H.len
  obtain ⟨hN,h0⟩:=hN i rfl
  have hi:i<=ts.length:=hs
  have hl:l.length+ts.length<=10000+i:=hl
  have hm:m.length+ts.length<=10000+i:=hm
  cases h1:tw ts i [125] with
  | true=>
   have bc:=bU h1
   refine ⟨.g (i+1),[],[],?_,?_,bc,rfl,by show i0<=i+1;omega,λi' h=>?_⟩
   ·show _=_
    rw [dh]
    simp only [jM,if_true,iJ,aKF]
    refine du (cg H h1) ?_
    rfl
   ·show _=_
    rw [cw]
    simp only [iM,if_false,dc,aKF]
    refine du (bE H h1) ?_
    rfl
   ·cases h
    exact ⟨i,rfl,aKe i,rfl,by rw [gv];omega⟩
  | false=>
   cases h2:tw ts i [59] with
   | true=>
    have bc:=bU h2
    obtain ⟨s',x,y,f1,f2,f3,f4,f5,f6⟩:=ya H IH N (.g (i+1)) l m bc rfl (by show i0<=i+1;omega) (λk hk=>by cases hk;omega) (by show l.length+ts.length<=10000+(i+1);omega) (by show m.length+ts.length<=10000+(i+1);omega)
    refine ⟨s',x,y,?_,?_,f3,f4,f5,λi' h=>?_⟩
    ·refine Eq.trans ?_ f1
     rw [dh]
     simp only [jM,if_true,iJ]
     refine aF (ax (w:=[125]) H hs h1) ?_
     refine du (cg H h2) ?_
     rfl
    ·refine Eq.trans ?_ f2
     rw [cw]
     simp only [iM,if_false,dc]
     refine aF (ar (w:=[125]) H hs h1) ?_
     refine du (bE H h2) ?_
     rfl
    ·obtain ⟨k,q1,q2,q3,q4⟩:=f6 i' h
     cases q1
     exact ⟨i,rfl,by omega,q3,by omega⟩
   | false=>
    obtain ⟨s1,n,n',g1,g2,g3⟩:=(IH _ (Lt.g h0 hi)).stmt
    have hle:i<=s1.pos:=g3.le
    have l1:=Lt.rs (i:=i) g3 (λk hk=>by cases hk;exact As i)
    have Tv:∀k,s1=.g k->i<k:=l1.lt
    have aIZ:l.length+1+ts.length<=10000+s1.pos+1:=by omega
    by_cases hg:∃k,s1=.g k
    ·obtain ⟨k,rfl⟩:=hg
     obtain ⟨k1,q1,q2,q3,q4,_⟩:=g3.good k rfl
     cases q1
     subst q3
     obtain ⟨s',x,y,f1,f2,f3,f4,f5,f6⟩:=ya H IH N (.g k) (l++[n]) (m++[n]) g3.ok rfl (by show i0<=k;omega) (λk' hk=>by cases hk;have q:k<=ts.length:=g3.ok;omega) (by simp only [abL,an,mg];show _<=10000+k;omega) (by simp only [abL,an,mg];show _<=10000+k;omega)
     rw [aKy] at f1 f2
     refine ⟨s',[n]++x,[n]++y,?_,?_,f3,f4,f5,λi' h=>?_⟩
     ·refine Eq.trans ?_ f1
      rw [dh]
      simp only [jM,if_true,iJ]
      refine aF (ax (w:=[125]) H hs h1) ?_
      refine aF (ax (w:=[59]) H hs h2) ?_
      refine aW g1 ?_
      refine aW (eY _ aNc) ?_
      rfl
     ·refine Eq.trans ?_ f2
      rw [cw]
      simp only [iM,if_false,dc]
      refine aF (ar (w:=[125]) H hs h1) ?_
      refine aF (ar (w:=[59]) H hs h2) ?_
      refine aW g2 ?_
      refine aW (eY _ aNc) ?_
      rfl
     ·obtain ⟨k',r1,r2,r3,r4⟩:=f6 i' h
      cases r1
      subst r3
      refine ⟨i,rfl,by omega,rfl,?_⟩
      rw [gU,cG]
      omega
    ·have hb:∃j,s1=.b j:=(zn l1.nd).resolve_left hg
     obtain ⟨j,rfl⟩:=hb
     refine ⟨.b j,[n],[n'],?_,?_,g3.ok,rfl,by show i0<=j;have hle:i<=j:=hle;omega,λi' h=>by cases h⟩
     ·show _=_
      rw [dh]
      simp only [jM,if_true,iJ]
      refine aF (ax (w:=[125]) H hs h1) ?_
      refine aF (ax (w:=[59]) H hs h2) ?_
      refine aW g1 ?_
      refine aW (eY _ aNc) ?_
      rw [dh]
      simp only [pD H,if_false]
     ·show _=_
      rw [cw]
      simp only [iM,if_false,dc]
      refine aF (ar (w:=[125]) H hs h1) ?_
      refine aF (ar (w:=[59]) H hs h2) ?_
      refine aW g2 ?_
      refine aW (eY _ aNc) ?_
      rw [cw]
      simp only [iL,if_true]
theorem L5 (H:Tk ts e) {i:Nat} (hi:i<=ts.length) (IH:∀s,Lt ts i s->PC ts e e' s):C1 ts e e' false 0 (.g i) bV bs:=by
 have hL:=H.len
 have hs:(JS.g i).Ok ts:=hi
 have l1:=Lt.w (i:=i) hs (As i) [123]
 have hp:=fL (ts:=ts) (.g i) [123]
 have hp:i<=(wS ts (.g i) [123]).pos:=hp
 have ho:=okp l1.ok
 obtain ⟨s',x,y,f1,f2,f3,f4,f5,f6⟩:=ya H IH (ts.length+1) (wS ts (.g i) [123]) [] [] l1.ok l1.nd hp (λk hk=>⟨by omega,l1.lt k hk⟩) aNl aNl
 refine ⟨s',.mk 48 0 [] ([]++x),.mk 48 0 [] ([]++y),?_,?_,Rs.node aNd f3 f4 f5 (λi' h'=>?_)⟩
 ·rw [bV]
  refine aW (dN H _ hs [123]) ?_
  refine aW f1 ?_
  rfl
 ·rw [bs]
  refine aW (eM H _ hs [123]) ?_
  refine aW f2 ?_
  rfl
 ·obtain ⟨k,q1,q2,q3,q4⟩:=f6 i' h'
  obtain ⟨k1,q5,q6,_⟩:=eV q1
  cases q5
  subst q3
  simp only [aKk,mg]
  exact ⟨by omega,trivial,trivial,by omega⟩
end
end Go.Am
