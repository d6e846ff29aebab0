/- Texts of the proof, joined and shortened. -/
import Derived.Test.YtpokcbjeloeoiaaGreatDoorPk12
set_option linter.unusedVariables false
set_option linter.unusedSimpArgs false
set_option maxRecDepth 10000
namespace Go.Am
open Go Go.RowKit Go.Proofs
section
variable {ts:List aj}{e e':Int}
theorem JJ (H:Tk ts e) {i:Nat} (f:∀s,Lt ts i s->PC ts e e' s) (a:JS) (hs:a.Ok ts) (hd:a.nd=true) (t:i<=a.pos):
  ∃s' l m,eG (pS ts e (nS ts (wS ts a [58,58]) 3)) []=some (l,pS ts e s')/\dx (qS ts e' (nS ts (wS ts a [58,58]) 3))=some (m,qS ts e' s')/\s'.Ok ts/\s'.nd=true/\i<=s'.pos/\
   ∀b,s'=.g b->∃i0,a=.g i0/\i0+2<b/\l=m/\(wl l:Int)+16384*(i0:Int)+32768<=16384*(b:Int):=by
 have h1:=kA hs [58,58];have u:=gz (ts:=ts) a [58,58];have v:=mQ (ts:=ts) (wS ts a [58,58]) 3;have h:=Lt.n (ts:=ts) (c:=3) (i:=i) h1 aRK aRL;obtain⟨s',l,m,j,g2,d⟩:=(f _ h).args [] aRN;refine⟨s',l,m,j,g2,d.ok,d.nd,by have:=d.le;omega,λb o=>?_⟩;obtain⟨k,q1,q2,q3,q4⟩:=d.good b o;obtain⟨k1,p,w,_⟩:=mi q1;obtain⟨q,r,x,_⟩:=fG p;rw[aOB]at q3;subst q3;exact⟨q,r,by omega,rfl,by omega⟩
theorem Po (H:Tk ts e) {i:Nat} (hi:i<=ts.length) (h:∀s,Lt ts i s->PC ts e e' s) (hw:tw ts i [115,116,97,116,105,99]=true):C1 ts e e' true 0 (.g i) aP aL:=by
 have hs:(JS.g i).Ok ts:=hi;have d:=ca hw;obtain⟨j,k,f,_⟩:=mh hw;have c:(JS.g (i+1)).Ok ts:=d;obtain⟨s',l,m,n,g2,o,p,q,r⟩:=JJ H h (.g (i+1)) c rfl (aPj i);refine⟨s',.mk 21 0 ([115,116,97,116,105,99]++[58,58]++nT ts (wS ts (.g (i+1)) [58,58]) 3) l,.mk 21 0 ([115,116,97,116,105,99]++[58,58]++nT ts (wS ts (.g (i+1)) [58,58]) 3) m,?_,?_,Rs.node aRL o p ?_ ?_⟩
 ·rw[aP];refine bX (mN d) ?_;refine(eu (iR d)).trans ?_;refine bX j ?_;refine bX k ?_;refine bX f ?_;refine aI (ay H hs (w:=[110,117,108,108]) (az hw aRL)) ?_;refine aI (ay H hs (w:=[102,97,108,115,101]) (az hw aRL)) ?_;refine aI (ay H hs (w:=[116,114,117,101]) (az hw aRL)) ?_;refine aI (ay H hs (w:=[91]) (az hw aRL)) ?_;refine aI (ay H hs (w:=[40]) (az hw aRL)) ?_;refine aI (ay H hs (w:=[110,101,119]) (az hw aRL)) ?_;refine aI (ay H hs (w:=[102,117,110,99,116,105,111,110]) (az hw aRL)) ?_;refine(eu (a:=(Sum.inl ((pS ts e (.g (i+1))).fT,(pS ts e (.g (i+1))).fI,(pS ts e (.g (i+1))).ax,(pS ts e (.g (i+1))).aw,([115,116,97,116,105,99]:aE)):((List aj)×Int×Int×Int×aE) ⊕ (ae×aH))) ?_).trans ?_
  ·refine dM (cy H hw) ?_;rfl
  refine aY (eh H _ c [58,58]) ?_;refine aY (tB (a:=([115,116,97,116,105,99]:aE)) (b:=[58,58]) aSj) ?_;refine aY (pE H _ (kA c _) 3) ?_;refine aY (tB aSe) ?_;refine aY n ?_;rfl
 ·rw[aL];refine(eu (bV H _ hs)).trans ?_;refine bX qg ?_;refine aY (vx H hi) ?_;refine bX (show ¬kx ts i=true by rw[Bx hw aRL aRL aRL];exact aOo) ?_;refine bX f ?_;refine aI (au H hs (w:=[91]) (az hw aRL)) ?_;refine aI (au H hs (w:=[40]) (az hw aRL)) ?_;refine aI (au H hs (w:=[110,101,119]) (az hw aRL)) ?_;refine aI (au H hs (w:=[102,117,110,99,116,105,111,110]) (az hw aRL)) ?_;refine(eu (a:=(([115,116,97,116,105,99]:aE),qS ts e' (.g (i+1)))) ?_).trans ?_
  ·unfold cU;refine dM (bH H hw) ?_;rfl
  refine(eu (a:=(Sum.inl ((qS ts e' (.g (i+1))).ar,(qS ts e' (.g (i+1))).bA,(qS ts e' (.g (i+1))).ax,(qS ts e' (.g (i+1))).aw):((List aj)×Int×Int×Bool) ⊕ (ae×ao))) ?_).trans ?_
  ·refine oC rfl ?_;rfl
  refine aY (fv H _ c [58,58]) ?_;refine aY (tB (a:=([115,116,97,116,105,99]:aE)) (b:=[58,58]) aSj) ?_;refine aY (oV H _ (kA c _) (nB _ _) 3 (.inr rfl)) ?_;refine aY (tB aSe) ?_;refine aY g2 ?_;rfl
 ·exact q
 ·intro t u;obtain⟨i0,q1,q2,q3,q4⟩:=r t u;cases q1;refine⟨by omega,rfl,q3,?_⟩;have:=(show([115,116,97,116,105,99]:aE).length<=4000 by decide);have:=js H (wS ts (.g (i+1)) [58,58]) 3;simp only[aOj,At,No];omega
theorem Xg (H:Tk ts e) {i:Nat} (hi:i<=ts.length) (G:∀s,Lt ts i s->PC ts e e' s) (z:¬kd ts i=4) (A:¬kd ts i=5) (o:¬kd ts i=2) (B:tw ts i [110,117,108,108]=false) (f2:tw ts i [102,97,108,115,101]=false) (C:tw ts i [116,114,117,101]=false) (p:tw ts i [91]=false) (n:tw ts i [40]=false) (q:tw ts i [110,101,119]=false) (r:tw ts i [102,117,110,99,116,105,111,110]=false) (j:tw ts i [115,116,97,116,105,99]=false):C1 ts e e' true 0 (.g i) aP aL:=by
 have hs:(JS.g i).Ok ts:=hi;have D:kx ts i=false:=by unfold kx;rw[an.2 z,an.2 A,B,f2,C];rfl
 cases f:yK ts 3 i with
 | true=>
  have d:=Tc aRL f;have c:(JS.g (i+1)).Ok ts:=d;have hx:=vw H i
  have u:¬tx ts i=([115,116,97,116,105,99]:aE):=λhh=>by
   unfold yK at f;rw[As,aOm]at f;unfold tw at j;rw[f.1,hh]at j;exact absurd j aRL
  have v:cU (qS ts e' (.g i))=some (tx ts i,qS ts e' (.g (i+1))):=by
   unfold cU;refine aI (au H hs j) ?_;refine aY ((oV H (.g i) hs rfl 3 (.inr rfl)).trans (by rw[R8 f,R7 f])) ?_;rfl
  have x:cw (pS ts e (.g i)) 3=some (tx ts i,pS ts e (.g (i+1))):=by rw[pE H (.g i) hs 3,R8 f,R7 f]
  cases hp:tw ts (i+1) [40]with
  | true=>
   obtain⟨s',l,m,E,g2,t⟩:=(G (.g (i+1)) (Lt.g (aOr i) d)).args [] aRN;refine⟨s',.mk 18 0 (tx ts i) l,.mk 18 0 (tx ts i) m,?_,?_,Rs.node aRL t.ok t.nd ?_ ?_⟩
   ·rw[aP];refine bX (mN d) ?_;refine(eu (iR d)).trans ?_;refine bX z ?_;refine bX A ?_;refine bX o ?_;refine aI (ay H hs (w:=[110,117,108,108]) B) ?_;refine aI (ay H hs (w:=[102,97,108,115,101]) f2) ?_;refine aI (ay H hs (w:=[116,114,117,101]) C) ?_;refine aI (ay H hs (w:=[91]) p) ?_;refine aI (ay H hs (w:=[40]) n) ?_;refine aI (ay H hs (w:=[110,101,119]) q) ?_;refine aI (ay H hs (w:=[102,117,110,99,116,105,111,110]) r) ?_;refine(eu (a:=(Sum.inr (ae.mk 18 0 (tx ts i) l,pS ts e s'):((List aj)×Int×Int×Int×aE) ⊕ (ae×aH))) ?_).trans ?_
    ·refine aI (ay H hs j) ?_;refine aY x ?_;refine dM ((dX H _ c 6 [40] aRL).trans (by rw[show aS ts (.g (i+1)) 0 6 [40]=true from(aM H aRL aRL).trans hp])) ?_;refine aY E ?_;rfl
    rfl
   ·rw[aL];refine(eu (bV H _ hs)).trans ?_;refine bX qg ?_;refine aY (vx H hi) ?_;refine bX (show ¬kx ts i=true by rw[D];exact aOo) ?_;refine bX o ?_;refine aI (au H hs (w:=[91]) p) ?_;refine aI (au H hs (w:=[40]) n) ?_;refine aI (au H hs (w:=[110,101,119]) q) ?_;refine aI (au H hs (w:=[102,117,110,99,116,105,111,110]) r) ?_;refine aY v ?_;refine(eu (a:=(Sum.inr (ae.mk 18 0 (tx ts i) m,qS ts e' s'):((List aj)×Int×Int×Bool) ⊕ (ae×ao))) ?_).trans ?_
    ·refine bX u ?_;refine dM ((fM (e':=e') H (.g (i+1)) c [40]).trans (by rw[show tw ts (JS.g (i+1)).pos [40]=true from hp])) ?_;refine aY g2 ?_;rfl
    rfl
   ·have:=t.le;have:i+1<=s'.pos:=this;omega
   ·intro y F;obtain⟨k,q1,q2,q3,q4⟩:=t.good y F;cases q1;rw[aOB]at q3;subst q3;exact⟨by omega,rfl,rfl,by omega⟩
  | false=>
   obtain⟨s',l,m,E,g2,t,I,J,K⟩:=JJ H G (.g (i+1)) c rfl (aPj i);refine⟨s',.mk 21 0 (tx ts i++[58,58]++nT ts (wS ts (.g (i+1)) [58,58]) 3) l,.mk 21 0 (tx ts i++[58,58]++nT ts (wS ts (.g (i+1)) [58,58]) 3) m,?_,?_,Rs.node aRL t I ?_ ?_⟩
   ·rw[aP];refine bX (mN d) ?_;refine(eu (iR d)).trans ?_;refine bX z ?_;refine bX A ?_;refine bX o ?_;refine aI (ay H hs (w:=[110,117,108,108]) B) ?_;refine aI (ay H hs (w:=[102,97,108,115,101]) f2) ?_;refine aI (ay H hs (w:=[116,114,117,101]) C) ?_;refine aI (ay H hs (w:=[91]) p) ?_;refine aI (ay H hs (w:=[40]) n) ?_;refine aI (ay H hs (w:=[110,101,119]) q) ?_;refine aI (ay H hs (w:=[102,117,110,99,116,105,111,110]) r) ?_;refine(eu (a:=(Sum.inl ((pS ts e (.g (i+1))).fT,(pS ts e (.g (i+1))).fI,(pS ts e (.g (i+1))).ax,(pS ts e (.g (i+1))).aw,(tx ts i)):((List aj)×Int×Int×Int×aE) ⊕ (ae×aH))) ?_).trans ?_
    ·refine aI (ay H hs j) ?_;refine aY x ?_;refine aI ((dX H _ c 6 [40] aRL).trans (by rw[show aS ts (.g (i+1)) 0 6 [40]=false from(aM H aRL aRL).trans hp])) ?_;rfl
    refine aY (eh H _ c [58,58]) ?_;refine aY (tB (a:=(tx ts i)) (b:=[58,58]) (by have:=hx;simp only[At,No];omega)) ?_;refine aY (pE H _ (kA c _) 3) ?_;refine aY (tB aSl) ?_;refine aY E ?_;rfl
   ·rw[aL];refine(eu (bV H _ hs)).trans ?_;refine bX qg ?_;refine aY (vx H hi) ?_;refine bX (show ¬kx ts i=true by rw[D];exact aOo) ?_;refine bX o ?_;refine aI (au H hs (w:=[91]) p) ?_;refine aI (au H hs (w:=[40]) n) ?_;refine aI (au H hs (w:=[110,101,119]) q) ?_;refine aI (au H hs (w:=[102,117,110,99,116,105,111,110]) r) ?_;refine(eu (a:=((tx ts i),qS ts e' (.g (i+1)))) ?_).trans ?_
    ·exact v
    refine(eu (a:=(Sum.inl ((qS ts e' (.g (i+1))).ar,(qS ts e' (.g (i+1))).bA,(qS ts e' (.g (i+1))).ax,(qS ts e' (.g (i+1))).aw):((List aj)×Int×Int×Bool) ⊕ (ae×ao))) ?_).trans ?_
    ·refine bX u ?_;refine aI ((fM (e':=e') H (.g (i+1)) c [40]).trans (by rw[show tw ts (JS.g (i+1)).pos [40]=false from hp])) ?_;rfl
    refine aY (fv H _ c [58,58]) ?_;refine aY (tB (a:=(tx ts i)) (b:=[58,58]) (by have:=hx;simp only[At,No];omega)) ?_;refine aY (oV H _ (kA c _) (nB _ _) 3 (.inr rfl)) ?_;refine aY (tB aSl) ?_;refine aY g2 ?_;rfl
   ·exact J
   ·intro y F;obtain⟨i0,q1,q2,q3,q4⟩:=K y F;cases q1;refine⟨by omega,rfl,q3,?_⟩;have:=hx;have:=js H (wS ts (.g (i+1)) [58,58]) 3;simp only[aOj,At,No];omega
 | false=>
  have c:(JS.b i).Ok ts:=hi;refine⟨.b i,if i<ts.length then .mk 21 0 ([]++[58,58]++[]) []else .mk 0 0 [] [],.mk 21 0 ([]++[58,58]++[]) [],?_,?_,⟨hi,Of i,λy h=>aSg,λy h=>aSg⟩⟩
  ·by_cases d:i<ts.length
   ·rw[An d];rw[aP];refine bX (mN d) ?_;refine(eu (iR d)).trans ?_;refine bX z ?_;refine bX A ?_;refine bX o ?_;refine aI (ay H hs (w:=[110,117,108,108]) B) ?_;refine aI (ay H hs (w:=[102,97,108,115,101]) f2) ?_;refine aI (ay H hs (w:=[116,114,117,101]) C) ?_;refine aI (ay H hs (w:=[91]) p) ?_;refine aI (ay H hs (w:=[40]) n) ?_;refine aI (ay H hs (w:=[110,101,119]) q) ?_;refine aI (ay H hs (w:=[102,117,110,99,116,105,111,110]) r) ?_;refine(eu (a:=(Sum.inl ((pS ts e (.b i)).fT,(pS ts e (.b i)).fI,(pS ts e (.b i)).ax,(pS ts e (.b i)).aw,[]):((List aj)×Int×Int×Int×aE) ⊕ (ae×aH))) ?_).trans ?_
    ·refine aI (ay H hs j) ?_;refine aY (S8 H hi f) ?_;refine aI (dX H _ c 6 [40] aRL) ?_;rfl
    refine aY (eh H _ c [58,58]) ?_;refine aY (tB (a:=[]) (b:=[58,58]) aRL) ?_;refine aY (pE H _ c 3) ?_;refine aY (tB (a:=[]++[58,58]) (b:=[]) aRL) ?_;refine aY (afE H c []) ?_;rfl
   ·rw[mg d,aP];refine oC (show(pS ts e (.g i)).fI>=((pS ts e (.g i)).fT.length:Int)from by show(i:Int)>=(ts.length:Int);omega) ?_;refine aY (tl H _ hs) ?_;rfl
  ·rw[aL];refine(eu (bV H _ hs)).trans ?_;refine bX qg ?_;refine aY (vx H hi) ?_;refine bX (show ¬kx ts i=true by rw[D];exact aOo) ?_;refine bX o ?_;refine aI (au H hs (w:=[91]) p) ?_;refine aI (au H hs (w:=[40]) n) ?_;refine aI (au H hs (w:=[110,101,119]) q) ?_;refine aI (au H hs (w:=[102,117,110,99,116,105,111,110]) r) ?_;refine(eu (a:=(([]:aE),qS ts e' (.b i))) ?_).trans ?_
   ·unfold cU;refine aI (au H hs j) ?_;refine aY (Ta H hi f (.inr rfl)) ?_;rfl
   refine(eu (a:=(Sum.inl ((qS ts e' (.b i)).ar,(qS ts e' (.b i)).bA,(qS ts e' (.b i)).ax,(qS ts e' (.b i)).aw):((List aj)×Int×Int×Bool) ⊕ (ae×ao))) ?_).trans ?_
   ·refine bX (show ¬([]:aE)=[115,116,97,116,105,99] by decide) ?_;refine aI ((fM (e':=e') H (.b i) c [40]).trans (by rw[show tw ts (JS.b i).pos [40]=false from n])) ?_;rfl
   refine aY (fv H _ c [58,58]) ?_;refine aY (tB (a:=[]) (b:=[58,58]) aRL) ?_;refine aY (oV H _ c rfl 3 (.inr rfl)) ?_;refine aY (tB (a:=[]++[58,58]) (b:=[]) aRL) ?_;refine aY (LI H c) ?_;rfl
theorem Ug (H:Tk ts e) {i:Nat} (hi:i<=ts.length) (b:∀s,Lt ts i s->PC ts e e' s):C1 ts e e' true 0 (.g i) aP aL:=by
 have hs:(JS.g i).Ok ts:=hi;have l:∀{k m:Int} {t:aE},kd ts i≠0->t.length<=4000->k≠7->(k==4)=(kd ts i==2)->Rs ts true 0 (.g i) (.g (i+1)) (.mk k m t []) (.mk k m t []):=λh0 z hk hv=>Rs.leaf hk (tm h0) z hv;by_cases c:kd ts i=4
 ·have d:i<ts.length:=tm aRK;refine⟨.g (i+1),.mk 1 (tok ts i).aF [] [],.mk 1 (tok ts i).aF [] [],?_,?_,l aRK aRN aRL (by rw[c];rfl)⟩
  ·rw[aP];refine bX (mN d) ?_;refine(eu (iR d)).trans ?_;refine oC c ?_;rw[se H hi]
  ·rw[aL];refine(eu (bV H _ hs)).trans ?_;refine bX qg ?_;refine aY (vx H hi) ?_;refine oC (show kx ts i=true by unfold kx;rw[c];rfl) ?_;refine(eu (a:=(ae.mk 1 (tok ts i).aF [] [],qS ts e' (.g (i+1)))) ?_).trans rfl;unfold bM;rw[dD];refine(eu (bV H _ hs)).trans ?_;refine oC c ?_;rw[rf H hi];rfl
 by_cases f:kd ts i=5
 ·have d:i<ts.length:=tm aRK;refine⟨.g (i+1),.mk 2 0 (tx ts i) [],.mk 2 0 (tx ts i) [],?_,?_,l aRK (vw H i) aRL (by rw[f];rfl)⟩
  ·rw[aP];refine bX (mN d) ?_;refine(eu (iR d)).trans ?_;refine bX c ?_;refine oC f ?_;rw[se H hi];rfl
  ·rw[aL];refine(eu (bV H _ hs)).trans ?_;refine bX qg ?_;refine aY (vx H hi) ?_;refine oC (show kx ts i=true by unfold kx;rw[f];rfl) ?_;refine(eu (a:=(ae.mk 2 0 (tx ts i) [],qS ts e' (.g (i+1)))) ?_).trans rfl;unfold bM;rw[dD];refine(eu (bV H _ hs)).trans ?_;refine bX c ?_;refine oC f ?_;rw[rf H hi];rfl
 by_cases j:kd ts i=2
 ·have d:i<ts.length:=tm aRK;have n:∀w,tw ts i w=false:=xt aRK aRK;refine⟨nS ts (.g i) 2,.mk 4 0 (nT ts (.g i) 2) [],.mk 4 0 (nT ts (.g i) 2) [],?_,?_,?_⟩
  ·rw[aP];refine bX (mN d) ?_;refine(eu (iR d)).trans ?_;refine bX c ?_;refine bX f ?_;refine oC j ?_;refine aY (R6 H _ hs) ?_;rfl
  ·rw[aL];refine(eu (bV H _ hs)).trans ?_;refine bX qg ?_;refine aY (vx H hi) ?_;refine bX (show ¬kx ts i=true by unfold kx;rw[j,n,n,n];decide) ?_;refine oC j ?_;rw[dD];refine aY (R9 H _ hs rfl) ?_;rfl
  ·cases o:yK ts 2 i with
   | true=>rw[R7 o,R8 o];exact l aRK (vw H i) aRL (by rw[j];rfl)
   | false=>rw[acT o];exact⟨hi,Of i,λA h=>aSg,λA h=>aSg⟩
 cases p:tw ts i [110,117,108,108]with
 | true=>exact Xd H hi b p
 | false=>
 cases f2:tw ts i [102,97,108,115,101]with
 | true=>exact Tb H hi b f2
 | false=>
 cases q:tw ts i [116,114,117,101]with
 | true=>exact Xe H hi b q
 | false=>
 cases r:tw ts i [91]with
 | true=>exact Xf H hi b r
 | false=>
 cases u:tw ts i [40]with
 | true=>exact afG H hi b u
 | false=>
 cases v:tw ts i [110,101,119]with
 | true=>exact afH H hi b v
 | false=>
 cases x:tw ts i [102,117,110,99,116,105,111,110]with
 | true=>exact afI H hi b x
 | false=>
 cases y:tw ts i [115,116,97,116,105,99]with
 | true=>exact Po H hi b y
 | false=>
 exact Xg H hi b c f j p f2 q r u v x y
end
set_option maxRecDepth 10000
def S9 (x:Option (((List aj)×Int×Int×Int×(List ae)×Int×Int×aE×(List ae)) ⊕ (ae×aH))) (n:ae) (p:aH):Prop:=x=some (.inr (n,p))\/x=some (.inl (p.fT,p.fI,p.ax,p.aw,[],n.ah,n.aF,n.ak,n.af))
def I9 (x:Option (((List aj)×Int×Int×Bool×(List ae)×Int×Int×aE×(List ae)) ⊕ (ae×ao))) (n:ae) (p:ao):Prop:=x=some (.inr (n,p))\/x=some (.inl (p.ar,p.bA,p.ax,p.aw,[],n.ah,n.aF,n.ak,n.af))
theorem S9.run {x:Option (((List aj)×Int×Int×Int×(List ae)×Int×Int×aE×(List ae)) ⊕ (ae×aH))} {n:ae} {p:aH} (h:S9 x n p):(x>>=λo=>match o with
  | .inr r=>some r
  | .inl (a,b,c,d,j,e,f,g,i)=>some ((ae.mk e f g i),(aH.mk a b c d)))=some (n,p):=by
 cases n;rcases h with h | h<;>rw[h]<;>rfl
theorem I9.run {x:Option (((List aj)×Int×Int×Bool×(List ae)×Int×Int×aE×(List ae)) ⊕ (ae×ao))} {n:ae} {p:ao} (h:I9 x n p):(x>>=λo=>match o with
  | .inr r=>some r
  | .inl (a,b,c,d,j,e,f,g,i)=>some ((ae.mk e f g i),(ao.mk a b c d)))=some (n,p):=by
 cases n;rcases h with h | h<;>rw[h]<;>rfl
section
variable {ts:List aj}{e e':Int}
theorem acS (H:Tk ts e) {i:Nat} (h:i<=ts.length):ao.mk (qS ts e' (.g i)).ar (bm ((qS ts e' (.g i)).bA+2)) (qS ts e' (.g i)).ax (qS ts e' (.g i)).aw=qS ts e' (.g (i+2)):=by
 have:=H.len;show ao.mk ts (bm ((i:Int)+2)) e' false=⟨ts,((i+2:Nat):Int),e',false⟩;rw[wW aRK aRK];rfl
def xV (ts:List aj) (i:Nat) (n:ae) (u:Bool):Bool:=tw ts i [91]&&(tw ts (i+1) [93]&&(AA n&&u))
theorem GJ (H:Tk ts e) {i:Nat} (hi:i<=ts.length) (u:Bool) (k m:Int) (t:aE) (l:List ae):((
 aX (qS ts e' (.g i)) 0 [91]>>=λ(h,b)=>
 (if h=true then
 aX b 1 [93]>>=λ(j,a)=>
 (if j=true then
 fY (ae.mk k m t l)>>=λn=>
 (if n=true then
 some (a.ar,a.bA,a.ax,a.aw,(!(!u)))
 else
 some (a.ar,a.bA,a.ax,a.aw,false))
 else
 some (a.ar,a.bA,a.ax,a.aw,false))
 else
 some (b.ar,b.bA,b.ax,b.aw,false))
 :Option ((List aj)×Int×Int×Bool×Bool))=some ((qS ts e' (.g i)).ar,(qS ts e' (.g i)).bA,(qS ts e' (.g i)).ax,(qS ts e' (.g i)).aw,xV ts i (.mk k m t l) u)):=by
 have hs:(JS.g i).Ok ts:=hi;have c:∀w,aX (qS ts e' (.g i)) 0 w=some (tw ts i w,qS ts e' (.g i)):=λw=>fM (e':=e') H _ hs w;have d:∀w,aX (qS ts e' (.g i)) 1 w=some (tw ts (i+1) w,qS ts e' (.g i)):=λw=>ahN (e':=e') H _ hs w;unfold xV;cases h1:tw ts i [91]with
 | false=>refine aI ((c _).trans aSv) ?_;rfl
 | true=>
  refine dM ((c _).trans aSv) ?_;cases h2:tw ts (i+1) [93]with
  | false=>refine aI ((d _).trans (by rw[h2])) ?_;rfl
  | true=>
   refine dM ((d _).trans (by rw[h2])) ?_;cases f:AA (.mk k m t l)with
   | false=>refine aI ((qO _).trans (by rw[f])) ?_;rfl
   | true=>refine dM ((qO _).trans (by rw[f])) ?_;rw[Bool.not_not];rfl
structure Inv (ts:List aj) (i0 i:Nat) (n:ae):Prop where
 lt:i0<i
 wt:(wt n:Int)+8192+16384*(i0:Int)<=16384*(i:Int)
 tg:AA n=uc n
 va:i=i0+1->(n.ah==4)=(kd ts i0==2)
theorem Rs.inv {D i0 i:Nat} {n m:ae} (h:Rs ts true D (.g i0) (.g i) n m):n=m/\Inv ts i0 i n:=by
 obtain⟨k,h1,h2,a,h4,b,c⟩:=h.good i rfl;cases h1;exact⟨a,h2,h4,b,c rfl⟩
theorem Inv.rs {i0 i D:Nat} {n:ae} (h:Inv ts i0 i n) (hi:i<=ts.length):Rs ts true D (.g i0) (.g i) n n:=
 ⟨hi,aOT h.lt,λa h'=>by cases h';exact⟨i0,rfl,h.lt,rfl,h.wt,h.tg,λ_=>h.va⟩,λj hj=>by cases hj⟩
theorem Rs.b {v:Bool} {D i0 j:Nat} {n m:ae} (hj:j<=ts.length) (h:i0<=j):Rs ts v D (.g i0) (.b j) n m:=⟨hj,h,λi h=>aSg,λi h=>aSg⟩
theorem sA (H:Tk ts e) {i0:Nat} (F:∀s,Lt ts i0 s->PC ts e e' s) (u:Bool):∀(N:Nat) (s:JS) (n m:ae),s.Ok ts->s.nd=true->i0<=s.pos->(∀i,s=.g i->ts.length - i<N/\n=m/\Inv ts i0 i n)->
  ∃s' C D,S9 (bb u (pS ts e s).fT (pS ts e s).fI (pS ts e s).ax (pS ts e s).aw [] n.ah n.aF n.ak n.af) C (pS ts e s')/\
   I9 (aJ (!u) (qS ts e' s).ar (qS ts e' s).bA (qS ts e' s).ax (qS ts e' s).aw [] m.ah m.aF m.ak m.af) D (qS ts e' s')/\Rs ts true 1 (.g i0) s' C D
 | N,.d j,n,m,_,hd,_,_=>by cases hd
 | N,.b j,n,m,hs,_,hp,_=>by
  refine⟨.b j,n,m,.inr ?_,.inr ?_,Rs.b hs hp⟩
  ·rw[bb];simp only[qQ H,aOn]
  ·rw[aJ];simp only[jr,aOw]
 | 0,.g i,n,m,_,_,_,h=>by have:=(h i rfl).1;omega
 | N+1,.g i,n,m,hs,_,hp,hinv=>by
  obtain⟨hN,rfl,inv⟩:=hinv i rfl;have hi:i<=ts.length:=hs;have hL:=H.len;have aa:=inv.lt;obtain⟨k,a,t,l⟩:=n;have mk:∀(r:Nat) (W X:Int) (Q:aE) (R:List ae),i0+1<r->AA (.mk W X Q R)=uc (.mk W X Q R)->(Q.length:Int)+(wl R:Int)+8192+16384*(i0:Int)<=16384*(r:Int)->Inv ts i0 r (.mk W X Q R):=λr W X Q R h1 h2 h3=>⟨by omega,by rw[jm];omega,h2,λhh=>by omega⟩;have a2:=inv.wt;cases o:tw ts i [91]with
  | true=>
   have M:=ca o;have O:(JS.g (i+1)).Ok ts:=M;cases v:xV ts i (.mk k a t l) u with
   | true=>
    unfold xV at v;simp only[As]at v;obtain⟨_,z,P,hu⟩:=v;have v:xV ts i (.mk k a t l) u=true:=by unfold xV;rw[o,z,P,hu];rfl
    have Y:=ca z;have A:(JS.g (i+1+1)).Ok ts:=Y;have l2:=Lt.w (i:=i0) A (show i0<=i+1+1 by omega) [61];obtain⟨s',x,y,E,g2,f⟩:=(F _ l2).expr;have hle:i0<=s'.pos:=by have:=f.le;have q:=@gz ts (.g (i+1+1)) [61];have q:i+1+1<=(wS ts (.g (i+1+1)) [61]).pos:=q;omega
    refine⟨s',.mk 16 0 [] [.mk k a t l,x],.mk 16 0 [] [.mk k a t l,y],.inl ?_,.inl ?_,⟨f.ok,hle,λi' h=>?_,λj hj=>?_⟩⟩
    ·rw[bb];simp only[kq,aOw];refine dM (cy H o) ?_;refine oC hu ?_;refine dM ((qP _).trans (congrArg some (show uc (.mk k a t l)=true by rw[<-inv.tg];exact P))) ?_;refine dM (cy H z) ?_;refine aY (eh H _ A [61]) ?_;refine aY E ?_;rfl
    ·rw[aJ];simp only[jt,aOn];refine aY (GJ H hi u k a t l) ?_;refine oC v ?_;rw[acS H hi];refine aY (fv H (.g (i+2)) A [61] (.inr rfl)) ?_;refine aY g2 ?_;rfl
    ·obtain⟨k1,q1,q2,q3,q4,q5,_⟩:=f.good i' h;obtain⟨k2,S,q7,_⟩:=fG q1;cases S;subst q3;refine⟨i0,rfl,by omega,rfl,?_,sy aRL,λ_ hh=>by omega⟩;rw[jm,jR,c6];simp only[No];omega
    ·obtain⟨⟨k1,q1⟩,q2,q3,q4⟩:=f.dm j hj;obtain⟨k2,S,q7,_⟩:=fG q1;cases S;rw[q1]at q2;have q2:k1<j:=q2;exact⟨⟨i0,rfl⟩,by show i0<j;omega,Of _,λ_=>GH aRL aRL aRL⟩
   | false=>
    obtain⟨c,x,y,E,g2,f⟩:=(F _ (Lt.g (show i0<i+1 by omega) M)).expr;have A:=kA f.ok [93];have hle:i0<=(wS ts c [93]).pos:=by have:=f.le;have q:=@gz ts c [93];have:i+1<=c.pos:=this;omega
    obtain⟨s',C,D,G,f2,I⟩:=sA H F u N (wS ts c [93]) (.mk 7 0 [] [.mk k a t l,x]) (.mk 7 0 [] [.mk k a t l,y]) A (nB _ _) hle (λr h2=>by
     obtain⟨i1,q1,q2,q3⟩:=fG h2;obtain⟨k1,q4,q5,S,q7,q8,_⟩:=f.good i1 q1;cases q4;subst S;have:=ca q3;refine⟨by omega,rfl,mk _ _ _ _ _ aRK (by rw[aqX,aqY];exact inv.tg) ?_⟩;rw[jR,c6];simp only[No];omega)
    refine⟨s',C,D,?_,?_,I⟩
    ·have key:bb u (pS ts e (.g i)).fT (pS ts e (.g i)).fI (pS ts e (.g i)).ax (pS ts e (.g i)).aw [] k a t l=
       bb u (pS ts e (wS ts c [93])).fT (pS ts e (wS ts c [93])).fI (pS ts e (wS ts c [93])).ax (pS ts e (wS ts c [93])).aw [] 7 0 [] [.mk k a t l,x]:=by
      rw[bb];simp only[kq,aOw];refine dM (cy H o) ?_;cases u with
      | false=>
       refine bX aOo ?_;refine aY E ?_;refine aY (eh H _ f.ok [93]) ?_;rfl
      | true=>
       refine oC rfl ?_;cases P:uc (.mk k a t l)with
       | false=>
        refine aI ((qP _).trans (congrArg some P)) ?_;refine aY E ?_;refine aY (eh H _ f.ok [93]) ?_;rfl
       | true=>
        refine dM ((qP _).trans (congrArg some P)) ?_
        have z:tw ts (i+1) [93]=false:=by
         unfold xV at v;rw[o,inv.tg,P,aPw,aOK,aOK]at v;exact v
        refine aI (ay (w:=[93]) H O z) ?_;refine aY E ?_;refine aY (eh H _ f.ok [93]) ?_;rfl
     rw[show bb u (pS ts e (.g i)).fT (pS ts e (.g i)).fI (pS ts e (.g i)).ax (pS ts e (.g i)).aw [] (ae.mk k a t l).ah (ae.mk k a t l).aF (ae.mk k a t l).ak (ae.mk k a t l).af=_ from key];exact G
    ·have key:aJ (!u) (qS ts e' (.g i)).ar (qS ts e' (.g i)).bA (qS ts e' (.g i)).ax (qS ts e' (.g i)).aw [] k a t l=
       aJ (!u) (qS ts e' (wS ts c [93])).ar (qS ts e' (wS ts c [93])).bA (qS ts e' (wS ts c [93])).ax (qS ts e' (wS ts c [93])).aw [] 7 0 [] [.mk k a t l,y]:=by
      rw[aJ];simp only[jt,aOn];refine aY (GJ H hi u k a t l) ?_;refine bX (show ¬xV ts i (.mk k a t l) u=true by rw[v];exact aOo) ?_;rw[dD];refine dM (bH H o) ?_;refine aY g2 ?_;refine aY (fv H _ f.ok [93]) ?_;rfl
     rw[show aJ (!u) (qS ts e' (.g i)).ar (qS ts e' (.g i)).bA (qS ts e' (.g i)).ax (qS ts e' (.g i)).aw [] (ae.mk k a t l).ah (ae.mk k a t l).aF (ae.mk k a t l).ak (ae.mk k a t l).af=_ from key];exact f2
  | false=>
   have v:xV ts i (.mk k a t l) u=false:=by unfold xV;rw[o];rfl
   have B:¬xV ts i (.mk k a t l) u=true:=by rw[v];exact aOo
   cases hc:tw ts i [45,62]with
   | true=>
    have M:=ca hc;have O:(JS.g (i+1)).Ok ts:=M;have hx:=js H (.g (i+1)) 3;cases J:yK ts 3 (i+1)with
    | false=>
     have Z:(JS.b (i+1)).Ok ts:=M;refine⟨.b (i+1),.mk 8 0 [] [.mk k a t l],if tw ts (i+1) [40]=true then .mk 20 0 [] [.mk k a t l]else .mk 8 0 [] [.mk k a t l],.inr ?_,.inr ?_,Rs.b M aRK⟩
     ·rw[bb];simp only[kq,aOw];refine aI (ay (w:=[91]) H hs o) ?_;refine dM (cy H hc) ?_;refine aY (S8 H O J) ?_;refine aI (dX H _ Z 6 [40] aRL) ?_;rw[bb];simp only[qQ H,aOn];rfl
     ·rw[aJ];simp only[jt,aOn];refine aY (GJ H hi u k a t l) ?_;refine bX B ?_;rw[dD];refine aI (au (w:=[91]) H hs o) ?_;refine dM (bH H hc) ?_;refine aY (Ta H O J (.inr rfl)) ?_;cases p:tw ts (i+1) [40]with
      | true=>
       refine dM ((fM (e':=e') H (.b (i+1)) Z [40]).trans (by rw[show tw ts (JS.b (i+1)).pos [40]=true from p])) ?_;refine aY (LI H Z) ?_;refine aY (kK (b:=56) (l:=[ae.mk k a t l]) (m:=[]) aRN) ?_;rw[aJ];simp only[jr,aOw];rfl
      | false=>
       refine aI ((fM (e':=e') H (.b (i+1)) Z [40]).trans (by rw[show tw ts (JS.b (i+1)).pos [40]=false from p])) ?_;rw[aJ];simp only[jr,aOw,aOi,aOn];rfl
    | true=>
     have Y:=Tc aRL J;have A:(JS.g (i+1+1)).Ok ts:=Y;have a3:=vw H (i+1);have T:cw (pS ts e (.g (i+1))) 3=some (tx ts (i+1),pS ts e (.g (i+1+1))):=by rw[pE H (.g (i+1)) O 3,R8 J,R7 J]
     have U:bu (qS ts e' (.g (i+1))) 3=some (tx ts (i+1),qS ts e' (.g (i+1+1))):=by rw[oV H (.g (i+1)) O rfl 3 (.inr rfl),R8 J,R7 J]
     cases p:tw ts (i+1+1) [40]with
     | true=>
      obtain⟨c,V,K,E,g2,f⟩:=(F _ (Lt.g (show i0<i+1+1 by omega) Y)).args [.mk k a t l] aRN;have ad:=f.lem;have ag:=okp f.ok;have hle:i0<=c.pos:=by have:i+1+1<=c.pos:=f.le;omega
      obtain⟨s',C,D,G,f2,I⟩:=sA H F u N c (.mk 20 0 (tx ts (i+1)) V) (.mk 20 0 (tx ts (i+1)) ([.mk k a t l]++K)) f.ok f.nd hle (λr h2=>by
       obtain⟨k1,q1,q2,q3,q4⟩:=f.good r h2;cases q1;subst q3;refine⟨by omega,rfl,mk _ _ _ _ _ aRK (sy aRL) ?_⟩;rw[iD,c6];omega)
      refine⟨s',C,D,?_,?_,I⟩
      ·have key:bb u (pS ts e (.g i)).fT (pS ts e (.g i)).fI (pS ts e (.g i)).ax (pS ts e (.g i)).aw [] k a t l=bb u (pS ts e c).fT (pS ts e c).fI (pS ts e c).ax (pS ts e c).aw [] 20 0 (tx ts (i+1)) V:=by
        rw[bb];simp only[kq,aOw];refine aI (ay (w:=[91]) H hs o) ?_;refine dM (cy H hc) ?_;refine aY T ?_;refine dM ((dX H _ A 6 [40] aRL).trans (by rw[show aS ts (.g (i+1+1)) 0 6 [40]=true from(aM H aRL aRL).trans p])) ?_;refine aY E ?_;rfl
       rw[show bb u (pS ts e (.g i)).fT (pS ts e (.g i)).fI (pS ts e (.g i)).ax (pS ts e (.g i)).aw [] (ae.mk k a t l).ah (ae.mk k a t l).aF (ae.mk k a t l).ak (ae.mk k a t l).af=_ from key];exact G
      ·have key:aJ (!u) (qS ts e' (.g i)).ar (qS ts e' (.g i)).bA (qS ts e' (.g i)).ax (qS ts e' (.g i)).aw [] k a t l=aJ (!u) (qS ts e' c).ar (qS ts e' c).bA (qS ts e' c).ax (qS ts e' c).aw [] 20 0 (tx ts (i+1)) ([.mk k a t l]++K):=by
        rw[aJ];simp only[jt,aOn];refine aY (GJ H hi u k a t l) ?_;refine bX B ?_;rw[dD];refine aI (au (w:=[91]) H hs o) ?_;refine dM (bH H hc) ?_;refine aY U ?_;refine dM ((fM (e':=e') H (.g (i+1+1)) A [40]).trans (by rw[show tw ts (JS.g (i+1+1)).pos [40]=true from p])) ?_;refine aY g2 ?_;refine aY (kK (b:=56) (l:=[ae.mk k a t l]) (m:=K) aRU) ?_;rfl
       rw[show aJ (!u) (qS ts e' (.g i)).ar (qS ts e' (.g i)).bA (qS ts e' (.g i)).ax (qS ts e' (.g i)).aw [] (ae.mk k a t l).ah (ae.mk k a t l).aF (ae.mk k a t l).ak (ae.mk k a t l).af=_ from key];exact f2
     | false=>
      obtain⟨s',C,D,G,f2,I⟩:=sA H F u N (.g (i+1+1)) (.mk 8 0 (tx ts (i+1)) [.mk k a t l]) (.mk 8 0 (tx ts (i+1)) [.mk k a t l]) A rfl (by show i0<=i+1+1;omega) (λr h2=>by
       cases h2;refine⟨by omega,rfl,mk _ _ _ _ _ aRK (sy aRL) ?_⟩;rw[c6];omega)
      refine⟨s',C,D,?_,?_,I⟩
      ·have key:bb u (pS ts e (.g i)).fT (pS ts e (.g i)).fI (pS ts e (.g i)).ax (pS ts e (.g i)).aw [] k a t l=bb u (pS ts e (.g (i+1+1))).fT (pS ts e (.g (i+1+1))).fI (pS ts e (.g (i+1+1))).ax (pS ts e (.g (i+1+1))).aw [] 8 0 (tx ts (i+1)) [.mk k a t l]:=by
        rw[bb];simp only[kq,aOw];refine aI (ay (w:=[91]) H hs o) ?_;refine dM (cy H hc) ?_;refine aY T ?_;refine aI ((dX H _ A 6 [40] aRL).trans (by rw[show aS ts (.g (i+1+1)) 0 6 [40]=false from(aM H aRL aRL).trans p])) ?_;rfl
       rw[show bb u (pS ts e (.g i)).fT (pS ts e (.g i)).fI (pS ts e (.g i)).ax (pS ts e (.g i)).aw [] (ae.mk k a t l).ah (ae.mk k a t l).aF (ae.mk k a t l).ak (ae.mk k a t l).af=_ from key];exact G
      ·have key:aJ (!u) (qS ts e' (.g i)).ar (qS ts e' (.g i)).bA (qS ts e' (.g i)).ax (qS ts e' (.g i)).aw [] k a t l=aJ (!u) (qS ts e' (.g (i+1+1))).ar (qS ts e' (.g (i+1+1))).bA (qS ts e' (.g (i+1+1))).ax (qS ts e' (.g (i+1+1))).aw [] 8 0 (tx ts (i+1)) [.mk k a t l]:=by
        rw[aJ];simp only[jt,aOn];refine aY (GJ H hi u k a t l) ?_;refine bX B ?_;rw[dD];refine aI (au (w:=[91]) H hs o) ?_;refine dM (bH H hc) ?_;refine aY U ?_;refine aI ((fM (e':=e') H (.g (i+1+1)) A [40]).trans (by rw[show tw ts (JS.g (i+1+1)).pos [40]=false from p])) ?_;rfl
       rw[show aJ (!u) (qS ts e' (.g i)).ar (qS ts e' (.g i)).bA (qS ts e' (.g i)).ax (qS ts e' (.g i)).aw [] (ae.mk k a t l).ah (ae.mk k a t l).aF (ae.mk k a t l).ak (ae.mk k a t l).af=_ from key];exact f2
   | false=>
    cases p:tw ts i [40]with
    | true=>
     obtain⟨c,V,K,E,g2,f⟩:=(F _ (Lt.g aa hi)).args [.mk k a t l] aRN;have ad:=f.lem;have ag:=okp f.ok;have hle:i0<=c.pos:=by have:i<=c.pos:=f.le;omega
     obtain⟨s',C,D,G,f2,I⟩:=sA H F u N c (.mk 19 0 [] V) (.mk 19 0 [] ([.mk k a t l]++K)) f.ok f.nd hle (λr h2=>by
      obtain⟨k1,q1,q2,q3,q4⟩:=f.good r h2;cases q1;subst q3;have L:=okp f.ok;rw[h2]at L;have L:r<=ts.length:=L;refine⟨by omega,rfl,mk _ _ _ _ _ aRK (sy aRL) ?_⟩;rw[iD,c6];simp only[No];have a4:=ca p;omega)
     refine⟨s',C,D,?_,?_,I⟩
     ·have key:bb u (pS ts e (.g i)).fT (pS ts e (.g i)).fI (pS ts e (.g i)).ax (pS ts e (.g i)).aw [] k a t l=bb u (pS ts e c).fT (pS ts e c).fI (pS ts e c).ax (pS ts e c).aw [] 19 0 [] V:=by
       rw[bb];simp only[kq,aOw];refine aI (ay (w:=[91]) H hs o) ?_;refine aI (ay (w:=[45,62]) H hs hc) ?_;refine dM ((dX H _ hs 6 [40] aRL).trans (by rw[show aS ts (.g i) 0 6 [40]=true from(aM H aRL aRL).trans p])) ?_;refine aY E ?_;rfl
      rw[show bb u (pS ts e (.g i)).fT (pS ts e (.g i)).fI (pS ts e (.g i)).ax (pS ts e (.g i)).aw [] (ae.mk k a t l).ah (ae.mk k a t l).aF (ae.mk k a t l).ak (ae.mk k a t l).af=_ from key];exact G
     ·have key:aJ (!u) (qS ts e' (.g i)).ar (qS ts e' (.g i)).bA (qS ts e' (.g i)).ax (qS ts e' (.g i)).aw [] k a t l=aJ (!u) (qS ts e' c).ar (qS ts e' c).bA (qS ts e' c).ax (qS ts e' c).aw [] 19 0 [] ([.mk k a t l]++K):=by
       rw[aJ];simp only[jt,aOn];refine aY (GJ H hi u k a t l) ?_;refine bX B ?_;rw[dD];refine aI (au (w:=[91]) H hs o) ?_;refine aI (au (w:=[45,62]) H hs hc) ?_;refine dM ((fM (e':=e') H (.g i) hs [40]).trans (by rw[show tw ts (JS.g i).pos [40]=true from p])) ?_;refine aY g2 ?_;refine aY (kK (b:=56) (l:=[ae.mk k a t l]) (m:=K) aRU) ?_;rfl
      rw[show aJ (!u) (qS ts e' (.g i)).ar (qS ts e' (.g i)).bA (qS ts e' (.g i)).ax (qS ts e' (.g i)).aw [] (ae.mk k a t l).ah (ae.mk k a t l).aF (ae.mk k a t l).ak (ae.mk k a t l).af=_ from key];exact f2
    | false=>
     refine⟨.g i,.mk k a t l,.mk k a t l,.inl ?_,.inl ?_,inv.rs hi⟩
     ·rw[bb];simp only[kq,aOw];refine aI (ay (w:=[91]) H hs o) ?_;refine aI (ay (w:=[45,62]) H hs hc) ?_;refine aI ((dX H _ hs 6 [40] aRL).trans (by rw[show aS ts (.g i) 0 6 [40]=false from(aM H aRL aRL).trans p])) ?_;rfl
     ·rw[aJ];simp only[jt,aOn];refine aY (GJ H hi u k a t l) ?_;refine bX B ?_;rw[dD];refine aI (au (w:=[91]) H hs o) ?_;refine aI (au (w:=[45,62]) H hs hc) ?_;refine aI ((fM (e':=e') H (.g i) hs [40]).trans (by rw[show tw ts (JS.g i).pos [40]=false from p])) ?_;rfl
theorem Oa (H:Tk ts e) {i:Nat} (hi:i<=ts.length) (c:∀s,Lt ts i s->PC ts e e' s) (u:Bool):C1 ts e e' true 1 (.g i) (λp=>gP p u) (λq=>cc q (!u)):=by
 obtain⟨b,n,m,f,g2,a⟩:=Ug H hi c
 have hd:b.nd=true:=by
  cases b with
  | d j=>have:=(a.dm j rfl).2.2.1;omega
  | _=>rfl
 obtain⟨s',h,k,l,f2,o⟩:=sA H c u (ts.length+1) b n m a.ok hd a.le (λr h1=>by
  subst h1;obtain⟨q1,q2⟩:=a.inv;exact⟨by omega,q1,q2⟩)
 refine⟨s',h,k,?_,?_,o⟩
 ·show gP (pS ts e (.g i)) u=_;rw[gP];refine aY f ?_;exact l.run
 ·show cc (qS ts e' (.g i)) (!u)=_;rw[cc];refine aY g2 ?_;exact f2.run
end
set_option maxRecDepth 10000
theorem aiY (t:aE):∃v:Int,lx t=some v/\nv t=some v/\(v=0\/(1<=v/\v<=15/\jC v=some t)):=by
 have go:∀(k:Nat) (y:Int),1<=y->y+k=16->∃o,oa t y=some o/\nZ t y=some o/\(o=.inl ()\/∃v,o=.inr v/\1<=v/\v<=15/\jC v=some t):=by
  intro k;induction k with
  | zero=>
   intro y h1 h2;rw[oa,nZ,mg aRK,mg aRK];exact⟨_,rfl,rfl,.inl rfl⟩
  | succ k c=>
   intro y h1 h2;obtain⟨x,b,e2,_⟩:=sOp y h1 aRK;rw[oa,nZ,An aRK,An aRK,b,sb,e2,sb];by_cases hx:x=t
   ·rw[An hx,An hx];exact⟨_,rfl,rfl,.inr ⟨y,rfl,h1,by omega,by rw[b,hx]⟩⟩
   ·rw[mg hx,mg hx,wW aRK aRK];exact c (y+1) aRK aRK
 obtain⟨o,h1,h2,a⟩:=go 15 1 aRK aRK;unfold lx nv;rw[h1,h2,sb];rcases a with rfl | ⟨v,rfl,a⟩
 ·exact⟨0,rfl,rfl,.inl rfl⟩
 ·exact⟨v,rfl,rfl,.inr a⟩
theorem Pq {v:Int} (h1:1<=v) (h2:v<=15):∃k,mA v=some k/\lN v=some k/\6<=k/\k<=10:=by
 obtain⟨_,_,_,k,q1,q2,q3,q4⟩:=sOp v h1 h2;exact⟨k,q1,q2,q3,q4⟩
theorem aq0 {v:Int} (h1:1<=v) (h2:v<=15):jC v≠some [61]:=by
 obtain⟨n,rfl⟩:∃n:Nat,v=(n:Int):=⟨v.toNat,by omega⟩;have:n=1\/n=2\/n=3\/n=4\/n=5\/n=6\/n=7\/n=8\/n=9\/n=10\/n=11\/n=12\/n=13\/n=14\/n=15:=by omega
 rcases this with rfl | rfl | rfl | rfl | rfl | rfl | rfl | rfl | rfl | rfl | rfl | rfl | rfl | rfl | rfl<;>(unfold jC;intro h;revert h;decide)
def J9 (x:Option ((List aj)×Int×Int×Bool×(List ae)×Int×Int×aE×(List ae))) (n:ae) (p:ao):Prop:=x=some (p.ar,p.bA,p.ax,p.aw,[],n.ah,n.aF,n.ak,n.af)
theorem J9.run {x:Option ((List aj)×Int×Int×Bool×(List ae)×Int×Int×aE×(List ae))} {n:ae} {p:ao} (h:J9 x n p):(x>>=λ(a,b,c,d,j,e,f,g,i)=>some ((ae.mk e f g i),(ao.mk a b c d)))=some (n,p):=by
 cases n;rw[h];rfl
section
variable {ts:List aj}{e e':Int}
theorem Rs.U0 {v:Bool} {D i:Nat} {s':JS} {k m:Int} {t b:aE} {l c:List ae} (hk:k≠7) (h4:k≠4) (e:k≠8) (f:s'.Ok ts) (hle:i<=s'.pos) (n:1<=D) (o:∀j,s'=.d j->i<j)
  (hg:∀a,s'=.g a->i+1<a/\t=b/\l=c/\(t.length:Int)+(wl l:Int)+8192+16384*(i:Int)<=16384*(a:Int)):Rs ts v D (.g i) s' (.mk k m t l) (.mk k m b c):=
 ⟨f,hle,λa h=>by
  obtain⟨h1,rfl,rfl,h2⟩:=hg a h;exact⟨i,rfl,by omega,rfl,by rw[jm];omega,sy hk,λ_ hh=>by omega⟩,λj hj=>⟨⟨i,rfl⟩,o j hj,n,λ_=>GH hk h4 e⟩⟩
theorem akG (H:Tk ts e) {i:Nat} (hi:i<=ts.length) (f:∀s,Lt ts i s->PC ts e e' s):C1 ts e e' true 1 (.g i) gf cM:=by
 have hs:(JS.g i).Ok ts:=hi
 have wrap:∀(a:Int) (s':JS) (n m:ae),i<ts.length->Rs ts true 1 (.g (i+1)) s' n m->Rs ts true 1 (.g i) s' (.mk 9 a [] [n]) (.mk 9 a [] [m]):=λa s' n m b h=>by
  refine Rs.U0 aRL aRL aRL h.ok (by have:i+1<=s'.pos:=h.le;omega) (Of _) (λj hj=>?_) (λl h'=>?_)
  ·have q:i+1<j:=(h.dm j hj).2.1;omega
  ·obtain⟨k,q1,q2,q3,q4,_⟩:=h.good l h';cases q1;subst q3;refine⟨by omega,rfl,rfl,?_⟩;rw[c6];simp only[No];omega
 cases h1:tw ts i [33]with
 | true=>
  have b:=ca h1;obtain⟨s',n,m,c,g2,d⟩:=(f _ (Lt.g (aOr i) b)).un;refine⟨s',_,_,?_,?_,wrap 1 s' n m b d⟩
  ·rw[gf];refine dM (cy H h1) ?_;refine aY c ?_;rfl
  ·rw[cM];refine dM (bH H h1) ?_;refine aY g2 ?_;rfl
 | false=>
  cases h2:tw ts i [45]with
  | true=>
   have b:=ca h2;obtain⟨s',n,m,c,g2,d⟩:=(f _ (Lt.g (aOr i) b)).un;refine⟨s',_,_,?_,?_,wrap 2 s' n m b d⟩
   ·rw[gf];refine aI (ay (w:=[33]) H hs h1) ?_;refine dM (cy H h2) ?_;refine aY c ?_;rfl
   ·rw[cM];refine aI (au (w:=[33]) H hs h1) ?_;refine dM (bH H h2) ?_;refine aY g2 ?_;rfl
  | false=>
   obtain⟨s',n,m,c,g2,d⟩:=Oa (e':=e') H hi f true;refine⟨s',n,m,?_,?_,d⟩
   ·rw[gf];refine aI (ay (w:=[33]) H hs h1) ?_;refine aI (ay (w:=[45]) H hs h2) ?_;rw[oQ];refine(eu (a:=(n,pS ts e s')) ?_).trans rfl;exact(eu c).trans rfl
   ·rw[cM];refine aI (au (w:=[33]) H hs h1) ?_;refine aI (au (w:=[45]) H hs h2) ?_;refine aY g2 ?_;rfl
theorem eq6 (H:Tk ts e) {j:Nat} (h:tw ts j [61]=true):kd ts j=6:=by
 rw[<-aM H aRL aRL]at h;unfold aT at h;rw[As,aOm]at h;exact h.1
theorem Pr (H:Tk ts e) {i0:Nat} (Q:∀s,Lt ts i0 s->PC ts e e' s) (c:Nat) (R:6<=c) (K:c<=10):∀(N:Nat) (s:JS) (n m:ae),s.Ok ts->i0<=s.pos->(∀i,s=.g i->ts.length - i<N/\n=m/\Inv ts i0 i n)->(∀j,s=.d j->i0<j/\AA m=false)->
  ∃s' E F,S9 (aR (c:Int) (pS ts e s).fT (pS ts e s).fI (pS ts e s).ax (pS ts e s).aw [] n.ah n.aF n.ak n.af) E (pS ts e s')/\
   I9 (bL (c:Int) (qS ts e' s).ar (qS ts e' s).bA (qS ts e' s).ax (qS ts e' s).aw [] m.ah m.aF m.ak m.af) F (qS ts e' s')/\Rs ts true 1 (.g i0) s' E F
 | N,.b j,n,m,hs,hp,_,_=>by
  refine⟨.b j,n,m,.inr ?_,.inr ?_,Rs.b hs hp⟩
  ·rw[aR,mg (show ¬(pS ts e (.b j)).fI<((pS ts e (.b j)).fT.length:Int) fromλh=>by have h:(ts.length:Int)<ts.length:=h;omega)]
  ·rw[bL];simp only[jr,aOw]
 | N,.d j,n,m,hs,hp,_,hd=>by
  refine⟨.d j,n,m,.inr ?_,.inl ?_,⟨hs,hp,λi h=>aSg,λj' h=>by cases h;exact⟨⟨i0,rfl⟩,(hd j rfl).1,Of _,λ_=>(hd j rfl).2⟩⟩⟩
  ·rw[aR,mg (show ¬(pS ts e (.d j)).fI<((pS ts e (.d j)).fT.length:Int) fromλh=>by have h:(ts.length:Int)<ts.length:=h;omega)]
  ·obtain⟨v,L,w,A⟩:=aiY (tx ts j)
   have hv:v=0:=by
    rcases A with h | ⟨h1,h2,M⟩
    ·exact h
    ·rw[(UZ hs.2).2]at M;exact(aq0 h1 h2 M).elim
   subst hv;rw[bL];simp only[R5,aOn,dD];refine(eu (bV H _ hs)).trans ?_;refine aY (show nv (tok ts j).ak=some 0 from w) ?_;refine oC (show(tok ts j).ah=6 from eq6 H hs.2) ?_;refine oC rfl ?_;rw[Le]
 | 0,.g i,n,m,_,_,h,_=>by have:=(h i rfl).1;omega
 | N+1,.g i,n,m,hs,hp,hinv,_=>by
  obtain⟨hN,rfl,inv⟩:=hinv i rfl;have hi:i<=ts.length:=hs;have hL:=H.len;have W:=inv.lt;have X:=inv.wt;obtain⟨k,a,t,l⟩:=n
  have next:∀(r B:Int) (f:JS) (x y:ae),r≠7->r≠4->r≠8->i<ts.length->Rs ts true 1 (.g (i+1)) f x y->(∀C,f=.g C->ts.length - C<N/\ae.mk r B [] [.mk k a t l,x]=.mk r B [] [.mk k a t l,y]/\Inv ts i0 C (.mk r B [] [.mk k a t l,x]))/\(∀j,f=.d j->i0<j/\AA (.mk r B [] [.mk k a t l,y])=false)/\i0<=f.pos:=λr B f x y S h4 Y o h=>by
   refine⟨λC h2=>?_,λj hj=>⟨?_,GH S h4 Y⟩,by have:i+1<=f.pos:=h.le;omega⟩
   ·obtain⟨k1,q1,q2,q3,q4,_⟩:=h.good C h2;cases q1;subst q3;refine⟨by omega,rfl,⟨by omega,?_,sy S,λhh=>by omega⟩⟩;rw[jm,jR,c6];simp only[No];omega
   ·have q:i+1<j:=(h.dm j hj).2.1;omega
  have O:i<ts.length->(pS ts e (.g i)).fI<((pS ts e (.g i)).fT.length:Int):=λh=>by show(i:Int)<(ts.length:Int);omega
  have send:¬(i<ts.length/\kd ts i=6)->aR (c:Int) (pS ts e (.g i)).fT (pS ts e (.g i)).fI (pS ts e (.g i)).ax (pS ts e (.g i)).aw [] k a t l=some (.inl ((pS ts e (.g i)).fT,(pS ts e (.g i)).fI,(pS ts e (.g i)).ax,(pS ts e (.g i)).aw,[],k,a,t,l)):=λhh=>by
   rw[aR];by_cases o:i<ts.length
   ·rw[An (O o)];refine(eu (iR o)).trans ?_;refine bX (show ¬(tok ts i).ah=6 fromλh=>hh ⟨o,h⟩) ?_;rfl
   ·rw[mg (show ¬(pS ts e (.g i)).fI<((pS ts e (.g i)).fT.length:Int) fromλh=>by have h:(i:Int)<(ts.length:Int):=h;omega)]
  obtain⟨v,L,w,A⟩:=aiY (tx ts i);by_cases h:i<ts.length/\kd ts i=6
  ·obtain⟨o,G⟩:=h;have eQ:(JS.g (i+1)).Ok ts:=o;by_cases p:v≠0/\lN v=some (c:Int)
   ·have D:=A.resolve_left p.1;obtain⟨I,J,u,T,U⟩:=Pq D.1 D.2.1;have P:I=(c:Int):=aOY (u.symm.trans p.2);subst P;obtain⟨f,x,y,Z,g2,V⟩:=(Q _ (Lt.g (show i0<i+1 by omega) o)).bin (c+1) aRK aRK;obtain⟨n1,n2,n3⟩:=next 10 v f x y aRL aRL aRL o V
    obtain⟨s',E,F,f1,f2,f3⟩:=Pr H Q c R K N f _ _ V.ok n3 n1 n2
    have ib:bs (qS ts e' (.g (i+1))) ((c+1:Nat):Int)=some (y,qS ts e' f):=by
     match c,R with
     | z+6,_=>exact g2
    refine⟨s',E,F,?_,?_,f3⟩
    ·have key:aR (c:Int) (pS ts e (.g i)).fT (pS ts e (.g i)).fI (pS ts e (.g i)).ax (pS ts e (.g i)).aw [] k a t l=aR (c:Int) (pS ts e f).fT (pS ts e f).fI (pS ts e f).ax (pS ts e f).aw [] 10 v [] [.mk k a t l,x]:=by
      rw[aR,An (O o)];refine(eu (iR o)).trans ?_;refine oC (show(tok ts i).ah=6 from G) ?_;refine(eu (iR o)).trans ?_;refine aY (show lx (tok ts i).ak=some v from L) ?_;refine(eu (a:=((pS ts e (.g i)).fT,(pS ts e (.g i)).fI,(pS ts e (.g i)).ax,(pS ts e (.g i)).aw,false)) (mg aRK)).trans ?_;refine bX aOo ?_;refine(eu (a:=((pS ts e (.g i)).fT,(pS ts e (.g i)).fI,(pS ts e (.g i)).ax,(pS ts e (.g i)).aw,false)) (mg aRK)).trans ?_;refine bX aOo ?_;refine(eu (a:=true) ?_).trans ?_
      ·rw[An (show v>0 by omega),J,sb,aPI]
      refine oC rfl ?_;rw[se H hi,bz aRK];refine aY Z ?_;rfl
     rw[show aR (c:Int) (pS ts e (.g i)).fT (pS ts e (.g i)).fI (pS ts e (.g i)).ax (pS ts e (.g i)).aw [] (ae.mk k a t l).ah (ae.mk k a t l).aF (ae.mk k a t l).ak (ae.mk k a t l).af=_ from key];exact f1
    ·have key:bL (c:Int) (qS ts e' (.g i)).ar (qS ts e' (.g i)).bA (qS ts e' (.g i)).ax (qS ts e' (.g i)).aw [] k a t l=bL (c:Int) (qS ts e' f).ar (qS ts e' f).bA (qS ts e' f).ax (qS ts e' f).aw [] 10 v [] [.mk k a t l,y]:=by
      rw[bL];simp only[jt,aOn,dD];refine(eu (bV H _ hs)).trans ?_;refine aY (show nv (tok ts i).ak=some v from w) ?_;refine oC (show(tok ts i).ah=6 from G) ?_;refine bX p.1 ?_;refine aY p.2 ?_;refine oC rfl ?_;rw[rf H hi,bz aRK];refine aY ib ?_;rfl
     rw[show bL (c:Int) (qS ts e' (.g i)).ar (qS ts e' (.g i)).bA (qS ts e' (.g i)).ax (qS ts e' (.g i)).aw [] (ae.mk k a t l).ah (ae.mk k a t l).aF (ae.mk k a t l).ak (ae.mk k a t l).af=_ from key];exact f2
   ·refine⟨.g i,.mk k a t l,.mk k a t l,.inl ?_,.inl ?_,inv.rs hi⟩
    ·rw[aR,An (O o)];refine(eu (iR o)).trans ?_;refine oC (show(tok ts i).ah=6 from G) ?_;refine(eu (iR o)).trans ?_;refine aY (show lx (tok ts i).ak=some v from L) ?_;refine(eu (a:=((pS ts e (.g i)).fT,(pS ts e (.g i)).fI,(pS ts e (.g i)).ax,(pS ts e (.g i)).aw,false)) (mg aRK)).trans ?_;refine bX aOo ?_;refine(eu (a:=((pS ts e (.g i)).fT,(pS ts e (.g i)).fI,(pS ts e (.g i)).ax,(pS ts e (.g i)).aw,false)) (mg aRK)).trans ?_;refine bX aOo ?_;refine(eu (a:=false) ?_).trans ?_
     ·rcases A with rfl | ⟨h1,h2,M⟩
      ·rw[mg aRL]
      ·obtain⟨I,J,u,T,U⟩:=Pq h1 h2;rw[An (show v>0 by omega),J,sb,an.2 (λhh=>p ⟨by omega,by rw[u,hh]⟩)]
     refine bX aOo ?_;rfl
    ·rw[bL];simp only[jt,aOn,dD];refine(eu (bV H _ hs)).trans ?_;refine aY (show nv (tok ts i).ak=some v from w) ?_;refine oC (show(tok ts i).ah=6 from G) ?_;by_cases hv:v=0
     ·refine oC hv ?_;rfl
     ·refine bX hv ?_;have D:=A.resolve_left hv;obtain⟨I,J,u,T,U⟩:=Pq D.1 D.2.1;refine aY u ?_;refine bX (show ¬I=(c:Int) fromλhh=>p ⟨hv,by rw[u,hh]⟩) ?_;rfl
  ·refine⟨.g i,.mk k a t l,.mk k a t l,.inr (send h),.inl ?_,inv.rs hi⟩;rw[bL];simp only[jt,aOn,dD];refine(eu (bV H _ hs)).trans ?_;refine aY (show nv (tok ts i).ak=some v from w) ?_;refine bX (show ¬(tok ts i).ah=6 fromλhk=>h ⟨tm (by unfold kd;omega),hk⟩) ?_;rfl
theorem Ps (H:Tk ts e) {i0:Nat} (D:∀s,Lt ts i0 s->PC ts e e' s):∀(N:Nat) (s:JS) (n m:ae),s.Ok ts->i0<=s.pos->(∀i,s=.g i->ts.length - i<N/\n=m/\Inv ts i0 i n)->(∀j,s=.d j->i0<j/\AA m=false)->
  ∃s' z A,S9 (aR 5 (pS ts e s).fT (pS ts e s).fI (pS ts e s).ax (pS ts e s).aw [] n.ah n.aF n.ak n.af) z (pS ts e s')/\
   J9 (bY (qS ts e' s).ar (qS ts e' s).bA (qS ts e' s).ax (qS ts e' s).aw [] m.ah m.aF m.ak m.af) A (qS ts e' s')/\Rs ts true 1 (.g i0) s' z A
 | N,.b j,n,m,hs,hp,_,_=>by
  refine⟨.b j,n,m,.inr ?_,?_,Rs.b hs hp⟩
  ·rw[aR,mg (show ¬(pS ts e (.b j)).fI<((pS ts e (.b j)).fT.length:Int) fromλh=>by have h:(ts.length:Int)<ts.length:=h;omega)]
  ·rw[bY];rw[dD];refine aI (au (w:=[38,38]) H hs rfl) ?_;rfl
 | N,.d j,n,m,hs,hp,_,hd=>by
  refine⟨.d j,n,m,.inr ?_,?_,⟨hs,hp,λi h=>aSg,λU h=>by cases h;exact⟨⟨i0,rfl⟩,(hd j rfl).1,Of _,λ_=>(hd j rfl).2⟩⟩⟩
  ·rw[aR,mg (show ¬(pS ts e (.d j)).fI<((pS ts e (.d j)).fT.length:Int) fromλh=>by have h:(ts.length:Int)<ts.length:=h;omega)]
  ·rw[bY];rw[dD];refine aI (au (w:=[38,38]) H hs rfl) ?_;rfl
 | 0,.g i,n,m,_,_,h,_=>by have:=(h i rfl).1;omega
 | N+1,.g i,n,m,hs,hp,hinv,_=>by
  obtain⟨V,rfl,inv⟩:=hinv i rfl;have hi:i<=ts.length:=hs;have W:=H.len;have I:=inv.lt;have J:=inv.wt;obtain⟨k,a,t,l⟩:=n
  have next:∀(p r:Int) (c:JS) (x y:ae),p≠7->p≠4->p≠8->i<ts.length->Rs ts true 1 (.g (i+1)) c x y->(∀u,c=.g u->ts.length - u<N/\ae.mk p r [] [.mk k a t l,x]=.mk p r [] [.mk k a t l,y]/\Inv ts i0 u (.mk p r [] [.mk k a t l,x]))/\(∀j,c=.d j->i0<j/\AA (.mk p r [] [.mk k a t l,y])=false)/\i0<=c.pos:=λp r c x y E h4 K f h=>by
   refine⟨λu h2=>?_,λj hj=>⟨?_,GH E h4 K⟩,by have:i+1<=c.pos:=h.le;omega⟩
   ·obtain⟨k1,q1,q2,q3,q4,_⟩:=h.good u h2;cases q1;subst q3;refine⟨by omega,rfl,⟨by omega,?_,sy E,λhh=>by omega⟩⟩;rw[jm,jR,c6];simp only[No];omega
   ·have q:i+1<j:=(h.dm j hj).2.1;omega
  have B:i<ts.length->(pS ts e (.g i)).fI<((pS ts e (.g i)).fT.length:Int):=λh=>by show(i:Int)<(ts.length:Int);omega
  have send:¬(i<ts.length/\kd ts i=6)->aR 5 (pS ts e (.g i)).fT (pS ts e (.g i)).fI (pS ts e (.g i)).ax (pS ts e (.g i)).aw [] k a t l=some (.inl ((pS ts e (.g i)).fT,(pS ts e (.g i)).fI,(pS ts e (.g i)).ax,(pS ts e (.g i)).aw,[],k,a,t,l)):=λhh=>by
   rw[aR];by_cases f:i<ts.length
   ·rw[An (B f)];refine(eu (iR f)).trans ?_;refine bX (show ¬(tok ts i).ah=6 fromλh=>hh ⟨f,h⟩) ?_;rfl
   ·rw[mg (show ¬(pS ts e (.g i)).fI<((pS ts e (.g i)).fT.length:Int) fromλh=>by have h:(i:Int)<(ts.length:Int):=h;omega)]
  obtain⟨v,F,X,L⟩:=aiY (tx ts i);cases hw:tw ts i [38,38]with
  | true=>
   have f:=ca hw
   have C:kd ts i=6:=by
    have o:=hw;rw[<-aM H aRL aRL]at o;unfold aT at o;rw[As,aOm]at o;exact o.1
   obtain⟨c,x,y,M,g2,G⟩:=(D _ (Lt.g (show i0<i+1 by omega) f)).bin 6 aRL aRL;obtain⟨O,n2,P⟩:=next 11 0 c x y aRL aRL aRL f G
   obtain⟨s',z,A,Q,f2,R⟩:=Ps H D N c _ _ G.ok P O n2;refine⟨s',z,A,?_,?_,R⟩
   ·have key:aR 5 (pS ts e (.g i)).fT (pS ts e (.g i)).fI (pS ts e (.g i)).ax (pS ts e (.g i)).aw [] k a t l=aR 5 (pS ts e c).fT (pS ts e c).fI (pS ts e c).ax (pS ts e c).aw [] 11 0 [] [.mk k a t l,x]:=by
      rw[aR,An (B f)];refine(eu (iR f)).trans ?_;refine oC (show(tok ts i).ah=6 from C) ?_;refine(eu (iR f)).trans ?_;refine aY (show lx (tok ts i).ak=some v from F) ?_;refine(eu (a:=((pS ts e (.g i)).fT,(pS ts e (.g i)).fI,(pS ts e (.g i)).ax,(pS ts e (.g i)).aw,false)) (mg aRL)).trans ?_;refine bX aOo ?_;refine(eu (a:=((pS ts e (.g (i+1))).fT,(pS ts e (.g (i+1))).fI,(pS ts e (.g (i+1))).ax,(pS ts e (.g (i+1))).aw,true)) ?_).trans ?_
      ·refine oC rfl ?_;refine aY (cy H hw) ?_;rfl
      refine oC rfl ?_;refine aY M ?_;rfl
    rw[show aR 5 (pS ts e (.g i)).fT (pS ts e (.g i)).fI (pS ts e (.g i)).ax (pS ts e (.g i)).aw [] (ae.mk k a t l).ah (ae.mk k a t l).aF (ae.mk k a t l).ak (ae.mk k a t l).af=_ from key];exact Q
   ·have key:bY (qS ts e' (.g i)).ar (qS ts e' (.g i)).bA (qS ts e' (.g i)).ax (qS ts e' (.g i)).aw [] k a t l=bY (qS ts e' c).ar (qS ts e' c).bA (qS ts e' c).ax (qS ts e' c).aw [] 11 0 [] [.mk k a t l,y]:=by
      rw[bY];rw[dD];refine dM (bH H hw) ?_;refine aY g2 ?_;rfl
    rw[show bY (qS ts e' (.g i)).ar (qS ts e' (.g i)).bA (qS ts e' (.g i)).ax (qS ts e' (.g i)).aw [] (ae.mk k a t l).ah (ae.mk k a t l).aF (ae.mk k a t l).ak (ae.mk k a t l).af=_ from key];exact f2
  | false=>
   have fI:J9 (bY (qS ts e' (.g i)).ar (qS ts e' (.g i)).bA (qS ts e' (.g i)).ax (qS ts e' (.g i)).aw [] (ae.mk k a t l).ah (ae.mk k a t l).aF (ae.mk k a t l).ak (ae.mk k a t l).af) (.mk k a t l) (qS ts e' (.g i)):=by
    show bY (qS ts e' (.g i)).ar (qS ts e' (.g i)).bA (qS ts e' (.g i)).ax (qS ts e' (.g i)).aw [] k a t l=_;rw[bY];rw[dD];refine aI (au (w:=[38,38]) H hs hw) ?_;rfl
   by_cases h:i<ts.length/\kd ts i=6
   ·obtain⟨f,C⟩:=h;refine⟨.g i,.mk k a t l,.mk k a t l,.inl ?_,fI,inv.rs hi⟩
    ·rw[aR,An (B f)];refine(eu (iR f)).trans ?_;refine oC (show(tok ts i).ah=6 from C) ?_;refine(eu (iR f)).trans ?_;refine aY (show lx (tok ts i).ak=some v from F) ?_;refine(eu (a:=((pS ts e (.g i)).fT,(pS ts e (.g i)).fI,(pS ts e (.g i)).ax,(pS ts e (.g i)).aw,false)) (mg aRL)).trans ?_;refine bX aOo ?_;refine(eu (a:=((pS ts e (.g i)).fT,(pS ts e (.g i)).fI,(pS ts e (.g i)).ax,(pS ts e (.g i)).aw,false)) ?_).trans ?_
     ·refine oC rfl ?_;rw[jo];refine aY (ay (w:=[38,38]) H hs hw) ?_;rfl
     refine bX aOo ?_;refine(eu (a:=false) ?_).trans ?_
     ·rcases L with rfl | ⟨h1,h2,Y⟩
      ·rw[mg aRL]
      ·obtain⟨S,T,Z,v3,v4⟩:=Pq h1 h2;rw[An (show v>0 by omega),T,sb,an.2 (show S≠5 by omega)]
     refine bX aOo ?_;rfl
   ·exact⟨.g i,.mk k a t l,.mk k a t l,.inr (send h),fI,inv.rs hi⟩
theorem U1 (H:Tk ts e) {i0:Nat} (D:∀s,Lt ts i0 s->PC ts e e' s):∀(N:Nat) (s:JS) (n m:ae),s.Ok ts->i0<=s.pos->(∀i,s=.g i->ts.length - i<N/\n=m/\Inv ts i0 i n)->(∀j,s=.d j->i0<j/\AA m=false)->
  ∃s' z A,S9 (aR 4 (pS ts e s).fT (pS ts e s).fI (pS ts e s).ax (pS ts e s).aw [] n.ah n.aF n.ak n.af) z (pS ts e s')/\
   J9 (cm (qS ts e' s).ar (qS ts e' s).bA (qS ts e' s).ax (qS ts e' s).aw [] m.ah m.aF m.ak m.af) A (qS ts e' s')/\Rs ts true 1 (.g i0) s' z A
 | N,.b j,n,m,hs,hp,_,_=>by
  refine⟨.b j,n,m,.inr ?_,?_,Rs.b hs hp⟩
  ·rw[aR,mg (show ¬(pS ts e (.b j)).fI<((pS ts e (.b j)).fT.length:Int) fromλh=>by have h:(ts.length:Int)<ts.length:=h;omega)]
  ·rw[cm];rw[dD];refine aI (au (w:=[124,124]) H hs rfl) ?_;rfl
 | N,.d j,n,m,hs,hp,_,hd=>by
  refine⟨.d j,n,m,.inr ?_,?_,⟨hs,hp,λi h=>aSg,λU h=>by cases h;exact⟨⟨i0,rfl⟩,(hd j rfl).1,Of _,λ_=>(hd j rfl).2⟩⟩⟩
  ·rw[aR,mg (show ¬(pS ts e (.d j)).fI<((pS ts e (.d j)).fT.length:Int) fromλh=>by have h:(ts.length:Int)<ts.length:=h;omega)]
  ·rw[cm];rw[dD];refine aI (au (w:=[124,124]) H hs rfl) ?_;rfl
 | 0,.g i,n,m,_,_,h,_=>by have:=(h i rfl).1;omega
 | N+1,.g i,n,m,hs,hp,hinv,_=>by
  obtain⟨V,rfl,inv⟩:=hinv i rfl;have hi:i<=ts.length:=hs;have W:=H.len;have I:=inv.lt;have J:=inv.wt;obtain⟨k,a,t,l⟩:=n
  have next:∀(p r:Int) (c:JS) (x y:ae),p≠7->p≠4->p≠8->i<ts.length->Rs ts true 1 (.g (i+1)) c x y->(∀u,c=.g u->ts.length - u<N/\ae.mk p r [] [.mk k a t l,x]=.mk p r [] [.mk k a t l,y]/\Inv ts i0 u (.mk p r [] [.mk k a t l,x]))/\(∀j,c=.d j->i0<j/\AA (.mk p r [] [.mk k a t l,y])=false)/\i0<=c.pos:=λp r c x y E h4 K f h=>by
   refine⟨λu h2=>?_,λj hj=>⟨?_,GH E h4 K⟩,by have:i+1<=c.pos:=h.le;omega⟩
   ·obtain⟨k1,q1,q2,q3,q4,_⟩:=h.good u h2;cases q1;subst q3;refine⟨by omega,rfl,⟨by omega,?_,sy E,λhh=>by omega⟩⟩;rw[jm,jR,c6];simp only[No];omega
   ·have q:i+1<j:=(h.dm j hj).2.1;omega
  have B:i<ts.length->(pS ts e (.g i)).fI<((pS ts e (.g i)).fT.length:Int):=λh=>by show(i:Int)<(ts.length:Int);omega
  have send:¬(i<ts.length/\kd ts i=6)->aR 4 (pS ts e (.g i)).fT (pS ts e (.g i)).fI (pS ts e (.g i)).ax (pS ts e (.g i)).aw [] k a t l=some (.inl ((pS ts e (.g i)).fT,(pS ts e (.g i)).fI,(pS ts e (.g i)).ax,(pS ts e (.g i)).aw,[],k,a,t,l)):=λhh=>by
   rw[aR];by_cases f:i<ts.length
   ·rw[An (B f)];refine(eu (iR f)).trans ?_;refine bX (show ¬(tok ts i).ah=6 fromλh=>hh ⟨f,h⟩) ?_;rfl
   ·rw[mg (show ¬(pS ts e (.g i)).fI<((pS ts e (.g i)).fT.length:Int) fromλh=>by have h:(i:Int)<(ts.length:Int):=h;omega)]
  obtain⟨v,F,X,L⟩:=aiY (tx ts i);cases hw:tw ts i [124,124]with
  | true=>
   have f:=ca hw
   have C:kd ts i=6:=by
    have o:=hw;rw[<-aM H aRL aRL]at o;unfold aT at o;rw[As,aOm]at o;exact o.1
   obtain⟨c,x,y,M,g2,G⟩:=(D _ (Lt.g (show i0<i+1 by omega) f)).bin 5 aRL aRL;obtain⟨O,n2,P⟩:=next 12 0 c x y aRL aRL aRL f G
   obtain⟨s',z,A,Q,f2,R⟩:=U1 H D N c _ _ G.ok P O n2;refine⟨s',z,A,?_,?_,R⟩
   ·have key:aR 4 (pS ts e (.g i)).fT (pS ts e (.g i)).fI (pS ts e (.g i)).ax (pS ts e (.g i)).aw [] k a t l=aR 4 (pS ts e c).fT (pS ts e c).fI (pS ts e c).ax (pS ts e c).aw [] 12 0 [] [.mk k a t l,x]:=by
      rw[aR,An (B f)];refine(eu (iR f)).trans ?_;refine oC (show(tok ts i).ah=6 from C) ?_;refine(eu (iR f)).trans ?_;refine aY (show lx (tok ts i).ak=some v from F) ?_;refine(eu (a:=((pS ts e (.g (i+1))).fT,(pS ts e (.g (i+1))).fI,(pS ts e (.g (i+1))).ax,(pS ts e (.g (i+1))).aw,true)) ?_).trans ?_
      ·refine oC rfl ?_;refine aY (cy H hw) ?_;rfl
      refine oC rfl ?_;refine aY M ?_;rfl
    rw[show aR 4 (pS ts e (.g i)).fT (pS ts e (.g i)).fI (pS ts e (.g i)).ax (pS ts e (.g i)).aw [] (ae.mk k a t l).ah (ae.mk k a t l).aF (ae.mk k a t l).ak (ae.mk k a t l).af=_ from key];exact Q
   ·have key:cm (qS ts e' (.g i)).ar (qS ts e' (.g i)).bA (qS ts e' (.g i)).ax (qS ts e' (.g i)).aw [] k a t l=cm (qS ts e' c).ar (qS ts e' c).bA (qS ts e' c).ax (qS ts e' c).aw [] 12 0 [] [.mk k a t l,y]:=by
      rw[cm];rw[dD];refine dM (bH H hw) ?_;refine aY g2 ?_;rfl
    rw[show cm (qS ts e' (.g i)).ar (qS ts e' (.g i)).bA (qS ts e' (.g i)).ax (qS ts e' (.g i)).aw [] (ae.mk k a t l).ah (ae.mk k a t l).aF (ae.mk k a t l).ak (ae.mk k a t l).af=_ from key];exact f2
  | false=>
   have fI:J9 (cm (qS ts e' (.g i)).ar (qS ts e' (.g i)).bA (qS ts e' (.g i)).ax (qS ts e' (.g i)).aw [] (ae.mk k a t l).ah (ae.mk k a t l).aF (ae.mk k a t l).ak (ae.mk k a t l).af) (.mk k a t l) (qS ts e' (.g i)):=by
    show cm (qS ts e' (.g i)).ar (qS ts e' (.g i)).bA (qS ts e' (.g i)).ax (qS ts e' (.g i)).aw [] k a t l=_;rw[cm];rw[dD];refine aI (au (w:=[124,124]) H hs hw) ?_;rfl
   by_cases h:i<ts.length/\kd ts i=6
   ·obtain⟨f,C⟩:=h;refine⟨.g i,.mk k a t l,.mk k a t l,.inl ?_,fI,inv.rs hi⟩
    ·rw[aR,An (B f)];refine(eu (iR f)).trans ?_;refine oC (show(tok ts i).ah=6 from C) ?_;refine(eu (iR f)).trans ?_;refine aY (show lx (tok ts i).ak=some v from F) ?_;refine(eu (a:=((pS ts e (.g i)).fT,(pS ts e (.g i)).fI,(pS ts e (.g i)).ax,(pS ts e (.g i)).aw,false)) ?_).trans ?_
     ·refine oC rfl ?_;rw[jo];refine aY (ay (w:=[124,124]) H hs hw) ?_;rfl
     refine bX aOo ?_;refine(eu (a:=((pS ts e (.g i)).fT,(pS ts e (.g i)).fI,(pS ts e (.g i)).ax,(pS ts e (.g i)).aw,false)) (mg aRL)).trans ?_;refine bX aOo ?_;refine(eu (a:=false) ?_).trans ?_
     ·rcases L with rfl | ⟨h1,h2,Y⟩
      ·rw[mg aRL]
      ·obtain⟨S,T,Z,v3,v4⟩:=Pq h1 h2;rw[An (show v>0 by omega),T,sb,an.2 (show S≠4 by omega)]
     refine bX aOo ?_;rfl
   ·exact⟨.g i,.mk k a t l,.mk k a t l,.inr (send h),fI,inv.rs hi⟩
theorem Sb (H:Tk ts e) {i:Nat} (hi:i<=ts.length) (o:∀s,Lt ts i s->PC ts e e' s):∀k b:Nat,b+k=11->4<=b->C1 ts e e' true 1 (.g i) (λp=>cH p b) (aGy b)
 | 0,b,h,_=>by
  obtain rfl:b=11:=h;obtain⟨s',n,m,q,g2,c⟩:=akG (e':=e') H hi o;refine⟨s',n,m,?_,?_,c⟩
  ·show cH (pS ts e (.g i)) 11=_;rw[cH,An rfl];refine aY q ?_;rfl
  ·show bs (qS ts e' (.g i)) 11=_;rw[bs,An aRL];refine aY g2 ?_;rfl
 | k+1,b,h,h4=>by
  obtain⟨a,n,m,q,g2,c⟩:=Sb H hi o k (b+1) aRK aRK;have q:cH (pS ts e (.g i)) ((b+1:Nat):Int)=some (n,pS ts e a):=q
  have w:∀v,a=.g v->ts.length - v<ts.length+1/\n=m/\Inv ts i v n:=λv h1=>by
   subst h1;obtain⟨q1,q2⟩:=c.inv;exact⟨by omega,q1,q2⟩
  have x:∀j,a=.d j->i<j/\AA m=false:=λj hj=>by
   obtain⟨_,q2,_,q4⟩:=c.dm j hj;exact⟨q2,q4 rfl⟩
  have eS:∀(s':JS) (l:ae),S9 (aR (b:Int) (pS ts e a).fT (pS ts e a).fI (pS ts e a).ax (pS ts e a).aw [] n.ah n.aF n.ak n.af) l (pS ts e s')->cH (pS ts e (.g i)) (b:Int)=some (l,pS ts e s'):=λs' l f=>by
   rw[cH,mg aRK,bz aRK];refine aY q ?_;exact f.run
  match b,h4 with
  | 4,_=>
   have g2:dW (qS ts e' (.g i))=some (m,qS ts e' a):=g2;obtain⟨s',l,r,t,f2,u⟩:=U1 (e':=e') H o _ a n m c.ok c.le w x;refine⟨s',l,r,eS _ _ t,?_,u⟩;show fD (qS ts e' (.g i))=_;rw[fD];refine aY g2 ?_;exact f2.run
  | 5,_=>
   have g2:bs (qS ts e' (.g i)) 6=some (m,qS ts e' a):=g2;obtain⟨s',l,r,t,f2,u⟩:=Ps (e':=e') H o _ a n m c.ok c.le w x;refine⟨s',l,r,eS _ _ t,?_,u⟩;show dW (qS ts e' (.g i))=_;rw[dW];refine aY g2 ?_;exact f2.run
  | z+6,_=>
   have g2:bs (qS ts e' (.g i)) ((z+6+1:Nat):Int)=some (m,qS ts e' a):=g2;obtain⟨s',l,r,t,f2,u⟩:=Pr (e':=e') H o (z+6) aRK aRK _ a n m c.ok c.le w x;refine⟨s',l,r,eS _ _ t,?_,u⟩;show bs (qS ts e' (.g i)) ((z+6:Nat):Int)=_;rw[bs,mg aRK,bz aRK];refine aY g2 ?_;exact f2.run
end
set_option maxRecDepth 10000
section
variable {ts:List aj}{e e':Int}
theorem Uh (H:Tk ts e) {i:Nat} (hi:i<=ts.length) (l:∀s,Lt ts i s->PC ts e e' s):C1 ts e e' true 1 (.g i) fC cg:=by
 obtain⟨c,n,m,d,g2,a⟩:=Sb (e':=e') H hi l 7 4 rfl aRL;have d:cH (pS ts e (.g i)) 4=some (n,pS ts e c):=d;have g2:fD (qS ts e' (.g i))=some (m,qS ts e' c):=g2;rcases Lb (ts:=ts) c [63,63]with h | ⟨b,rfl,h⟩
 ·refine⟨c,n,m,?_,?_,a⟩
  ·rw[fC];refine aY d ?_;refine aI (ay (w:=[63,63]) H a.ok h) ?_;rfl
  ·rw[cg];refine aY g2 ?_;refine aI (au (w:=[63,63]) H a.ok h) ?_;rfl
 ·have p:=ca h;have hle:i<=b:=a.le;obtain⟨o,x,y,r,f2,f⟩:=(l _ (Lt.g (show i<b+1 by omega) p)).aMm;have z:b+1<=o.pos:=f.le;refine⟨o,.mk 13 0 [] [n,x],.mk 13 0 [] [m,y],?_,?_,Rs.U0 aRL aRL aRL f.ok aRK (Of _) (λj hj=>?_) (λt h'=>?_)⟩
  ·rw[fC];refine aY d ?_;refine dM (cy H h) ?_;refine aY r ?_;rfl
  ·rw[cg];refine aY g2 ?_;refine dM (bH H h) ?_;refine aY f2 ?_;rfl
  ·have q:b+1<j:=(f.dm j hj).2.1;omega
  ·obtain⟨k,q1,q2,q3,q4,_⟩:=f.good t h';cases q1;obtain⟨k,u,A,v,B,_⟩:=a.good b rfl;cases u;subst q3;subst v;refine⟨by omega,rfl,rfl,?_⟩;rw[jR,c6];simp only[No];omega
theorem Ui (H:Tk ts e) {i:Nat} (hi:i<=ts.length) (f:∀s,Lt ts i s->PC ts e e' s):C1 ts e e' true 1 (.g i) jO dL:=by
 obtain⟨l,n,m,o,g2,a⟩:=Uh (e':=e') H hi f;rcases Lb (ts:=ts) l [63]with h | ⟨c,rfl,h⟩
 ·refine⟨l,n,m,?_,?_,a⟩
  ·rw[jO];refine aY o ?_;refine aI (ay (w:=[63]) H a.ok h) ?_;rfl
  ·rw[dL];refine aY g2 ?_;refine aI (au (w:=[63]) H a.ok h) ?_;rfl
 ·have r:=ca h;have hle:i<=c:=a.le;obtain⟨p,x,y,t,f2,b⟩:=(f _ (Lt.g (show i<c+1 by omega) r)).expr;have J:c+1<=p.pos:=b.le;obtain⟨u,z,v,h1,h2,d⟩:=(f _ (Lt.w (i:=i) b.ok aRK [58])).cond;have A:=d.le;have B:=gz (ts:=ts) p [58];refine⟨u,.mk 14 0 [] [n,x,z],.mk 14 0 [] [m,y,v],?_,?_,Rs.U0 aRL aRL aRL d.ok aRK (Of _) (λj hj=>?_) (λC h'=>?_)⟩
  ·rw[jO];refine aY o ?_;refine dM (cy H h) ?_;refine aY t ?_;refine aY (eh H _ b.ok [58]) ?_;refine aY h1 ?_;rfl
  ·rw[dL];refine aY g2 ?_;refine dM (bH H h) ?_;refine aY f2 ?_;refine aY (fv H _ b.ok [58]) ?_;refine aY h2 ?_;rfl
  ·have q:=(d.dm j hj).2.1;omega
  ·obtain⟨k,q1,q2,q3,q4,_⟩:=d.good C h';obtain⟨k1,D,E,_⟩:=fG q1;obtain⟨K,r1,L,F,M,_⟩:=b.good k1 D;cases r1;obtain⟨N,G,O,I,P,_⟩:=a.good c rfl;cases G;subst q3;subst I;subst F;refine⟨by omega,rfl,rfl,?_⟩;rw[jR,jR,c6];simp only[No];omega
theorem aMq (H:Tk ts e) {i:Nat} (h:tw ts i [38]=true):∃m,aL (qS ts e' (.g i))=some (m,qS ts e' (.b i)):=by
 have hi:i<=ts.length:=aOT (ca h);have hs:(JS.g i).Ok ts:=hi;have c:(JS.b i).Ok ts:=hi;obtain⟨l,n,f,_⟩:=mh h;have j:kx ts i=false:=Bx h aRL aRL aRL
 have k:yK ts 3 i=false:=by
  have d:=h;rw[<-aM H aRL aRL]at d;unfold aT at d;rw[As,aOm]at d;exact aMn (by rw[d.1];decide)
 refine⟨.mk 21 0 ([]++[58,58]++[]) [],?_⟩;rw[aL];refine(eu (bV H _ hs)).trans ?_;refine bX qg ?_;refine aY (vx H hi) ?_;refine bX (show ¬kx ts i=true by rw[j];exact aOo) ?_;refine bX f ?_;refine aI (au H hs (w:=[91]) (az h aRL)) ?_;refine aI (au H hs (w:=[40]) (az h aRL)) ?_;refine aI (au H hs (w:=[110,101,119]) (az h aRL)) ?_;refine aI (au H hs (w:=[102,117,110,99,116,105,111,110]) (az h aRL)) ?_;refine(eu (a:=(([]:aE),qS ts e' (.b i))) ?_).trans ?_
 ·unfold cU;refine aI (au H hs (az h aRL)) ?_;refine aY (Ta H hi k (.inr rfl)) ?_;rfl
 refine(eu (a:=(Sum.inl ((qS ts e' (.b i)).ar,(qS ts e' (.b i)).bA,(qS ts e' (.b i)).ax,(qS ts e' (.b i)).aw):((List aj)×Int×Int×Bool) ⊕ (ae×ao))) ?_).trans ?_
 ·refine bX (show ¬([]:aE)=[115,116,97,116,105,99] by decide) ?_;refine aI ((fM (e':=e') H (.b i) c [40]).trans (by rw[show tw ts (JS.b i).pos [40]=false from az h aRL])) ?_;rfl
 refine aY (fv H _ c [58,58]) ?_;refine aY (tB (a:=[]) (b:=[58,58]) aRL) ?_;refine aY (oV H _ c rfl 3 (.inr rfl)) ?_;refine aY (tB (a:=[]++[58,58]) (b:=[]) aRL) ?_;refine aY (LI H c) ?_;rfl
theorem aMr (H:Tk ts e) {i:Nat} (h:tw ts i [38]=true):∃m,bc (qS ts e' (.g i))=some (m,qS ts e' (.b i)):=by
 have hi:i<=ts.length:=aOT (ca h);have hs:(JS.g i).Ok ts:=hi;have c:(JS.b i).Ok ts:=hi;obtain⟨m,h1⟩:=aMq (e':=e') H h
 have h2:cc (qS ts e' (.g i)) false=some (m,qS ts e' (.b i)):=by
  rw[cc];refine aY h1 ?_;refine I9.run (x:=_) (.inr ?_);rw[aJ];simp only[jr,aOw]
 have f:cM (qS ts e' (.g i))=some (m,qS ts e' (.b i)):=by
  rw[cM];refine aI (au (w:=[33]) H hs (az h aRL)) ?_;refine aI (au (w:=[45]) H hs (az h aRL)) ?_;refine aY h2 ?_;rfl
 have h4:∀k a:Nat,a+k=11->bs (qS ts e' (.g i)) a=some (m,qS ts e' (.b i)):=by
  intro k;induction k with
  | zero=>
   intro a d;obtain rfl:a=11:=d;rw[bs,An aRL];refine aY f ?_;rfl
  | succ k j=>
   intro a d;rw[bs,mg aRK,bz aRK];refine aY (j (a+1) aRK) ?_;refine I9.run (x:=_) (.inr ?_);rw[bL];simp only[jr,aOw]
 have l:dW (qS ts e' (.g i))=some (m,qS ts e' (.b i)):=by
  rw[dW];refine aY (h4 5 6 rfl) ?_;refine J9.run (x:=_) ?_;rw[bY,dD];refine aI (au (w:=[38,38]) H c rfl) ?_;rfl
 have n:fD (qS ts e' (.g i))=some (m,qS ts e' (.b i)):=by
  rw[fD];refine aY l ?_;refine J9.run (x:=_) ?_;rw[cm,dD];refine aI (au (w:=[124,124]) H c rfl) ?_;rfl
 have o:cg (qS ts e' (.g i))=some (m,qS ts e' (.b i)):=by
  rw[cg];refine aY n ?_;refine aI (au (w:=[63,63]) H c rfl) ?_;rfl
 have p:dL (qS ts e' (.g i))=some (m,qS ts e' (.b i)):=by
  rw[dL];refine aY o ?_;refine aI (au (w:=[63]) H c rfl) ?_;rfl
 refine⟨m,?_⟩;rw[bc];refine aY p ?_;refine oC (show(qS ts e' (.b i)).aw=true from rfl) ?_;rfl
theorem Rs.aq1 {v:Bool} {D:Nat} {s s':JS} {n m:ae} (h:Rs ts v D s s' n m) (c:1<=D):Rs ts false 2 s s' n m:=
 ⟨h.ok,h.le,λa h'=>by
  obtain⟨i,q1,q2,q3,q4,b,_⟩:=h.good a h';exact⟨i,q1,q2,q3,q4,b,λhh=>by cases hh⟩,λj hj=>by
  obtain⟨q1,q2,q3,q4⟩:=h.dm j hj;exact⟨q1,q2,by omega,λhh=>by omega⟩⟩
theorem La (H:Tk ts e) {i:Nat} (hi:i<=ts.length) (N:∀s,Lt ts i s->PC ts e e' s):C1 ts e e' false 2 (.g i) bB bc:=by
 have V:=H.len;obtain⟨I,n,m,p,g2,f⟩:=Ui (e':=e') H hi N
 have back:aS ts I 0 6 [61]=false->bB (pS ts e (.g i))=some (n,pS ts e I):=λr=>by
  rw[bB];refine aY p ?_;refine aI ((dX H _ f.ok 6 [61] aRL).trans (by rw[r])) ?_;rfl
 match I,p,g2,f,back with
 | .b j,p,g2,f,back=>
  refine⟨.b j,n,m,back rfl,?_,f.aq1 (Of _)⟩;rw[bc];refine aY g2 ?_;refine oC (show(qS ts e' (.b j)).aw=true from rfl) ?_;rfl
 | .d j,p,g2,f,back=>
  refine⟨.d j,n,m,back rfl,?_,f.aq1 (Of _)⟩;rw[bc];refine aY g2 ?_;refine bX (show ¬(qS ts e' (.d j)).aw=true by rw[R5];exact id) ?_;refine dM ((fM (e':=e') H (.d j) f.ok [61]).trans (by rw[show tw ts (JS.d j).pos [61]=true from f.ok.2])) ?_;refine aI ((qO m).trans (by rw[(f.dm j rfl).2.2.2 rfl])) ?_;rfl
 | .g a,p,g2,f,back=>
  have t:a<=ts.length:=f.ok;have hle:i<=a:=f.le;obtain⟨W,P,J,Q,R,E,B⟩:=f.good a rfl;cases P;subst Q;have o:aX (qS ts e' (.g a)) 0 [61]=some (tw ts a [61],qS ts e' (.g a)):=fM (e':=e') H (.g a) f.ok [61];cases h:tw ts a [61]with
  | false=>
   refine⟨.g a,n,n,back ((aM H aRL aRL).trans h),?_,f.aq1 (Of _)⟩;rw[bc];refine aY g2 ?_;refine bX qg ?_;refine aI (o.trans (by rw[h])) ?_;rfl
  | true=>
   have F:=ca h;have u:bq (pS ts e (.g a)) 0 6 [61]=some (true,pS ts e (.g a)):=(dX H _ f.ok 6 [61] aRL).trans (by rw[show aS ts (.g a) 0 6 [61]=true from(aM H aRL aRL).trans h]);cases l:uc n with
   | false=>
    refine⟨.d a,.mk 0 0 [] [],n,?_,?_,⟨⟨F,h⟩,hle,λK h'=>(by cases h'),λj hj=>by cases hj;exact⟨⟨i,rfl⟩,J,by decide,λhh=>(by cases hh)⟩⟩⟩
    ·rw[bB];refine aY p ?_;refine dM u ?_;refine aI ((qP n).trans (by rw[l])) ?_;refine aY (tl H (.g a) f.ok) ?_;rfl
    ·rw[bc];refine aY g2 ?_;refine bX qg ?_;refine dM (o.trans (by rw[h])) ?_;refine aI ((qO n).trans (by rw[E,l])) ?_;rfl
   | true=>
    have C:(JS.g (a+1)).Ok ts:=F;have A:bq (pS ts e (.g (a+1))) 0 6 [38]=some (tw ts (a+1) [38],pS ts e (.g (a+1))):=(dX H _ C 6 [38] aRL).trans (by rw[show aS ts (.g (a+1)) 0 6 [38]=tw ts (a+1) [38]from aM H aRL aRL])
    have D:(bm ((qS ts e' (.g a)).bA+1)=bm ((qS ts e' (.g i)).bA+2))↔a=i+1:=by
     show(bm ((a:Int)+1)=bm ((i:Int)+2))↔_;rw[bz aRK,wW aRK aRK];omega
    cases r:tw ts (a+1) [38]with
    | false=>
     obtain⟨O,x,y,S,f2,G⟩:=(N _ (Lt.g (show i<a+1 by omega) F)).expr;have L:a+1<=O.pos:=G.le;refine⟨O,.mk 15 0 [] [n,x],.mk 15 0 [] [n,y],?_,?_,Rs.U0 aRL aRL aRL G.ok aRK aRL (λj hj=>?_) (λK h'=>?_)⟩
     ·rw[bB];refine aY p ?_;refine dM u ?_;refine dM ((qP n).trans (by rw[l])) ?_;rw[se H t];refine aI (A.trans (by rw[r])) ?_;refine aY S ?_;rfl
     ·rw[bc];refine aY g2 ?_;refine bX qg ?_;refine dM (o.trans (by rw[h])) ?_;refine dM ((qO n).trans (by rw[E,l])) ?_;by_cases c:a=i+1
      ·refine oC (D.2 c) ?_;refine aY (iR (show i<ts.length by omega)) ?_;by_cases z:kd ts i=2
       ·refine oC (show(tok ts i).ah=2 from z) ?_;rw[rf H t];refine aI (au (w:=[38]) H C r) ?_;refine aY f2 ?_;rfl
       ·refine bX (show ¬(tok ts i).ah=2 from z) ?_;rw[rf H t];refine aY f2 ?_;rfl
      ·refine bX (λhh=>c (D.1 hh)) ?_;rw[rf H t];refine aY f2 ?_;rfl
     ·have q:a+1<j:=(G.dm j hj).2.1;omega
     ·obtain⟨k,q1,q2,q3,q4,_⟩:=G.good K h';cases q1;subst q3;refine⟨by omega,rfl,rfl,?_⟩;rw[jR,c6];simp only[No];omega
    | true=>
     have T:=ca r;have M:(JS.g (a+1+1)).Ok ts:=T;by_cases c:n.ah=4/\a=i+1
     ·have z:kd ts i=2:=by
       have:=B rfl c.2;rw[c.1]at this;have this:=this.symm;rw[show((4:Int)==4)=true from rfl,aOm]at this;exact this
      have U:=js H (.g (a+1+1)) 2;have L:=@mQ ts (.g (a+1+1)) 2;have L:a+1+1<=(nS ts (.g (a+1+1)) 2).pos:=L;refine⟨nS ts (.g (a+1+1)) 2,.mk 17 0 n.ak [.mk 4 0 (nT ts (.g (a+1+1)) 2) []],.mk 17 0 n.ak [.mk 4 0 (nT ts (.g (a+1+1)) 2) []],?_,?_,Rs.node aRL (sd M aRL) (uD _ _) aRK (λK h'=>?_)⟩
      ·rw[bB];refine aY p ?_;refine dM u ?_;refine dM ((qP n).trans (by rw[l])) ?_;rw[se H t];refine dM (A.trans (by rw[r])) ?_;refine oC c.1 ?_;refine oC (show(pS ts e (.g a)).fI=bm ((pS ts e (.g i)).fI+1)from by show(a:Int)=bm ((i:Int)+1);rw[bz aRK,c.2]) ?_;rw[se H C];refine aY (R6 H _ M) ?_;rfl
      ·rw[bc];refine aY g2 ?_;refine bX qg ?_;refine dM (o.trans (by rw[h])) ?_;refine dM ((qO n).trans (by rw[E,l])) ?_;refine oC (D.2 c.2) ?_;refine aY (iR (show i<ts.length by omega)) ?_;refine oC (show(tok ts i).ah=2 from z) ?_;rw[rf H t];refine dM (bH H r) ?_;refine aY (R9 H _ M rfl) ?_;rfl
      ·obtain⟨k,q1,q2,_⟩:=mi h';cases q1;refine⟨by omega,rfl,rfl,?_⟩;have:=xU n;rw[c6,jm,gV];omega
     ·obtain⟨y,f2⟩:=aMr (e':=e') H r;refine⟨.b (a+1),.mk 0 0 [] [],.mk 15 0 [] [n,y],?_,?_,Rs.b F aRK⟩
      ·rw[bB];refine aY p ?_;refine dM u ?_;refine dM ((qP n).trans (by rw[l])) ?_;rw[se H t];refine dM (A.trans (by rw[r])) ?_;by_cases hk:n.ah=4
       ·refine oC hk ?_
        refine bX (show ¬(pS ts e (.g a)).fI=bm ((pS ts e (.g i)).fI+1) fromλhh=>by
         have hh:(a:Int)=bm ((i:Int)+1):=hh;rw[bz aRK]at hh;exact c ⟨hk,by omega⟩) ?_
        refine aY (tl H _ C) ?_;rfl
       ·refine bX hk ?_;refine aY (tl H _ C) ?_;rfl
      ·rw[bc];refine aY g2 ?_;refine bX qg ?_;refine dM (o.trans (by rw[h])) ?_;refine dM ((qO n).trans (by rw[E,l])) ?_;by_cases v:a=i+1
       ·refine oC (D.2 v) ?_;refine aY (iR (show i<ts.length by omega)) ?_
        have z:¬kd ts i=2:=λz=>c ⟨by
         have:=B rfl v;rw[z,show((2:Int)==2)=true from rfl,aOm]at this;exact this,v⟩
        refine bX (show ¬(tok ts i).ah=2 from z) ?_;rw[rf H t];refine aY f2 ?_;rfl
       ·refine bX (λhh=>v (D.1 hh)) ?_;rw[rf H t];refine aY f2 ?_;rfl
end
set_option maxRecDepth 10000
section
variable {ts:List aj}{e e':Int}
theorem comma (s:JS) (c:aE) (hc:(([44]:aE)==c)=false):(∃i,s=.g i/\tw ts i [44]=true/\tw ts i c=false)\/(tS ts s [44]=false/\∃i,s=.g i/\tw ts i c=true)\/(tS ts s [44]=false/\tS ts s c=false):=by
 rcases Lb (ts:=ts) s [44]with h | ⟨i,rfl,h⟩
 ·rcases Lb (ts:=ts) s c with h2 | ⟨i,rfl,h2⟩
  ·exact .inr (.inr ⟨h,h2⟩)
  ·exact .inr (.inl ⟨h,i,rfl,h2⟩)
 ·exact .inl ⟨i,rfl,h,az h hc⟩
theorem JL (H:Tk ts e) {i0:Nat} (v:∀s,Lt ts i0 s->PC ts e e' s):∀(N:Nat) (i:Nat) (l m:List ae),ts.length - i<N->i0<i->i<=ts.length->l.length+ts.length<=10000+i->m.length+ts.length<=10000+i->
  ∃s' x y,S5 (eH (pS ts e (.g i)).fT (pS ts e (.g i)).fI (pS ts e (.g i)).ax (pS ts e (.g i)).aw l) (l++x) (pS ts e s')/\
   I5 (dc (qS ts e' (.g i)).ar (qS ts e' (.g i)).bA (qS ts e' (.g i)).ax (qS ts e' (.g i)).aw m) (m++y) (qS ts e' s')/\
   s'.Ok ts/\s'.nd=true/\i<=s'.pos/\x.length+i<=s'.pos+1/\y.length+i<=s'.pos+1/\(∀d,s'=.g d->i<d/\x=y/\(wl x:Int)+16384*(i:Int)<=16384*(d:Int))
 | 0,i,l,m,h,_,_,_,_=>by omega
 | N+1,i,l,m,J,h0,hi,K,hm=>by
  have L:=H.len;have hs:(JS.g i).Ok ts:=hi;obtain⟨f,n,p,C,g2,c⟩:=(v _ (Lt.g h0 hi)).expr;have hle:i<=f.pos:=c.le
  have eS:eH (pS ts e (.g i)).fT (pS ts e (.g i)).fI (pS ts e (.g i)).ax (pS ts e (.g i)).aw l=
    (aD (pS ts e f) [44]>>=λ(j,b)=>(if j=true then eH b.fT b.fI b.ax b.aw (l++[n])else aQ b [41]>>=λD=>some (.inr (l++[n],D)))):=by
   rw[eH];simp only[kq,aOw,jo];refine aY C ?_;refine aY (fN _ aRK) ?_;rfl
  have eI:dc (qS ts e' (.g i)).ar (qS ts e' (.g i)).bA (qS ts e' (.g i)).ax (qS ts e' (.g i)).aw m=
    (av (qS ts e' f) [41]>>=λ(q,z)=>(if q=true then some (.inr (m++[p],z))else aO z [44]>>=λj=>dc j.ar j.bA j.ax j.aw (m++[p]))):=by
   rw[dc];simp only[jt,aOn,dD];refine aY g2 ?_;refine aY (fN _ aRK) ?_;rfl
  rcases comma (ts:=ts) f [41] aRL with⟨a,rfl,h,h2⟩ | ⟨h,a,rfl,h2⟩ | ⟨h,h2⟩
  ·have A:=ca h;obtain⟨k,q1,q2,q3,q4,_⟩:=c.good a rfl;cases q1;subst q3;have r:(JS.g a).Ok ts:=c.ok;obtain⟨s',x,y,B,f2,E,F,M,O,P,G⟩:=JL H v N (a+1) (l++[n]) (m++[n]) aRK aRK aRK aRY aRY;rw[aOQ]at B f2
   have t:eH (pS ts e (.g i)).fT (pS ts e (.g i)).fI (pS ts e (.g i)).ax (pS ts e (.g i)).aw l=eH (pS ts e (.g (a+1))).fT (pS ts e (.g (a+1))).fI (pS ts e (.g (a+1))).ax (pS ts e (.g (a+1))).aw (l++[n]):=by
    rw[eS];refine dM (cy H h) ?_;rfl
   have u:dc (qS ts e' (.g i)).ar (qS ts e' (.g i)).bA (qS ts e' (.g i)).ax (qS ts e' (.g i)).aw m=dc (qS ts e' (.g (a+1))).ar (qS ts e' (.g (a+1))).bA (qS ts e' (.g (a+1))).ax (qS ts e' (.g (a+1))).aw (m++[n]):=by
    rw[eI];refine aI (au (w:=[41]) H r h2) ?_;refine aY (GI H h) ?_;rfl
   refine⟨s',_,_,by rw[t];exact B,by rw[u];exact f2,E,F,by omega,?_,?_,λd o=>?_⟩
   ·simp only[aOj,At,No];omega
   ·simp only[aOj,At,No];omega
   ·obtain⟨r1,I,Q⟩:=G d o;subst I;refine⟨by omega,rfl,?_⟩;rw[iD,c6];omega
  ·have A:=ca h2;obtain⟨k,q1,q2,q3,q4,_⟩:=c.good a rfl;cases q1;subst q3;have r:(JS.g a).Ok ts:=c.ok;refine⟨.g (a+1),[n],[n],.inl ?_,.inl ?_,A,rfl,by show i<=a+1;omega,?_,?_,λd o=>?_⟩
   ·rw[eS];refine aI (ay (w:=[44]) H r h) ?_;refine aY (Cq H h2) ?_;rfl
   ·rw[eI];refine dM (bH H h2) ?_;rfl
   ·show 1+i<=a+1+1;omega
   ·show 1+i<=a+1+1;omega
   ·cases o;refine⟨by omega,rfl,?_⟩;rw[c6];omega
  ·refine⟨P6 f,[n],[p],.inl ?_,.inr ?_,Cr c.ok,GD _,by rw[tj];exact hle,?_,?_,λd o=>(Pn o).elim⟩
   ·rw[eS];refine aI (ay (w:=[44]) H c.ok h) ?_;refine aY ((eh H _ c.ok [41]).trans (by rw[kC h2])) ?_;rfl
   ·rw[eI];refine aI (au (w:=[41]) H c.ok h2) ?_;refine aY ((fv H _ c.ok [44]).trans (by rw[kC h])) ?_;rw[dc];simp only[GF,aOw]
   ·rw[tj];show 1+i<=f.pos+1;omega
   ·rw[tj];show 1+i<=f.pos+1;omega
theorem ahR (H:Tk ts e) {i:Nat} (hi:i<=ts.length) (k:∀s,Lt ts i s->PC ts e e' s) (a:List ae) (u:a.length<=100):
  ∃s' l m,eG (pS ts e (.g i)) a=some (l,pS ts e s')/\dx (qS ts e' (.g i))=some (m,qS ts e' s')/\RL ts a (.g i) s' l m:=by
 have v:=H.len;have hs:(JS.g i).Ok ts:=hi;have d:(JS.b i).Ok ts:=hi;cases h:tw ts i [40]with
 | false=>
  refine⟨.b i,a,[],?_,?_,⟨hi,rfl,Of i,by show a.length+i<=a.length+i+1;omega,by show 0+i<=i+1;omega,λc h'=>(by cases h')⟩⟩
  ·rw[eG];refine aY ((eh H _ hs [40]).trans (by rw[aGD h])) ?_;refine aI (ay (w:=[41]) H d rfl) ?_;refine S5.run (x:=_) (.inr ?_);rw[eH];simp only[qQ H,aOn]
  ·rw[dx];refine aY ((fv H _ hs [40]).trans (by rw[aGD h])) ?_;refine aI (au (w:=[41]) H d rfl) ?_;refine I5.run (x:=_) (.inr ?_);rw[dc];simp only[jr,aOw]
 | true=>
  have f:=ca h;have j:(JS.g (i+1)).Ok ts:=f;cases h2:tw ts (i+1) [41]with
  | true=>
   have n:=ca h2;refine⟨.g (i+1+1),a,[],?_,?_,⟨n,rfl,by show i<=i+1+1;omega,by show a.length+i<=a.length+(i+1+1)+1;omega,by show 0+i<=i+1+1+1;omega,λc h'=>?_⟩⟩
   ·rw[eG];refine aY (Cq H h) ?_;refine dM (cy H h2) ?_;rfl
   ·rw[dx];refine aY (GI H h) ?_;refine dM (bH H h2) ?_;rfl
   ·cases h';exact⟨i,rfl,by omega,by simp,by rw[gV];omega⟩
  | false=>
   obtain⟨s',x,y,o,f2,p,q,z,A,B,r⟩:=JL H k _ (i+1) a [] (aOr _) (aOr i) f aRK aRT;refine⟨s',a++x,[]++y,?_,?_,⟨p,q,by show i<=s'.pos;omega,?_,?_,λc h'=>?_⟩⟩
   ·rw[eG];refine aY (Cq H h) ?_;refine aI (ay (w:=[41]) H j h2) ?_;exact o.run
   ·rw[dx];refine aY (GI H h) ?_;refine aI (au (w:=[41]) H j h2) ?_;exact f2.run
   ·simp only[aOj];show a.length+x.length+i<=a.length+s'.pos+1;omega
   ·simp only[aOB];show y.length+i<=s'.pos+1;omega
   ·obtain⟨r1,t,C⟩:=r c h';subst t;exact⟨i,rfl,by omega,rfl,by simp only[aOB];omega⟩
def S10 (x:Option (((List aj)×Int×Int×Int×(List ae)×(List ae)) ⊕ (ae×aH))) (l:List ae) (p:aH):Prop:=x=some (.inr (.mk 5 0 [] l,p))\/x=some (.inl (p.fT,p.fI,p.ax,p.aw,[],l))
def I10 (x:Option (((List aj)×Int×Int×Bool×(List ae)×(List ae)) ⊕ (ae×ao))) (l:List ae) (p:ao):Prop:=x=some (.inr (.mk 5 0 [] l,p))\/x=some (.inl (p.ar,p.bA,p.ax,p.aw,[],l))
theorem S10.run {x:Option (((List aj)×Int×Int×Int×(List ae)×(List ae)) ⊕ (ae×aH))} {l:List ae} {p:aH} (h:S10 x l p):(x>>=λo=>match o with
  | .inr r=>some r
  | .inl (a,y6,b,c,e,d)=>some ((ae.mk 5 0 [] d),(aH.mk a y6 b c)))=some (.mk 5 0 [] l,p):=by
 rcases h with h | h<;>rw[h]<;>rfl
theorem I10.run {x:Option (((List aj)×Int×Int×Bool×(List ae)×(List ae)) ⊕ (ae×ao))} {l:List ae} {p:ao} (h:I10 x l p):(x>>=λo=>match o with
  | .inr r=>some r
  | .inl (a,y6,b,c,e,d)=>some ((ae.mk 5 0 [] d),(ao.mk a y6 b c)))=some (.mk 5 0 [] l,p):=by
 rcases h with h | h<;>rw[h]<;>rfl
theorem JM (H:Tk ts e) {i0:Nat} (I:∀s,Lt ts i0 s->PC ts e e' s) (Q:C1 ts e e' false 2 (.g i0) bB bc):∀(N:Nat) (i:Nat) (l m:List ae),ts.length - i<N->i0<=i->i<=ts.length->l.length+ts.length<=10000+i->m.length+ts.length<=10000+i->
  ∃s' x y,S10 (ft (pS ts e (.g i)).fT (pS ts e (.g i)).fI (pS ts e (.g i)).ax (pS ts e (.g i)).aw [] l) (l++x) (pS ts e s')/\
   I10 (dy (qS ts e' (.g i)).ar (qS ts e' (.g i)).bA (qS ts e' (.g i)).ax (qS ts e' (.g i)).aw [] m) (m++y) (qS ts e' s')/\
   s'.Ok ts/\s'.nd=true/\i<=s'.pos/\(∀p,s'=.g p->i+1<p/\x=y/\(wl x:Int)+16384*(i:Int)+8192<=16384*(p:Int))
 | 0,i,l,m,h,_,_,_,_=>by omega
 | N+1,i,l,m,hN,h0,hi,hl,hm=>by
  have hL:=H.len;have hs:(JS.g i).Ok ts:=hi
  have S:C1 ts e e' false 2 (.g i) bB bc:=by
   rcases Nat.eq_or_lt_of_le h0 with h | h
   ·rw[<-h];exact Q
   ·exact(I _ (Lt.g h hi)).expr
  obtain⟨v,n,A,T,g2,r⟩:=S;have hle:i<=v.pos:=r.le
  obtain⟨b,c,t,U,e2,d,B,R⟩:∃(b:JS) (c t:List ae),
    (aD (pS ts e v) [61,62]>>=λ(J,f)=>(if J=true then bB f>>=λ(K,j)=>cQ 56 ([n]:List ae) [K]>>=λL=>some (j.fT,j.fI,j.ax,j.aw,L)else some (f.fT,f.fI,f.ax,f.aw,([n]:List ae))))=some ((pS ts e b).fT,(pS ts e b).fI,(pS ts e b).ax,(pS ts e b).aw,c)/\
    (av (qS ts e' v) [61,62]>>=λ(J,f)=>(if J=true then bc f>>=λ(K,j)=>cQ 56 ([A]:List ae) [K]>>=λL=>some (j.ar,j.bA,j.ax,j.aw,L)else some (f.ar,f.bA,f.ax,f.aw,([A]:List ae))))=some ((qS ts e' b).ar,(qS ts e' b).bA,(qS ts e' b).ax,(qS ts e' b).aw,t)/\
    b.Ok ts/\i<=b.pos/\(∀a,b=.g a->i<a/\c=t/\(wl c:Int)+16384*(i:Int)+8191<=16384*(a:Int)):=by
   rcases Lb (ts:=ts) v [61,62]with h | ⟨E,rfl,h⟩
   ·refine⟨v,[n],[A],?_,?_,r.ok,hle,λa h2=>?_⟩
    ·refine aI (ay (w:=[61,62]) H r.ok h) ?_;rfl
    ·refine aI (au (w:=[61,62]) H r.ok h) ?_;rfl
    ·obtain⟨k,q1,q2,q3,q4,_⟩:=r.good a h2;cases q1;subst q3;exact⟨q2,rfl,by rw[c6];omega⟩
   ·have F:=ca h;have hle:i<=E:=hle;obtain⟨b,x,x',G,f2,C⟩:=(I _ (Lt.g (show i0<E+1 by omega) F)).expr;have B:E+1<=b.pos:=C.le;refine⟨b,[n,x],[A,x'],?_,?_,C.ok,by omega,λa h2=>?_⟩
    ·refine dM (cy H h) ?_;refine aY G ?_;refine aY (fN (l:=[n]) _ aRN) ?_;rfl
    ·refine dM (bH H h) ?_;refine aY f2 ?_;refine aY (fN (l:=[A]) _ aRN) ?_;rfl
    ·obtain⟨k,q1,q2,q3,q4,_⟩:=C.good a h2;cases q1;obtain⟨k,V,q6,W,q8,_⟩:=r.good E rfl;cases V;subst q3;subst W;exact⟨by omega,rfl,by rw[jR,c6];omega⟩
  have eS:ft (pS ts e (.g i)).fT (pS ts e (.g i)).fI (pS ts e (.g i)).ax (pS ts e (.g i)).aw [] l=
    (aD (pS ts e b) [44]>>=λ(q,o)=>(if q=true then ft o.fT o.fI o.ax o.aw [] (l++[.mk 6 0 [] c])else aQ o [93]>>=λu=>some (.inr ((ae.mk 5 0 [] (l++[.mk 6 0 [] c])),u)))):=by
   rw[ft];simp only[kq,aOw,jo];refine aY T ?_;refine aY U ?_;refine aY (fN _ aRK) ?_;rfl
  have eI:dy (qS ts e' (.g i)).ar (qS ts e' (.g i)).bA (qS ts e' (.g i)).ax (qS ts e' (.g i)).aw [] m=
    (av (qS ts e' b) [93]>>=λ(q,o)=>(if q=true then some (.inr ((ae.mk 5 0 [] (m++[.mk 6 0 [] t])),o))else aO o [44]>>=λu=>dy u.ar u.bA u.ax u.aw [] (m++[.mk 6 0 [] t]))):=by
   rw[dy];simp only[jt,aOn,dD];refine aY g2 ?_;refine aY e2 ?_;refine aY (fN _ aRK) ?_;rfl
  have hit:∀z:List ae,wl [ae.mk 6 0 [] z]=1+wl z:=λz=>by rw[c6,jm];simp
  rcases comma (ts:=ts) b [93] aRL with⟨a,rfl,h,h2⟩ | ⟨h,a,rfl,h2⟩ | ⟨h,h2⟩
  ·have F:=ca h;obtain⟨q2,q3,q4⟩:=R a rfl;subst q3;have M:(JS.g a).Ok ts:=d;obtain⟨s',x,y,G,f2,C,X,f5,Y⟩:=JM H I Q N (a+1) (l++[.mk 6 0 [] c]) (m++[.mk 6 0 [] c]) aRK aRK aRK aRY aRY;rw[aOQ]at G f2
   have O:ft (pS ts e (.g i)).fT (pS ts e (.g i)).fI (pS ts e (.g i)).ax (pS ts e (.g i)).aw [] l=ft (pS ts e (.g (a+1))).fT (pS ts e (.g (a+1))).fI (pS ts e (.g (a+1))).ax (pS ts e (.g (a+1))).aw [] (l++[.mk 6 0 [] c]):=by
    rw[eS];refine dM (cy H h) ?_;rfl
   have P:dy (qS ts e' (.g i)).ar (qS ts e' (.g i)).bA (qS ts e' (.g i)).ax (qS ts e' (.g i)).aw [] m=dy (qS ts e' (.g (a+1))).ar (qS ts e' (.g (a+1))).bA (qS ts e' (.g (a+1))).ax (qS ts e' (.g (a+1))).aw [] (m++[.mk 6 0 [] c]):=by
    rw[eI];refine aI (au (w:=[93]) H M h2) ?_;refine aY (GI H h) ?_;rfl
   refine⟨s',_,_,by rw[O];exact G,by rw[P];exact f2,C,X,by omega,λp D=>?_⟩;obtain⟨r1,Z,r3⟩:=Y p D;subst Z;refine⟨by omega,rfl,?_⟩;rw[iD,hit];omega
  ·have F:=ca h2;obtain⟨q2,q3,q4⟩:=R a rfl;subst q3;have M:(JS.g a).Ok ts:=d;refine⟨.g (a+1),[.mk 6 0 [] c],[.mk 6 0 [] c],.inl ?_,.inl ?_,F,rfl,by show i<=a+1;omega,λp D=>?_⟩
   ·rw[eS];refine aI (ay (w:=[44]) H M h) ?_;refine aY (Cq H h2) ?_;rfl
   ·rw[eI];refine dM (bH H h2) ?_;rfl
   ·cases D;refine⟨by omega,rfl,?_⟩;rw[hit];omega
  ·refine⟨P6 b,[.mk 6 0 [] c],[.mk 6 0 [] t],.inl ?_,.inr ?_,Cr d,GD _,by rw[tj];exact B,λp D=>(Pn D).elim⟩
   ·rw[eS];refine aI (ay (w:=[44]) H d h) ?_;refine aY ((eh H _ d [93]).trans (by rw[kC h2])) ?_;rfl
   ·rw[eI];refine aI (au (w:=[93]) H d h2) ?_;refine aY ((fv H _ d [44]).trans (by rw[kC h])) ?_;rw[dy];simp only[GF,aOw]
theorem ahQ (H:Tk ts e) {i:Nat} (hi:i<=ts.length) (a:∀s,Lt ts i s->PC ts e e' s):C1 ts e e' false 0 (.g i) jN gX:=by
 have o:=H.len;have hs:(JS.g i).Ok ts:=hi;cases h:tw ts i [93]with
 | true=>
  have c:=ca h;refine⟨.g (i+1),.mk 5 0 [] [],.mk 5 0 [] [],?_,?_,⟨c,aPj i,λb h'=>(by cases h';exact⟨i,rfl,aOr i,rfl,by rw[jm,gV];simp only[No];omega,sy aRL,λhh=>by cases hh⟩),λj hj=>(by cases hj)⟩⟩
  ·rw[jN];refine dM (cy H h) ?_;rfl
  ·rw[gX];refine dM (bH H h) ?_;rfl
 | false=>
  obtain⟨s',x,y,d,f2,f,k,l,m⟩:=JM H a (La H hi a) _ i [] [] (aOr _) (Of i) hi aRT aRT;refine⟨s',.mk 5 0 [] ([]++x),.mk 5 0 [] ([]++y),?_,?_,Rs.node aRL f k l (λb h'=>?_)⟩
  ·rw[jN];refine aI (ay (w:=[93]) H hs h) ?_;exact d.run
  ·rw[gX];refine aI (au (w:=[93]) H hs h) ?_;exact f2.run
  ·obtain⟨r1,n,p⟩:=m b h';subst n;simp only[aOB,No];exact⟨by omega,trivial,trivial,by omega⟩
def S11 (x:Option ((List aj)×Int×Int×Int×(List ae)×(List ae))) (l:List ae) (p:aH):Prop:=x=some (p.fT,p.fI,p.ax,p.aw,[],l)
def I11 (x:Option ((List aj)×Int×Int×Bool×(List ae)×(List ae))) (l:List ae) (p:ao):Prop:=x=some (p.ar,p.bA,p.ax,p.aw,[],l)
theorem Ad (H:Tk ts e) {i0:Nat} (p:∀s,Lt ts i0 s->PC ts e e' s):∀(N:Nat) (s:JS) (l m:List ae),s.Ok ts->s.nd=true->i0<=s.pos->(∀i,s=.g i->ts.length - i<N/\i0<i)->l.length+ts.length<=10000+s.pos->m.length+ts.length<=10000+s.pos->
  ∃s' x y,S11 (dH (pS ts e s).fT (pS ts e s).fI (pS ts e s).ax (pS ts e s).aw [] l) (l++x) (pS ts e s')/\I11 (cN (qS ts e' s).ar (qS ts e' s).bA (qS ts e' s).ax (qS ts e' s).aw [] m) (m++y) (qS ts e' s')/\
   s'.Ok ts/\s'.nd=true/\i0<=s'.pos/\(∀a,s'=.g a->∃i,s=.g i/\i<a/\x=y/\(wl x:Int)+16384*(i:Int)+8192<=16384*(a:Int))
 | N,.d j,l,m,_,hd,_,_,_,_=>by cases hd
 | N,.b j,l,m,hs,_,hp,_,_,_=>by
  refine⟨.b j,[],[],?_,?_,hs,rfl,hp,λa h=>by cases h⟩
  ·rw[dH];simp only[qQ H,aOn,aOW];rfl
  ·rw[cN];simp only[jr,aOw,aOW];rfl
 | 0,.g i,_,_,_,_,_,h,_,_=>by have:=(h i rfl).1;omega
 | N+1,.g i,l,m,hs,_,hp,A,B,hm=>by
  have K:=H.len;obtain⟨A,h0⟩:=A i rfl;have hi:i<=ts.length:=hs;have B:l.length+ts.length<=10000+i:=B;have hm:m.length+ts.length<=10000+i:=hm;cases h1:tw ts i [125]with
  | true=>
   have r:=ca h1;refine⟨.g (i+1),[],[],?_,?_,r,rfl,by show i0<=i+1;omega,λa h=>?_⟩
   ·show _=_;rw[dH];simp only[kq,aOw,jo,aOW];refine dM (cy H h1) ?_;rfl
   ·show _=_;rw[cN];simp only[jt,aOn,dD,aOW];refine dM (bH H h1) ?_;rfl
   ·cases h;exact⟨i,rfl,aOr i,rfl,by rw[gV];omega⟩
  | false=>
   cases h2:tw ts i [59]with
   | true=>
    have r:=ca h2;obtain⟨s',x,y,o,f2,t,u,v,z⟩:=Ad H p N (.g (i+1)) l m r rfl (by show i0<=i+1;omega) (λk hk=>by cases hk;omega) (by show l.length+ts.length<=10000+(i+1);omega) (by show m.length+ts.length<=10000+(i+1);omega);refine⟨s',x,y,?_,?_,t,u,v,λa h=>?_⟩
    ·refine Eq.trans ?_ o;rw[dH];simp only[kq,aOw,jo];refine aI (ay (w:=[125]) H hs h1) ?_;refine dM (cy H h2) ?_;rfl
    ·refine Eq.trans ?_ f2;rw[cN];simp only[jt,aOn,dD];refine aI (au (w:=[125]) H hs h1) ?_;refine dM (bH H h2) ?_;rfl
    ·obtain⟨k,q1,q2,q3,q4⟩:=z a h;cases q1;exact⟨i,rfl,by omega,q3,by omega⟩
   | false=>
    obtain⟨f,n,E,C,g2,c⟩:=(p _ (Lt.g h0 hi)).stmt;have hle:i<=f.pos:=c.le;have D:=Lt.rs (i:=i) c (λk hk=>by cases hk;exact Of i);have L:∀k,f=.g k->i<k:=D.lt;have F:l.length+1+ts.length<=10000+f.pos+1:=by omega
    by_cases hg:∃k,f=.g k
    ·obtain⟨k,rfl⟩:=hg;obtain⟨k1,q1,q2,q3,q4,_⟩:=c.good k rfl;cases q1;subst q3;obtain⟨s',x,y,o,f2,t,u,v,z⟩:=Ad H p N (.g k) (l++[n]) (m++[n]) c.ok rfl (by show i0<=k;omega) (λG hk=>by cases hk;have q:k<=ts.length:=c.ok;omega) (by simp only[aOj,At,No];show _<=10000+k;omega) (by simp only[aOj,At,No];show _<=10000+k;omega);rw[aOQ]at o f2;refine⟨s',[n]++x,[n]++y,?_,?_,t,u,v,λa h=>?_⟩
     ·refine Eq.trans ?_ o;rw[dH];simp only[kq,aOw,jo];refine aI (ay (w:=[125]) H hs h1) ?_;refine aI (ay (w:=[59]) H hs h2) ?_;refine aY C ?_;refine aY (fN _ aRK) ?_;rfl
     ·refine Eq.trans ?_ f2;rw[cN];simp only[jt,aOn,dD];refine aI (au (w:=[125]) H hs h1) ?_;refine aI (au (w:=[59]) H hs h2) ?_;refine aY g2 ?_;refine aY (fN _ aRK) ?_;rfl
     ·obtain⟨G,r1,M,I,O⟩:=z a h;cases r1;subst I;refine⟨i,rfl,by omega,rfl,?_⟩;rw[iD,c6];omega
    ·have J:∃j,f=.b j:=(Bc D.nd).resolve_left hg;obtain⟨j,rfl⟩:=J;refine⟨.b j,[n],[E],?_,?_,c.ok,rfl,by show i0<=j;have hle:i<=j:=hle;omega,λa h=>by cases h⟩
     ·show _=_;rw[dH];simp only[kq,aOw,jo];refine aI (ay (w:=[125]) H hs h1) ?_;refine aI (ay (w:=[59]) H hs h2) ?_;refine aY C ?_;refine aY (fN _ aRK) ?_;rw[dH];simp only[qQ H,aOn]
     ·show _=_;rw[cN];simp only[jt,aOn,dD];refine aI (au (w:=[125]) H hs h1) ?_;refine aI (au (w:=[59]) H hs h2) ?_;refine aY g2 ?_;refine aY (fN _ aRK) ?_;rw[cN];simp only[jr,aOw]
theorem N9 (H:Tk ts e) {i:Nat} (hi:i<=ts.length) (b:∀s,Lt ts i s->PC ts e e' s):C1 ts e e' false 0 (.g i) cb bx:=by
 have n:=H.len;have hs:(JS.g i).Ok ts:=hi;have a:=Lt.w (i:=i) hs (Of i) [123];have hp:=gz (ts:=ts) (.g i) [123];have hp:i<=(wS ts (.g i) [123]).pos:=hp;have o:=okp a.ok;obtain⟨s',x,y,c,f2,d,f,h,j⟩:=Ad H b (ts.length+1) (wS ts (.g i) [123]) [] [] a.ok a.nd hp (λk hk=>⟨by omega,a.lt k hk⟩) aRT aRT;refine⟨s',.mk 48 0 [] ([]++x),.mk 48 0 [] ([]++y),?_,?_,Rs.node aRL d f h (λl h'=>?_)⟩
 ·rw[cb];refine aY (eh H _ hs [123]) ?_;refine aY c ?_;rfl
 ·rw[bx];refine aY (fv H _ hs [123]) ?_;refine aY f2 ?_;rfl
 ·obtain⟨k,q1,q2,q3,q4⟩:=j l h';obtain⟨k1,m,p,_⟩:=fG q1;cases m;subst q3;simp only[aOB,No];exact⟨by omega,trivial,trivial,by omega⟩
end
set_option maxRecDepth 10000
set_option maxHeartbeats 400000
section
variable {ts:List aj}{e e':Int}
theorem N6 (H:Tk ts e) {i0:Nat} (d:∀s,Lt ts i0 s->PC ts e e' s) (s:JS) (hs:s.Ok ts) (hp:i0<=s.pos):∃s' n m,oR (pS ts e s)=some (n,pS ts e s')/\gW (qS ts e' s)=some (m,qS ts e' s')/\s'.Ok ts/\s'.nd=true/\s.pos<=s'.pos/\
  (∀b,s'=.g b->∃i,s=.g i/\i+2<b/\n=m/\(wt n:Int)+8192+16384*(i:Int)+32768<=16384*(b:Int)):=by
 have f:=Lt.w (i:=i0) hs hp [40];have q:=gz (ts:=ts) s [40];obtain⟨c,n,m,j,g2,a⟩:=(d _ f).expr;have r:=a.le;have t:=gz (ts:=ts) c [41];refine⟨wS ts c [41],n,m,?_,?_,kA a.ok _,nB _ _,by omega,λb h=>?_⟩
 ·rw[oR];refine aY (eh H _ hs [40]) ?_;refine aY j ?_;refine aY (eh H _ a.ok [41]) ?_;rfl
 ·rw[gW];refine aY (fv H _ hs [40]) ?_;refine aY g2 ?_;refine aY (fv H _ a.ok [41]) ?_;rfl
 ·obtain⟨k,q1,q2,_⟩:=fG h;obtain⟨k1,q3,q4,l,u,_⟩:=a.good k q1;obtain⟨o,p,v,_⟩:=fG q3;subst l;exact⟨o,p,by omega,rfl,by omega⟩
theorem akE (H:Tk ts e) {i0:Nat} (u:∀s,Lt ts i0 s->PC ts e e' s):∀(N i:Nat),ts.length - i<N->i0<=i->tw ts i [105,102]=true->
  ∃s' n m,pP (pS ts e (.g (i+1)))=some (n,pS ts e s')/\gL (qS ts e' (.g i))=some (m,qS ts e' s')/\Rs ts false 0 (.g i) s' n m
 | 0,i,h,_,_=>by omega
 | N+1,i,hN,h0,h=>by
  have X:=ca h;have Y:(JS.g (i+1)).Ok ts:=X;obtain⟨M,c,p,Z,g2,v,x,O,P⟩:=N6 H u (.g (i+1)) Y (by show i0<=i+1;omega);have O:i+1<=M.pos:=O
  have Q:Lt ts i0 M:=⟨v,x,λk hk=>by
   obtain⟨k1,q1,q2,_⟩:=P k hk;cases q1;omega⟩
  obtain⟨f,b,q,f1,f2,r⟩:=(u _ Q).block;have p2:=r.le;have l2:Lt ts i0 f:=Lt.rs r (λk hk=>aOT (Q.lt k hk))
  have R:∀d,f=.g d->i+3<d/\c=p/\b=q/\(wt c:Int)+(wt b:Int)+16384*(i:Int)+49152<=16384*(d:Int):=λd h2=>by
   obtain⟨k,q1,q2,q3,q4,_⟩:=r.good d h2;obtain⟨k1,q5,q6,q7,q8⟩:=P k q1;cases q5;exact⟨by omega,q7,q3,by omega⟩
  have eS:pP (pS ts e (.g (i+1)))=(aD (pS ts e f) [101,108,115,101]>>=λ(y,S)=>
    (if y=true then
    aD S [105,102]>>=λ(z,T)=>
    (if z=true then
    pP T>>=λ(Wa,A)=>
    cQ 56 [c,b] [(ae.mk 48 0 [] ([Wa]:List ae))]>>=λB=>
    some ((ae.mk 34 0 [] B),A)
    else
    cb T>>=λ(K2,C)=>
    cQ 56 [c,b] [K2]>>=λD=>
    some ((ae.mk 34 0 [] D),C))
    else
    some ((ae.mk 34 0 [] [c,b]),S))):=by
   rw[pP];refine aY Z ?_;refine(eu (a:=((pS ts e f).fT,(pS ts e f).fI,(pS ts e f).ax,(pS ts e f).aw,[c,b])) ?_).trans ?_
   ·refine aY f1 ?_;rfl
   rfl
  have eI:gL (qS ts e' (.g i))=(av (qS ts e' f) [101,108,115,101]>>=λ(zJ,U)=>
    (if zJ=true then
    aX U 0 [105,102]>>=λ(K3,V)=>
    (if K3=true then
    gL V>>=λ(Co,E)=>
    cQ 56 [p,q] [(ae.mk 48 0 [] ([Co]:List ae))]>>=λF=>
    some ((ae.mk 34 0 [] F),E)
    else
    bx V>>=λ(Lj,Rc)=>
    cQ 56 [p,q] [Lj]>>=λG=>
    some ((ae.mk 34 0 [] G),Rc))
    else
    some ((ae.mk 34 0 [] [p,q]),U))):=by
   rw[gL];refine aY (GI H h) ?_;refine aY g2 ?_;refine(eu (a:=((qS ts e' f).ar,(qS ts e' f).bA,(qS ts e' f).ax,(qS ts e' f).aw,[p,q])) ?_).trans ?_
   ·refine aY f2 ?_;rfl
   rfl
  rw[eS,eI];rcases Lb (ts:=ts) f [101,108,115,101]with he | ⟨d,rfl,he⟩
  ·refine⟨f,.mk 34 0 [] [c,b],.mk 34 0 [] [p,q],?_,?_,Rs.node aRL r.ok l2.nd aRK (λt h'=>?_)⟩
   ·refine aI (ay (w:=[101,108,115,101]) H r.ok he) ?_;rfl
   ·refine aI (au (w:=[101,108,115,101]) H r.ok he) ?_;rfl
   ·obtain⟨r1,I,J,r4⟩:=R t h';subst I;subst J;refine⟨by omega,rfl,rfl,?_⟩;rw[jR,c6];simp only[No];omega
  ·obtain⟨r1,I,J,r4⟩:=R d rfl;subst I;subst J;have W:=ca he;have K:(JS.g (d+1)).Ok ts:=W;cases hf:tw ts (d+1) [105,102]with
   | true=>
    obtain⟨o,n,m,h1,h2,j⟩:=akE H u N (d+1) aRK aRK hf;have L:Lt ts i0 o:=Lt.rs j (λk hk=>by cases hk;omega);have p3:d+1<=o.pos:=j.le;refine⟨o,.mk 34 0 [] ([c,b]++[.mk 48 0 [] [n]]),.mk 34 0 [] ([c,b]++[.mk 48 0 [] [m]]),?_,?_,Rs.node aRL j.ok L.nd aRK (λt h'=>?_)⟩
    ·refine dM (cy H he) ?_;refine dM (cy H hf) ?_;refine aY h1 ?_;refine aY (fN (l:=[c,b]) _ aRN) ?_;rfl
    ·refine dM (bH H he) ?_;refine dM ((fM (e':=e') H (.g (d+1)) K [105,102]).trans (by rw[show tw ts (JS.g (d+1)).pos [105,102]=true from hf])) ?_;refine aY h2 ?_;refine aY (fN (l:=[c,b]) _ aRN) ?_;rfl
    ·obtain⟨k,q1,q2,q3,q4,_⟩:=j.good t h';cases q1;subst q3;refine⟨by omega,rfl,rfl,?_⟩;rw[iD,jR,c6,c6,jm,c6];simp only[No];omega
   | false=>
    obtain⟨o,n,m,h1,h2,j⟩:=(u _ (Lt.g (show i0<d+1 by omega) W)).block;have L:Lt ts i0 o:=Lt.rs j (λk hk=>by cases hk;omega);have p3:d+1<=o.pos:=j.le;refine⟨o,.mk 34 0 [] ([c,b]++[n]),.mk 34 0 [] ([c,b]++[m]),?_,?_,Rs.node aRL j.ok L.nd aRK (λt h'=>?_)⟩
    ·refine dM (cy H he) ?_;refine aI (ay (w:=[105,102]) H K hf) ?_;refine aY h1 ?_;refine aY (fN (l:=[c,b]) _ aRN) ?_;rfl
    ·refine dM (bH H he) ?_;refine aI ((fM (e':=e') H (.g (d+1)) K [105,102]).trans (by rw[show tw ts (JS.g (d+1)).pos [105,102]=false from hf])) ?_;refine aY h2 ?_;refine aY (fN (l:=[c,b]) _ aRN) ?_;rfl
    ·obtain⟨k,q1,q2,q3,q4,_⟩:=j.good t h';cases q1;subst q3;refine⟨by omega,rfl,rfl,?_⟩;rw[iD,jR,c6,c6];simp only[No];omega
theorem afJ (n a x:ae):cQ 56 ([n]++[a]) [x]=some ([n]++([a]++[x])):=kK (b:=56) (l:=[n]++[a]) (m:=[x]) (by show(2+1)*56<=140737488355328;omega)
theorem U2 (n x:ae) (l:List ae) (h:l.length<=2):cQ 56 ([n]++l) [x]=some ([n]++l++[x]):=fN _ (by rw[aOj];simp only[At,No];omega)
theorem RV (H:Tk ts e) {i:Nat} (S:i<ts.length) (I:∀s,Lt ts i s->PC ts e e' s):∃s' n m,oS (pS ts e (.g (i+1)))=some (n,pS ts e s')/\lI (qS ts e' (.g (i+1)))=some (m,qS ts e' s')/\Rs ts false 0 (.g i) s' n m:=by
 have hL:=H.len;have x:(JS.g (i+1)).Ok ts:=S;have T:=Lt.w (i:=i) x (aPj i) [40];have J:=gz (ts:=ts) (.g (i+1)) [40];have J:i+1<=(wS ts (.g (i+1)) [40]).pos:=J;obtain⟨a,n,m,U,g2,t⟩:=(I _ T).expr;have p2:=t.le;have y:=kA t.ok [97,115];have p3:=gz (ts:=ts) a [97,115];have V:=nB (ts:=ts) a [97,115];have z:=sd y (k:=2) aRL;have W:=mQ (ts:=ts) (wS ts a [97,115]) 2;have X:=uD (ts:=ts) (wS ts a [97,115]) 2;have t1:=js H (wS ts a [97,115]) 2
 have K:∀c,nS ts (wS ts a [97,115]) 2=.g c->i+4<c/\n=m/\(wt n:Int)+16384*(i:Int)+65536<=16384*(c:Int):=λc q=>by
  obtain⟨k,q1,q2,_⟩:=mi q;obtain⟨k1,q3,q4,_⟩:=fG q1;obtain⟨k2,A,Y,L,M,_⟩:=t.good k1 q3;obtain⟨k3,N,Z,_⟩:=fG A;cases N;exact⟨by omega,L,by omega⟩
 obtain⟨d,o,e1,e2,v,p5,d4,u,B⟩:∃(d:JS) (o:List ae),
   (aD (pS ts e (nS ts (wS ts a [97,115]) 2)) [61,62]>>=λ(C,f)=>(if C=true then ij f>>=λ(D,j)=>cQ 56 ([n]++[.mk 4 0 (nT ts (wS ts a [97,115]) 2) []]) [D]>>=λE=>some (j.fT,j.fI,j.ax,j.aw,E)else some (f.fT,f.fI,f.ax,f.aw,([n]++[.mk 4 0 (nT ts (wS ts a [97,115]) 2) []]))))=some ((pS ts e d).fT,(pS ts e d).fI,(pS ts e d).ax,(pS ts e d).aw,[n]++o)/\
   (av (qS ts e' (nS ts (wS ts a [97,115]) 2)) [61,62]>>=λ(C,f)=>(if C=true then cK f>>=λ(D,j)=>cQ 56 ([m]++[.mk 4 0 (nT ts (wS ts a [97,115]) 2) []]) [D]>>=λE=>some (j.ar,j.bA,j.ax,j.aw,E)else some (f.ar,f.bA,f.ax,f.aw,([m]++[.mk 4 0 (nT ts (wS ts a [97,115]) 2) []]))))=some ((qS ts e' d).ar,(qS ts e' d).bA,(qS ts e' d).ax,(qS ts e' d).aw,[m]++o)/\
   d.Ok ts/\i<=d.pos/\d.nd=true/\o.length<=2/\(∀r,d=.g r->i+4<r/\n=m/\(wt n:Int)+(wl o:Int)+16384*(i:Int)+60000<=16384*(r:Int)):=by
  generalize zL:nS ts (wS ts a [97,115]) 2=O at*;generalize aa:nT ts (wS ts a [97,115]) 2=F at*;have hw:wl [ae.mk 4 0 F []]<=4001:=by rw[c6,jm,gV];omega
  rcases Lb (ts:=ts) O [61,62]with h | ⟨c,rfl,h⟩
  ·refine⟨O,[.mk 4 0 F []],?_,?_,z,by omega,X,by simp,λr h4=>?_⟩
   ·refine aI (ay (w:=[61,62]) H z h) ?_;rfl
   ·refine aI (au (w:=[61,62]) H z h) ?_;rfl
   ·obtain⟨q1,q2,q3⟩:=K r h4;exact⟨q1,q2,by omega⟩
  ·have G:=ca h;have p:(JS.g (c+1)).Ok ts:=G;have t2:=js H (.g (c+1)) 2;have P:=@mQ ts (.g (c+1)) 2;have P:c+1<=(nS ts (.g (c+1)) 2).pos:=P;have ad:(wS ts a [97,115]).pos<=c:=W;have ag:wl [ae.mk 4 0 (nT ts (.g (c+1)) 2) []]<=4001:=by rw[c6,jm,gV];omega
   refine⟨nS ts (.g (c+1)) 2,[.mk 4 0 F []]++[.mk 4 0 (nT ts (.g (c+1)) 2) []],?_,?_,sd p aRL,by omega,uD _ _,by simp,λr h4=>?_⟩
   ·refine dM (cy H h) ?_;refine aY (R6 H _ p) ?_;refine aY (afJ _ _ _) ?_;rfl
   ·refine dM (bH H h) ?_;refine aY (R9 H _ p rfl) ?_;refine aY (afJ _ _ _) ?_;rfl
   ·obtain⟨k,q1,q2,_⟩:=mi h4;cases q1;obtain⟨q1,q2,q3⟩:=K c rfl;refine⟨by omega,q2,?_⟩;rw[iD];omega
 have o5:=kA v [41];have p7:=gz (ts:=ts) d [41];have Q:=Lt.w (i:=i) v p5 [41];obtain⟨R,b,b',h1,h2,q⟩:=(I _ Q).block;have p8:=q.le;have l6:Lt ts i R:=Lt.rs q (λk hk=>aOT (Q.lt k hk));refine⟨R,.mk 36 0 [] ([n]++o++[b]),.mk 36 0 [] ([m]++o++[b']),?_,?_,Rs.node aRL q.ok l6.nd aRK (λi' h'=>?_)⟩
 ·rw[oS];refine aY (eh H _ x [40]) ?_;refine aY U ?_;refine aY (eh H _ t.ok [97,115]) ?_;refine aY (R6 H _ y) ?_;refine aY (fN (l:=[n]) _ aRN) ?_;refine aY e1 ?_;refine aY (eh H _ v [41]) ?_;refine aY h1 ?_;refine aY (U2 _ _ _ u) ?_;rfl
 ·rw[lI];refine aY (fv H _ x [40]) ?_;refine aY g2 ?_;refine aY (fv H _ t.ok [97,115]) ?_;refine aY (R9 H _ y V) ?_;refine aY (fN (l:=[m]) _ aRN) ?_;refine aY e2 ?_;refine aY (fv H _ v [41]) ?_;refine aY h2 ?_;refine aY (U2 _ _ _ u) ?_;rfl
 ·obtain⟨k,q1,q2,q3,q4,_⟩:=q.good i' h';obtain⟨k1,A,Y,_⟩:=fG q1;obtain⟨L,M,N⟩:=B k1 A;subst q3;subst M;refine⟨by omega,rfl,rfl,?_⟩;rw[iD,iD,c6,c6];simp only[No];omega
theorem aoU (H:Tk ts e) {i:Nat} (bg:i<ts.length) (K:∀s,Lt ts i s->PC ts e e' s):∃s' n m,pQ (pS ts e (.g (i+1)))=some (n,pS ts e s')/\ig (qS ts e' (.g (i+1)))=some (m,qS ts e' s')/\Rs ts false 0 (.g i) s' n m:=by
 have hL:=H.len;have eQ:(JS.g (i+1)).Ok ts:=bg;obtain⟨u,b,p,L,g2,y⟩:=(K _ (Lt.g (aOr i) bg)).block;have M:i+1<=u.pos:=y.le;have l1:Lt ts i u:=Lt.rs y (λk hk=>by cases hk;omega)
 have xr:∀f,u=.g f->i+1<f/\b=p/\(wt b:Int)+16384*(i:Int)+24576<=16384*(f:Int):=λf h1=>by
  obtain⟨k,q1,q2,q3,q4,_⟩:=y.good f h1;cases q1;exact⟨by omega,q3,by omega⟩
 obtain⟨d,c,r,N,e2,v,d2,p2,l2,ag,rh⟩:∃(d:JS) (c r:List ae),
   (aD (pS ts e u) [99,97,116,99,104]>>=λ(O,z)=>
    (if O=true then
    aQ z [40]>>=λP=>
    cw P 3>>=λ(Wd,Q)=>
    ij Q>>=λ(We,R)=>
    aQ R [41]>>=λS=>
    cb S>>=λ(Wf,D)=>
    cQ 56 ([b]:List ae) [(ae.mk 44 0 Wd ([We,Wf]:List ae))]>>=λT=>
    some (D.fT,D.fI,D.ax,D.aw,T)
    else
    some (z.fT,z.fI,z.ax,z.aw,([b]:List ae))))=some ((pS ts e d).fT,(pS ts e d).fI,(pS ts e d).ax,(pS ts e d).aw,[b]++c)/\
   (av (qS ts e' u) [99,97,116,99,104]>>=λ(Rj,A)=>
    (if Rj=true then
    aO A [40]>>=λNk=>
    bu Nk 3>>=λ(WS,U)=>
    cK U>>=λ(sq,V)=>
    must (1*56<=140737488355328)>>=λ_=>
    aO V [41]>>=λW=>
    bx W>>=λ(Ll,E)=>
    cQ 56 [sq] [Ll]>>=λSs=>
    cQ 56 ([p]:List ae) [(ae.mk 44 0 WS Ss)]>>=λX=>
    some (E.ar,E.bA,E.ax,E.aw,X)
    else
    some (A.ar,A.bA,A.ax,A.aw,([p]:List ae))))=some ((qS ts e' d).ar,(qS ts e' d).bA,(qS ts e' d).ax,(qS ts e' d).aw,[p]++r)/\
   d.Ok ts/\d.nd=true/\i+1<=d.pos/\c.length=r.length/\c.length<=1/\(∀o,d=.g o->i+1<o/\b=p/\c=r/\(wt b:Int)+(wl c:Int)+16384*(i:Int)+24576<=16384*(o:Int)):=by
  rcases Lb (ts:=ts) u [99,97,116,99,104]with h | ⟨f,rfl,h⟩
  ·refine⟨u,[],[],?_,?_,y.ok,l1.nd,M,rfl,by simp,λo h2=>?_⟩
   ·refine aI (ay (w:=[99,97,116,99,104]) H y.ok h) ?_;rfl
   ·refine aI (au (w:=[99,97,116,99,104]) H y.ok h) ?_;rfl
   ·obtain⟨q1,q2,q3⟩:=xr o h2;exact⟨q1,q2,rfl,by rw[gV];omega⟩
  ·have Cs:=ca h;have Y:(JS.g (f+1)).Ok ts:=Cs;have M:i+1<=f:=M;have a1:=kA Y [40];have F:=@gz ts (.g (f+1)) [40];have F:f+1<=(wS ts (.g (f+1)) [40]).pos:=F;have B:=sd a1 (k:=3) aRL;have a4:=mQ (ts:=ts) (wS ts (.g (f+1)) [40]) 3;have Z:=sd B (k:=2) aRL;have a6:=mQ (ts:=ts) (nS ts (wS ts (.g (f+1)) [40]) 3) 2;have t1:=js H (wS ts (.g (f+1)) [40]) 3;have t2:=js H (nS ts (wS ts (.g (f+1)) [40]) 3) 2;have a8:=gz (ts:=ts) (nS ts (nS ts (wS ts (.g (f+1)) [40]) 3) 2) [41];have G:=Lt.w (i:=i) Z aRK [41];obtain⟨d,x,x',f1,f2,t⟩:=(K _ G).block;have a9:=t.le;have l4:Lt ts i d:=Lt.rs t (λk hk=>aOT (G.lt k hk));refine⟨d,[.mk 44 0 (nT ts (wS ts (.g (f+1)) [40]) 3) [.mk 4 0 (nT ts (nS ts (wS ts (.g (f+1)) [40]) 3) 2) [],x]],[.mk 44 0 (nT ts (wS ts (.g (f+1)) [40]) 3) ([.mk 4 0 (nT ts (nS ts (wS ts (.g (f+1)) [40]) 3) 2) []]++[x'])],?_,?_,t.ok,l4.nd,by omega,rfl,by simp,λo h2=>?_⟩
   ·refine dM (cy H h) ?_;refine aY (eh H _ Y [40]) ?_;refine aY (pE H _ a1 3) ?_;refine aY (R6 H _ B) ?_;refine aY (eh H _ Z [41]) ?_;refine aY f1 ?_;refine aY (fN (l:=[b]) _ aRN) ?_;rfl
   ·refine dM (bH H h) ?_;refine aY (fv H _ Y [40]) ?_;refine aY (oV H _ a1 (nB _ _) 3 (.inr rfl)) ?_;refine aY (R9 H _ B (uD _ _)) ?_;refine(eu (a:=()) (An aRL)).trans ?_;refine aY (fv H _ Z [41]) ?_;refine aY f2 ?_;refine aY (fN (l:=[_]) _ aRN) ?_;refine aY (fN (l:=[p]) _ aRN) ?_;rfl
   ·obtain⟨k,q1,q2,q3,q4,_⟩:=t.good o h2;obtain⟨k1,q5,q6,_⟩:=fG q1;obtain⟨k2,q7,q8,_⟩:=mi q5;obtain⟨k3,q9,bj,_⟩:=mi q7;obtain⟨k4,aa,bo,_⟩:=fG q9;cases aa;obtain⟨r1,C,I⟩:=xr f rfl;subst q3;refine⟨by omega,C,rfl,?_⟩;rw[c6,jm,jR,c6,jm,gV];omega
 have fin:∀(s':JS) (l l':List ae),s'.Ok ts->s'.nd=true->i<=s'.pos->(∀q,s'=.g q->i+1<q/\l=l'/\(wl l:Int)+8192+16384*(i:Int)<=16384*(q:Int))->Rs ts false 0 (.g i) s' (.mk 43 0 [] l) (.mk 43 0 [] l'):=λs' l l' a1 F B a4=>
  Rs.node aRL a1 F B (λq h'=>by
   obtain⟨q1,q2,q3⟩:=a4 q h';exact⟨q1,rfl,q2,by simp only[No];omega⟩)
 rcases Lb (ts:=ts) d [102,105,110,97,108,108,121]with h | ⟨o,rfl,h⟩
 ·by_cases hl:c.length=0
  ·have hc:c=[]:=aPt.1 hl;have ad:r=[]:=aPt.1 aRK;subst hc;subst ad;refine⟨P6 d,.mk 0 0 [] [],.mk 43 0 [] ([p]++[]),?_,?_,⟨Cr v,by rw[tj];show i<=d.pos;omega,λq h'=>(Pn h').elim,λj hj=>by have:=GD d;rw[hj]at this;cases this⟩⟩
   ·rw[pQ];refine aY L ?_;refine aY N ?_;refine aI (ay (w:=[102,105,110,97,108,108,121]) H v h) ?_;refine oC (show(([b]++[]).length:Int)=1 from rfl) ?_;refine aY (tl H _ v) ?_;rfl
   ·rw[ig];refine aY g2 ?_;refine aY e2 ?_;refine aI (au (w:=[102,105,110,97,108,108,121]) H v h) ?_;refine oC (show(([p]++[]).length:Int)=1 from rfl) ?_;rw[Uf]
  ·refine⟨d,.mk 43 0 [] ([b]++c),.mk 43 0 [] ([p]++r),?_,?_,fin d _ _ v d2 aRK (λq h'=>?_)⟩
   ·rw[pQ];refine aY L ?_;refine aY N ?_;refine aI (ay (w:=[102,105,110,97,108,108,121]) H v h) ?_;refine bX (show ¬(([b]++c).length:Int)=1 by simp only[aOj,At,No];omega) ?_;rfl
   ·rw[ig];refine aY g2 ?_;refine aY e2 ?_;refine aI (au (w:=[102,105,110,97,108,108,121]) H v h) ?_;refine bX (show ¬(([p]++r).length:Int)=1 by simp only[aOj,At,No];omega) ?_;rfl
   ·obtain⟨r1,C,I,r4⟩:=rh q h';subst C;subst I;refine⟨by omega,rfl,?_⟩;rw[iD,c6];omega
 ·have wK:=ca h;have zL:(JS.g (o+1)).Ok ts:=wK;have p2:i+1<=o:=p2;obtain⟨J,x,x',f1,f2,t⟩:=(K _ (Lt.g (show i<o+1 by omega) wK)).block;have p3:o+1<=J.pos:=t.le;have G:Lt ts i J:=Lt.rs t (λk hk=>by cases hk;omega);refine⟨J,.mk 43 0 [] ([b]++c++[.mk 45 0 [] [x]]),.mk 43 0 [] ([p]++r++[.mk 45 0 [] [x']]),?_,?_,fin J _ _ t.ok G.nd aRK (λq h'=>?_)⟩
  ·rw[pQ];refine aY L ?_;refine aY N ?_;refine dM (cy H h) ?_;refine aY f1 ?_;refine aY (U2 _ _ _ aRK) ?_;refine bX (show ¬(([b]++c++[ae.mk 45 0 [] [x]]).length:Int)=1 by simp only[aOj,At,No];omega) ?_;rfl
  ·rw[ig];refine aY g2 ?_;refine aY e2 ?_;refine dM (bH H h) ?_;refine aY f2 ?_;refine aY (U2 _ _ _ aRK) ?_;refine bX (show ¬(([p]++r++[ae.mk 45 0 [] [x']]).length:Int)=1 by simp only[aOj,At,No];omega) ?_;rfl
  ·obtain⟨k,q1,q2,q3,q4,_⟩:=t.good q h';cases q1;obtain⟨r1,C,I,r4⟩:=rh o rfl;subst C;subst I;subst q3;refine⟨by omega,rfl,?_⟩;rw[iD,iD,c6,c6,jm,c6];simp only[No];omega
end
end Go.Am
