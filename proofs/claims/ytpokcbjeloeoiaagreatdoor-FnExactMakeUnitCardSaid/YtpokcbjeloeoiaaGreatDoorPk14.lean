/- Texts of the proof, joined and shortened. -/
import Derived.Test.YtpokcbjeloeoiaaGreatDoorPk13
set_option linter.unusedVariables false
set_option linter.unusedSimpArgs false
set_option maxRecDepth 10000
set_option maxHeartbeats 400000
namespace Go.Am
open Go Go.RowKit Go.Proofs
section
variable {ts:List aj}{e e':Int}
theorem st0 {i:Nat} {k:Int} {s:JS} (hk:k≠7) (h:s.Ok ts) (hd:s.nd=true) (hle:i<=s.pos) (hg:∀a,s=.g a->i+1<a):Rs ts false 0 (.g i) s (.mk k 0 [] []) (.mk k 0 [] []):=
 Rs.node hk h hd hle (λa h'=>⟨hg a h',rfl,rfl,by have:=hg a h';rw[gV];simp only[No];omega⟩)
theorem st1 {i a D:Nat} {v:Bool} {k:Int} {s:JS} {n m:ae} (hk:k≠7) (h:Rs ts v D (.g a) s n m) (hi:i<=a) (c:aE):Rs ts false 0 (.g i) (wS ts s c) (.mk k 0 [] [n]) (.mk k 0 [] [m]):=
 Rs.node hk (kA h.ok _) (nB _ _) (by have:=gz (ts:=ts) s c;have q:a<=s.pos:=h.le;omega) (λd h'=>by
  obtain⟨k1,q1,q2,_⟩:=fG h';obtain⟨e,q3,q4,b,f,_⟩:=h.good k1 q1;cases q3;subst b;refine⟨by omega,rfl,rfl,?_⟩;rw[c6];simp only[No];omega)
theorem pR (H:Tk ts e) {s s':JS} {m:ae} (k:Int) (h:bc (qS ts e' s)=some (m,qS ts e' s')) (ok:s'.Ok ts):dV (qS ts e' s) k=some (.mk k 0 [] [m],qS ts e' (wS ts s' [59])):=by
 rw[dV];refine aY h ?_;refine aY (fv H _ ok [59]) ?_;rfl
theorem acQ (H:Tk ts e) {i:Nat} (hi:i<=ts.length):bu (qS ts e' (.g i)) 5=if kd ts i=5 then some (tx ts i,qS ts e' (.g (i+1)))else some ([],qS ts e' (.b i)):=by
 have hs:(JS.g i).Ok ts:=hi;unfold bu;rw[bV H _ hs,sb];dsimp only;rw[mg aSh];show(if kd ts i=5 then _ else _)=_;by_cases h:kd ts i=5
 ·rw[An h,An h,mg aRL,mg aRL,rf H hi];rfl
 ·rw[mg h,mg h];rfl
theorem aBm (H:Tk ts e) {i:Nat} (hi:i<=ts.length) {m:ae} (h1:aL (qS ts e' (.g i))=some (m,qS ts e' (.b i))) (f:tw ts i [33]=false) (h:tw ts i [45]=false):∃m,bc (qS ts e' (.g i))=some (m,qS ts e' (.b i)):=by
 have hs:(JS.g i).Ok ts:=hi;have c:(JS.b i).Ok ts:=hi
 have h2:cc (qS ts e' (.g i)) false=some (m,qS ts e' (.b i)):=by
  rw[cc];refine aY h1 ?_;refine I9.run (x:=_) (.inr ?_);rw[aJ];simp only[jr,aOw]
 have j:cM (qS ts e' (.g i))=some (m,qS ts e' (.b i)):=by
  rw[cM];refine aI (au (w:=[33]) H hs f) ?_;refine aI (au (w:=[45]) H hs h) ?_;refine aY h2 ?_;rfl
 have h4:∀k a:Nat,a+k=11->bs (qS ts e' (.g i)) a=some (m,qS ts e' (.b i)):=by
  intro k;induction k with
  | zero=>
   intro a d;obtain rfl:a=11:=d;rw[bs,An aRL];refine aY j ?_;rfl
  | succ k l=>
   intro a d;rw[bs,mg aRK,bz aRK];refine aY (l (a+1) aRK) ?_;refine I9.run (x:=_) (.inr ?_);rw[bL];simp only[jr,aOw]
 have n:dW (qS ts e' (.g i))=some (m,qS ts e' (.b i)):=by
  rw[dW];refine aY (h4 5 6 rfl) ?_;refine J9.run (x:=_) ?_;rw[bY,dD];refine aI (au (w:=[38,38]) H c rfl) ?_;rfl
 have o:fD (qS ts e' (.g i))=some (m,qS ts e' (.b i)):=by
  rw[fD];refine aY n ?_;refine J9.run (x:=_) ?_;rw[cm,dD];refine aI (au (w:=[124,124]) H c rfl) ?_;rfl
 have p:cg (qS ts e' (.g i))=some (m,qS ts e' (.b i)):=by
  rw[cg];refine aY o ?_;refine aI (au (w:=[63,63]) H c rfl) ?_;rfl
 have q:dL (qS ts e' (.g i))=some (m,qS ts e' (.b i)):=by
  rw[dL];refine aY p ?_;refine aI (au (w:=[63]) H c rfl) ?_;rfl
 refine⟨m,?_⟩;rw[bc];refine aY q ?_;refine oC (show(qS ts e' (.b i)).aw=true from rfl) ?_;rfl
theorem RU (H:Tk ts e) {i:Nat} (hi:i<=ts.length) (h:∀s,Lt ts i s->PC ts e e' s) (hw:tw ts i [119,104,105,108,101]=true):C1 ts e e' false 0 (.g i) bf aV:=by
 have hs:(JS.g i).Ok ts:=hi;have B:=H.len;have p:=ca hw;obtain⟨C,D,E,k1⟩:=mh hw;have q:(JS.g (i+1)).Ok ts:=p;obtain⟨j,c,r,t,g2,d,f,l,m⟩:=N6 H h (.g (i+1)) q (aPj i);have l:i+1<=j.pos:=l
 have n:Lt ts i j:=⟨d,f,λk hk=>by
  obtain⟨k1,q1,q2,_⟩:=m k hk;cases q1;omega⟩
 obtain⟨o,b,u,v,f2,a⟩:=(h _ n).block;have F:=a.le;have x:Lt ts i o:=Lt.rs a (λk hk=>aOT (n.lt k hk));refine⟨o,.mk 35 0 [] [c,b],.mk 35 0 [] [r,u],?_,?_,?_⟩
 ·rw[bf];refine aI ((dX H _ hs 1 [] aRL).trans aRM) ?_;refine aI ((dX H _ hs 6 [123] aRL).trans aRO) ?_;refine aI (ay H hs (w:=[105,102]) (az hw aRL)) ?_;refine dM (cy H hw) ?_;refine aY t ?_;refine aY v ?_;rfl
 ·rw[aV];refine(eu (bV H _ hs)).trans ?_;refine bX qg ?_;refine bX (show ¬(tok ts i).ah=1 from k1) ?_;refine aI ((fM (e':=e') H (.g i) hs [123]).trans aRQ) ?_;refine aI (au H hs (w:=[101,99,104,111]) (az hw aRL)) ?_;refine aI ((fM (e':=e') H (.g i) hs [105,102]).trans aRR) ?_;refine dM (bH H hw) ?_;refine aY g2 ?_;refine aY f2 ?_;rfl
 ·refine Rs.node aRL a.ok x.nd aRK (λy h'=>?_);obtain⟨k,q1,q2,q3,q4,_⟩:=a.good y h';obtain⟨k1,z,G,A,I⟩:=m k q1;cases z;subst q3;subst A;refine⟨by omega,rfl,rfl,?_⟩;rw[jR,c6];simp only[No];omega
theorem ahK (H:Tk ts e) {i:Nat} (hi:i<=ts.length) (a:∀s,Lt ts i s->PC ts e e' s) (hw:tw ts i [105,102]=true):C1 ts e e' false 0 (.g i) bf aV:=by
 have hs:(JS.g i).Ok ts:=hi;have f:=H.len;have b:=ca hw;obtain⟨h,j,k,k1⟩:=mh hw;have l:(JS.g (i+1)).Ok ts:=b;obtain⟨s',n,m,c,g2,d⟩:=akE H a _ i (aOr _) (Of i) hw;refine⟨s',n,m,?_,?_,d⟩
 ·rw[bf];refine aI ((dX H _ hs 1 [] aRL).trans aRM) ?_;refine aI ((dX H _ hs 6 [123] aRL).trans aRO) ?_;refine dM (cy H hw) ?_;refine aY c ?_;rfl
 ·rw[aV];refine(eu (bV H _ hs)).trans ?_;refine bX qg ?_;refine bX (show ¬(tok ts i).ah=1 from k1) ?_;refine aI ((fM (e':=e') H (.g i) hs [123]).trans aRQ) ?_;refine aI (au H hs (w:=[101,99,104,111]) (az hw aRL)) ?_;refine dM ((fM (e':=e') H (.g i) hs [105,102]).trans (by rw[show tw ts (JS.g i).pos [105,102]=true from hw])) ?_;refine aY g2 ?_;rfl
theorem K9 (H:Tk ts e) {i:Nat} (hi:i<=ts.length) (b:∀s,Lt ts i s->PC ts e e' s) (hw:tw ts i [102,111,114,101,97,99,104]=true):C1 ts e e' false 0 (.g i) bf aV:=by
 have hs:(JS.g i).Ok ts:=hi;have f:=H.len;have a:=ca hw;obtain⟨h,j,k,k1⟩:=mh hw;have l:(JS.g (i+1)).Ok ts:=a;obtain⟨s',n,m,c,g2,d⟩:=RV H a b;refine⟨s',n,m,?_,?_,d⟩
 ·rw[bf];refine aI ((dX H _ hs 1 [] aRL).trans aRM) ?_;refine aI ((dX H _ hs 6 [123] aRL).trans aRO) ?_;refine aI (ay H hs (w:=[105,102]) (az hw aRL)) ?_;refine aI (ay H hs (w:=[119,104,105,108,101]) (az hw aRL)) ?_;refine dM (cy H hw) ?_;refine aY c ?_;rfl
 ·rw[aV];refine(eu (bV H _ hs)).trans ?_;refine bX qg ?_;refine bX (show ¬(tok ts i).ah=1 from k1) ?_;refine aI ((fM (e':=e') H (.g i) hs [123]).trans aRQ) ?_;refine aI (au H hs (w:=[101,99,104,111]) (az hw aRL)) ?_;refine aI ((fM (e':=e') H (.g i) hs [105,102]).trans aRR) ?_;refine aI (au H hs (w:=[119,104,105,108,101]) (az hw aRL)) ?_;refine dM (bH H hw) ?_;refine aY g2 ?_;rfl
theorem acR (H:Tk ts e) {i:Nat} (hi:i<=ts.length) (b:∀s,Lt ts i s->PC ts e e' s) (hw:tw ts i [116,114,121]=true):C1 ts e e' false 0 (.g i) bf aV:=by
 have hs:(JS.g i).Ok ts:=hi;have f:=H.len;have a:=ca hw;obtain⟨h,j,k,k1⟩:=mh hw;have l:(JS.g (i+1)).Ok ts:=a;obtain⟨s',n,m,c,g2,d⟩:=aoU H a b;refine⟨s',n,m,?_,?_,d⟩
 ·rw[bf];refine aI ((dX H _ hs 1 [] aRL).trans aRM) ?_;refine aI ((dX H _ hs 6 [123] aRL).trans aRO) ?_;refine aI (ay H hs (w:=[105,102]) (az hw aRL)) ?_;refine aI (ay H hs (w:=[119,104,105,108,101]) (az hw aRL)) ?_;refine aI (ay H hs (w:=[102,111,114,101,97,99,104]) (az hw aRL)) ?_;refine dM (cy H hw) ?_;refine aY c ?_;rfl
 ·rw[aV];refine(eu (bV H _ hs)).trans ?_;refine bX qg ?_;refine bX (show ¬(tok ts i).ah=1 from k1) ?_;refine aI ((fM (e':=e') H (.g i) hs [123]).trans aRQ) ?_;refine aI (au H hs (w:=[101,99,104,111]) (az hw aRL)) ?_;refine aI ((fM (e':=e') H (.g i) hs [105,102]).trans aRR) ?_;refine aI (au H hs (w:=[119,104,105,108,101]) (az hw aRL)) ?_;refine aI (au H hs (w:=[102,111,114,101,97,99,104]) (az hw aRL)) ?_;refine aI (au H hs (w:=[98,114,101,97,107]) (az hw aRL)) ?_;refine aI (au H hs (w:=[99,111,110,116,105,110,117,101]) (az hw aRL)) ?_;refine aI (au H hs (w:=[114,101,116,117,114,110]) (az hw aRL)) ?_;refine aI (au H hs (w:=[103,108,111,98,97,108]) (az hw aRL)) ?_;refine aI (au H hs (w:=[117,110,115,101,116]) (az hw aRL)) ?_;refine aI (au H hs (w:=[116,104,114,111,119]) (az hw aRL)) ?_;refine dM (bH H hw) ?_;refine aY g2 ?_;rfl
theorem Wp (H:Tk ts e) {i:Nat} (hi:i<=ts.length) (c:∀s,Lt ts i s->PC ts e e' s) (hw:tw ts i [101,99,104,111]=true):C1 ts e e' false 0 (.g i) bf aV:=by
 have hs:(JS.g i).Ok ts:=hi;have h:=H.len;have b:=ca hw;obtain⟨j,k,l,k1⟩:=mh hw;have o:(JS.g (i+1)).Ok ts:=b;obtain⟨d,n,m,f,g2,a⟩:=(c _ (Lt.g (aOr i) b)).expr;refine⟨wS ts d [59],.mk 32 0 [] [n],.mk 32 0 [] [m],?_,?_,?_⟩
 ·rw[bf];refine aI ((dX H _ hs 1 [] aRL).trans aRM) ?_;refine aI ((dX H _ hs 6 [123] aRL).trans aRO) ?_;refine aI (ay H hs (w:=[105,102]) (az hw aRL)) ?_;refine aI (ay H hs (w:=[119,104,105,108,101]) (az hw aRL)) ?_;refine aI (ay H hs (w:=[102,111,114,101,97,99,104]) (az hw aRL)) ?_;refine aI (ay H hs (w:=[116,114,121]) (az hw aRL)) ?_;refine dM (cy H hw) ?_;refine aY f ?_;refine aY (eh H _ a.ok [59]) ?_;rfl
 ·rw[aV];refine(eu (bV H _ hs)).trans ?_;refine bX qg ?_;refine bX (show ¬(tok ts i).ah=1 from k1) ?_;refine aI ((fM (e':=e') H (.g i) hs [123]).trans aRQ) ?_;refine dM (bH H hw) ?_;refine aY (pR H 32 g2 a.ok) ?_;rfl
 ·exact st1 aRL a (aPj i) [59]
theorem RW (H:Tk ts e) {i:Nat} (hi:i<=ts.length) (c:∀s,Lt ts i s->PC ts e e' s) (hw:tw ts i [116,104,114,111,119]=true):C1 ts e e' false 0 (.g i) bf aV:=by
 have hs:(JS.g i).Ok ts:=hi;have h:=H.len;have b:=ca hw;obtain⟨j,k,l,k1⟩:=mh hw;have o:(JS.g (i+1)).Ok ts:=b;obtain⟨d,n,m,f,g2,a⟩:=(c _ (Lt.g (aOr i) b)).expr;refine⟨wS ts d [59],.mk 42 0 [] [n],.mk 42 0 [] [m],?_,?_,?_⟩
 ·rw[bf];refine aI ((dX H _ hs 1 [] aRL).trans aRM) ?_;refine aI ((dX H _ hs 6 [123] aRL).trans aRO) ?_;refine aI (ay H hs (w:=[105,102]) (az hw aRL)) ?_;refine aI (ay H hs (w:=[119,104,105,108,101]) (az hw aRL)) ?_;refine aI (ay H hs (w:=[102,111,114,101,97,99,104]) (az hw aRL)) ?_;refine aI (ay H hs (w:=[116,114,121]) (az hw aRL)) ?_;refine aI (ay H hs (w:=[101,99,104,111]) (az hw aRL)) ?_;refine aI (ay H hs (w:=[98,114,101,97,107]) (az hw aRL)) ?_;refine aI (ay H hs (w:=[99,111,110,116,105,110,117,101]) (az hw aRL)) ?_;refine aI (ay H hs (w:=[114,101,116,117,114,110]) (az hw aRL)) ?_;refine aI (ay H hs (w:=[103,108,111,98,97,108]) (az hw aRL)) ?_;refine aI (ay H hs (w:=[117,110,115,101,116]) (az hw aRL)) ?_;refine dM (cy H hw) ?_;refine aY f ?_;refine aY (eh H _ a.ok [59]) ?_;rfl
 ·rw[aV];refine(eu (bV H _ hs)).trans ?_;refine bX qg ?_;refine bX (show ¬(tok ts i).ah=1 from k1) ?_;refine aI ((fM (e':=e') H (.g i) hs [123]).trans aRQ) ?_;refine aI (au H hs (w:=[101,99,104,111]) (az hw aRL)) ?_;refine aI ((fM (e':=e') H (.g i) hs [105,102]).trans aRR) ?_;refine aI (au H hs (w:=[119,104,105,108,101]) (az hw aRL)) ?_;refine aI (au H hs (w:=[102,111,114,101,97,99,104]) (az hw aRL)) ?_;refine aI (au H hs (w:=[98,114,101,97,107]) (az hw aRL)) ?_;refine aI (au H hs (w:=[99,111,110,116,105,110,117,101]) (az hw aRL)) ?_;refine aI (au H hs (w:=[114,101,116,117,114,110]) (az hw aRL)) ?_;refine aI (au H hs (w:=[103,108,111,98,97,108]) (az hw aRL)) ?_;refine aI (au H hs (w:=[117,110,115,101,116]) (az hw aRL)) ?_;refine dM (bH H hw) ?_;refine aY (pR H 42 g2 a.ok) ?_;rfl
 ·exact st1 aRL a (aPj i) [59]
theorem RZ (H:Tk ts e) {i:Nat} (hi:i<=ts.length) (c:∀s,Lt ts i s->PC ts e e' s) (hw:tw ts i [121,105,101,108,100]=true):C1 ts e e' false 0 (.g i) bf aV:=by
 have hs:(JS.g i).Ok ts:=hi;have h:=H.len;have b:=ca hw;obtain⟨j,k,l,k1⟩:=mh hw;have o:(JS.g (i+1)).Ok ts:=b;obtain⟨d,n,m,f,g2,a⟩:=(c _ (Lt.g (aOr i) b)).expr;refine⟨wS ts d [59],.mk 46 0 [] [n],.mk 46 0 [] [m],?_,?_,?_⟩
 ·rw[bf];refine aI ((dX H _ hs 1 [] aRL).trans aRM) ?_;refine aI ((dX H _ hs 6 [123] aRL).trans aRO) ?_;refine aI (ay H hs (w:=[105,102]) (az hw aRL)) ?_;refine aI (ay H hs (w:=[119,104,105,108,101]) (az hw aRL)) ?_;refine aI (ay H hs (w:=[102,111,114,101,97,99,104]) (az hw aRL)) ?_;refine aI (ay H hs (w:=[116,114,121]) (az hw aRL)) ?_;refine aI (ay H hs (w:=[101,99,104,111]) (az hw aRL)) ?_;refine aI (ay H hs (w:=[98,114,101,97,107]) (az hw aRL)) ?_;refine aI (ay H hs (w:=[99,111,110,116,105,110,117,101]) (az hw aRL)) ?_;refine aI (ay H hs (w:=[114,101,116,117,114,110]) (az hw aRL)) ?_;refine aI (ay H hs (w:=[103,108,111,98,97,108]) (az hw aRL)) ?_;refine aI (ay H hs (w:=[117,110,115,101,116]) (az hw aRL)) ?_;refine aI (ay H hs (w:=[116,104,114,111,119]) (az hw aRL)) ?_;refine dM (cy H hw) ?_;refine aY f ?_;refine aY (eh H _ a.ok [59]) ?_;rfl
 ·rw[aV];refine(eu (bV H _ hs)).trans ?_;refine bX qg ?_;refine bX (show ¬(tok ts i).ah=1 from k1) ?_;refine aI ((fM (e':=e') H (.g i) hs [123]).trans aRQ) ?_;refine aI (au H hs (w:=[101,99,104,111]) (az hw aRL)) ?_;refine aI ((fM (e':=e') H (.g i) hs [105,102]).trans aRR) ?_;refine aI (au H hs (w:=[119,104,105,108,101]) (az hw aRL)) ?_;refine aI (au H hs (w:=[102,111,114,101,97,99,104]) (az hw aRL)) ?_;refine aI (au H hs (w:=[98,114,101,97,107]) (az hw aRL)) ?_;refine aI (au H hs (w:=[99,111,110,116,105,110,117,101]) (az hw aRL)) ?_;refine aI (au H hs (w:=[114,101,116,117,114,110]) (az hw aRL)) ?_;refine aI (au H hs (w:=[103,108,111,98,97,108]) (az hw aRL)) ?_;refine aI (au H hs (w:=[117,110,115,101,116]) (az hw aRL)) ?_;refine aI (au H hs (w:=[116,104,114,111,119]) (az hw aRL)) ?_;refine aI (au H hs (w:=[116,114,121]) (az hw aRL)) ?_;refine dM (bH H hw) ?_;refine aY (pR H 46 g2 a.ok) ?_;rfl
 ·exact st1 aRL a (aPj i) [59]
theorem R3 (H:Tk ts e) {i:Nat} (hi:i<=ts.length) (c:∀s,Lt ts i s->PC ts e e' s) (hw:tw ts i [98,114,101,97,107]=true):C1 ts e e' false 0 (.g i) bf aV:=by
 have hs:(JS.g i).Ok ts:=hi;have d:=H.len;have b:=ca hw;obtain⟨f,h,j,k1⟩:=mh hw;have a:(JS.g (i+1)).Ok ts:=b;refine⟨wS ts (.g (i+1)) [59],.mk 37 0 [] [],.mk 37 0 [] [],?_,?_,?_⟩
 ·rw[bf];refine aI ((dX H _ hs 1 [] aRL).trans aRM) ?_;refine aI ((dX H _ hs 6 [123] aRL).trans aRO) ?_;refine aI (ay H hs (w:=[105,102]) (az hw aRL)) ?_;refine aI (ay H hs (w:=[119,104,105,108,101]) (az hw aRL)) ?_;refine aI (ay H hs (w:=[102,111,114,101,97,99,104]) (az hw aRL)) ?_;refine aI (ay H hs (w:=[116,114,121]) (az hw aRL)) ?_;refine aI (ay H hs (w:=[101,99,104,111]) (az hw aRL)) ?_;refine dM (cy H hw) ?_;refine aY (eh H _ a [59]) ?_;rfl
 ·rw[aV];refine(eu (bV H _ hs)).trans ?_;refine bX qg ?_;refine bX (show ¬(tok ts i).ah=1 from k1) ?_;refine aI ((fM (e':=e') H (.g i) hs [123]).trans aRQ) ?_;refine aI (au H hs (w:=[101,99,104,111]) (az hw aRL)) ?_;refine aI ((fM (e':=e') H (.g i) hs [105,102]).trans aRR) ?_;refine aI (au H hs (w:=[119,104,105,108,101]) (az hw aRL)) ?_;refine aI (au H hs (w:=[102,111,114,101,97,99,104]) (az hw aRL)) ?_;refine dM (bH H hw) ?_;refine aY (fv H _ a [59]) ?_;rfl
 ·have p:=@gz ts (.g (i+1)) [59];have p:i+1<=(wS ts (.g (i+1)) [59]).pos:=p;exact st0 aRL (kA a _) (nB _ _) aRK (λl h'=>by obtain⟨k,q1,q2,_⟩:=fG h';cases q1;omega)
theorem Ik (H:Tk ts e) {i:Nat} (hi:i<=ts.length) (c:∀s,Lt ts i s->PC ts e e' s) (hw:tw ts i [99,111,110,116,105,110,117,101]=true):C1 ts e e' false 0 (.g i) bf aV:=by
 have hs:(JS.g i).Ok ts:=hi;have d:=H.len;have b:=ca hw;obtain⟨f,h,j,k1⟩:=mh hw;have a:(JS.g (i+1)).Ok ts:=b;refine⟨wS ts (.g (i+1)) [59],.mk 38 0 [] [],.mk 38 0 [] [],?_,?_,?_⟩
 ·rw[bf];refine aI ((dX H _ hs 1 [] aRL).trans aRM) ?_;refine aI ((dX H _ hs 6 [123] aRL).trans aRO) ?_;refine aI (ay H hs (w:=[105,102]) (az hw aRL)) ?_;refine aI (ay H hs (w:=[119,104,105,108,101]) (az hw aRL)) ?_;refine aI (ay H hs (w:=[102,111,114,101,97,99,104]) (az hw aRL)) ?_;refine aI (ay H hs (w:=[116,114,121]) (az hw aRL)) ?_;refine aI (ay H hs (w:=[101,99,104,111]) (az hw aRL)) ?_;refine aI (ay H hs (w:=[98,114,101,97,107]) (az hw aRL)) ?_;refine dM (cy H hw) ?_;refine aY (eh H _ a [59]) ?_;rfl
 ·rw[aV];refine(eu (bV H _ hs)).trans ?_;refine bX qg ?_;refine bX (show ¬(tok ts i).ah=1 from k1) ?_;refine aI ((fM (e':=e') H (.g i) hs [123]).trans aRQ) ?_;refine aI (au H hs (w:=[101,99,104,111]) (az hw aRL)) ?_;refine aI ((fM (e':=e') H (.g i) hs [105,102]).trans aRR) ?_;refine aI (au H hs (w:=[119,104,105,108,101]) (az hw aRL)) ?_;refine aI (au H hs (w:=[102,111,114,101,97,99,104]) (az hw aRL)) ?_;refine aI (au H hs (w:=[98,114,101,97,107]) (az hw aRL)) ?_;refine dM (bH H hw) ?_;refine aY (fv H _ a [59]) ?_;rfl
 ·have p:=@gz ts (.g (i+1)) [59];have p:i+1<=(wS ts (.g (i+1)) [59]).pos:=p;exact st0 aRL (kA a _) (nB _ _) aRK (λl h'=>by obtain⟨k,q1,q2,_⟩:=fG h';cases q1;omega)
theorem N7 (H:Tk ts e) {i:Nat} (hi:i<=ts.length) (f:∀s,Lt ts i s->PC ts e e' s) (hw:tw ts i [103,108,111,98,97,108]=true):C1 ts e e' false 0 (.g i) bf aV:=by
 have hs:(JS.g i).Ok ts:=hi;have h:=H.len;have d:=ca hw;obtain⟨j,l,m,k1⟩:=mh hw;have a:(JS.g (i+1)).Ok ts:=d;have b:=sd a (k:=2) aRL;have c:=@mQ ts (.g (i+1)) 2;have c:i+1<=(nS ts (.g (i+1)) 2).pos:=c;have n:=gz (ts:=ts) (nS ts (.g (i+1)) 2) [59];have hx:=js H (.g (i+1)) 2;refine⟨wS ts (nS ts (.g (i+1)) 2) [59],.mk 40 0 (nT ts (.g (i+1)) 2) [],.mk 40 0 (nT ts (.g (i+1)) 2) [],?_,?_,?_⟩
 ·rw[bf];refine aI ((dX H _ hs 1 [] aRL).trans aRM) ?_;refine aI ((dX H _ hs 6 [123] aRL).trans aRO) ?_;refine aI (ay H hs (w:=[105,102]) (az hw aRL)) ?_;refine aI (ay H hs (w:=[119,104,105,108,101]) (az hw aRL)) ?_;refine aI (ay H hs (w:=[102,111,114,101,97,99,104]) (az hw aRL)) ?_;refine aI (ay H hs (w:=[116,114,121]) (az hw aRL)) ?_;refine aI (ay H hs (w:=[101,99,104,111]) (az hw aRL)) ?_;refine aI (ay H hs (w:=[98,114,101,97,107]) (az hw aRL)) ?_;refine aI (ay H hs (w:=[99,111,110,116,105,110,117,101]) (az hw aRL)) ?_;refine aI (ay H hs (w:=[114,101,116,117,114,110]) (az hw aRL)) ?_;refine dM (cy H hw) ?_;refine aY (pE H _ a 2) ?_;refine aY (eh H _ b [59]) ?_;rfl
 ·rw[aV];refine(eu (bV H _ hs)).trans ?_;refine bX qg ?_;refine bX (show ¬(tok ts i).ah=1 from k1) ?_;refine aI ((fM (e':=e') H (.g i) hs [123]).trans aRQ) ?_;refine aI (au H hs (w:=[101,99,104,111]) (az hw aRL)) ?_;refine aI ((fM (e':=e') H (.g i) hs [105,102]).trans aRR) ?_;refine aI (au H hs (w:=[119,104,105,108,101]) (az hw aRL)) ?_;refine aI (au H hs (w:=[102,111,114,101,97,99,104]) (az hw aRL)) ?_;refine aI (au H hs (w:=[98,114,101,97,107]) (az hw aRL)) ?_;refine aI (au H hs (w:=[99,111,110,116,105,110,117,101]) (az hw aRL)) ?_;refine aI (au H hs (w:=[114,101,116,117,114,110]) (az hw aRL)) ?_;refine dM (bH H hw) ?_;refine aY (oV H _ a rfl 2 (.inl rfl)) ?_;refine aY (fv H _ b [59]) ?_;rfl
 ·refine Rs.node aRL (kA b _) (nB _ _) aRK (λo h'=>?_);obtain⟨k,q1,q2,_⟩:=fG h';obtain⟨k1,q3,q4,_⟩:=mi q1;cases q3;exact⟨by omega,rfl,rfl,by rw[gV];omega⟩
theorem N8 (H:Tk ts e) {i:Nat} (hi:i<=ts.length) (f:∀s,Lt ts i s->PC ts e e' s) (hw:tw ts i [114,101,116,117,114,110]=true):C1 ts e e' false 0 (.g i) bf aV:=by
 have hs:(JS.g i).Ok ts:=hi;have l:=H.len;have c:=ca hw;obtain⟨o,p,q,k1⟩:=mh hw;have d:(JS.g (i+1)).Ok ts:=c;have a:bq (pS ts e (.g (i+1))) 0 6 [59]=some (tw ts (i+1) [59],pS ts e (.g (i+1))):=(dX H _ d 6 [59] aRL).trans (by rw[show aS ts (.g (i+1)) 0 6 [59]=tw ts (i+1) [59]from aM H aRL aRL]);cases h2:tw ts (i+1) [59]with
 | true=>
  have h:=ca h2;refine⟨.g (i+1+1),.mk 39 0 [] [],.mk 39 0 [] [],?_,?_,st0 aRL h rfl (by show i<=i+1+1;omega) (λr h'=>by cases h';omega)⟩
  ·rw[bf];refine aI ((dX H _ hs 1 [] aRL).trans aRM) ?_;refine aI ((dX H _ hs 6 [123] aRL).trans aRO) ?_;refine aI (ay H hs (w:=[105,102]) (az hw aRL)) ?_;refine aI (ay H hs (w:=[119,104,105,108,101]) (az hw aRL)) ?_;refine aI (ay H hs (w:=[102,111,114,101,97,99,104]) (az hw aRL)) ?_;refine aI (ay H hs (w:=[116,114,121]) (az hw aRL)) ?_;refine aI (ay H hs (w:=[101,99,104,111]) (az hw aRL)) ?_;refine aI (ay H hs (w:=[98,114,101,97,107]) (az hw aRL)) ?_;refine aI (ay H hs (w:=[99,111,110,116,105,110,117,101]) (az hw aRL)) ?_;refine dM (cy H hw) ?_;refine dM (a.trans (by rw[h2])) ?_;refine aY (Cq H h2) ?_;rfl
  ·rw[aV];refine(eu (bV H _ hs)).trans ?_;refine bX qg ?_;refine bX (show ¬(tok ts i).ah=1 from k1) ?_;refine aI ((fM (e':=e') H (.g i) hs [123]).trans aRQ) ?_;refine aI (au H hs (w:=[101,99,104,111]) (az hw aRL)) ?_;refine aI ((fM (e':=e') H (.g i) hs [105,102]).trans aRR) ?_;refine aI (au H hs (w:=[119,104,105,108,101]) (az hw aRL)) ?_;refine aI (au H hs (w:=[102,111,114,101,97,99,104]) (az hw aRL)) ?_;refine aI (au H hs (w:=[98,114,101,97,107]) (az hw aRL)) ?_;refine aI (au H hs (w:=[99,111,110,116,105,110,117,101]) (az hw aRL)) ?_;refine dM (bH H hw) ?_;refine dM (bH H h2) ?_;rfl
 | false=>
  obtain⟨j,n,m,k,g2,b⟩:=(f _ (Lt.g (aOr i) c)).expr;refine⟨wS ts j [59],.mk 39 0 [] [n],.mk 39 0 [] [m],?_,?_,st1 aRL b (aPj i) [59]⟩
  ·rw[bf];refine aI ((dX H _ hs 1 [] aRL).trans aRM) ?_;refine aI ((dX H _ hs 6 [123] aRL).trans aRO) ?_;refine aI (ay H hs (w:=[105,102]) (az hw aRL)) ?_;refine aI (ay H hs (w:=[119,104,105,108,101]) (az hw aRL)) ?_;refine aI (ay H hs (w:=[102,111,114,101,97,99,104]) (az hw aRL)) ?_;refine aI (ay H hs (w:=[116,114,121]) (az hw aRL)) ?_;refine aI (ay H hs (w:=[101,99,104,111]) (az hw aRL)) ?_;refine aI (ay H hs (w:=[98,114,101,97,107]) (az hw aRL)) ?_;refine aI (ay H hs (w:=[99,111,110,116,105,110,117,101]) (az hw aRL)) ?_;refine dM (cy H hw) ?_;refine aI (a.trans (by rw[h2])) ?_;refine aY k ?_;refine aY (eh H _ b.ok [59]) ?_;rfl
  ·rw[aV];refine(eu (bV H _ hs)).trans ?_;refine bX qg ?_;refine bX (show ¬(tok ts i).ah=1 from k1) ?_;refine aI ((fM (e':=e') H (.g i) hs [123]).trans aRQ) ?_;refine aI (au H hs (w:=[101,99,104,111]) (az hw aRL)) ?_;refine aI ((fM (e':=e') H (.g i) hs [105,102]).trans aRR) ?_;refine aI (au H hs (w:=[119,104,105,108,101]) (az hw aRL)) ?_;refine aI (au H hs (w:=[102,111,114,101,97,99,104]) (az hw aRL)) ?_;refine aI (au H hs (w:=[98,114,101,97,107]) (az hw aRL)) ?_;refine aI (au H hs (w:=[99,111,110,116,105,110,117,101]) (az hw aRL)) ?_;refine dM (bH H hw) ?_;refine aI (au (w:=[59]) H d h2) ?_;refine aY (pR H 39 g2 b.ok) ?_;rfl
theorem R4 (H:Tk ts e) {i:Nat} (hi:i<=ts.length) (z:∀s,Lt ts i s->PC ts e e' s) (hw:tw ts i [117,110,115,101,116]=true):C1 ts e e' false 0 (.g i) bf aV:=by
 have hs:(JS.g i).Ok ts:=hi;have L:=H.len;have A:=ca hw;obtain⟨B,M,C,k1⟩:=mh hw;have h:(JS.g (i+1)).Ok ts:=A;have D:=Lt.w (i:=i) h (aPj i) [40];have v:=@gz ts (.g (i+1)) [40];have v:i+1<=(wS ts (.g (i+1)) [40]).pos:=v;obtain⟨f,n,m,q,g2,a⟩:=(z _ D).chain false;have q:gP (pS ts e (wS ts (.g (i+1)) [40])) false=some (n,pS ts e f):=q;have g2:cc (qS ts e' (wS ts (.g (i+1)) [40])) true=some (m,qS ts e' f):=g2;have N:=a.le;by_cases hg:∃k,f=.g k/\uc n=true
 ·obtain⟨k,rfl,l⟩:=hg;obtain⟨E,q1,q2,q3,q4,r,_⟩:=a.good k rfl;obtain⟨C,F,O,_⟩:=fG q1;cases F;subst q3;have x:=@gz ts (.g k) [41];have x:k<=(wS ts (.g k) [41]).pos:=x;have t:=kA a.ok [41];have P:=gz (ts:=ts) (wS ts (.g k) [41]) [59]
  have tg:iQ (qS ts e' (wS ts (.g (i+1)) [40]))=some (n,qS ts e' (.g k)):=by
   rw[iQ];refine aY g2 ?_;refine bX qg ?_;refine dM ((qO n).trans (by rw[r,l])) ?_;rfl
  refine⟨wS ts (wS ts (.g k) [41]) [59],.mk 41 0 [] [n],.mk 41 0 [] [n],?_,?_,Rs.node aRL (kA t _) (nB _ _) aRK (λQ h'=>?_)⟩
  ·rw[bf];refine aI ((dX H _ hs 1 [] aRL).trans aRM) ?_;refine aI ((dX H _ hs 6 [123] aRL).trans aRO) ?_;refine aI (ay H hs (w:=[105,102]) (az hw aRL)) ?_;refine aI (ay H hs (w:=[119,104,105,108,101]) (az hw aRL)) ?_;refine aI (ay H hs (w:=[102,111,114,101,97,99,104]) (az hw aRL)) ?_;refine aI (ay H hs (w:=[116,114,121]) (az hw aRL)) ?_;refine aI (ay H hs (w:=[101,99,104,111]) (az hw aRL)) ?_;refine aI (ay H hs (w:=[98,114,101,97,107]) (az hw aRL)) ?_;refine aI (ay H hs (w:=[99,111,110,116,105,110,117,101]) (az hw aRL)) ?_;refine aI (ay H hs (w:=[114,101,116,117,114,110]) (az hw aRL)) ?_;refine aI (ay H hs (w:=[103,108,111,98,97,108]) (az hw aRL)) ?_;refine dM (cy H hw) ?_;refine aY (eh H _ h [40]) ?_;refine aY q ?_;refine dM ((qP n).trans (by rw[l])) ?_;refine aY (eh H _ a.ok [41]) ?_;refine aY (eh H _ t [59]) ?_;rfl
  ·rw[aV];refine(eu (bV H _ hs)).trans ?_;refine bX qg ?_;refine bX (show ¬(tok ts i).ah=1 from k1) ?_;refine aI ((fM (e':=e') H (.g i) hs [123]).trans aRQ) ?_;refine aI (au H hs (w:=[101,99,104,111]) (az hw aRL)) ?_;refine aI ((fM (e':=e') H (.g i) hs [105,102]).trans aRR) ?_;refine aI (au H hs (w:=[119,104,105,108,101]) (az hw aRL)) ?_;refine aI (au H hs (w:=[102,111,114,101,97,99,104]) (az hw aRL)) ?_;refine aI (au H hs (w:=[98,114,101,97,107]) (az hw aRL)) ?_;refine aI (au H hs (w:=[99,111,110,116,105,110,117,101]) (az hw aRL)) ?_;refine aI (au H hs (w:=[114,101,116,117,114,110]) (az hw aRL)) ?_;refine aI (au H hs (w:=[103,108,111,98,97,108]) (az hw aRL)) ?_;refine dM (bH H hw) ?_;refine aY (fv H _ h [40]) ?_;refine aY tg ?_;refine aY (fv H _ a.ok [41]) ?_;refine aY (fv H _ t [59]) ?_;rfl
  ·obtain⟨R,r1,S,_⟩:=fG h';obtain⟨B,G,T,_⟩:=fG r1;cases G;refine⟨by omega,rfl,rfl,?_⟩;rw[c6];simp only[No];omega
 ·-- nothing y can be u
  have I:∃j,P6 f=.b j:=@akF f;obtain⟨j,hj⟩:=I;have o:(JS.b j).Ok ts:=by rw[<-hj];exact Cr a.ok
  have J:i<=j:=by
   have:=tj f;rw[hj]at this;have this:j=f.pos:=this;omega
  have tg:iQ (qS ts e' (wS ts (.g (i+1)) [40]))=some (m,qS ts e' (P6 f)):=by
   rw[iQ];refine aY g2 ?_
   match f,a,hg with
   | .b j,a,hg=>refine oC (show(qS ts e' (.b j)).aw=true from rfl) ?_;rfl
   | .d j,a,hg=>
    refine bX (show ¬(qS ts e' (.d j)).aw=true by rw[R5];exact id) ?_;refine aI ((qO m).trans (by rw[(a.dm j rfl).2.2.2 rfl])) ?_;rw[Uf]
   | .g k,a,hg=>
    obtain⟨E,q1,q2,q3,q4,r,_⟩:=a.good k rfl;subst q3
    have:uc n=false:=by
     cases p:uc n with
     | false=>rfl
     | true=>exact(hg ⟨k,rfl,p⟩).elim
    refine bX qg ?_;refine aI ((qO n).trans (by rw[r,this])) ?_;rw[Uf]
  have U:∀c,wS ts (.b j) c=.b j:=λc=>rfl;refine⟨.b j,if uc n=true then .mk 41 0 [] [n]else .mk 0 0 [] [],.mk 41 0 [] [m],?_,?_,Rs.b o J⟩
  ·rw[bf];refine aI ((dX H _ hs 1 [] aRL).trans aRM) ?_;refine aI ((dX H _ hs 6 [123] aRL).trans aRO) ?_;refine aI (ay H hs (w:=[105,102]) (az hw aRL)) ?_;refine aI (ay H hs (w:=[119,104,105,108,101]) (az hw aRL)) ?_;refine aI (ay H hs (w:=[102,111,114,101,97,99,104]) (az hw aRL)) ?_;refine aI (ay H hs (w:=[116,114,121]) (az hw aRL)) ?_;refine aI (ay H hs (w:=[101,99,104,111]) (az hw aRL)) ?_;refine aI (ay H hs (w:=[98,114,101,97,107]) (az hw aRL)) ?_;refine aI (ay H hs (w:=[99,111,110,116,105,110,117,101]) (az hw aRL)) ?_;refine aI (ay H hs (w:=[114,101,116,117,114,110]) (az hw aRL)) ?_;refine aI (ay H hs (w:=[103,108,111,98,97,108]) (az hw aRL)) ?_;refine dM (cy H hw) ?_;refine aY (eh H _ h [40]) ?_;refine aY q ?_;cases p:uc n with
   | false=>
    refine aI ((qP n).trans (by rw[p])) ?_;refine aY (tl H _ a.ok) ?_;rw[hj];rfl
   | true=>
    refine dM ((qP n).trans (by rw[p])) ?_
    have e2:pS ts e f=pS ts e (.b j):=by
     match f,a,hg,hj with
     | .b K,_,_,hj=>rw[<-hj];rfl
     | .d K,_,_,hj=>rw[<-hj];rfl
     | .g k,_,hg,_=>exact(hg ⟨k,rfl,p⟩).elim
    rw[e2];refine aY (eh H _ o [41]) ?_;refine aY (eh H _ o [59]) ?_;rfl
  ·rw[aV];refine(eu (bV H _ hs)).trans ?_;refine bX qg ?_;refine bX (show ¬(tok ts i).ah=1 from k1) ?_;refine aI ((fM (e':=e') H (.g i) hs [123]).trans aRQ) ?_;refine aI (au H hs (w:=[101,99,104,111]) (az hw aRL)) ?_;refine aI ((fM (e':=e') H (.g i) hs [105,102]).trans aRR) ?_;refine aI (au H hs (w:=[119,104,105,108,101]) (az hw aRL)) ?_;refine aI (au H hs (w:=[102,111,114,101,97,99,104]) (az hw aRL)) ?_;refine aI (au H hs (w:=[98,114,101,97,107]) (az hw aRL)) ?_;refine aI (au H hs (w:=[99,111,110,116,105,110,117,101]) (az hw aRL)) ?_;refine aI (au H hs (w:=[114,101,116,117,114,110]) (az hw aRL)) ?_;refine aI (au H hs (w:=[103,108,111,98,97,108]) (az hw aRL)) ?_;refine dM (bH H hw) ?_;refine aY (fv H _ h [40]) ?_;refine aY tg ?_;rw[hj];refine aY (fv H _ o [41]) ?_;refine aY (fv H _ o [59]) ?_;rfl
def yA (ts:List aj) (i:Nat):Bool:=kd ts i==2&&(tw ts (i+1) [61]&&tw ts (i+2) [121,105,101,108,100])
theorem yS (H:Tk ts e) {i:Nat} (hi:i<=ts.length):((
 bq (pS ts e (.g i)) 0 2 []>>=λ(d,a)=>
 (if d=true then
 bq a 1 6 [61]>>=λ(f,b)=>
 (if f=true then
 bq b 2 3 [121,105,101,108,100]>>=λ(h,c)=>
 some (c.fT,c.fI,c.ax,c.aw,h)
 else
 some (b.fT,b.fI,b.ax,b.aw,false))
 else
 some (a.fT,a.fI,a.ax,a.aw,false))
 :Option ((List aj)×Int×Int×Int×Bool)))=some ((pS ts e (.g i)).fT,(pS ts e (.g i)).fI,(pS ts e (.g i)).ax,(pS ts e (.g i)).aw,yA ts i):=by
 have hs:(JS.g i).Ok ts:=hi;have a0:bq (pS ts e (.g i)) 0 2 []=some (kd ts i==2,pS ts e (.g i)):=(dX H _ hs 2 [] aRL).trans (by rw[show aS ts (.g i) 0 2 []=(kd ts i==2)from by show(kd ts i==2&&true)=_;rw[aOK]]);have a1:bq (pS ts e (.g i)) 1 6 [61]=some (tw ts (i+1) [61],pS ts e (.g i)):=(aBn H _ hs 6 [61] aRL).trans (by rw[show aS ts (.g i) 1 6 [61]=tw ts (i+1) [61]from aM H aRL aRL]);have j:bq (pS ts e (.g i)) 2 3 [121,105,101,108,100]=some (tw ts (i+2) [121,105,101,108,100],pS ts e (.g i)):=(aKy H _ hs 3 _ aRL).trans (by rw[show aS ts (.g i) 2 3 [121,105,101,108,100]=tw ts (i+2) [121,105,101,108,100]from aN H aRL aRL]);unfold yA;cases h0:kd ts i==2 with
 | false=>refine aI (a0.trans (by rw[h0])) ?_;rfl
 | true=>
  refine dM (a0.trans (by rw[h0])) ?_;cases h1:tw ts (i+1) [61]with
  | false=>refine aI (a1.trans aSv) ?_;rfl
  | true=>
   refine dM (a1.trans aSv) ?_;refine aY j ?_;rfl
theorem yI (H:Tk ts e) {i:Nat} (hi:i<=ts.length):((
 (if(tok ts i).ah=2 then
 bE (tok ts i).ak>>=λb=>
 (if b=true then
 aX (qS ts e' (.g i)) 1 [61]>>=λ(d,a)=>
 (if d=true then
 aX a 2 [121,105,101,108,100]>>=λ(f,c)=>
 some (c.ar,c.bA,c.ax,c.aw,f)
 else
 some (a.ar,a.bA,a.ax,a.aw,false))
 else
 some ((qS ts e' (.g i)).ar,(qS ts e' (.g i)).bA,(qS ts e' (.g i)).ax,(qS ts e' (.g i)).aw,false))
 else
 some ((qS ts e' (.g i)).ar,(qS ts e' (.g i)).bA,(qS ts e' (.g i)).ax,(qS ts e' (.g i)).aw,false))
 :Option ((List aj)×Int×Int×Bool×Bool)))=some ((qS ts e' (.g i)).ar,(qS ts e' (.g i)).bA,(qS ts e' (.g i)).ax,(qS ts e' (.g i)).aw,yA ts i&&good (tx ts i)):=by
 have hs:(JS.g i).Ok ts:=hi;have a1:aX (qS ts e' (.g i)) 1 [61]=some (tw ts (i+1) [61],qS ts e' (.g i)):=ahN (e':=e') H _ hs _;have h:aX (qS ts e' (.g i)) 2 [121,105,101,108,100]=some (tw ts (i+2) [121,105,101,108,100],qS ts e' (.g i)):=aKz (e':=e') H _ hs _;unfold yA;by_cases h0:kd ts i=2
 ·refine oC (show(tok ts i).ah=2 from h0) ?_;have j:(kd ts i==2)=true:=by rw[h0];rfl
  cases hg:good (tok ts i).ak with
  | false=>
   refine aI ((ux _).trans (by rw[hg])) ?_;rw[show good (tx ts i)=false from hg,aOP]
  | true=>
   refine dM ((ux _).trans (by rw[hg])) ?_;rw[show good (tx ts i)=true from hg,aOK,j,aPw];cases h1:tw ts (i+1) [61]with
   | false=>refine aI (a1.trans aSv) ?_;rfl
   | true=>
    refine dM (a1.trans aSv) ?_;refine aY h ?_;rfl
 ·refine bX (show ¬(tok ts i).ah=2 from h0) ?_;rw[an.2 h0];rfl
theorem Wq (H:Tk ts e) {i:Nat} (hi:i<=ts.length) (O:∀s,Lt ts i s->PC ts e e' s) (k1:¬kd ts i=1) (L9:tw ts i [123]=false) (f0:tw ts i [105,102]=false) (h:tw ts i [119,104,105,108,101]=false) (f2:tw ts i [102,111,114,101,97,99,104]=false) (j:tw ts i [116,114,121]=false) (o:tw ts i [101,99,104,111]=false) (p:tw ts i [98,114,101,97,107]=false) (q:tw ts i [99,111,110,116,105,110,117,101]=false) (r:tw ts i [114,101,116,117,114,110]=false) (t:tw ts i [103,108,111,98,97,108]=false) (u:tw ts i [117,110,115,101,116]=false) (d:tw ts i [116,104,114,111,119]=false) (f:tw ts i [121,105,101,108,100]=false):C1 ts e e' false 0 (.g i) bf aV:=by
 have hs:(JS.g i).Ok ts:=hi;have X:=H.len;cases hy:yA ts i with
 | true=>
  have y:=hy;unfold yA at y;simp only[As,aOm]at y;obtain⟨A,R,J⟩:=y;have Y:=ca J;have D:∀c,tw ts i c=false:=xt aRK aRK;cases hg:good (tx ts i)with
  | true=>
   have v:yK ts 2 i=true:=by unfold yK;rw[A,hg];rfl
   obtain⟨B,n,m,E,g2,x⟩:=(O (.g (i+3)) (Lt.g aRK aRK)).expr;have K:i+3<=B.pos:=x.le;have Z:=gz (ts:=ts) B [59];have S:=vw H i;refine⟨wS ts B [59],.mk 46 0 [] [.mk 4 0 (tx ts i) [],n],.mk 46 0 [] ([.mk 4 0 (tx ts i) []]++[m]),?_,?_,Rs.node aRL (kA x.ok _) (nB _ _) aRK (λT h'=>?_)⟩
   ·rw[bf];refine aI ((dX H _ hs 1 [] aRL).trans aRM) ?_;refine aI ((dX H _ hs 6 [123] aRL).trans aRW) ?_;refine aI (ay H hs (w:=[105,102]) f0) ?_;refine aI (ay H hs (w:=[119,104,105,108,101]) h) ?_;refine aI (ay H hs (w:=[102,111,114,101,97,99,104]) f2) ?_;refine aI (ay H hs (w:=[116,114,121]) j) ?_;refine aI (ay H hs (w:=[101,99,104,111]) o) ?_;refine aI (ay H hs (w:=[98,114,101,97,107]) p) ?_;refine aI (ay H hs (w:=[99,111,110,116,105,110,117,101]) q) ?_;refine aI (ay H hs (w:=[114,101,116,117,114,110]) r) ?_;refine aI (ay H hs (w:=[103,108,111,98,97,108]) t) ?_;refine aI (ay H hs (w:=[117,110,115,101,116]) u) ?_;refine aI (ay H hs (w:=[116,104,114,111,119]) d) ?_;refine aI (ay H hs (w:=[121,105,101,108,100]) f) ?_;refine aY (yS H hi) ?_;refine oC hy ?_;refine aY ((R6 H _ hs).trans (by rw[R7 v,R8 v])) ?_;refine(eu (a:=((i+3:Nat):Int)) ?_).trans ?_
    ·show u9 (ts.length:Int) (bm (((i+1:Nat):Int)+2))=_;rw[wW aRK aRK];unfold u9;by_cases P:((i+1:Nat):Int)+2<(ts.length:Int)
     ·rw[An P];rfl
     ·rw[mg P];congr 1;omega
    refine(eu (a:=(n,pS ts e B)) E).trans ?_;refine aY (eh H _ x.ok [59]) ?_;rfl
   ·rw[aV];refine(eu (bV H _ hs)).trans ?_;refine bX qg ?_;refine bX (show ¬(tok ts i).ah=1 from k1) ?_;refine aI ((fM (e':=e') H (.g i) hs [123]).trans aSd) ?_;refine aI (au H hs (w:=[101,99,104,111]) o) ?_;refine aI ((fM (e':=e') H (.g i) hs [105,102]).trans aSc) ?_;refine aI (au H hs (w:=[119,104,105,108,101]) h) ?_;refine aI (au H hs (w:=[102,111,114,101,97,99,104]) f2) ?_;refine aI (au H hs (w:=[98,114,101,97,107]) p) ?_;refine aI (au H hs (w:=[99,111,110,116,105,110,117,101]) q) ?_;refine aI (au H hs (w:=[114,101,116,117,114,110]) r) ?_;refine aI (au H hs (w:=[103,108,111,98,97,108]) t) ?_;refine aI (au H hs (w:=[117,110,115,101,116]) u) ?_;refine aI (au H hs (w:=[116,104,114,111,119]) d) ?_;refine aI (au H hs (w:=[116,114,121]) j) ?_;refine aI (au H hs (w:=[121,105,101,108,100]) f) ?_;refine aY (yI H hi) ?_;refine oC (show(yA ts i&&good (tx ts i))=true by rw[hy,hg];rfl) ?_;refine aY ((R9 H _ hs rfl).trans (by rw[R7 v,R8 v])) ?_;refine(eu (a:=(ae.mk 46 0 [] [m],qS ts e' (wS ts B [59]))) ?_).trans ?_
    ·have:ao.mk (qS ts e' (.g (i+1))).ar (bm ((qS ts e' (.g (i+1))).bA+2)) (qS ts e' (.g (i+1))).ax (qS ts e' (.g (i+1))).aw=qS ts e' (.g (i+3)):=acS H aRK;exact(congrArg (λz=>dV z 46) this).trans (pR H 46 g2 x.ok)
    refine aY (kK (b:=56) (l:=[ae.mk 4 0 (tx ts i) []]) (m:=[m]) (by show(1+1)*56<=140737488355328;omega)) ?_;rfl
   ·obtain⟨k,q1,q2,_⟩:=fG h';obtain⟨k3,q3,q4,U,q6,_⟩:=x.good k q1;cases q3;subst U;refine⟨by omega,rfl,rfl,?_⟩;rw[jR,c6,jm,gV];simp only[No];omega
  | false=>
   have v:yK ts 2 i=false:=by unfold yK;rw[hg,aOP]
   have L:(JS.b i).Ok ts:=hi;obtain⟨n,E⟩:=Sa H L
   have V:aL (qS ts e' (.g i))=some (.mk 4 0 [] [],qS ts e' (.b i)):=by
    rw[aL];refine(eu (bV H _ hs)).trans ?_;refine bX qg ?_;refine aY (vx H hi) ?_;refine bX (show ¬kx ts i=true by unfold kx;rw[A,D,D,D];decide) ?_;refine oC (show(tok ts i).ah=2 from A) ?_;rw[dD];refine aY ((R9 H _ hs rfl).trans (by rw[acT v,ahO v])) ?_;rfl
   obtain⟨m,g2⟩:=aBm H hi V (D _) (D _);refine⟨.b i,.mk 46 0 [] [.mk 4 0 [] [],n],.mk 33 0 [] [m],?_,?_,Rs.b hi (Of i)⟩
   ·rw[bf];refine aI ((dX H _ hs 1 [] aRL).trans aRM) ?_;refine aI ((dX H _ hs 6 [123] aRL).trans aRW) ?_;refine aI (ay H hs (w:=[105,102]) f0) ?_;refine aI (ay H hs (w:=[119,104,105,108,101]) h) ?_;refine aI (ay H hs (w:=[102,111,114,101,97,99,104]) f2) ?_;refine aI (ay H hs (w:=[116,114,121]) j) ?_;refine aI (ay H hs (w:=[101,99,104,111]) o) ?_;refine aI (ay H hs (w:=[98,114,101,97,107]) p) ?_;refine aI (ay H hs (w:=[99,111,110,116,105,110,117,101]) q) ?_;refine aI (ay H hs (w:=[114,101,116,117,114,110]) r) ?_;refine aI (ay H hs (w:=[103,108,111,98,97,108]) t) ?_;refine aI (ay H hs (w:=[117,110,115,101,116]) u) ?_;refine aI (ay H hs (w:=[116,104,114,111,119]) d) ?_;refine aI (ay H hs (w:=[121,105,101,108,100]) f) ?_;refine aY (yS H hi) ?_;refine oC hy ?_;refine aY ((R6 H _ hs).trans (by rw[acT v,ahO v])) ?_;refine(eu (a:=((ts.length:Nat):Int)) ?_).trans ?_
    ·show u9 (ts.length:Int) (bm ((ts.length:Int)+2))=_;rw[wW aRK aRK];unfold u9;rw[mg aRK]
    refine(eu (a:=(n,pS ts e (.b i))) E).trans ?_;refine aY (eh H _ L [59]) ?_;rfl
   ·rw[aV];refine(eu (bV H _ hs)).trans ?_;refine bX qg ?_;refine bX (show ¬(tok ts i).ah=1 from k1) ?_;refine aI ((fM (e':=e') H (.g i) hs [123]).trans aSd) ?_;refine aI (au H hs (w:=[101,99,104,111]) o) ?_;refine aI ((fM (e':=e') H (.g i) hs [105,102]).trans aSc) ?_;refine aI (au H hs (w:=[119,104,105,108,101]) h) ?_;refine aI (au H hs (w:=[102,111,114,101,97,99,104]) f2) ?_;refine aI (au H hs (w:=[98,114,101,97,107]) p) ?_;refine aI (au H hs (w:=[99,111,110,116,105,110,117,101]) q) ?_;refine aI (au H hs (w:=[114,101,116,117,114,110]) r) ?_;refine aI (au H hs (w:=[103,108,111,98,97,108]) t) ?_;refine aI (au H hs (w:=[117,110,115,101,116]) u) ?_;refine aI (au H hs (w:=[116,104,114,111,119]) d) ?_;refine aI (au H hs (w:=[116,114,121]) j) ?_;refine aI (au H hs (w:=[121,105,101,108,100]) f) ?_;refine aY (yI H hi) ?_;refine bX (show ¬(yA ts i&&good (tx ts i))=true by rw[hg,aOP];exact aOo) ?_;rw[dD];refine aI (au (w:=[105,110,99,108,117,100,101]) H hs (D _)) ?_;refine aY (pR H 33 g2 L) ?_;rfl
 | false=>
  have C:¬(yA ts i&&good (tx ts i))=true:=by rw[hy];exact aOo
  cases hw:tw ts i [105,110,99,108,117,100,101]with
  | true=>
   have M:=ca hw;have F:(JS.g (i+1)).Ok ts:=M;have W:(JS.b (i+1)).Ok ts:=M;have G:bq (pS ts e (.g (i+1))) 0 5 []=some (kd ts (i+1)==5,pS ts e (.g (i+1))):=(dX H _ F 5 [] aRL).trans (by rw[show aS ts (.g (i+1)) 0 5 []=(kd ts (i+1)==5)from by show(kd ts (i+1)==5&&true)=_;rw[aOK]]);by_cases I:kd ts (i+1)=5
   ·have Q:i+1<ts.length:=tm aRK;have N:(JS.g (i+1+1)).Ok ts:=Q;have S:=vw H (i+1);have K:=@gz ts (.g (i+1+1)) [59];have K:i+1+1<=(wS ts (.g (i+1+1)) [59]).pos:=K;refine⟨wS ts (.g (i+1+1)) [59],.mk 47 0 (tx ts (i+1)) [],.mk 47 0 (tx ts (i+1)) [],?_,?_,Rs.node aRL (kA N _) (nB _ _) aRK (λT h'=>?_)⟩
    ·rw[bf];refine aI ((dX H _ hs 1 [] aRL).trans aRM) ?_;refine aI ((dX H _ hs 6 [123] aRL).trans aRW) ?_;refine aI (ay H hs (w:=[105,102]) f0) ?_;refine aI (ay H hs (w:=[119,104,105,108,101]) h) ?_;refine aI (ay H hs (w:=[102,111,114,101,97,99,104]) f2) ?_;refine aI (ay H hs (w:=[116,114,121]) j) ?_;refine aI (ay H hs (w:=[101,99,104,111]) o) ?_;refine aI (ay H hs (w:=[98,114,101,97,107]) p) ?_;refine aI (ay H hs (w:=[99,111,110,116,105,110,117,101]) q) ?_;refine aI (ay H hs (w:=[114,101,116,117,114,110]) r) ?_;refine aI (ay H hs (w:=[103,108,111,98,97,108]) t) ?_;refine aI (ay H hs (w:=[117,110,115,101,116]) u) ?_;refine aI (ay H hs (w:=[116,104,114,111,119]) d) ?_;refine aI (ay H hs (w:=[121,105,101,108,100]) f) ?_;refine aY (yS H hi) ?_;refine bX (show ¬yA ts i=true by rw[hy];exact aOo) ?_;rw[jo];refine dM (cy H hw) ?_;refine dM (G.trans (by rw[I,aPI])) ?_;refine(eu (a:=tok ts (i+1)) ?_).trans ?_
     ·show idx ts (bm (bm (((i+1:Nat):Int)+1) - 1))=_;rw[acU aRK,iR Q]
     rw[se H F];refine aY (eh H _ N [59]) ?_;rfl
    ·rw[aV];refine(eu (bV H _ hs)).trans ?_;refine bX qg ?_;refine bX (show ¬(tok ts i).ah=1 from k1) ?_;refine aI ((fM (e':=e') H (.g i) hs [123]).trans aSd) ?_;refine aI (au H hs (w:=[101,99,104,111]) o) ?_;refine aI ((fM (e':=e') H (.g i) hs [105,102]).trans aSc) ?_;refine aI (au H hs (w:=[119,104,105,108,101]) h) ?_;refine aI (au H hs (w:=[102,111,114,101,97,99,104]) f2) ?_;refine aI (au H hs (w:=[98,114,101,97,107]) p) ?_;refine aI (au H hs (w:=[99,111,110,116,105,110,117,101]) q) ?_;refine aI (au H hs (w:=[114,101,116,117,114,110]) r) ?_;refine aI (au H hs (w:=[103,108,111,98,97,108]) t) ?_;refine aI (au H hs (w:=[117,110,115,101,116]) u) ?_;refine aI (au H hs (w:=[116,104,114,111,119]) d) ?_;refine aI (au H hs (w:=[116,114,121]) j) ?_;refine aI (au H hs (w:=[121,105,101,108,100]) f) ?_;refine aY (yI H hi) ?_;refine bX C ?_;rw[dD];refine dM (bH H hw) ?_;refine aY ((acQ H F).trans (An I)) ?_;refine aY (fv H _ N [59]) ?_;rfl
    ·obtain⟨k,q1,q2,_⟩:=fG h';cases q1;exact⟨by omega,rfl,rfl,by rw[gV];omega⟩
   ·refine⟨.b (i+1),.mk 0 0 [] [],.mk 47 0 [] [],?_,?_,Rs.b M aRK⟩
    ·rw[bf];refine aI ((dX H _ hs 1 [] aRL).trans aRM) ?_;refine aI ((dX H _ hs 6 [123] aRL).trans aRW) ?_;refine aI (ay H hs (w:=[105,102]) f0) ?_;refine aI (ay H hs (w:=[119,104,105,108,101]) h) ?_;refine aI (ay H hs (w:=[102,111,114,101,97,99,104]) f2) ?_;refine aI (ay H hs (w:=[116,114,121]) j) ?_;refine aI (ay H hs (w:=[101,99,104,111]) o) ?_;refine aI (ay H hs (w:=[98,114,101,97,107]) p) ?_;refine aI (ay H hs (w:=[99,111,110,116,105,110,117,101]) q) ?_;refine aI (ay H hs (w:=[114,101,116,117,114,110]) r) ?_;refine aI (ay H hs (w:=[103,108,111,98,97,108]) t) ?_;refine aI (ay H hs (w:=[117,110,115,101,116]) u) ?_;refine aI (ay H hs (w:=[116,104,114,111,119]) d) ?_;refine aI (ay H hs (w:=[121,105,101,108,100]) f) ?_;refine aY (yS H hi) ?_;refine bX (show ¬yA ts i=true by rw[hy];exact aOo) ?_;rw[jo];refine dM (cy H hw) ?_;refine aI (G.trans (by rw[an.2 I])) ?_;refine aY (tl H _ F) ?_;rfl
    ·rw[aV];refine(eu (bV H _ hs)).trans ?_;refine bX qg ?_;refine bX (show ¬(tok ts i).ah=1 from k1) ?_;refine aI ((fM (e':=e') H (.g i) hs [123]).trans aSd) ?_;refine aI (au H hs (w:=[101,99,104,111]) o) ?_;refine aI ((fM (e':=e') H (.g i) hs [105,102]).trans aSc) ?_;refine aI (au H hs (w:=[119,104,105,108,101]) h) ?_;refine aI (au H hs (w:=[102,111,114,101,97,99,104]) f2) ?_;refine aI (au H hs (w:=[98,114,101,97,107]) p) ?_;refine aI (au H hs (w:=[99,111,110,116,105,110,117,101]) q) ?_;refine aI (au H hs (w:=[114,101,116,117,114,110]) r) ?_;refine aI (au H hs (w:=[103,108,111,98,97,108]) t) ?_;refine aI (au H hs (w:=[117,110,115,101,116]) u) ?_;refine aI (au H hs (w:=[116,104,114,111,119]) d) ?_;refine aI (au H hs (w:=[116,114,121]) j) ?_;refine aI (au H hs (w:=[121,105,101,108,100]) f) ?_;refine aY (yI H hi) ?_;refine bX C ?_;rw[dD];refine dM (bH H hw) ?_;refine aY ((acQ H F).trans (mg I)) ?_;refine aY (fv H _ W [59]) ?_;rfl
  | false=>
   obtain⟨B,n,m,E,g2,x⟩:=La (e':=e') H hi O;refine⟨wS ts B [59],.mk 33 0 [] [n],.mk 33 0 [] [m],?_,?_,st1 aRL x (Of i) [59]⟩
   ·rw[bf];refine aI ((dX H _ hs 1 [] aRL).trans aRM) ?_;refine aI ((dX H _ hs 6 [123] aRL).trans aRW) ?_;refine aI (ay H hs (w:=[105,102]) f0) ?_;refine aI (ay H hs (w:=[119,104,105,108,101]) h) ?_;refine aI (ay H hs (w:=[102,111,114,101,97,99,104]) f2) ?_;refine aI (ay H hs (w:=[116,114,121]) j) ?_;refine aI (ay H hs (w:=[101,99,104,111]) o) ?_;refine aI (ay H hs (w:=[98,114,101,97,107]) p) ?_;refine aI (ay H hs (w:=[99,111,110,116,105,110,117,101]) q) ?_;refine aI (ay H hs (w:=[114,101,116,117,114,110]) r) ?_;refine aI (ay H hs (w:=[103,108,111,98,97,108]) t) ?_;refine aI (ay H hs (w:=[117,110,115,101,116]) u) ?_;refine aI (ay H hs (w:=[116,104,114,111,119]) d) ?_;refine aI (ay H hs (w:=[121,105,101,108,100]) f) ?_;refine aY (yS H hi) ?_;refine bX (show ¬yA ts i=true by rw[hy];exact aOo) ?_;rw[jo];refine aI (ay (w:=[105,110,99,108,117,100,101]) H hs hw) ?_;refine aY E ?_;refine aY (eh H _ x.ok [59]) ?_;rfl
   ·rw[aV];refine(eu (bV H _ hs)).trans ?_;refine bX qg ?_;refine bX (show ¬(tok ts i).ah=1 from k1) ?_;refine aI ((fM (e':=e') H (.g i) hs [123]).trans aSd) ?_;refine aI (au H hs (w:=[101,99,104,111]) o) ?_;refine aI ((fM (e':=e') H (.g i) hs [105,102]).trans aSc) ?_;refine aI (au H hs (w:=[119,104,105,108,101]) h) ?_;refine aI (au H hs (w:=[102,111,114,101,97,99,104]) f2) ?_;refine aI (au H hs (w:=[98,114,101,97,107]) p) ?_;refine aI (au H hs (w:=[99,111,110,116,105,110,117,101]) q) ?_;refine aI (au H hs (w:=[114,101,116,117,114,110]) r) ?_;refine aI (au H hs (w:=[103,108,111,98,97,108]) t) ?_;refine aI (au H hs (w:=[117,110,115,101,116]) u) ?_;refine aI (au H hs (w:=[116,104,114,111,119]) d) ?_;refine aI (au H hs (w:=[116,114,121]) j) ?_;refine aI (au H hs (w:=[121,105,101,108,100]) f) ?_;refine aY (yI H hi) ?_;refine bX C ?_;rw[dD];refine aI (au (w:=[105,110,99,108,117,100,101]) H hs hw) ?_;refine aY (pR H 33 g2 x.ok) ?_;rfl
theorem ahP (H:Tk ts e) {i:Nat} (hi:i<=ts.length) (b:∀s,Lt ts i s->PC ts e e' s):C1 ts e e' false 0 (.g i) bf aV:=by
 have hs:(JS.g i).Ok ts:=hi;have v:=H.len;by_cases k1:kd ts i=1
 ·have f:i<ts.length:=tm aRK;refine⟨.g (i+1),.mk 31 0 (tx ts i) [],.mk 31 0 (tx ts i) [],?_,?_,Rs.leaf aRL f (vw H i) (by rw[k1];rfl)⟩
  ·rw[bf];refine dM ((dX H _ hs 1 [] aRL).trans (by rw[show aS ts (.g i) 0 1 []=true from by show(kd ts i==1&&true)=true;rw[k1];rfl])) ?_;refine(eu (a:=tok ts i) ?_).trans ?_
   ·show idx ts (bm (bm ((i:Int)+1) - 1))=_;rw[acU aRK,iR f]
   rw[se H hi];rfl
  ·rw[aV];refine(eu (bV H _ hs)).trans ?_;refine bX qg ?_;refine oC (show(tok ts i).ah=1 from k1) ?_;rw[rf H hi];rfl
 cases L9:tw ts i [123]with
 | true=>
  obtain⟨s',n,m,t,g2,u⟩:=N9 (e':=e') H hi b;refine⟨s',n,m,?_,?_,u⟩
  ·rw[bf];refine aI ((dX H _ hs 1 [] aRL).trans (by rw[show aS ts (.g i) 0 1 []=false from by show(kd ts i==1&&true)=false;rw[an.2 k1];rfl])) ?_;refine dM ((dX H _ hs 6 [123] aRL).trans (by rw[show aS ts (.g i) 0 6 [123]=true from(aM H aRL aRL).trans L9])) ?_;refine aY t ?_;rfl
  ·rw[aV];refine(eu (bV H _ hs)).trans ?_;refine bX qg ?_;refine bX (show ¬(tok ts i).ah=1 from k1) ?_;refine dM ((fM (e':=e') H (.g i) hs [123]).trans (by rw[show tw ts (JS.g i).pos [123]=true from L9])) ?_;refine aY g2 ?_;rfl
 | false=>
 cases f0:tw ts i [105,102]with
 | true=>exact ahK H hi b f0
 | false=>
 cases h:tw ts i [119,104,105,108,101]with
 | true=>exact RU H hi b h
 | false=>
 cases f2:tw ts i [102,111,114,101,97,99,104]with
 | true=>exact K9 H hi b f2
 | false=>
 cases j:tw ts i [116,114,121]with
 | true=>exact acR H hi b j
 | false=>
 cases k:tw ts i [101,99,104,111]with
 | true=>exact Wp H hi b k
 | false=>
 cases l:tw ts i [98,114,101,97,107]with
 | true=>exact R3 H hi b l
 | false=>
 cases o:tw ts i [99,111,110,116,105,110,117,101]with
 | true=>exact Ik H hi b o
 | false=>
 cases p:tw ts i [114,101,116,117,114,110]with
 | true=>exact N8 H hi b p
 | false=>
 cases q:tw ts i [103,108,111,98,97,108]with
 | true=>exact N7 H hi b q
 | false=>
 cases r:tw ts i [117,110,115,101,116]with
 | true=>exact R4 H hi b r
 | false=>
 cases c:tw ts i [116,104,114,111,119]with
 | true=>exact RW H hi b c
 | false=>
 cases d:tw ts i [121,105,101,108,100]with
 | true=>exact RZ H hi b d
 | false=>
 exact Wq H hi b k1 L9 f0 h f2 j k l o p q r c d
theorem acV (H:Tk ts e):∀(N i:Nat),ts.length - i<N->i<=ts.length->PC ts e e' (.g i)
 | 0,i,h,_=>by omega
 | N+1,i,h,hi=>by
  have a:∀s,Lt ts i s->PC ts e e' s:=λs hs=>by
   match s,hs with
   | .g k,hs=>
    have h1:=hs.lt k rfl;have h2:k<=ts.length:=hs.ok;exact acV H N k aRK h2
   | .b j,hs=>exact acW H hs.ok
   | .d j,hs=>cases hs.nd
  exact⟨Ug H hi a,Oa H hi a,akG H hi a,λc h4 f=>Sb H hi a (11 - c) c aRK h4,Uh H hi a,Ui H hi a,La H hi a,ahQ H hi a,ahR H hi a,N9 H hi a,ahP H hi a⟩
theorem akH (H:Tk ts e) (s:JS) (hs:s.Ok ts) (hd:s.nd=true):PC ts e e' s:=by
 match s,hs,hd with
 | .g k,hs,_=>exact acV H _ k (aOr _) hs
 | .b j,hs,_=>exact acW H hs
 | .d j,_,hd=>cases hd
end
set_option maxRecDepth 10000
set_option maxHeartbeats 400000
section
variable {ts:List aj}{e e':Int}
theorem a0k {i:Nat} (k:Int):aS ts (.g i) 0 k []=(kd ts i==k):=by
 show(kd ts (i+0)==k&&(([]:aE)==([]:aE)||_))=_;rw[show(([]:aE)==([]:aE))=true from rfl,aPa,aOK,aPv]
theorem a0n (H:Tk ts e) {i:Nat} {w:aE} (hw:FF.contains w=false) (a:w≠[]):aS ts (.g i) 0 3 w=tw ts i w:=by
 show aT ts (i+0) 3 w=_;rw[aPv,aN H hw a]
theorem acX (H:Tk ts e) {i:Nat} (hi:i<=ts.length) (h:kx ts i=true):∃n,aP (pS ts e (.g i))=some (n,pS ts e (.g (i+1)))/\bM (qS ts e' (.g i))=some (n,qS ts e' (.g (i+1)))/\wt n<=4000/\i<ts.length:=by
 have hs:(JS.g i).Ok ts:=hi;by_cases b:kd ts i=4
 ·have a:i<ts.length:=tm aRK;refine⟨.mk 1 (tok ts i).aF [] [],?_,?_,by rw[jm,gV];simp,a⟩
  ·rw[aP];refine bX (mN a) ?_;refine(eu (iR a)).trans ?_;refine oC b ?_;rw[se H hi]
  ·unfold bM;refine(eu (bV H _ hs)).trans ?_;refine oC b ?_;rw[rf H hi];rfl
 by_cases d:kd ts i=5
 ·have a:i<ts.length:=tm aRK;refine⟨.mk 2 0 (tx ts i) [],?_,?_,by rw[jm,gV];exact vw H i,a⟩
  ·rw[aP];refine bX (mN a) ?_;refine(eu (iR a)).trans ?_;refine bX b ?_;refine oC d ?_;rw[se H hi];rfl
  ·unfold bM;refine(eu (bV H _ hs)).trans ?_;refine bX b ?_;refine oC d ?_;rw[rf H hi];rfl
 unfold kx at h;rw[an.2 b,an.2 d,aOt,aOt]at h
 have j:¬kd ts i=2:=λj=>by
  rw[xt aRK aRK,xt aRK aRK,xt aRK aRK]at h;exact absurd h aRL
 by_cases k:tw ts i [110,117,108,108]=true
 ·have a:=ca k;refine⟨.mk 3 0 [] [],?_,?_,by rw[jm,gV];simp,a⟩
  ·rw[aP];refine bX (mN a) ?_;refine(eu (iR a)).trans ?_;refine bX b ?_;refine bX d ?_;refine bX j ?_;refine dM (cy H k) ?_;rfl
  ·unfold bM;refine(eu (bV H _ hs)).trans ?_;refine bX b ?_;refine bX d ?_;refine dM (bH H k) ?_;rfl
 have c:tw ts i [110,117,108,108]=false:=by simpa using k
 by_cases hf:tw ts i [102,97,108,115,101]=true
 ·have a:=ca hf;refine⟨.mk 3 1 [] [],?_,?_,by rw[jm,gV];simp,a⟩
  ·rw[aP];refine bX (mN a) ?_;refine(eu (iR a)).trans ?_;refine bX b ?_;refine bX d ?_;refine bX j ?_;refine aI (ay H hs (w:=[110,117,108,108]) c) ?_;refine dM (cy H hf) ?_;rfl
  ·unfold bM;refine(eu (bV H _ hs)).trans ?_;refine bX b ?_;refine bX d ?_;refine aI (au (w:=[110,117,108,108]) H hs c) ?_;refine dM (bH H hf) ?_;rfl
 have f:tw ts i [102,97,108,115,101]=false:=by simpa using hf
 rw[c,f,aOs,aOs]at h;have a:=ca h;refine⟨.mk 3 2 [] [],?_,?_,by rw[jm,gV];simp,a⟩
 ·rw[aP];refine bX (mN a) ?_;refine(eu (iR a)).trans ?_;refine bX b ?_;refine bX d ?_;refine bX j ?_;refine aI (ay H hs (w:=[110,117,108,108]) c) ?_;refine aI (ay H hs (w:=[102,97,108,115,101]) f) ?_;refine dM (cy H h) ?_;rfl
 ·unfold bM;refine(eu (bV H _ hs)).trans ?_;refine bX b ?_;refine bX d ?_;refine aI (au (w:=[110,117,108,108]) H hs c) ?_;refine aI (au (w:=[102,97,108,115,101]) H hs f) ?_;refine dM (bH H h) ?_;rfl
theorem aoV (H:Tk ts e) {i:Nat} (hi:i<=ts.length) (h:kx ts i=false):bM (qS ts e' (.g i))=some (.mk 0 0 [] [],qS ts e' (.b i)):=by
 have hs:(JS.g i).Ok ts:=hi;unfold kx at h;simp only[aPR,an]at h;obtain⟨a,c,h1,h2,d⟩:=h;unfold bM;refine(eu (bV H _ hs)).trans ?_;refine bX a ?_;refine bX c ?_;refine aI (au (w:=[110,117,108,108]) H hs d) ?_;refine aI (au (w:=[102,97,108,115,101]) H hs h2) ?_;refine aI (au (w:=[116,114,117,101]) H hs h1) ?_;rfl
theorem Uj (H:Tk ts e) (s:JS) (hs:s.Ok ts) (hd:s.nd=true):∃s' l m b f,(∃a,fh (pS ts e s) 24 []=some (l,pS ts e a)/\cb (pS ts e a)=some (b,pS ts e s')/\eT (qS ts e' s)=some (m,qS ts e' a)/\bx (qS ts e' a)=some (f,qS ts e' s'))/\
  s'.Ok ts/\s'.nd=true/\s.pos<=s'.pos/\l.length<=4010/\m.length<=4010/\(∀c,s'=.g c->∃i,s=.g i/\i+2<c/\l=m/\b=f/\(wl (l++[b]):Int)+16384*(i:Int)+20000<=16384*(c:Int)):=by
 have u:=H.len;obtain⟨a,l,m,h1,h2,R⟩:=Ct (e':=e') H 24 (.inl rfl) [] aRN s hs hd (λh=>absurd h aRL);obtain⟨s',b,f,p,g2,n⟩:=(akH (e':=e') H a R.ok R.nd).block;have hp:=okp R.ok;have q1:=R.len;have q2:=R.lem;have q3:=R.le;have q4:=n.le;simp only[No,are]at q1;refine⟨s',l,m,b,f,⟨a,h1,p,?_,g2⟩,n.ok,?_,by omega,by omega,by omega,λc h'=>?_⟩
 ·unfold eT;rw[h2,sb]
 ·cases s' with
  | g _=>rfl
  | b _=>rfl
  | d j=>have:=(n.dm j rfl).2.2.1;omega
 ·obtain⟨k,r1,v,q,w,_⟩:=n.good c h';obtain⟨r,t,x,o,y⟩:=R.good k r1;rw[aOB]at o;subst o;refine⟨r,t,by omega,rfl,q,?_⟩;rw[iD,c6];omega
theorem Rs.nd0 {v:Bool} {s s':JS} {n m:ae} (h:Rs ts v 0 s s' n m):s'.nd=true:=by
 cases s' with
 | g _=>rfl
 | b _=>rfl
 | d j=>have:=(h.dm j rfl).2.2.1;omega
theorem Wr (H:Tk ts e) {i:Nat} (hi:i<=ts.length):C1 ts e e' false 0 (.g i) jZ ko:=by
 have hL:=H.len;have u:(JS.g i).Ok ts:=hi
 obtain⟨c,j,hf,Ws,v,R,S⟩:∃(c:Nat) (j:Int),(j=0\/j=1)/\i<=c/\c<=ts.length/\
   (aD (pS ts e (.g i)) [112,114,105,118,97,116,101]>>=λ(q,a)=>(if q=true then some (a.fT,a.fI,a.ax,a.aw,1)else some (a.fT,a.fI,a.ax,a.aw,0)):Option ((List aj)×Int×Int×Int×Int))=some ((pS ts e (.g c)).fT,(pS ts e (.g c)).fI,(pS ts e (.g c)).ax,(pS ts e (.g c)).aw,j)/\
   (av (qS ts e' (.g i)) [112,114,105,118,97,116,101]>>=λ(q,a)=>(if q=true then some (a.ar,a.bA,a.ax,a.aw,1)else some (a.ar,a.bA,a.ax,a.aw,0)):Option ((List aj)×Int×Int×Bool×Int))=some ((qS ts e' (.g c)).ar,(qS ts e' (.g c)).bA,(qS ts e' (.g c)).ax,(qS ts e' (.g c)).aw,j):=by
  cases h:tw ts i [112,114,105,118,97,116,101]with
  | true=>
   refine⟨i+1,1,.inr rfl,aPj i,ca h,?_,?_⟩
   ·refine dM (cy H h) ?_;rfl
   ·refine dM (bH H h) ?_;rfl
  | false=>
   refine⟨i,0,.inl rfl,Of i,hi,?_,?_⟩
   ·refine aI (ay (w:=[112,114,105,118,97,116,101]) H u h) ?_;rfl
   ·refine aI (au (w:=[112,114,105,118,97,116,101]) H u h) ?_;rfl
 have r:(JS.g c).Ok ts:=v;have S0:=jZ.eq_1 (pS ts e (.g i));have d:=ko.eq_1 (qS ts e' (.g i));rw[R,sb]at S0;rw[S,sb]at d;dsimp only at S0 d;rw[jo,dX H _ r 2 [] aRL,sb]at S0;rw[dD,bV H _ r,sb]at d;dsimp only at S0 d;rw[a0k]at S0;by_cases x:kd ts c=2
 ·rw[An (by rw[aOm];exact x),pE H _ r 2,sb]at S0;rw[An (show(tok ts (JS.g c).pos).ah=2 from x),oV H _ r rfl 2 (.inl rfl),sb]at d;dsimp only at S0 d;have y:=sd r (k:=2) aRL;have T:=uD (ts:=ts) (.g c) 2;have t2:=js H (.g c) 2;have L:=mQ (ts:=ts) (.g c) 2;have L:c<=(nS ts (.g c) 2).pos:=L
  have M:∀k,nS ts (.g c) 2=.g k->k=c+1:=λk hk=>by
   obtain⟨i0,q1,q2,_⟩:=mi hk;cases q1;exact q2
  generalize nT ts (.g c) 2=t at*;generalize nS ts (.g c) 2=N at*;rcases Lb (ts:=ts) N [61]with h | ⟨f,rfl,h⟩
  ·rw[ay (w:=[61]) H y h,sb]at S0;rw[au (w:=[61]) H y h (.inr T),sb]at d;dsimp only at S0 d;rw[mg aRL,eh H _ y [59],sb]at S0;rw[mg aRL,fv H _ y [59],sb]at d;refine⟨_,_,_,S0,d,Rs.node aRL (kA y _) (nB _ _) (by have:=gz (ts:=ts) N [59];omega) (λC h'=>?_)⟩;obtain⟨k,q1,q2,_⟩:=fG h';have:=M k q1;refine⟨by omega,rfl,rfl,?_⟩;rw[c6,jm,gV];simp only[No];omega
  ·have:=M f rfl;subst this;have B:=ca h;have o:(JS.g (c+1+1)).Ok ts:=B;rw[cy H h,sb]at S0;rw[bH H h,sb]at d;dsimp only at S0 d;rw[An rfl,dX H _ o 4 [] aRL,sb]at S0;rw[An rfl]at d;dsimp only at S0;rw[a0k]at S0;cases p:kx ts (c+1+1)with
   | true=>
    obtain⟨n,D,g2,O,E⟩:=acX (e':=e') H B p;have s:(JS.g (c+1+1+1)).Ok ts:=E;rw[g2,sb]at d;dsimp only at d;rw[fv H _ s [59],sb]at d
    have S1:jZ (pS ts e (.g i))=some (.mk 54 j t [n],pS ts e (wS ts (.g (c+1+1+1)) [59])):=by
     rw[S0]
     have fin:(aP (pS ts e (.g (c+1+1)))>>=λ(F,G)=>aQ G [59]>>=λU=>some ((ae.mk 54 j t ([F]:List ae)),U))=some (.mk 54 j t [n],pS ts e (wS ts (.g (c+1+1+1)) [59])):=by
      rw[D,sb];dsimp only;rw[eh H _ s [59],sb]
     by_cases z:kd ts (c+1+1)=4
     ·rw[An (by rw[aOm];exact z)];exact fin
     rw[mg (by rw[aOm];exact z),dX H _ o 5 [] aRL,sb];dsimp only;rw[a0k];by_cases A:kd ts (c+1+1)=5
     ·rw[An (by rw[aOm];exact A)];exact fin
     rw[mg (by rw[aOm];exact A),dX H _ o 3 [110,117,108,108] aRL,sb];dsimp only;rw[a0n H aRL aRL];cases V:tw ts (c+1+1) [110,117,108,108]with
     | true=>rw[An rfl];exact fin
     | false=>
      rw[mg aRL,dX H _ o 3 [116,114,117,101] aRL,sb];dsimp only;rw[a0n H aRL aRL];cases W:tw ts (c+1+1) [116,114,117,101]with
      | true=>rw[An rfl];exact fin
      | false=>
       rw[mg aRL,dX H _ o 3 [102,97,108,115,101] aRL,sb];dsimp only;rw[a0n H aRL aRL];cases hf:tw ts (c+1+1) [102,97,108,115,101]with
       | true=>rw[An rfl];exact fin
       | false=>
        unfold kx at p;rw[V,W,hf,an.2 z,an.2 A]at p;exact absurd p aRL
    refine⟨_,_,_,S1,d,Rs.node aRL (kA s _) (nB _ _) (by have:=gz (ts:=ts) (.g (c+1+1+1)) [59];have:c+1+1+1<=_:=this;omega) (λC h'=>?_)⟩;obtain⟨k,q1,q2,_⟩:=fG h';cases q1;refine⟨by omega,rfl,rfl,?_⟩;rw[c6];omega
   | false=>
    rw[aoV H B p,sb]at d;dsimp only at d;have P:(JS.b (c+1+1)).Ok ts:=B;rw[fv H _ P [59],sb]at d
    have S1:jZ (pS ts e (.g i))=some (.mk 0 0 [] [],pS ts e (.b (c+1+1))):=by
     rw[S0];unfold kx at p;simp only[aPR,an]at p;obtain⟨z,A,h1,h2,X⟩:=p;rw[mg (by rw[aOm];exact z),dX H _ o 5 [] aRL,sb];dsimp only;rw[a0k,mg (by rw[aOm];exact A),dX H _ o 3 [110,117,108,108] aRL,sb];dsimp only;rw[a0n H aRL aRL,X,mg aRL,dX H _ o 3 [116,114,117,101] aRL,sb];dsimp only;rw[a0n H aRL aRL,h1,mg aRL,dX H _ o 3 [102,97,108,115,101] aRL,sb];dsimp only;rw[a0n H aRL aRL,h2,mg aRL,tl H _ o,sb];rfl
    exact⟨.b (c+1+1),_,_,S1,d,⟨P,by show i<=c+1+1;omega,λi h=>aSg,λi h=>aSg⟩⟩
 ·rw[mg (by rw[aOm];exact x)]at S0;rw[mg (show ¬(tok ts (JS.g c).pos).ah=2 from x)]at d
  obtain⟨f,f2,Y,I,Z,p4⟩:∃(f:Nat) (f2:Int),c<=f/\f<=ts.length/\
    (aD (pS ts e (.g c)) [115,116,97,116,105,99]>>=λ(q,a)=>(if q=true then some (a.fT,a.fI,a.ax,a.aw,bm (j+2))else some (a.fT,a.fI,a.ax,a.aw,j)):Option ((List aj)×Int×Int×Int×Int))=some ((pS ts e (.g f)).fT,(pS ts e (.g f)).fI,(pS ts e (.g f)).ax,(pS ts e (.g f)).aw,f2)/\
    (av (qS ts e' (.g c)) [115,116,97,116,105,99]>>=λ(q,a)=>(if q=true then some (a.ar,a.bA,a.ax,a.aw,bm (j+2))else some (a.ar,a.bA,a.ax,a.aw,j)):Option ((List aj)×Int×Int×Bool×Int))=some ((qS ts e' (.g f)).ar,(qS ts e' (.g f)).bA,(qS ts e' (.g f)).ax,(qS ts e' (.g f)).aw,f2):=by
   cases h:tw ts c [115,116,97,116,105,99]with
   | true=>
    refine⟨c+1,bm (j+2),aPj c,ca h,?_,?_⟩
    ·refine dM (cy H h) ?_;rfl
    ·refine dM (bH H h) ?_;rfl
   | false=>
    refine⟨c,j,Of c,v,?_,?_⟩
    ·refine aI (ay (w:=[115,116,97,116,105,99]) H r h) ?_;rfl
    ·refine aI (au (w:=[115,116,97,116,105,99]) H r h) ?_;rfl
  have J:(JS.g f).Ok ts:=I;rw[Z,sb]at S0;rw[p4,sb]at d;dsimp only at S0 d;have K:=kA J [102,117,110,99,116,105,111,110];have Q:=gz (ts:=ts) (.g f) [102,117,110,99,116,105,111,110];have Q:f<=(wS ts (.g f) [102,117,110,99,116,105,111,110]).pos:=Q;have d3:=nB (ts:=ts) (.g f) [102,117,110,99,116,105,111,110];have o4:=sd K (k:=3) aRL;have b4:=mQ (ts:=ts) (wS ts (.g f) [102,117,110,99,116,105,111,110]) 3;have d4:=uD (ts:=ts) (wS ts (.g f) [102,117,110,99,116,105,111,110]) 3;have t4:=js H (wS ts (.g f) [102,117,110,99,116,105,111,110]) 3;rw[jo,eh H _ J [102,117,110,99,116,105,111,110],sb,pE H _ K 3,sb]at S0;rw[dD,fv H _ J [102,117,110,99,116,105,111,110],sb,oV H _ K d3 3 (.inr rfl),sb]at d;dsimp only at S0 d;obtain⟨s',l,m,b,b',⟨s5,D,g2,O,E⟩,r1,r2,r3,r4,r5,r6⟩:=Uj (e':=e') H _ o4 d4;rw[D,sb]at S0;rw[O,sb]at d;dsimp only at S0 d;rw[g2,sb]at S0;rw[E,sb]at d;dsimp only at S0 d;rw[fN _ aRK,sb]at S0 d;refine⟨_,_,_,S0,d,Rs.node aRL r1 r2 aRK (λC h'=>?_)⟩;obtain⟨k,q1,q2,q3,q4,q5⟩:=r6 C h';obtain⟨k1,q6,q7,_⟩:=mi q1;obtain⟨x,q8,q9,_⟩:=fG q6;cases q8;subst q3;subst q4;exact⟨by omega,rfl,rfl,by omega⟩
end
set_option maxRecDepth 10000
set_option maxHeartbeats 400000
section
variable {ts:List aj}{e e':Int}
theorem Ob (H:Tk ts e):∀(N:Nat) (s:JS) (l m:List ae),s.Ok ts->s.nd=true->(∀i,s=.g i->ts.length - i<N/\l.length<=i+10/\m.length<=i+10)->
  ∃s' x y,eN (pS ts e s).fT (pS ts e s).fI (pS ts e s).ax (pS ts e s).aw l=some ((pS ts e s').fT,(pS ts e s').fI,(pS ts e s').ax,(pS ts e s').aw,l++x)/\
   eo (qS ts e' s).ar (qS ts e' s).bA (qS ts e' s).ax (qS ts e' s).aw m=some ((qS ts e' s').ar,(qS ts e' s').bA,(qS ts e' s').ax,(qS ts e' s').aw,m++y)/\
   s'.Ok ts/\s'.nd=true/\s.pos<=s'.pos/\x.length+s.pos<=s'.pos+1/\y.length+s.pos<=s'.pos+1/\((∃j,s=.b j)->x=[]/\y=[])/\(∀a,s'=.g a->∃i,s=.g i/\i<=a/\x=y/\(wl x:Int)+16384*(i:Int)<=16384*(a:Int))
 | N,.d j,l,m,_,hd,_=>by cases hd
 | N,.b j,l,m,hs,_,_=>by
  refine⟨.b j,[],[],?_,?_,hs,rfl,Of _,by show 0+j<=j+1;omega,by show 0+j<=j+1;omega,λ_=>⟨rfl,rfl⟩,λa h=>by cases h⟩
  ·rw[eN,jo,aOW];refine aI (ay (w:=[117,115,101]) H hs rfl) ?_;rfl
  ·rw[eo,dD,aOW];refine aI (au (w:=[117,115,101]) H hs rfl) ?_;rfl
 | 0,.g i,_,_,_,_,h=>by have:=(h i rfl).1;omega
 | N+1,.g i,l,m,hs,_,q=>by
  have J:=H.len;obtain⟨q,K,hm⟩:=q i rfl;have hi:i<=ts.length:=hs;cases h1:tw ts i [117,115,101]with
  | false=>
   refine⟨.g i,[],[],?_,?_,hs,rfl,Of _,by show 0+i<=i+1;omega,by show 0+i<=i+1;omega,λ_=>⟨rfl,rfl⟩,λa h=>by cases h;exact⟨i,rfl,Of _,rfl,by rw[gV];omega⟩⟩
   ·rw[eN,jo,aOW];refine aI (ay (w:=[117,115,101]) H hs h1) ?_;rfl
   ·rw[eo,dD,aOW];refine aI (au (w:=[117,115,101]) H hs h1) ?_;rfl
  | true=>
   have z:=ca h1;have c:(JS.g (i+1)).Ok ts:=z;have f:=sd c (k:=3) aRL;have L:=uD (ts:=ts) (.g (i+1)) 3;have M:=js H (.g (i+1)) 3;have r:=mQ (ts:=ts) (.g (i+1)) 3;have r:i+1<=(nS ts (.g (i+1)) 3).pos:=r;have A:=kA f [59];have u:=nB (ts:=ts) (nS ts (.g (i+1)) 3) [59];have O:=gz (ts:=ts) (nS ts (.g (i+1)) 3) [59]
   have n:∀k,wS ts (nS ts (.g (i+1)) 3) [59]=.g k->k=i+3:=λk hk=>by
    obtain⟨k1,q1,q2,_⟩:=fG hk;obtain⟨P,q3,q4,_⟩:=mi q1;cases q3;omega
   have S0:eN (pS ts e (.g i)).fT (pS ts e (.g i)).fI (pS ts e (.g i)).ax (pS ts e (.g i)).aw l=eN (pS ts e (wS ts (nS ts (.g (i+1)) 3) [59])).fT (pS ts e (wS ts (nS ts (.g (i+1)) 3) [59])).fI (pS ts e (wS ts (nS ts (.g (i+1)) 3) [59])).ax (pS ts e (wS ts (nS ts (.g (i+1)) 3) [59])).aw (l++[.mk 53 0 (nT ts (.g (i+1)) 3) []]):=by
    conv=>lhs;rw[eN,jo]
    refine dM (cy H h1) ?_;refine aY (pE H _ c 3) ?_;refine aY (fN _ aRK) ?_;refine aY (eh H _ f [59]) ?_;rfl
   have B:eo (qS ts e' (.g i)).ar (qS ts e' (.g i)).bA (qS ts e' (.g i)).ax (qS ts e' (.g i)).aw m=eo (qS ts e' (wS ts (nS ts (.g (i+1)) 3) [59])).ar (qS ts e' (wS ts (nS ts (.g (i+1)) 3) [59])).bA (qS ts e' (wS ts (nS ts (.g (i+1)) 3) [59])).ax (qS ts e' (wS ts (nS ts (.g (i+1)) 3) [59])).aw (m++[.mk 53 0 (nT ts (.g (i+1)) 3) []]):=by
    conv=>lhs;rw[eo,dD]
    refine dM (bH H h1) ?_;refine aY (oV H _ c rfl 3 (.inr rfl)) ?_;refine aY (fN _ aRK) ?_;refine aY (fv H _ f [59]) ?_;rfl
   rw[S0,B];generalize wS ts (nS ts (.g (i+1)) 3) [59]=C at*;generalize nT ts (.g (i+1)) 3=t at*
   obtain⟨s',x,y,v,f2,D,E,Q,o,p,F,G⟩:=Ob H N C (l++[.mk 53 0 t []]) (m++[.mk 53 0 t []]) A u (λk hk=>by
    have:=n k hk;simp only[aOj,At,No];omega)
   rw[aOQ]at v f2
   have hx:x.length+1+i<=s'.pos+1/\y.length+1+i<=s'.pos+1:=by
    rcases Bc u with⟨k,hk⟩ | ⟨j,hj⟩
    ·have:=n k hk;rw[hk]at o p;have o:x.length+k<=_:=o;have p:y.length+k<=_:=p;omega
    ·obtain⟨q1,q2⟩:=F ⟨j,hj⟩;rw[q1,q2];simp only[No];omega
   refine⟨s',[.mk 53 0 t []]++x,[.mk 53 0 t []]++y,v,f2,D,E,by show i<=_;omega,?_,?_,λ⟨j,hj⟩=>(by cases hj),λa h=>?_⟩
   ·simp only[aOj,At,No];show _+i<=_;omega
   ·simp only[aOj,At,No];show _+i<=_;omega
   ·obtain⟨k,r1,R,I,S⟩:=G a h;have:=n k r1;subst I;refine⟨i,rfl,by omega,rfl,?_⟩;rw[iD,c6,jm,gV];omega
theorem Oc (H:Tk ts e):∀(N:Nat) (s:JS) (l m:List ae),s.Ok ts->s.nd=true->(∀i,s=.g i->ts.length - i<N/\l.length<=i+20/\m.length<=i+20)->
  ∃s' x y,eO (pS ts e s).fT (pS ts e s).fI (pS ts e s).ax (pS ts e s).aw l=some ((pS ts e s').fT,(pS ts e s').fI,(pS ts e s').ax,(pS ts e s').aw,l++x)/\
   ep (qS ts e' s).ar (qS ts e' s).bA (qS ts e' s).ax (qS ts e' s).aw m=some ((qS ts e' s').ar,(qS ts e' s').bA,(qS ts e' s').ax,(qS ts e' s').aw,m++y)/\
   s'.Ok ts/\s'.nd=true/\s.pos<=s'.pos/\x.length+s.pos<=s'.pos+1/\y.length+s.pos<=s'.pos+1/\((∃j,s=.b j)->x=[]/\y=[])/\(∀c,s'=.g c->∃i,s=.g i/\i<c/\x=y/\(wl x:Int)+16384*(i:Int)+16384<=16384*(c:Int))
 | N,.d j,l,m,_,hd,_=>by cases hd
 | N,.b j,l,m,hs,_,_=>by
  refine⟨.b j,[],[],?_,?_,hs,rfl,Of _,by show 0+j<=j+1;omega,by show 0+j<=j+1;omega,λ_=>⟨rfl,rfl⟩,λc h=>by cases h⟩
  ·rw[eO];simp only[qQ H,aOn,aOW]
  ·rw[ep];simp only[jr,aOw,aOW]
 | 0,.g i,_,_,_,_,h=>by have:=(h i rfl).1;omega
 | N+1,.g i,l,m,hs,_,r=>by
  have I:=H.len;obtain⟨r,J,hm⟩:=r i rfl;have hi:i<=ts.length:=hs;cases h1:tw ts i [125]with
  | true=>
   have z:=ca h1;refine⟨.g (i+1),[],[],?_,?_,z,rfl,aPj i,by show 0+i<=i+1+1;omega,by show 0+i<=i+1+1;omega,λ_=>⟨rfl,rfl⟩,λc h=>by cases h;exact⟨i,rfl,aOr i,rfl,by rw[gV];omega⟩⟩
   ·rw[eO];simp only[kq,aOw,jo,aOW];refine dM (cy H h1) ?_;rfl
   ·rw[ep];simp only[jt,aOn,dD,aOW];refine dM (bH H h1) ?_;rfl
  | false=>
   obtain⟨a,n,o,A,g2,f⟩:=Wr (e':=e') H hi;have hle:i<=a.pos:=f.le;have t:=f.nd0
   have S0:eO (pS ts e (.g i)).fT (pS ts e (.g i)).fI (pS ts e (.g i)).ax (pS ts e (.g i)).aw l=eO (pS ts e a).fT (pS ts e a).fI (pS ts e a).ax (pS ts e a).aw (l++[n]):=by
    conv=>lhs;rw[eO]
    simp only[kq,aOw,jo];refine aI (ay (w:=[125]) H hs h1) ?_;refine aY A ?_;refine aY (fN _ aRK) ?_;rfl
   have B:ep (qS ts e' (.g i)).ar (qS ts e' (.g i)).bA (qS ts e' (.g i)).ax (qS ts e' (.g i)).aw m=ep (qS ts e' a).ar (qS ts e' a).bA (qS ts e' a).ax (qS ts e' a).aw (m++[o]):=by
    conv=>lhs;rw[ep]
    simp only[jt,aOn,dD];refine aI (au (w:=[125]) H hs h1) ?_;refine aY g2 ?_;refine aY (fN _ aRK) ?_;rfl
   rw[S0,B]
   obtain⟨s',x,y,u,f2,C,D,K,p,q,E,F⟩:=Oc H N a (l++[n]) (m++[o]) f.ok t (λk hk=>by
    obtain⟨v,q1,q2,_⟩:=f.good k hk;cases q1;have q3:k<=ts.length:=by have:=f.ok;rw[hk]at this;exact this
    simp only[aOj,At,No];omega)
   rw[aOQ]at u f2
   have hx:x.length+1+i<=s'.pos+1/\y.length+1+i<=s'.pos+1:=by
    rcases Bc t with⟨k,hk⟩ | ⟨j,hj⟩
    ·obtain⟨v,q1,q2,_⟩:=f.good k hk;cases q1;rw[hk]at p q;have p:x.length+k<=_:=p;have q:y.length+k<=_:=q;omega
    ·obtain⟨q1,q2⟩:=E ⟨j,hj⟩;rw[q1,q2];simp only[No];omega
   refine⟨s',[n]++x,[o]++y,u,f2,C,D,by show i<=_;omega,?_,?_,λ⟨j,hj⟩=>(by cases hj),λc h=>?_⟩
   ·simp only[aOj,At,No];show _+i<=_;omega
   ·simp only[aOj,At,No];show _+i<=_;omega
   ·obtain⟨k,r1,L,G,M⟩:=F c h;obtain⟨v,q1,q2,q3,q4,_⟩:=f.good k r1;cases q1;subst G;subst q3;refine⟨i,rfl,by omega,rfl,?_⟩;rw[iD,c6];omega
theorem Lc (H:Tk ts e) (s:JS) (hs:s.Ok ts) (hd:s.nd=true) (a:List ae) (V:a.length<=1) (q:Int) (r:aE):∃s' x y,
  (aQ (pS ts e s) [123]>>=λb=>(eN b.fT b.fI b.ax b.aw a:Option ((List aj)×Int×Int×Int×(List ae)))>>=λ(z,A,B,d,C)=>(eO z A B d C:Option ((List aj)×Int×Int×Int×(List ae)))>>=λ(f,j,l,m,D)=>some ((ae.mk q 0 r D),(aH.mk f j l m)))=some (.mk q 0 r (a++x),pS ts e s')/\
  jf (qS ts e' s)=some (y,qS ts e' s')/\s'.Ok ts/\s'.nd=true/\s.pos<=s'.pos/\y.length<=9000/\
  (∀c,s'=.g c->∃i,s=.g i/\i+1<c/\x=y/\(wl x:Int)+16384*(i:Int)+32768<=16384*(c:Int)):=by
 have W:=H.len;have t:=kA hs [123];have E:=nB (ts:=ts) s [123];have X:=gz (ts:=ts) s [123];have IG:=okp t;obtain⟨F,n,y1,G,f2,u,I,Y,o,p,Z,J⟩:=Ob (e':=e') H (ts.length+1) (wS ts s [123]) a [] t E (λi hi=>⟨by omega,by omega,by simp⟩);have PS:=okp u
 obtain⟨s',K,L,v,g2,w,M,g5,g6,g7,g8,N⟩:=Oc (e':=e') H (ts.length+1) F (a++n) ([]++y1) u I (λi hi=>by
  rw[hi]at o p;have o:n.length+_<=i+1:=o;have p:y1.length+_<=i+1:=p;simp only[aOj,No];omega)
 have O:=okp w;rw[aOQ]at v;rw[aOB]at g2 f2;refine⟨s',n++K,y1++L,?_,?_,w,M,by omega,by rw[aOj];omega,λc h=>?_⟩
 ·refine aY (eh H _ hs [123]) ?_;refine aY G ?_;refine aY v ?_;rfl
 ·unfold jf;refine aY (fv H _ hs [123]) ?_;refine aY f2 ?_;refine aY g2 ?_;rfl
 ·obtain⟨k,r1,r2,P,r4⟩:=N c h;obtain⟨k1,Q,r6,R,r8⟩:=J k r1;obtain⟨S,T,U,_⟩:=fG Q;subst P;subst R;exact⟨S,T,by omega,rfl,by rw[iD];omega⟩
theorem aoW (H:Tk ts e) {i:Nat} (q:i<ts.length) (K:tw ts i [59]=false) (L D:List ae) (hl:D.length<=9000):∃s' n m,
  (cd (pS ts e (.g i)).fT (pS ts e (.g i)).fI (pS ts e (.g i)).ax (pS ts e (.g i)).aw L D=cd (pS ts e s').fT (pS ts e s').fI (pS ts e s').ax (pS ts e s').aw L (D++[n]))/\
  nC (qS ts e' (.g i))=some (m,qS ts e' s')/\Rs ts false 0 (.g i) s' n m:=by
 have hL:=H.len;have hs:(JS.g i).Ok ts:=aOT q;have hi:i<=ts.length:=aOT q
 obtain⟨r,W,X,Y⟩:∃r:Bool,(r=true->tw ts i [102,117,110,99,116,105,111,110]=true)/\
   (bq (pS ts e (.g i)) 0 3 [102,117,110,99,116,105,111,110]>>=λ(M,s)=>(if M=true then bq s 1 3 []>>=λ(Z,E)=>some (E.fT,E.fI,E.ax,E.aw,Z)else some (s.fT,s.fI,s.ax,s.aw,false)):Option ((List aj)×Int×Int×Int×Bool))=some ((pS ts e (.g i)).fT,(pS ts e (.g i)).fI,(pS ts e (.g i)).ax,(pS ts e (.g i)).aw,r)/\
   (aX (qS ts e' (.g i)) 0 [102,117,110,99,116,105,111,110]>>=λ(v9,d)=>(if v9=true then cR d 1>>=λ(qJ,F)=>some (F.ar,F.bA,F.ax,F.aw,(qJ.ah==3))else some (d.ar,d.bA,d.ax,d.aw,false)):Option ((List aj)×Int×Int×Bool×Bool))=some ((qS ts e' (.g i)).ar,(qS ts e' (.g i)).bA,(qS ts e' (.g i)).ax,(qS ts e' (.g i)).aw,r):=by
  cases hf:tw ts i [102,117,110,99,116,105,111,110]with
  | false=>
   refine⟨false,λh=>aSg,?_,?_⟩
   ·rw[dX H _ hs 3 [102,117,110,99,116,105,111,110] aRL,sb];dsimp only;rw[a0n H aRL aRL,hf,mg aRL]
   ·rw[fM H _ hs,sb];dsimp only;rw[show tw ts (JS.g i).pos [102,117,110,99,116,105,111,110]=false from hf,mg aRL]
  | true=>
   refine⟨kd ts (i+1)==3,λ_=>rfl,?_,?_⟩
   ·rw[dX H _ hs 3 [102,117,110,99,116,105,111,110] aRL,sb];dsimp only;rw[a0n H aRL aRL,hf,An rfl,aBn H _ hs 3 [] aRL,sb];dsimp only
    rw[show aS ts (.g i) 1 3 []=(kd ts (i+1)==3) by
     show(kd ts (i+1)==3&&(([]:aE)==([]:aE)||_))=_;rw[show(([]:aE)==([]:aE))=true from rfl,aPa,aOK]]
   ·rw[fM H _ hs,sb];dsimp only;rw[show tw ts (JS.g i).pos [102,117,110,99,116,105,111,110]=true from hf,An rfl,aoX H _ hs,sb];rfl
 have a:=nC.eq_1 (qS ts e' (.g i));rw[Y,sb]at a;dsimp only at a;have S0:=cd.eq_1 (pS ts e (.g i)).fT (pS ts e (.g i)).fI (pS ts e (.g i)).ax (pS ts e (.g i)).aw L D;have wK:(pS ts e (.g i)).fI<((pS ts e (.g i)).fT.length:Int):=by show(i:Int)<(ts.length:Int);omega
 rw[An (of_eq_true kq),An wK,jo,ay (w:=[59]) H hs K,sb]at S0;dsimp only at S0;rw[mg aRL,X,sb]at S0;dsimp only at S0;cases r with
 | true=>
  rw[An rfl,rf H hi]at a;rw[An rfl,se H hi]at S0;have f:(JS.g (i+1)).Ok ts:=q;have o:=sd f (k:=3) aRL;have u:=uD (ts:=ts) (.g (i+1)) 3;have R:=js H (.g (i+1)) 3;have j:=mQ (ts:=ts) (.g (i+1)) 3;have j:i+1<=(nS ts (.g (i+1)) 3).pos:=j;obtain⟨s',l,m,b,b',⟨s5,N,g2,O,g4⟩,r1,r2,r3,r4,r5,r6⟩:=Uj (e':=e') H _ o u;rw[oV H _ f rfl 3 (.inr rfl),sb]at a;dsimp only at a;rw[O,sb]at a;dsimp only at a;rw[g4,sb]at a;dsimp only at a;rw[fN _ aRK,sb]at a;refine⟨s',.mk 49 0 (nT ts (.g (i+1)) 3) (l++[b]),_,?_,a,Rs.node aRL r1 r2 aRK (λp h'=>?_)⟩
  ·rw[S0,pE H _ f 3,sb];dsimp only;rw[N,sb];dsimp only;rw[g2,sb];dsimp only;rw[fN _ aRK,sb,fN _ aRK,sb]
  ·obtain⟨k,q1,q2,q3,q4,q5⟩:=r6 p h';obtain⟨k1,q6,q7,_⟩:=mi q1;cases q6;subst q3;subst q4;exact⟨by omega,rfl,rfl,by omega⟩
 | false=>
  rw[mg aRL,dD]at a;rw[mg aRL,jo]at S0;cases hc:tw ts i [99,108,97,115,115]with
  | true=>
   have f:(JS.g (i+1)).Ok ts:=q;rw[bH H hc,sb]at a;rw[cy H hc,sb]at S0;dsimp only at S0 a;rw[An rfl]at S0;rw[An rfl,oV H _ f rfl 3 (.inr rfl),sb]at a;dsimp only at a;have o:=sd f (k:=3) aRL;have u:=uD (ts:=ts) (.g (i+1)) 3;have R:=js H (.g (i+1)) 3;have j:=mQ (ts:=ts) (.g (i+1)) 3;have j:i+1<=(nS ts (.g (i+1)) 3).pos:=j
   have G:∀k,nS ts (.g (i+1)) 3=.g k->k=i+2:=λk hk=>by
    obtain⟨S,q3,q4,_⟩:=mi hk;cases q3;omega
   have c:=mC.eq_1 (pS ts e (.g (i+1))) 50;rw[pE H _ f 3,sb]at c;dsimp only at c;rw[An rfl]at c;generalize nT ts (.g (i+1)) 3=t at*;generalize nS ts (.g (i+1)) 3=I at*;rcases Lb (ts:=ts) I [101,120,116,101,110,100,115]with h | ⟨i2,rfl,h⟩
   ·rw[ay (w:=[101,120,116,101,110,100,115]) H o h,sb]at c;dsimp only at c;rw[mg aRL,sb]at c;dsimp only at c;rw[jo]at c;obtain⟨s',x,y,v,f2,z,A,T,U,B⟩:=Lc (e':=e') H I o u [] aRN 50 t;rw[v]at c;rw[au (w:=[101,120,116,101,110,100,115]) H o h,sb]at a;dsimp only at a;rw[mg aRL,f2,sb]at a;dsimp only at a;rw[show must (y.length*56<=140737488355328)=some ()from An aRK,sb]at a;refine⟨s',.mk 50 0 t ([]++x),_,?_,a,Rs.node aRL z A aRK (λp h'=>?_)⟩
    ·rw[S0,c,sb];dsimp only;rw[fN _ aRK,sb]
    ·obtain⟨k,q1,q2,q3,q4⟩:=B p h';have:=G k q1;subst q3;exact⟨by omega,rfl,rfl,by rw[aOB];omega⟩
   ·have:=G i2 rfl;subst this;have P:(JS.g (i+2+1)).Ok ts:=ca h;have o4:=sd P (k:=3) aRL;have d4:=uD (ts:=ts) (.g (i+2+1)) 3;have t4:=js H (.g (i+2+1)) 3;have V:=mQ (ts:=ts) (.g (i+2+1)) 3;have V:i+2+1<=(nS ts (.g (i+2+1)) 3).pos:=V;rw[cy H h,sb]at c;dsimp only at c;rw[An rfl,pE H _ P 3,sb]at c;dsimp only at c;rw[show must (1*56<=140737488355328)=some ()from rfl,sb,sb]at c;dsimp only at c;rw[jo]at c;rw[bH H h,sb]at a;dsimp only at a;rw[An rfl,oV H _ P rfl 3 (.inr rfl),sb]at a;dsimp only at a;rw[show must (1*56<=140737488355328)=some ()from rfl,sb]at a
    have Q:∀k,nS ts (.g (i+2+1)) 3=.g k->k=i+4:=λk hk=>by
     obtain⟨S,q3,q4,_⟩:=mi hk;cases q3;omega
    generalize nT ts (.g (i+2+1)) 3=C at*;generalize nS ts (.g (i+2+1)) 3=s4 at*;obtain⟨s',x,y,v,f2,z,A,T,U,B⟩:=Lc (e':=e') H s4 o4 d4 [.mk 52 0 C []] aRN 50 t;rw[v]at c;rw[f2,sb]at a;dsimp only at a;rw[kK aRU,sb]at a;refine⟨s',.mk 50 0 t ([.mk 52 0 C []]++x),_,?_,a,Rs.node aRL z A aRK (λp h'=>?_)⟩
    ·rw[S0,c,sb];dsimp only;rw[fN _ aRK,sb]
    ·obtain⟨k,q1,q2,q3,q4⟩:=B p h';have:=Q k q1;subst q3;exact⟨by omega,rfl,rfl,by rw[iD,c6,jm,gV];omega⟩
  | false=>
   rw[au (w:=[99,108,97,115,115]) H hs hc,sb]at a;dsimp only at a;rw[mg aRL]at a;rw[ay (w:=[99,108,97,115,115]) H hs hc,sb]at S0;dsimp only at S0;rw[mg aRL]at S0;cases J:tw ts i [116,114,97,105,116]with
   | true=>
    have f:(JS.g (i+1)).Ok ts:=q;rw[bH H J,sb]at a;dsimp only at a;rw[An rfl,oV H _ f rfl 3 (.inr rfl),sb]at a;dsimp only at a;rw[cy H J,sb]at S0;dsimp only at S0;rw[An rfl]at S0;have o:=sd f (k:=3) aRL;have u:=uD (ts:=ts) (.g (i+1)) 3;have R:=js H (.g (i+1)) 3;have j:=mQ (ts:=ts) (.g (i+1)) 3;have j:i+1<=(nS ts (.g (i+1)) 3).pos:=j
    have G:∀k,nS ts (.g (i+1)) 3=.g k->k=i+2:=λk hk=>by
     obtain⟨S,q3,q4,_⟩:=mi hk;cases q3;omega
    have c:=mC.eq_1 (pS ts e (.g (i+1))) 51;rw[pE H _ f 3,sb]at c;dsimp only at c;rw[mg aRL,sb]at c;dsimp only at c;rw[jo]at c;generalize nT ts (.g (i+1)) 3=t at*;generalize nS ts (.g (i+1)) 3=I at*;obtain⟨s',x,y,v,f2,z,A,T,U,B⟩:=Lc (e':=e') H I o u [] aRN 51 t;rw[v]at c;rw[f2,sb]at a;refine⟨s',.mk 51 0 t ([]++x),_,?_,a,Rs.node aRL z A aRK (λp h'=>?_)⟩
    ·rw[S0,c,sb];dsimp only;rw[fN _ aRK,sb]
    ·obtain⟨k,q1,q2,q3,q4⟩:=B p h';have:=G k q1;subst q3;exact⟨by omega,rfl,rfl,by rw[aOB];omega⟩
   | false=>
    rw[au (w:=[116,114,97,105,116]) H hs J,sb]at a;dsimp only at a;rw[mg aRL]at a;rw[ay (w:=[116,114,97,105,116]) H hs J,sb]at S0;dsimp only at S0;rw[mg aRL]at S0;obtain⟨s',n,m,N,g2,O⟩:=(akH (e':=e') H (.g i) hs rfl).stmt;rw[g2,sb]at a;refine⟨s',n,m,?_,a,O⟩;rw[S0,N,sb];dsimp only;rw[fN _ aRK,sb]
theorem xu (H:Tk ts e):∀(N:Nat) (s:JS) (c f l m:List ae),s.Ok ts->s.nd=true->(∀i,s=.g i->ts.length - i<N/\l.length<=i/\l=m/\(wl l:Int)<=16384*(i:Int))->
  ∃s' x y,cd (pS ts e s).fT (pS ts e s).fI (pS ts e s).ax (pS ts e s).aw c l=some ((pS ts e s').fT,(pS ts e s').fI,(pS ts e s').ax,(pS ts e s').aw,c,x)/\
   dS ts f (qS ts e' s).ar (qS ts e' s).bA (qS ts e' s).ax (qS ts e' s).aw m=some (f,(qS ts e' s').ar,(qS ts e' s').bA,(qS ts e' s').ax,(qS ts e' s').aw,y)/\
   s'.Ok ts/\s'.nd=true/\(∀p,s'=.g p->x=y/\(wl x:Int)<=16384*(p:Int))
 | N,.d j,_,_,_,_,_,hd,_=>by cases hd
 | N,.b j,c,f,l,m,hs,_,_=>by
  refine⟨.b j,l,m,?_,?_,hs,rfl,λp h=>by cases h⟩
  ·rw[cd];simp only[qQ H,aOn]
  ·rw[dS];simp only[jr,aOw]
 | 0,.g i,_,_,_,_,_,_,h=>by have:=(h i rfl).1;omega
 | N+1,.g i,c,f,l,m,hs,_,t=>by
  have B:=H.len;obtain⟨t,C,rfl,hw⟩:=t i rfl;have hi:i<=ts.length:=hs;by_cases u:i<ts.length
  ·have z:(pS ts e (.g i)).fI<((pS ts e (.g i)).fT.length:Int):=by show(i:Int)<(ts.length:Int);omega
   have r:(qS ts e' (.g i)).bA<(ts.length:Int):=by show(i:Int)<(ts.length:Int);omega
   have o:=dS.eq_1 ts f (qS ts e' (.g i)).ar (qS ts e' (.g i)).bA (qS ts e' (.g i)).ax (qS ts e' (.g i)).aw l;simp only[jt,aOn,An r,dD]at o;cases a:tw ts i [59]with
   | true=>
    have S0:=cd.eq_1 (pS ts e (.g i)).fT (pS ts e (.g i)).fI (pS ts e (.g i)).ax (pS ts e (.g i)).aw c l;simp only[kq,aOw,An z,jo,cy H a,sb]at S0;simp only[bH H a,sb,aOw]at o;rw[S0,o];exact xu H N (.g (i+1)) c f l l u rfl (λk hk=>by cases hk;exact⟨by omega,by omega,rfl,by omega⟩)
   | false=>
    obtain⟨s',n,v,A,g2,q⟩:=aoW (e':=e') H u a c l aRK;simp only[au (w:=[59]) H hs a,sb,aOi,aOn,g2,fN v (show l.length<=20000 by omega)]at o;rw[A,o];refine xu H N s' c f (l++[n]) (l++[v]) q.ok q.nd0 (λk hk=>?_);obtain⟨D,q1,q2,q3,q4,_⟩:=q.good k hk;cases q1;have E:k<=ts.length:=by have:=q.ok;rw[hk]at this;exact this
    subst q3;refine⟨by omega,by simp only[aOj,At,No];omega,rfl,?_⟩;rw[iD,c6];omega
  ·obtain rfl:i=ts.length:=by omega
   refine⟨.g ts.length,l,l,?_,?_,hs,rfl,λp h=>by cases h;exact⟨rfl,hw⟩⟩
   ·rw[cd];simp only[kq,aOw];rw[mg (show ¬(pS ts e (.g ts.length)).fI<((pS ts e (.g ts.length)).fT.length:Int) fromλh=>by have h:(ts.length:Int)<(ts.length:Int):=h;omega)]
   ·rw[dS];simp only[jt,aOn];rw[mg (show ¬(qS ts e' (.g ts.length)).bA<(ts.length:Int) fromλh=>by have h:(ts.length:Int)<(ts.length:Int):=h;omega)]
end
set_option maxRecDepth 100000
theorem Cu (s:aE) (hs:s.length<=1048576):∃(n:ae) (k p:Int),k8 s=some (n,k,p)/\ld s=some (n,k,p)/\wt n<=134217728:=by
 unfold k8 ld;obtain⟨ts,k,p,l,m,o⟩:=acZ s;rw[l,m,sb,sb];dsimp only;by_cases hk:k=0
 ·obtain⟨hp,q⟩:=o hk;have H:Tk ts (s.length:Int):=q _ aRK;have A:=H.len;rw[An hk,An hk];obtain⟨s',x,y,c,e,ok,nd,good⟩:=xu (e':=(s.length:Int)) H (ts.length+1) (.g 0) [] [] [] [] (aPF _) rfl (λi hi=>by cases hi;exact⟨by omega,by simp,rfl,by rw[gV];simp⟩);replace c:cd ts 0 (s.length:Int) (-1) [] []=_:=c;replace e:dS ts [] ts 0 (s.length:Int) false []=_:=e
  have q1:ny (aH.mk ts 0 (s.length:Int) (-1))=some (ae.mk 56 0 [] x,pS ts (s.length:Int) s'):=by
   unfold ny;dsimp only;rw[c,sb]
  rw[q1,e,sb,sb];dsimp only;cases s' with
  | d j=>cases nd
  | g i=>
   obtain⟨f,hw⟩:=good i rfl;subst f;have hi:i<=ts.length:=ok;have a:wt (ae.mk 56 0 [] x)<=134217728:=by rw[jm];simp only[No];omega
   obtain⟨r,t⟩:=C3 _ a;show ∃u v w,(if(-1:Int)>=0 then _ else _)=_/\(if false=true then _ else _)=_/\_;rw[mg (show ¬((-1:Int)>=0) by decide),mg (show ¬(false=true) by decide),r,t,sb,sb];cases vZ (ae.mk 56 0 [] x)
   ·exact aRH
   ·rw[An rfl,An rfl,Uk (wt (ae.mk 56 0 [] x)+1) _ aRK aRK,sb];exact⟨_,_,_,rfl,rfl,a⟩
  | b j=>
   have h0:=aoZ H j;have hj:j<=ts.length:=ok;show ∃u v w,(if pl ts (s.length:Int) j>=0 then some (ae.mk 0 0 [] [],(10:Int),pl ts (s.length:Int) j)else _)=_/\(if true=true then _ else _)=_/\_;rw[An h0,An rfl]
   have z:kY (ao.mk (qS ts (s.length:Int) (.b j)).ar (qS ts (s.length:Int) (.b j)).bA (qS ts (s.length:Int) (.b j)).ax (qS ts (s.length:Int) (.b j)).aw)=some (pl ts (s.length:Int) j,qS ts (s.length:Int) (.b j)):=by
    unfold kY;show(if(j:Int)<(ts.length:Int)then _ else _)=_;unfold pl;by_cases h:j<ts.length
    ·rw[An aRK,An h];show(idx ts (j:Int)>>=_)=_;rw[iR h,sb]
    ·rw[mg aRK,mg h];rfl
   rw[z,sb];exact aRH
 ·rw[mg hk,mg hk];exact aRH
set_option maxRecDepth 100000
theorem Wt (p s:aE) (hs:s.length<=1048576):∃(u:fF) (c:Int),oM p s=some (u,c)/\mE p s=some (u,c)/\wt u.bO<=134217728:=by
 obtain⟨n,k,q,a,e2,hw⟩:=Cu s hs;unfold oM mE;rw[a,e2,sb,sb];dsimp only;by_cases hk:k=0
 ·obtain⟨c,c1,c2,_⟩:=Sd n hw;rw[An hk,An hk,c1,c2,sb];by_cases hc:c=0
  ·rw[An hc];exact⟨_,_,rfl,rfl,hw⟩
  ·rw[mg hc];exact⟨_,_,rfl,rfl,by simp [wt,Ld]⟩
 ·rw[mg hk,mg hk];exact⟨_,_,rfl,rfl,by simp [wt,Ld]⟩
theorem unit_eq (u:fF) (hw:wt u.bO<=134217728):nN u (fF.mk u.n7 (ae.mk u.bO.ah u.bO.aF u.bO.ak u.bO.af))=some true:=by
 unfold nN;dsimp only;rw[An rfl,Le,akI (wt u.bO+1) _ aRK aRK,sb,An rfl]
theorem aKA (p s:aE):j7 p s=some true:=by
 unfold j7;by_cases h1:(p.length:Int)>1048576
 ·rw[An h1]
 by_cases h2:(s.length:Int)>1048576
 ·rw[mg h1,An h2]
 obtain⟨u,c,a,e2,hw⟩:=Wt p s aRK;obtain⟨k,m,k1,b⟩:=aBo u.bO aRK;have q:=unit_eq u hw
 have mk:oP u 1=some ((k:Int),fF.mk u.n7 (ae.mk u.bO.ah u.bO.aF u.bO.ak m.af)):=by
  unfold oP;rw[k1,sb]
 have hd:mF (fF.mk u.n7 (ae.mk u.bO.ah u.bO.aF u.bO.ak m.af)) 1=some (k:Int):=by
  unfold mF;dsimp only;rw[b,sb,mg aRK]
 have E:∀(A:Option (Unit ⊕ Bool)) (B:Option Bool),A=some (.inl ())->(A>>=λo=>match o with | .inr r=>some r | .inl _=>B)=B:=λA B h=>by rw[h];rfl
 rw[mg h1,mg h2,a,sb,sb];dsimp only;rw[e2,sb];dsimp only;rw[q,sb,An rfl,An rfl];refine(E _ _ rfl).trans ?_;rw[mk,sb];dsimp only[ae.kg];rw[hd,sb,mg (show ¬((k:Int)<0) by omega)];refine(E _ _ rfl).trans ?_;have Q:∀(A:Bool->Option (Unit ⊕ Bool)),A true=some (.inl ())->((nN u (fF.mk u.n7 (ae.mk u.bO.ah u.bO.aF u.bO.ak u.bO.af))>>=A):Option (Unit ⊕ Bool))=some (.inl ()):=λA h=>by rw[q];exact h
 rw[An rfl,sb];refine(E _ _ (Q _ ?_)).trans ?_
 ·rw[An rfl,An rfl]
 rw[sb,mg (show ¬((k:Int)<0) by omega),An rfl]
theorem M4 (p s:aE):ACall Tryz.prog 3 [.str p,.str s] [] (λres _=>res=.bool true):=(xh (aKA p s)).mono (λ_ _ h=>h.1)
end Go.Am
