/- Texts of the proof, joined and shortened. -/
import Derived.Test.YtiigfbapjeefbaaGreatDoorPk12
set_option linter.unusedVariables false
set_option linter.unusedSimpArgs false
set_option maxRecDepth 100000
set_option maxHeartbeats 400000
namespace Go.Am
open Go Go.RowKit Go.Proofs
section
variable {ts:List ai}{e e':Int}
theorem st0 {i:Nat} {k:Int} {s:JS} (b:k≠7) (h:s.Ok ts) (hd:s.nd=true) (hle:i<=s.pos) (hg:∀a,s=.g a->i+1<a):Rs ts false 0 (.g i) s (.mk k 0 [] []) (.mk k 0 [] []):=
 Rs.node b h hd hle (λa h'=>⟨hg a h',rfl,rfl,by have:=hg a h';rw[ep];simp only[An];omega⟩)
theorem st1 {i a D:Nat} {v:Bool} {k:Int} {s:JS} {n m:ae} (b:k≠7) (h:Rs ts v D (.g a) s n m) (hi:i<=a) (c:av):Rs ts false 0 (.g i) (wS ts s c) (.mk k 0 [] [n]) (.mk k 0 [] [m]):=
 Rs.node b (kE h.ok _) (mH _ _) (by have:=gq (ts:=ts) s c;have q:a<=s.pos:=h.le;omega) (λf h'=>by
  obtain⟨k1,q1,j,_⟩:=ft h';obtain⟨k2,d,l,e,o,_⟩:=h.good k1 q1;cases d;subst e;refine⟨by omega,rfl,rfl,?_⟩;rw[cy];simp only[An];omega)
theorem pg (H:Tk ts e) {s s':JS} {m:ae} (k:Int) (h:bb (qS ts e' s)=some (m,qS ts e' s')) (ok:s'.Ok ts):dU (qS ts e' s) k=some (.mk k 0 [] [m],qS ts e' (wS ts s' [59])):=by
 rw[dU];refine a7 h ?_;refine a7 (eY H _ ok [59]) ?_;rfl
theorem ac0 (H:Tk ts e) {i:Nat} (hi:i<=ts.length):bE (qS ts e' (.g i)) 5=if kd ts i=5 then some (tx ts i,qS ts e' (.g (i+1)))else some ([],qS ts e' (.b i)):=by
 have hs:(JS.g i).Ok ts:=hi;unfold bE;rw[qi H _ hs,sb];dsimp only;rw[As aVb];show(if kd ts i=5 then _ else _)=_;by_cases h:kd ts i=5
 ·rw[At h,At h,As aUF,As aUF,qv H hi];rfl
 ·rw[As h,As h];rfl
theorem aFx (H:Tk ts e) {i:Nat} (hi:i<=ts.length) {m:ae} (h1:aK (qS ts e' (.g i))=some (m,qS ts e' (.b i))) (f:tw ts i [33]=false) (h:tw ts i [45]=false):∃m,bb (qS ts e' (.g i))=some (m,qS ts e' (.b i)):=by
 have hs:(JS.g i).Ok ts:=hi;have c:(JS.b i).Ok ts:=hi
 have h2:cm (qS ts e' (.g i)) false=some (m,qS ts e' (.b i)):=by
  rw[cm];refine a7 h1 ?_;refine I9.run (x:=_) (.inr ?_);rw[aJ];simp only[jq,aRj]
 have j:cH (qS ts e' (.g i))=some (m,qS ts e' (.b i)):=by
  rw[cH];refine bm (aF (w:=[33]) H hs f) ?_;refine bm (aF (w:=[45]) H hs h) ?_;refine a7 h2 ?_;rfl
 have l:∀k a:Nat,a+k=11->bA (qS ts e' (.g i)) a=some (m,qS ts e' (.b i)):=by
  intro k;induction k with
  | zero=>
   intro a d;obtain rfl:a=11:=d;rw[bA,At aUF];refine a7 j ?_;rfl
  | succ k n=>
   intro a d;rw[bA,As aUE,ca aUE];refine a7 (n (a+1) aUE) ?_;refine I9.run (x:=_) (.inr ?_);rw[bP];simp only[jq,aRj]
 have o:dT (qS ts e' (.g i))=some (m,qS ts e' (.b i)):=by
  rw[dT];refine a7 (l 5 6 rfl) ?_;refine J9.run (x:=_) ?_;rw[cj,du];refine bm (aF (w:=[38,38]) H c rfl) ?_;rfl
 have p:ff (qS ts e' (.g i))=some (m,qS ts e' (.b i)):=by
  rw[ff];refine a7 o ?_;refine J9.run (x:=_) ?_;rw[cw,du];refine bm (aF (w:=[124,124]) H c rfl) ?_;rfl
 have q:cp (qS ts e' (.g i))=some (m,qS ts e' (.b i)):=by
  rw[cp];refine a7 p ?_;refine bm (aF (w:=[63,63]) H c rfl) ?_;rfl
 have r:dE (qS ts e' (.g i))=some (m,qS ts e' (.b i)):=by
  rw[dE];refine a7 q ?_;refine bm (aF (w:=[63]) H c rfl) ?_;rfl
 refine⟨m,?_⟩;rw[bb];refine a7 r ?_;refine nG (show(qS ts e' (.b i)).ax=true from rfl) ?_;rfl
theorem Q3 (H:Tk ts e) {i:Nat} (hi:i<=ts.length) (j:∀s,Lt ts i s->PC ts e e' s) (hw:tw ts i [119,104,105,108,101]=true):C1 ts e e' false 0 (.g i) bf aV:=by
 have hs:(JS.g i).Ok ts:=hi;have hL:=H.len;have p:=cd hw;obtain⟨k4,B,k2,k1⟩:=lB hw;have q:(JS.g (i+1)).Ok ts:=p;obtain⟨l,c,r,t,g2,d,f,m,n⟩:=M0 H j (.g (i+1)) q (aSd i);have m:i+1<=l.pos:=m
 have o:Lt ts i l:=⟨d,f,λk h=>by
  obtain⟨k1,q1,u,_⟩:=n k h;cases q1;omega⟩
 obtain⟨s2,b,v,w,f2,a⟩:=(j _ o).block;have C:=a.le;have l2:Lt ts i s2:=Lt.rs a (λk h=>aRL (o.lt k h));refine⟨s2,.mk 35 0 [] [c,b],.mk 35 0 [] [r,v],?_,?_,?_⟩
 ·rw[bf];refine bm ((dz H _ hs 1 [] aUF).trans aUH) ?_;refine bm ((dz H _ hs 6 [123] aUF).trans aUI) ?_;refine nE H hs hw [105,102] ?_;refine dC (ck H hw) ?_;refine a7 t ?_;refine a7 w ?_;rfl
 ·rw[aV];refine nL H hs ?_;refine cf qg ?_;refine cf (show ¬(tok ts i).ah=1 from k1) ?_;refine bm ((fF (e':=e') H (.g i) hs [123]).trans aUK) ?_;refine nI H hs hw [101,99,104,111] ?_;refine bm ((fF (e':=e') H (.g i) hs [105,102]).trans aUM) ?_;refine dC (bL H hw) ?_;refine a7 g2 ?_;refine a7 f2 ?_;rfl
 ·refine Rs.node aUF a.ok l2.nd aUE (λx h'=>?_);obtain⟨k,q1,u,y,D,_⟩:=a.good x h';obtain⟨k1,z,E,A,F⟩:=n k q1;cases z;subst y;subst A;refine⟨by omega,rfl,rfl,?_⟩;rw[gv,cy];simp only[An];omega
theorem agS (H:Tk ts e) {i:Nat} (hi:i<=ts.length) (a:∀s,Lt ts i s->PC ts e e' s) (hw:tw ts i [105,102]=true):C1 ts e e' false 0 (.g i) bf aV:=by
 have hs:(JS.g i).Ok ts:=hi;have hL:=H.len;have b:=cd hw;obtain⟨k4,f,k2,k1⟩:=lB hw;have h:(JS.g (i+1)).Ok ts:=b;obtain⟨s',n,m,c,g2,d⟩:=akP H a _ i (aRh _) (Of i) hw;refine⟨s',n,m,?_,?_,d⟩
 ·rw[bf];refine bm ((dz H _ hs 1 [] aUF).trans aUH) ?_;refine bm ((dz H _ hs 6 [123] aUF).trans aUI) ?_;refine dC (ck H hw) ?_;refine a7 c ?_;rfl
 ·rw[aV];refine nL H hs ?_;refine cf qg ?_;refine cf (show ¬(tok ts i).ah=1 from k1) ?_;refine bm ((fF (e':=e') H (.g i) hs [123]).trans aUK) ?_;refine nI H hs hw [101,99,104,111] ?_;refine dC ((fF (e':=e') H (.g i) hs [105,102]).trans (by rw[show tw ts (JS.g i).pos [105,102]=true from hw])) ?_;refine a7 g2 ?_;rfl
theorem JZ (H:Tk ts e) {i:Nat} (hi:i<=ts.length) (b:∀s,Lt ts i s->PC ts e e' s) (hw:tw ts i [102,111,114,101,97,99,104]=true):C1 ts e e' false 0 (.g i) bf aV:=by
 have hs:(JS.g i).Ok ts:=hi;have hL:=H.len;have a:=cd hw;obtain⟨k4,f,k2,k1⟩:=lB hw;have h:(JS.g (i+1)).Ok ts:=a;obtain⟨s',n,m,c,g2,d⟩:=Q2 H a b;refine⟨s',n,m,?_,?_,d⟩
 ·rw[bf];refine bm ((dz H _ hs 1 [] aUF).trans aUH) ?_;refine bm ((dz H _ hs 6 [123] aUF).trans aUI) ?_;refine Ll H hs hw [105,102] [119,104,105,108,101] ?_;refine dC (ck H hw) ?_;refine a7 c ?_;rfl
 ·rw[aV];refine nL H hs ?_;refine cf qg ?_;refine cf (show ¬(tok ts i).ah=1 from k1) ?_;refine bm ((fF (e':=e') H (.g i) hs [123]).trans aUK) ?_;refine nI H hs hw [101,99,104,111] ?_;refine bm ((fF (e':=e') H (.g i) hs [105,102]).trans aUM) ?_;refine nI H hs hw [119,104,105,108,101] ?_;refine dC (bL H hw) ?_;refine a7 g2 ?_;rfl
theorem ac1 (H:Tk ts e) {i:Nat} (hi:i<=ts.length) (b:∀s,Lt ts i s->PC ts e e' s) (hw:tw ts i [116,114,121]=true):C1 ts e e' false 0 (.g i) bf aV:=by
 have hs:(JS.g i).Ok ts:=hi;have hL:=H.len;have a:=cd hw;obtain⟨k4,f,k2,k1⟩:=lB hw;have h:(JS.g (i+1)).Ok ts:=a;obtain⟨s',n,m,c,g2,d⟩:=asd H a b;refine⟨s',n,m,?_,?_,d⟩
 ·rw[bf];refine bm ((dz H _ hs 1 [] aUF).trans aUH) ?_;refine bm ((dz H _ hs 6 [123] aUF).trans aUI) ?_;refine Ll H hs hw [105,102] [119,104,105,108,101] ?_;refine nE H hs hw [102,111,114,101,97,99,104] ?_;refine dC (ck H hw) ?_;refine a7 c ?_;rfl
 ·rw[aV];refine nL H hs ?_;refine cf qg ?_;refine cf (show ¬(tok ts i).ah=1 from k1) ?_;refine bm ((fF (e':=e') H (.g i) hs [123]).trans aUK) ?_;refine nI H hs hw [101,99,104,111] ?_;refine bm ((fF (e':=e') H (.g i) hs [105,102]).trans aUM) ?_;refine Vv H hs hw [119,104,105,108,101] [102,111,114,101,97,99,104] [98,114,101,97,107] [99,111,110,116,105,110,117,101] ?_;refine Vv H hs hw [114,101,116,117,114,110] [103,108,111,98,97,108] [117,110,115,101,116] [116,104,114,111,119] ?_;refine dC (bL H hw) ?_;refine a7 g2 ?_;rfl
theorem Vb (H:Tk ts e) {i:Nat} (hi:i<=ts.length) (c:∀s,Lt ts i s->PC ts e e' s) (hw:tw ts i [101,99,104,111]=true):C1 ts e e' false 0 (.g i) bf aV:=by
 have hs:(JS.g i).Ok ts:=hi;have hL:=H.len;have b:=cd hw;obtain⟨k4,h,k2,k1⟩:=lB hw;have j:(JS.g (i+1)).Ok ts:=b;obtain⟨d,n,m,f,g2,a⟩:=(c _ (Lt.g (aRh i) b)).expr;refine⟨wS ts d [59],.mk 32 0 [] [n],.mk 32 0 [] [m],?_,?_,?_⟩
 ·rw[bf];refine bm ((dz H _ hs 1 [] aUF).trans aUH) ?_;refine bm ((dz H _ hs 6 [123] aUF).trans aUI) ?_;refine B4 H hs hw [105,102] [119,104,105,108,101] [102,111,114,101,97,99,104] [116,114,121] ?_;refine dC (ck H hw) ?_;refine a7 f ?_;refine a7 (dW H _ a.ok [59]) ?_;rfl
 ·rw[aV];refine nL H hs ?_;refine cf qg ?_;refine cf (show ¬(tok ts i).ah=1 from k1) ?_;refine bm ((fF (e':=e') H (.g i) hs [123]).trans aUK) ?_;refine dC (bL H hw) ?_;refine a7 (pg H 32 g2 a.ok) ?_;rfl
 ·exact st1 aUF a (aSd i) [59]
theorem Q4 (H:Tk ts e) {i:Nat} (hi:i<=ts.length) (c:∀s,Lt ts i s->PC ts e e' s) (hw:tw ts i [116,104,114,111,119]=true):C1 ts e e' false 0 (.g i) bf aV:=by
 have hs:(JS.g i).Ok ts:=hi;have hL:=H.len;have b:=cd hw;obtain⟨k4,h,k2,k1⟩:=lB hw;have j:(JS.g (i+1)).Ok ts:=b;obtain⟨d,n,m,f,g2,a⟩:=(c _ (Lt.g (aRh i) b)).expr;refine⟨wS ts d [59],.mk 42 0 [] [n],.mk 42 0 [] [m],?_,?_,?_⟩
 ·rw[bf];refine bm ((dz H _ hs 1 [] aUF).trans aUH) ?_;refine bm ((dz H _ hs 6 [123] aUF).trans aUI) ?_;refine B4 H hs hw [105,102] [119,104,105,108,101] [102,111,114,101,97,99,104] [116,114,121] ?_;refine B4 H hs hw [101,99,104,111] [98,114,101,97,107] [99,111,110,116,105,110,117,101] [114,101,116,117,114,110] ?_;refine Ll H hs hw [103,108,111,98,97,108] [117,110,115,101,116] ?_;refine dC (ck H hw) ?_;refine a7 f ?_;refine a7 (dW H _ a.ok [59]) ?_;rfl
 ·rw[aV];refine nL H hs ?_;refine cf qg ?_;refine cf (show ¬(tok ts i).ah=1 from k1) ?_;refine bm ((fF (e':=e') H (.g i) hs [123]).trans aUK) ?_;refine nI H hs hw [101,99,104,111] ?_;refine bm ((fF (e':=e') H (.g i) hs [105,102]).trans aUM) ?_;refine Vv H hs hw [119,104,105,108,101] [102,111,114,101,97,99,104] [98,114,101,97,107] [99,111,110,116,105,110,117,101] ?_;refine TY H hs hw [114,101,116,117,114,110] [103,108,111,98,97,108] ?_;refine nI H hs hw [117,110,115,101,116] ?_;refine dC (bL H hw) ?_;refine a7 (pg H 42 g2 a.ok) ?_;rfl
 ·exact st1 aUF a (aSd i) [59]
theorem Q6 (H:Tk ts e) {i:Nat} (hi:i<=ts.length) (c:∀s,Lt ts i s->PC ts e e' s) (hw:tw ts i [121,105,101,108,100]=true):C1 ts e e' false 0 (.g i) bf aV:=by
 have hs:(JS.g i).Ok ts:=hi;have hL:=H.len;have b:=cd hw;obtain⟨k4,h,k2,k1⟩:=lB hw;have j:(JS.g (i+1)).Ok ts:=b;obtain⟨d,n,m,f,g2,a⟩:=(c _ (Lt.g (aRh i) b)).expr;refine⟨wS ts d [59],.mk 46 0 [] [n],.mk 46 0 [] [m],?_,?_,?_⟩
 ·rw[bf];refine bm ((dz H _ hs 1 [] aUF).trans aUH) ?_;refine bm ((dz H _ hs 6 [123] aUF).trans aUI) ?_;refine B4 H hs hw [105,102] [119,104,105,108,101] [102,111,114,101,97,99,104] [116,114,121] ?_;refine B4 H hs hw [101,99,104,111] [98,114,101,97,107] [99,111,110,116,105,110,117,101] [114,101,116,117,114,110] ?_;refine Ll H hs hw [103,108,111,98,97,108] [117,110,115,101,116] ?_;refine nE H hs hw [116,104,114,111,119] ?_;refine dC (ck H hw) ?_;refine a7 f ?_;refine a7 (dW H _ a.ok [59]) ?_;rfl
 ·rw[aV];refine nL H hs ?_;refine cf qg ?_;refine cf (show ¬(tok ts i).ah=1 from k1) ?_;refine bm ((fF (e':=e') H (.g i) hs [123]).trans aUK) ?_;refine nI H hs hw [101,99,104,111] ?_;refine bm ((fF (e':=e') H (.g i) hs [105,102]).trans aUM) ?_;refine Vv H hs hw [119,104,105,108,101] [102,111,114,101,97,99,104] [98,114,101,97,107] [99,111,110,116,105,110,117,101] ?_;refine Vv H hs hw [114,101,116,117,114,110] [103,108,111,98,97,108] [117,110,115,101,116] [116,104,114,111,119] ?_;refine nI H hs hw [116,114,121] ?_;refine dC (bL H hw) ?_;refine a7 (pg H 46 g2 a.ok) ?_;rfl
 ·exact st1 aUF a (aSd i) [59]
theorem Q7 (H:Tk ts e) {i:Nat} (hi:i<=ts.length) (c:∀s,Lt ts i s->PC ts e e' s) (hw:tw ts i [98,114,101,97,107]=true):C1 ts e e' false 0 (.g i) bf aV:=by
 have hs:(JS.g i).Ok ts:=hi;have hL:=H.len;have b:=cd hw;obtain⟨k4,d,k2,k1⟩:=lB hw;have a:(JS.g (i+1)).Ok ts:=b;refine⟨wS ts (.g (i+1)) [59],.mk 37 0 [] [],.mk 37 0 [] [],?_,?_,?_⟩
 ·rw[bf];refine bm ((dz H _ hs 1 [] aUF).trans aUH) ?_;refine bm ((dz H _ hs 6 [123] aUF).trans aUI) ?_;refine B4 H hs hw [105,102] [119,104,105,108,101] [102,111,114,101,97,99,104] [116,114,121] ?_;refine nE H hs hw [101,99,104,111] ?_;refine dC (ck H hw) ?_;refine a7 (dW H _ a [59]) ?_;rfl
 ·rw[aV];refine nL H hs ?_;refine cf qg ?_;refine cf (show ¬(tok ts i).ah=1 from k1) ?_;refine bm ((fF (e':=e') H (.g i) hs [123]).trans aUK) ?_;refine nI H hs hw [101,99,104,111] ?_;refine bm ((fF (e':=e') H (.g i) hs [105,102]).trans aUM) ?_;refine TY H hs hw [119,104,105,108,101] [102,111,114,101,97,99,104] ?_;refine dC (bL H hw) ?_;refine a7 (eY H _ a [59]) ?_;rfl
 ·have p:=@gq ts (.g (i+1)) [59];have p:i+1<=(wS ts (.g (i+1)) [59]).pos:=p;exact st0 aUF (kE a _) (mH _ _) aUE (λf h'=>by obtain⟨k,q1,h,_⟩:=ft h';cases q1;omega)
theorem GH (H:Tk ts e) {i:Nat} (hi:i<=ts.length) (c:∀s,Lt ts i s->PC ts e e' s) (hw:tw ts i [99,111,110,116,105,110,117,101]=true):C1 ts e e' false 0 (.g i) bf aV:=by
 have hs:(JS.g i).Ok ts:=hi;have hL:=H.len;have b:=cd hw;obtain⟨k4,d,k2,k1⟩:=lB hw;have a:(JS.g (i+1)).Ok ts:=b;refine⟨wS ts (.g (i+1)) [59],.mk 38 0 [] [],.mk 38 0 [] [],?_,?_,?_⟩
 ·rw[bf];refine bm ((dz H _ hs 1 [] aUF).trans aUH) ?_;refine bm ((dz H _ hs 6 [123] aUF).trans aUI) ?_;refine B4 H hs hw [105,102] [119,104,105,108,101] [102,111,114,101,97,99,104] [116,114,121] ?_;refine Ll H hs hw [101,99,104,111] [98,114,101,97,107] ?_;refine dC (ck H hw) ?_;refine a7 (dW H _ a [59]) ?_;rfl
 ·rw[aV];refine nL H hs ?_;refine cf qg ?_;refine cf (show ¬(tok ts i).ah=1 from k1) ?_;refine bm ((fF (e':=e') H (.g i) hs [123]).trans aUK) ?_;refine nI H hs hw [101,99,104,111] ?_;refine bm ((fF (e':=e') H (.g i) hs [105,102]).trans aUM) ?_;refine TY H hs hw [119,104,105,108,101] [102,111,114,101,97,99,104] ?_;refine nI H hs hw [98,114,101,97,107] ?_;refine dC (bL H hw) ?_;refine a7 (eY H _ a [59]) ?_;rfl
 ·have p:=@gq ts (.g (i+1)) [59];have p:i+1<=(wS ts (.g (i+1)) [59]).pos:=p;exact st0 aUF (kE a _) (mH _ _) aUE (λf h'=>by obtain⟨k,q1,h,_⟩:=ft h';cases q1;omega)
theorem M1 (H:Tk ts e) {i:Nat} (hi:i<=ts.length) (h:∀s,Lt ts i s->PC ts e e' s) (hw:tw ts i [103,108,111,98,97,108]=true):C1 ts e e' false 0 (.g i) bf aV:=by
 have hs:(JS.g i).Ok ts:=hi;have hL:=H.len;have d:=cd hw;obtain⟨k4,j,k2,k1⟩:=lB hw;have a:(JS.g (i+1)).Ok ts:=d;have b:=qY a (k:=2) aUF;have c:=@my ts (.g (i+1)) 2;have c:i+1<=(nS ts (.g (i+1)) 2).pos:=c;have l:=gq (ts:=ts) (nS ts (.g (i+1)) 2) [59];have hx:=jr H (.g (i+1)) 2;refine⟨wS ts (nS ts (.g (i+1)) 2) [59],.mk 40 0 (nT ts (.g (i+1)) 2) [],.mk 40 0 (nT ts (.g (i+1)) 2) [],?_,?_,?_⟩
 ·rw[bf];refine bm ((dz H _ hs 1 [] aUF).trans aUH) ?_;refine bm ((dz H _ hs 6 [123] aUF).trans aUI) ?_;refine B4 H hs hw [105,102] [119,104,105,108,101] [102,111,114,101,97,99,104] [116,114,121] ?_;refine B4 H hs hw [101,99,104,111] [98,114,101,97,107] [99,111,110,116,105,110,117,101] [114,101,116,117,114,110] ?_;refine dC (ck H hw) ?_;refine a7 (nu H _ a 2) ?_;refine a7 (dW H _ b [59]) ?_;rfl
 ·rw[aV];refine nL H hs ?_;refine cf qg ?_;refine cf (show ¬(tok ts i).ah=1 from k1) ?_;refine bm ((fF (e':=e') H (.g i) hs [123]).trans aUK) ?_;refine nI H hs hw [101,99,104,111] ?_;refine bm ((fF (e':=e') H (.g i) hs [105,102]).trans aUM) ?_;refine Vv H hs hw [119,104,105,108,101] [102,111,114,101,97,99,104] [98,114,101,97,107] [99,111,110,116,105,110,117,101] ?_;refine nI H hs hw [114,101,116,117,114,110] ?_;refine dC (bL H hw) ?_;refine a7 (nM H _ a rfl 2 (.inl rfl)) ?_;refine a7 (eY H _ b [59]) ?_;rfl
 ·refine Rs.node aUF (kE b _) (mH _ _) aUE (λm h'=>?_);obtain⟨k,q1,n,_⟩:=ft h';obtain⟨k1,f,o,_⟩:=lM q1;cases f;exact⟨by omega,rfl,rfl,by rw[ep];omega⟩
theorem M3 (H:Tk ts e) {i:Nat} (hi:i<=ts.length) (f:∀s,Lt ts i s->PC ts e e' s) (hw:tw ts i [114,101,116,117,114,110]=true):C1 ts e e' false 0 (.g i) bf aV:=by
 have hs:(JS.g i).Ok ts:=hi;have hL:=H.len;have c:=cd hw;obtain⟨k4,l,k2,k1⟩:=lB hw;have d:(JS.g (i+1)).Ok ts:=c;have a:bp (pS ts e (.g (i+1))) 0 6 [59]=some (tw ts (i+1) [59],pS ts e (.g (i+1))):=(dz H _ d 6 [59] aUF).trans (by rw[show aS ts (.g (i+1)) 0 6 [59]=tw ts (i+1) [59]from aM H aUF aUF]);cases h2:tw ts (i+1) [59]with
 | true=>
  have h:=cd h2;refine⟨.g (i+1+1),.mk 39 0 [] [],.mk 39 0 [] [],?_,?_,st0 aUF h rfl (by show i<=i+1+1;omega) (λo h'=>by cases h';omega)⟩
  ·rw[bf];refine bm ((dz H _ hs 1 [] aUF).trans aUH) ?_;refine bm ((dz H _ hs 6 [123] aUF).trans aUI) ?_;refine B4 H hs hw [105,102] [119,104,105,108,101] [102,111,114,101,97,99,104] [116,114,121] ?_;refine Ll H hs hw [101,99,104,111] [98,114,101,97,107] ?_;refine nE H hs hw [99,111,110,116,105,110,117,101] ?_;refine dC (ck H hw) ?_;refine dC (a.trans (by rw[h2])) ?_;refine a7 (tb H h2) ?_;rfl
  ·rw[aV];refine nL H hs ?_;refine cf qg ?_;refine cf (show ¬(tok ts i).ah=1 from k1) ?_;refine bm ((fF (e':=e') H (.g i) hs [123]).trans aUK) ?_;refine nI H hs hw [101,99,104,111] ?_;refine bm ((fF (e':=e') H (.g i) hs [105,102]).trans aUM) ?_;refine Vv H hs hw [119,104,105,108,101] [102,111,114,101,97,99,104] [98,114,101,97,107] [99,111,110,116,105,110,117,101] ?_;refine dC (bL H hw) ?_;refine dC (bL H h2) ?_;rfl
 | false=>
  obtain⟨j,n,m,k,g2,b⟩:=(f _ (Lt.g (aRh i) c)).expr;refine⟨wS ts j [59],.mk 39 0 [] [n],.mk 39 0 [] [m],?_,?_,st1 aUF b (aSd i) [59]⟩
  ·rw[bf];refine bm ((dz H _ hs 1 [] aUF).trans aUH) ?_;refine bm ((dz H _ hs 6 [123] aUF).trans aUI) ?_;refine B4 H hs hw [105,102] [119,104,105,108,101] [102,111,114,101,97,99,104] [116,114,121] ?_;refine Ll H hs hw [101,99,104,111] [98,114,101,97,107] ?_;refine nE H hs hw [99,111,110,116,105,110,117,101] ?_;refine dC (ck H hw) ?_;refine bm (a.trans (by rw[h2])) ?_;refine a7 k ?_;refine a7 (dW H _ b.ok [59]) ?_;rfl
  ·rw[aV];refine nL H hs ?_;refine cf qg ?_;refine cf (show ¬(tok ts i).ah=1 from k1) ?_;refine bm ((fF (e':=e') H (.g i) hs [123]).trans aUK) ?_;refine nI H hs hw [101,99,104,111] ?_;refine bm ((fF (e':=e') H (.g i) hs [105,102]).trans aUM) ?_;refine Vv H hs hw [119,104,105,108,101] [102,111,114,101,97,99,104] [98,114,101,97,107] [99,111,110,116,105,110,117,101] ?_;refine dC (bL H hw) ?_;refine bm (aF (w:=[59]) H d h2) ?_;refine a7 (pg H 39 g2 b.ok) ?_;rfl
theorem Q8 (H:Tk ts e) {i:Nat} (hi:i<=ts.length) (z:∀s,Lt ts i s->PC ts e e' s) (hw:tw ts i [117,110,115,101,116]=true):C1 ts e e' false 0 (.g i) bf aV:=by
 have hs:(JS.g i).Ok ts:=hi;have hL:=H.len;have A:=cd hw;obtain⟨k4,L,k2,k1⟩:=lB hw;have f:(JS.g (i+1)).Ok ts:=A;have B:=Lt.w (i:=i) f (aSd i) [40];have v:=@gq ts (.g (i+1)) [40];have v:i+1<=(wS ts (.g (i+1)) [40]).pos:=v;obtain⟨s2,n,m,p,g2,a⟩:=(z _ B).chain false;have p:dM (pS ts e (wS ts (.g (i+1)) [40])) false=some (n,pS ts e s2):=p;have g2:cm (qS ts e' (wS ts (.g (i+1)) [40])) true=some (m,qS ts e' s2):=g2;have M:=a.le;by_cases hg:∃k,s2=.g k/\wv n=true
 ·obtain⟨k,rfl,h⟩:=hg;obtain⟨C,q1,D,q,E,r,_⟩:=a.good k rfl;obtain⟨k2,F,N,_⟩:=ft q1;cases F;subst q;have x:=@gq ts (.g k) [41];have x:k<=(wS ts (.g k) [41]).pos:=x;have t:=kE a.ok [41];have O:=gq (ts:=ts) (wS ts (.g k) [41]) [59]
  have tg:iN (qS ts e' (wS ts (.g (i+1)) [40]))=some (n,qS ts e' (.g k)):=by
   rw[iN];refine a7 g2 ?_;refine cf qg ?_;refine dC ((qj n).trans (by rw[r,h])) ?_;rfl
  refine⟨wS ts (wS ts (.g k) [41]) [59],.mk 41 0 [] [n],.mk 41 0 [] [n],?_,?_,Rs.node aUF (kE t _) (mH _ _) aUE (λP h'=>?_)⟩
  ·rw[bf];refine bm ((dz H _ hs 1 [] aUF).trans aUH) ?_;refine bm ((dz H _ hs 6 [123] aUF).trans aUI) ?_;refine B4 H hs hw [105,102] [119,104,105,108,101] [102,111,114,101,97,99,104] [116,114,121] ?_;refine B4 H hs hw [101,99,104,111] [98,114,101,97,107] [99,111,110,116,105,110,117,101] [114,101,116,117,114,110] ?_;refine nE H hs hw [103,108,111,98,97,108] ?_;refine dC (ck H hw) ?_;refine a7 (dW H _ f [40]) ?_;refine a7 p ?_;refine dC ((qk n).trans (by rw[h])) ?_;refine a7 (dW H _ a.ok [41]) ?_;refine a7 (dW H _ t [59]) ?_;rfl
  ·rw[aV];refine nL H hs ?_;refine cf qg ?_;refine cf (show ¬(tok ts i).ah=1 from k1) ?_;refine bm ((fF (e':=e') H (.g i) hs [123]).trans aUK) ?_;refine nI H hs hw [101,99,104,111] ?_;refine bm ((fF (e':=e') H (.g i) hs [105,102]).trans aUM) ?_;refine Vv H hs hw [119,104,105,108,101] [102,111,114,101,97,99,104] [98,114,101,97,107] [99,111,110,116,105,110,117,101] ?_;refine TY H hs hw [114,101,116,117,114,110] [103,108,111,98,97,108] ?_;refine dC (bL H hw) ?_;refine a7 (eY H _ f [40]) ?_;refine a7 tg ?_;refine a7 (eY H _ a.ok [41]) ?_;refine a7 (eY H _ t [59]) ?_;rfl
  ·obtain⟨k3,r1,Q,_⟩:=ft h';obtain⟨k4,G,R,_⟩:=ft r1;cases G;refine⟨by omega,rfl,rfl,?_⟩;rw[cy];simp only[An];omega
 ·-- nothing y can be u
  have I:∃j,ND s2=.b j:=@ajO s2;obtain⟨j,hj⟩:=I;have l:(JS.b j).Ok ts:=by rw[<-hj];exact Bl a.ok
  have J:i<=j:=by
   have:=sw s2;rw[hj]at this;have this:j=s2.pos:=this;omega
  have tg:iN (qS ts e' (wS ts (.g (i+1)) [40]))=some (m,qS ts e' (ND s2)):=by
   rw[iN];refine a7 g2 ?_
   match s2,a,hg with
   | .b j,a,hg=>refine nG (show(qS ts e' (.b j)).ax=true from rfl) ?_;rfl
   | .d j,a,hg=>
    refine cf (show ¬(qS ts e' (.d j)).ax=true by rw[O8];exact id) ?_;refine bm ((qj m).trans (by rw[(a.dm j rfl).2.2.2 rfl])) ?_;rw[SN]
   | .g k,a,hg=>
    obtain⟨C,q1,D,q,E,r,_⟩:=a.good k rfl;subst q
    have:wv n=false:=by
     cases o:wv n with
     | false=>rfl
     | true=>exact(hg ⟨k,rfl,o⟩).elim
    refine cf qg ?_;refine bm ((qj n).trans (by rw[r,this])) ?_;rw[SN]
  have S:∀c,wS ts (.b j) c=.b j:=λc=>rfl;refine⟨.b j,if wv n=true then .mk 41 0 [] [n]else .mk 0 0 [] [],.mk 41 0 [] [m],?_,?_,Rs.b l J⟩
  ·rw[bf];refine bm ((dz H _ hs 1 [] aUF).trans aUH) ?_;refine bm ((dz H _ hs 6 [123] aUF).trans aUI) ?_;refine B4 H hs hw [105,102] [119,104,105,108,101] [102,111,114,101,97,99,104] [116,114,121] ?_;refine B4 H hs hw [101,99,104,111] [98,114,101,97,107] [99,111,110,116,105,110,117,101] [114,101,116,117,114,110] ?_;refine nE H hs hw [103,108,111,98,97,108] ?_;refine dC (ck H hw) ?_;refine a7 (dW H _ f [40]) ?_;refine a7 p ?_;cases o:wv n with
   | false=>
    refine bm ((qk n).trans (by rw[o])) ?_;refine a7 (qZ H _ a.ok) ?_;rw[hj];rfl
   | true=>
    refine dC ((qk n).trans (by rw[o])) ?_
    have e2:pS ts e s2=pS ts e (.b j):=by
     match s2,a,hg,hj with
     | .b K,_,_,hj=>rw[<-hj];rfl
     | .d K,_,_,hj=>rw[<-hj];rfl
     | .g k,_,hg,_=>exact(hg ⟨k,rfl,o⟩).elim
    rw[e2];refine a7 (dW H _ l [41]) ?_;refine a7 (dW H _ l [59]) ?_;rfl
  ·rw[aV];refine nL H hs ?_;refine cf qg ?_;refine cf (show ¬(tok ts i).ah=1 from k1) ?_;refine bm ((fF (e':=e') H (.g i) hs [123]).trans aUK) ?_;refine nI H hs hw [101,99,104,111] ?_;refine bm ((fF (e':=e') H (.g i) hs [105,102]).trans aUM) ?_;refine Vv H hs hw [119,104,105,108,101] [102,111,114,101,97,99,104] [98,114,101,97,107] [99,111,110,116,105,110,117,101] ?_;refine TY H hs hw [114,101,116,117,114,110] [103,108,111,98,97,108] ?_;refine dC (bL H hw) ?_;refine a7 (eY H _ f [40]) ?_;refine a7 tg ?_;rw[hj];refine a7 (eY H _ l [41]) ?_;refine a7 (eY H _ l [59]) ?_;rfl
def yA (ts:List ai) (i:Nat):Bool:=kd ts i==2&&(tw ts (i+1) [61]&&tw ts (i+2) [121,105,101,108,100])
theorem yS (H:Tk ts e) {i:Nat} (hi:i<=ts.length):((
 bp (pS ts e (.g i)) 0 2 []>>=λ(d,a)=>
 (if d=true then
 bp a 1 6 [61]>>=λ(j,b)=>
 (if j=true then
 bp b 2 3 [121,105,101,108,100]>>=λ(f,c)=>
 some (c.fT,c.fI,c.ay,c.ax,f)
 else
 some (b.fT,b.fI,b.ay,b.ax,false))
 else
 some (a.fT,a.fI,a.ay,a.ax,false))
 :Option ((List ai)×Int×Int×Int×Bool)))=some ((pS ts e (.g i)).fT,(pS ts e (.g i)).fI,(pS ts e (.g i)).ay,(pS ts e (.g i)).ax,yA ts i):=by
 have hs:(JS.g i).Ok ts:=hi;have a0:bp (pS ts e (.g i)) 0 2 []=some (kd ts i==2,pS ts e (.g i)):=(dz H _ hs 2 [] aUF).trans (by rw[show aS ts (.g i) 0 2 []=(kd ts i==2)from by show(kd ts i==2&&true)=_;rw[aRE]]);have h:bp (pS ts e (.g i)) 1 6 [61]=some (tw ts (i+1) [61],pS ts e (.g i)):=(aCw H _ hs 6 [61] aUF).trans (by rw[show aS ts (.g i) 1 6 [61]=tw ts (i+1) [61]from aM H aUF aUF]);have k:bp (pS ts e (.g i)) 2 3 [121,105,101,108,100]=some (tw ts (i+2) [121,105,101,108,100],pS ts e (.g i)):=(aLq H _ hs 3 _ aUF).trans (by rw[show aS ts (.g i) 2 3 [121,105,101,108,100]=tw ts (i+2) [121,105,101,108,100]from aN H aUF aUF]);unfold yA;cases h0:kd ts i==2 with
 | false=>refine bm (a0.trans (by rw[h0])) ?_;rfl
 | true=>
  refine dC (a0.trans (by rw[h0])) ?_;cases h1:tw ts (i+1) [61]with
  | false=>refine bm (h.trans aVt) ?_;rfl
  | true=>
   refine dC (h.trans aVt) ?_;refine a7 k ?_;rfl
theorem yI (H:Tk ts e) {i:Nat} (hi:i<=ts.length):((
 (if(tok ts i).ah=2 then
 bK (tok ts i).al>>=λb=>
 (if b=true then
 ba (qS ts e' (.g i)) 1 [61]>>=λ(h,a)=>
 (if h=true then
 ba a 2 [121,105,101,108,100]>>=λ(d,c)=>
 some (c.aq,c.bF,c.ay,c.ax,d)
 else
 some (a.aq,a.bF,a.ay,a.ax,false))
 else
 some ((qS ts e' (.g i)).aq,(qS ts e' (.g i)).bF,(qS ts e' (.g i)).ay,(qS ts e' (.g i)).ax,false))
 else
 some ((qS ts e' (.g i)).aq,(qS ts e' (.g i)).bF,(qS ts e' (.g i)).ay,(qS ts e' (.g i)).ax,false))
 :Option ((List ai)×Int×Int×Bool×Bool)))=some ((qS ts e' (.g i)).aq,(qS ts e' (.g i)).bF,(qS ts e' (.g i)).ay,(qS ts e' (.g i)).ax,yA ts i&&good (tx ts i)):=by
 have hs:(JS.g i).Ok ts:=hi;have f:ba (qS ts e' (.g i)) 1 [61]=some (tw ts (i+1) [61],qS ts e' (.g i)):=aez (e':=e') H _ hs _;have j:ba (qS ts e' (.g i)) 2 [121,105,101,108,100]=some (tw ts (i+2) [121,105,101,108,100],qS ts e' (.g i)):=aLr (e':=e') H _ hs _;unfold yA;by_cases h0:kd ts i=2
 ·refine nG (show(tok ts i).ah=2 from h0) ?_;have k:(kd ts i==2)=true:=by rw[h0];rfl
  cases hg:good (tok ts i).al with
  | false=>
   refine bm ((tR _).trans (by rw[hg])) ?_;rw[show good (tx ts i)=false from hg,aRF]
  | true=>
   refine dC ((tR _).trans (by rw[hg])) ?_;rw[show good (tx ts i)=true from hg,aRE,k,aSn];cases h1:tw ts (i+1) [61]with
   | false=>refine bm (f.trans aVt) ?_;rfl
   | true=>
    refine dC (f.trans aVt) ?_;refine a7 j ?_;rfl
 ·refine cf (show ¬(tok ts i).ah=2 from h0) ?_;rw[an.2 h0];rfl
theorem Vc (H:Tk ts e) {i:Nat} (hi:i<=ts.length) (O:∀s,Lt ts i s->PC ts e e' s) (k1:¬kd ts i=1) (Kx:tw ts i [123]=false) (f0:tw ts i [105,102]=false) (h:tw ts i [119,104,105,108,101]=false) (f2:tw ts i [102,111,114,101,97,99,104]=false) (j:tw ts i [116,114,121]=false) (o:tw ts i [101,99,104,111]=false) (p:tw ts i [98,114,101,97,107]=false) (q:tw ts i [99,111,110,116,105,110,117,101]=false) (r:tw ts i [114,101,116,117,114,110]=false) (t:tw ts i [103,108,111,98,97,108]=false) (u:tw ts i [117,110,115,101,116]=false) (d:tw ts i [116,104,114,111,119]=false) (f:tw ts i [121,105,101,108,100]=false):C1 ts e e' false 0 (.g i) bf aV:=by
 have hs:(JS.g i).Ok ts:=hi;have hL:=H.len;cases hy:yA ts i with
 | true=>
  have y:=hy;unfold yA at y;simp only[No,aRi]at y;obtain⟨A,Q,J⟩:=y;have Y:=cd J;have D:∀c,tw ts i c=false:=wQ aUE aUE;cases hg:good (tx ts i)with
  | true=>
   have v:vu ts 2 i=true:=by unfold vu;rw[A,hg];rfl
   obtain⟨B,n,m,E,g2,x⟩:=(O (.g (i+3)) (Lt.g aUE aUE)).expr;have K:i+3<=B.pos:=x.le;have Z:=gq (ts:=ts) B [59];have R:=uO H i;refine⟨wS ts B [59],.mk 46 0 [] [.mk 4 0 (tx ts i) [],n],.mk 46 0 [] ([.mk 4 0 (tx ts i) []]++[m]),?_,?_,Rs.node aUF (kE x.ok _) (mH _ _) aUE (λS h'=>?_)⟩
   ·rw[bf];refine bm ((dz H _ hs 1 [] aUF).trans aUH) ?_;refine bm ((dz H _ hs 6 [123] aUF).trans aUS) ?_;refine bm (aZ H hs (w:=[105,102]) f0) ?_;refine bm (aZ H hs (w:=[119,104,105,108,101]) h) ?_;refine bm (aZ H hs (w:=[102,111,114,101,97,99,104]) f2) ?_;refine bm (aZ H hs (w:=[116,114,121]) j) ?_;refine bm (aZ H hs (w:=[101,99,104,111]) o) ?_;refine bm (aZ H hs (w:=[98,114,101,97,107]) p) ?_;refine bm (aZ H hs (w:=[99,111,110,116,105,110,117,101]) q) ?_;refine bm (aZ H hs (w:=[114,101,116,117,114,110]) r) ?_;refine bm (aZ H hs (w:=[103,108,111,98,97,108]) t) ?_;refine bm (aZ H hs (w:=[117,110,115,101,116]) u) ?_;refine bm (aZ H hs (w:=[116,104,114,111,119]) d) ?_;refine bm (aZ H hs (w:=[121,105,101,108,100]) f) ?_;refine a7 (yS H hi) ?_;refine nG hy ?_;refine a7 ((Pf H _ hs).trans (by rw[I8 v,Ja v])) ?_;refine(gA (a:=((i+3:Nat):Int)) ?_).trans ?_
    ·show uW (ts.length:Int) (bq (((i+1:Nat):Int)+2))=_;rw[wW aUE aUE];unfold uW;by_cases hq:((i+1:Nat):Int)+2<(ts.length:Int)
     ·rw[At hq];rfl
     ·rw[As hq];congr 1;omega
    refine(gA (a:=(n,pS ts e B)) E).trans ?_;refine a7 (dW H _ x.ok [59]) ?_;rfl
   ·rw[aV];refine nL H hs ?_;refine cf qg ?_;refine cf (show ¬(tok ts i).ah=1 from k1) ?_;refine bm ((fF (e':=e') H (.g i) hs [123]).trans aUX) ?_;refine bm (aF H hs (w:=[101,99,104,111]) o) ?_;refine bm ((fF (e':=e') H (.g i) hs [105,102]).trans aUW) ?_;refine bm (aF H hs (w:=[119,104,105,108,101]) h) ?_;refine bm (aF H hs (w:=[102,111,114,101,97,99,104]) f2) ?_;refine bm (aF H hs (w:=[98,114,101,97,107]) p) ?_;refine bm (aF H hs (w:=[99,111,110,116,105,110,117,101]) q) ?_;refine bm (aF H hs (w:=[114,101,116,117,114,110]) r) ?_;refine bm (aF H hs (w:=[103,108,111,98,97,108]) t) ?_;refine bm (aF H hs (w:=[117,110,115,101,116]) u) ?_;refine bm (aF H hs (w:=[116,104,114,111,119]) d) ?_;refine bm (aF H hs (w:=[116,114,121]) j) ?_;refine bm (aF H hs (w:=[121,105,101,108,100]) f) ?_;refine a7 (yI H hi) ?_;refine nG (show(yA ts i&&good (tx ts i))=true by rw[hy,hg];rfl) ?_;refine a7 ((Pg H _ hs rfl).trans (by rw[I8 v,Ja v])) ?_;refine(gA (a:=(ae.mk 46 0 [] [m],qS ts e' (wS ts B [59]))) ?_).trans ?_
    ·have:ak.mk (qS ts e' (.g (i+1))).aq (bq ((qS ts e' (.g (i+1))).bF+2)) (qS ts e' (.g (i+1))).ay (qS ts e' (.g (i+1))).ax=qS ts e' (.g (i+3)):=Ze H aUE;exact(congrArg (λz=>dU z 46) this).trans (pg H 46 g2 x.ok)
    refine a7 (iz (b:=56) (l:=[ae.mk 4 0 (tx ts i) []]) (m:=[m]) (by show(1+1)*56<=140737488355328;omega)) ?_;rfl
   ·obtain⟨k,q1,T,_⟩:=ft h';obtain⟨k3,U,q4,V,q6,_⟩:=x.good k q1;cases U;subst V;refine⟨by omega,rfl,rfl,?_⟩;rw[gv,cy,fD,ep];simp only[An];omega
  | false=>
   have v:vu ts 2 i=false:=by unfold vu;rw[hg,aRF]
   have L:(JS.b i).Ok ts:=hi;obtain⟨n,E⟩:=Pa H L
   have W:aK (qS ts e' (.g i))=some (.mk 4 0 [] [],qS ts e' (.b i)):=by
    rw[aK];refine nL H hs ?_;refine cf qg ?_;refine a7 (uK H hi) ?_;refine cf (show ¬kx ts i=true by unfold kx;rw[A,D,D,D];decide) ?_;refine nG (show(tok ts i).ah=2 from A) ?_;rw[du];refine a7 ((Pg H _ hs rfl).trans (by rw[Y6 v,aet v])) ?_;rfl
   obtain⟨m,g2⟩:=aFx H hi W (D _) (D _);refine⟨.b i,.mk 46 0 [] [.mk 4 0 [] [],n],.mk 33 0 [] [m],?_,?_,Rs.b hi (Of i)⟩
   ·rw[bf];refine bm ((dz H _ hs 1 [] aUF).trans aUH) ?_;refine bm ((dz H _ hs 6 [123] aUF).trans aUS) ?_;refine bm (aZ H hs (w:=[105,102]) f0) ?_;refine bm (aZ H hs (w:=[119,104,105,108,101]) h) ?_;refine bm (aZ H hs (w:=[102,111,114,101,97,99,104]) f2) ?_;refine bm (aZ H hs (w:=[116,114,121]) j) ?_;refine bm (aZ H hs (w:=[101,99,104,111]) o) ?_;refine bm (aZ H hs (w:=[98,114,101,97,107]) p) ?_;refine bm (aZ H hs (w:=[99,111,110,116,105,110,117,101]) q) ?_;refine bm (aZ H hs (w:=[114,101,116,117,114,110]) r) ?_;refine bm (aZ H hs (w:=[103,108,111,98,97,108]) t) ?_;refine bm (aZ H hs (w:=[117,110,115,101,116]) u) ?_;refine bm (aZ H hs (w:=[116,104,114,111,119]) d) ?_;refine bm (aZ H hs (w:=[121,105,101,108,100]) f) ?_;refine a7 (yS H hi) ?_;refine nG hy ?_;refine a7 ((Pf H _ hs).trans (by rw[Y6 v,aet v])) ?_;refine(gA (a:=((ts.length:Nat):Int)) ?_).trans ?_
    ·show uW (ts.length:Int) (bq ((ts.length:Int)+2))=_;rw[wW aUE aUE];unfold uW;rw[As aUE]
    refine(gA (a:=(n,pS ts e (.b i))) E).trans ?_;refine a7 (dW H _ L [59]) ?_;rfl
   ·rw[aV];refine nL H hs ?_;refine cf qg ?_;refine cf (show ¬(tok ts i).ah=1 from k1) ?_;refine bm ((fF (e':=e') H (.g i) hs [123]).trans aUX) ?_;refine bm (aF H hs (w:=[101,99,104,111]) o) ?_;refine bm ((fF (e':=e') H (.g i) hs [105,102]).trans aUW) ?_;refine bm (aF H hs (w:=[119,104,105,108,101]) h) ?_;refine bm (aF H hs (w:=[102,111,114,101,97,99,104]) f2) ?_;refine bm (aF H hs (w:=[98,114,101,97,107]) p) ?_;refine bm (aF H hs (w:=[99,111,110,116,105,110,117,101]) q) ?_;refine bm (aF H hs (w:=[114,101,116,117,114,110]) r) ?_;refine bm (aF H hs (w:=[103,108,111,98,97,108]) t) ?_;refine bm (aF H hs (w:=[117,110,115,101,116]) u) ?_;refine bm (aF H hs (w:=[116,104,114,111,119]) d) ?_;refine bm (aF H hs (w:=[116,114,121]) j) ?_;refine bm (aF H hs (w:=[121,105,101,108,100]) f) ?_;refine a7 (yI H hi) ?_;refine cf (show ¬(yA ts i&&good (tx ts i))=true by rw[hg,aRF];exact are) ?_;rw[du];refine bm (aF (w:=[105,110,99,108,117,100,101]) H hs (D _)) ?_;refine a7 (pg H 33 g2 L) ?_;rfl
 | false=>
  have C:¬(yA ts i&&good (tx ts i))=true:=by rw[hy];exact are
  cases hw:tw ts i [105,110,99,108,117,100,101]with
  | true=>
   have M:=cd hw;have F:(JS.g (i+1)).Ok ts:=M;have X:(JS.b (i+1)).Ok ts:=M;have G:bp (pS ts e (.g (i+1))) 0 5 []=some (kd ts (i+1)==5,pS ts e (.g (i+1))):=(dz H _ F 5 [] aUF).trans (by rw[show aS ts (.g (i+1)) 0 5 []=(kd ts (i+1)==5)from by show(kd ts (i+1)==5&&true)=_;rw[aRE]]);by_cases I:kd ts (i+1)=5
   ·have P:i+1<ts.length:=lC aUE;have N:(JS.g (i+1+1)).Ok ts:=P;have R:=uO H (i+1);have K:=@gq ts (.g (i+1+1)) [59];have K:i+1+1<=(wS ts (.g (i+1+1)) [59]).pos:=K;refine⟨wS ts (.g (i+1+1)) [59],.mk 47 0 (tx ts (i+1)) [],.mk 47 0 (tx ts (i+1)) [],?_,?_,Rs.node aUF (kE N _) (mH _ _) aUE (λS h'=>?_)⟩
    ·rw[bf];refine bm ((dz H _ hs 1 [] aUF).trans aUH) ?_;refine bm ((dz H _ hs 6 [123] aUF).trans aUS) ?_;refine bm (aZ H hs (w:=[105,102]) f0) ?_;refine bm (aZ H hs (w:=[119,104,105,108,101]) h) ?_;refine bm (aZ H hs (w:=[102,111,114,101,97,99,104]) f2) ?_;refine bm (aZ H hs (w:=[116,114,121]) j) ?_;refine bm (aZ H hs (w:=[101,99,104,111]) o) ?_;refine bm (aZ H hs (w:=[98,114,101,97,107]) p) ?_;refine bm (aZ H hs (w:=[99,111,110,116,105,110,117,101]) q) ?_;refine bm (aZ H hs (w:=[114,101,116,117,114,110]) r) ?_;refine bm (aZ H hs (w:=[103,108,111,98,97,108]) t) ?_;refine bm (aZ H hs (w:=[117,110,115,101,116]) u) ?_;refine bm (aZ H hs (w:=[116,104,114,111,119]) d) ?_;refine bm (aZ H hs (w:=[121,105,101,108,100]) f) ?_;refine a7 (yS H hi) ?_;refine cf (show ¬yA ts i=true by rw[hy];exact are) ?_;rw[jm];refine dC (ck H hw) ?_;refine dC (G.trans (by rw[I,aSZ])) ?_;refine(gA (a:=tok ts (i+1)) ?_).trans ?_
     ·show idx ts (bq (bq (((i+1:Nat):Int)+1) - 1))=_;rw[Ew aUE,fJ P]
     rw[re H F];refine a7 (dW H _ N [59]) ?_;rfl
    ·rw[aV];refine nL H hs ?_;refine cf qg ?_;refine cf (show ¬(tok ts i).ah=1 from k1) ?_;refine bm ((fF (e':=e') H (.g i) hs [123]).trans aUX) ?_;refine bm (aF H hs (w:=[101,99,104,111]) o) ?_;refine bm ((fF (e':=e') H (.g i) hs [105,102]).trans aUW) ?_;refine bm (aF H hs (w:=[119,104,105,108,101]) h) ?_;refine bm (aF H hs (w:=[102,111,114,101,97,99,104]) f2) ?_;refine bm (aF H hs (w:=[98,114,101,97,107]) p) ?_;refine bm (aF H hs (w:=[99,111,110,116,105,110,117,101]) q) ?_;refine bm (aF H hs (w:=[114,101,116,117,114,110]) r) ?_;refine bm (aF H hs (w:=[103,108,111,98,97,108]) t) ?_;refine bm (aF H hs (w:=[117,110,115,101,116]) u) ?_;refine bm (aF H hs (w:=[116,104,114,111,119]) d) ?_;refine bm (aF H hs (w:=[116,114,121]) j) ?_;refine bm (aF H hs (w:=[121,105,101,108,100]) f) ?_;refine a7 (yI H hi) ?_;refine cf C ?_;rw[du];refine dC (bL H hw) ?_;refine a7 ((ac0 H F).trans (At I)) ?_;refine a7 (eY H _ N [59]) ?_;rfl
    ·obtain⟨k,q1,T,_⟩:=ft h';cases q1;exact⟨by omega,rfl,rfl,by rw[ep];omega⟩
   ·refine⟨.b (i+1),.mk 0 0 [] [],.mk 47 0 [] [],?_,?_,Rs.b M aUE⟩
    ·rw[bf];refine bm ((dz H _ hs 1 [] aUF).trans aUH) ?_;refine bm ((dz H _ hs 6 [123] aUF).trans aUS) ?_;refine bm (aZ H hs (w:=[105,102]) f0) ?_;refine bm (aZ H hs (w:=[119,104,105,108,101]) h) ?_;refine bm (aZ H hs (w:=[102,111,114,101,97,99,104]) f2) ?_;refine bm (aZ H hs (w:=[116,114,121]) j) ?_;refine bm (aZ H hs (w:=[101,99,104,111]) o) ?_;refine bm (aZ H hs (w:=[98,114,101,97,107]) p) ?_;refine bm (aZ H hs (w:=[99,111,110,116,105,110,117,101]) q) ?_;refine bm (aZ H hs (w:=[114,101,116,117,114,110]) r) ?_;refine bm (aZ H hs (w:=[103,108,111,98,97,108]) t) ?_;refine bm (aZ H hs (w:=[117,110,115,101,116]) u) ?_;refine bm (aZ H hs (w:=[116,104,114,111,119]) d) ?_;refine bm (aZ H hs (w:=[121,105,101,108,100]) f) ?_;refine a7 (yS H hi) ?_;refine cf (show ¬yA ts i=true by rw[hy];exact are) ?_;rw[jm];refine dC (ck H hw) ?_;refine bm (G.trans (by rw[an.2 I])) ?_;refine a7 (qZ H _ F) ?_;rfl
    ·rw[aV];refine nL H hs ?_;refine cf qg ?_;refine cf (show ¬(tok ts i).ah=1 from k1) ?_;refine bm ((fF (e':=e') H (.g i) hs [123]).trans aUX) ?_;refine bm (aF H hs (w:=[101,99,104,111]) o) ?_;refine bm ((fF (e':=e') H (.g i) hs [105,102]).trans aUW) ?_;refine bm (aF H hs (w:=[119,104,105,108,101]) h) ?_;refine bm (aF H hs (w:=[102,111,114,101,97,99,104]) f2) ?_;refine bm (aF H hs (w:=[98,114,101,97,107]) p) ?_;refine bm (aF H hs (w:=[99,111,110,116,105,110,117,101]) q) ?_;refine bm (aF H hs (w:=[114,101,116,117,114,110]) r) ?_;refine bm (aF H hs (w:=[103,108,111,98,97,108]) t) ?_;refine bm (aF H hs (w:=[117,110,115,101,116]) u) ?_;refine bm (aF H hs (w:=[116,104,114,111,119]) d) ?_;refine bm (aF H hs (w:=[116,114,121]) j) ?_;refine bm (aF H hs (w:=[121,105,101,108,100]) f) ?_;refine a7 (yI H hi) ?_;refine cf C ?_;rw[du];refine dC (bL H hw) ?_;refine a7 ((ac0 H F).trans (As I)) ?_;refine a7 (eY H _ X [59]) ?_;rfl
  | false=>
   obtain⟨B,n,m,E,g2,x⟩:=JY (e':=e') H hi O;refine⟨wS ts B [59],.mk 33 0 [] [n],.mk 33 0 [] [m],?_,?_,st1 aUF x (Of i) [59]⟩
   ·rw[bf];refine bm ((dz H _ hs 1 [] aUF).trans aUH) ?_;refine bm ((dz H _ hs 6 [123] aUF).trans aUS) ?_;refine bm (aZ H hs (w:=[105,102]) f0) ?_;refine bm (aZ H hs (w:=[119,104,105,108,101]) h) ?_;refine bm (aZ H hs (w:=[102,111,114,101,97,99,104]) f2) ?_;refine bm (aZ H hs (w:=[116,114,121]) j) ?_;refine bm (aZ H hs (w:=[101,99,104,111]) o) ?_;refine bm (aZ H hs (w:=[98,114,101,97,107]) p) ?_;refine bm (aZ H hs (w:=[99,111,110,116,105,110,117,101]) q) ?_;refine bm (aZ H hs (w:=[114,101,116,117,114,110]) r) ?_;refine bm (aZ H hs (w:=[103,108,111,98,97,108]) t) ?_;refine bm (aZ H hs (w:=[117,110,115,101,116]) u) ?_;refine bm (aZ H hs (w:=[116,104,114,111,119]) d) ?_;refine bm (aZ H hs (w:=[121,105,101,108,100]) f) ?_;refine a7 (yS H hi) ?_;refine cf (show ¬yA ts i=true by rw[hy];exact are) ?_;rw[jm];refine bm (aZ (w:=[105,110,99,108,117,100,101]) H hs hw) ?_;refine a7 E ?_;refine a7 (dW H _ x.ok [59]) ?_;rfl
   ·rw[aV];refine nL H hs ?_;refine cf qg ?_;refine cf (show ¬(tok ts i).ah=1 from k1) ?_;refine bm ((fF (e':=e') H (.g i) hs [123]).trans aUX) ?_;refine bm (aF H hs (w:=[101,99,104,111]) o) ?_;refine bm ((fF (e':=e') H (.g i) hs [105,102]).trans aUW) ?_;refine bm (aF H hs (w:=[119,104,105,108,101]) h) ?_;refine bm (aF H hs (w:=[102,111,114,101,97,99,104]) f2) ?_;refine bm (aF H hs (w:=[98,114,101,97,107]) p) ?_;refine bm (aF H hs (w:=[99,111,110,116,105,110,117,101]) q) ?_;refine bm (aF H hs (w:=[114,101,116,117,114,110]) r) ?_;refine bm (aF H hs (w:=[103,108,111,98,97,108]) t) ?_;refine bm (aF H hs (w:=[117,110,115,101,116]) u) ?_;refine bm (aF H hs (w:=[116,104,114,111,119]) d) ?_;refine bm (aF H hs (w:=[116,114,121]) j) ?_;refine bm (aF H hs (w:=[121,105,101,108,100]) f) ?_;refine a7 (yI H hi) ?_;refine cf C ?_;rw[du];refine bm (aF (w:=[105,110,99,108,117,100,101]) H hs hw) ?_;refine a7 (pg H 33 g2 x.ok) ?_;rfl
theorem agT (H:Tk ts e) {i:Nat} (hi:i<=ts.length) (b:∀s,Lt ts i s->PC ts e e' s):C1 ts e e' false 0 (.g i) bf aV:=by
 have hs:(JS.g i).Ok ts:=hi;have hL:=H.len;by_cases k1:kd ts i=1
 ·have f:i<ts.length:=lC aUE;refine⟨.g (i+1),.mk 31 0 (tx ts i) [],.mk 31 0 (tx ts i) [],?_,?_,Rs.leaf aUF f (uO H i) (by rw[k1];rfl)⟩
  ·rw[bf];refine dC ((dz H _ hs 1 [] aUF).trans (by rw[show aS ts (.g i) 0 1 []=true from by show(kd ts i==1&&true)=true;rw[k1];rfl])) ?_;refine(gA (a:=tok ts i) ?_).trans ?_
   ·show idx ts (bq (bq ((i:Int)+1) - 1))=_;rw[Ew aUE,fJ f]
   rw[re H hi];rfl
  ·rw[aV];refine nL H hs ?_;refine cf qg ?_;refine nG (show(tok ts i).ah=1 from k1) ?_;rw[qv H hi];rfl
 cases Kx:tw ts i [123]with
 | true=>
  obtain⟨s',n,m,t,g2,u⟩:=MZ (e':=e') H hi b;refine⟨s',n,m,?_,?_,u⟩
  ·rw[bf];refine bm ((dz H _ hs 1 [] aUF).trans (by rw[show aS ts (.g i) 0 1 []=false from by show(kd ts i==1&&true)=false;rw[an.2 k1];rfl])) ?_;refine dC ((dz H _ hs 6 [123] aUF).trans (by rw[show aS ts (.g i) 0 6 [123]=true from(aM H aUF aUF).trans Kx])) ?_;refine a7 t ?_;rfl
  ·rw[aV];refine nL H hs ?_;refine cf qg ?_;refine cf (show ¬(tok ts i).ah=1 from k1) ?_;refine dC ((fF (e':=e') H (.g i) hs [123]).trans (by rw[show tw ts (JS.g i).pos [123]=true from Kx])) ?_;refine a7 g2 ?_;rfl
 | false=>
 cases f0:tw ts i [105,102]with
 | true=>exact agS H hi b f0
 | false=>
 cases h:tw ts i [119,104,105,108,101]with
 | true=>exact Q3 H hi b h
 | false=>
 cases f2:tw ts i [102,111,114,101,97,99,104]with
 | true=>exact JZ H hi b f2
 | false=>
 cases j:tw ts i [116,114,121]with
 | true=>exact ac1 H hi b j
 | false=>
 cases k:tw ts i [101,99,104,111]with
 | true=>exact Vb H hi b k
 | false=>
 cases l:tw ts i [98,114,101,97,107]with
 | true=>exact Q7 H hi b l
 | false=>
 cases o:tw ts i [99,111,110,116,105,110,117,101]with
 | true=>exact GH H hi b o
 | false=>
 cases p:tw ts i [114,101,116,117,114,110]with
 | true=>exact M3 H hi b p
 | false=>
 cases q:tw ts i [103,108,111,98,97,108]with
 | true=>exact M1 H hi b q
 | false=>
 cases r:tw ts i [117,110,115,101,116]with
 | true=>exact Q8 H hi b r
 | false=>
 cases c:tw ts i [116,104,114,111,119]with
 | true=>exact Q4 H hi b c
 | false=>
 cases d:tw ts i [121,105,101,108,100]with
 | true=>exact Q6 H hi b d
 | false=>
 exact Vc H hi b k1 Kx f0 h f2 j k l o p q r c d
theorem ac2 (H:Tk ts e):∀(N i:Nat),ts.length - i<N->i<=ts.length->PC ts e e' (.g i)
 | 0,i,h,_=>by omega
 | N+1,i,h,hi=>by
  have a:∀s,Lt ts i s->PC ts e e' s:=λs hs=>by
   match s,hs with
   | .g k,hs=>
    have h1:=hs.lt k rfl;have h2:k<=ts.length:=hs.ok;exact ac2 H N k aUE h2
   | .b j,hs=>exact Y4 H hs.ok
   | .d j,hs=>cases hs.nd
  exact⟨RZ H hi a,Lr H hi a,akQ H hi a,λc f l=>Q1 H hi a (11 - c) c aUE f,Th H hi a,Tj H hi a,JY H hi a,agR H hi a,agQ H hi a,MZ H hi a,agT H hi a⟩
theorem ac3 (H:Tk ts e) (s:JS) (hs:s.Ok ts) (hd:s.nd=true):PC ts e e' s:=by
 match s,hs,hd with
 | .g k,hs,_=>exact ac2 H _ k (aRh _) hs
 | .b j,hs,_=>exact Y4 H hs
 | .d j,_,hd=>cases hd
end
section
variable {ts:List ai}{e e':Int}
theorem a0k {i:Nat} (k:Int):aS ts (.g i) 0 k []=(kd ts i==k):=by
 show(kd ts (i+0)==k&&(([]:av)==([]:av)||_))=_;rw[show(([]:av)==([]:av))=true from rfl,aSl,aRE,aSo]
theorem a0n (H:Tk ts e) {i:Nat} {w:av} (hw:zm.contains w=false) (a:w≠[]):aS ts (.g i) 0 3 w=tw ts i w:=by
 show aT ts (i+0) 3 w=_;rw[aSo,aN H hw a]
theorem ac4 (H:Tk ts e) {i:Nat} (hi:i<=ts.length) (h:kx ts i=true):∃n,aH (pS ts e (.g i))=some (n,pS ts e (.g (i+1)))/\bU (qS ts e' (.g i))=some (n,qS ts e' (.g (i+1)))/\wt n<=4000/\i<ts.length:=by
 have hs:(JS.g i).Ok ts:=hi;by_cases k4:kd ts i=4
 ·have a:i<ts.length:=lC aUE;refine⟨.mk 1 (tok ts i).aE [] [],?_,?_,by rw[fD,ep];simp,a⟩
  ·rw[aH];refine cf (lN a) ?_;refine(gA (fJ a)).trans ?_;refine nG k4 ?_;rw[re H hi]
  ·unfold bU;refine(gA (qi H _ hs)).trans ?_;refine nG k4 ?_;rw[qv H hi];rfl
 by_cases c:kd ts i=5
 ·have a:i<ts.length:=lC aUE;refine⟨.mk 2 0 (tx ts i) [],?_,?_,by rw[fD,ep];exact uO H i,a⟩
  ·rw[aH];refine cf (lN a) ?_;refine(gA (fJ a)).trans ?_;refine cf k4 ?_;refine nG c ?_;rw[re H hi];rfl
  ·unfold bU;refine(gA (qi H _ hs)).trans ?_;refine cf k4 ?_;refine nG c ?_;rw[qv H hi];rfl
 unfold kx at h;rw[an.2 k4,an.2 c,aRy,aRy]at h
 have k2:¬kd ts i=2:=λk2=>by
  rw[wQ aUE aUE,wQ aUE aUE,wQ aUE aUE]at h;exact absurd h aUF
 by_cases f:tw ts i [110,117,108,108]=true
 ·have a:=cd f;refine⟨.mk 3 0 [] [],?_,?_,by rw[fD,ep];simp,a⟩
  ·rw[aH];refine cf (lN a) ?_;refine(gA (fJ a)).trans ?_;refine cf k4 ?_;refine cf c ?_;refine cf k2 ?_;refine dC (ck H f) ?_;rfl
  ·unfold bU;refine(gA (qi H _ hs)).trans ?_;refine cf k4 ?_;refine cf c ?_;refine dC (bL H f) ?_;rfl
 have b:tw ts i [110,117,108,108]=false:=by simpa using f
 by_cases hf:tw ts i [102,97,108,115,101]=true
 ·have a:=cd hf;refine⟨.mk 3 1 [] [],?_,?_,by rw[fD,ep];simp,a⟩
  ·rw[aH];refine cf (lN a) ?_;refine(gA (fJ a)).trans ?_;refine cf k4 ?_;refine cf c ?_;refine cf k2 ?_;refine bm (aZ H hs (w:=[110,117,108,108]) b) ?_;refine dC (ck H hf) ?_;rfl
  ·unfold bU;refine(gA (qi H _ hs)).trans ?_;refine cf k4 ?_;refine cf c ?_;refine bm (aF (w:=[110,117,108,108]) H hs b) ?_;refine dC (bL H hf) ?_;rfl
 have d:tw ts i [102,97,108,115,101]=false:=by simpa using hf
 rw[b,d,aRH,aRH]at h;have a:=cd h;refine⟨.mk 3 2 [] [],?_,?_,by rw[fD,ep];simp,a⟩
 ·rw[aH];refine cf (lN a) ?_;refine(gA (fJ a)).trans ?_;refine cf k4 ?_;refine cf c ?_;refine cf k2 ?_;refine bm (aZ H hs (w:=[110,117,108,108]) b) ?_;refine bm (aZ H hs (w:=[102,97,108,115,101]) d) ?_;refine dC (ck H h) ?_;rfl
 ·unfold bU;refine(gA (qi H _ hs)).trans ?_;refine cf k4 ?_;refine cf c ?_;refine bm (aF (w:=[110,117,108,108]) H hs b) ?_;refine bm (aF (w:=[102,97,108,115,101]) H hs d) ?_;refine dC (bL H h) ?_;rfl
theorem ase (H:Tk ts e) {i:Nat} (hi:i<=ts.length) (h:kx ts i=false):bU (qS ts e' (.g i))=some (.mk 0 0 [] [],qS ts e' (.b i)):=by
 have hs:(JS.g i).Ok ts:=hi;unfold kx at h;simp only[aSB,an]at h;obtain⟨k4,a,h1,h2,c⟩:=h;unfold bU;refine(gA (qi H _ hs)).trans ?_;refine cf k4 ?_;refine cf a ?_;refine bm (aF (w:=[110,117,108,108]) H hs c) ?_;refine bm (aF (w:=[102,97,108,115,101]) H hs h2) ?_;refine bm (aF (w:=[116,114,117,101]) H hs h1) ?_;rfl
theorem Tm (H:Tk ts e) (s:JS) (hs:s.Ok ts) (hd:s.nd=true):∃s' l m b f,(∃a,de (pS ts e s) 24 []=some (l,pS ts e a)/\bJ (pS ts e a)=some (b,pS ts e s')/\eD (qS ts e' s)=some (m,qS ts e' a)/\bC (qS ts e' a)=some (f,qS ts e' s'))/\
  s'.Ok ts/\s'.nd=true/\s.pos<=s'.pos/\l.length<=4010/\m.length<=4010/\(∀c,s'=.g c->∃i,s=.g i/\i+2<c/\l=m/\b=f/\(wl (l++[b]):Int)+16384*(i:Int)+20000<=16384*(c:Int)):=by
 have hL:=H.len;obtain⟨a,l,m,h1,h2,R⟩:=Bm (e':=e') H 24 (.inl rfl) [] aUG s hs hd (λh=>absurd h aUF);obtain⟨s',b,f,p,g2,n⟩:=(ac3 (e':=e') H a R.ok R.nd).block;have hp:=okp R.ok;have q1:=R.len;have t:=R.lem;have u:=R.le;have v:=n.le;simp only[An,aRf]at q1;refine⟨s',l,m,b,f,⟨a,h1,p,?_,g2⟩,n.ok,?_,by omega,by omega,by omega,λc h'=>?_⟩
 ·unfold eD;rw[h2,sb]
 ·cases s' with
  | g _=>rfl
  | b _=>rfl
  | d j=>have:=(n.dm j rfl).2.2.1;omega
 ·obtain⟨k,r1,w,q,x,_⟩:=n.good c h';obtain⟨k0,r,y,o,z⟩:=R.good k r1;rw[aRe]at o;subst o;refine⟨k0,r,by omega,rfl,q,?_⟩;rw[fO,cy];omega
theorem Rs.nd0 {v:Bool} {s s':JS} {n m:ae} (h:Rs ts v 0 s s' n m):s'.nd=true:=by
 cases s' with
 | g _=>rfl
 | b _=>rfl
 | d j=>have:=(h.dm j rfl).2.2.1;omega
theorem Vd (H:Tk ts e) {i:Nat} (hi:i<=ts.length):C1 ts e e' false 0 (.g i) mM ki:=by
 have hL:=H.len;have s:(JS.g i).Ok ts:=hi
 obtain⟨c,j,hf,T4,u,O,P⟩:∃(c:Nat) (j:Int),(j=0\/j=1)/\i<=c/\c<=ts.length/\
   (az (pS ts e (.g i)) [112,114,105,118,97,116,101]>>=λ(q,a)=>(if q=true then some (a.fT,a.fI,a.ay,a.ax,1)else some (a.fT,a.fI,a.ay,a.ax,0)):Option ((List ai)×Int×Int×Int×Int))=some ((pS ts e (.g c)).fT,(pS ts e (.g c)).fI,(pS ts e (.g c)).ay,(pS ts e (.g c)).ax,j)/\
   (ar (qS ts e' (.g i)) [112,114,105,118,97,116,101]>>=λ(q,a)=>(if q=true then some (a.aq,a.bF,a.ay,a.ax,1)else some (a.aq,a.bF,a.ay,a.ax,0)):Option ((List ai)×Int×Int×Bool×Int))=some ((qS ts e' (.g c)).aq,(qS ts e' (.g c)).bF,(qS ts e' (.g c)).ay,(qS ts e' (.g c)).ax,j):=by
  cases h:tw ts i [112,114,105,118,97,116,101]with
  | true=>
   refine⟨i+1,1,.inr rfl,aSd i,cd h,?_,?_⟩
   ·refine dC (ck H h) ?_;rfl
   ·refine dC (bL H h) ?_;rfl
  | false=>
   refine⟨i,0,.inl rfl,Of i,hi,?_,?_⟩
   ·refine bm (aZ (w:=[112,114,105,118,97,116,101]) H s h) ?_;rfl
   ·refine bm (aF (w:=[112,114,105,118,97,116,101]) H s h) ?_;rfl
 have r:(JS.g c).Ok ts:=u;have S0:=mM.eq_1 (pS ts e (.g i));have d:=ki.eq_1 (qS ts e' (.g i));rw[O,sb]at S0;rw[P,sb]at d;dsimp only at S0 d;rw[jm,dz H _ r 2 [] aUF,sb]at S0;rw[du,qi H _ r,sb]at d;dsimp only at S0 d;rw[a0k]at S0;by_cases k2:kd ts c=2
 ·rw[At (by rw[aRi];exact k2),nu H _ r 2,sb]at S0;rw[At (show(tok ts (JS.g c).pos).ah=2 from k2),nM H _ r rfl 2 (.inl rfl),sb]at d;dsimp only at S0 d;have v:=qY r (k:=2) aUF;have Q:=tI (ts:=ts) (.g c) 2;have t2:=jr H (.g c) 2;have J:=my (ts:=ts) (.g c) 2;have J:c<=(nS ts (.g c) 2).pos:=J
  have K:∀k,nS ts (.g c) 2=.g k->k=c+1:=λk R=>by
   obtain⟨i0,q1,y,_⟩:=lM R;cases q1;exact y
  generalize nT ts (.g c) 2=t at*;generalize nS ts (.g c) 2=s2 at*;rcases I6 (ts:=ts) s2 [61]with h | ⟨f,rfl,h⟩
  ·rw[aZ (w:=[61]) H v h,sb]at S0;rw[aF (w:=[61]) H v h (.inr Q),sb]at d;dsimp only at S0 d;rw[As aUF,dW H _ v [59],sb]at S0;rw[As aUF,eY H _ v [59],sb]at d;refine⟨_,_,_,S0,d,Rs.node aUF (kE v _) (mH _ _) (by have:=gq (ts:=ts) s2 [59];omega) (λA h'=>?_)⟩;obtain⟨k,q1,y,_⟩:=ft h';have:=K k q1;refine⟨by omega,rfl,rfl,?_⟩;rw[cy,fD,ep];simp only[An];omega
  ·have:=K f rfl;subst this;have z:=cd h;have o:(JS.g (c+1+1)).Ok ts:=z;rw[ck H h,sb]at S0;rw[bL H h,sb]at d;dsimp only at S0 d;rw[At rfl,dz H _ o 4 [] aUF,sb]at S0;rw[At rfl]at d;dsimp only at S0;rw[a0k]at S0;cases p:kx ts (c+1+1)with
   | true=>
    obtain⟨n,B,g2,L,C⟩:=ac4 (e':=e') H z p;have D:(JS.g (c+1+1+1)).Ok ts:=C;rw[g2,sb]at d;dsimp only at d;rw[eY H _ D [59],sb]at d
    have S1:mM (pS ts e (.g i))=some (.mk 54 j t [n],pS ts e (wS ts (.g (c+1+1+1)) [59])):=by
     rw[S0]
     have fin:(aH (pS ts e (.g (c+1+1)))>>=λ(S,E)=>aQ E [59]>>=λT=>some ((ae.mk 54 j t ([S]:List ae)),T))=some (.mk 54 j t [n],pS ts e (wS ts (.g (c+1+1+1)) [59])):=by
      rw[B,sb];dsimp only;rw[dW H _ D [59],sb]
     by_cases k4:kd ts (c+1+1)=4
     ·rw[At (by rw[aRi];exact k4)];exact fin
     rw[As (by rw[aRi];exact k4),dz H _ o 5 [] aUF,sb];dsimp only;rw[a0k];by_cases x:kd ts (c+1+1)=5
     ·rw[At (by rw[aRi];exact x)];exact fin
     rw[As (by rw[aRi];exact x),dz H _ o 3 [110,117,108,108] aUF,sb];dsimp only;rw[a0n H aUF aUF];cases U:tw ts (c+1+1) [110,117,108,108]with
     | true=>rw[At rfl];exact fin
     | false=>
      rw[As aUF,dz H _ o 3 [116,114,117,101] aUF,sb];dsimp only;rw[a0n H aUF aUF];cases V:tw ts (c+1+1) [116,114,117,101]with
      | true=>rw[At rfl];exact fin
      | false=>
       rw[As aUF,dz H _ o 3 [102,97,108,115,101] aUF,sb];dsimp only;rw[a0n H aUF aUF];cases hf:tw ts (c+1+1) [102,97,108,115,101]with
       | true=>rw[At rfl];exact fin
       | false=>
        unfold kx at p;rw[U,V,hf,an.2 k4,an.2 x]at p;exact absurd p aUF
    refine⟨_,_,_,S1,d,Rs.node aUF (kE D _) (mH _ _) (by have:=gq (ts:=ts) (.g (c+1+1+1)) [59];have:c+1+1+1<=_:=this;omega) (λA h'=>?_)⟩;obtain⟨k,q1,y,_⟩:=ft h';cases q1;refine⟨by omega,rfl,rfl,?_⟩;rw[cy];omega
   | false=>
    rw[ase H z p,sb]at d;dsimp only at d;have M:(JS.b (c+1+1)).Ok ts:=z;rw[eY H _ M [59],sb]at d
    have S1:mM (pS ts e (.g i))=some (.mk 0 0 [] [],pS ts e (.b (c+1+1))):=by
     rw[S0];unfold kx at p;simp only[aSB,an]at p;obtain⟨k4,x,h1,h2,W⟩:=p;rw[As (by rw[aRi];exact k4),dz H _ o 5 [] aUF,sb];dsimp only;rw[a0k,As (by rw[aRi];exact x),dz H _ o 3 [110,117,108,108] aUF,sb];dsimp only;rw[a0n H aUF aUF,W,As aUF,dz H _ o 3 [116,114,117,101] aUF,sb];dsimp only;rw[a0n H aUF aUF,h1,As aUF,dz H _ o 3 [102,97,108,115,101] aUF,sb];dsimp only;rw[a0n H aUF aUF,h2,As aUF,qZ H _ o,sb];rfl
    exact⟨.b (c+1+1),_,_,S1,d,⟨M,by show i<=c+1+1;omega,λi h=>aUZ,λi h=>aUZ⟩⟩
 ·rw[As (by rw[aRi];exact k2)]at S0;rw[As (show ¬(tok ts (JS.g c).pos).ah=2 from k2)]at d
  obtain⟨f,f2,X,F,Y,Z⟩:∃(f:Nat) (f2:Int),c<=f/\f<=ts.length/\
    (az (pS ts e (.g c)) [115,116,97,116,105,99]>>=λ(q,a)=>(if q=true then some (a.fT,a.fI,a.ay,a.ax,bq (j+2))else some (a.fT,a.fI,a.ay,a.ax,j)):Option ((List ai)×Int×Int×Int×Int))=some ((pS ts e (.g f)).fT,(pS ts e (.g f)).fI,(pS ts e (.g f)).ay,(pS ts e (.g f)).ax,f2)/\
    (ar (qS ts e' (.g c)) [115,116,97,116,105,99]>>=λ(q,a)=>(if q=true then some (a.aq,a.bF,a.ay,a.ax,bq (j+2))else some (a.aq,a.bF,a.ay,a.ax,j)):Option ((List ai)×Int×Int×Bool×Int))=some ((qS ts e' (.g f)).aq,(qS ts e' (.g f)).bF,(qS ts e' (.g f)).ay,(qS ts e' (.g f)).ax,f2):=by
   cases h:tw ts c [115,116,97,116,105,99]with
   | true=>
    refine⟨c+1,bq (j+2),aSd c,cd h,?_,?_⟩
    ·refine dC (ck H h) ?_;rfl
    ·refine dC (bL H h) ?_;rfl
   | false=>
    refine⟨c,j,Of c,u,?_,?_⟩
    ·refine bm (aZ (w:=[115,116,97,116,105,99]) H r h) ?_;rfl
    ·refine bm (aF (w:=[115,116,97,116,105,99]) H r h) ?_;rfl
  have G:(JS.g f).Ok ts:=F;rw[Y,sb]at S0;rw[Z,sb]at d;dsimp only at S0 d;have I:=kE G [102,117,110,99,116,105,111,110];have N:=gq (ts:=ts) (.g f) [102,117,110,99,116,105,111,110];have N:f<=(wS ts (.g f) [102,117,110,99,116,105,111,110]).pos:=N;have d3:=mH (ts:=ts) (.g f) [102,117,110,99,116,105,111,110];have o4:=qY I (k:=3) aUF;have b4:=my (ts:=ts) (wS ts (.g f) [102,117,110,99,116,105,111,110]) 3;have d4:=tI (ts:=ts) (wS ts (.g f) [102,117,110,99,116,105,111,110]) 3;have t4:=jr H (wS ts (.g f) [102,117,110,99,116,105,111,110]) 3;rw[jm,dW H _ G [102,117,110,99,116,105,111,110],sb,nu H _ I 3,sb]at S0;rw[du,eY H _ G [102,117,110,99,116,105,111,110],sb,nM H _ I d3 3 (.inr rfl),sb]at d;dsimp only at S0 d;obtain⟨s',l,m,b,b',⟨s5,B,g2,L,C⟩,r1,r2,r3,r4,r5,r6⟩:=Tm (e':=e') H _ o4 d4;rw[B,sb]at S0;rw[L,sb]at d;dsimp only at S0 d;rw[g2,sb]at S0;rw[C,sb]at d;dsimp only at S0 d;rw[fq _ aUE,sb]at S0 d;refine⟨_,_,_,S0,d,Rs.node aUF r1 r2 aUE (λA h'=>?_)⟩;obtain⟨k,q1,y,q3,q4,q5⟩:=r6 A h';obtain⟨k1,q6,q7,_⟩:=lM q1;obtain⟨k2,q8,q9,_⟩:=ft q6;cases q8;subst q3;subst q4;exact⟨by omega,rfl,rfl,by omega⟩
end
section
variable {ts:List ai}{e e':Int}
theorem M4 (H:Tk ts e):∀(N:Nat) (s:JS) (l m:List ae),s.Ok ts->s.nd=true->(∀i,s=.g i->ts.length - i<N/\l.length<=i+10/\m.length<=i+10)->
  ∃s' x y,fh (pS ts e s).fT (pS ts e s).fI (pS ts e s).ay (pS ts e s).ax l=some ((pS ts e s').fT,(pS ts e s').fI,(pS ts e s').ay,(pS ts e s').ax,l++x)/\
   dZ (qS ts e' s).aq (qS ts e' s).bF (qS ts e' s).ay (qS ts e' s).ax m=some ((qS ts e' s').aq,(qS ts e' s').bF,(qS ts e' s').ay,(qS ts e' s').ax,m++y)/\
   s'.Ok ts/\s'.nd=true/\s.pos<=s'.pos/\x.length+s.pos<=s'.pos+1/\y.length+s.pos<=s'.pos+1/\((∃j,s=.b j)->x=[]/\y=[])/\(∀a,s'=.g a->∃i,s=.g i/\i<=a/\x=y/\(wl x:Int)+16384*(i:Int)<=16384*(a:Int))
 | N,.d j,l,m,_,hd,_=>by cases hd
 | N,.b j,l,m,hs,_,_=>by
  refine⟨.b j,[],[],?_,?_,hs,rfl,Of _,by show 0+j<=j+1;omega,by show 0+j<=j+1;omega,λ_=>⟨rfl,rfl⟩,λa h=>by cases h⟩
  ·rw[fh,jm,aRz];refine bm (aZ (w:=[117,115,101]) H hs rfl) ?_;rfl
  ·rw[dZ,du,aRz];refine bm (aF (w:=[117,115,101]) H hs rfl) ?_;rfl
 | 0,.g i,_,_,_,_,h=>by have:=(h i rfl).1;omega
 | N+1,.g i,l,m,hs,_,r=>by
  have hL:=H.len;obtain⟨r,M,hm⟩:=r i rfl;have hi:i<=ts.length:=hs;cases h1:tw ts i [117,115,101]with
  | false=>
   refine⟨.g i,[],[],?_,?_,hs,rfl,Of _,by show 0+i<=i+1;omega,by show 0+i<=i+1;omega,λ_=>⟨rfl,rfl⟩,λa h=>by cases h;exact⟨i,rfl,Of _,rfl,by rw[ep];omega⟩⟩
   ·rw[fh,jm,aRz];refine bm (aZ (w:=[117,115,101]) H hs h1) ?_;rfl
   ·rw[dZ,du,aRz];refine bm (aF (w:=[117,115,101]) H hs h1) ?_;rfl
  | true=>
   have B:=cd h1;have f:(JS.g (i+1)).Ok ts:=B;have n:=qY f (k:=3) aUF;have O:=tI (ts:=ts) (.g (i+1)) 3;have t2:=jr H (.g (i+1)) 3;have u:=my (ts:=ts) (.g (i+1)) 3;have u:i+1<=(nS ts (.g (i+1)) 3).pos:=u;have C:=kE n [59];have v:=mH (ts:=ts) (nS ts (.g (i+1)) 3) [59];have P:=gq (ts:=ts) (nS ts (.g (i+1)) 3) [59]
   have o:∀k,wS ts (nS ts (.g (i+1)) 3) [59]=.g k->k=i+3:=λk c=>by
    obtain⟨k1,q1,z,_⟩:=ft c;obtain⟨k2,D,Q,_⟩:=lM q1;cases D;omega
   have S0:fh (pS ts e (.g i)).fT (pS ts e (.g i)).fI (pS ts e (.g i)).ay (pS ts e (.g i)).ax l=fh (pS ts e (wS ts (nS ts (.g (i+1)) 3) [59])).fT (pS ts e (wS ts (nS ts (.g (i+1)) 3) [59])).fI (pS ts e (wS ts (nS ts (.g (i+1)) 3) [59])).ay (pS ts e (wS ts (nS ts (.g (i+1)) 3) [59])).ax (l++[.mk 53 0 (nT ts (.g (i+1)) 3) []]):=by
    conv=>lhs;rw[fh,jm]
    refine dC (ck H h1) ?_;refine a7 (nu H _ f 3) ?_;refine a7 (fq _ aUE) ?_;refine a7 (dW H _ n [59]) ?_;rfl
   have E:dZ (qS ts e' (.g i)).aq (qS ts e' (.g i)).bF (qS ts e' (.g i)).ay (qS ts e' (.g i)).ax m=dZ (qS ts e' (wS ts (nS ts (.g (i+1)) 3) [59])).aq (qS ts e' (wS ts (nS ts (.g (i+1)) 3) [59])).bF (qS ts e' (wS ts (nS ts (.g (i+1)) 3) [59])).ay (qS ts e' (wS ts (nS ts (.g (i+1)) 3) [59])).ax (m++[.mk 53 0 (nT ts (.g (i+1)) 3) []]):=by
    conv=>lhs;rw[dZ,du]
    refine dC (bL H h1) ?_;refine a7 (nM H _ f rfl 3 (.inr rfl)) ?_;refine a7 (fq _ aUE) ?_;refine a7 (eY H _ n [59]) ?_;rfl
   rw[S0,E];generalize wS ts (nS ts (.g (i+1)) 3) [59]=F at*;generalize nT ts (.g (i+1)) 3=t at*
   obtain⟨s',x,y,A,f2,G,I,R,p,q,J,K⟩:=M4 H N F (l++[.mk 53 0 t []]) (m++[.mk 53 0 t []]) C v (λk c=>by
    have:=o k c;simp only[It,so,An];omega)
   rw[aRm]at A f2
   have hx:x.length+1+i<=s'.pos+1/\y.length+1+i<=s'.pos+1:=by
    rcases Aa v with⟨k,c⟩ | ⟨j,hj⟩
    ·have:=o k c;rw[c]at p q;have p:x.length+k<=_:=p;have q:y.length+k<=_:=q;omega
    ·obtain⟨q1,z⟩:=J ⟨j,hj⟩;rw[q1,z];simp only[An];omega
   refine⟨s',[.mk 53 0 t []]++x,[.mk 53 0 t []]++y,A,f2,G,I,by show i<=_;omega,?_,?_,λ⟨j,hj⟩=>(by cases hj),λa h=>?_⟩
   ·simp only[It,so,An];show _+i<=_;omega
   ·simp only[It,so,An];show _+i<=_;omega
   ·obtain⟨k,r1,S,L,T⟩:=K a h;have:=o k r1;subst L;refine⟨i,rfl,by omega,rfl,?_⟩;rw[fO,cy,fD,ep];omega
theorem M5 (H:Tk ts e):∀(N:Nat) (s:JS) (l m:List ae),s.Ok ts->s.nd=true->(∀i,s=.g i->ts.length - i<N/\l.length<=i+20/\m.length<=i+20)->
  ∃s' x y,fp (pS ts e s).fT (pS ts e s).fI (pS ts e s).ay (pS ts e s).ax l=some ((pS ts e s').fT,(pS ts e s').fI,(pS ts e s').ay,(pS ts e s').ax,l++x)/\
   ed (qS ts e' s).aq (qS ts e' s).bF (qS ts e' s).ay (qS ts e' s).ax m=some ((qS ts e' s').aq,(qS ts e' s').bF,(qS ts e' s').ay,(qS ts e' s').ax,m++y)/\
   s'.Ok ts/\s'.nd=true/\s.pos<=s'.pos/\x.length+s.pos<=s'.pos+1/\y.length+s.pos<=s'.pos+1/\((∃j,s=.b j)->x=[]/\y=[])/\(∀c,s'=.g c->∃i,s=.g i/\i<c/\x=y/\(wl x:Int)+16384*(i:Int)+16384<=16384*(c:Int))
 | N,.d j,l,m,_,hd,_=>by cases hd
 | N,.b j,l,m,hs,_,_=>by
  refine⟨.b j,[],[],?_,?_,hs,rfl,Of _,by show 0+j<=j+1;omega,by show 0+j<=j+1;omega,λ_=>⟨rfl,rfl⟩,λc h=>by cases h⟩
  ·rw[fp];simp only[qh H,aRc,aRz]
  ·rw[ed];simp only[jq,aRj,aRz]
 | 0,.g i,_,_,_,_,h=>by have:=(h i rfl).1;omega
 | N+1,.g i,l,m,hs,_,u=>by
  have hL:=H.len;obtain⟨u,K,hm⟩:=u i rfl;have hi:i<=ts.length:=hs;cases h1:tw ts i [125]with
  | true=>
   have B:=cd h1;refine⟨.g (i+1),[],[],?_,?_,B,rfl,aSd i,by show 0+i<=i+1+1;omega,by show 0+i<=i+1+1;omega,λ_=>⟨rfl,rfl⟩,λc h=>by cases h;exact⟨i,rfl,aRh i,rfl,by rw[ep];omega⟩⟩
   ·rw[fp];simp only[kg,aRj,jm,aRz];refine dC (ck H h1) ?_;rfl
   ·rw[ed];simp only[jo,aRc,du,aRz];refine dC (bL H h1) ?_;rfl
  | false=>
   obtain⟨a,n,q,C,g2,f⟩:=Vd (e':=e') H hi;have hle:i<=a.pos:=f.le;have v:=f.nd0
   have S0:fp (pS ts e (.g i)).fT (pS ts e (.g i)).fI (pS ts e (.g i)).ay (pS ts e (.g i)).ax l=fp (pS ts e a).fT (pS ts e a).fI (pS ts e a).ay (pS ts e a).ax (l++[n]):=by
    conv=>lhs;rw[fp]
    simp only[kg,aRj,jm];refine bm (aZ (w:=[125]) H hs h1) ?_;refine a7 C ?_;refine a7 (fq _ aUE) ?_;rfl
   have D:ed (qS ts e' (.g i)).aq (qS ts e' (.g i)).bF (qS ts e' (.g i)).ay (qS ts e' (.g i)).ax m=ed (qS ts e' a).aq (qS ts e' a).bF (qS ts e' a).ay (qS ts e' a).ax (m++[q]):=by
    conv=>lhs;rw[ed]
    simp only[jo,aRc,du];refine bm (aF (w:=[125]) H hs h1) ?_;refine a7 g2 ?_;refine a7 (fq _ aUE) ?_;rfl
   rw[S0,D]
   obtain⟨s',x,y,z,f2,E,F,L,r,t,G,I⟩:=M5 H N a (l++[n]) (m++[q]) f.ok v (λk o=>by
    obtain⟨k0,q1,p,_⟩:=f.good k o;cases q1;have A:k<=ts.length:=by have:=f.ok;rw[o]at this;exact this
    simp only[It,so,An];omega)
   rw[aRm]at z f2
   have hx:x.length+1+i<=s'.pos+1/\y.length+1+i<=s'.pos+1:=by
    rcases Aa v with⟨k,o⟩ | ⟨j,hj⟩
    ·obtain⟨k0,q1,p,_⟩:=f.good k o;cases q1;rw[o]at r t;have r:x.length+k<=_:=r;have t:y.length+k<=_:=t;omega
    ·obtain⟨q1,p⟩:=G ⟨j,hj⟩;rw[q1,p];simp only[An];omega
   refine⟨s',[n]++x,[q]++y,z,f2,E,F,by show i<=_;omega,?_,?_,λ⟨j,hj⟩=>(by cases hj),λc h=>?_⟩
   ·simp only[It,so,An];show _+i<=_;omega
   ·simp only[It,so,An];show _+i<=_;omega
   ·obtain⟨k,r1,M,J,O⟩:=I c h;obtain⟨k0,q1,p,A,P,_⟩:=f.good k r1;cases q1;subst J;subst A;refine⟨i,rfl,by omega,rfl,?_⟩;rw[fO,cy];omega
theorem J0 (H:Tk ts e) (s:JS) (hs:s.Ok ts) (hd:s.nd=true) (a:List ae) (R:a.length<=1) (k0:Int) (t0:av):∃s' x y,
  (aQ (pS ts e s) [123]>>=λb=>(fh b.fT b.fI b.ay b.ax a:Option ((List ai)×Int×Int×Int×(List ae)))>>=λ(w,z,A,d,B)=>(fp w z A d B:Option ((List ai)×Int×Int×Int×(List ae)))>>=λ(f,j,l,m,n)=>some ((ae.mk k0 0 t0 n),(aP.mk f j l m)))=some (.mk k0 0 t0 (a++x),pS ts e s')/\
  jd (qS ts e' s)=some (y,qS ts e' s')/\s'.Ok ts/\s'.nd=true/\s.pos<=s'.pos/\y.length<=9000/\
  (∀c,s'=.g c->∃i,s=.g i/\i+1<c/\x=y/\(wl x:Int)+16384*(i:Int)+32768<=16384*(c:Int)):=by
 have hL:=H.len;have r:=kE hs [123];have C:=mH (ts:=ts) s [123];have S:=gq (ts:=ts) s [123];have I4:=okp r;obtain⟨s2,o,y1,D,f2,t,E,T,p,q,U,F⟩:=M4 (e':=e') H (ts.length+1) (wS ts s [123]) a [] r C (λi hi=>⟨by omega,by omega,by simp⟩);have V:=okp t
 obtain⟨s',G,I,u,g2,v,J,W,X,Y,Z,K⟩:=M5 (e':=e') H (ts.length+1) s2 (a++o) ([]++y1) t E (λi hi=>by
  rw[hi]at p q;have p:o.length+_<=i+1:=p;have q:y1.length+_<=i+1:=q;simp only[It,An];omega)
 have L:=okp v;rw[aRm]at u;rw[aRe]at g2 f2;refine⟨s',o++G,y1++I,?_,?_,v,J,by omega,by rw[It];omega,λc h=>?_⟩
 ·refine a7 (dW H _ hs [123]) ?_;refine a7 D ?_;refine a7 u ?_;rfl
 ·unfold jd;refine a7 (eY H _ hs [123]) ?_;refine a7 f2 ?_;refine a7 g2 ?_;rfl
 ·obtain⟨k,r1,r2,M,r4⟩:=K c h;obtain⟨k1,N,r6,O,r8⟩:=F k r1;obtain⟨k2,P,Q,_⟩:=ft N;subst M;subst O;exact⟨k2,P,by omega,rfl,by rw[fO];omega⟩
theorem asf (H:Tk ts e) {i:Nat} (s:i<ts.length) (M:tw ts i [59]=false) (N G:List ae) (hl:G.length<=9000):∃s' n m,
  (bV (pS ts e (.g i)).fT (pS ts e (.g i)).fI (pS ts e (.g i)).ay (pS ts e (.g i)).ax N G=bV (pS ts e s').fT (pS ts e s').fI (pS ts e s').ay (pS ts e s').ax N (G++[n]))/\
  mK (qS ts e' (.g i))=some (m,qS ts e' s')/\Rs ts false 0 (.g i) s' n m:=by
 have hL:=H.len;have hs:(JS.g i).Ok ts:=aRL s;have hi:i<=ts.length:=aRL s
 obtain⟨u,X,Y,Z⟩:∃u:Bool,(u=true->tw ts i [102,117,110,99,116,105,111,110]=true)/\
   (bp (pS ts e (.g i)) 0 3 [102,117,110,99,116,105,111,110]>>=λ(O,v)=>(if O=true then bp v 1 3 []>>=λ(oA,I)=>some (I.fT,I.fI,I.ay,I.ax,oA)else some (v.fT,v.fI,v.ay,v.ax,false)):Option ((List ai)×Int×Int×Int×Bool))=some ((pS ts e (.g i)).fT,(pS ts e (.g i)).fI,(pS ts e (.g i)).ay,(pS ts e (.g i)).ax,u)/\
   (ba (qS ts e' (.g i)) 0 [102,117,110,99,116,105,111,110]>>=λ(v9,f)=>(if v9=true then cC f 1>>=λ(kH,J)=>some (J.aq,J.bF,J.ay,J.ax,(kH.ah==3))else some (f.aq,f.bF,f.ay,f.ax,false)):Option ((List ai)×Int×Int×Bool×Bool))=some ((qS ts e' (.g i)).aq,(qS ts e' (.g i)).bF,(qS ts e' (.g i)).ay,(qS ts e' (.g i)).ax,u):=by
  cases hf:tw ts i [102,117,110,99,116,105,111,110]with
  | false=>
   refine⟨false,λh=>aUZ,?_,?_⟩
   ·rw[dz H _ hs 3 [102,117,110,99,116,105,111,110] aUF,sb];dsimp only;rw[a0n H aUF aUF,hf,As aUF]
   ·rw[fF H _ hs,sb];dsimp only;rw[show tw ts (JS.g i).pos [102,117,110,99,116,105,111,110]=false from hf,As aUF]
  | true=>
   refine⟨kd ts (i+1)==3,λ_=>rfl,?_,?_⟩
   ·rw[dz H _ hs 3 [102,117,110,99,116,105,111,110] aUF,sb];dsimp only;rw[a0n H aUF aUF,hf,At rfl,aCw H _ hs 3 [] aUF,sb];dsimp only
    rw[show aS ts (.g i) 1 3 []=(kd ts (i+1)==3) by
     show(kd ts (i+1)==3&&(([]:av)==([]:av)||_))=_;rw[show(([]:av)==([]:av))=true from rfl,aSl,aRE]]
   ·rw[fF H _ hs,sb];dsimp only;rw[show tw ts (JS.g i).pos [102,117,110,99,116,105,111,110]=true from hf,At rfl,aqW H _ hs,sb];rfl
 have a:=mK.eq_1 (qS ts e' (.g i));rw[Z,sb]at a;dsimp only at a;have S0:=bV.eq_1 (pS ts e (.g i)).fT (pS ts e (.g i)).fI (pS ts e (.g i)).ay (pS ts e (.g i)).ax N G;have uN:(pS ts e (.g i)).fI<((pS ts e (.g i)).fT.length:Int):=by show(i:Int)<(ts.length:Int);omega
 rw[At (of_eq_true kg),At uN,jm,aZ (w:=[59]) H hs M,sb]at S0;dsimp only at S0;rw[As aUF,Y,sb]at S0;dsimp only at S0;cases u with
 | true=>
  rw[At rfl,qv H hi]at a;rw[At rfl,re H hi]at S0;have j:(JS.g (i+1)).Ok ts:=s;have p:=qY j (k:=3) aUF;have z:=tI (ts:=ts) (.g (i+1)) 3;have t2:=jr H (.g (i+1)) 3;have o:=my (ts:=ts) (.g (i+1)) 3;have o:i+1<=(nS ts (.g (i+1)) 3).pos:=o;obtain⟨s',l,m,b,b',⟨s5,P,g2,Q,g4⟩,r1,r2,r3,r4,r5,r6⟩:=Tm (e':=e') H _ p z;rw[nM H _ j rfl 3 (.inr rfl),sb]at a;dsimp only at a;rw[Q,sb]at a;dsimp only at a;rw[g4,sb]at a;dsimp only at a;rw[fq _ aUE,sb]at a;refine⟨s',.mk 49 0 (nT ts (.g (i+1)) 3) (l++[b]),_,?_,a,Rs.node aUF r1 r2 aUE (λq h'=>?_)⟩
  ·rw[S0,nu H _ j 3,sb];dsimp only;rw[P,sb];dsimp only;rw[g2,sb];dsimp only;rw[fq _ aUE,sb,fq _ aUE,sb]
  ·obtain⟨k,q1,R,d,r,q5⟩:=r6 q h';obtain⟨k1,q6,q7,_⟩:=lM q1;cases q6;subst d;subst r;exact⟨by omega,rfl,rfl,by omega⟩
 | false=>
  rw[As aUF,du]at a;rw[As aUF,jm]at S0;cases hc:tw ts i [99,108,97,115,115]with
  | true=>
   have j:(JS.g (i+1)).Ok ts:=s;rw[bL H hc,sb]at a;rw[ck H hc,sb]at S0;dsimp only at S0 a;rw[At rfl]at S0;rw[At rfl,nM H _ j rfl 3 (.inr rfl),sb]at a;dsimp only at a;have p:=qY j (k:=3) aUF;have z:=tI (ts:=ts) (.g (i+1)) 3;have t2:=jr H (.g (i+1)) 3;have o:=my (ts:=ts) (.g (i+1)) 3;have o:i+1<=(nS ts (.g (i+1)) 3).pos:=o
   have K:∀k,nS ts (.g (i+1)) 3=.g k->k=i+2:=λk A=>by
    obtain⟨k2,d,r,_⟩:=lM A;cases d;omega
   have c:=qI.eq_1 (pS ts e (.g (i+1))) 50;rw[nu H _ j 3,sb]at c;dsimp only at c;rw[At rfl]at c;generalize nT ts (.g (i+1)) 3=t at*;generalize nS ts (.g (i+1)) 3=s2 at*;rcases I6 (ts:=ts) s2 [101,120,116,101,110,100,115]with h | ⟨i2,rfl,h⟩
   ·rw[aZ (w:=[101,120,116,101,110,100,115]) H p h,sb]at c;dsimp only at c;rw[As aUF,sb]at c;dsimp only at c;rw[jm]at c;obtain⟨s',x,y,B,f2,C,D,U,V,E⟩:=J0 (e':=e') H s2 p z [] aUG 50 t;rw[B]at c;rw[aF (w:=[101,120,116,101,110,100,115]) H p h,sb]at a;dsimp only at a;rw[As aUF,f2,sb]at a;dsimp only at a;rw[show must (y.length*56<=140737488355328)=some ()from At aUE,sb]at a;refine⟨s',.mk 50 0 t ([]++x),_,?_,a,Rs.node aUF C D aUE (λq h'=>?_)⟩
    ·rw[S0,c,sb];dsimp only;rw[fq _ aUE,sb]
    ·obtain⟨k,q1,R,d,r⟩:=E q h';have:=K k q1;subst d;exact⟨by omega,rfl,rfl,by rw[aRe];omega⟩
   ·have:=K i2 rfl;subst this;have S:(JS.g (i+2+1)).Ok ts:=cd h;have o4:=qY S (k:=3) aUF;have d4:=tI (ts:=ts) (.g (i+2+1)) 3;have t4:=jr H (.g (i+2+1)) 3;have W:=my (ts:=ts) (.g (i+2+1)) 3;have W:i+2+1<=(nS ts (.g (i+2+1)) 3).pos:=W;rw[ck H h,sb]at c;dsimp only at c;rw[At rfl,nu H _ S 3,sb]at c;dsimp only at c;rw[show must (1*56<=140737488355328)=some ()from rfl,sb,sb]at c;dsimp only at c;rw[jm]at c;rw[bL H h,sb]at a;dsimp only at a;rw[At rfl,nM H _ S rfl 3 (.inr rfl),sb]at a;dsimp only at a;rw[show must (1*56<=140737488355328)=some ()from rfl,sb]at a
    have T:∀k,nS ts (.g (i+2+1)) 3=.g k->k=i+4:=λk A=>by
     obtain⟨k2,d,r,_⟩:=lM A;cases d;omega
    generalize nT ts (.g (i+2+1)) 3=F at*;generalize nS ts (.g (i+2+1)) 3=s4 at*;obtain⟨s',x,y,B,f2,C,D,U,V,E⟩:=J0 (e':=e') H s4 o4 d4 [.mk 52 0 F []] aUG 50 t;rw[B]at c;rw[f2,sb]at a;dsimp only at a;rw[iz aUQ,sb]at a;refine⟨s',.mk 50 0 t ([.mk 52 0 F []]++x),_,?_,a,Rs.node aUF C D aUE (λq h'=>?_)⟩
    ·rw[S0,c,sb];dsimp only;rw[fq _ aUE,sb]
    ·obtain⟨k,q1,R,d,r⟩:=E q h';have:=T k q1;subst d;exact⟨by omega,rfl,rfl,by rw[fO,cy,fD,ep];omega⟩
  | false=>
   rw[aF (w:=[99,108,97,115,115]) H hs hc,sb]at a;dsimp only at a;rw[As aUF]at a;rw[aZ (w:=[99,108,97,115,115]) H hs hc,sb]at S0;dsimp only at S0;rw[As aUF]at S0;cases L:tw ts i [116,114,97,105,116]with
   | true=>
    have j:(JS.g (i+1)).Ok ts:=s;rw[bL H L,sb]at a;dsimp only at a;rw[At rfl,nM H _ j rfl 3 (.inr rfl),sb]at a;dsimp only at a;rw[ck H L,sb]at S0;dsimp only at S0;rw[At rfl]at S0;have p:=qY j (k:=3) aUF;have z:=tI (ts:=ts) (.g (i+1)) 3;have t2:=jr H (.g (i+1)) 3;have o:=my (ts:=ts) (.g (i+1)) 3;have o:i+1<=(nS ts (.g (i+1)) 3).pos:=o
    have K:∀k,nS ts (.g (i+1)) 3=.g k->k=i+2:=λk A=>by
     obtain⟨k2,d,r,_⟩:=lM A;cases d;omega
    have c:=qI.eq_1 (pS ts e (.g (i+1))) 51;rw[nu H _ j 3,sb]at c;dsimp only at c;rw[As aUF,sb]at c;dsimp only at c;rw[jm]at c;generalize nT ts (.g (i+1)) 3=t at*;generalize nS ts (.g (i+1)) 3=s2 at*;obtain⟨s',x,y,B,f2,C,D,U,V,E⟩:=J0 (e':=e') H s2 p z [] aUG 51 t;rw[B]at c;rw[f2,sb]at a;refine⟨s',.mk 51 0 t ([]++x),_,?_,a,Rs.node aUF C D aUE (λq h'=>?_)⟩
    ·rw[S0,c,sb];dsimp only;rw[fq _ aUE,sb]
    ·obtain⟨k,q1,R,d,r⟩:=E q h';have:=K k q1;subst d;exact⟨by omega,rfl,rfl,by rw[aRe];omega⟩
   | false=>
    rw[aF (w:=[116,114,97,105,116]) H hs L,sb]at a;dsimp only at a;rw[As aUF]at a;rw[aZ (w:=[116,114,97,105,116]) H hs L,sb]at S0;dsimp only at S0;rw[As aUF]at S0;obtain⟨s',n,m,P,g2,Q⟩:=(ac3 (e':=e') H (.g i) hs rfl).stmt;rw[g2,sb]at a;refine⟨s',n,m,?_,a,Q⟩;rw[S0,P,sb];dsimp only;rw[fq _ aUE,sb]
theorem xz (H:Tk ts e):∀(N:Nat) (s:JS) (c f l m:List ae),s.Ok ts->s.nd=true->(∀i,s=.g i->ts.length - i<N/\l.length<=i/\l=m/\(wl l:Int)<=16384*(i:Int))->
  ∃s' x y,bV (pS ts e s).fT (pS ts e s).fI (pS ts e s).ay (pS ts e s).ax c l=some ((pS ts e s').fT,(pS ts e s').fI,(pS ts e s').ay,(pS ts e s').ax,c,x)/\
   dN ts f (qS ts e' s).aq (qS ts e' s).bF (qS ts e' s).ay (qS ts e' s).ax m=some (f,(qS ts e' s').aq,(qS ts e' s').bF,(qS ts e' s').ay,(qS ts e' s').ax,y)/\
   s'.Ok ts/\s'.nd=true/\(∀p,s'=.g p->x=y/\(wl x:Int)<=16384*(p:Int))
 | N,.d j,_,_,_,_,_,hd,_=>by cases hd
 | N,.b j,c,f,l,m,hs,_,_=>by
  refine⟨.b j,l,m,?_,?_,hs,rfl,λp h=>by cases h⟩
  ·rw[bV];simp only[qh H,aRc]
  ·rw[dN];simp only[jq,aRj]
 | 0,.g i,_,_,_,_,_,_,h=>by have:=(h i rfl).1;omega
 | N+1,.g i,c,f,l,m,hs,_,u=>by
  have hL:=H.len;obtain⟨u,D,rfl,hw⟩:=u i rfl;have hi:i<=ts.length:=hs;by_cases v:i<ts.length
  ·have A:(pS ts e (.g i)).fI<((pS ts e (.g i)).fT.length:Int):=by show(i:Int)<(ts.length:Int);omega
   have t:(qS ts e' (.g i)).bF<(ts.length:Int):=by show(i:Int)<(ts.length:Int);omega
   have o:=dN.eq_1 ts f (qS ts e' (.g i)).aq (qS ts e' (.g i)).bF (qS ts e' (.g i)).ay (qS ts e' (.g i)).ax l;simp only[jo,aRc,At t,du]at o;cases a:tw ts i [59]with
   | true=>
    have S0:=bV.eq_1 (pS ts e (.g i)).fT (pS ts e (.g i)).fI (pS ts e (.g i)).ay (pS ts e (.g i)).ax c l;simp only[kg,aRj,At A,jm,ck H a,sb]at S0;simp only[bL H a,sb,aRj]at o;rw[S0,o];exact xz H N (.g (i+1)) c f l l v rfl (λk q=>by cases q;exact⟨by omega,by omega,rfl,by omega⟩)
   | false=>
    obtain⟨s',n,z,B,g2,r⟩:=asf (e':=e') H v a c l aUE;simp only[aF (w:=[59]) H hs a,sb,atX,aRc,g2,fq z (show l.length<=20000 by omega)]at o;rw[B,o];refine xz H N s' c f (l++[n]) (l++[z]) r.ok r.nd0 (λk q=>?_);obtain⟨k0,q1,E,C,F,_⟩:=r.good k q;cases q1;have G:k<=ts.length:=by have:=r.ok;rw[q]at this;exact this
    subst C;refine⟨by omega,by simp only[It,so,An];omega,rfl,?_⟩;rw[fO,cy];omega
  ·obtain rfl:i=ts.length:=by omega
   refine⟨.g ts.length,l,l,?_,?_,hs,rfl,λp h=>by cases h;exact⟨rfl,hw⟩⟩
   ·rw[bV];simp only[kg,aRj];rw[As (show ¬(pS ts e (.g ts.length)).fI<((pS ts e (.g ts.length)).fT.length:Int) fromλh=>by have h:(ts.length:Int)<(ts.length:Int):=h;omega)]
   ·rw[dN];simp only[jo,aRc];rw[As (show ¬(qS ts e' (.g ts.length)).bF<(ts.length:Int) fromλh=>by have h:(ts.length:Int)<(ts.length:Int):=h;omega)]
end
theorem ab5 (s:av) (hs:s.length<=1048576):∃ts k p,mr ([60,63,32]++s)=some (ts,k,p)/\∃(n:ae) (a:Int),jM s=some (n,a)/\wt n<=134217728/\(a≠0->n.af=[])/\
  (a=0->k=0/\vX n=true/\wt n<=100000000/\aY (aP.mk ts 0 (s.length:Int) (-1))=some (n,pS ts (s.length:Int) (.g ts.length))):=by
 unfold jM;have r:bx [60,63,32] s=some ([60,63,32]++s):=At aUQ;rw[r,sb];obtain⟨ts,k,p,l2,_,_,t⟩:=Dd ([60,63,32]++s);refine⟨ts,k,p,l2,?_⟩;rw[l2,sb];dsimp only;by_cases c:k=0
 ·obtain⟨hp,u⟩:=t c;have H:Tk ts (s.length:Int):=u _ aUE;have y:=H.len;rw[At c];obtain⟨s',n,m,e,f,R⟩:=(ac3 (e':=0) H (.g 0) (aRV _) rfl).expr;replace e:aY (aP.mk ts 0 (s.length:Int) (-1))=some (n,pS ts (s.length:Int) s'):=e;replace f:bb (ak.mk ts 0 0 false)=some (m,qS ts 0 s'):=f;rw[f,sb];dsimp only;have l:=R.ok;cases s' with
  | g i=>
   obtain⟨i0,v,z,w,hw,_⟩:=R.good i rfl;subst w;have hi:i<=ts.length:=l;have h:wt n<=100000000:=by omega
   show ∃o a,(if false=true then _ else if(i:Int)<(ts.length:Int)then _ else _)=_/\_;rw[As (show ¬(false=true) by decide)];by_cases A:i<ts.length
   ·rw[At aUE];exact aUl
   ·obtain⟨x,B⟩:=BC n aUE;rw[As aUE,x,sb];cases hv:vX n
    ·exact aUl
    ·rw[At rfl];exact⟨_,_,rfl,(show wt n<=134217728 by omega),λq=>absurd rfl q,λ_=>⟨c,hv,h,by rw[e,show i=ts.length by omega]⟩⟩
  | b j=>
   show ∃o a,(if true=true then _ else _)=_/\_;rw[At rfl];exact aUl
  | d j=>
   have hj:j<ts.length:=l.1;show ∃o a,(if false=true then _ else if(j:Int)<(ts.length:Int)then _ else _)=_/\_;rw[As aUF,At aUE];exact aUl
 ·rw[As c];exact⟨_,_,rfl,by simp [wt,FI],λ_=>rfl,λq=>absurd q c⟩
theorem Mn (s:av) (hs:s.length<=1048576):∃ts k p,mr s=some (ts,k,p)/\∃(n:ae) (c a:Int),fg s=some (n,c,a)/\wt n<=134217728/\(c=0->a=0/\vZ n=true)/\(c≠0->n.af=[]/\(a=0\/a=p\/∃j,a=pl ts (s.length:Int) j))/\
  (k=0->∀(n2:ae) (j:Nat),lr (aP.mk ts 0 (s.length:Int) (-1))=some (n2,pS ts (s.length:Int) (.g j))->vZ n2=true->n=n2/\c=0/\a=0):=by
 unfold fg;obtain⟨ts,k,p,l2,_,_,t⟩:=Dd s;refine⟨ts,k,p,l2,?_⟩;rw[l2,sb];dsimp only;by_cases e:k=0
 ·obtain⟨hp,u⟩:=t e;have H:Tk ts (s.length:Int):=u _ aUE;have A:=H.len;rw[At e];obtain⟨s',x,y,l,m,ok,nd,good⟩:=xz (e':=(s.length:Int)) H (ts.length+1) (.g 0) [] [] [] [] (aRV _) rfl (λi hi=>by cases hi;exact⟨by omega,by simp,rfl,by rw[ep];simp⟩);replace l:bV ts 0 (s.length:Int) (-1) [] []=_:=l;replace m:dN ts [] ts 0 (s.length:Int) false []=_:=m
  have q1:lr (aP.mk ts 0 (s.length:Int) (-1))=some (ae.mk 56 0 [] x,pS ts (s.length:Int) s'):=by
   unfold lr;dsimp only;rw[l,sb]
  rw[m,sb];dsimp only;cases s' with
  | d j=>cases nd
  | g i=>
   obtain⟨o,hw⟩:=good i rfl;subst o;have hi:i<=ts.length:=ok;have f:wt (ae.mk 56 0 [] x)<=134217728:=by rw[fD];simp only[An];omega
   obtain⟨v,B⟩:=xh _ f;show ∃w c a,(if false=true then _ else _)=_/\_;rw[As (show ¬(false=true) by decide),v,sb];have inj:∀(n2:ae) (j:Nat),lr (aP.mk ts 0 (s.length:Int) (-1))=some (n2,pS ts (s.length:Int) (.g j))->ae.mk 56 0 [] x=n2:=λn2 j h=>congrArg Prod.fst (aRO (q1.symm.trans h));cases hv:vZ (ae.mk 56 0 [] x)
   ·exact⟨_,_,_,rfl,by simp [wt,FI],λq=>absurd q aUF,λ_=>⟨rfl,.inl rfl⟩,λ_ n2 j h h2=>by rw[<-inj n2 j h,hv]at h2;cases h2⟩
   ·rw[At rfl];exact⟨_,_,_,rfl,f,λ_=>⟨rfl,hv⟩,λq=>absurd rfl q,λ_ n2 j h _=>⟨inj n2 j h,rfl,rfl⟩⟩
  | b j=>
   have h0:=O7 H j;show ∃w c a,(if true=true then _ else _)=_/\_;rw[At rfl]
   have z:kX (ak.mk (qS ts (s.length:Int) (.b j)).aq (qS ts (s.length:Int) (.b j)).bF (qS ts (s.length:Int) (.b j)).ay (qS ts (s.length:Int) (.b j)).ax)=some (pl ts (s.length:Int) j,qS ts (s.length:Int) (.b j)):=by
    unfold kX;show(if(j:Int)<(ts.length:Int)then _ else _)=_;unfold pl;by_cases r:j<ts.length
    ·rw[At aUE,At r];show(idx ts (j:Int)>>=_)=_;rw[fJ r,sb]
    ·rw[As aUE,As r];rfl
   rw[z,sb];refine⟨_,_,_,rfl,by simp [wt,FI],λq=>absurd q aUF,λ_=>⟨rfl,.inr (.inr ⟨j,rfl⟩)⟩,λ_ n2 j2 h _=>?_⟩;have q:=congrArg (λx:ae×aP=>x.2.ax) (aRO (q1.symm.trans h));replace q:pl ts (s.length:Int) j= -1:=q;omega
 ·rw[As e];exact⟨_,_,_,rfl,by simp [wt,FI],λq=>absurd q e,λ_=>⟨rfl,.inr (.inl rfl)⟩,λq=>absurd q e⟩
theorem aFy {r:av} (hs:(60::63::32::r:av).length<=4000):b8 (.mk (60::63::32::r) 0 [] 0)=some (.mk (60::63::32::r) ((2:Nat):Int) [] 0):=by
 generalize b:(60::63::32::r:av)=s at hs ⊢;have a:=b8.eq_1 (.mk s ((0:Nat):Int) [] 0);replace a:b8 (.mk s ((0:Nat):Int) [] 0)=(jQ s ((0:Nat):Int)>>=_):=a;have i0:Lib.index s [60,63]=0:=by rw[<-b];rfl
 have c:Lib.hasPrefix s [60,63,61]=false:=by rw[<-b];rfl
 have d:3<=s.length:=by rw[<-b];simp only[so];omega
 have e2:m64 s [60,63]=some (Lib.index s [60,63]):=by unfold m64;rw[At aUE]
 rw[iB aUE,sb,aRk,e2,sb,i0,As aUE,sb,As aUE,sb]at a;dsimp only at a;rw[As aUE,iB aUE,sb,aRk,wm,sb,c,As aUF]at a;exact a
theorem arc (t:av) (D:t.length<=3000) (ts:List ai) (p:Int) (h:mr ([60,63,32]++t)=some (ts,0,p)):
  ts.length<=t.length+3/\(Ed ts\/∃a b:Int,0<=a/\0<=b/\mr ([60,63,32,40]++t++[10,41,59])=some (⟨6,0,[40],3⟩::ts.map sh++[⟨6,0,[41],a⟩,⟨6,0,[59],b⟩],0,0)):=by
 have E:([60,63,32]++t).length=t.length+3:=by simp
 have l2:([60,63,32,40]++t++[10,41,59]).length=t.length+7:=by simp
 have e:(60::63::32::t:av)=[60,63,32]++t:=rfl;have c:(60::63::32::40::(t++[10,41,59]):av)=[60,63,32,40]++t++[10,41,59]:=by simp
 have g:=aFy (r:=t) (by rw[e];omega);rw[e]at g;have i:=aFy (r:=40::(t++[10,41,59])) (by rw[c];omega);rw[c]at i;have m:Bh ([60,63,32]++t) ([60,63,32,40]++t++[10,41,59]) 3:=by rw[<-c];rfl
 have n:([60,63,32,40]++t++[10,41,59]).drop 3=40::(t++[10,41,59]):=by rw[<-c];rfl
 have o:([60,63,32]++t).getD 2 0=32:=rfl;have g2:([60,63,32,40]++t++[10,41,59]).getD 2 0=32:=by rw[<-c];rfl
 clear e c;generalize[60,63,32]++t=s at*;generalize[60,63,32,40]++t++[10,41,59]=s2 at*;have u:=ug (s:=s) aUE (a:=2) aUE (by rw[o];exact .inl rfl) [];have v:=ug (s:=s2) aUE (a:=2) aUE (by rw[g2];exact .inl rfl) [];have w:=E3 (s:=s2) aUE (a:=3) n (.inl rfl) rfl rfl rfl (l:=[]) aUG;obtain⟨q,k,j,y,e2,z,A⟩:=ac5 (s:=s) (s2:=s2) aUE aUE ⟨6,0,[40],3⟩ _ 3 aUE rfl m [] aUG PA.nil;unfold mr at h ⊢;rw[sb,As aUE,sb,sb,g,sb]at h;rw[sb,As aUE,sb,sb,i,sb];have r1:dI s s ((2:Nat):Int) 0 []=some (s,(q:Int),k,j):=(pt aUE u).trans y;replace h:(dI s s ((2:Nat):Int) 0 []>>=_)=_:=h;rw[r1,sb]at h;dsimp only at h;by_cases d:k=0
 ·rw[At d]at h;have h:=aRO h;have B:j=ts:=congrArg Prod.fst h;subst B;refine⟨by have:=z.2;omega,?_⟩;rcases A d with f | f
  ·exact .inl f
  ·refine .inr ⟨((s.length+2:Nat):Int),((s.length+3:Nat):Int),by omega,by omega,?_⟩;have C:dI s2 s2 ((2:Nat):Int) 0 []=_:=(pt aUE v).trans ((pt aUE w).trans f);show(dI s2 s2 ((2:Nat):Int) 0 []>>=_)=_;rw[C,sb];dsimp only;rw[At rfl]
 ·rw[As d]at h;have h:=aRO h;exact absurd (congrArg (λx=>x.2.1) h) d
theorem aks {ts:List ai} {e e2:Int} (H:Tk ts e) (i:ts.length<=3000) (he:0<=e2) {a b:Int} (d:0<=a) (f:0<=b):Tk (⟨6,0,[40],3⟩::ts.map sh++[⟨6,0,[41],a⟩,⟨6,0,[59],b⟩]) e2:=by
 have mem:∀{P:ai->Prop},P ⟨6,0,[40],3⟩->P ⟨6,0,[41],a⟩->P ⟨6,0,[59],b⟩->(∀t∈ts,P (sh t))->∀t∈(⟨6,0,[40],3⟩::ts.map sh++[⟨6,0,[41],a⟩,⟨6,0,[59],b⟩]:List ai),P t:=by
  intro P h1 h2 g h t c;rcases aRp.1 c with c | c
  ·rcases aRo.1 c with rfl | c
   ·exact h1
   ·obtain⟨u,hu,rfl⟩:=aRT.1 c;exact h u hu
  ·rcases aRo.1 c with rfl | c
   ·exact h2
   ·rw[aSR]at c;subst c;exact g
 refine⟨by simp;omega,he,mem (P:=λt=>0<=t.bF) aUF d f (λt c=>by have:=H.at0 t c;show 0<=t.bF+1;omega),mem (P:=λt=>t.al.length<=4000) aUF (by show 1<=4000;decide) (by show 1<=4000;decide) (λt c=>H.txt t c),mem (P:=λt=>t.ah=3->nmW t.al=true) (λq=>absurd q aUF) (λq=>absurd q (by show ¬(6:Int)=3;decide)) (λq=>absurd q (by show ¬(6:Int)=3;decide)) (λt c=>H.nam t c),mem (P:=λt=>t.ah=6->zm.contains t.al=true) (λ_=>rfl) (λ_=>rfl) (λ_=>rfl) (λt c=>H.mrk t c)⟩
theorem akt (ts:List ai) (c:Int) (a b:Int):Sh ts (⟨6,0,[40],c⟩::ts.map sh++[⟨6,0,[41],a⟩,⟨6,0,[59],b⟩]):=by
 have e:(ts.map sh).length=ts.length:=aSp ..
 have d:∀i,i<ts.length->tok (⟨6,0,[40],c⟩::ts.map sh++[⟨6,0,[41],a⟩,⟨6,0,[59],b⟩]) (i+1)=sh (tok ts i):=λi hi=>by
  unfold tok;rw[aRw,List.getD_cons_succ,aRb,aRJ aUE,aRs,aRb,abL hi];rfl
 have Jd:∀j,tok (⟨6,0,[40],c⟩::ts.map sh++[⟨6,0,[41],a⟩,⟨6,0,[59],b⟩]) (ts.length+1+j)=tok [⟨6,0,[41],a⟩,⟨6,0,[59],b⟩] j:=λj=>by
  unfold tok;rw[aRw,show ts.length+1+j=ts.length+j+1 by omega,List.getD_cons_succ,aRb,aRv aUE,e,aSv,aRb]
 refine⟨by simp,λi hi=>?_,rfl,rfl,?_,?_,?_,?_⟩
 ·unfold kd tx;rw[d i hi];exact⟨rfl,rfl,rfl⟩
 ·unfold kd;rw[Jd 0];rfl
 ·unfold tx;rw[Jd 0];rfl
 ·unfold kd;rw[Jd 1];rfl
 ·unfold tx;rw[Jd 1];rfl
section
variable {ts:List ai}{e:Int}
theorem aMh:lV ([59]:av)=some 0:=by
 obtain⟨v,h1,_,d⟩:=Ve [59];rcases d with rfl | ⟨a,b,c⟩
 ·exact h1
 ·exfalso;have:v=1\/v=2\/v=3\/v=4\/v=5\/v=6\/v=7\/v=8\/v=9\/v=10\/v=11\/v=12\/v=13\/v=14\/v=15:=by omega
  rcases this with rfl | rfl | rfl | rfl | rfl | rfl | rfl | rfl | rfl | rfl | rfl | rfl | rfl | rfl | rfl<;>exact absurd c aUF
theorem Tn {j:Nat} (b:kd ts j=6) (a:tx ts j=[59]) {k:Int} {w:av} (h:k≠6\/(w≠[]/\w≠[59])):aT ts j k w=false:=by
 unfold aT;rw[b,a];rcases h with h | ⟨h1,h2⟩
 ·rw[an.2 (λq=>h q.symm),aSj]
 ·rw[an.2 h1,an.2 (λq=>h2 q.symm)];simp
theorem af1 (H:Tk ts e) {L:Nat} {n:ae} (hL:L+2<ts.length) (d:tw ts 0 [40]=true) (w1:tw ts (L+1) [41]=true) (i:kd ts (L+2)=6) (b:tx ts (L+2)=[59])
  (h:aY (P1 ts e 1)=some (n,P1 ts e (L+1))):aY (P1 ts e 0)=some (n,P1 ts e (L+2)):=by
 have hs:(JS.g 0).Ok ts:=aRV _;have hlen:=H.len;have j:(JS.g (L+2)).Ok ts:=aRL hL;have o:=cd d;obtain⟨k4,t,k2,_⟩:=lB d
 have no:∀w:av,w≠[59]->tw ts (L+2) w=false:=λw hw=>by
  unfold tw;rw[b,an.2 (λq=>hw q.symm),aRF]
 have f:∀w:av,w≠[]->w≠[59]->az (P1 ts e (L+2)) w=some (false,P1 ts e (L+2)):=λw l hw=>aZ H (s:=.g (L+2)) j (no w hw) l
 have awZ:aH (P1 ts e 0)=some (n,P1 ts e (L+2)):=by
  rw[aH];refine cf (lN (e:=e) o) ?_;refine(gA (fJ o)).trans ?_;refine cf k4 ?_;refine cf t ?_;refine cf k2 ?_;refine B4 H hs d [110,117,108,108] [102,97,108,115,101] [116,114,117,101] [91] ?_;refine dC (ck H d) ?_;refine a7 h ?_;refine a7 (tb H w1) ?_;rfl
 have chain:dM (P1 ts e 0) true=some (n,P1 ts e (L+2)):=by
  rw[dM];refine a7 awZ ?_
  have m:aW true ts ((L+2:Nat):Int) e (-1) [] n.ah n.aE n.al n.af=some (.inr (n,P1 ts e (L+2))):=by
   rw[aW,At aUF];refine bm (f [91] aUF aUF) ?_;refine bm (f [45,62] aUF aUF) ?_;refine bm (dz H (.g (L+2)) j 6 [40] aUF) ?_ (hc:=by rw[show aS ts (.g (L+2)) 0 6 [40]=false from Tn i b (.inr aUF)];exact are);rw[afL];rfl
  refine(gA m).trans ?_;rfl
 have un:dy (P1 ts e 0)=some (n,P1 ts e (L+2)):=by
  rw[dy];refine Ll H hs d [33] [45] ?_;refine a7 (a:=(n,P1 ts e (L+2))) ?_ ?_
  ·rw[iZ];refine a7 chain ?_;rfl
  ·rfl
 have p:∀(v u:Int) (w:av),w≠[]->w≠[59]->(if v=u then az (aP.mk ts ((L+2:Nat):Int) e (-1)) w>>=λx=>some (x.2.fT,x.2.fI,x.2.ay,x.2.ax,x.1)else some (ts,((L+2:Nat):Int),e,-1,false))=some (ts,((L+2:Nat):Int),e,(-1:Int),false):=λv u w l hw=>by
  split
  ·have:=f w l hw;unfold P1 at this;rw[this];rfl
  ·rfl
 have bin:∀k c:Nat,c+k=11->bI (P1 ts e 0) c=some (n,P1 ts e (L+2)):=by
  intro k;induction k with
  | zero=>
   intro c r;obtain rfl:c=11:=r;rw[bI,At aUF];refine a7 un ?_;rfl
  | succ k y=>
   intro c r;rw[bI,As aUE,ca aUE];refine a7 (y (c+1) aUE) ?_
   have m:aG (c:Int) ts ((L+2:Nat):Int) e (-1) [] n.ah n.aE n.al n.af=some (.inr (n,P1 ts e (L+2))):=by
    rw[aG,At aUE,fJ hL,sb,At (show(tok ts (L+2)).ah=6 from i),sb,show(tok ts (L+2)).al=[59]from b,aMh,sb];refine(gA (p _ 4 [124,124] aUF aUF)).trans ?_;dsimp only;rw[As aUF];refine(gA (p _ 5 [38,38] aUF aUF)).trans ?_;dsimp only;rw[As aUF,As aUF,sb,As aUF,afL];rfl
   refine(gA m).trans ?_;rfl
 have O9:cW (P1 ts e 0)=some (n,P1 ts e (L+2)):=by
  rw[cW];refine a7 (bin 7 4 rfl) ?_;refine bm (f [63,63] aUF aUF) ?_;rfl
 have cond:eP (P1 ts e 0)=some (n,P1 ts e (L+2)):=by
  rw[eP];refine a7 O9 ?_;refine bm (f [63] aUF aUF) ?_;rfl
 rw[aY];refine a7 cond ?_;refine bm (dz H (.g (L+2)) j 6 [61] aUF) ?_ (hc:=by rw[show aS ts (.g (L+2)) 0 6 [61]=false from Tn i b (.inr aUF)];exact are);rfl
theorem af2 (H:Tk ts e) {L:Nat} {n:ae} (hL:L+2<ts.length) (c:tw ts 0 [40]=true) (d:tw ts (L+2) [59]=true) (k0:kd ts 0=6)
  (h:aY (P1 ts e 0)=some (n,P1 ts e (L+2))):bf (P1 ts e 0)=some (.mk 33 0 [] [n],P1 ts e (L+3)):=by
 have hs:(JS.g 0).Ok ts:=aRV _
 have a0:∀k:Int,k≠6->aS ts (.g 0) 0 k []=false:=λk f=>by
  show(kd ts 0==k&&_)=false;rw[k0,an.2 (λq=>f q.symm),aSj]
 have fl:∀{b:Bool},b=false->¬b=true:=λi=>by rw[i];exact are
 rw[bf];refine bm (dz H _ hs 1 [] aUF) ?_ (hc:=fl (a0 1 aUF));refine bm (dz H _ hs 6 [123] aUF) ?_ (hc:=fl ((aM H aUF aUF).trans (dK c aUF)));refine B4 H hs c [105,102] [119,104,105,108,101] [102,111,114,101,97,99,104] [116,114,121] ?_;refine B4 H hs c [101,99,104,111] [98,114,101,97,107] [99,111,110,116,105,110,117,101] [114,101,116,117,114,110] ?_;refine B4 H hs c [103,108,111,98,97,108] [117,110,115,101,116] [116,104,114,111,119] [121,105,101,108,100] ?_;refine(gA (a:=(ts,((0:Nat):Int),e,(-1:Int),false)) ?_).trans ?_
 ·refine bm (dz H _ hs 2 [] aUF) ?_ (hc:=fl (a0 2 aUF));rfl
 ·refine cf (fl rfl) ?_;refine nE H hs c [105,110,99,108,117,100,101] ?_;refine a7 h ?_;refine a7 (tb H d) ?_;rfl
theorem UG (H:Tk ts e) {L:Nat} {n:ae} (hL:L+3=ts.length) (c:tw ts 0 [40]=true) (k0:kd ts 0=6)
  (h:bf (P1 ts e 0)=some (n,P1 ts e (L+3))):lr (P1 ts e 0)=some (.mk 56 0 [] [n],P1 ts e (L+3)):=by
 have hs:(JS.g 0).Ok ts:=aRV _
 have a0:∀w,aS ts (.g 0) 0 3 w=false:=λw=>by
  show(kd ts 0==3&&_)=false;rw[k0];rfl
 have fl:∀{b:Bool},b=false->¬b=true:=λd=>by rw[d];exact are
 have f:bV ts ((0:Nat):Int) e (-1) [] []=some (ts,((L+3:Nat):Int),e,(-1:Int),[],[n]):=by
  rw[bV,At aUF,At aUE];refine nE H hs c [59] ?_;refine(gA (a:=(ts,((0:Nat):Int),e,(-1:Int),false)) ?_).trans ?_
  ·refine bm (dz H _ hs 3 [102,117,110,99,116,105,111,110] aUF) ?_ (hc:=fl (a0 _));rfl
  ·refine cf (fl rfl) ?_;refine Ll H hs c [99,108,97,115,115] [116,114,97,105,116] ?_;refine a7 h ?_;refine(gA (a:=[n]) (fq (l:=[]) n aUG)).trans ?_;show bV ts ((L+3:Nat):Int) e (-1) [] [n]=_;rw[bV,At aUF,As aUE]
 unfold lr;refine(gA f).trans ?_;rfl
end
theorem xR (v:Int):0<=bits .and .i64 v 255/\bits .and .i64 v 255<=255:=by
 unfold bits;have e2:BitVec.ofInt IntKind.i64.bits 255=BitVec.ofNat 64 255:=by rfl
 simp only[e2]
 have h:(BitVec.ofInt 64 v &&& BitVec.ofNat 64 255).toNat<=255:=by
  rw[BitVec.toNat_and];exact Nat.and_le_right
 show 0<=IntKind.i64.wrap ((BitVec.ofInt 64 v &&& BitVec.ofNat 64 255).toNat:Int)/\IntKind.i64.wrap ((BitVec.ofInt 64 v &&& BitVec.ofNat 64 255).toNat:Int)<=255;rw[Ks aUE aUE];omega
def Cu (c:aL):Prop:=0<=c.fI/\c.fI<=(c.fB.length:Int)/\c.fB.length<=1048576
theorem J1 {c:aL} (h:Cu c):∃v a,m72 c=some (v,a)/\0<=v/\v<=255/\Cu a:=by
 obtain⟨h0,h1,h2⟩:=h;unfold m72;by_cases hi:c.fI<(c.fB.length:Int)
 ·obtain⟨n,b⟩:∃n:Nat,c.fI=(n:Int):=⟨c.fI.toNat,by omega⟩;rw[At hi,b,dj (show n<c.fB.length by omega),sb,ca aUE];exact⟨_,_,rfl,(xR _).1,(xR _).2,⟨by show(0:Int)<=((n+1:Nat):Int);omega,by show((n+1:Nat):Int)<=(c.fB.length:Int);omega,h2⟩⟩
 ·rw[As hi];exact⟨_,_,rfl,(xR _).1,(xR _).2,⟨h0,h1,h2⟩⟩
theorem E4 {c:aL} (h:Cu c) {n:Nat} (h1:1<=n) (h2:n<=256):∃(v:Nat) (a:aL),yy c (n:Int)=some ((v:Int),a)/\v<n/\Cu a:=by
 obtain⟨v,a,e,d,f,b⟩:=J1 h;unfold yy;rw[As aUE,At aUE,e,sb];have hm:must ((n:Int)≠0)=some ():=At aUE;obtain⟨u,rfl⟩:∃u:Nat,v=(u:Int):=⟨v.toNat,by omega⟩;refine⟨u % n,a,?_,Nat.mod_lt _ aUE,b⟩;show(must ((n:Int)≠0)>>=λ_=>some (((u:Int)).tmod (n:Int),a))=_;rw[hm,sb,<-Int.ofNat_tmod]
theorem ash {c:aL} (h:Cu c) {n:Nat} (h1:1<=n) (h2:n<=256):∃b a,TO c (n:Int)=some (b,a)/\Cu a:=by
 obtain⟨v,a,e,_,hc⟩:=E4 h h1 h2;unfold TO;rw[e,sb];exact⟨_,_,rfl,hc⟩
theorem asi {c:aL} (h:Cu c) (l:List Int) (h1:1<=l.length) (h2:l.length<=256):∃x b,m85 c l=some (x,b)/\Cu b:=by
 obtain⟨v,b,e,hv,hc⟩:=E4 h h1 h2;unfold m85;rw[e,sb];show ∃x a,(idx l (v:Int)>>=λd=>some (d,b))=some (x,a)/\Cu a;rw[dj hv,sb];exact⟨_,_,rfl,hc⟩
theorem ab3 {b:List UInt8} (h:b.length<=1048576):∃c,m36 b=some c/\Cu c:=by
 unfold m36
 have go:∀m i:Nat,i<=b.length->b.length - i=m->∀y:Int,∃r,yW b y (i:Int)=some r:=by
  intro m;induction m with
  | zero=>intro i h1 h2 y;rw[yW,As aUE];exact⟨_,rfl⟩
  | succ m a=>
   intro i h1 h2 y;have d:i<b.length:=by omega
   rw[yW,At aUE,dj d,sb,ca aUE];split
   ·exact a (i+1) aUE aUE _
   ·exact aUj
 obtain⟨r,e⟩:=go b.length 0 aUE aUE (bq (193017+(b.length:Int)));replace e:yW b (bq (193017+(b.length:Int))) 0=some r:=e;rw[e,sb];exact⟨_,rfl,by show(0:Int)<=0;omega,by show(0:Int)<=(b.length:Int);omega,h⟩
theorem agU {c:aL} (h:Cu c) (l:List av) (h1:1<=l.length) (h2:l.length<=256):∃x a,La c l=some (x,a)/\x∈l/\Cu a:=by
 obtain⟨v,a,e,hv,hc⟩:=E4 h h1 h2;unfold La;rw[e,sb];show ∃x b,(idx l (v:Int)>>=λd=>some (d,a))=some (x,b)/\_;rw[dj hv,sb];exact⟨_,_,rfl,aRr hv,hc⟩
def eQ {β:Type} (x:Option β) (P:β->Prop):Prop:=∃r,x=some r/\P r
section
variable {α β:Type}{P:α->Prop}{Q:β->Prop}
theorem eQ.ret {r:β} (h:Q r):eQ (some r) Q:=⟨r,rfl,h⟩
theorem eQ.bind {x:Option α} {K:α->Option β} (h:eQ x P) (k:∀r,P r->eQ (K r) Q):eQ (x>>=K) Q:=by
 obtain⟨r,e,a⟩:=h;rw[e];exact k r a
theorem eQ.ite {c:Prop} {i:Decidable c} {x y:Option β} (h1:eQ x Q) (h2:eQ y Q):eQ (@_root_.ite _ c i x y) Q:=by split<;>assumption
theorem eQ.mono {x:Option β} {a:β->Prop} (h:eQ x Q) (hm:∀r,Q r->a r):eQ x a:=by
 obtain⟨r,e,b⟩:=h;exact⟨r,e,hm r b⟩
end
theorem t40 {c:aL} (h:Cu c) {n:Int} (h1:1<=n) (h2:n<=256):eQ (yy c n) (λr=>0<=r.1/\r.1<n/\Cu r.2):=by
 obtain⟨k,rfl⟩:∃k:Nat,n=(k:Int):=⟨n.toNat,by omega⟩;obtain⟨v,b,e,e2,a⟩:=E4 h (n:=k) aUE aUE;exact⟨_,e,by show(0:Int)<=(v:Int);omega,by show(v:Int)<(k:Int);omega,a⟩
theorem t37 {c:aL} (h:Cu c) {n:Int} (h1:1<=n) (h2:n<=256):eQ (TO c n) (λr=>Cu r.2):=by
 obtain⟨k,rfl⟩:∃k:Nat,n=(k:Int):=⟨n.toNat,by omega⟩;obtain⟨v,b,e,a⟩:=ash h (n:=k) aUE aUE;exact⟨_,e,a⟩
theorem t85 {c:aL} (h:Cu c) {l:List Int} (h1:1<=l.length) (h2:l.length<=256):eQ (m85 c l) (λr=>Cu r.2):=by
 obtain⟨v,b,e,a⟩:=asi h l h1 h2;exact⟨_,e,a⟩
theorem t39 {c:aL} (h:Cu c) {l:List av} (h1:1<=l.length) (h2:l.length<=256) (a:∀x∈l,x.length<=100):eQ (La c l) (λr=>r.1.length<=100/\Cu r.2):=by
 obtain⟨v,d,e,e2,b⟩:=agU h l h1 h2;exact⟨_,e,a v e2,b⟩
def Dn (B:Nat) (r:ae×aL):Prop:=wt r.1<=B/\Cu r.2
section
variable {β:Type}{Q:β->Prop}{c:aL}
theorem u39 (hc:Cu c) {l:List av} {K:av×aL->Option β} (k:∀v c,v.length<=100->Cu c->eQ (K (v,c)) Q) (h:1<=l.length/\l.length<=256/\∀x∈l,x.length<=100:=by decide):eQ (La c l>>=K) Q:=(t39 hc h.1 h.2.1 h.2.2).bind λr q=>k r.1 r.2 q.1 q.2
theorem u40 (hc:Cu c) {n:Int} {K:Int×aL->Option β} (k:∀v c,0<=v->v<n->Cu c->eQ (K (v,c)) Q) (h:1<=n/\n<=256:=by decide):eQ (yy c n>>=K) Q:=(t40 hc h.1 h.2).bind λr q=>k r.1 r.2 q.1 q.2.1 q.2.2
theorem u37 (hc:Cu c) {n:Int} {K:Bool×aL->Option β} (k:∀v c,Cu c->eQ (K (v,c)) Q) (h:1<=n/\n<=256:=by decide):eQ (TO c n>>=K) Q:=(t37 hc h.1 h.2).bind λr q=>k r.1 r.2 q
theorem u85 (hc:Cu c) {l:List Int} {K:Int×aL->Option β} (k:∀v c,Cu c->eQ (K (v,c)) Q) (h:1<=l.length/\l.length<=256:=by decide):eQ (m85 c l>>=K) Q:=(t85 hc h.1 h.2).bind λr q=>k r.1 r.2 q
theorem u15 {n:Int} {s:av} {l:List ae} {K:ae->Option β} (h:eQ (K (.mk n 0 s l)) Q):eQ (bQ n s l>>=K) Q:=h
theorem uD {B:Nat} {x:Option (ae×aL)} {K:ae×aL->Option β} (h:eQ x (Dn B)) (k:∀n c,wt n<=B->Cu c->eQ (K (n,c)) Q):eQ (x>>=K) Q:=h.bind λr q=>k r.1 r.2 q.1 q.2
end
theorem ac6 {c:aL} (h:Cu c):eQ (dX c) (Dn 100):=by
 unfold dX;refine u39 h λv c hv hc=>?_;exact eQ.ret ⟨by rw[fD,ep];exact hv,hc⟩
def bM:Nat->Nat
 | 0=>200
 | d+1=>3*bM d+500
theorem aFz (d:Nat):bM (d+1)=3*bM d+500:=rfl
theorem ac7:∀d,200<=bM d
 | 0=>Of _
 | d+1=>by rw[aFz];omega
def aFA (d:Nat):Prop:=∀(a:Int),-10<=a->a<=d->∀c,Cu c->eQ (gU c a) (Dn (bM d))
theorem ac8 {d:Nat} (hd:d<=100) (h:aFA d) (a:Int) (h1: -5<=a) (h2:a<=d) (c:aL) (hc:Cu c):eQ (mY c a) (Dn (bM d+200)):=by
 rw[mY];have hw:bq (a - 1)=a - 1:=Ks aUE aUE;rw[hw];have b:=ac7 d;refine u40 hc λ_ c _ _ hc=>?_;refine eQ.ite (uD (ac6 hc) λv c hv hc=>?_) (eQ.ite (uD (ac6 hc) λv c hv hc=>?_) (uD (ac6 hc) λv c hv hc=>?_))
 case' refine_1=>refine uD (h (a - 1) aUE aUE c hc) λx c hx hc=>u15 ?_
 case' refine_2=>refine u15 ?_
 all_goals exact eQ.ret ⟨by simp only[fD,gv,ep,so,An];omega,hc⟩
theorem Dc:∀d:Nat,d<=100->aFA d
 | d,hd,a,h1,h2,c,hc=>by
  have f:=ac7 d;rw[gU];have hw:bq (a - 1)=a - 1:=Ks aUE aUE;rw[hw];refine eQ.bind (P:=λt=>Cu (aL.mk t.1 t.2.1 t.2.2.1)/\(t.2.2.2=false->0<a)) ?_ ?_
  ·by_cases h0:a<=0
   ·rw[At h0];exact eQ.ret ⟨hc,λq=>by cases q⟩
   ·rw[As h0];exact u37 hc λ_ c hc=>eQ.ret ⟨hc,λ_=>by omega⟩
  ·rintro⟨i,j,k,g⟩ ⟨hc,h⟩;cases g
   case' false=>
    have l:=h rfl;obtain⟨e,rfl⟩:∃e,d=e+1:=⟨d - 1,by omega⟩;have b:=Dc e aUE;have hm:=aFz e;have f:=ac7 e;dsimp only;rw[As are];refine uD (b (a - 1) aUE aUE _ hc) λx c hx hc=>uD (b (a - 1) aUE aUE _ hc) λy c hy hc=>uD (ac8 aUE b (a - 1) aUE aUE _ hc) λz c m hc=>?_;clear b
   case' true=>
    dsimp only;rw[At rfl]
   all_goals repeat' first | apply eQ.ite | apply u15 | refine u40 aUL λ_ _ _ _ _=>?_ | refine u85 aUL λ_ _ _=>?_ | refine u39 aUL λ_ _ _ _=>?_ | refine uD (ac6 aUL) λ_ _ _ _=>?_ | (refine eQ.bind (P:=λ_:Bool=>True) ?_ ?_) | exact eQ.ret trivial | (rintro _ ⟨⟩) | exact eQ.ret ⟨by simp only[fD,gv,ep,so,An]at *;omega,by assumption⟩
def bS:Nat->Nat
 | 0=>6000
 | d+1=>2*(3*(bS d+1)+10)+6000
def bD (d:Nat):Nat:=3*(bS d+1)+10
theorem aFB (d:Nat):bS (d+1)=2*bD d+6000:=rfl
theorem aFC (d:Nat):bD d=3*(bS d+1)+10:=rfl
theorem ac9:∀d,d<=3->bS d<=2000000
 | 0,_=>by decide
 | 1,_=>by decide
 | 2,_=>by decide
 | 3,_=>by decide
theorem aFD:∀d,6000<=bS d
 | 0=>Of _
 | d+1=>by rw[aFB];omega
theorem uR {c:aL} {B:Nat} {n:ae} (h:Cu c) (w:wt n<=B:=by simp only[fD,gv,ep,fO,so,An]at *;omega):eQ (some (n,c)) (Dn B):=⟨_,rfl,w,h⟩
theorem uL {β:Type} {Q:β->Prop} {l m:List ae} {K:List ae->Option β} (k:eQ (K (l++m)) Q) (h:l.length+m.length<=100000000:=by simp only[It,so,An]at *;omega):eQ (cD 56 l m>>=K) Q:=by rw[iz aUE];exact k
theorem mk2 {c:aL} (hc:Cu c):eQ (gU c 2) (Dn 3800):=Dc 2 aUF 2 aUF aUF c hc
theorem aMi {c:aL} (hc:Cu c):eQ (mY c 1) (Dn 1300):=ac8 (d:=1) aUF (Dc 1 aUF) 1 aUF aUF c hc
def aFE (d:Nat):Prop:=∀(a:Int),-10<=a->a<=d->∀(l g:Bool) (c:aL),Cu c->eQ (lK c a l g) (Dn (bS d))
def aMj (d:Nat):Prop:=∀(a:Int),-10<=a->a<=d->∀(l g:Bool) (c:aL),Cu c->eQ (ie c a l g) (Dn (bD d))
theorem akR {d:Nat} (hd:d<=3) (h:aFE d):aMj d:=by
 intro a h1 h2 l g c hc;have n:=ac9 d hd
 have go:∀(k:Nat) (c:aL) (L:List ae),Cu c->L.length+k<=10->eQ (mn a l g c.fB c.fI c.fH L (k:Int)) (λt=>wl t.2.2.2<=wl L+k*(bS d+1)/\Cu (aL.mk t.1 t.2.1 t.2.2.1)):=by
  intro k;induction k with
  | zero=>
   intro c L hc hL;rw[mn,As aUF];exact eQ.ret ⟨by simp,hc⟩
  | succ k j=>
   intro c L hc hL;rw[mn,At aUE,show bq (((k+1:Nat):Int) - 1)=(k:Int)from by rw[bq,Ks aUE aUE];omega];refine eQ.bind (h a h1 h2 l g _ hc) ?_;rintro⟨x,c⟩ ⟨hx,hc⟩;refine uL ?_;refine(j c _ hc aUO).mono ?_;rintro⟨t1,t2,f,i⟩ ⟨q1,b⟩;refine⟨?_,b⟩;simp only[fO,cy]at q1 hx ⊢;have e:(k+1)*(bS d+1)=k*(bS d+1)+(bS d+1):=Nat.succ_mul k (bS d+1);omega
 rw[ie,As (by cases g<;>decide)];refine eQ.bind (P:=λt=>wl t.2.2.2<=3*(bS d+1)/\Cu (aL.mk t.1 t.2.1 t.2.2.1)) ?_ ?_
 ·refine u40 hc λv c o p hc=>?_;obtain⟨k,m⟩:∃k:Nat,v=(k:Int):=⟨v.toNat,by omega⟩;subst m;dsimp only;rw[show bq (1+(k:Int))=((k+1:Nat):Int)from kj aUE aUE];refine(go (k+1) c [] hc (by simp only[An];omega)).mono ?_;rintro⟨t1,t2,f,i⟩ ⟨q1,b⟩;refine⟨?_,b⟩;rw[ep]at q1;have:(k+1)*(bS d+1)<=3*(bS d+1):=aRu _ aUE;omega
 ·rintro⟨t1,t2,f,i⟩ ⟨q1,b⟩;exact eQ.ret ⟨by simp only[fD,An]at *;rw[aFC];omega,b⟩
theorem J2:∀d:Nat,d<=3->aFE d
 | d,hd,a,h1,h2,l,g,c,hc=>by
  have u:=aFD d;have hw:bq (a - 1)=a - 1:=Ks aUE aUE;rw[lK,hw];refine eQ.bind (mk2 hc) ?_;rintro⟨e,c⟩ ⟨he,hc⟩;have he:wt e<=3800:=he;refine eQ.bind (P:=λt=>Cu (aL.mk t.1 t.2.1 t.2.2.1)/\(t.2.2.2=false->0<a)) ?_ ?_
  ·by_cases h0:a<=0
   ·rw[At h0];exact eQ.ret ⟨hc,λq=>by cases q⟩
   ·rw[As h0];refine u37 hc λ_ c hc=>?_;exact eQ.ret ⟨hc,λ_=>by omega⟩
  ·rintro⟨w,x,y,i⟩ ⟨hc,j⟩;cases i
   case' true=>
    dsimp only;rw[At rfl]
   case' false=>
    have z:=j rfl;obtain⟨k,rfl⟩:∃k,d=k+1:=⟨d - 1,by omega⟩;have D:=akR aUE (J2 k aUE);have hs:=aFB k;have A:=ac9 k aUE;have m:=aFC k;dsimp only;rw[As are];refine eQ.bind (D (a - 1) aUE aUE l g _ hc) ?_;rintro⟨b,c⟩ ⟨f,hc⟩;have f:wt b<=bD k:=f;refine u40 aUL λv c _ _ hc=>?_;refine eQ.ite ?_ (eQ.ite ?_ ?_)
    case' refine_2.false.refine_2=>
     refine eQ.bind (P:=λt=>t=(([(ae.mk 4 0 [105] []),(ae.mk 1 3 [] [])]:List ae),([(ae.mk 4 0 [105] []),(ae.mk 10 1 [] ([(ae.mk 4 0 [105] []),(ae.mk 1 1 [] [])]:List ae))]:List ae))) ⟨_,rfl,rfl⟩ ?_;rintro _ rfl;dsimp only;refine eQ.bind (D (a - 1) aUE aUE true g _ hc) ?_;rintro⟨n,c⟩ ⟨h,hc⟩;have h:wt n<=bD k:=h;have o:wl n.af<=wt n:=by cases n;rw[fD];simp only[ae.kU];omega
     have p:n.al.length<=wt n:=by cases n;rw[fD];simp only[ae.mG];omega
     have r:=aol n.af;have s:n.al.length+wl n.af<=wt n:=by cases n;rw[fD];simp only[ae.kU,ae.mG];omega
     refine u15 ?_;refine uL ?_;exact eQ.ret ⟨by simp only[fD,gv,ep,fO,so,An];omega,hc⟩
   all_goals repeat' first | apply eQ.ite | apply u15 | refine u40 aUL λ_ _ _ _ _=>?_ | refine u39 aUL λ_ _ _ _=>?_ | refine uD (ac6 aUL) λ_ _ _ _=>?_ | refine uD (D (a - 1) aUE aUE _ _ _ aUL) λ_ _ _ _=>?_ | refine uD (aMi aUL) λ_ _ _ _=>?_ | exact uR aUL
theorem do2 {c:aL} (hc:Cu c) (l g:Bool):eQ (ie c 2 l g) (Dn 2000000):=(akR (d:=2) aUF (J2 2 aUF) 2 aUF aUF l g c hc).mono (λr h=>⟨aSe h.1 aUF,h.2⟩)
theorem st2 {c:aL} (hc:Cu c) (l g:Bool):eQ (lK c 2 l g) (Dn 2000000):=(J2 2 aUF 2 aUF aUF l g c hc).mono (λr h=>⟨aSe h.1 (ac9 2 aUF),h.2⟩)
theorem agV {c:aL} (hc:Cu c) (k:Int) {t:av} (a:t.length<=100) (m:Int) (g:Bool):eQ (gV c k t m g) (Dn 2001000):=by
 unfold gV;refine eQ.bind (t39 hc aUF aUF aUF) ?_;rintro⟨_,_⟩ ⟨_,_⟩;refine eQ.bind (t40 aUL aUF aUF) ?_;rintro⟨_,_⟩ ⟨_,_,_⟩;refine eQ.bind (do2 aUL _ _) ?_;rintro⟨_,_⟩ ⟨_,_⟩;exact uR aUL
theorem uF {β:Type} {Q:β->Prop} {c:aL} (hc:Cu c) {k:Int} {t:av} (a:t.length<=100) {m:Int} {g:Bool} {K:ae×aL->Option β} (h:∀n c,wt n<=2001000->Cu c->eQ (K (n,c)) Q):eQ (gV c k t m g>>=K) Q:=uD (agV hc k a m g) h
def Dl (B N:Nat) (t:(List UInt8)×Int×Int×(List ae)):Prop:=wl t.2.2.2<=B/\t.2.2.2.length<=N/\Cu (aL.mk t.1 t.2.1 t.2.2.1)
theorem J3:∀(k:Nat) (c:aL) (L:List ae),Cu c->L.length+k<=100->eQ (iL c.fB c.fI c.fH L (k:Int)) (Dl (wl L+k*2000001) 100):=by
 intro k;induction k with
 | zero=>
  intro c L hc hL;rw[iL,As aUF];exact eQ.ret ⟨by simp,by simp only;omega,hc⟩
 | succ k a=>
  intro c L hc hL;rw[iL,At aUE,show bq (((k+1:Nat):Int) - 1)=(k:Int)from by rw[bq,Ks aUE aUE];omega];refine eQ.bind (st2 (c:=⟨_,_,_⟩) hc _ _) ?_;rintro⟨x,c⟩ ⟨hx,hc⟩;refine uL ?_;refine(a c _ hc aUO).mono ?_;rintro⟨t1,t2,e,f⟩ ⟨q1,b,d⟩;refine⟨?_,b,d⟩;simp only[fO,cy]at q1 hx ⊢;omega
theorem ara {c:aL} (hc:Cu c):eQ (mE c) (Dn 40000000):=by
 unfold mE;refine eQ.bind (P:=Dl 2002000 1) ?_ ?_
 ·refine u37 hc λ_ c hc=>?_;refine eQ.ite ?_ (eQ.ret ⟨by simp [ep],by simp,hc⟩);refine uF hc aUF λx c hx hc=>?_;refine eQ.bind (P:=λ_=>True) ⟨(),At aUG,trivial⟩ ?_;rintro _ _;exact eQ.ret ⟨by simp only[cy]at *;omega,by simp,hc⟩
 rintro⟨_,_,_,m⟩ ⟨q1,a,hc⟩;refine eQ.bind (P:=Dl 4004000 2) ?_ ?_
 ·refine u37 hc λ_ c hc=>?_;refine eQ.ite ?_ (eQ.ret ⟨by simp only at *;omega,by simp only at *;omega,hc⟩);refine uF hc aUF λx c hx hc=>?_;refine uL ?_;exact eQ.ret ⟨by simp only[fO,cy]at *;omega,by simp only[It,so,An]at *;omega,hc⟩
 rintro⟨_,_,_,yz⟩ ⟨q1,a,hc⟩;refine eQ.bind (P:=Dl 20000000 6) ?_ ?_
 ·refine u37 hc λ_ c hc=>?_;refine eQ.ite ?_ (eQ.ret ⟨by simp only at *;omega,by simp only at *;omega,hc⟩);refine u39 hc λ_ c b hc=>?_;refine uF hc b λx c hx hc=>?_;refine u15 ?_;refine uL ?_;refine eQ.bind (P:=Dl 1000 2) ?_ ?_
  ·refine u40 hc λ_ c _ _ hc=>?_;exact eQ.ret ⟨by simp only[fD,gv,ep,so,An];omega,by simp,hc⟩
  rintro⟨_,_,_,e⟩ ⟨f,d,hc⟩;refine u39 hc λ_ c b hc=>?_;refine u40 hc λ_ c _ _ hc=>?_;refine uF hc b λn c g hc=>?_;refine uL ?_;refine uF hc aUF λo c p hc=>?_;refine uL ?_;refine u15 ?_;refine uL ?_;refine uF hc aUF λq c r hc=>?_;refine u15 ?_;refine uL ?_;refine u39 hc λ_ c b hc=>?_;refine u15 ?_;refine u15 ?_;refine uL ?_;exact eQ.ret ⟨by simp only[fD,fO,gv,ep,so,An]at *;omega,by simp only[It,so,An]at *;omega,hc⟩
 rintro⟨_,_,_,s⟩ ⟨q1,a,hc⟩;refine eQ.bind (P:=Dl 32000000 100) ?_ ?_
 ·refine u40 hc λv c h i hc=>?_;simp only at h i q1 a;obtain⟨k,j⟩:∃k:Nat,v=(k:Int):=⟨v.toNat,by omega⟩;subst j;dsimp only;rw[show bq (1+(k:Int))=((k+1:Nat):Int)from kj aUE aUE];refine(J3 (k+1) c _ hc aUE).mono ?_;rintro⟨t1,t2,t,u⟩ ⟨f,d,l⟩;exact⟨by simp only at *;omega,d,l⟩
 rintro⟨_,_,_,w⟩ ⟨q1,a,hc⟩;exact eQ.ret ⟨by simp only[fD,An]at *;omega,hc⟩
theorem agW {a:Int} {n:Nat} (b:1<=n) (c:0<=a):∃k:Nat,a.tmod (n:Int)=(k:Int)/\k<n:=by
 obtain⟨u,rfl⟩:∃u:Nat,a=(u:Int):=⟨a.toNat,by omega⟩;exact⟨u % n,(Int.ofNat_tmod u n).symm,Nat.mod_lt _ aUE⟩
theorem aFF {c:aL} (hc:Cu c) {n:Nat} (h1:1<=n) (h2:n<=1099511627777):eQ (yy c (n:Int)) (λr=>(∃k:Nat,r.1=(k:Int)/\k<n)/\Cu r.2):=by
 by_cases h:n<=256
 ·obtain⟨v,t,e,e2,f⟩:=E4 hc h1 h;exact⟨_,e,⟨v,rfl,e2⟩,f⟩
 ·unfold yy;rw[As aUE,As aUE];obtain⟨b,u,i,w,x,j⟩:=J1 hc;obtain⟨d,y,e2,z,A,l⟩:=J1 j;obtain⟨g,m,f,B,C,o⟩:=J1 l;have hm:must ((n:Int)≠0)=some ():=At aUE;have w1:bq (b*65536)=b*65536:=Ks aUE aUE;have p:bq (d*256)=d*256:=Ks aUE aUE;have q:bq (b*65536+d*256)=b*65536+d*256:=Ks aUE aUE;have s:bq (b*65536+d*256+g)=b*65536+d*256+g:=Ks aUE aUE;obtain⟨k,k1,k2⟩:=agW (a:=b*65536+d*256+g) h1 aUE;refine⟨((k:Int),m),?_,⟨k,rfl,k2⟩,o⟩;rw[i,sb];dsimp only;rw[e2,sb];dsimp only;rw[f,sb];dsimp only;rw[hm,sb,w1,p,q,s,k1]
theorem SW {c:aL} (hc:Cu c) {l:av} (b:l.length<=1099511627776):eQ (oR c l) (λr=>r.1.length<=l.length+1/\Cu r.2):=by
 unfold oR;have e:cD 1 ([]:List UInt8) l=some l:=by rw[iz (by simp only[An];omega)];rfl
 rw[e,sb];refine u40 hc λv c _ _ hc=>?_;refine eQ.ite (?_) (eQ.ite ?_ (eQ.ite ?_ (eQ.ret ⟨by simp only;omega,hc⟩)))
 ·by_cases h0:(l.length:Int)>0
  ·rw[At h0];refine eQ.bind (aFF hc (n:=l.length) aUE aUE) ?_;rintro⟨k,c⟩ ⟨a,hc⟩;refine u40 hc λw c _ _ hc=>?_;obtain⟨k0,k1,k2⟩:=a;simp only at k1 k2;subst k1;dsimp only;rw[dj k2];rw[sb];exact eQ.ret ⟨by simp only[aSN];omega,by assumption⟩
  ·rw[As h0];exact eQ.ret ⟨by simp only;omega,hc⟩
 ·have e:bq ((l.length:Int)+1)=((l.length+1:Nat):Int):=ca aUE;rw[e];refine eQ.bind (aFF hc (n:=l.length+1) aUE aUE) ?_;rintro⟨k,c⟩ ⟨⟨k0,k1,k2⟩,hc⟩;simp only at k1 k2;subst k1;dsimp only;have e2:Ny l ((k0:Nat):Int)=some (l.take k0):=by unfold Ny;rw[At ⟨by omega,by omega⟩,aSF]
  rw[e2];refine eQ.bind (P:=λx=>x.length<=l.length) ⟨_,rfl,by show(l.take k0).length<=l.length;rw[aSX];omega⟩ ?_;rintro x hx;exact eQ.ret ⟨by simp only;omega,hc⟩
 ·refine eQ.bind (t85 hc aUF aUF) ?_;rintro⟨w,c⟩ hc;dsimp only;rw[iz aUQ];refine eQ.bind (P:=λx=>x.length=l.length+1) ⟨_,rfl,by simp⟩ ?_;rintro x hx;exact eQ.ret ⟨by simp only;omega,hc⟩
theorem arb {c:aL} (hc:Cu c):eQ (mF c) (λr=>r.1.length<=400/\Cu r.2):=by
 unfold mF
 have go:∀(k:Nat) (c:aL) (s:av),Cu c->s.length+k*100<=1000->eQ (iM c.fB c.fI c.fH s (k:Int)) (λt=>t.1.length<=s.length+k*100/\Cu (aL.mk t.2.1 t.2.2.1 t.2.2.2)):=by
  intro k;induction k with
  | zero=>
   intro c s hc hs;rw[iM,As aUF];exact eQ.ret ⟨by simp,hc⟩
  | succ k e=>
   intro c s hc hs;rw[iM,At aUE,show bq (((k+1:Nat):Int) - 1)=(k:Int)from by rw[bq,Ks aUE aUE];omega];refine u39 (c:=⟨_,_,_⟩) hc λx c hx hc=>?_;have hx:x.length<=100:=hx;refine eQ.bind (P:=λr=>r=s++x) ⟨_,At aUE,rfl⟩ ?_;rintro _ rfl;refine(e c _ hc aVj).mono ?_;rintro⟨t1,t2,b,d⟩ ⟨q1,a⟩;refine⟨?_,a⟩;rw[It]at q1;simp only at q1 ⊢;omega
 refine eQ.bind (P:=λt=>t.1.length<=400/\Cu (aL.mk t.2.1 t.2.2.1 t.2.2.2)) ?_ ?_
 ·refine u40 hc λv c g h hc=>?_;obtain⟨k,f⟩:∃k:Nat,v=(k:Int):=⟨v.toNat,by omega⟩;subst f;refine(go k c [] hc (by rw[An];omega)).mono ?_;rintro⟨t1,t2,b,d⟩ ⟨q1,a⟩;refine⟨?_,a⟩;rw[An]at q1;simp only at q1 ⊢;omega
 ·rintro⟨t1,t2,b,d⟩ ⟨q1,a⟩;exact eQ.ret ⟨q1,a⟩
end Go.Am
