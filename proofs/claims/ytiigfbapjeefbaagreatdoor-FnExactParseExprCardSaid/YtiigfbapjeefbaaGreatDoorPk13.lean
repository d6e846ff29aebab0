/- Texts of the proof, joined and shortened. -/
import Derived.Test.YtiigfbapjeefbaaGreatDoorPk12
import Derived.Lib.AtoiTie
set_option linter.unusedVariables false
set_option linter.unusedSimpArgs false
set_option maxRecDepth 10000
set_option maxHeartbeats 400000
namespace Go.Am
open Go Go.RowKit Go.Proofs
section
variable {ts:List af} {e e':Int}
theorem st0 {i:Nat} {k:Int} {s:JS} (hk:k≠7) (h:s.Ok ts) (hd:s.nd=true) (hle:i<=s.pos) (hg:∀i',s=.g i'->i+1<i'):Rs ts false 0 (.g i) s (.mk k 0 [] []) (.mk k 0 [] []):=
 Rs.node hk h hd hle (λi' h'=>⟨hg i' h',rfl,rfl,by have:=hg i' h';rw [mi];simp only [At];omega⟩)
theorem st1 {i i1 D:Nat} {v:Bool} {k:Int} {s:JS} {n m:ae} (hk:k≠7) (h:Rs ts v D (.g i1) s n m) (hi:i<=i1) (c:aB):Rs ts false 0 (.g i) (wS ts s c) (.mk k 0 [] [n]) (.mk k 0 [] [m]):=
 Rs.node hk (lT h.ok _) (pB _ _) (by have:=iy (ts:=ts) s c;have q:i1<=s.pos:=h.le;omega) (λi' h'=>by
  obtain ⟨k1,q1,q2,_⟩:=gv h'
  obtain ⟨k2,q3,q4,q5,q6,_⟩:=h.good k1 q1
  cases q3
  subst q5
  refine ⟨by omega,rfl,rfl,?_⟩
  rw [df]
  simp only [At]
  omega)
theorem n7 (H:Tk ts e) {s s':JS} {m:ae} (k:Int) (h:aU (qS ts e' s)=some (m,qS ts e' s')) (ok:s'.Ok ts):dF (qS ts e' s) k=some (.mk k 0 [] [m],qS ts e' (wS ts s' [59])):=by
 rw [dF]
 refine aX h ?_
 refine aX (fL H _ ok [59]) ?_
 rfl
theorem ZP (H:Tk ts e) {i:Nat} (hi:i<=ts.length):bT (qS ts e' (.g i)) 5=if kd ts i=5 then some (tx ts i,qS ts e' (.g (i+1))) else some ([],qS ts e' (.b i)):=by
 have hs:(JS.g i).Ok ts:=hi
 unfold bT
 rw [b8 H _ hs,sb]
 dsimp only
 rw [if_neg aLg]
 show (if kd ts i=5 then _ else _)=_
 by_cases h:kd ts i=5
 ·rw [if_pos h,if_pos h,if_neg aKL,if_neg aKL,se H hi]
  rfl
 ·rw [if_neg h,if_neg h]
  rfl
theorem aAW (H:Tk ts e) {i:Nat} (hi:i<=ts.length) {m:ae} (h1:aH (qS ts e' (.g i))=some (m,qS ts e' (.b i))) (x1:tw ts i [33]=false) (x2:tw ts i [45]=false):∃m,aU (qS ts e' (.g i))=some (m,qS ts e' (.b i)):=by
 have hs:(JS.g i).Ok ts:=hi
 have hb:(JS.b i).Ok ts:=hi
 have h2:bV (qS ts e' (.g i)) false=some (m,qS ts e' (.b i)):=by
  rw [bV]
  refine aX h1 ?_
  refine I9.run (x:=_) (.inr ?_)
  rw [aF]
  simp only [jC,if_true]
 have h3:cn (qS ts e' (.g i))=some (m,qS ts e' (.b i)):=by
  rw [cn]
  refine aG (au (w:=[33]) H hs x1) ?_
  refine aG (au (w:=[45]) H hs x2) ?_
  refine aX h2 ?_
  rfl
 have h4:∀k lv:Nat,lv+k=11->bm (qS ts e' (.g i)) lv=some (m,qS ts e' (.b i)):=by
  intro k
  induction k with
  | zero=>
   intro lv hl
   obtain rfl:lv=11:=hl
   rw [bm,if_pos aKL]
   refine aX h3 ?_
   rfl
  | succ k ih=>
   intro lv hl
   rw [bm,if_neg aKK,bQ aKK]
   refine aX (ih (lv+1) aKK) ?_
   refine I9.run (x:=_) (.inr ?_)
   rw [bD]
   simp only [jC,if_true]
 have h5:dG (qS ts e' (.g i))=some (m,qS ts e' (.b i)):=by
  rw [dG]
  refine aX (h4 5 6 rfl) ?_
  refine J9.run (x:=_) ?_
  rw [bR,dO]
  refine aG (au (w:=[38,38]) H hb rfl) ?_
  rfl
 have h6:eG (qS ts e' (.g i))=some (m,qS ts e' (.b i)):=by
  rw [eG]
  refine aX h5 ?_
  refine J9.run (x:=_) ?_
  rw [bX,dO]
  refine aG (au (w:=[124,124]) H hb rfl) ?_
  rfl
 have h7:bW (qS ts e' (.g i))=some (m,qS ts e' (.b i)):=by
  rw [bW]
  refine aX h6 ?_
  refine aG (au (w:=[63,63]) H hb rfl) ?_
  rfl
 have h8:dn (qS ts e' (.g i))=some (m,qS ts e' (.b i)):=by
  rw [dn]
  refine aX h7 ?_
  refine aG (au (w:=[63]) H hb rfl) ?_
  rfl
 refine ⟨m,?_⟩
 rw [aU]
 refine aX h8 ?_
 refine nH (show (qS ts e' (.b i)).ay=true from rfl) ?_
 rfl
theorem Nu (H:Tk ts e) {i:Nat} (hi:i<=ts.length) (IH:∀s,Lt ts i s->PC ts e e' s) (hw:tw ts i [119,104,105,108,101]=true):C1 ts e e' false 0 (.g i) bc aL:=by
 have hs:(JS.g i).Ok ts:=hi
 have hL:=H.len
 have bg:=cw hw
 obtain ⟨k4,k5,k2,k1⟩:=kX hw
 have fu:(JS.g (i+1)).Ok ts:=bg
 obtain ⟨s1,c,c',g1,g2,ZN,nd1,p1,vr⟩:=Km H IH (.g (i+1)) fu (aIK i)
 have p1:i+1<=s1.pos:=p1
 have l1:Lt ts i s1:=⟨ZN,nd1,λk hk=>by
  obtain ⟨k1,q1,q2,_⟩:=vr k hk
  cases q1
  omega⟩
 obtain ⟨s2,b,b',f1,f2,f3⟩:=(IH _ l1).block
 have p2:=f3.le
 have l2:Lt ts i s2:=Lt.rs f3 (λk hk=>aIn (l1.lt k hk))
 refine ⟨s2,.mk 35 0 [] [c,b],.mk 35 0 [] [c',b'],?_,?_,?_⟩
 ·rw [bc]
  refine aG ((eJ H _ hs 1 [] aKL).trans aKM) ?_
  refine aG ((eJ H _ hs 6 [123] aKL).trans aKO) ?_
  refine aG (ax H hs (w:=[105,102]) (aw hw aKL)) ?_
  refine dH (c8 H hw) ?_
  refine aX g1 ?_
  refine aX f1 ?_
  rfl
 ·rw [aL]
  refine (eg (b8 H _ hs)).trans ?_
  refine ca qg ?_
  refine ca (show ¬(tok ts i).aj=1 from k1) ?_
  refine aG ((eV (e':=e') H (.g i) hs [123]).trans aKP) ?_
  refine aG (au H hs (w:=[101,99,104,111]) (aw hw aKL)) ?_
  refine aG ((eV (e':=e') H (.g i) hs [105,102]).trans aKQ) ?_
  refine dH (bU H hw) ?_
  refine aX g2 ?_
  refine aX f2 ?_
  rfl
 ·refine Rs.node aKL f3.ok l2.nd aKK (λi' h'=>?_)
  obtain ⟨k,q1,q2,q3,q4,_⟩:=f3.good i' h'
  obtain ⟨k1,q5,q6,q7,q8⟩:=vr k q1
  cases q5
  subst q3;subst q7
  refine ⟨by omega,rfl,rfl,?_⟩
  rw [ja,df]
  simp only [At]
  omega
theorem adV (H:Tk ts e) {i:Nat} (hi:i<=ts.length) (IH:∀s,Lt ts i s->PC ts e e' s) (hw:tw ts i [105,102]=true):C1 ts e e' false 0 (.g i) bc aL:=by
 have hs:(JS.g i).Ok ts:=hi
 have hL:=H.len
 have bg:=cw hw
 obtain ⟨k4,k5,k2,k1⟩:=kX hw
 have fu:(JS.g (i+1)).Ok ts:=bg
 obtain ⟨s',n,m,g1,g2,g3⟩:=agh H IH _ i (aHP _) (No i) hw
 refine ⟨s',n,m,?_,?_,g3⟩
 ·rw [bc]
  refine aG ((eJ H _ hs 1 [] aKL).trans aKM) ?_
  refine aG ((eJ H _ hs 6 [123] aKL).trans aKO) ?_
  refine dH (c8 H hw) ?_
  refine aX g1 ?_
  rfl
 ·rw [aL]
  refine (eg (b8 H _ hs)).trans ?_
  refine ca qg ?_
  refine ca (show ¬(tok ts i).aj=1 from k1) ?_
  refine aG ((eV (e':=e') H (.g i) hs [123]).trans aKP) ?_
  refine aG (au H hs (w:=[101,99,104,111]) (aw hw aKL)) ?_
  refine dH ((eV (e':=e') H (.g i) hs [105,102]).trans (by rw [show tw ts (JS.g i).pos [105,102]=true from hw])) ?_
  refine aX g2 ?_
  rfl
theorem G6 (H:Tk ts e) {i:Nat} (hi:i<=ts.length) (IH:∀s,Lt ts i s->PC ts e e' s) (hw:tw ts i [102,111,114,101,97,99,104]=true):C1 ts e e' false 0 (.g i) bc aL:=by
 have hs:(JS.g i).Ok ts:=hi
 have hL:=H.len
 have bg:=cw hw
 obtain ⟨k4,k5,k2,k1⟩:=kX hw
 have fu:(JS.g (i+1)).Ok ts:=bg
 obtain ⟨s',n,m,g1,g2,g3⟩:=Nt H bg IH
 refine ⟨s',n,m,?_,?_,g3⟩
 ·rw [bc]
  refine aG ((eJ H _ hs 1 [] aKL).trans aKM) ?_
  refine aG ((eJ H _ hs 6 [123] aKL).trans aKO) ?_
  refine aG (ax H hs (w:=[105,102]) (aw hw aKL)) ?_
  refine aG (ax H hs (w:=[119,104,105,108,101]) (aw hw aKL)) ?_
  refine dH (c8 H hw) ?_
  refine aX g1 ?_
  rfl
 ·rw [aL]
  refine (eg (b8 H _ hs)).trans ?_
  refine ca qg ?_
  refine ca (show ¬(tok ts i).aj=1 from k1) ?_
  refine aG ((eV (e':=e') H (.g i) hs [123]).trans aKP) ?_
  refine aG (au H hs (w:=[101,99,104,111]) (aw hw aKL)) ?_
  refine aG ((eV (e':=e') H (.g i) hs [105,102]).trans aKQ) ?_
  refine aG (au H hs (w:=[119,104,105,108,101]) (aw hw aKL)) ?_
  refine dH (bU H hw) ?_
  refine aX g2 ?_
  rfl
theorem ZQ (H:Tk ts e) {i:Nat} (hi:i<=ts.length) (IH:∀s,Lt ts i s->PC ts e e' s) (hw:tw ts i [116,114,121]=true):C1 ts e e' false 0 (.g i) bc aL:=by
 have hs:(JS.g i).Ok ts:=hi
 have hL:=H.len
 have bg:=cw hw
 obtain ⟨k4,k5,k2,k1⟩:=kX hw
 have fu:(JS.g (i+1)).Ok ts:=bg
 obtain ⟨s',n,m,g1,g2,g3⟩:=alz H bg IH
 refine ⟨s',n,m,?_,?_,g3⟩
 ·rw [bc]
  refine aG ((eJ H _ hs 1 [] aKL).trans aKM) ?_
  refine aG ((eJ H _ hs 6 [123] aKL).trans aKO) ?_
  refine aG (ax H hs (w:=[105,102]) (aw hw aKL)) ?_
  refine aG (ax H hs (w:=[119,104,105,108,101]) (aw hw aKL)) ?_
  refine aG (ax H hs (w:=[102,111,114,101,97,99,104]) (aw hw aKL)) ?_
  refine dH (c8 H hw) ?_
  refine aX g1 ?_
  rfl
 ·rw [aL]
  refine (eg (b8 H _ hs)).trans ?_
  refine ca qg ?_
  refine ca (show ¬(tok ts i).aj=1 from k1) ?_
  refine aG ((eV (e':=e') H (.g i) hs [123]).trans aKP) ?_
  refine aG (au H hs (w:=[101,99,104,111]) (aw hw aKL)) ?_
  refine aG ((eV (e':=e') H (.g i) hs [105,102]).trans aKQ) ?_
  refine aG (au H hs (w:=[119,104,105,108,101]) (aw hw aKL)) ?_
  refine aG (au H hs (w:=[102,111,114,101,97,99,104]) (aw hw aKL)) ?_
  refine aG (au H hs (w:=[98,114,101,97,107]) (aw hw aKL)) ?_
  refine aG (au H hs (w:=[99,111,110,116,105,110,117,101]) (aw hw aKL)) ?_
  refine aG (au H hs (w:=[114,101,116,117,114,110]) (aw hw aKL)) ?_
  refine aG (au H hs (w:=[103,108,111,98,97,108]) (aw hw aKL)) ?_
  refine aG (au H hs (w:=[117,110,115,101,116]) (aw hw aKL)) ?_
  refine aG (au H hs (w:=[116,104,114,111,119]) (aw hw aKL)) ?_
  refine dH (bU H hw) ?_
  refine aX g2 ?_
  rfl
theorem RI (H:Tk ts e) {i:Nat} (hi:i<=ts.length) (IH:∀s,Lt ts i s->PC ts e e' s) (hw:tw ts i [101,99,104,111]=true):C1 ts e e' false 0 (.g i) bc aL:=by
 have hs:(JS.g i).Ok ts:=hi
 have hL:=H.len
 have bg:=cw hw
 obtain ⟨k4,k5,k2,k1⟩:=kX hw
 have fu:(JS.g (i+1)).Ok ts:=bg
 obtain ⟨s1,n,m,g1,g2,g3⟩:=(IH _ (Lt.g (aHP i) bg)).expr
 refine ⟨wS ts s1 [59],.mk 32 0 [] [n],.mk 32 0 [] [m],?_,?_,?_⟩
 ·rw [bc]
  refine aG ((eJ H _ hs 1 [] aKL).trans aKM) ?_
  refine aG ((eJ H _ hs 6 [123] aKL).trans aKO) ?_
  refine aG (ax H hs (w:=[105,102]) (aw hw aKL)) ?_
  refine aG (ax H hs (w:=[119,104,105,108,101]) (aw hw aKL)) ?_
  refine aG (ax H hs (w:=[102,111,114,101,97,99,104]) (aw hw aKL)) ?_
  refine aG (ax H hs (w:=[116,114,121]) (aw hw aKL)) ?_
  refine dH (c8 H hw) ?_
  refine aX g1 ?_
  refine aX (er H _ g3.ok [59]) ?_
  rfl
 ·rw [aL]
  refine (eg (b8 H _ hs)).trans ?_
  refine ca qg ?_
  refine ca (show ¬(tok ts i).aj=1 from k1) ?_
  refine aG ((eV (e':=e') H (.g i) hs [123]).trans aKP) ?_
  refine dH (bU H hw) ?_
  refine aX (n7 H 32 g2 g3.ok) ?_
  rfl
 ·exact st1 aKL g3 (aIK i) [59]
theorem Nv (H:Tk ts e) {i:Nat} (hi:i<=ts.length) (IH:∀s,Lt ts i s->PC ts e e' s) (hw:tw ts i [116,104,114,111,119]=true):C1 ts e e' false 0 (.g i) bc aL:=by
 have hs:(JS.g i).Ok ts:=hi
 have hL:=H.len
 have bg:=cw hw
 obtain ⟨k4,k5,k2,k1⟩:=kX hw
 have fu:(JS.g (i+1)).Ok ts:=bg
 obtain ⟨s1,n,m,g1,g2,g3⟩:=(IH _ (Lt.g (aHP i) bg)).expr
 refine ⟨wS ts s1 [59],.mk 42 0 [] [n],.mk 42 0 [] [m],?_,?_,?_⟩
 ·rw [bc]
  refine aG ((eJ H _ hs 1 [] aKL).trans aKM) ?_
  refine aG ((eJ H _ hs 6 [123] aKL).trans aKO) ?_
  refine aG (ax H hs (w:=[105,102]) (aw hw aKL)) ?_
  refine aG (ax H hs (w:=[119,104,105,108,101]) (aw hw aKL)) ?_
  refine aG (ax H hs (w:=[102,111,114,101,97,99,104]) (aw hw aKL)) ?_
  refine aG (ax H hs (w:=[116,114,121]) (aw hw aKL)) ?_
  refine aG (ax H hs (w:=[101,99,104,111]) (aw hw aKL)) ?_
  refine aG (ax H hs (w:=[98,114,101,97,107]) (aw hw aKL)) ?_
  refine aG (ax H hs (w:=[99,111,110,116,105,110,117,101]) (aw hw aKL)) ?_
  refine aG (ax H hs (w:=[114,101,116,117,114,110]) (aw hw aKL)) ?_
  refine aG (ax H hs (w:=[103,108,111,98,97,108]) (aw hw aKL)) ?_
  refine aG (ax H hs (w:=[117,110,115,101,116]) (aw hw aKL)) ?_
  refine dH (c8 H hw) ?_
  refine aX g1 ?_
  refine aX (er H _ g3.ok [59]) ?_
  rfl
 ·rw [aL]
  refine (eg (b8 H _ hs)).trans ?_
  refine ca qg ?_
  refine ca (show ¬(tok ts i).aj=1 from k1) ?_
  refine aG ((eV (e':=e') H (.g i) hs [123]).trans aKP) ?_
  refine aG (au H hs (w:=[101,99,104,111]) (aw hw aKL)) ?_
  refine aG ((eV (e':=e') H (.g i) hs [105,102]).trans aKQ) ?_
  refine aG (au H hs (w:=[119,104,105,108,101]) (aw hw aKL)) ?_
  refine aG (au H hs (w:=[102,111,114,101,97,99,104]) (aw hw aKL)) ?_
  refine aG (au H hs (w:=[98,114,101,97,107]) (aw hw aKL)) ?_
  refine aG (au H hs (w:=[99,111,110,116,105,110,117,101]) (aw hw aKL)) ?_
  refine aG (au H hs (w:=[114,101,116,117,114,110]) (aw hw aKL)) ?_
  refine aG (au H hs (w:=[103,108,111,98,97,108]) (aw hw aKL)) ?_
  refine aG (au H hs (w:=[117,110,115,101,116]) (aw hw aKL)) ?_
  refine dH (bU H hw) ?_
  refine aX (n7 H 42 g2 g3.ok) ?_
  rfl
 ·exact st1 aKL g3 (aIK i) [59]
theorem Nw (H:Tk ts e) {i:Nat} (hi:i<=ts.length) (IH:∀s,Lt ts i s->PC ts e e' s) (hw:tw ts i [121,105,101,108,100]=true):C1 ts e e' false 0 (.g i) bc aL:=by
 have hs:(JS.g i).Ok ts:=hi
 have hL:=H.len
 have bg:=cw hw
 obtain ⟨k4,k5,k2,k1⟩:=kX hw
 have fu:(JS.g (i+1)).Ok ts:=bg
 obtain ⟨s1,n,m,g1,g2,g3⟩:=(IH _ (Lt.g (aHP i) bg)).expr
 refine ⟨wS ts s1 [59],.mk 46 0 [] [n],.mk 46 0 [] [m],?_,?_,?_⟩
 ·rw [bc]
  refine aG ((eJ H _ hs 1 [] aKL).trans aKM) ?_
  refine aG ((eJ H _ hs 6 [123] aKL).trans aKO) ?_
  refine aG (ax H hs (w:=[105,102]) (aw hw aKL)) ?_
  refine aG (ax H hs (w:=[119,104,105,108,101]) (aw hw aKL)) ?_
  refine aG (ax H hs (w:=[102,111,114,101,97,99,104]) (aw hw aKL)) ?_
  refine aG (ax H hs (w:=[116,114,121]) (aw hw aKL)) ?_
  refine aG (ax H hs (w:=[101,99,104,111]) (aw hw aKL)) ?_
  refine aG (ax H hs (w:=[98,114,101,97,107]) (aw hw aKL)) ?_
  refine aG (ax H hs (w:=[99,111,110,116,105,110,117,101]) (aw hw aKL)) ?_
  refine aG (ax H hs (w:=[114,101,116,117,114,110]) (aw hw aKL)) ?_
  refine aG (ax H hs (w:=[103,108,111,98,97,108]) (aw hw aKL)) ?_
  refine aG (ax H hs (w:=[117,110,115,101,116]) (aw hw aKL)) ?_
  refine aG (ax H hs (w:=[116,104,114,111,119]) (aw hw aKL)) ?_
  refine dH (c8 H hw) ?_
  refine aX g1 ?_
  refine aX (er H _ g3.ok [59]) ?_
  rfl
 ·rw [aL]
  refine (eg (b8 H _ hs)).trans ?_
  refine ca qg ?_
  refine ca (show ¬(tok ts i).aj=1 from k1) ?_
  refine aG ((eV (e':=e') H (.g i) hs [123]).trans aKP) ?_
  refine aG (au H hs (w:=[101,99,104,111]) (aw hw aKL)) ?_
  refine aG ((eV (e':=e') H (.g i) hs [105,102]).trans aKQ) ?_
  refine aG (au H hs (w:=[119,104,105,108,101]) (aw hw aKL)) ?_
  refine aG (au H hs (w:=[102,111,114,101,97,99,104]) (aw hw aKL)) ?_
  refine aG (au H hs (w:=[98,114,101,97,107]) (aw hw aKL)) ?_
  refine aG (au H hs (w:=[99,111,110,116,105,110,117,101]) (aw hw aKL)) ?_
  refine aG (au H hs (w:=[114,101,116,117,114,110]) (aw hw aKL)) ?_
  refine aG (au H hs (w:=[103,108,111,98,97,108]) (aw hw aKL)) ?_
  refine aG (au H hs (w:=[117,110,115,101,116]) (aw hw aKL)) ?_
  refine aG (au H hs (w:=[116,104,114,111,119]) (aw hw aKL)) ?_
  refine aG (au H hs (w:=[116,114,121]) (aw hw aKL)) ?_
  refine dH (bU H hw) ?_
  refine aX (n7 H 46 g2 g3.ok) ?_
  rfl
 ·exact st1 aKL g3 (aIK i) [59]
theorem Nx (H:Tk ts e) {i:Nat} (hi:i<=ts.length) (IH:∀s,Lt ts i s->PC ts e e' s) (hw:tw ts i [98,114,101,97,107]=true):C1 ts e e' false 0 (.g i) bc aL:=by
 have hs:(JS.g i).Ok ts:=hi
 have hL:=H.len
 have bg:=cw hw
 obtain ⟨k4,k5,k2,k1⟩:=kX hw
 have fu:(JS.g (i+1)).Ok ts:=bg
 refine ⟨wS ts (.g (i+1)) [59],.mk 37 0 [] [],.mk 37 0 [] [],?_,?_,?_⟩
 ·rw [bc]
  refine aG ((eJ H _ hs 1 [] aKL).trans aKM) ?_
  refine aG ((eJ H _ hs 6 [123] aKL).trans aKO) ?_
  refine aG (ax H hs (w:=[105,102]) (aw hw aKL)) ?_
  refine aG (ax H hs (w:=[119,104,105,108,101]) (aw hw aKL)) ?_
  refine aG (ax H hs (w:=[102,111,114,101,97,99,104]) (aw hw aKL)) ?_
  refine aG (ax H hs (w:=[116,114,121]) (aw hw aKL)) ?_
  refine aG (ax H hs (w:=[101,99,104,111]) (aw hw aKL)) ?_
  refine dH (c8 H hw) ?_
  refine aX (er H _ fu [59]) ?_
  rfl
 ·rw [aL]
  refine (eg (b8 H _ hs)).trans ?_
  refine ca qg ?_
  refine ca (show ¬(tok ts i).aj=1 from k1) ?_
  refine aG ((eV (e':=e') H (.g i) hs [123]).trans aKP) ?_
  refine aG (au H hs (w:=[101,99,104,111]) (aw hw aKL)) ?_
  refine aG ((eV (e':=e') H (.g i) hs [105,102]).trans aKQ) ?_
  refine aG (au H hs (w:=[119,104,105,108,101]) (aw hw aKL)) ?_
  refine aG (au H hs (w:=[102,111,114,101,97,99,104]) (aw hw aKL)) ?_
  refine dH (bU H hw) ?_
  refine aX (fL H _ fu [59]) ?_
  rfl
 ·have p:=@iy ts (.g (i+1)) [59]
  have p:i+1<=(wS ts (.g (i+1)) [59]).pos:=p
  exact st0 aKL (lT fu _) (pB _ _) aKK (λi' h'=>by obtain ⟨k,q1,q2,_⟩:=gv h';cases q1;omega)
theorem Em (H:Tk ts e) {i:Nat} (hi:i<=ts.length) (IH:∀s,Lt ts i s->PC ts e e' s) (hw:tw ts i [99,111,110,116,105,110,117,101]=true):C1 ts e e' false 0 (.g i) bc aL:=by
 have hs:(JS.g i).Ok ts:=hi
 have hL:=H.len
 have bg:=cw hw
 obtain ⟨k4,k5,k2,k1⟩:=kX hw
 have fu:(JS.g (i+1)).Ok ts:=bg
 refine ⟨wS ts (.g (i+1)) [59],.mk 38 0 [] [],.mk 38 0 [] [],?_,?_,?_⟩
 ·rw [bc]
  refine aG ((eJ H _ hs 1 [] aKL).trans aKM) ?_
  refine aG ((eJ H _ hs 6 [123] aKL).trans aKO) ?_
  refine aG (ax H hs (w:=[105,102]) (aw hw aKL)) ?_
  refine aG (ax H hs (w:=[119,104,105,108,101]) (aw hw aKL)) ?_
  refine aG (ax H hs (w:=[102,111,114,101,97,99,104]) (aw hw aKL)) ?_
  refine aG (ax H hs (w:=[116,114,121]) (aw hw aKL)) ?_
  refine aG (ax H hs (w:=[101,99,104,111]) (aw hw aKL)) ?_
  refine aG (ax H hs (w:=[98,114,101,97,107]) (aw hw aKL)) ?_
  refine dH (c8 H hw) ?_
  refine aX (er H _ fu [59]) ?_
  rfl
 ·rw [aL]
  refine (eg (b8 H _ hs)).trans ?_
  refine ca qg ?_
  refine ca (show ¬(tok ts i).aj=1 from k1) ?_
  refine aG ((eV (e':=e') H (.g i) hs [123]).trans aKP) ?_
  refine aG (au H hs (w:=[101,99,104,111]) (aw hw aKL)) ?_
  refine aG ((eV (e':=e') H (.g i) hs [105,102]).trans aKQ) ?_
  refine aG (au H hs (w:=[119,104,105,108,101]) (aw hw aKL)) ?_
  refine aG (au H hs (w:=[102,111,114,101,97,99,104]) (aw hw aKL)) ?_
  refine aG (au H hs (w:=[98,114,101,97,107]) (aw hw aKL)) ?_
  refine dH (bU H hw) ?_
  refine aX (fL H _ fu [59]) ?_
  rfl
 ·have p:=@iy ts (.g (i+1)) [59]
  have p:i+1<=(wS ts (.g (i+1)) [59]).pos:=p
  exact st0 aKL (lT fu _) (pB _ _) aKK (λi' h'=>by obtain ⟨k,q1,q2,_⟩:=gv h';cases q1;omega)
theorem Kn (H:Tk ts e) {i:Nat} (hi:i<=ts.length) (IH:∀s,Lt ts i s->PC ts e e' s) (hw:tw ts i [103,108,111,98,97,108]=true):C1 ts e e' false 0 (.g i) bc aL:=by
 have hs:(JS.g i).Ok ts:=hi
 have hL:=H.len
 have bg:=cw hw
 obtain ⟨k4,k5,k2,k1⟩:=kX hw
 have fu:(JS.g (i+1)).Ok ts:=bg
 have o1:=Ab fu (k:=2) aKL
 have p1:=@tn ts (.g (i+1)) 2
 have p1:i+1<=(nS ts (.g (i+1)) 2).pos:=p1
 have p2:=iy (ts:=ts) (nS ts (.g (i+1)) 2) [59]
 have hx:=mh H (.g (i+1)) 2
 refine ⟨wS ts (nS ts (.g (i+1)) 2) [59],.mk 40 0 (nT ts (.g (i+1)) 2) [],.mk 40 0 (nT ts (.g (i+1)) 2) [],?_,?_,?_⟩
 ·rw [bc]
  refine aG ((eJ H _ hs 1 [] aKL).trans aKM) ?_
  refine aG ((eJ H _ hs 6 [123] aKL).trans aKO) ?_
  refine aG (ax H hs (w:=[105,102]) (aw hw aKL)) ?_
  refine aG (ax H hs (w:=[119,104,105,108,101]) (aw hw aKL)) ?_
  refine aG (ax H hs (w:=[102,111,114,101,97,99,104]) (aw hw aKL)) ?_
  refine aG (ax H hs (w:=[116,114,121]) (aw hw aKL)) ?_
  refine aG (ax H hs (w:=[101,99,104,111]) (aw hw aKL)) ?_
  refine aG (ax H hs (w:=[98,114,101,97,107]) (aw hw aKL)) ?_
  refine aG (ax H hs (w:=[99,111,110,116,105,110,117,101]) (aw hw aKL)) ?_
  refine aG (ax H hs (w:=[114,101,116,117,114,110]) (aw hw aKL)) ?_
  refine dH (c8 H hw) ?_
  refine aX (vt H _ fu 2) ?_
  refine aX (er H _ o1 [59]) ?_
  rfl
 ·rw [aL]
  refine (eg (b8 H _ hs)).trans ?_
  refine ca qg ?_
  refine ca (show ¬(tok ts i).aj=1 from k1) ?_
  refine aG ((eV (e':=e') H (.g i) hs [123]).trans aKP) ?_
  refine aG (au H hs (w:=[101,99,104,111]) (aw hw aKL)) ?_
  refine aG ((eV (e':=e') H (.g i) hs [105,102]).trans aKQ) ?_
  refine aG (au H hs (w:=[119,104,105,108,101]) (aw hw aKL)) ?_
  refine aG (au H hs (w:=[102,111,114,101,97,99,104]) (aw hw aKL)) ?_
  refine aG (au H hs (w:=[98,114,101,97,107]) (aw hw aKL)) ?_
  refine aG (au H hs (w:=[99,111,110,116,105,110,117,101]) (aw hw aKL)) ?_
  refine aG (au H hs (w:=[114,101,116,117,114,110]) (aw hw aKL)) ?_
  refine dH (bU H hw) ?_
  refine aX (tQ H _ fu rfl 2 (.inl rfl)) ?_
  refine aX (fL H _ o1 [59]) ?_
  rfl
 ·refine Rs.node aKL (lT o1 _) (pB _ _) aKK (λi' h'=>?_)
  obtain ⟨k,q1,q2,_⟩:=gv h'
  obtain ⟨k1,q3,q4,_⟩:=rl q1
  cases q3
  exact ⟨by omega,rfl,rfl,by rw [mi];omega⟩
theorem Ko (H:Tk ts e) {i:Nat} (hi:i<=ts.length) (IH:∀s,Lt ts i s->PC ts e e' s) (hw:tw ts i [114,101,116,117,114,110]=true):C1 ts e e' false 0 (.g i) bc aL:=by
 have hs:(JS.g i).Ok ts:=hi
 have hL:=H.len
 have bg:=cw hw
 obtain ⟨k4,k5,k2,k1⟩:=kX hw
 have fu:(JS.g (i+1)).Ok ts:=bg
 have atS:bE (pS ts e (.g (i+1))) 0 6 [59]=some (tw ts (i+1) [59],pS ts e (.g (i+1))):=(eJ H _ fu 6 [59] aKL).trans (by rw [show aS ts (.g (i+1)) 0 6 [59]=tw ts (i+1) [59] from aM H aKL aKL])
 cases h2:tw ts (i+1) [59] with
 | true=>
  have xc:=cw h2
  refine ⟨.g (i+1+1),.mk 39 0 [] [],.mk 39 0 [] [],?_,?_,st0 aKL xc rfl (by show i<=i+1+1;omega) (λi' h'=>by cases h';omega)⟩
  ·rw [bc]
   refine aG ((eJ H _ hs 1 [] aKL).trans aKM) ?_
   refine aG ((eJ H _ hs 6 [123] aKL).trans aKO) ?_
   refine aG (ax H hs (w:=[105,102]) (aw hw aKL)) ?_
   refine aG (ax H hs (w:=[119,104,105,108,101]) (aw hw aKL)) ?_
   refine aG (ax H hs (w:=[102,111,114,101,97,99,104]) (aw hw aKL)) ?_
   refine aG (ax H hs (w:=[116,114,121]) (aw hw aKL)) ?_
   refine aG (ax H hs (w:=[101,99,104,111]) (aw hw aKL)) ?_
   refine aG (ax H hs (w:=[98,114,101,97,107]) (aw hw aKL)) ?_
   refine aG (ax H hs (w:=[99,111,110,116,105,110,117,101]) (aw hw aKL)) ?_
   refine dH (c8 H hw) ?_
   refine dH (atS.trans (by rw [h2])) ?_
   refine aX (zn H h2) ?_
   rfl
  ·rw [aL]
   refine (eg (b8 H _ hs)).trans ?_
   refine ca qg ?_
   refine ca (show ¬(tok ts i).aj=1 from k1) ?_
   refine aG ((eV (e':=e') H (.g i) hs [123]).trans aKP) ?_
   refine aG (au H hs (w:=[101,99,104,111]) (aw hw aKL)) ?_
   refine aG ((eV (e':=e') H (.g i) hs [105,102]).trans aKQ) ?_
   refine aG (au H hs (w:=[119,104,105,108,101]) (aw hw aKL)) ?_
   refine aG (au H hs (w:=[102,111,114,101,97,99,104]) (aw hw aKL)) ?_
   refine aG (au H hs (w:=[98,114,101,97,107]) (aw hw aKL)) ?_
   refine aG (au H hs (w:=[99,111,110,116,105,110,117,101]) (aw hw aKL)) ?_
   refine dH (bU H hw) ?_
   refine dH (bU H h2) ?_
   rfl
 | false=>
  obtain ⟨s1,n,m,g1,g2,g3⟩:=(IH _ (Lt.g (aHP i) bg)).expr
  refine ⟨wS ts s1 [59],.mk 39 0 [] [n],.mk 39 0 [] [m],?_,?_,st1 aKL g3 (aIK i) [59]⟩
  ·rw [bc]
   refine aG ((eJ H _ hs 1 [] aKL).trans aKM) ?_
   refine aG ((eJ H _ hs 6 [123] aKL).trans aKO) ?_
   refine aG (ax H hs (w:=[105,102]) (aw hw aKL)) ?_
   refine aG (ax H hs (w:=[119,104,105,108,101]) (aw hw aKL)) ?_
   refine aG (ax H hs (w:=[102,111,114,101,97,99,104]) (aw hw aKL)) ?_
   refine aG (ax H hs (w:=[116,114,121]) (aw hw aKL)) ?_
   refine aG (ax H hs (w:=[101,99,104,111]) (aw hw aKL)) ?_
   refine aG (ax H hs (w:=[98,114,101,97,107]) (aw hw aKL)) ?_
   refine aG (ax H hs (w:=[99,111,110,116,105,110,117,101]) (aw hw aKL)) ?_
   refine dH (c8 H hw) ?_
   refine aG (atS.trans (by rw [h2])) ?_
   refine aX g1 ?_
   refine aX (er H _ g3.ok [59]) ?_
   rfl
  ·rw [aL]
   refine (eg (b8 H _ hs)).trans ?_
   refine ca qg ?_
   refine ca (show ¬(tok ts i).aj=1 from k1) ?_
   refine aG ((eV (e':=e') H (.g i) hs [123]).trans aKP) ?_
   refine aG (au H hs (w:=[101,99,104,111]) (aw hw aKL)) ?_
   refine aG ((eV (e':=e') H (.g i) hs [105,102]).trans aKQ) ?_
   refine aG (au H hs (w:=[119,104,105,108,101]) (aw hw aKL)) ?_
   refine aG (au H hs (w:=[102,111,114,101,97,99,104]) (aw hw aKL)) ?_
   refine aG (au H hs (w:=[98,114,101,97,107]) (aw hw aKL)) ?_
   refine aG (au H hs (w:=[99,111,110,116,105,110,117,101]) (aw hw aKL)) ?_
   refine dH (bU H hw) ?_
   refine aG (au (w:=[59]) H fu h2) ?_
   refine aX (n7 H 39 g2 g3.ok) ?_
   rfl
theorem Ny (H:Tk ts e) {i:Nat} (hi:i<=ts.length) (IH:∀s,Lt ts i s->PC ts e e' s) (hw:tw ts i [117,110,115,101,116]=true):C1 ts e e' false 0 (.g i) bc aL:=by
 have hs:(JS.g i).Ok ts:=hi
 have hL:=H.len
 have bg:=cw hw
 obtain ⟨k4,k5,k2,k1⟩:=kX hw
 have fu:(JS.g (i+1)).Ok ts:=bg
 have l1:=Lt.w (i:=i) fu (aIK i) [40]
 have p1:=@iy ts (.g (i+1)) [40]
 have p1:i+1<=(wS ts (.g (i+1)) [40]).pos:=p1
 obtain ⟨s2,n,m,g1,g2,g3⟩:=(IH _ l1).chain false
 have g1:gm (pS ts e (wS ts (.g (i+1)) [40])) false=some (n,pS ts e s2):=g1
 have g2:bV (qS ts e' (wS ts (.g (i+1)) [40])) true=some (m,qS ts e' s2):=g2
 have p2:=g3.le
 by_cases hg:∃k,s2=.g k/\uu n=true
 ·obtain ⟨k,rfl,ZM⟩:=hg
  obtain ⟨ka,q1,q2,q3,q4,q5,_⟩:=g3.good k rfl
  obtain ⟨k2,q6,q7,_⟩:=gv q1
  cases q6
  subst q3
  have p3:=@iy ts (.g k) [41]
  have p3:k<=(wS ts (.g k) [41]).pos:=p3
  have o3:=lT g3.ok [41]
  have p4:=iy (ts:=ts) (wS ts (.g k) [41]) [59]
  have tg:ic (qS ts e' (wS ts (.g (i+1)) [40]))=some (n,qS ts e' (.g k)):=by
   rw [ic]
   refine aX g2 ?_
   refine ca qg ?_
   refine dH ((oX n).trans (by rw [q5,ZM])) ?_
   rfl
  refine ⟨wS ts (wS ts (.g k) [41]) [59],.mk 41 0 [] [n],.mk 41 0 [] [n],?_,?_,Rs.node aKL (lT o3 _) (pB _ _) aKK (λi' h'=>?_)⟩
  ·rw [bc]
   refine aG ((eJ H _ hs 1 [] aKL).trans aKM) ?_
   refine aG ((eJ H _ hs 6 [123] aKL).trans aKO) ?_
   refine aG (ax H hs (w:=[105,102]) (aw hw aKL)) ?_
   refine aG (ax H hs (w:=[119,104,105,108,101]) (aw hw aKL)) ?_
   refine aG (ax H hs (w:=[102,111,114,101,97,99,104]) (aw hw aKL)) ?_
   refine aG (ax H hs (w:=[116,114,121]) (aw hw aKL)) ?_
   refine aG (ax H hs (w:=[101,99,104,111]) (aw hw aKL)) ?_
   refine aG (ax H hs (w:=[98,114,101,97,107]) (aw hw aKL)) ?_
   refine aG (ax H hs (w:=[99,111,110,116,105,110,117,101]) (aw hw aKL)) ?_
   refine aG (ax H hs (w:=[114,101,116,117,114,110]) (aw hw aKL)) ?_
   refine aG (ax H hs (w:=[103,108,111,98,97,108]) (aw hw aKL)) ?_
   refine dH (c8 H hw) ?_
   refine aX (er H _ fu [40]) ?_
   refine aX g1 ?_
   refine dH ((oW n).trans (by rw [ZM])) ?_
   refine aX (er H _ g3.ok [41]) ?_
   refine aX (er H _ o3 [59]) ?_
   rfl
  ·rw [aL]
   refine (eg (b8 H _ hs)).trans ?_
   refine ca qg ?_
   refine ca (show ¬(tok ts i).aj=1 from k1) ?_
   refine aG ((eV (e':=e') H (.g i) hs [123]).trans aKP) ?_
   refine aG (au H hs (w:=[101,99,104,111]) (aw hw aKL)) ?_
   refine aG ((eV (e':=e') H (.g i) hs [105,102]).trans aKQ) ?_
   refine aG (au H hs (w:=[119,104,105,108,101]) (aw hw aKL)) ?_
   refine aG (au H hs (w:=[102,111,114,101,97,99,104]) (aw hw aKL)) ?_
   refine aG (au H hs (w:=[98,114,101,97,107]) (aw hw aKL)) ?_
   refine aG (au H hs (w:=[99,111,110,116,105,110,117,101]) (aw hw aKL)) ?_
   refine aG (au H hs (w:=[114,101,116,117,114,110]) (aw hw aKL)) ?_
   refine aG (au H hs (w:=[103,108,111,98,97,108]) (aw hw aKL)) ?_
   refine dH (bU H hw) ?_
   refine aX (fL H _ fu [40]) ?_
   refine aX tg ?_
   refine aX (fL H _ g3.ok [41]) ?_
   refine aX (fL H _ o3 [59]) ?_
   rfl
  ·obtain ⟨k3,r1,r2,_⟩:=gv h'
   obtain ⟨k4,r3,r4,_⟩:=gv r1
   cases r3
   refine ⟨by omega,rfl,rfl,?_⟩
   rw [df]
   simp only [At]
   omega
 ·-- nothing that can be unset
  have jb:∃j,K3 s2=.b j:=@agj s2
  obtain ⟨j,hj⟩:=jb
  have oj:(JS.b j).Ok ts:=by rw [<-hj];exact zo g3.ok
  have pj:i<=j:=by
   have:=qM s2
   rw [hj] at this
   have this:j=s2.pos:=this
   omega
  have tg:ic (qS ts e' (wS ts (.g (i+1)) [40]))=some (m,qS ts e' (K3 s2)):=by
   rw [ic]
   refine aX g2 ?_
   match s2,g3,hg with
   | .b j,g3,hg=>refine nH (show (qS ts e' (.b j)).ay=true from rfl) ?_;rfl
   | .d j,g3,hg=>
    refine ca (show ¬(qS ts e' (.d j)).ay=true by rw [Nn];exact id) ?_
    refine aG ((oX m).trans (by rw [(g3.dm j rfl).2.2.2 rfl])) ?_
    rw [PU]
   | .g k,g3,hg=>
    obtain ⟨ka,q1,q2,q3,q4,q5,_⟩:=g3.good k rfl
    subst q3
    have:uu n=false:=by
     cases ht:uu n with
     | false=>rfl
     | true=>exact (hg ⟨k,rfl,ht⟩).elim
    refine ca qg ?_
    refine aG ((oX n).trans (by rw [q5,this])) ?_
    rw [PU]
  have bw:∀c,wS ts (.b j) c=.b j:=λc=>rfl
  refine ⟨.b j,if uu n=true then .mk 41 0 [] [n] else .mk 0 0 [] [],.mk 41 0 [] [m],?_,?_,Rs.b oj pj⟩
  ·rw [bc]
   refine aG ((eJ H _ hs 1 [] aKL).trans aKM) ?_
   refine aG ((eJ H _ hs 6 [123] aKL).trans aKO) ?_
   refine aG (ax H hs (w:=[105,102]) (aw hw aKL)) ?_
   refine aG (ax H hs (w:=[119,104,105,108,101]) (aw hw aKL)) ?_
   refine aG (ax H hs (w:=[102,111,114,101,97,99,104]) (aw hw aKL)) ?_
   refine aG (ax H hs (w:=[116,114,121]) (aw hw aKL)) ?_
   refine aG (ax H hs (w:=[101,99,104,111]) (aw hw aKL)) ?_
   refine aG (ax H hs (w:=[98,114,101,97,107]) (aw hw aKL)) ?_
   refine aG (ax H hs (w:=[99,111,110,116,105,110,117,101]) (aw hw aKL)) ?_
   refine aG (ax H hs (w:=[114,101,116,117,114,110]) (aw hw aKL)) ?_
   refine aG (ax H hs (w:=[103,108,111,98,97,108]) (aw hw aKL)) ?_
   refine dH (c8 H hw) ?_
   refine aX (er H _ fu [40]) ?_
   refine aX g1 ?_
   cases ht:uu n with
   | false=>
    refine aG ((oW n).trans (by rw [ht])) ?_
    refine aX (sf H _ g3.ok) ?_
    rw [hj]
    rfl
   | true=>
    refine dH ((oW n).trans (by rw [ht])) ?_
    have e2:pS ts e s2=pS ts e (.b j):=by
     match s2,g3,hg,hj with
     | .b j',_,_,hj=>rw [<-hj];rfl
     | .d j',_,_,hj=>rw [<-hj];rfl
     | .g k,_,hg,_=>exact (hg ⟨k,rfl,ht⟩).elim
    rw [e2]
    refine aX (er H _ oj [41]) ?_
    refine aX (er H _ oj [59]) ?_
    rfl
  ·rw [aL]
   refine (eg (b8 H _ hs)).trans ?_
   refine ca qg ?_
   refine ca (show ¬(tok ts i).aj=1 from k1) ?_
   refine aG ((eV (e':=e') H (.g i) hs [123]).trans aKP) ?_
   refine aG (au H hs (w:=[101,99,104,111]) (aw hw aKL)) ?_
   refine aG ((eV (e':=e') H (.g i) hs [105,102]).trans aKQ) ?_
   refine aG (au H hs (w:=[119,104,105,108,101]) (aw hw aKL)) ?_
   refine aG (au H hs (w:=[102,111,114,101,97,99,104]) (aw hw aKL)) ?_
   refine aG (au H hs (w:=[98,114,101,97,107]) (aw hw aKL)) ?_
   refine aG (au H hs (w:=[99,111,110,116,105,110,117,101]) (aw hw aKL)) ?_
   refine aG (au H hs (w:=[114,101,116,117,114,110]) (aw hw aKL)) ?_
   refine aG (au H hs (w:=[103,108,111,98,97,108]) (aw hw aKL)) ?_
   refine dH (bU H hw) ?_
   refine aX (fL H _ fu [40]) ?_
   refine aX tg ?_
   rw [hj]
   refine aX (fL H _ oj [41]) ?_
   refine aX (fL H _ oj [59]) ?_
   rfl
def yA (ts:List af) (i:Nat):Bool:=kd ts i==2&&(tw ts (i+1) [61]&&tw ts (i+2) [121,105,101,108,100])
theorem yS (H:Tk ts e) {i:Nat} (hi:i<=ts.length):((
 bE (pS ts e (.g i)) 0 2 []>>=λ(O6,tJ)=>
 (if O6=true then
 bE tJ 1 6 [61]>>=λ(tF,pX)=>
 (if tF=true then
 bE pX 2 3 [121,105,101,108,100]>>=λ(O7,wq)=>
 some (wq.fT,wq.fI,wq.az,wq.ay,O7)
 else
 some (pX.fT,pX.fI,pX.az,pX.ay,false))
 else
 some (tJ.fT,tJ.fI,tJ.az,tJ.ay,false))
 :Option ((List af)×Int×Int×Int×Bool)))=some ((pS ts e (.g i)).fT,(pS ts e (.g i)).fI,(pS ts e (.g i)).az,(pS ts e (.g i)).ay,yA ts i):=by
 have hs:(JS.g i).Ok ts:=hi
 have a0:bE (pS ts e (.g i)) 0 2 []=some (kd ts i==2,pS ts e (.g i)):=(eJ H _ hs 2 [] aKL).trans (by rw [show aS ts (.g i) 0 2 []=(kd ts i==2) from by show (kd ts i==2&&true)=_;rw [aIj]])
 have a1:bE (pS ts e (.g i)) 1 6 [61]=some (tw ts (i+1) [61],pS ts e (.g i)):=(aFA H _ hs 6 [61] aKL).trans (by rw [show aS ts (.g i) 1 6 [61]=tw ts (i+1) [61] from aM H aKL aKL])
 have a2:bE (pS ts e (.g i)) 2 3 [121,105,101,108,100]=some (tw ts (i+2) [121,105,101,108,100],pS ts e (.g i)):=(aFB H _ hs 3 _ aKL).trans (by rw [show aS ts (.g i) 2 3 [121,105,101,108,100]=tw ts (i+2) [121,105,101,108,100] from aN H aKL aKL])
 unfold yA
 cases h0:kd ts i==2 with
 | false=>refine aG (a0.trans (by rw [h0])) ?_;rfl
 | true=>
  refine dH (a0.trans (by rw [h0])) ?_
  cases h1:tw ts (i+1) [61] with
  | false=>refine aG (a1.trans aLw) ?_;rfl
  | true=>
   refine dH (a1.trans aLw) ?_
   refine aX a2 ?_
   rfl
theorem yI (H:Tk ts e) {i:Nat} (hi:i<=ts.length):((
 (if (tok ts i).aj=2 then
 bK (tok ts i).aq>>=λv232=>
 (if v232=true then
 aW (qS ts e' (.g i)) 1 [61]>>=λ(abo,v236)=>
 (if abo=true then
 aW v236 2 [121,105,101,108,100]>>=λ(abp,yX)=>
 some (yX.ar,yX.bM,yX.az,yX.ay,abp)
 else
 some (v236.ar,v236.bM,v236.az,v236.ay,false))
 else
 some ((qS ts e' (.g i)).ar,(qS ts e' (.g i)).bM,(qS ts e' (.g i)).az,(qS ts e' (.g i)).ay,false))
 else
 some ((qS ts e' (.g i)).ar,(qS ts e' (.g i)).bM,(qS ts e' (.g i)).az,(qS ts e' (.g i)).ay,false))
 :Option ((List af)×Int×Int×Bool×Bool)))=some ((qS ts e' (.g i)).ar,(qS ts e' (.g i)).bM,(qS ts e' (.g i)).az,(qS ts e' (.g i)).ay,yA ts i&&good (tx ts i)):=by
 have hs:(JS.g i).Ok ts:=hi
 have a1:aW (qS ts e' (.g i)) 1 [61]=some (tw ts (i+1) [61],qS ts e' (.g i)):=adW (e':=e') H _ hs _
 have a2:aW (qS ts e' (.g i)) 2 [121,105,101,108,100]=some (tw ts (i+2) [121,105,101,108,100],qS ts e' (.g i)):=aFC (e':=e') H _ hs _
 unfold yA
 by_cases h0:kd ts i=2
 ·refine nH (show (tok ts i).aj=2 from h0) ?_
  have hb:(kd ts i==2)=true:=by rw [h0];rfl
  cases hg:good (tok ts i).aq with
  | false=>
   refine aG ((uE _).trans (by rw [hg])) ?_
   rw [show good (tx ts i)=false from hg,aIl]
  | true=>
   refine dH ((uE _).trans (by rw [hg])) ?_
   rw [show good (tx ts i)=true from hg,aIj,hb,aIO]
   cases h1:tw ts (i+1) [61] with
   | false=>refine aG (a1.trans aLw) ?_;rfl
   | true=>
    refine dH (a1.trans aLw) ?_
    refine aX a2 ?_
    rfl
 ·refine ca (show ¬(tok ts i).aj=2 from h0) ?_
  rw [beq_eq_false_iff_ne.2 h0]
  rfl
theorem RJ (H:Tk ts e) {i:Nat} (hi:i<=ts.length) (IH:∀s,Lt ts i s->PC ts e e' s) (k1:¬kd ts i=1) (Hr:tw ts i [123]=false) (f0:tw ts i [105,102]=false) (f1:tw ts i [119,104,105,108,101]=false) (f2:tw ts i [102,111,114,101,97,99,104]=false) (f3:tw ts i [116,114,121]=false) (f4:tw ts i [101,99,104,111]=false) (f5:tw ts i [98,114,101,97,107]=false) (f6:tw ts i [99,111,110,116,105,110,117,101]=false) (f7:tw ts i [114,101,116,117,114,110]=false) (f8:tw ts i [103,108,111,98,97,108]=false) (f9:tw ts i [117,110,115,101,116]=false) (f10:tw ts i [116,104,114,111,119]=false) (f11:tw ts i [121,105,101,108,100]=false):C1 ts e e' false 0 (.g i) bc aL:=by
 have hs:(JS.g i).Ok ts:=hi
 have hL:=H.len
 cases hy:yA ts i with
 | true=>
  have hy2:=hy
  unfold yA at hy2
  simp only [As,beq_iff_eq] at hy2
  obtain ⟨h2k,h61,hyy⟩:=hy2
  have xc:=cw hyy
  have xB:∀c,tw ts i c=false:=Kp aKK aKK
  cases hg:good (tx ts i) with
  | true=>
   have hn:wa ts 2 i=true:=by unfold wa;rw [h2k,hg];rfl
   obtain ⟨s1,n,m,g1,g2,g3⟩:=(IH (.g (i+3)) (Lt.g aKK aKK)).expr
   have p1:i+3<=s1.pos:=g3.le
   have p2:=iy (ts:=ts) s1 [59]
   have ht:=vu H i
   refine ⟨wS ts s1 [59],.mk 46 0 [] [.mk 4 0 (tx ts i) [],n],.mk 46 0 [] ([.mk 4 0 (tx ts i) []]++[m]),?_,?_,Rs.node aKL (lT g3.ok _) (pB _ _) aKK (λi' h'=>?_)⟩
   ·rw [bc]
    refine aG ((eJ H _ hs 1 [] aKL).trans aKM) ?_
    refine aG ((eJ H _ hs 6 [123] aKL).trans aKW) ?_
    refine aG (ax H hs (w:=[105,102]) f0) ?_
    refine aG (ax H hs (w:=[119,104,105,108,101]) f1) ?_
    refine aG (ax H hs (w:=[102,111,114,101,97,99,104]) f2) ?_
    refine aG (ax H hs (w:=[116,114,121]) f3) ?_
    refine aG (ax H hs (w:=[101,99,104,111]) f4) ?_
    refine aG (ax H hs (w:=[98,114,101,97,107]) f5) ?_
    refine aG (ax H hs (w:=[99,111,110,116,105,110,117,101]) f6) ?_
    refine aG (ax H hs (w:=[114,101,116,117,114,110]) f7) ?_
    refine aG (ax H hs (w:=[103,108,111,98,97,108]) f8) ?_
    refine aG (ax H hs (w:=[117,110,115,101,116]) f9) ?_
    refine aG (ax H hs (w:=[116,104,114,111,119]) f10) ?_
    refine aG (ax H hs (w:=[121,105,101,108,100]) f11) ?_
    refine aX (yS H hi) ?_
    refine nH hy ?_
    refine aX ((Nr H _ hs).trans (by rw [NA hn,NB hn])) ?_
    refine (eg (a:=((i+3:Nat):Int)) ?_).trans ?_
    ·show sA (ts.length:Int) (bq (((i+1:Nat):Int)+2))=_
     rw [wW aKK aKK]
     unfold sA
     by_cases hq:((i+1:Nat):Int)+2<(ts.length:Int)
     ·rw [if_pos hq];rfl
     ·rw [if_neg hq];congr 1;omega
    refine (eg (a:=(n,pS ts e s1)) g1).trans ?_
    refine aX (er H _ g3.ok [59]) ?_
    rfl
   ·rw [aL]
    refine (eg (b8 H _ hs)).trans ?_
    refine ca qg ?_
    refine ca (show ¬(tok ts i).aj=1 from k1) ?_
    refine aG ((eV (e':=e') H (.g i) hs [123]).trans aLc) ?_
    refine aG (au H hs (w:=[101,99,104,111]) f4) ?_
    refine aG ((eV (e':=e') H (.g i) hs [105,102]).trans aLb) ?_
    refine aG (au H hs (w:=[119,104,105,108,101]) f1) ?_
    refine aG (au H hs (w:=[102,111,114,101,97,99,104]) f2) ?_
    refine aG (au H hs (w:=[98,114,101,97,107]) f5) ?_
    refine aG (au H hs (w:=[99,111,110,116,105,110,117,101]) f6) ?_
    refine aG (au H hs (w:=[114,101,116,117,114,110]) f7) ?_
    refine aG (au H hs (w:=[103,108,111,98,97,108]) f8) ?_
    refine aG (au H hs (w:=[117,110,115,101,116]) f9) ?_
    refine aG (au H hs (w:=[116,104,114,111,119]) f10) ?_
    refine aG (au H hs (w:=[116,114,121]) f3) ?_
    refine aG (au H hs (w:=[121,105,101,108,100]) f11) ?_
    refine aX (yI H hi) ?_
    refine nH (show (yA ts i&&good (tx ts i))=true by rw [hy,hg];rfl) ?_
    refine aX ((Ns H _ hs rfl).trans (by rw [NA hn,NB hn])) ?_
    refine (eg (a:=(ae.mk 46 0 [] [m],qS ts e' (wS ts s1 [59]))) ?_).trans ?_
    ·have:ai.mk (qS ts e' (.g (i+1))).ar (bq ((qS ts e' (.g (i+1))).bM+2)) (qS ts e' (.g (i+1))).az (qS ts e' (.g (i+1))).ay=qS ts e' (.g (i+3)):=ZR H aKK
     exact (congrArg (λz=>dF z 46) this).trans (n7 H 46 g2 g3.ok)
    refine aX (km (b:=56) (l:=[ae.mk 4 0 (tx ts i) []]) (m:=[m]) (by show (1+1)*56<=140737488355328;omega)) ?_
    rfl
   ·obtain ⟨k,q1,q2,_⟩:=gv h'
    obtain ⟨k3,q3,q4,q5,q6,_⟩:=g3.good k q1
    cases q3
    subst q5
    refine ⟨by omega,rfl,rfl,?_⟩
    rw [ja,df,lR,mi]
    simp only [At]
    omega
  | false=>
   have hn:wa ts 2 i=false:=by unfold wa;rw [hg,aIl]
   have hb:(JS.b i).Ok ts:=hi
   obtain ⟨n,g1⟩:=NC H hb
   have pr:aH (qS ts e' (.g i))=some (.mk 4 0 [] [],qS ts e' (.b i)):=by
    rw [aH]
    refine (eg (b8 H _ hs)).trans ?_
    refine ca qg ?_
    refine aX (tm H hi) ?_
    refine ca (show ¬lF ts i=true by unfold lF;rw [h2k,xB,xB,xB];decide) ?_
    refine nH (show (tok ts i).aj=2 from h2k) ?_
    rw [dO]
    refine aX ((Ns H _ hs rfl).trans (by rw [ZS hn,adX hn])) ?_
    rfl
   obtain ⟨m,g2⟩:=aAW H hi pr (xB _) (xB _)
   refine ⟨.b i,.mk 46 0 [] [.mk 4 0 [] [],n],.mk 33 0 [] [m],?_,?_,Rs.b hi (No i)⟩
   ·rw [bc]
    refine aG ((eJ H _ hs 1 [] aKL).trans aKM) ?_
    refine aG ((eJ H _ hs 6 [123] aKL).trans aKW) ?_
    refine aG (ax H hs (w:=[105,102]) f0) ?_
    refine aG (ax H hs (w:=[119,104,105,108,101]) f1) ?_
    refine aG (ax H hs (w:=[102,111,114,101,97,99,104]) f2) ?_
    refine aG (ax H hs (w:=[116,114,121]) f3) ?_
    refine aG (ax H hs (w:=[101,99,104,111]) f4) ?_
    refine aG (ax H hs (w:=[98,114,101,97,107]) f5) ?_
    refine aG (ax H hs (w:=[99,111,110,116,105,110,117,101]) f6) ?_
    refine aG (ax H hs (w:=[114,101,116,117,114,110]) f7) ?_
    refine aG (ax H hs (w:=[103,108,111,98,97,108]) f8) ?_
    refine aG (ax H hs (w:=[117,110,115,101,116]) f9) ?_
    refine aG (ax H hs (w:=[116,104,114,111,119]) f10) ?_
    refine aG (ax H hs (w:=[121,105,101,108,100]) f11) ?_
    refine aX (yS H hi) ?_
    refine nH hy ?_
    refine aX ((Nr H _ hs).trans (by rw [ZS hn,adX hn])) ?_
    refine (eg (a:=((ts.length:Nat):Int)) ?_).trans ?_
    ·show sA (ts.length:Int) (bq ((ts.length:Int)+2))=_
     rw [wW aKK aKK]
     unfold sA
     rw [if_neg aKK]
    refine (eg (a:=(n,pS ts e (.b i))) g1).trans ?_
    refine aX (er H _ hb [59]) ?_
    rfl
   ·rw [aL]
    refine (eg (b8 H _ hs)).trans ?_
    refine ca qg ?_
    refine ca (show ¬(tok ts i).aj=1 from k1) ?_
    refine aG ((eV (e':=e') H (.g i) hs [123]).trans aLc) ?_
    refine aG (au H hs (w:=[101,99,104,111]) f4) ?_
    refine aG ((eV (e':=e') H (.g i) hs [105,102]).trans aLb) ?_
    refine aG (au H hs (w:=[119,104,105,108,101]) f1) ?_
    refine aG (au H hs (w:=[102,111,114,101,97,99,104]) f2) ?_
    refine aG (au H hs (w:=[98,114,101,97,107]) f5) ?_
    refine aG (au H hs (w:=[99,111,110,116,105,110,117,101]) f6) ?_
    refine aG (au H hs (w:=[114,101,116,117,114,110]) f7) ?_
    refine aG (au H hs (w:=[103,108,111,98,97,108]) f8) ?_
    refine aG (au H hs (w:=[117,110,115,101,116]) f9) ?_
    refine aG (au H hs (w:=[116,104,114,111,119]) f10) ?_
    refine aG (au H hs (w:=[116,114,121]) f3) ?_
    refine aG (au H hs (w:=[121,105,101,108,100]) f11) ?_
    refine aX (yI H hi) ?_
    refine ca (show ¬(yA ts i&&good (tx ts i))=true by rw [hg,aIl];exact aHI) ?_
    rw [dO]
    refine aG (au (w:=[105,110,99,108,117,100,101]) H hs (xB _)) ?_
    refine aX (n7 H 33 g2 hb) ?_
    rfl
 | false=>
  have hyn:¬(yA ts i&&good (tx ts i))=true:=by rw [hy];exact aHI
  cases hw:tw ts i [105,110,99,108,117,100,101] with
  | true=>
   have bg:=cw hw
   have fu:(JS.g (i+1)).Ok ts:=bg
   have lA:(JS.b (i+1)).Ok ts:=bg
   have at5:bE (pS ts e (.g (i+1))) 0 5 []=some (kd ts (i+1)==5,pS ts e (.g (i+1))):=(eJ H _ fu 5 [] aKL).trans (by rw [show aS ts (.g (i+1)) 0 5 []=(kd ts (i+1)==5) from by show (kd ts (i+1)==5&&true)=_;rw [aIj]])
   by_cases h5:kd ts (i+1)=5
   ·have zp:i+1<ts.length:=tP aKK
    have nI:(JS.g (i+1+1)).Ok ts:=zp
    have ht:=vu H (i+1)
    have p1:=@iy ts (.g (i+1+1)) [59]
    have p1:i+1+1<=(wS ts (.g (i+1+1)) [59]).pos:=p1
    refine ⟨wS ts (.g (i+1+1)) [59],.mk 47 0 (tx ts (i+1)) [],.mk 47 0 (tx ts (i+1)) [],?_,?_,Rs.node aKL (lT nI _) (pB _ _) aKK (λi' h'=>?_)⟩
    ·rw [bc]
     refine aG ((eJ H _ hs 1 [] aKL).trans aKM) ?_
     refine aG ((eJ H _ hs 6 [123] aKL).trans aKW) ?_
     refine aG (ax H hs (w:=[105,102]) f0) ?_
     refine aG (ax H hs (w:=[119,104,105,108,101]) f1) ?_
     refine aG (ax H hs (w:=[102,111,114,101,97,99,104]) f2) ?_
     refine aG (ax H hs (w:=[116,114,121]) f3) ?_
     refine aG (ax H hs (w:=[101,99,104,111]) f4) ?_
     refine aG (ax H hs (w:=[98,114,101,97,107]) f5) ?_
     refine aG (ax H hs (w:=[99,111,110,116,105,110,117,101]) f6) ?_
     refine aG (ax H hs (w:=[114,101,116,117,114,110]) f7) ?_
     refine aG (ax H hs (w:=[103,108,111,98,97,108]) f8) ?_
     refine aG (ax H hs (w:=[117,110,115,101,116]) f9) ?_
     refine aG (ax H hs (w:=[116,104,114,111,119]) f10) ?_
     refine aG (ax H hs (w:=[121,105,101,108,100]) f11) ?_
     refine aX (yS H hi) ?_
     refine ca (show ¬yA ts i=true by rw [hy];exact aHI) ?_
     rw [oS]
     refine dH (c8 H hw) ?_
     refine dH (at5.trans (by rw [h5,beq_self_eq_true])) ?_
     refine (eg (a:=tok ts (i+1)) ?_).trans ?_
     ·show idx ts (bq (bq (((i+1:Nat):Int)+1) - 1))=_
      rw [ZT aKK,ji zp]
     rw [tO H fu]
     refine aX (er H _ nI [59]) ?_
     rfl
    ·rw [aL]
     refine (eg (b8 H _ hs)).trans ?_
     refine ca qg ?_
     refine ca (show ¬(tok ts i).aj=1 from k1) ?_
     refine aG ((eV (e':=e') H (.g i) hs [123]).trans aLc) ?_
     refine aG (au H hs (w:=[101,99,104,111]) f4) ?_
     refine aG ((eV (e':=e') H (.g i) hs [105,102]).trans aLb) ?_
     refine aG (au H hs (w:=[119,104,105,108,101]) f1) ?_
     refine aG (au H hs (w:=[102,111,114,101,97,99,104]) f2) ?_
     refine aG (au H hs (w:=[98,114,101,97,107]) f5) ?_
     refine aG (au H hs (w:=[99,111,110,116,105,110,117,101]) f6) ?_
     refine aG (au H hs (w:=[114,101,116,117,114,110]) f7) ?_
     refine aG (au H hs (w:=[103,108,111,98,97,108]) f8) ?_
     refine aG (au H hs (w:=[117,110,115,101,116]) f9) ?_
     refine aG (au H hs (w:=[116,104,114,111,119]) f10) ?_
     refine aG (au H hs (w:=[116,114,121]) f3) ?_
     refine aG (au H hs (w:=[121,105,101,108,100]) f11) ?_
     refine aX (yI H hi) ?_
     refine ca hyn ?_
     rw [dO]
     refine dH (bU H hw) ?_
     refine aX ((ZP H fu).trans (if_pos h5)) ?_
     refine aX (fL H _ nI [59]) ?_
     rfl
    ·obtain ⟨k,q1,q2,_⟩:=gv h'
     cases q1
     exact ⟨by omega,rfl,rfl,by rw [mi];omega⟩
   ·refine ⟨.b (i+1),.mk 0 0 [] [],.mk 47 0 [] [],?_,?_,Rs.b bg aKK⟩
    ·rw [bc]
     refine aG ((eJ H _ hs 1 [] aKL).trans aKM) ?_
     refine aG ((eJ H _ hs 6 [123] aKL).trans aKW) ?_
     refine aG (ax H hs (w:=[105,102]) f0) ?_
     refine aG (ax H hs (w:=[119,104,105,108,101]) f1) ?_
     refine aG (ax H hs (w:=[102,111,114,101,97,99,104]) f2) ?_
     refine aG (ax H hs (w:=[116,114,121]) f3) ?_
     refine aG (ax H hs (w:=[101,99,104,111]) f4) ?_
     refine aG (ax H hs (w:=[98,114,101,97,107]) f5) ?_
     refine aG (ax H hs (w:=[99,111,110,116,105,110,117,101]) f6) ?_
     refine aG (ax H hs (w:=[114,101,116,117,114,110]) f7) ?_
     refine aG (ax H hs (w:=[103,108,111,98,97,108]) f8) ?_
     refine aG (ax H hs (w:=[117,110,115,101,116]) f9) ?_
     refine aG (ax H hs (w:=[116,104,114,111,119]) f10) ?_
     refine aG (ax H hs (w:=[121,105,101,108,100]) f11) ?_
     refine aX (yS H hi) ?_
     refine ca (show ¬yA ts i=true by rw [hy];exact aHI) ?_
     rw [oS]
     refine dH (c8 H hw) ?_
     refine aG (at5.trans (by rw [beq_eq_false_iff_ne.2 h5])) ?_
     refine aX (sf H _ fu) ?_
     rfl
    ·rw [aL]
     refine (eg (b8 H _ hs)).trans ?_
     refine ca qg ?_
     refine ca (show ¬(tok ts i).aj=1 from k1) ?_
     refine aG ((eV (e':=e') H (.g i) hs [123]).trans aLc) ?_
     refine aG (au H hs (w:=[101,99,104,111]) f4) ?_
     refine aG ((eV (e':=e') H (.g i) hs [105,102]).trans aLb) ?_
     refine aG (au H hs (w:=[119,104,105,108,101]) f1) ?_
     refine aG (au H hs (w:=[102,111,114,101,97,99,104]) f2) ?_
     refine aG (au H hs (w:=[98,114,101,97,107]) f5) ?_
     refine aG (au H hs (w:=[99,111,110,116,105,110,117,101]) f6) ?_
     refine aG (au H hs (w:=[114,101,116,117,114,110]) f7) ?_
     refine aG (au H hs (w:=[103,108,111,98,97,108]) f8) ?_
     refine aG (au H hs (w:=[117,110,115,101,116]) f9) ?_
     refine aG (au H hs (w:=[116,104,114,111,119]) f10) ?_
     refine aG (au H hs (w:=[116,114,121]) f3) ?_
     refine aG (au H hs (w:=[121,105,101,108,100]) f11) ?_
     refine aX (yI H hi) ?_
     refine ca hyn ?_
     rw [dO]
     refine dH (bU H hw) ?_
     refine aX ((ZP H fu).trans (if_neg h5)) ?_
     refine aX (fL H _ lA [59]) ?_
     rfl
  | false=>
   obtain ⟨s1,n,m,g1,g2,g3⟩:=G5 (e':=e') H hi IH
   refine ⟨wS ts s1 [59],.mk 33 0 [] [n],.mk 33 0 [] [m],?_,?_,st1 aKL g3 (No i) [59]⟩
   ·rw [bc]
    refine aG ((eJ H _ hs 1 [] aKL).trans aKM) ?_
    refine aG ((eJ H _ hs 6 [123] aKL).trans aKW) ?_
    refine aG (ax H hs (w:=[105,102]) f0) ?_
    refine aG (ax H hs (w:=[119,104,105,108,101]) f1) ?_
    refine aG (ax H hs (w:=[102,111,114,101,97,99,104]) f2) ?_
    refine aG (ax H hs (w:=[116,114,121]) f3) ?_
    refine aG (ax H hs (w:=[101,99,104,111]) f4) ?_
    refine aG (ax H hs (w:=[98,114,101,97,107]) f5) ?_
    refine aG (ax H hs (w:=[99,111,110,116,105,110,117,101]) f6) ?_
    refine aG (ax H hs (w:=[114,101,116,117,114,110]) f7) ?_
    refine aG (ax H hs (w:=[103,108,111,98,97,108]) f8) ?_
    refine aG (ax H hs (w:=[117,110,115,101,116]) f9) ?_
    refine aG (ax H hs (w:=[116,104,114,111,119]) f10) ?_
    refine aG (ax H hs (w:=[121,105,101,108,100]) f11) ?_
    refine aX (yS H hi) ?_
    refine ca (show ¬yA ts i=true by rw [hy];exact aHI) ?_
    rw [oS]
    refine aG (ax (w:=[105,110,99,108,117,100,101]) H hs hw) ?_
    refine aX g1 ?_
    refine aX (er H _ g3.ok [59]) ?_
    rfl
   ·rw [aL]
    refine (eg (b8 H _ hs)).trans ?_
    refine ca qg ?_
    refine ca (show ¬(tok ts i).aj=1 from k1) ?_
    refine aG ((eV (e':=e') H (.g i) hs [123]).trans aLc) ?_
    refine aG (au H hs (w:=[101,99,104,111]) f4) ?_
    refine aG ((eV (e':=e') H (.g i) hs [105,102]).trans aLb) ?_
    refine aG (au H hs (w:=[119,104,105,108,101]) f1) ?_
    refine aG (au H hs (w:=[102,111,114,101,97,99,104]) f2) ?_
    refine aG (au H hs (w:=[98,114,101,97,107]) f5) ?_
    refine aG (au H hs (w:=[99,111,110,116,105,110,117,101]) f6) ?_
    refine aG (au H hs (w:=[114,101,116,117,114,110]) f7) ?_
    refine aG (au H hs (w:=[103,108,111,98,97,108]) f8) ?_
    refine aG (au H hs (w:=[117,110,115,101,116]) f9) ?_
    refine aG (au H hs (w:=[116,104,114,111,119]) f10) ?_
    refine aG (au H hs (w:=[116,114,121]) f3) ?_
    refine aG (au H hs (w:=[121,105,101,108,100]) f11) ?_
    refine aX (yI H hi) ?_
    refine ca hyn ?_
    rw [dO]
    refine aG (au (w:=[105,110,99,108,117,100,101]) H hs hw) ?_
    refine aX (n7 H 33 g2 g3.ok) ?_
    rfl
theorem adY (H:Tk ts e) {i:Nat} (hi:i<=ts.length) (IH:∀s,Lt ts i s->PC ts e e' s):C1 ts e e' false 0 (.g i) bc aL:=by
 have hs:(JS.g i).Ok ts:=hi
 have hL:=H.len
 by_cases k1:kd ts i=1
 ·have bg:i<ts.length:=tP aKK
  refine ⟨.g (i+1),.mk 31 0 (tx ts i) [],.mk 31 0 (tx ts i) [],?_,?_,Rs.leaf aKL bg (vu H i) (by rw [k1];rfl)⟩
  ·rw [bc]
   refine dH ((eJ H _ hs 1 [] aKL).trans (by rw [show aS ts (.g i) 0 1 []=true from by show (kd ts i==1&&true)=true;rw [k1];rfl])) ?_
   refine (eg (a:=tok ts i) ?_).trans ?_
   ·show idx ts (bq (bq ((i:Int)+1) - 1))=_
    rw [ZT aKK,ji bg]
   rw [tO H hi]
   rfl
  ·rw [aL]
   refine (eg (b8 H _ hs)).trans ?_
   refine ca qg ?_
   refine nH (show (tok ts i).aj=1 from k1) ?_
   rw [se H hi]
   rfl
 cases Hr:tw ts i [123] with
 | true=>
  obtain ⟨s',n,m,g1,g2,g3⟩:=Kl (e':=e') H hi IH
  refine ⟨s',n,m,?_,?_,g3⟩
  ·rw [bc]
   refine aG ((eJ H _ hs 1 [] aKL).trans (by rw [show aS ts (.g i) 0 1 []=false from by show (kd ts i==1&&true)=false;rw [beq_eq_false_iff_ne.2 k1];rfl])) ?_
   refine dH ((eJ H _ hs 6 [123] aKL).trans (by rw [show aS ts (.g i) 0 6 [123]=true from (aM H aKL aKL).trans Hr])) ?_
   refine aX g1 ?_
   rfl
  ·rw [aL]
   refine (eg (b8 H _ hs)).trans ?_
   refine ca qg ?_
   refine ca (show ¬(tok ts i).aj=1 from k1) ?_
   refine dH ((eV (e':=e') H (.g i) hs [123]).trans (by rw [show tw ts (JS.g i).pos [123]=true from Hr])) ?_
   refine aX g2 ?_
   rfl
 | false=>
 cases f0:tw ts i [105,102] with
 | true=>exact adV H hi IH f0
 | false=>
 cases f1:tw ts i [119,104,105,108,101] with
 | true=>exact Nu H hi IH f1
 | false=>
 cases f2:tw ts i [102,111,114,101,97,99,104] with
 | true=>exact G6 H hi IH f2
 | false=>
 cases f3:tw ts i [116,114,121] with
 | true=>exact ZQ H hi IH f3
 | false=>
 cases f4:tw ts i [101,99,104,111] with
 | true=>exact RI H hi IH f4
 | false=>
 cases f5:tw ts i [98,114,101,97,107] with
 | true=>exact Nx H hi IH f5
 | false=>
 cases f6:tw ts i [99,111,110,116,105,110,117,101] with
 | true=>exact Em H hi IH f6
 | false=>
 cases f7:tw ts i [114,101,116,117,114,110] with
 | true=>exact Ko H hi IH f7
 | false=>
 cases f8:tw ts i [103,108,111,98,97,108] with
 | true=>exact Kn H hi IH f8
 | false=>
 cases f9:tw ts i [117,110,115,101,116] with
 | true=>exact Ny H hi IH f9
 | false=>
 cases f10:tw ts i [116,104,114,111,119] with
 | true=>exact Nv H hi IH f10
 | false=>
 cases f11:tw ts i [121,105,101,108,100] with
 | true=>exact Nw H hi IH f11
 | false=>
 exact RJ H hi IH k1 Hr f0 f1 f2 f3 f4 f5 f6 f7 f8 f9 f10 f11
theorem ZU (H:Tk ts e):∀(N i:Nat),ts.length - i<N->i<=ts.length->PC ts e e' (.g i)
 | 0,i,h,_=>by omega
 | N+1,i,h,hi=>by
  have IH:∀s,Lt ts i s->PC ts e e' s:=λs hs=>by
   match s,hs with
   | .g k,hs=>
    have h1:=hs.lt k rfl
    have h2:k<=ts.length:=hs.ok
    exact ZU H N k aKK h2
   | .b j,hs=>exact ZV H hs.ok
   | .d j,hs=>cases hs.nd
  exact ⟨PW H hi IH,Ke H hi IH,agf H hi IH,λlv h4 h11=>Np H hi IH (11 - lv) lv aKK h4,PR H hi IH,PS H hi IH,G5 H hi IH,adU H hi IH,adS H hi IH,Kl H hi IH,adY H hi IH⟩
theorem aAj (H:Tk ts e) (s:JS) (hs:s.Ok ts) (hd:s.nd=true):PC ts e e' s:=by
 match s,hs,hd with
 | .g k,hs,_=>exact ZU H _ k (aHP _) hs
 | .b j,hs,_=>exact ZV H hs
 | .d j,_,hd=>cases hd
end
theorem ZW (s:aB) (hs:s.length<=13):∀(n i v:Nat),i<=s.length->s.length - i=n->v<10 ^ i->
  xh s (v:Int) (i:Int)=some (match Lib.decFrom v (s.drop i) with | some u=>.inl (u:Int) | none=>.inr (0,false))
 | 0,i,v,hi,hn,hv=>by
  have e:i=s.length:=by omega
  rw [xh,if_neg aKK,e,List.drop_length];rfl
 | n+1,i,v,hi,hn,hv=>by
  have hl:i<s.length:=by omega
  have Qg:v<10000000000000:=aHX hv (Nat.pow_le_pow_right aKL (show i<=13 by omega))
  have hc:=(s.getD i 0).toNat_lt
  rw [xh,if_pos aKK,eC hl,sb,U8,sb,bq,U7 aKK aKK,drop_cons hl]
  by_cases hd:48<=(s.getD i 0).toNat/\(s.getD i 0).toNat<=57
  ·rw [if_pos aLd,sb,Gi hd]
   have e1:IntKind.u8.wrap (((s.getD i 0).toNat:Int) - 48)=(((s.getD i 0).toNat - 48:Nat):Int):=by rw [IntKind.wrap_u8];omega
   have e2:IntKind.i64.wrap (IntKind.i64.wrap (10*(v:Int))+IntKind.i64.wrap (IntKind.u8.wrap (((s.getD i 0).toNat:Int) - 48)))=((v*10+((s.getD i 0).toNat - 48):Nat):Int):=by
    rw [e1,U7 (x:=10*(v:Int)) aKK aKK,U7 (x:=(((s.getD i 0).toNat - 48:Nat):Int)) aKK aKK,U7 aKK aKK]
    omega
   rw [bq,bq,bq,e2,bQ aKK,ZW s hs n (i+1) _ aKK aKK (by rw [Nat.pow_succ];omega)]
  ·rw [if_neg aLd,H5 hd]
def nbW:Option Nat->Int×Bool
 | some v=>((v:Int),true)
 | none=>(0,false)
theorem alA (s:aB):m61 s=some (nbW (qQ s)):=by
 unfold m61 qQ
 rw [U8,sb]
 by_cases h:1<=s.length/\s.length<=13
 ·rw [if_pos aLd,if_pos h]
  have e:=ZW s h.2 s.length 0 0 aKK aKK aKN
  rw [aHY] at e
  replace e:xh s 0 0=_:=e
  rw [e,sb]
  cases hd:Lib.decFrom 0 s with
  | none=>rfl
  | some u=>
   show (if (u:Int)>1000000000000 then some (0,false) else _)=some (nbW (if u<=1000000000000/\Lib.decDigits u=s then some u else none))
   by_cases h1:(u:Int)>1000000000000
   ·rw [if_pos h1,if_neg aKK];rfl
   ·rw [if_neg h1,ahL _ aKK aKK,sb,Lib.itoa_nonneg]
    by_cases h2:Lib.decDigits u=s
    ·rw [if_pos h2,if_pos ⟨by omega,h2⟩];rfl
    ·rw [if_neg h2,if_neg (λh=>h2 h.2)];rfl
 ·rw [if_neg aLd,if_neg h];rfl
def Kq:Option Nat->Option Int
 | some v=>if v<=1000000000 then some (v:Int) else none
 | none=>none
theorem ND {n:Int} (h0: -1000000000<=n) (h1:n<=1000000000):(Lib.itoa n).length<=11:=by
 unfold Lib.itoa
 split
 ·simp only [an]
  rw [Lib.decDigits_length]
  have:=xJ 9 n.natAbs aLf
  omega
 ·rw [Lib.decDigits_length]
  have:=xJ 9 n.toNat aLf
  omega
theorem Kr {n:Int} (h0:0<=n) (h1:n<=1000000000):(Lib.decDigits n.toNat).length<=10:=by
 rw [Lib.decDigits_length]
 exact xJ 9 n.toNat aLf
def fx (s:aB) (o:Option Int):Option Int:=
 match o with | some n=>if Lib.itoa n=s/\(-1000000000:Int)<=n/\n<=1000000000 then some n else none | none=>none
theorem ZX (s:aB) (hl:s.length<=18):pw s (-1000000000) 1000000000=fx s (Lib.atoi s):=by
 unfold pw fx
 rw [if_neg aKK,Lib.atoiAll_short s hl]
 cases Lib.atoi s<;>rfl
theorem adZ (s:aB) (hl:11<s.length):pw s (-1000000000) 1000000000=none:=by
 unfold pw
 split
 ·rfl
 ·split
  ·rw [if_neg]
   intro h
   have:=ND h.2.1 h.2.2
   rw [h.1] at this
   omega
  ·rfl
theorem NF (s:aB) (hl:11<s.length):Kq (qQ s)=none:=by
 unfold qQ
 split
 ·cases Lib.decFrom 0 s with
  | none=>rfl
  | some v=>
   show Kq (if v<=1000000000000/\Lib.decDigits v=s then some v else none)=none
   by_cases h:v<=1000000000000/\Lib.decDigits v=s
   ·rw [if_pos h]
    show (if v<=1000000000 then some (v:Int) else none)=none
    rw [if_neg]
    intro hv
    have:=Kr (n:=(v:Int)) aKK aKK
    rw [aIU,h.2] at this
    omega
   ·rw [if_neg h];rfl
 ·rfl
theorem ad0 (c:UInt8) (r:aB) (hl:(c::r).length<=11) (h45:c≠45) (h43:c≠43):fx (c::r) (Lib.atoi (c::r))=Kq (qQ (c::r)):=by
 have ea:Lib.atoi (c::r)=(Lib.decFrom 0 (c::r)).map λ(m:Nat)=>(m:Int):=by
  show (if c==45 then _ else if c==43 then _ else (Lib.decNat (c::r)).map λ(m:Nat)=>(m:Int))=_
  rw [if_neg (by simpa using h45),if_neg (by simpa using h43)]
  rfl
 have eP:qQ (c::r)=aqc (c::r) (Lib.decFrom 0 (c::r)):=by unfold qQ;rw [if_pos ⟨by simp,by omega⟩]
 rw [ea,eP]
 cases hd:Lib.decFrom 0 (c::r) with
 | none=>rfl
 | some v=>
  show (if Lib.itoa (v:Int)=c::r/\(-1000000000:Int)<=v/\(v:Int)<=1000000000 then some (v:Int) else none)=Kq (if v<=1000000000000/\Lib.decDigits v=c::r then some v else none)
  rw [Lib.itoa_nonneg]
  by_cases h2:Lib.decDigits v=c::r
  ·by_cases h3:v<=1000000000
   ·rw [if_pos ⟨h2,by omega,by omega⟩,if_pos ⟨by omega,h2⟩]
    show _=if v<=1000000000 then some (v:Int) else none
    rw [if_pos h3]
   ·rw [if_neg (λh=>h3 (by have:=h.2.2;omega))]
    by_cases h4:v<=1000000000000
    ·rw [if_pos ⟨h4,h2⟩]
     show _=if v<=1000000000 then some (v:Int) else none
     rw [if_neg h3]
    ·rw [if_neg (λh=>h4 h.1)];rfl
  ·rw [if_neg (λh=>h2 h.1),if_neg (λh=>h2 h.2)];rfl
theorem ad1 {c:UInt8} {r:aB} (h45:c≠45) (h43:c≠43):pw (c::r) (-1000000000) 1000000000=Kq (qQ (c::r)):=by
 by_cases h:11<(c::r).length
 ·rw [adZ _ h,NF _ h]
 ·rw [ZX _ aKK,ad0 c r aKK h45 h43]
set_option maxRecDepth 100000
def RM (c:UInt8):Bool:=isLet c||decide (c.toNat=95)
def Ks:aB->Nat
 | []=>0
 | c::r=>if (RM c||pk c)=true then Ks r+1 else 0
def zq:aB->Nat
 | []=>0
 | c::r=>if RM c=true then Ks r+1 else 0
def ur:aB->Nat
 | []=>0
 | c::r=>if pk c=true then ur r+1 else 0
theorem PX:∀s:aB,Ks s<=s.length
 | []=>No _
 | c::r=>by
  have:=PX r
  rw [Ks];split
  ·simp only [an];omega
  ·exact aIS _
theorem PY:∀s:aB,zq s<=s.length
 | []=>No _
 | c::r=>by
  have:=PX r
  rw [zq];split
  ·simp only [an];omega
  ·exact aIS _
theorem PZ:∀s:aB,ur s<=s.length
 | []=>No _
 | c::r=>by
  have:=PZ r
  rw [ur];split
  ·simp only [an];omega
  ·exact aIS _
theorem wz {a b:Nat} (h:a=b):(some ((a:Nat):Int))=some ((b:Nat):Int):=by rw [h]
theorem aAX (s:aB) (hs:s.length<=100000):∀(f i:Nat),s.length<=i+f->0<i->i<=s.length->cE s (i:Int)=some ((i+Ks (s.drop i):Nat):Int)
 | f,i,h,h0,hi=>by
  rw [cE]
  by_cases hc:i<s.length
  ·obtain ⟨g,rfl⟩:∃g,f=g+1:=⟨f - 1,by omega⟩
   have ih:=aAX s hs g (i+1) aKK aKK aKK
   rw [if_pos aKK,eC hc,sb,LH,sb,bQ aKK,drop_cons hc,Ks,RM]
   generalize s.getD i 0=c
   cases hl:isLet c
   ·rw [if_neg aKN,sb]
    by_cases h5:c.toNat=95
    ·rw [if_pos aKK,ih,if_pos (by simp [h5])];exact wz aKK
    ·rw [if_neg aKK,if_pos aKK,sb,Gh,sb]
     cases hd:pk c
     ·rw [if_neg aKN,if_neg (by simp [h5])];rfl
     ·rw [if_pos rfl,ih,if_pos aKN];exact wz aKK
   ·rw [if_pos rfl,ih,if_pos aKN];exact wz aKK
  ·rw [if_neg aKK,aHN aKK];rfl
theorem iNl (s:aB) (hs:s.length<=100000):dR s=some ((zq s:Nat):Int):=by
 have key:cE s 0=some ((zq s:Nat):Int):=by
  rw [cE]
  cases s with
  | nil=>rw [if_neg aKN];rfl
  | cons c r=>
   have ih:=aAX (c::r) hs r.length 1 aKV aKK aKN
   rw [if_pos aKV,show gx (c::r) 0=some c from eC (i:=0) aKN,sb,LH,sb,show bq ((0:Int)+1)=((1:Nat):Int) from bQ (i:=0) aKK,zq,RM]
   cases hl:isLet c
   ·rw [if_neg aKN,sb]
    by_cases h5:c.toNat=95
    ·rw [if_pos aKK,ih,if_pos (by simp [h5])];exact wz (by rw [aIV,aHY];omega)
    ·rw [if_neg aKK,if_neg aKK,if_neg (by simp [h5])];rfl
   ·rw [if_pos rfl,ih,if_pos aKN];exact wz (by rw [aIV,aHY];omega)
 rw [dR,key,sb]
theorem aAY (s:aB) (hs:s.length<=100000) (a:Nat):∀(f i:Nat),s.length<=i+f->a<i->i<=s.length->eD s (a:Int) (i:Int)=some ((i+Ks (s.drop i):Nat):Int)
 | f,i,h,h0,hi=>by
  rw [eD]
  by_cases hc:i<s.length
  ·obtain ⟨g,rfl⟩:∃g,f=g+1:=⟨f - 1,by omega⟩
   have ih:=aAY s hs a g (i+1) aKK aKK aKK
   rw [if_pos aKK,eC hc,sb,AU,sb,bQ aKK,drop_cons hc,Ks]
   generalize s.getD i 0=c
   show (if (RM c)=true then _ else _)=_
   cases hl:RM c
   ·rw [if_neg aKN,if_pos aKK,sb,AV,sb]
    cases hd:pk c
    ·rw [if_neg aKN,if_neg aKN];rfl
    ·rw [if_pos rfl,ih,if_pos aKN];exact wz aKK
   ·rw [if_pos rfl,ih,if_pos aKN];exact wz aKK
  ·rw [if_neg aKK,aHN aKK];rfl
theorem sNl (s:aB) (hs:s.length<=100000) {a:Nat} (ha:a<=s.length):iN s (a:Int)=some ((a+zq (s.drop a):Nat):Int):=by
 have key:eD s (a:Int) (a:Int)=some ((a+zq (s.drop a):Nat):Int):=by
  rw [eD]
  by_cases hc:a<s.length
  ·have ih:=aAY s hs a s.length (a+1) aKK aKK aKK
   rw [if_pos aKK,eC hc,sb,AU,sb,bQ aKK,drop_cons hc,zq]
   generalize s.getD a 0=c
   show (if (RM c)=true then _ else _)=_
   cases hl:RM c
   ·rw [if_neg aKN,if_neg aKK,if_neg aKN];rfl
   ·rw [if_pos rfl,ih,if_pos rfl];exact wz aKK
  ·rw [if_neg aKK,aHN aKK];rfl
 rw [iN,key,sb]
theorem iDr (s:aB) (hs:s.length<=100000):∀(f i:Nat),s.length<=i+f->i<=s.length->gD s (i:Int)=some ((i+ur (s.drop i):Nat):Int)
 | f,i,h,hi=>by
  rw [gD]
  by_cases hc:i<s.length
  ·obtain ⟨g,rfl⟩:∃g,f=g+1:=⟨f - 1,by omega⟩
   have ih:=iDr s hs g (i+1) aKK aKK
   rw [if_pos aKK,eC hc,sb,Gh,sb,bQ aKK,drop_cons hc,ur]
   cases hd:pk (s.getD i 0)
   ·rw [if_neg aKN,if_neg aKN];rfl
   ·rw [if_pos rfl,ih,if_pos rfl];exact wz aKK
  ·rw [if_neg aKK,aHN aKK];rfl
theorem sDr (s:aB) (hs:s.length<=100000):∀(f i:Nat),s.length<=i+f->i<=s.length->j5 s (i:Int)=some ((i+ur (s.drop i):Nat):Int)
 | f,i,h,hi=>by
  rw [j5]
  by_cases hc:i<s.length
  ·obtain ⟨g,rfl⟩:∃g,f=g+1:=⟨f - 1,by omega⟩
   have ih:=sDr s hs g (i+1) aKK aKK
   rw [if_pos aKK,eC hc,sb,AV,sb,bQ aKK,drop_cons hc,ur]
   cases hd:pk (s.getD i 0)
   ·rw [if_neg aKN,if_neg aKN];rfl
   ·rw [if_pos rfl,ih,if_pos rfl];exact wz aKK
  ·rw [if_neg aKK,aHN aKK];rfl
theorem RN (s:aB) (a j:Nat):(s.drop a).getD j 0=s.getD (a+j) 0:=by
 rw [aHL,aHL,aIQ]
theorem CW {s:aB} {a j:Nat} (h:a+j<s.length):gx (s.drop a) (j:Int)=some (s.getD (a+j) 0):=by
 rw [eC (by rw [aIz];omega),RN]
theorem add_eq {s:aB} {a z:Nat} {O:List af} {c:Int} (hO:O.length<=4000) (k n:Int) (x:aB) (hz:a+z<=100000):
  dy (.mk s (a:Int) O c) k n x (z:Int)=some (.mk s ((a+z:Nat):Int) (O++[.mk k n x (a:Int)]) c):=by
 unfold dy
 rw [km aKU,sb]
 show some (bG.mk s (bq ((a:Int)+(z:Int))) _ c)=_
 rw [kE (x:=(a:Int)+(z:Int)) (n:=a+z) aKK aKK]
theorem NG {s:aB} {a:Nat} {O:List af} (hO:O.length<=4000) (hs:s.length<=4000):∀(f j:Nat) (l:aB),s.length<=a+j+f->1<=j->l.length<=j->
  ((du s l ((a+j:Nat):Int)=some (.inl ())\/du s l ((a+j:Nat):Int)=some (.inr ([],-1)))/\cU (.mk s (a:Int) O 0) (s.drop a) l (j:Int)=some (.inl ()))\/
  (∃(q:aB) (b:Nat),a<b/\b<=s.length/\q.length<=400/\du s l ((a+j:Nat):Int)=some (.inr (q,(b:Int)))/\cU (.mk s (a:Int) O 0) (s.drop a) l (j:Int)=some (.inr (.mk s (b:Int) (O++[.mk 5 0 q (a:Int)]) 0)))
 | f,j,l,h,h1,hl=>by
  have S0:=du.eq_1 s l ((a+j:Nat):Int)
  have I0:=cU.eq_1 (.mk s (a:Int) O 0) (s.drop a) l (j:Int)
  have P0:(s.drop a).length=s.length - a:=aIz
  by_cases hc:a+j<s.length
  ·obtain ⟨g,rfl⟩:∃g,f=g+1:=⟨f - 1,by omega⟩
   have one:∀c:UInt8,db 1 l ([c]:List UInt8)=some (l++[c]):=λc=>km aKU
   have ih1:=λc:UInt8=>NG (a:=a) hO hs g (j+1) (l++[c]) aKK aKK aKY
   have w1:bq (((a+j:Nat):Int)+1)=((a+(j+1):Nat):Int):=kE aKK aKK
   have w2:bq ((j:Int)+1)=((j+1:Nat):Int):=kE aKK aKK
   have w3:bq (((a+(j+1):Nat):Int)+1)=((a+(j+2):Nat):Int):=kE aKK aKK
   have w4:bq (((j+1:Nat):Int)+1)=((j+2:Nat):Int):=kE aKK aKK
   rw [if_pos aKK,eC hc,sb,w1] at S0
   rw [if_pos aKK,CW hc,sb,w2] at I0
   by_cases h39:(s.getD (a+j) 0).toNat=39
   ·rw [if_pos aKK] at S0 I0
    by_cases hL:(l.length:Int)>400
    ·rw [if_pos hL] at S0 I0;exact .inl ⟨.inr S0,I0⟩
    ·rw [if_neg hL] at S0 I0
     rw [add_eq hO 5 0 l aKK,sb] at I0
     exact .inr ⟨l,a+(j+1),by omega,by omega,by omega,S0,I0⟩
   ·rw [if_neg aKK,sb] at S0 I0
    by_cases h92:(s.getD (a+j) 0).toNat=92
    ·rw [if_pos aKK] at S0 I0
     by_cases hn:a+(j+1)<s.length
     ·have ih2:=λc:UInt8=>NG (a:=a) hO hs g (j+2) (l++[c]) aKK aKK aKY
      rw [if_pos aKK,eC hn,sb,w3] at S0
      rw [if_pos aKK,CW hn,sb,w4] at I0
      by_cases k1:(s.getD (a+(j+1)) 0).toNat=39
      ·rw [if_pos aKK,sb,one,sb] at S0 I0
       rw [S0,I0];exact ih2 _
      ·rw [if_neg aKK,sb] at S0 I0
       by_cases k2:(s.getD (a+(j+1)) 0).toNat=92
       ·rw [if_pos aKK,sb,one,sb] at S0 I0
        rw [S0,I0];exact ih2 _
       ·rw [if_neg aKK,sb,one,sb] at S0 I0
        rw [S0,I0];exact ih1 _
     ·rw [if_neg aKK,sb,one,sb] at S0 I0
      rw [S0,I0];exact ih1 _
    ·rw [if_neg aKK,sb,one,sb] at S0 I0
     rw [S0,I0];exact ih1 _
  ·rw [if_neg aKK] at S0 I0
   exact .inl ⟨.inl S0,I0⟩
def CX:List aB:=[[61,61,61],[33,61,61],[60,61,62],[61,61],[33,61],[60,61],[62,61],[61,62],[45,62],[58,58],[38,38],[124,124],[63,63]]
def zr:aB:=[43,45,42,47,37,46,61,33,60,62,40,41,91,93,123,125,44,59,63,58,38]
def xk:List aB:=[[61,61,61],[33,61,61],[60,61,62],[61,61],[33,61],[60,61],[62,61],[61,62],[45,62],[58,58],[38,38],[124,124],[63,63],[43],[45],[42],[47],[37],[46],[61],[33],[60],[62],[40],[41],[91],[93],[123],[125],[44],[59],[63],[58],[38]]
theorem ZY:xk=CX++zr.map (λc=>[c]):=rfl
def fm (l:List aB) (r:aB):Option aB:=l.find? λm=>Lib.hasPrefix r m
theorem aAZ {s:aB} (hs:s.length<=4000) {a:Nat} (ha:a<=s.length):∀(f k:Nat),13<=k+f->k<=13->
  kR s (a:Int) (k:Int)=some (match fm (CX.drop k) (s.drop a) with | some m=>.inr m | none=>.inl ())
 | f,k,h,hk=>by
  rw [kR]
  by_cases hc:k<13
  ·obtain ⟨g,rfl⟩:∃g,f=g+1:=⟨f - 1,by omega⟩
   have ih:=aAZ hs ha g (k+1) aKK aKK
   have e:idx ([[61,61,61],[33,61,61],[60,61,62],[61,61],[33,61],[60,61],[62,61],[61,62],[45,62],[58,58],[38,38],[124,124],[63,63]]:List aB) (k:Int)=some (CX[k]'hc):=fJ (l:=CX) hc
   have hm:CX[k]'hc≠[]/\(CX[k]'hc).length<=10:=by
    have:∀m∈CX,m≠[]/\m.length<=10:=by decide
    exact this _ (aIh hc)
   rw [if_pos aKU,e,sb,Ap hm.1 hm.2 ha aKK,sb,bQ aKK,aIf (l:=CX) hc,fm,List.find?_cons]
   show (if Lib.hasPrefix (s.drop a) (CX[k]'hc)=true then _ else _)=_
   cases hp:Lib.hasPrefix (s.drop a) (CX[k]'hc)
   ·rw [if_neg aKN,ih];rfl
   ·rw [if_pos rfl,sb]
  ·obtain rfl:k=13:=by omega
   rw [if_neg aKN];rfl
theorem Dx {s:aB} {a:Nat} (h:a<s.length) (c:UInt8):Lib.hasPrefix (s.drop a) [c]=(c==s.getD a 0):=by
 rw [drop_cons h]
 show ([c].isPrefixOf (s.getD a 0::s.drop (a+1)))=_
 simp [List.isPrefixOf]
theorem aA0 {s:aB} {a:Nat} (ha:a<s.length):∀(f k:Nat),21<=k+f->k<=21->
  jB s (a:Int) (k:Int)=some (match fm ((zr.drop k).map λc=>[c]) (s.drop a) with | some m=>.inr m | none=>.inl ())
 | f,k,h,hk=>by
  rw [jB]
  by_cases hc:k<21
  ·obtain ⟨g,rfl⟩:∃g,f=g+1:=⟨f - 1,by omega⟩
   have ih:=aA0 ha g (k+1) aKK aKK
   have e:gx [43,45,42,47,37,46,61,33,60,62,40,41,91,93,123,125,44,59,63,58,38] (k:Int)=some (zr.getD k 0):=eC (s:=zr) hc
   have e2:sB [43,45,42,47,37,46,61,33,60,62,40,41,91,93,123,125,44,59,63,58,38] (k:Int) ((k+1:Nat):Int)=some [zr.getD k 0]:=by
    show sB zr (k:Int) ((k+1:Nat):Int)=_
    rw [sB,if_pos ⟨by omega,by omega,by show ((k+1:Nat):Int)<=(21:Nat);omega⟩]
    rw [show ((k+1:Nat):Int).toNat=k+1 from rfl,show ((k:Nat):Int).toNat=k from rfl,aJx,drop_cons (s:=zr) hc,show k+1 - k=1 by omega];rfl
   rw [if_pos aKU,eC ha,sb,e,sb,bQ aKK,e2,sb,drop_cons (s:=zr) hc,aHQ,fm,List.find?_cons,Dx ha]
   by_cases hp:(s.getD a 0).toNat=(zr.getD k 0).toNat
   ·rw [if_pos aKK,show (zr.getD k 0==s.getD a 0)=true by rw [beq_iff_eq];exact UInt8.toNat_inj.1 hp.symm]
   ·rw [if_neg aKK,ih,show (zr.getD k 0==s.getD a 0)=false by rw [beq_eq_false_iff_ne];intro q;exact hp (by rw [q])];rfl
  ·obtain rfl:k=21:=by omega
   rw [if_neg aKN];rfl
theorem aA1 {s:aB} (hs:s.length<=4000) {a:Nat} (ha:a<s.length):oO s (a:Int)=some ((fm xk (s.drop a)).getD []):=by
 unfold oO
 have e1:=aAZ hs (a:=a) aKK 13 0 aKK aKK
 have e2:=aA0 (s:=s) ha 21 0 aKK aKK
 rw [show ((0:Nat):Int)=0 from rfl,aHY] at e1 e2
 rw [e1,sb,ZY]
 unfold fm at e2 ⊢
 rw [List.find?_append]
 cases CX.find? (λm=>Lib.hasPrefix (s.drop a) m) with
 | some m=>rfl
 | none=>
  show (jB s (a:Int) 0>>=_)=some (((zr.map λc=>[c]).find? λm=>Lib.hasPrefix (s.drop a) m).getD [])
  rw [e2,sb]
  cases (zr.map λc=>[c]).find? (λm=>Lib.hasPrefix (s.drop a) m)<;>rfl
theorem iMk {s:aB} {a:Nat} {O:List af} (hO:O.length<=4000) (hs:s.length<=4000) (ha:a<=s.length):∀(f k:Nat),34<=k+f->k<=34->
  jz (.mk s (a:Int) O 0) (s.drop a) (k:Int)=some (match fm (xk.drop k) (s.drop a) with | some m=>.inr (.mk s ((a+m.length:Nat):Int) (O++[.mk 6 0 m (a:Int)]) 0) | none=>.inl ())
 | f,k,h,hk=>by
  rw [jz]
  by_cases hc:k<34
  ·obtain ⟨g,rfl⟩:∃g,f=g+1:=⟨f - 1,by omega⟩
   have ih:=iMk hO hs ha g (k+1) aKK aKK
   have e:idx ([[61,61,61],[33,61,61],[60,61,62],[61,61],[33,61],[60,61],[62,61],[61,62],[45,62],[58,58],[38,38],[124,124],[63,63],[43],[45],[42],[47],[37],[46],[61],[33],[60],[62],[40],[41],[91],[93],[123],[125],[44],[59],[63],[58],[38]]:List aB) (k:Int)=some (xk[k]'hc):=fJ (l:=xk) hc
   have hm:(xk[k]'hc).length<=10:=by
    have:∀m∈xk,m.length<=10:=by decide
    exact this _ (aIh hc)
   rw [if_pos aKU,e,sb,m66,sb,bQ aKK,aIf (l:=xk) hc,fm,List.find?_cons]
   cases hp:Lib.hasPrefix (s.drop a) (xk[k]'hc)
   ·rw [if_neg aKN,ih];rfl
   ·rw [if_pos rfl,add_eq hO _ _ _ aKK,sb]
  ·obtain rfl:k=34:=by omega
   rw [if_neg aKN];rfl
theorem aA2 {s:aB} {a:Nat} {O:List af} (hO:O.length<=4000) (hs:s.length<=4000) (ha:a<=s.length):
  lQ (.mk s (a:Int) O 0) (s.drop a)=some (match fm xk (s.drop a) with | some m=>(.mk s ((a+m.length:Nat):Int) (O++[.mk 6 0 m (a:Int)]) 0) | none=>.mk s (a:Int) O 2):=by
 unfold lQ
 have e:=iMk hO hs ha 34 0 aKK aKK
 rw [show ((0:Nat):Int)=0 from rfl,aHY] at e
 rw [e,sb]
 cases fm xk (s.drop a)<;>rfl
theorem ad2 {s m:aB} (h:fm xk s=some m):xk.contains m=true/\1<=m.length/\m.length<=s.length/\m≠[]:=by
 have h1:=List.mem_of_find?_eq_some h
 have h2:Lib.hasPrefix s m=true:=List.find?_some (p:=λm=>Lib.hasPrefix s m) h
 have h3:∀m∈xk,1<=m.length/\m≠[]:=by decide
 have h4:m <+: s:=aJl.1 h2
 exact ⟨by simpa using h1,(h3 m h1).1,h4.length_le,(h3 m h1).2⟩
set_option maxRecDepth 100000
structure K4 (l:List af) (a:Nat):Prop where
 len:l.length<=a
 at0:∀t∈l,0<=t.bM
 txt:∀t∈l,t.aq.length<=4000
 nam:∀t∈l,t.aj=3->nmW t.aq=true
 mrk:∀t∈l,t.aj=6->G7.contains t.aq=true
theorem K4.mono {l:List af} {a b:Nat} (h:K4 l a) (hab:a<=b):K4 l b:=⟨by have:=h.len;omega,h.at0,h.txt,h.nam,h.mrk⟩
theorem K4.push {l:List af} {a b:Nat} {k n:Int} {x:aB} {p:Nat} (h:K4 l a) (hab:a<b) (hx:x.length<=4000) (h3:k=3->nmW x=true) (h6:k=6->G7.contains x=true):K4 (l++[.mk k n x (p:Int)]) b:=by
 refine ⟨by have:=h.len;simp only [aHK,an,At];omega,?_,?_,?_,?_⟩<;>intro t ht<;>rcases are.1 ht with ht | ht<;>try (rw [aJy] at ht;subst ht)
 ·exact h.at0 t ht
 ·exact Int.natCast_nonneg p
 ·exact h.txt t ht
 ·exact hx
 ·exact h.nam t ht
 ·exact h3
 ·exact h.mrk t ht
 ·exact h6
theorem pI {s:aB} {a:Nat} (h:a<=s.length):mK s (a:Int)=some (s.drop a):=by unfold mK;rw [if_pos ⟨by omega,by omega⟩,aIU]
theorem ZZ {s:aB} {a:Nat} (h:a<=s.length):sto s (a:Int)=some (s.take a):=by unfold sto;rw [if_pos ⟨by omega,by omega⟩,aIU]
theorem CY {s:aB} {a b:Nat} (h:a<=b) (h2:b<=s.length):sB s (a:Int) (b:Int)=some ((s.drop a).take (b - a)):=by
 unfold sB;rw [if_pos ⟨by omega,by omega,by omega⟩,aIU,aIU,aJx]
theorem Kt {s:aB} {a:Nat} (h:a<s.length):0<zq (s.drop a)↔RM (s.getD a 0)=true:=by
 rw [drop_cons h,zq]
 by_cases q:RM (s.getD a 0)=true
 ·rw [if_pos q];exact ⟨λ_=>q,λ_=>Nat.succ_pos _⟩
 ·rw [if_neg q];exact ⟨λq2=>absurd q2 (Nat.lt_irrefl 0),λq2=>absurd q2 q⟩
theorem Z0 {s:aB} {a:Nat} (h:a<s.length) (hd:pk (s.getD a 0)=true):0<ur (s.drop a):=by
 rw [drop_cons h,ur,if_pos hd];omega
theorem Z1 {s:aB} {a n:Nat} (h:a<s.length) (hd:RM (s.getD a 0)=true) (hn:0<n):nmW ((s.drop a).take n)=true:=by
 obtain ⟨m,rfl⟩:∃m,n=m+1:=⟨n - 1,by omega⟩
 rw [drop_cons h,List.take_succ_cons,nmW,ltr]
 unfold RM isLet at hd
 simp only [aIJ,decide_eq_true_eq] at hd ⊢
 omega
theorem NH (s d:aB):m66 s d=some (Lib.hasPrefix s d):=rfl
theorem Z2 {s:aB} (hs:s.length<=4000) {a:Nat} (ha:a<s.length) {l:List af} (h:K4 l a) (hw:(s.getD a 0).toNat≠32/\(s.getD a 0).toNat≠9/\(s.getD a 0).toNat≠10/\(s.getD a 0).toNat≠13)
  (p1:Lib.hasPrefix (s.drop a) [63,62]=false) (p2:Lib.hasPrefix (s.drop a) [47,47]=false):
  (∃(t:af) (b:Nat),a<b/\b<=s.length/\jT s (a:Int)=some (t,(b:Int),0)/\dr (.mk s (a:Int) l 0)=some (.mk s (b:Int) (l++[t]) 0)/\K4 (l++[t]) b)\/
  (∃(t:af) (k:Int),k≠0/\jT s (a:Int)=some (t,(a:Int),k)/\dr (.mk s (a:Int) l 0)=some (.mk s (a:Int) l k)):=by
 have hl:=h.len
 have hO:l.length<=4000:=by omega
 have hlen:(s.drop a).length=s.length - a:=aIz
 have e1:mK s (a:Int)=some (s.drop a):=pI aKK
 have e2:gx (s.drop a) 0=some (s.getD a 0):=CW (j:=0) aKK
 have lt1:=(s.getD a 0).toNat_lt
 have I0:=dr.eq_1 (.mk s (a:Int) l 0)
 have S0:=jT.eq_1 s (a:Int)
 replace I0:dr (.mk s (a:Int) l 0)=(mK s (a:Int)>>=_):=I0
 rw [e1,sb,e2,sb,if_neg aKK,if_neg aKK,if_neg aKK,sb,if_neg (by rw [beq_iff_eq];omega),NH,sb,p1,if_neg aKN,NH,sb,p2,if_neg aKN] at I0
 rw [eC ha,sb,sb,sb,sb] at S0
 by_cases h36:(s.getD a 0).toNat=36
 ·have w1:bq ((a:Int)+1)=((a+1:Nat):Int):=bQ aKK
  have hn:=PY (s.drop (a+1))
  rw [aIz] at hn
  have e3:mK (s.drop a) 1=some (s.drop (a+1)):=by
   have:=pI (s:=s.drop a) (a:=1) aKK
   rw [List.drop_drop] at this;exact this
  rw [if_pos aKK,e3,sb,iNl _ (by rw [aIz];omega),sb,sb] at I0
  rw [if_pos aKK,w1,sNl s aKK aKK,sb,CY aKK aKK,sb,aIC] at S0
  generalize zq (s.drop (a+1))=n at*
  by_cases hz:n=0
  ·subst hz
   rw [if_pos (by rw [List.take_zero]),sb] at S0
   rw [if_pos aKK,sb] at I0
   exact .inr ⟨_,2,by decide,S0,I0⟩
  ·have q0:(s.drop (a+1)).take n≠[]:=λq=>by
    have:=congrArg List.length q
    rw [aJk,aIz,At] at this;omega
   rw [if_neg q0,sb] at S0
   have w2:bq (1+(n:Int))=((1+n:Nat):Int):=kE aKK aKK
   have e5:sB (s.drop a) 1 ((1+n:Nat):Int)=some ((s.drop (a+1)).take n):=by
    have:=CY (s:=s.drop a) (a:=1) (b:=1+n) aKK aKK
    rw [List.drop_drop,aIC] at this;exact this
   rw [if_neg aKK,sb,w2] at I0
   replace I0:_=(sB (s.drop a) 1 ((1+n:Nat):Int)>>=_):=I0
   rw [e5,sb,add_eq hO _ _ _ aKK,sb] at I0
   refine .inl ⟨_,a+1+n,by omega,by omega,S0,?_,h.push aKK (by rw [aJk,aIz];omega) (λq=>absurd q aKL) (λq=>absurd q aKL)⟩
   rw [I0,show a+(1+n)=a+1+n by omega]
 rw [if_neg aKK] at I0 S0
 have hn:=PY (s.drop a)
 rw [iNl _ aKK,sb] at I0
 rw [AU,sb] at S0
 by_cases hm:RM (s.getD a 0)=true
 ·have hp:=(Kt ha).2 hm
  rw [if_pos (show (isLet (s.getD a 0)||decide ((s.getD a 0).toNat=95))=true from hm),sNl s aKK aKK,sb,CY aKK aKK,sb,aIC,sb] at S0
  rw [if_pos aKK,sb,sb,ZZ aKK,sb,add_eq hO _ _ _ aKK,sb] at I0
  exact .inl ⟨_,a+zq (s.drop a),by omega,by omega,S0,I0,h.push aKK (by rw [aJk];omega) (λ_=>Z1 ha hm hp) (λq=>absurd q aKL)⟩
 have hm0:¬0<zq (s.drop a):=λq=>hm ((Kt ha).1 q)
 rw [if_neg (show ¬(isLet (s.getD a 0)||decide ((s.getD a 0).toNat=95))=true from hm),AV,sb] at S0
 rw [if_neg aKK,Gh,sb,sb] at I0
 by_cases hd:pk (s.getD a 0)=true
 ·have hdp:=Z0 ha hd
  have P0:=PZ (s.drop a)
  have d0:gD (s.drop a) 0=some ((ur (s.drop a):Nat):Int):=by
   have:=iDr (s.drop a) aKK (s.drop a).length 0 aKK aKK
   rw [aHJ,aHY] at this;exact this
  rw [if_pos hd,d0,sb,ZZ P0,sb,m69,m98] at I0
  rw [if_pos hd,sDr s aKK s.length a aKK aKK,sb,CY aKK aKK,sb,aIC,alA,sb] at S0
  have hdr:(s.drop a).take (ur (s.drop a))=s.getD a 0::(s.drop (a+1)).take (ur (s.drop a) - 1):=by
   obtain ⟨m,hm⟩:∃m,ur (s.drop a)=m+1:=⟨ur (s.drop a) - 1,by omega⟩
   rw [hm,drop_cons ha,List.take_succ_cons];rfl
  have xC:48<=(s.getD a 0).toNat/\(s.getD a 0).toNat<=57:=by unfold pk at hd;simpa using hd
  have hpw:pw ((s.drop a).take (ur (s.drop a))) (-1000000000) 1000000000=Kq (qQ ((s.drop a).take (ur (s.drop a)))):=by
   rw [hdr];exact ad1 (λq=>by rw [q] at xC;exact absurd xC aKL) (λq=>by rw [q] at xC;exact absurd xC aKL)
  rw [hpw] at I0
  generalize qQ ((s.drop a).take (ur (s.drop a)))=o at I0 S0
  generalize ur (s.drop a)=d at*
  cases o with
  | none=>exact .inr ⟨_,4,by decide,S0,I0⟩
  | some v=>
   by_cases hv:v<=1000000000
   ·replace S0:_=((if (v:Int)>1000000000 then _ else _)>>=_):=S0
    rw [if_neg aKK,sb] at S0
    have:Kq (some v)=some (v:Int):=if_pos hv
    rw [this] at I0
    replace I0:_=(dy (.mk s (a:Int) l 0) 4 (v:Int) [] (d:Int)>>=_):=I0
    rw [add_eq hO _ _ _ aKK,sb] at I0
    exact .inl ⟨_,a+d,by omega,by omega,S0,I0,h.push aKK aKN (λq=>absurd q aKL) (λq=>absurd q aKL)⟩
   ·replace S0:_=((if (v:Int)>1000000000 then _ else _)>>=_):=S0
    rw [if_pos aKK,sb] at S0
    have:Kq (some v)=none:=if_neg hv
    rw [this] at I0
    exact .inr ⟨_,4,by decide,S0,I0⟩
 rw [if_neg hd] at I0 S0
 by_cases h39:(s.getD a 0).toNat=39
 ·rw [if_pos aKK,oh] at I0
  rw [if_pos aKK,oq,bQ aKK] at S0
  rcases NG (a:=a) hO hs s.length 1 [] aKK aKK aKN with ⟨x1,x2⟩ | ⟨q,b,q1,q2,q3,q4,q5⟩
  ·replace I0:_=((cU (.mk s (a:Int) l 0) (s.drop a) [] ((1:Nat):Int)>>=_)>>=_):=I0
   rw [x2,sb,sb] at I0
   rcases x1 with x1 | x1<;>rw [x1,sb,sb] at S0<;>dsimp only at S0<;>rw [if_pos aKL,sb] at S0<;>exact .inr ⟨_,3,by decide,S0,I0⟩
  ·replace I0:_=((cU (.mk s (a:Int) l 0) (s.drop a) [] ((1:Nat):Int)>>=_)>>=_):=I0
   rw [q5,sb,sb] at I0
   rw [q4,sb,sb] at S0
   dsimp only at S0
   rw [if_neg aKK,sb] at S0
   exact .inl ⟨_,b,q1,q2,S0,I0,h.push aKK aKK (λq=>absurd q aKL) (λq=>absurd q aKL)⟩
 rw [if_neg aKK] at I0 S0
 rw [sb,aA1 hs ha,sb] at S0
 rw [aA2 hO hs aKK,sb] at I0
 cases hf:fm xk (s.drop a) with
 | none=>
  rw [hf] at I0 S0
  dsimp only at S0
  rw [if_pos (show ((none:Option aB).getD [])=([]:aB) from rfl)] at S0
  exact .inr ⟨_,2,by decide,S0,I0⟩
 | some m=>
  obtain ⟨m1,m2,m3,m4⟩:=ad2 hf
  rw [hf] at I0 S0
  replace S0:_=(if m=([]:aB) then _ else _):=S0
  rw [if_neg m4] at S0
  have w2:bq ((a:Int)+(m.length:Int))=((a+m.length:Nat):Int):=kE aKK aKK
  replace S0:jT s (a:Int)=some ((.mk 6 0 m (a:Int)),bq ((a:Int)+(m.length:Int)),0):=S0
  rw [w2] at S0
  exact .inl ⟨_,a+m.length,by omega,by omega,S0,I0,h.push aKK aKK (λq=>absurd q aKL) (λ_=>m1)⟩
theorem pt {s:aB} (hs:s.length<=4000) {k:Nat} (hk:k<=s.length) (h2:k<s.length->Lib.occAt s [60,63] k=true):∀(f j:Nat),j+f=k->(∀p,j<=p->p<k->Lib.occAt s [60,63] p=false)->kS s (j:Int)=some (k:Int)
 | 0,j,e,_=>by
  obtain rfl:j=k:=by omega
  rw [kS]
  by_cases hc:j<s.length
  ·rw [if_pos aKK,Ap aKN aKN hk aKK,sb,h2 hc,if_pos rfl]
  ·rw [if_neg aKK]
 | f+1,j,e,h=>by
  rw [kS,if_pos aKK,Ap aKN aKN aKK aKK,sb,h j aKK aKK,if_neg aKN,bQ aKK]
  exact pt hs hk h2 f (j+1) aKK (λp Dx Hy=>h p aKK Hy)
theorem CZ (s p:aB) (a j:Nat):Lib.occAt (s.drop a) p j=Lib.occAt s p (a+j):=by unfold Lib.occAt;rw [List.drop_drop]
theorem Z3 {s:aB} (hs:s.length<=4000) {a:Nat} (ha:a<s.length) {l:List af} (h:K4 l a):
  ∃(b:Nat) (l':List af),a<b/\b<=s.length/\K4 l' b/\cR (.mk s (a:Int) l 0)=some (.mk s (b:Int) l' 0)/\
   ((bJ s l false (a:Int)=bJ s l' true (b:Int))\/(b=s.length/\bJ s l false (a:Int)=some (.inl l'))):=by
 have hl:=h.len
 have hO:l.length<=4000:=by omega
 have hlen:(s.drop a).length=s.length - a:=aIz
 obtain ⟨n,hn,hn1,hn2,hn3⟩:∃n:Nat,(if Lib.index (s.drop a) [60,63]<0 then some ((s.drop a).length:Int) else some (Lib.index (s.drop a) [60,63]))=some (n:Int)/\a+n<=s.length/\(a+n<s.length->Lib.occAt s [60,63] (a+n)=true/\a+n+2<=s.length)/\(∀p,a<=p->p<a+n->Lib.occAt s [60,63] p=false):=by
  rcases Lib.index_spec (s.drop a) [60,63] with ⟨i1,i2⟩ | ⟨i,i1,i2⟩
  ·rw [i1,if_pos aKL]
   refine ⟨_,rfl,by omega,λq=>by omega,λp Dx Hy=>?_⟩
   have:=i2 (p - a) aKK
   rw [CZ,show a+(p - a)=p by omega] at this;exact this
  ·rw [i1,if_neg aKK]
   have hr:=Lib.index_room (s.drop a) [60,63] aKK
   simp only [an,At] at hr
   refine ⟨i,rfl,by omega,λ_=>⟨?_,by omega⟩,λp Dx Hy=>?_⟩
   ·have:=i2.2.1
    rw [CZ] at this;exact this
   ·have:=i2.2.2 (p - a) aKK
    rw [CZ,show a+(p - a)=p by omega] at this;exact this
 have eL:kS s (a:Int)=some ((a+n:Nat):Int):=pt hs hn1 (λq=>(hn2 q).1) n a rfl hn3
 have e2:m64 (s.drop a) [60,63]=some (Lib.index (s.drop a) [60,63]):=by unfold m64;rw [if_pos aKK]
 have hS:=bJ.eq_1 s l false (a:Int)
 rw [if_pos aKK,if_neg aKL,eL,sb] at hS
 have hI:=cR.eq_1 (.mk s (a:Int) l 0)
 replace hI:cR (.mk s (a:Int) l 0)=(mK s (a:Int)>>=_):=hI
 rw [pI aKK,sb,e2,sb,hn,sb] at hI
 obtain ⟨l1,t1,hS,hI,hz⟩:∃l1:List af,K4 l1 (a+n)/\bJ s l false (a:Int)=(if ((a+n:Nat):Int)<(s.length:Int) then
    hP s ((a+n:Nat):Int) [60,63,61]>>=λv36=>
    (if v36=true then
     db 40 l1 ([(af.mk 3 0 [101,99,104,111] ((a+n:Nat):Int))]:List af)>>=λl39=>
     bJ s l39 (decide (((a+n:Nat):Int)<(s.length:Int))) (bq (((a+n:Nat):Int)+3))
    else
     bJ s l1 (decide (((a+n:Nat):Int)<(s.length:Int))) (bq (((a+n:Nat):Int)+2)))
   else
    bJ s l1 (decide (((a+n:Nat):Int)<(s.length:Int))) (bq (((a+n:Nat):Int)+2)))/\
   cR (.mk s (a:Int) l 0)=(if ((a+n:Nat):Int)=(s.length:Int) then
    some (bG.mk s ((a+n:Nat):Int) l1 0)
   else
    mK s ((a+n:Nat):Int)>>=λs25=>
    m66 s25 [60,63,61]>>=λRd=>
    (if Rd=true then
     dy (bG.mk s ((a+n:Nat):Int) l1 0) 3 0 [101,99,104,111] ((3:Nat):Int)>>=λv30=>
     some v30
    else
     some (bG.mk s (bq (((a+n:Nat):Int)+2)) l1 0)))/\l1.length<=4000:=by
  by_cases hz:n=0
  ·subst hz
   rw [if_neg aKK,sb] at hI hS
   exact ⟨l,h,hS,hI,hO⟩
  ·have t1:K4 (l++[.mk 1 0 ((s.drop a).take n) (a:Int)]) (a+n):=h.push aKK (by rw [aJk];omega) (λq=>absurd q aKL) (λq=>absurd q aKL)
   rw [if_pos aKK,CY aKK aKK,sb,aIC,km aKU,sb,sb] at hS
   rw [if_pos aKK,ZZ aKK,sb,add_eq hO _ _ _ aKK,sb] at hI
   exact ⟨_,t1,hS,hI,by have:=t1.len;omega⟩
 by_cases hk:a+n<s.length
 ·obtain ⟨o1,o2⟩:=hn2 hk
  rw [if_pos aKK,Ap aKN aKN aKK aKK,sb,show decide (((a+n:Nat):Int)<(s.length:Int))=true from decide_eq_true aKK] at hS
  rw [if_neg aKK,pI aKK,sb,NH,sb] at hI
  replace hS:_=(if Lib.hasPrefix (s.drop (a+n)) [60,63,61]=true then _ else _):=hS
  cases hp:Lib.hasPrefix (s.drop (a+n)) [60,63,61]
  ·rw [hp,if_neg aKL,kE (n:=a+n+2) aKK aKK] at hS hI
   exact ⟨a+n+2,l1,by omega,o2,t1.mono aKK,hI,.inl hS⟩
  ·have h3:a+n+3<=s.length:=by
    have:=(aJl.1 (show [60,63,61].isPrefixOf (s.drop (a+n))=true from hp)).length_le
    rw [aIz] at this;simp only [an,At] at this;omega
   rw [hp,if_pos rfl,kE (x:=((a+n:Nat):Int)+3) (n:=a+n+3) aKK aKK,km aKU,sb] at hS
   rw [hp,if_pos rfl,add_eq hz _ _ _ aKK,sb] at hI
   exact ⟨a+n+3,_,by omega,h3,t1.push aKK aKN (λ_=>rfl) (λq=>absurd q aKL),hI,.inl hS⟩
 ·rw [if_neg aKK,kE (x:=((a+n:Nat):Int)+2) (n:=a+n+2) aKK aKK,bJ.eq_1 s l1,if_neg aKK] at hS
  rw [if_pos aKK] at hI
  exact ⟨a+n,l1,by omega,hn1,t1,hI,.inr ⟨by omega,hS⟩⟩
theorem P1 {s:aB} (hs:s.length<=4000) (l:List af) (q:Int):∀(f j:Nat),s.length<=j+f->j<=s.length->∃b:Nat,j<=b/\b<=s.length/\kU s true l (j:Int)=some (.inl (l,true,(b:Int)))/\ep (.mk s q l 0) (j:Int)=some (.mk s (b:Int) l 0)
 | f,j,h,hj=>by
  rw [kU,ep]
  dsimp only
  by_cases hc:j<s.length
  ·obtain ⟨g,rfl⟩:∃g,f=g+1:=⟨f - 1,by omega⟩
   rw [if_pos aKK,if_pos aKK,eC hc,sb,sb]
   by_cases h10:(s.getD j 0).toNat=10
   ·rw [if_pos aKK,if_pos aKK,sb]
    exact ⟨j,No _,hj,rfl,rfl⟩
   ·rw [if_neg aKK,if_neg aKK,Ap aKN aKN aKK aKK,sb,pI aKK,sb,NH,sb]
    show ∃b:Nat,_/\_/\(if Lib.hasPrefix (s.drop j) [63,62]=true then _ else _)=_/\_
    cases hp:Lib.hasPrefix (s.drop j) [63,62]
    ·rw [if_neg aKL,if_neg aKL,sb,bQ aKK]
     obtain ⟨b,b1,b2,b3,b4⟩:=P1 hs l q g (j+1) aKK aKK
     exact ⟨b,by omega,b2,b3,b4⟩
    ·rw [if_pos rfl,if_pos rfl,sb]
     exact ⟨j,No _,hj,rfl,rfl⟩
  ·rw [if_neg aKK,if_neg aKK,sb]
   exact ⟨j,No _,hj,rfl,rfl⟩
def alB (s:aB) (x:Option ((List af) ⊕ ((List af)×Int×Int))) (y:Option (aB×Int×Int×(List af))):Prop:=
 ∃(p k:Int) (l:List af),y=some (s,p,k,l)/\((k=0/\x=some (.inl l)/\K4 l s.length)\/(k≠0/\x=some (.inr ([],k,p))))
theorem Z4 {s:aB} {l:List af}:fV s s (s.length:Int) 0 l=some (s,(s.length:Int),0,l):=by
 rw [fV,if_pos rfl,if_neg aKK,sb]
theorem vI {s:aB} {l:List af} {a:Nat} (ha:a<s.length) {x:bG} (h:dr (.mk s (a:Int) l 0)=some x):fV s s (a:Int) 0 l=fV s x.fS x.bM x.dM x.bO:=by
 rw [fV,if_pos rfl,if_pos aKK,sb]
 show (dr (.mk s (a:Int) l 0)>>=_)=_
 rw [h,sb]
theorem aA3 {s:aB} (hs:s.length<=4000):∀m a:Nat,a<=s.length->s.length - a=m->∀l:List af,K4 l a->
  alB s (bJ s l true (a:Int)) (fV s s (a:Int) 0 l)/\
  ∃(b:Nat) (l':List af),cR (.mk s (a:Int) l 0)=some (.mk s (b:Int) l' 0)/\alB s (bJ s l false (a:Int)) (fV s s (b:Int) 0 l'):=by
 intro m
 induction m using Nat.strongRecOn with
 | _ m ih=>
  intro a ha hm l h
  have hl:=h.len
  have hO:l.length<=4000:=by omega
  by_cases hc:a<s.length
  ·have IH:=λ(b:Nat) (hb:a<b) (sC:b<=s.length) (l':List af) (h':K4 l' b)=>ih (s.length - b) aKK b sC rfl l' h'
   constructor
   ·have lt1:=(s.getD a 0).toNat_lt
    by_cases hw:(s.getD a 0).toNat≠32/\(s.getD a 0).toNat≠9/\(s.getD a 0).toNat≠10/\(s.getD a 0).toNat≠13
    ·have eI:=dr.eq_1 (.mk s (a:Int) l 0)
     replace eI:dr (.mk s (a:Int) l 0)=(mK s (a:Int)>>=_):=eI
     rw [pI aKK,sb,show gx (s.drop a) 0=some (s.getD a 0) from CW (j:=0) aKK,sb,if_neg aKK,if_neg aKK,if_neg aKK,sb,if_neg (by rw [beq_iff_eq];omega),NH,sb] at eI
     have eS:=bJ.eq_1 s l true (a:Int)
     rw [if_pos aKK,if_pos rfl,Ap aKN aKN aKK aKK,sb] at eS
     replace eS:_=(if Lib.hasPrefix (s.drop a) [63,62]=true then _ else _):=eS
     cases hp:Lib.hasPrefix (s.drop a) [63,62]
     ·rw [hp,if_neg aKL] at eI eS
      rw [NH,sb] at eI
      rw [Ap aKN aKN aKK aKK,sb] at eS
      replace eS:_=(if Lib.hasPrefix (s.drop a) [47,47]=true then _ else _):=eS
      cases hq:Lib.hasPrefix (s.drop a) [47,47]
      ·rw [hq,if_neg aKL,eC hc,sb,if_neg aKK,sb,if_neg aKK,sb,if_neg aKK,sb,sb,if_neg (by rw [beq_iff_eq];omega)] at eS
       rcases Z2 hs hc h hw hp hq with ⟨t,b,q1,q2,q3,q4,q5⟩ | ⟨t,k,q1,q2,q3⟩
       ·rw [q3,sb] at eS
        dsimp only at eS
        rw [if_pos rfl,km aKU,sb] at eS
        rw [eS,vI hc q4]
        exact (IH b q1 q2 _ q5).1
       ·rw [q2,sb] at eS
        dsimp only at eS
        rw [if_neg q1] at eS
        rw [eS,vI hc q3,fV,if_neg q1,sb]
        exact ⟨_,_,_,rfl,.inr ⟨q1,rfl⟩⟩
      ·rw [hq,if_pos rfl] at eI eS
       have h47:(s.getD a 0)=47:=by
        rw [drop_cons hc] at hq
        have:[47,47].isPrefixOf (s.getD a 0::s.drop (a+1))=true:=hq
        simp only [List.isPrefixOf,As,beq_iff_eq] at this
        exact this.1.symm
       obtain ⟨b,b1,b2,b3,b4⟩:=P1 hs l (a:Int) s.length (a+1) aKK aKK
       have c1:kU s true l (a:Int)=some (.inl (l,true,(b:Int))):=by
        rw [kU,if_pos aKK,eC hc,sb,if_neg aKK,Ap aKN aKN aKK aKK,sb]
        show (if Lib.hasPrefix (s.drop a) [63,62]=true then _ else _)=_
        rw [hp,if_neg aKL,bQ aKK,b3]
       have c2:ep (.mk s (a:Int) l 0) (a:Int)=some (.mk s (b:Int) l 0):=by
        rw [ep]
        dsimp only
        rw [if_pos aKK,eC hc,sb,if_neg aKK,pI aKK,sb,NH,sb,hp,if_neg aKL,sb,bQ aKK,b4]
       rw [c1,sb] at eS
       replace eI:_=ep (.mk s (a:Int) l 0) (a:Int):=eI
       rw [c2] at eI
       rw [vI hc eI]
       replace eS:_=bJ s l true (b:Int):=eS
       rw [eS]
       exact (IH b aKK b2 _ (h.mono aKK)).1
     ·have h2:a+2<=s.length:=by
       have:=(aJl.1 (show [63,62].isPrefixOf (s.drop a)=true from hp)).length_le
       rw [aIz] at this;simp only [an,At] at this;omega
      have t1:K4 (l++[.mk 6 0 [59] (a:Int)]) (a+2):=h.push aKK aKN (λq=>absurd q aKL) (λ_=>rfl)
      have ea:dy (.mk s (a:Int) l 0) 6 0 [59] 2=some (.mk s ((a+2:Nat):Int) (l++[.mk 6 0 [59] (a:Int)]) 0):=add_eq (z:=2) hO 6 0 [59] aKK
      rw [hp,if_pos rfl,ea,sb] at eI
      dsimp only at eI
      rw [hp,if_pos rfl,km aKU,sb,kE (x:=(a:Int)+2) (n:=a+2) aKK aKK,Ap aKN aKN aKK aKK,sb] at eS
      have nx:(if ((a+2:Nat):Int)<(s.length:Int) then gx s ((a+2:Nat):Int)>>=λc24=>some ((c24.toNat:Int)==10) else some false)=some (Lib.occAt s [10] (a+2)):=by
       by_cases bg:a+2<s.length
       ·rw [if_pos aKK,eC bg,sb]
        have:=Dx bg 10
        replace this:Lib.occAt s [10] (a+2)=_:=this
        rw [this]
        congr 1
        rw [aJb,beq_iff_eq,beq_iff_eq]
        constructor
        ·intro q;exact UInt8.toNat_inj.1 (show (10:UInt8).toNat=_ by show 10=_;omega)
        ·intro q;rw [<-q];rfl
       ·rw [if_neg aKK,xN aKN aKU]
      rw [nx,sb] at eI
      cases ho:Lib.occAt s [10] (a+2)
      ·rw [ho,if_neg aKL] at eI eS
       obtain ⟨b,l',i1,i2⟩:=(IH (a+2) aKK h2 _ t1).2
       rw [i1,sb] at eI
       rw [eS,vI hc eI]
       exact i2
      ·have h3:a+2+1<=s.length:=by
        rcases Lib.occAt_room ho with q | q
        ·simpa using q
        ·exact absurd q aKN
       rw [ho,if_pos rfl,bQ aKK] at eI eS
       obtain ⟨b,l',i1,i2⟩:=(IH (a+2+1) aKK h3 _ (t1.mono aKK)).2
       rw [i1,sb] at eI
       rw [eS,vI hc eI]
       exact i2
    ·-- a blank
     have hx:(s.getD a 0).toNat=32\/(s.getD a 0).toNat=9\/(s.getD a 0).toNat=10\/(s.getD a 0).toNat=13:=by omega
     have np:∀(c:UInt8) (p:aB),c.toNat≠(s.getD a 0).toNat->Lib.hasPrefix (s.drop a) (c::p)=false:=λc p mJ=>by
      rw [drop_cons hc]
      show (c::p).isPrefixOf (s.getD a 0::s.drop (a+1))=false
      simp only [List.isPrefixOf,Bool.and_eq_false_iff,beq_eq_false_iff_ne]
      exact .inl (λq=>mJ (by rw [q]))
     have q1:Lib.occAt s [63,62] a=false:=np 63 [62] (by show 63≠_;omega)
     have q2:Lib.occAt s [47,47] a=false:=np 47 [47] (by show 47≠_;omega)
     have b5:(if ((s.getD a 0).toNat:Int)=32 then some true else if ((s.getD a 0).toNat:Int)=9 then some true else if ((s.getD a 0).toNat:Int)=10 then some true else some (((s.getD a 0).toNat:Int)==13):Option Bool)=some true:=by
      split
      ·rfl
      ·split
       ·rfl
       ·split
        ·rfl
        ·rw [show (((s.getD a 0).toNat:Int)==13)=true by rw [beq_iff_eq];omega]
     have eI:=dr.eq_1 (.mk s (a:Int) l 0)
     replace eI:dr (.mk s (a:Int) l 0)=(mK s (a:Int)>>=_):=eI
     rw [pI aKK,sb,show gx (s.drop a) 0=some (s.getD a 0) from CW (j:=0) aKK,sb,b5,sb,if_pos rfl] at eI
     dsimp only at eI
     rw [bQ aKK] at eI
     have eS:=bJ.eq_1 s l true (a:Int)
     rw [if_pos aKK,if_pos rfl,Ap aKN aKN aKK aKK,sb,q1,if_neg aKL,Ap aKN aKN aKK aKK,sb,q2,if_neg aKL,eC hc] at eS
     replace eS:_=((if ((s.getD a 0).toNat:Int)=32 then some true else if ((s.getD a 0).toNat:Int)=9 then some true else if ((s.getD a 0).toNat:Int)=10 then some true else some (((s.getD a 0).toNat:Int)==13):Option Bool)>>=_):=eS
     rw [b5,sb,if_pos rfl,bQ aKK] at eS
     rw [eS,vI hc eI]
     exact (IH (a+1) aKK aKK _ (h.mono aKK)).1
   ·obtain ⟨b,l',i1,i2,i3,i4,i5⟩:=Z3 hs hc h
    refine ⟨b,l',i4,?_⟩
    rcases i5 with i5 | ⟨i5,i6⟩
    ·rw [i5];exact (IH b i1 i2 l' i3).1
    ·subst i5
     rw [i6,Z4]
     exact ⟨_,_,_,rfl,.inl ⟨rfl,rfl,i3⟩⟩
  ·obtain rfl:a=s.length:=by omega
   have eS:∀b:Bool,bJ s l b (s.length:Int)=some (.inl l):=λb=>by rw [bJ,if_neg aKK]
   have fin:alB s (some (.inl l)) (fV s s (s.length:Int) 0 l):=by rw [Z4];exact ⟨_,_,_,rfl,.inl ⟨rfl,rfl,h⟩⟩
   refine ⟨by rw [eS];exact fin,s.length,l,?_,by rw [eS];exact fin⟩
   have hI:=cR.eq_1 (.mk s (s.length:Int) l 0)
   replace hI:cR (.mk s (s.length:Int) l 0)=(mK s (s.length:Int)>>=_):=hI
   rw [pI aKK,sb,List.drop_length,show m64 [] [60,63]=some (-1) from rfl,sb,if_pos aKL,sb,if_neg aKN,sb] at hI
   dsimp only at hI
   rw [if_pos rfl] at hI
   exact hI
theorem Y9 (s:aB):∃(l:List af) (k p:Int),x7 s=some (l,k,p)/\xX s=some (l,k,p)/\(k=0->p=0/\∀e:Int,0<=e->Tk l e):=by
 unfold x7 xX
 rw [sb]
 by_cases h4:(s.length:Int)>4000
 ·rw [if_pos h4,if_pos h4,sb]
  exact ⟨_,_,_,rfl,rfl,λq=>absurd q aKL⟩
 ·rw [if_neg h4,if_neg h4,sb,sb]
  obtain ⟨b,l',i1,p,k,l,i2,i3⟩:=(aA3 (s:=s) aKK s.length 0 aKK aKK [] ⟨by simp,by simp,by simp,by simp,by simp⟩).2
  replace i1:cR (.mk s 0 [] 0)=some (.mk s (b:Int) l' 0):=i1
  rw [i1,sb]
  show ∃(l:List af) (k p:Int),_/\(fV s s (b:Int) 0 l'>>=_)=_/\_
  rw [i2,sb]
  rcases i3 with ⟨rfl,i3,i4⟩ | ⟨i3,i4⟩
  ·replace i3:bJ s [] false 0=_:=i3
   rw [i3,sb]
   dsimp only
   rw [if_pos rfl]
   exact ⟨_,_,_,rfl,rfl,λ_=>⟨rfl,λe he=>⟨by have:=i4.len;omega,he,i4.at0,i4.txt,i4.nam,i4.mrk⟩⟩⟩
  ·replace i4:bJ s [] false 0=_:=i4
   rw [i4,sb]
   dsimp only
   rw [if_neg i3]
   exact ⟨_,_,_,rfl,rfl,λq=>absurd q i3⟩
set_option maxRecDepth 100000
def iH (y6:Int) (s7:aB):Option (aB):=
 (if y6>0 then
 sF ([UInt8.ofNat (IntKind.u8.wrap (bq (48+(y6.tmod 10)))).toNat]:List UInt8) s7>>=λs11=>
 iH (bq (y6.tdiv 10)) s11
 else
 some s7)
partial_fixpoint
def iZ (a0:Int):Option (aB):=
 (if a0<=0 then
 some [109,48]
 else
 (
 iH a0 []
 :Option (aB))>>=λs2=>
 sF [109] s2>>=λs15=>
 some s15)
theorem wA {a0:Int} {r:aB} (h:iZ a0=some r):sg6 114 a0 r:=by
 refine eT Tryz.func114 ?_
 unfold iZ at h
 refine .d (.d (.d (sD h (λlA h=>?_) (λlA h=>?_))))
 exact .d (eS h)
 refine .d ?_
 obtain ⟨o3,h,hk5⟩:=bd h
 refine .cut (λσ η=>∃s2,s2=o3/\σ=[(3,.str s2)]/\η=[]) ?_ ?_
 refine le (iH.partial_correctness  (motive:=λy6 s7 o13=>o3=o13->aQ _ _ [(0,.int .i64 y6),(3,.str s7)] []) ?_ a0 [] o3 h rfl) (tk [] ⟨.i,.s,⟨⟩⟩ ⟨⟩)
 intro F9 ih8 y6 s7 o13 h aFD
 subst aFD
 refine aQ.round (.d (.d (sD h (λlH h=>?_) (λlH h=>?_))))
 exact .d ⟨by decide,row cB ([UInt8.ofNat (IntKind.u8.wrap (bq (48+(y6.tmod 10)))).toNat]:List UInt8),dX cB ([UInt8.ofNat (IntKind.u8.wrap (bq (48+(y6.tmod 10)))).toNat]:List UInt8) rfl (Bg (FJ _) ⟨.same _,trivial⟩ trivial),rfl,([UInt8.ofNat (IntKind.u8.wrap (bq (48+(y6.tmod 10)))).toNat]:List UInt8),rfl,ow bb rfl,(bk h λs11 uw h=>⟨mM uw,s11,mN uw,by decide,(lg (ih8 _ _ _ h rfl) (tk [] ⟨.i,.s,⟨⟩⟩ ⟨⟩))⟩)⟩
 exact ct ⟨_,si h,rfl,rfl⟩ (tk [] ⟨.s,⟨⟩⟩ ⟨⟩)
 rintro _ _ ⟨s2,rfl,rfl,rfl⟩
 replace h:=hk5
 exact .d (bk h λs15 ZL h=>⟨mM ZL,s15,mN ZL,(eS h)⟩)
mutual
def gZ (a0:List ae) (a1:Int):Option (Int×(List ae)):=
 (
 fW a0 a0 a1 0
 :Option (Int×(List ae)))>>=λ(y1,l2)=>
 some (y1,l2)
partial_fixpoint
def fW (a0:List ae) (l8:List ae) (jg:Int) (ui:Int):Option (Int×(List ae)):=
 (if ui<(a0.length:Int) then
 idx l8 ui>>=λwI=>
 iZ (bq ((bq (jg+1))+1))>>=λDA=>
 gZ wI.ah (bq ((bq ((bq (jg+1))+1))+1))>>=λ(v25,v26)=>
 fW a0 (l8.set ui.toNat (ae.mk jg (bq (jg+1)) DA v26)) v25 (bq (ui+1))
 else
 some (jg,l8))
partial_fixpoint
end
def Z5 (a0:List ae) (a1:Int) (r:Int×(List ae)):Prop:=∀g1000:Nat,∀eK:Nat,∀gX:Nat->List PV,DR ae.D eK gX a0->ACall Tryz.prog 55 [.own 0 g1000 0 eK,.int .i64 a1] [.row g1000 4 eK 29 gX] (λres h=>∃F0:Nat->List PV,DR ae.D eK F0 r.2/\res=.int .i64 r.1/\h=[.row g1000 4 eK 29 F0])
inductive iz:(List ae)->(List ae)->Int->Int->(Int×(List ae))->Prop
 | mk (G55:(List ae)->Int->Option (Int×(List ae))) (aHB:∀a0 a1 r,G55 a0 a1=some r->Z5 a0 a1 r) (qi:(List ae)->(List ae)->Int->Int->Option (Int×(List ae))) (K5:∀a0 l8 jg ui o,qi a0 l8 jg ui=some o->iz a0 l8 jg ui o) (a0:List ae) (l8:List ae) (jg:Int) (ui:Int) (o:Int×(List ae)) (h:(
 (if ui<(a0.length:Int) then
 idx l8 ui>>=λwI=>
 iZ (bq ((bq (jg+1))+1))>>=λDA=>
 G55 wI.ah (bq ((bq ((bq (jg+1))+1))+1))>>=λ(v25,v26)=>
 qi a0 (l8.set ui.toNat (ae.mk jg (bq (jg+1)) DA v26)) v25 (bq (ui+1))
 else
 some (jg,l8))
 )=some o):iz a0 l8 jg ui o
theorem zs:(∀a0 a1 r,gZ a0 a1=some r->Z5 a0 a1 r)/\(∀a0 l8 jg ui o,fW a0 l8 jg ui=some o->iz a0 l8 jg ui o):=by
 refine gZ.mutual_partial_correctness Z5 iz ?_ ?_
 intro _ aFE a0 a1 r h g1000 eK gX iR
 obtain rfl:=iR.len
 refine eT Tryz.func55 ?_
 refine .d ?_
 obtain ⟨o5,h,hk7⟩:=bd h
 refine .cut (λσ η=>∃y1,∃l2,∃f3:Nat->List PV,DR ae.D a0.length f3 l2/\(y1,l2)=o5/\σ=[(1,.int .i64 y1)]/\η=[.row g1000 4 a0.length 29 f3]) ?_ ?_
 refine .d ?_
 have aFF:=aFE _ _ _ _ _ h
 refine le (iz.rec (motive:=λp34 l8 jg ui o32 _=>∀f9:Nat->List PV,DR ae.D a0.length f9 l8->a0=p34->o5=o32->aQ _ _ [(0,.own 0 g1000 0 a0.length),(1,.int .i64 jg),(5,.int .i64 ui)] [.row g1000 4 a0.length 29 f9]) ?_ aFF gX iR rfl rfl) (tk [0] ⟨.oe,.i,.i,⟨⟩⟩ ⟨(odd iR),⟨⟩⟩)
 intro _ aFG _ _ p34 l8 jg ui o32 h aFH f9 d10 alC aFI
 subst alC
 subst aFI
 refine aQ.round (.d (.d ⟨rfl,(sD h (λrD h=>?_) (λrD h=>?_))⟩))
 refine .d (.d (bk h λwI uG h=>?_))
 obtain ⟨F19,f20,e22,d21⟩:=ae.af0 (DR.idx d10 uG)
 refine ⟨rfl,DR.bd d10 uG,_,aHJ _,rfl,rfl,_,(dV f9 ui.toNat [.int .i64 jg,.int .i64 wI.aP,.str wI.aq,.dY 4 wI.ah.length 29 f20 F19]),e22,alq ⟨.same _,.same _,.same _,.same _,trivial⟩,(.d (.d ⟨rfl,DR.bd d10 uG,_,aHJ _,rfl,rfl,_,(dV f9 ui.toNat [.int .i64 jg,.int .i64 (bq (jg+1)),.str wI.aq,.dY 4 wI.ah.length 29 f20 F19]),iX,PK ⟨.same _,.same _,.same _,.same _,trivial⟩,(.d (.d (bk h λDA M0 h=>(cx (wA M0) ⟨rfl,DR.bd d10 uG,_,aHJ _,rfl,rfl,_,(dV f9 ui.toNat [.int .i64 jg,.int .i64 (bq (jg+1)),.str DA,.dY 4 wI.ah.length 29 f20 F19]),iX,PK ⟨.same _,.same _,.same _,.same _,trivial⟩,?_⟩))))⟩))⟩
 refine .ex [.row g1000 4 a0.length 29 (dV f9 ui.toNat [.int .i64 jg,.int .i64 (bq (jg+1)),.str DA,.own 1 0 0 wI.ah.length]),.row 0 4 wI.ah.length 29 f20] (exs 0 3 [.int .i64 jg,.int .i64 (bq (jg+1)),.str DA,.dY 4 wI.ah.length 29 f20 F19] [.int .i64 jg,.int .i64 (bq (jg+1)),.str DA,.own 1 0 0 wI.ah.length] (dV f9 ui.toNat [.int .i64 jg,.int .i64 (bq (jg+1)),.str DA,.own 1 0 0 wI.ah.length]) (DR.lt d10 uG) iX iX PL rfl rfl rfl rfl) (.d ⟨rfl,DR.bd d10 uG,_,aHJ _,rfl,rfl,_,iX,?_⟩)
 obtain ⟨⟨v25,v26⟩,aFJ,h⟩:=bd h
 refine Sd (aFG _ _ _ aFJ _ _ _ d21) [1] ⟨(Q9 d21),⟨⟩⟩ λf28 d29=>?_
 refine .ab 0 ui.toNat 3 1 _ (λ_=>rT (DR.lt d10 uG) (d29).po) λF30=>?_
 have d31:DR ae.D a0.length (dV f9 ui.toNat [.int .i64 jg,.int .i64 (bq (jg+1)),.str DA,.dY 4 wI.ah.length 29 f28 F30]) (l8.set ui.toNat (ae.mk jg (bq (jg+1)) DA v26)):=DR.set d10 (MZ uG) (ae.bx (x:=(ae.mk jg (bq (jg+1)) DA v26)) d29:ae.D [.int .i64 jg,.int .i64 (bq (jg+1)),.str DA,.dY 4 wI.ah.length 29 f28 F30] (ae.mk jg (bq (jg+1)) DA v26))
 exact lg (aFH _ _ _ _ _ h _ d31 rfl rfl) (tk [0] ⟨.oe,.i,.i,⟨⟩⟩ ⟨(odd d31),⟨⟩⟩)
 exact ct ⟨_,_,f9,d10,si h,rfl,rfl⟩ (tk [0] ⟨.i,⟨⟩⟩ ⟨(odd d10),⟨⟩⟩)
 rintro _ _ ⟨y1,l2,f3,d4,rfl,rfl,rfl⟩
 replace h:=hk7
 refine .d ?_
 obtain rfl:=si h
 exact en [0] ⟨f3,d4,rfl,rfl⟩ .i ⟨(odd d4),⟨⟩⟩
 intro F0 F1 nK nL a0 l8 jg ui o h
 exact .mk F0 nK F1 nL a0 l8 jg ui o h
theorem C0 {a0:List ae} {a1:Int} {r:Int×(List ae)} {g1000:Nat} {eK:Nat} {gX:Nat->List PV} (h:gZ a0 a1=some r) (iR:DR ae.D eK gX a0):ACall Tryz.prog 55 [.own 0 g1000 0 eK,.int .i64 a1] [.row g1000 4 eK 29 gX] (λres h=>∃F0:Nat->List PV,DR ae.D eK F0 r.2/\res=.int .i64 r.1/\h=[.row g1000 4 eK 29 F0]):=zs.1 a0 a1 r h g1000 eK gX iR
def nf (a0:ae) (a1:Int):Option (Int×ae):=
 gZ a0.ah a1>>=λ(v1,v2)=>
 some (v1,(ae.mk a0.aj a0.aP a0.aq v2))
theorem En {a0:ae} {a1:Int} {r:Int×ae} {g1000:Nat} {eK:Nat} {gX:Nat->List PV} (h:nf a0 a1=some r) (iR:DR ae.D eK gX a0.ah):ACall Tryz.prog 21 [.agg [.int .i64 a0.aj,.int .i64 a0.aP,.str a0.aq,.own 0 g1000 0 eK],.int .i64 a1] [.row g1000 4 eK 29 gX] (λres h=>∃F0:Nat->List PV,DR ae.D eK F0 r.2.ah/\res=.int .i64 r.1/\h=[.row g1000 4 eK 29 F0]):=by
 obtain rfl:=iR.len
 refine eT Tryz.func21 ?_
 unfold nf at h
 refine .d (.d ⟨rfl,rfl,_,rfl,?_⟩)
 obtain ⟨⟨v1,v2⟩,uC,h⟩:=bd h
 refine Sd (C0 (g1000:=g1000) uC iR) [0] ⟨(Q9 iR),⟨⟩⟩ λf4 d5=>?_
 refine .d ?_
 obtain rfl:=si h
 exact en [0] ⟨f4,d5,rfl,rfl⟩ .i ⟨(odd d5),⟨⟩⟩
set_option maxRecDepth 100000
mutual
def gn (a0:List ae) (a1:Int):Option (Int):=
 ((
 fX a0 a1 0
 :Option ((Int) ⊕ Int))>>=λo2=>match o2 with
 | .inr r=>some r
 | .inl y1=>
 some y1
 )
partial_fixpoint
def fX (a0:List ae) (y5:Int) (y6:Int):Option ((Int) ⊕ Int):=
 (if y6<(a0.length:Int) then
 idx a0 y6>>=λBj=>
 (if Bj.aj=y5 then
 idx a0 y6>>=λx14=>
 (if x14.aP=(bq (y5+1)) then
 idx a0 y6>>=λwI=>
 iZ (bq ((bq (y5+1))+1))>>=λv19=>
 (if wI.aq=v19 then
 idx a0 y6>>=λx22=>
 gn x22.ah (bq ((bq ((bq (y5+1))+1))+1))>>=λv24=>
 (if v24<0 then
 some (.inr (-1))
 else
 fX a0 v24 (bq (y6+1)))
 else
 some (.inr (-1)))
 else
 some (.inr (-1)))
 else
 some (.inr (-1)))
 else
 some (.inl y5))
partial_fixpoint
end
def Z6 (a0:List ae) (a1:Int) (r:Int):Prop:=aAQ 56 a0 a1 r
inductive iA:(List ae)->Int->Int->((Int) ⊕ Int)->Prop
 | mk (G56:(List ae)->Int->Option (Int)) (aHC:∀a0 a1 r,G56 a0 a1=some r->Z6 a0 a1 r) (qj:(List ae)->Int->Int->Option ((Int) ⊕ Int)) (K6:∀a0 y5 y6 o,qj a0 y5 y6=some o->iA a0 y5 y6 o) (a0:List ae) (y5:Int) (y6:Int) (o:(Int) ⊕ Int) (h:(
 (if y6<(a0.length:Int) then
 idx a0 y6>>=λBj=>
 (if Bj.aj=y5 then
 idx a0 y6>>=λx14=>
 (if x14.aP=(bq (y5+1)) then
 idx a0 y6>>=λwI=>
 iZ (bq ((bq (y5+1))+1))>>=λv19=>
 (if wI.aq=v19 then
 idx a0 y6>>=λx22=>
 G56 x22.ah (bq ((bq ((bq (y5+1))+1))+1))>>=λv24=>
 (if v24<0 then
 some (.inr (-1))
 else
 qj a0 v24 (bq (y6+1)))
 else
 some (.inr (-1)))
 else
 some (.inr (-1)))
 else
 some (.inr (-1)))
 else
 some (.inl y5))
 )=some o):iA a0 y5 y6 o
theorem zt:(∀a0 a1 r,gn a0 a1=some r->Z6 a0 a1 r)/\(∀a0 y5 y6 o,fX a0 y5 y6=some o->iA a0 y5 y6 o):=by
 refine gn.mutual_partial_correctness Z6 iA ?_ ?_
 intro _ aFK a0 a1 r h
 refine eT Tryz.func56 ?_
 refine .d ?_
 obtain ⟨o2,h,FL⟩:=bd h
 refine .cut (λσ η=>∃y1,.inl y1=o2/\σ=[(1,.int .i64 y1)]/\η=[]) ?_ ?_
 refine .d ?_
 have aFL:=aFK _ _ _ _ h
 refine le (iA.rec (motive:=λp29 y5 y6 Se _=>a0=p29->o2=Se->aQ _ _ [(0,sl 4 ae.cells a0),(1,.int .i64 y5),(5,.int .i64 y6)] []) ?_ aFL rfl rfl) (tk [] ⟨.l,.i,.i,⟨⟩⟩ ⟨⟩)
 intro _ hG9 _ _ p29 y5 y6 Se h ih7  alD aFM
 subst alD
 subst aFM
 refine aQ.round (.d (.d (sD h (λlH h=>?_) (λlH h=>?_))))
 refine .d (.d (.d (bk h λBj uw h=>⟨bn uw,_,(ba uw).trans (ae.aO Bj),(sN h (λtU h=>?_) (λtU h=>?_))⟩)))
 refine .d ?_
 exact aJT
 refine .d (.d (.d (bk h λx14 Ht h=>⟨bn Ht,_,(ba Ht).trans (ae.aO x14),(sN h (λrD h=>?_) (λrD h=>?_))⟩)))
 refine .d ?_
 exact aJT
 refine .d (.d (.d (.float [(0,true),(1,true),(2,true),(3,true),(4,true),(5,true),(6,false),(7,true)] aKR ?_)))
 refine bk h λwI uG h=>⟨bn uG,_,(ba uG).trans (ae.aO wI),(bk h λv19 akU h=>(cx (wA akU) (sEn h (λRc h=>?_) (λRc h=>?_))))⟩
 refine .d ?_
 exact aJT
 refine .d (.d (bk h λx22 Rz h=>⟨bn Rz,_,(ba Rz).trans (ae.aO x22),(bk h λv24 aFN h=>(cx (hG9 _ _ _ aFN) (.d (sD h (λEe h=>?_) (λEe h=>?_)))))⟩))
 refine .d ?_
 exact aJT
 exact lg (ih7 _ _ _ _ h rfl rfl) (tk [] ⟨.l,.i,.i,⟨⟩⟩ ⟨⟩)
 exact aKu
 exact aJN
 exact aKf
theorem C2 {a0:List ae} {a1:Int} {r:Int} (h:gn a0 a1=some r):aAQ 56 a0 a1 r:=zt.1 a0 a1 r h
def lj (a0:ae) (a1:Int):Option (Int):=
 gn a0.ah a1>>=λv1=>
 (if v1<0 then
 some (-1)
 else
 some v1)
theorem wB {a0:ae} {a1:Int} {r:Int} (h:lj a0 a1=some r):sg7 22 a0 a1 r:=by
 refine eT Tryz.func22 ?_
 unfold lj at h
 refine .d (.d ⟨rfl,rfl,_,rfl,(bk h λv1 rA h=>(cx (C2 rA) (.d (.d (sD h (λyE h=>?_) (λyE h=>?_))))))⟩)
 exact aKv
 exact aKv
set_option maxRecDepth 100000
def jc (a0:aB):Option (Bool):=
 (if (a0.length:Int)>1048576 then
 some true
 else
 lP a0>>=λ(v2,v3)=>
 (
 j7 a0>>=λ(JZ,v18)=>
 some (JZ.aj,JZ.aP,JZ.aq,JZ.ah,v18)
 :Option (Int×Int×aB×(List ae)×Int))>>=λ(y7,y8,s9,l10,AM)=>
 kJ (ae.mk y7 y8 s9 l10) v2>>=λv22=>
 (if v22=true then
 (if AM=v3 then
 (
 nf (ae.mk y7 y8 s9 l10) 1>>=λ(MY,v34)=>
 some (v34.ah,MY)
 :Option ((List ae)×Int))>>=λ(K1,y29)=>
 lj (ae.mk y7 y8 s9 K1) 1>>=λyY=>
 (if yY<0 then
 some false
 else
 (if yY=y29 then
 (
 j7 a0>>=λ(qn,v53)=>
 some (qn.aj,qn.aP,qn.aq,qn.ah,v53)
 :Option (Int×Int×aB×(List ae)×Int))>>=λ(y42,y43,s44,l45,y48)=>
 kJ (ae.mk y42 y43 s44 l45) v2>>=λHv=>
 (if Hv=true then
 (if y48=v3 then
 (
 lj (ae.mk y7 y8 s9 K1) 1>>=λv65=>
 some v65
 :Option (Int))>>=λy61=>
 (if y61<0 then
 some false
 else
 (if y61=y29 then
 some true
 else
 some false))
 else
 some false)
 else
 some false)
 else
 some false))
 else
 some false)
 else
 some false))
theorem uj {a0:aB} {r:Bool} (h:jc a0=some r):sg3 6 a0 r:=by
 refine eT Tryz.func6 ?_
 unfold jc at h
 refine .d (.d (.d (sD h (λlA h=>?_) (λlA h=>?_))))
 exact aKo
 refine .d ?_
 obtain ⟨⟨v2,v3⟩,Sy,h⟩:=bd h
 refine alr (Cl Sy) ?_
 rintro _ _ ⟨f5,d6,rfl,rfl⟩
 refine ⟨.fv [.agg [.int .i64 v2.aj,.int .i64 v2.aP,.str v2.aq,.own 0 0 0 v2.ah.length],.int .i64 v3],[.row 0 4 v2.ah.length 29 f5],rfl,(by simp only [aHQ,aIr,shr,shd d6];rfl),rfl,_,_,rfl,ao,?_⟩
 obtain ⟨o14,h,YV⟩:=bd h
 refine .cut (λσ η=>∃y7,∃y8,∃s9,∃l10,∃AM,∃f11:Nat->List PV,DR ae.D l10.length f11 l10/\(y7,y8,s9,l10,AM)=o14/\σ=[(0,.str a0),(3,.aC 0 0 0 0),(4,.int .i64 v3),(5,.aC 2 0 0 0),(6,.int .i64 AM)]/\η=[.row 0 4 1 29 (λ_=>[.int .i64 v2.aj,.int .i64 v2.aP,.str v2.aq,.own 1 0 0 v2.ah.length]),.row 0 4 v2.ah.length 29 f5,.row 0 4 1 29 (λ_=>[.int .i64 y7,.int .i64 y8,.str s9,.own 3 0 0 l10.length]),.row 0 4 l10.length 29 f11]) ?_ ?_
 obtain ⟨⟨JZ,v18⟩,ag7,h⟩:=bd h
 refine alr (uS ag7) ?_
 rintro _ _ ⟨f20,d21,rfl,rfl⟩
 exact ⟨.fv [.agg [.int .i64 JZ.aj,.int .i64 JZ.aP,.str JZ.aq,.own 2 0 0 JZ.ah.length],.int .i64 v18],[.row 0 4 v2.ah.length 29 f5,.row 0 4 1 29 (λ_=>[.int .i64 v2.aj,.int .i64 v2.aP,.str v2.aq,.own 0 0 0 v2.ah.length]),.row 0 4 JZ.ah.length 29 f20],rfl,(by simp only [aHQ,aIr,shr,shd d21];rfl),rfl,_,_,rfl,ao,(ct ⟨_,_,_,_,_,f20,d21,si h,rfl,rfl⟩ (tk [1,0,3,2] ⟨.s,.p,.i,.p,.i,⟨⟩⟩ ⟨(nb rfl ⟨.i,.i,.s,.oe,⟨⟩⟩),(bu d6),(nb rfl ⟨.i,.i,.s,.oe,⟨⟩⟩),(bu d21),⟨⟩⟩))⟩
 rintro _ _ ⟨y7,y8,s9,l10,AM,f11,d12,rfl,rfl,rfl⟩
 replace h:=YV
 refine .d (.d ⟨rfl,_,rfl,rfl,_,rfl,(bk h λv22 aFO h=>(R9 (zQ aFO) ⟨.aI ⟨.i,.i,.s,(.rd d12),⟨⟩⟩,.aI ⟨.i,.i,.s,(.rd d6),⟨⟩⟩,⟨⟩⟩ (jj h (λRe h=>?_) (λRe h=>?_))))⟩)
 exact .t (.t (.t (.t (.d (eB h)))))
 refine .f (.f (.f (sN h (λJY h=>?_) (λJY h=>?_))))
 exact aKo
 refine .d ?_
 obtain ⟨o30,h,aFP⟩:=bd h
 refine .cut (λσ η=>∃K1,∃y29,∃f27:Nat->List PV,DR ae.D l10.length f27 K1/\(K1,y29)=o30/\σ=[(0,.str a0),(3,.aC 0 0 0 0),(4,.int .i64 v3),(5,.aC 2 0 0 0),(7,.int .i64 y29)]/\η=[.row 0 4 1 29 (λ_=>[.int .i64 v2.aj,.int .i64 v2.aP,.str v2.aq,.own 1 0 0 v2.ah.length]),.row 0 4 v2.ah.length 29 f5,.row 0 4 1 29 (λ_=>[.int .i64 y7,.int .i64 y8,.str s9,.own 3 0 0 l10.length]),.row 0 4 l10.length 29 f27]) ?_ ?_
 refine ⟨rfl,_,rfl,?_⟩
 obtain ⟨⟨MY,v34⟩,akT,h⟩:=bd h
 refine Sd (En (g1000:=0) akT d12) [3] ⟨(Q9 d12),⟨⟩⟩ λf36 d37=>?_
 exact ct ⟨_,_,f36,d37,si h,rfl,rfl⟩ (tk [0,1,2,3] ⟨.s,.p,.i,.p,.i,⟨⟩⟩ ⟨(nb rfl ⟨.i,.i,.s,.oe,⟨⟩⟩),(bu d6),(nb rfl ⟨.i,.i,.s,.oe,⟨⟩⟩),(bu d37),⟨⟩⟩)
 rintro _ _ ⟨K1,y29,f27,d28,rfl,rfl,rfl⟩
 replace h:=aFP
 refine .d (.d ⟨rfl,_,rfl,(bk h λyY UH h=>(R9 (wB UH) ⟨.aI ⟨.i,.i,.s,(.rd d28 (by first | rfl | exact d28.len | exact d28.len.symm)),⟨⟩⟩,.i,⟨⟩⟩ (.d (.d (sD h (λUI h=>?_) (λUI h=>?_))))))⟩)
 exact aKo
 refine .d (.d (sN h (λaFQ h=>?_) (λaFQ h=>?_)))
 exact aKo
 obtain ⟨o49,h,aFR⟩:=bd h
 refine .cut (λσ η=>∃y42,∃y43,∃s44,∃l45,∃y48,∃f46:Nat->List PV,DR ae.D l45.length f46 l45/\(y42,y43,s44,l45,y48)=o49/\σ=[(3,.aC 0 0 0 0),(4,.int .i64 v3),(5,.aC 2 0 0 0),(7,.int .i64 y29),(9,.aC 4 0 0 0),(10,.int .i64 y48)]/\η=[.row 0 4 1 29 (λ_=>[.int .i64 v2.aj,.int .i64 v2.aP,.str v2.aq,.own 1 0 0 v2.ah.length]),.row 0 4 v2.ah.length 29 f5,.row 0 4 1 29 (λ_=>[.int .i64 y7,.int .i64 y8,.str s9,.own 3 0 0 l10.length]),.row 0 4 l10.length 29 f27,.row 0 4 1 29 (λ_=>[.int .i64 y42,.int .i64 y43,.str s44,.own 5 0 0 l45.length]),.row 0 4 l45.length 29 f46]) ?_ ?_
 obtain ⟨⟨qn,v53⟩,L8,h⟩:=bd h
 refine alr (uS L8) ?_
 rintro _ _ ⟨f55,d56,rfl,rfl⟩
 exact ⟨.fv [.agg [.int .i64 qn.aj,.int .i64 qn.aP,.str qn.aq,.own 4 0 0 qn.ah.length],.int .i64 v53],[.row 0 4 1 29 (λ_=>[.int .i64 v2.aj,.int .i64 v2.aP,.str v2.aq,.own 1 0 0 v2.ah.length]),.row 0 4 v2.ah.length 29 f5,.row 0 4 1 29 (λ_=>[.int .i64 y7,.int .i64 y8,.str s9,.own 3 0 0 l10.length]),.row 0 4 l10.length 29 f27,.row 0 4 qn.ah.length 29 f55],rfl,(by simp only [aHQ,aIr,shr,shd d56];rfl),rfl,_,_,rfl,ao,(ct ⟨_,_,_,_,_,f55,d56,si h,rfl,rfl⟩ (tk [0,1,2,3,5,4] ⟨.p,.i,.p,.i,.p,.i,⟨⟩⟩ ⟨(nb rfl ⟨.i,.i,.s,.oe,⟨⟩⟩),(bu d6),(nb rfl ⟨.i,.i,.s,.oe,⟨⟩⟩),(bu d28),(nb rfl ⟨.i,.i,.s,.oe,⟨⟩⟩),(bu d56),⟨⟩⟩))⟩
 rintro _ _ ⟨y42,y43,s44,l45,y48,f46,d47,rfl,rfl,rfl⟩
 replace h:=aFR
 refine .d (.d ⟨rfl,_,rfl,rfl,_,rfl,(bk h λHv aik h=>(R9 (zQ aik) ⟨.aI ⟨.i,.i,.s,(.rd d47),⟨⟩⟩,.aI ⟨.i,.i,.s,(.rd d6),⟨⟩⟩,⟨⟩⟩ (jj h (λahb h=>?_) (λahb h=>?_))))⟩)
 exact .t (.t (.t (.t (.d (eB h)))))
 refine .f (.f (.f (sN h (λahc h=>?_) (λahc h=>?_))))
 exact aKo
 refine .d ?_
 obtain ⟨o62,h,aFS⟩:=bd h
 refine .cut (λσ η=>∃y61,y61=o62/\σ=[(7,.int .i64 y29),(8,.int .i64 y61)]/\η=[]) ?_ ?_
 exact ⟨rfl,_,rfl,(bk h λv65 aFT h=>(R9 (wB aFT) ⟨.aI ⟨.i,.i,.s,(.rd d28 (by first | rfl | exact d28.len | exact d28.len.symm)),⟨⟩⟩,.i,⟨⟩⟩ (ct ⟨_,si h,rfl,rfl⟩ (tk [] ⟨.i,.i,⟨⟩⟩ ⟨⟩))))⟩
 rintro _ _ ⟨y61,rfl,rfl,rfl⟩
 replace h:=aFS
 refine .d (.d (sD h (λaFU h=>?_) (λaFU h=>?_)))
 exact aKo
 refine .d (.d (sN h (λagC h=>?_) (λagC h=>?_)))
 exact aKo
 exact aKo
end Go.Am
