/- Texts of the proof, joined and shortened. -/
import Derived.Test.YtiigfbapjeefbaaGreatDoorPk12
set_option linter.unusedVariables false
set_option linter.unusedSimpArgs false
set_option maxRecDepth 10000
set_option maxHeartbeats 400000
namespace Go.Am
open Go Go.RowKit Go.Proofs
section
variable {ts:List ah} {e e':Int}
theorem L6 (H:Tk ts e) {i0:Nat} (IH:∀s,Lt ts i0 s->PC ts e e' s) (s:JS) (hs:s.Ok ts) (hp:i0<=s.pos):∃s' n m,nh (pS ts e s)=some (n,pS ts e s')/\gp (qS ts e' s)=some (m,qS ts e' s')/\s'.Ok ts/\s'.nd=true/\s.pos<=s'.pos/\
  (∀i',s'=.g i'->∃i,s=.g i/\i+2<i'/\n=m/\(wt n:Int)+8192+16384*(i:Int)+32768<=16384*(i':Int)):=by
 have l1:=Lt.w (i:=i0) hs hp [40]
 have p1:=fL (ts:=ts) s [40]
 obtain ⟨s1,n,m,g1,g2,g3⟩:=(IH _ l1).expr
 have p2:=g3.le
 have p3:=fL (ts:=ts) s1 [41]
 refine ⟨wS ts s1 [41],n,m,?_,?_,jU g3.ok _,me _ _,by omega,λi' h=>?_⟩
 ·rw [nh]
  refine aW (dN H _ hs [40]) ?_
  refine aW g1 ?_
  refine aW (dN H _ g3.ok [41]) ?_
  rfl
 ·rw [gp]
  refine aW (eM H _ hs [40]) ?_
  refine aW g2 ?_
  refine aW (eM H _ g3.ok [41]) ?_
  rfl
 ·obtain ⟨k,q1,q2,_⟩:=eV h
  obtain ⟨k1,q3,q4,q5,q6,_⟩:=g3.good k q1
  obtain ⟨k2,q7,q8,_⟩:=eV q3
  subst q5
  exact ⟨k2,q7,by omega,rfl,by omega⟩
theorem ahp (H:Tk ts e) {i0:Nat} (IH:∀s,Lt ts i0 s->PC ts e e' s):∀(N i:Nat),ts.length - i<N->i0<=i->tw ts i [105,102]=true->
  ∃s' n m,ot (pS ts e (.g (i+1)))=some (n,pS ts e s')/\fV (qS ts e' (.g i))=some (m,qS ts e' s')/\Rs ts false 0 (.g i) s' n m
 | 0,i,h,_,_=>by omega
 | N+1,i,hN,h0,h=>by
  have bc:=bU h
  have ed:(JS.g (i+1)).Ok ts:=bc
  obtain ⟨s1,c,c',g1,g2,ok1,nd1,p1,wc⟩:=L6 H IH (.g (i+1)) ed (by show i0<=i+1;omega)
  have p1:i+1<=s1.pos:=p1
  have l1:Lt ts i0 s1:=⟨ok1,nd1,λk hk=>by
   obtain ⟨k1,q1,q2,_⟩:=wc k hk
   cases q1
   omega⟩
  obtain ⟨s2,b,b',f1,f2,f3⟩:=(IH _ l1).block
  have p2:=f3.le
  have l2:Lt ts i0 s2:=Lt.rs f3 (λk hk=>aKC (l1.lt k hk))
  have pL:∀i2,s2=.g i2->i+3<i2/\c=c'/\b=b'/\(wt c:Int)+(wt b:Int)+16384*(i:Int)+49152<=16384*(i2:Int):=λi2 h2=>by
   obtain ⟨k,q1,q2,q3,q4,_⟩:=f3.good i2 h2
   obtain ⟨k1,q5,q6,q7,q8⟩:=wc k q1
   cases q5
   exact ⟨by omega,q7,q3,by omega⟩
  have eS:ot (pS ts e (.g (i+1)))=(aB (pS ts e s2) [101,108,115,101]>>=λ(ad4,SQ)=>
    (if ad4=true then
    aB SQ [105,102]>>=λ(ad5,SR)=>
    (if ad5=true then
    ot SR>>=λ(SS,ad6)=>
    cC 56 [c,b] [(ae.mk 48 0 [] ([SS]:List ae))]>>=λZV=>
    some ((ae.mk 34 0 [] ZV),ad6)
    else
    bV SR>>=λ(Ib,ad7)=>
    cC 56 [c,b] [Ib]>>=λZW=>
    some ((ae.mk 34 0 [] ZW),ad7))
    else
    some ((ae.mk 34 0 [] [c,b]),SQ))):=by
   rw [ot]
   refine aW g1 ?_
   refine (dP (a:=((pS ts e s2).fT,(pS ts e s2).fI,(pS ts e s2).aw,(pS ts e s2).av,[c,b])) ?_).trans ?_
   ·refine aW f1 ?_
    rfl
   rfl
  have eI:fV (qS ts e' (.g i))=(au (qS ts e' s2) [101,108,115,101]>>=λ(xy,Hg)=>
    (if xy=true then
    aV Hg 0 [105,102]>>=λ(HO,Hh)=>
    (if HO=true then
    fV Hh>>=λ(zV,adp)=>
    cC 56 [c',b'] [(ae.mk 48 0 [] ([zV]:List ae))]>>=λXg=>
    some ((ae.mk 34 0 [] Xg),adp)
    else
    bs Hh>>=λ(HP,Nl)=>
    cC 56 [c',b'] [HP]>>=λXh=>
    some ((ae.mk 34 0 [] Xh),Nl))
    else
    some ((ae.mk 34 0 [] [c',b']),Hg))):=by
   rw [fV]
   refine aW (DV H h) ?_
   refine aW g2 ?_
   refine (dP (a:=((qS ts e' s2).ao,(qS ts e' s2).bx,(qS ts e' s2).aw,(qS ts e' s2).av,[c',b'])) ?_).trans ?_
   ·refine aW f2 ?_
    rfl
   rfl
  rw [eS,eI]
  rcases IF (ts:=ts) s2 [101,108,115,101] with he | ⟨i2,rfl,he⟩
  ·refine ⟨s2,.mk 34 0 [] [c,b],.mk 34 0 [] [c',b'],?_,?_,Rs.node aNd f3.ok l2.nd aNc (λi' h'=>?_)⟩
   ·refine aF (ax (w:=[101,108,115,101]) H f3.ok he) ?_
    rfl
   ·refine aF (ar (w:=[101,108,115,101]) H f3.ok he) ?_
    rfl
   ·obtain ⟨r1,r2,r3,r4⟩:=pL i' h'
    subst r2;subst r3
    refine ⟨by omega,rfl,rfl,?_⟩
    rw [jk,cG]
    simp only [mg]
    omega
  ·obtain ⟨r1,r2,r3,r4⟩:=pL i2 rfl
   subst r2;subst r3
   have uV:=bU he
   have x7:(JS.g (i2+1)).Ok ts:=uV
   cases hf:tw ts (i2+1) [105,102] with
   | true=>
    obtain ⟨s3,n,m,h1,h2,h3⟩:=ahp H IH N (i2+1) aNc aNc hf
    have l3:Lt ts i0 s3:=Lt.rs h3 (λk hk=>by cases hk;omega)
    have p3:i2+1<=s3.pos:=h3.le
    refine ⟨s3,.mk 34 0 [] ([c,b]++[.mk 48 0 [] [n]]),.mk 34 0 [] ([c,b]++[.mk 48 0 [] [m]]),?_,?_,Rs.node aNd h3.ok l3.nd aNc (λi' h'=>?_)⟩
    ·refine du (cg H he) ?_
     refine du (cg H hf) ?_
     refine aW h1 ?_
     refine aW (eY (l:=[c,b]) _ aNf) ?_
     rfl
    ·refine du (bE H he) ?_
     refine du ((eZ (e':=e') H (.g (i2+1)) x7 [105,102]).trans (by rw [show tw ts (JS.g (i2+1)).pos [105,102]=true from hf])) ?_
     refine aW h2 ?_
     refine aW (eY (l:=[c,b]) _ aNf) ?_
     rfl
    ·obtain ⟨k,q1,q2,q3,q4,_⟩:=h3.good i' h'
     cases q1
     subst q3
     refine ⟨by omega,rfl,rfl,?_⟩
     rw [gU,jk,cG,cG,iI,cG]
     simp only [mg]
     omega
   | false=>
    obtain ⟨s3,n,m,h1,h2,h3⟩:=(IH _ (Lt.g (show i0<i2+1 by omega) uV)).block
    have l3:Lt ts i0 s3:=Lt.rs h3 (λk hk=>by cases hk;omega)
    have p3:i2+1<=s3.pos:=h3.le
    refine ⟨s3,.mk 34 0 [] ([c,b]++[n]),.mk 34 0 [] ([c,b]++[m]),?_,?_,Rs.node aNd h3.ok l3.nd aNc (λi' h'=>?_)⟩
    ·refine du (cg H he) ?_
     refine aF (ax (w:=[105,102]) H x7 hf) ?_
     refine aW h1 ?_
     refine aW (eY (l:=[c,b]) _ aNf) ?_
     rfl
    ·refine du (bE H he) ?_
     refine aF ((eZ (e':=e') H (.g (i2+1)) x7 [105,102]).trans (by rw [show tw ts (JS.g (i2+1)).pos [105,102]=false from hf])) ?_
     refine aW h2 ?_
     refine aW (eY (l:=[c,b]) _ aNf) ?_
     rfl
    ·obtain ⟨k,q1,q2,q3,q4,_⟩:=h3.good i' h'
     cases q1
     subst q3
     refine ⟨by omega,rfl,rfl,?_⟩
     rw [gU,jk,cG,cG]
     simp only [mg]
     omega
theorem abD (n a x:ae):cC 56 ([n]++[a]) [x]=some ([n]++([a]++[x])):=jX (b:=56) (l:=[n]++[a]) (m:=[x]) (by show (2+1)*56<=140737488355328;omega)
theorem Rv (n x:ae) (l:List ae) (h:l.length<=2):cC 56 ([n]++l) [x]=some ([n]++l++[x]):=eY _ (by rw [abL];simp only [an,mg];omega)
theorem PA (H:Tk ts e) {i:Nat} (bc:i<ts.length) (IH:∀s,Lt ts i s->PC ts e e' s):∃s' n m,nn (pS ts e (.g (i+1)))=some (n,pS ts e s')/\ky (qS ts e' (.g (i+1)))=some (m,qS ts e' s')/\Rs ts false 0 (.g i) s' n m:=by
 have hL:=H.len
 have ed:(JS.g (i+1)).Ok ts:=bc
 have l1:=Lt.w (i:=i) ed (aKQ i) [40]
 have p1:=fL (ts:=ts) (.g (i+1)) [40]
 have p1:i+1<=(wS ts (.g (i+1)) [40]).pos:=p1
 obtain ⟨s1,n,m,g1,g2,g3⟩:=(IH _ l1).expr
 have p2:=g3.le
 have o2:=jU g3.ok [97,115]
 have p3:=fL (ts:=ts) s1 [97,115]
 have d2:=me (ts:=ts) s1 [97,115]
 have o3:=qG o2 (k:=2) aNd
 have p4:=lM (ts:=ts) (wS ts s1 [97,115]) 2
 have d3:=tc (ts:=ts) (wS ts s1 [97,115]) 2
 have t1:=iK H (wS ts s1 [97,115]) 2
 have GP:∀i3,nS ts (wS ts s1 [97,115]) 2=.g i3->i+4<i3/\n=m/\(wt n:Int)+16384*(i:Int)+65536<=16384*(i3:Int):=λi3 h3=>by
  obtain ⟨k,q1,q2,_⟩:=lj h3
  obtain ⟨k1,q3,q4,_⟩:=eV q1
  obtain ⟨k2,q5,q6,q7,q8,_⟩:=g3.good k1 q3
  obtain ⟨k3,q9,q10,_⟩:=eV q5
  cases q9
  exact ⟨by omega,q7,by omega⟩
 obtain ⟨s4,lv,e1,e2,o4,p5,d4,aCu,abE⟩:∃(s4:JS) (lv:List ae),
   (aB (pS ts e (nS ts (wS ts s1 [97,115]) 2)) [61,62]>>=λ(SV,uP)=>(if SV=true then gI uP>>=λ(C9,xP)=>cC 56 ([n]++[.mk 4 0 (nT ts (wS ts s1 [97,115]) 2) []]) [C9]>>=λOz=>some (xP.fT,xP.fI,xP.aw,xP.av,Oz) else some (uP.fT,uP.fI,uP.aw,uP.av,([n]++[.mk 4 0 (nT ts (wS ts s1 [97,115]) 2) []]))))=some ((pS ts e s4).fT,(pS ts e s4).fI,(pS ts e s4).aw,(pS ts e s4).av,[n]++lv)/\
   (au (qS ts e' (nS ts (wS ts s1 [97,115]) 2)) [61,62]>>=λ(SV,uP)=>(if SV=true then cx uP>>=λ(C9,xP)=>cC 56 ([m]++[.mk 4 0 (nT ts (wS ts s1 [97,115]) 2) []]) [C9]>>=λOz=>some (xP.ao,xP.bx,xP.aw,xP.av,Oz) else some (uP.ao,uP.bx,uP.aw,uP.av,([m]++[.mk 4 0 (nT ts (wS ts s1 [97,115]) 2) []]))))=some ((qS ts e' s4).ao,(qS ts e' s4).bx,(qS ts e' s4).aw,(qS ts e' s4).av,[m]++lv)/\
   s4.Ok ts/\i<=s4.pos/\s4.nd=true/\lv.length<=2/\(∀i4,s4=.g i4->i+4<i4/\n=m/\(wt n:Int)+(wl lv:Int)+16384*(i:Int)+60000<=16384*(i4:Int)):=by
  generalize x7:nS ts (wS ts s1 [97,115]) 2=s3 at*
  generalize ht3:nT ts (wS ts s1 [97,115]) 2=t3 at*
  have hw:wl [ae.mk 4 0 t3 []]<=4001:=by rw [cG,iI,gv];omega
  rcases IF (ts:=ts) s3 [61,62] with h | ⟨i3,rfl,h⟩
  ·refine ⟨s3,[.mk 4 0 t3 []],?_,?_,o3,by omega,d3,by simp,λi4 h4=>?_⟩
   ·refine aF (ax (w:=[61,62]) H o3 h) ?_
    rfl
   ·refine aF (ar (w:=[61,62]) H o3 h) ?_
    rfl
   ·obtain ⟨q1,q2,q3⟩:=GP i4 h4
    exact ⟨q1,q2,by omega⟩
  ·have amZ:=bU h
   have hs4:(JS.g (i3+1)).Ok ts:=amZ
   have t2:=iK H (.g (i3+1)) 2
   have p6:=@lM ts (.g (i3+1)) 2
   have p6:i3+1<=(nS ts (.g (i3+1)) 2).pos:=p6
   have p4':(wS ts s1 [97,115]).pos<=i3:=p4
   have hw2:wl [ae.mk 4 0 (nT ts (.g (i3+1)) 2) []]<=4001:=by rw [cG,iI,gv];omega
   refine ⟨nS ts (.g (i3+1)) 2,[.mk 4 0 t3 []]++[.mk 4 0 (nT ts (.g (i3+1)) 2) []],?_,?_,qG hs4 aNd,by omega,tc _ _,by simp,λi4 h4=>?_⟩
   ·refine du (cg H h) ?_
    refine aW (Pw H _ hs4) ?_
    refine aW (abD _ _ _) ?_
    rfl
   ·refine du (bE H h) ?_
    refine aW (Px H _ hs4 rfl) ?_
    refine aW (abD _ _ _) ?_
    rfl
   ·obtain ⟨k,q1,q2,_⟩:=lj h4
    cases q1
    obtain ⟨q1,q2,q3⟩:=GP i3 rfl
    refine ⟨by omega,q2,?_⟩
    rw [gU]
    omega
 have o5:=jU o4 [41]
 have p7:=fL (ts:=ts) s4 [41]
 have l5:=Lt.w (i:=i) o4 p5 [41]
 obtain ⟨s5,b,b',h1,h2,h3⟩:=(IH _ l5).block
 have p8:=h3.le
 have l6:Lt ts i s5:=Lt.rs h3 (λk hk=>aKC (l5.lt k hk))
 refine ⟨s5,.mk 36 0 [] ([n]++lv++[b]),.mk 36 0 [] ([m]++lv++[b']),?_,?_,Rs.node aNd h3.ok l6.nd aNc (λi' h'=>?_)⟩
 ·rw [nn]
  refine aW (dN H _ ed [40]) ?_
  refine aW g1 ?_
  refine aW (dN H _ g3.ok [97,115]) ?_
  refine aW (Pw H _ o2) ?_
  refine aW (eY (l:=[n]) _ aNf) ?_
  refine aW e1 ?_
  refine aW (dN H _ o4 [41]) ?_
  refine aW h1 ?_
  refine aW (Rv _ _ _ aCu) ?_
  rfl
 ·rw [ky]
  refine aW (eM H _ ed [40]) ?_
  refine aW g2 ?_
  refine aW (eM H _ g3.ok [97,115]) ?_
  refine aW (Px H _ o2 d2) ?_
  refine aW (eY (l:=[m]) _ aNf) ?_
  refine aW e2 ?_
  refine aW (eM H _ o4 [41]) ?_
  refine aW h2 ?_
  refine aW (Rv _ _ _ aCu) ?_
  rfl
 ·obtain ⟨k,q1,q2,q3,q4,_⟩:=h3.good i' h'
  obtain ⟨k1,q5,q6,_⟩:=eV q1
  obtain ⟨q7,q8,q9⟩:=abE k1 q5
  subst q3;subst q8
  refine ⟨by omega,rfl,rfl,?_⟩
  rw [gU,gU,cG,cG]
  simp only [mg]
  omega
theorem am0 (H:Tk ts e) {i:Nat} (bc:i<ts.length) (IH:∀s,Lt ts i s->PC ts e e' s):∃s' n m,ou (pS ts e (.g (i+1)))=some (n,pS ts e s')/\gF (qS ts e' (.g (i+1)))=some (m,qS ts e' s')/\Rs ts false 0 (.g i) s' n m:=by
 have hL:=H.len
 have ed:(JS.g (i+1)).Ok ts:=bc
 obtain ⟨s1,b,b',g1,g2,g3⟩:=(IH _ (Lt.g (aKe i) bc)).block
 have p1:i+1<=s1.pos:=g3.le
 have l1:Lt ts i s1:=Lt.rs g3 (λk hk=>by cases hk;omega)
 have wc:∀i1,s1=.g i1->i+1<i1/\b=b'/\(wt b:Int)+16384*(i:Int)+24576<=16384*(i1:Int):=λi1 h1=>by
  obtain ⟨k,q1,q2,q3,q4,_⟩:=g3.good i1 h1
  cases q1
  exact ⟨by omega,q3,by omega⟩
 obtain ⟨s2,c,c',e1,e2,o2,d2,p2,l2,l2',pL⟩:∃(s2:JS) (c c':List ae),
   (aB (pS ts e s1) [99,97,116,99,104]>>=λ(ad8,By)=>
    (if ad8=true then
    aL By [40]>>=λad9=>
    cf ad9 3>>=λ(SW,aea)=>
    gI aea>>=λ(SX,aeb)=>
    aL aeb [41]>>=λaec=>
    bV aec>>=λ(SY,Fi)=>
    cC 56 ([b]:List ae) [(ae.mk 44 0 SW ([SX,SY]:List ae))]>>=λZ1=>
    some (Fi.fT,Fi.fI,Fi.aw,Fi.av,Z1)
    else
    some (By.fT,By.fI,By.aw,By.av,([b]:List ae))))=some ((pS ts e s2).fT,(pS ts e s2).fI,(pS ts e s2).aw,(pS ts e s2).av,[b]++c)/\
   (au (qS ts e' s1) [99,97,116,99,104]>>=λ(ND,wR)=>
    (if ND=true then
    aI wR [40]>>=λJ7=>
    bu J7 3>>=λ(Sp,adq)=>
    cx adq>>=λ(qi,adr)=>
    must (1*56<=140737488355328)>>=λ_=>
    aI adr [41]>>=λads=>
    bs ads>>=λ(HR,E2)=>
    cC 56 [qi] [HR]>>=λNF=>
    cC 56 ([b']:List ae) [(ae.mk 44 0 Sp NF)]>>=λXn=>
    some (E2.ao,E2.bx,E2.aw,E2.av,Xn)
    else
    some (wR.ao,wR.bx,wR.aw,wR.av,([b']:List ae))))=some ((qS ts e' s2).ao,(qS ts e' s2).bx,(qS ts e' s2).aw,(qS ts e' s2).av,[b']++c')/\
   s2.Ok ts/\s2.nd=true/\i+1<=s2.pos/\c.length=c'.length/\c.length<=1/\(∀i2,s2=.g i2->i+1<i2/\b=b'/\c=c'/\(wt b:Int)+(wl c:Int)+16384*(i:Int)+24576<=16384*(i2:Int)):=by
  rcases IF (ts:=ts) s1 [99,97,116,99,104] with h | ⟨i1,rfl,h⟩
  ·refine ⟨s1,[],[],?_,?_,g3.ok,l1.nd,p1,rfl,by simp,λi2 h2=>?_⟩
   ·refine aF (ax (w:=[99,97,116,99,104]) H g3.ok h) ?_
    rfl
   ·refine aF (ar (w:=[99,97,116,99,104]) H g3.ok h) ?_
    rfl
   ·obtain ⟨q1,q2,q3⟩:=wc i2 h2
    exact ⟨q1,q2,rfl,by rw [gv];omega⟩
  ·have Aq:=bU h
   have nJ:(JS.g (i1+1)).Ok ts:=Aq
   have p1:i+1<=i1:=p1
   have a1:=jU nJ [40]
   have a2:=@fL ts (.g (i1+1)) [40]
   have a2:i1+1<=(wS ts (.g (i1+1)) [40]).pos:=a2
   have a3:=qG a1 (k:=3) aNd
   have a4:=lM (ts:=ts) (wS ts (.g (i1+1)) [40]) 3
   have a5:=qG a3 (k:=2) aNd
   have a6:=lM (ts:=ts) (nS ts (wS ts (.g (i1+1)) [40]) 3) 2
   have t1:=iK H (wS ts (.g (i1+1)) [40]) 3
   have t2:=iK H (nS ts (wS ts (.g (i1+1)) [40]) 3) 2
   have a8:=fL (ts:=ts) (nS ts (nS ts (wS ts (.g (i1+1)) [40]) 3) 2) [41]
   have l3:=Lt.w (i:=i) a5 aNc [41]
   obtain ⟨s2,x,x',f1,f2,f3⟩:=(IH _ l3).block
   have a9:=f3.le
   have l4:Lt ts i s2:=Lt.rs f3 (λk hk=>aKC (l3.lt k hk))
   refine ⟨s2,[.mk 44 0 (nT ts (wS ts (.g (i1+1)) [40]) 3) [.mk 4 0 (nT ts (nS ts (wS ts (.g (i1+1)) [40]) 3) 2) [],x]],[.mk 44 0 (nT ts (wS ts (.g (i1+1)) [40]) 3) ([.mk 4 0 (nT ts (nS ts (wS ts (.g (i1+1)) [40]) 3) 2) []]++[x'])],?_,?_,f3.ok,l4.nd,by omega,rfl,by simp,λi2 h2=>?_⟩
   ·refine du (cg H h) ?_
    refine aW (dN H _ nJ [40]) ?_
    refine aW (nW H _ a1 3) ?_
    refine aW (Pw H _ a3) ?_
    refine aW (dN H _ a5 [41]) ?_
    refine aW f1 ?_
    refine aW (eY (l:=[b]) _ aNf) ?_
    rfl
   ·refine du (bE H h) ?_
    refine aW (eM H _ nJ [40]) ?_
    refine aW (nC H _ a1 (me _ _) 3 (.inr rfl)) ?_
    refine aW (Px H _ a3 (tc _ _)) ?_
    refine (dP (a:=()) (if_pos aNd)).trans ?_
    refine aW (eM H _ a5 [41]) ?_
    refine aW f2 ?_
    refine aW (eY (l:=[_]) _ aNf) ?_
    refine aW (eY (l:=[b']) _ aNf) ?_
    rfl
   ·obtain ⟨k,q1,q2,q3,q4,_⟩:=f3.good i2 h2
    obtain ⟨k1,q5,q6,_⟩:=eV q1
    obtain ⟨k2,q7,q8,_⟩:=lj q5
    obtain ⟨k3,q9,q10,_⟩:=lj q7
    obtain ⟨k4,q11,q12,_⟩:=eV q9
    cases q11
    obtain ⟨r1,r2,r3⟩:=wc i1 rfl
    subst q3
    refine ⟨by omega,r2,rfl,?_⟩
    rw [cG,iI,jk,cG,iI,gv]
    omega
 have fin:∀(s':JS) (l l':List ae),s'.Ok ts->s'.nd=true->i<=s'.pos->(∀i',s'=.g i'->i+1<i'/\l=l'/\(wl l:Int)+8192+16384*(i:Int)<=16384*(i':Int))->Rs ts false 0 (.g i) s' (.mk 43 0 [] l) (.mk 43 0 [] l'):=λs' l l' a1 a2 a3 a4=>
  Rs.node aNd a1 a2 a3 (λi' h'=>by
   obtain ⟨q1,q2,q3⟩:=a4 i' h'
   exact ⟨q1,rfl,q2,by simp only [mg];omega⟩)
 rcases IF (ts:=ts) s2 [102,105,110,97,108,108,121] with h | ⟨i2,rfl,h⟩
 ·by_cases hl:c.length=0
  ·have hc:c=[]:=aLt.1 hl
   have hc':c'=[]:=aLt.1 aNc
   subst hc;subst hc'
   refine ⟨MM s2,.mk 0 0 [] [],.mk 43 0 [] ([b']++[]),?_,?_,⟨Av o2,by rw [rC];show i<=s2.pos;omega,λi' h'=>(L4 h').elim,λj hj=>by have:=DW s2;rw [hj] at this;cases this⟩⟩
   ·rw [ou]
    refine aW g1 ?_
    refine aW e1 ?_
    refine aF (ax (w:=[102,105,110,97,108,108,121]) H o2 h) ?_
    refine mN (show (([b]++[]).length:Int)=1 from rfl) ?_
    refine aW (rA H _ o2) ?_
    rfl
   ·rw [gF]
    refine aW g2 ?_
    refine aW e2 ?_
    refine aF (ar (w:=[102,105,110,97,108,108,121]) H o2 h) ?_
    refine mN (show (([b']++[]).length:Int)=1 from rfl) ?_
    rw [Rw]
  ·refine ⟨s2,.mk 43 0 [] ([b]++c),.mk 43 0 [] ([b']++c'),?_,?_,fin s2 _ _ o2 d2 aNc (λi' h'=>?_)⟩
   ·rw [ou]
    refine aW g1 ?_
    refine aW e1 ?_
    refine aF (ax (w:=[102,105,110,97,108,108,121]) H o2 h) ?_
    refine bQ (show ¬(([b]++c).length:Int)=1 by simp only [abL,an,mg];omega) ?_
    rfl
   ·rw [gF]
    refine aW g2 ?_
    refine aW e2 ?_
    refine aF (ar (w:=[102,105,110,97,108,108,121]) H o2 h) ?_
    refine bQ (show ¬(([b']++c').length:Int)=1 by simp only [abL,an,mg];omega) ?_
    rfl
   ·obtain ⟨r1,r2,r3,r4⟩:=pL i' h'
    subst r2;subst r3
    refine ⟨by omega,rfl,?_⟩
    rw [gU,cG]
    omega
 ·have uV:=bU h
  have x7:(JS.g (i2+1)).Ok ts:=uV
  have p2:i+1<=i2:=p2
  obtain ⟨s3,x,x',f1,f2,f3⟩:=(IH _ (Lt.g (show i<i2+1 by omega) uV)).block
  have p3:i2+1<=s3.pos:=f3.le
  have l3:Lt ts i s3:=Lt.rs f3 (λk hk=>by cases hk;omega)
  refine ⟨s3,.mk 43 0 [] ([b]++c++[.mk 45 0 [] [x]]),.mk 43 0 [] ([b']++c'++[.mk 45 0 [] [x']]),?_,?_,fin s3 _ _ f3.ok l3.nd aNc (λi' h'=>?_)⟩
  ·rw [ou]
   refine aW g1 ?_
   refine aW e1 ?_
   refine du (cg H h) ?_
   refine aW f1 ?_
   refine aW (Rv _ _ _ aNc) ?_
   refine bQ (show ¬(([b]++c++[ae.mk 45 0 [] [x]]).length:Int)=1 by simp only [abL,an,mg];omega) ?_
   rfl
  ·rw [gF]
   refine aW g2 ?_
   refine aW e2 ?_
   refine du (bE H h) ?_
   refine aW f2 ?_
   refine aW (Rv _ _ _ aNc) ?_
   refine bQ (show ¬(([b']++c'++[ae.mk 45 0 [] [x']]).length:Int)=1 by simp only [abL,an,mg];omega) ?_
   rfl
  ·obtain ⟨k,q1,q2,q3,q4,_⟩:=f3.good i' h'
   cases q1
   obtain ⟨r1,r2,r3,r4⟩:=pL i2 rfl
   subst r2;subst r3;subst q3
   refine ⟨by omega,rfl,?_⟩
   rw [gU,gU,cG,cG,iI,cG]
   simp only [mg]
   omega
end
set_option maxRecDepth 10000
set_option maxHeartbeats 400000
section
variable {ts:List ah} {e e':Int}
theorem st0 {i:Nat} {k:Int} {s:JS} (hk:k≠7) (h:s.Ok ts) (hd:s.nd=true) (hle:i<=s.pos) (hg:∀i',s=.g i'->i+1<i'):Rs ts false 0 (.g i) s (.mk k 0 [] []) (.mk k 0 [] []):=
 Rs.node hk h hd hle (λi' h'=>⟨hg i' h',rfl,rfl,by have:=hg i' h';rw [gv];simp only [mg];omega⟩)
theorem st1 {i i1 D:Nat} {v:Bool} {k:Int} {s:JS} {n m:ae} (hk:k≠7) (h:Rs ts v D (.g i1) s n m) (hi:i<=i1) (c:aD):Rs ts false 0 (.g i) (wS ts s c) (.mk k 0 [] [n]) (.mk k 0 [] [m]):=
 Rs.node hk (jU h.ok _) (me _ _) (by have:=fL (ts:=ts) s c;have q:i1<=s.pos:=h.le;omega) (λi' h'=>by
  obtain ⟨k1,q1,q2,_⟩:=eV h'
  obtain ⟨k2,q3,q4,q5,q6,_⟩:=h.good k1 q1
  cases q3
  subst q5
  refine ⟨by omega,rfl,rfl,?_⟩
  rw [cG]
  simp only [mg]
  omega)
theorem oB (H:Tk ts e) {s s':JS} {m:ae} (k:Int) (h:a7 (qS ts e' s)=some (m,qS ts e' s')) (ok:s'.Ok ts):dE (qS ts e' s) k=some (.mk k 0 [] [m],qS ts e' (wS ts s' [59])):=by
 rw [dE]
 refine aW h ?_
 refine aW (eM H _ ok [59]) ?_
 rfl
theorem abG (H:Tk ts e) {i:Nat} (hi:i<=ts.length):bu (qS ts e' (.g i)) 5=if kd ts i=5 then some (tx ts i,qS ts e' (.g (i+1))) else some ([],qS ts e' (.b i)):=by
 have hs:(JS.g i).Ok ts:=hi
 unfold bu
 rw [bP H _ hs,sb]
 dsimp only
 rw [if_neg aNz]
 show (if kd ts i=5 then _ else _)=_
 by_cases h:kd ts i=5
 ·rw [if_pos h,if_pos h,if_neg aNd,if_neg aNd,pK H hi]
  rfl
 ·rw [if_neg h,if_neg h]
  rfl
theorem aCv (H:Tk ts e) {i:Nat} (hi:i<=ts.length) {m:ae} (h1:aH (qS ts e' (.g i))=some (m,qS ts e' (.b i))) (x1:tw ts i [33]=false) (x2:tw ts i [45]=false):∃m,a7 (qS ts e' (.g i))=some (m,qS ts e' (.b i)):=by
 have hs:(JS.g i).Ok ts:=hi
 have hb:(JS.b i).Ok ts:=hi
 have h2:bW (qS ts e' (.g i)) false=some (m,qS ts e' (.b i)):=by
  rw [bW]
  refine aW h1 ?_
  refine I9.run (x:=_) (.inr ?_)
  rw [aG]
  simp only [iL,if_true]
 have h3:cy (qS ts e' (.g i))=some (m,qS ts e' (.b i)):=by
  rw [cy]
  refine aF (ar (w:=[33]) H hs x1) ?_
  refine aF (ar (w:=[45]) H hs x2) ?_
  refine aW h2 ?_
  rfl
 have h4:∀k lv:Nat,lv+k=11->bn (qS ts e' (.g i)) lv=some (m,qS ts e' (.b i)):=by
  intro k
  induction k with
  | zero=>
   intro lv hl
   obtain rfl:lv=11:=hl
   rw [bn,if_pos aNd]
   refine aW h3 ?_
   rfl
  | succ k ih=>
   intro lv hl
   rw [bn,if_neg aNc,bN aNc]
   refine aW (ih (lv+1) aNc) ?_
   refine I9.run (x:=_) (.inr ?_)
   rw [bI]
   simp only [iL,if_true]
 have h5:dF (qS ts e' (.g i))=some (m,qS ts e' (.b i)):=by
  rw [dF]
  refine aW (h4 5 6 rfl) ?_
  refine J9.run (x:=_) ?_
  rw [bR,dc]
  refine aF (ar (w:=[38,38]) H hb rfl) ?_
  rfl
 have h6:eN (qS ts e' (.g i))=some (m,qS ts e' (.b i)):=by
  rw [eN]
  refine aW h5 ?_
  refine J9.run (x:=_) ?_
  rw [ca,dc]
  refine aF (ar (w:=[124,124]) H hb rfl) ?_
  rfl
 have h7:bY (qS ts e' (.g i))=some (m,qS ts e' (.b i)):=by
  rw [bY]
  refine aW h6 ?_
  refine aF (ar (w:=[63,63]) H hb rfl) ?_
  rfl
 have h8:dj (qS ts e' (.g i))=some (m,qS ts e' (.b i)):=by
  rw [dj]
  refine aW h7 ?_
  refine aF (ar (w:=[63]) H hb rfl) ?_
  rfl
 refine ⟨m,?_⟩
 rw [a7]
 refine aW h8 ?_
 refine mN (show (qS ts e' (.b i)).av=true from rfl) ?_
 rfl
theorem PB (H:Tk ts e) {i:Nat} (hi:i<=ts.length) (IH:∀s,Lt ts i s->PC ts e e' s) (hw:tw ts i [119,104,105,108,101]=true):C1 ts e e' false 0 (.g i) bb aR:=by
 have hs:(JS.g i).Ok ts:=hi
 have hL:=H.len
 have bc:=bU hw
 obtain ⟨k4,k5,k2,k1⟩:=lh hw
 have ed:(JS.g (i+1)).Ok ts:=bc
 obtain ⟨s1,c,c',g1,g2,ok1,nd1,p1,wc⟩:=L6 H IH (.g (i+1)) ed (aKQ i)
 have p1:i+1<=s1.pos:=p1
 have l1:Lt ts i s1:=⟨ok1,nd1,λk hk=>by
  obtain ⟨k1,q1,q2,_⟩:=wc k hk
  cases q1
  omega⟩
 obtain ⟨s2,b,b',f1,f2,f3⟩:=(IH _ l1).block
 have p2:=f3.le
 have l2:Lt ts i s2:=Lt.rs f3 (λk hk=>aKC (l1.lt k hk))
 refine ⟨s2,.mk 35 0 [] [c,b],.mk 35 0 [] [c',b'],?_,?_,?_⟩
 ·rw [bb]
  refine aF ((dG H _ hs 1 [] aNd).trans aNe) ?_
  refine aF ((dG H _ hs 6 [123] aNd).trans aNg) ?_
  refine aF (ax H hs (w:=[105,102]) (ay hw aNd)) ?_
  refine du (cg H hw) ?_
  refine aW g1 ?_
  refine aW f1 ?_
  rfl
 ·rw [aR]
  refine (dP (bP H _ hs)).trans ?_
  refine bQ qg ?_
  refine bQ (show ¬(tok ts i).ai=1 from k1) ?_
  refine aF ((eZ (e':=e') H (.g i) hs [123]).trans aNi) ?_
  refine aF (ar H hs (w:=[101,99,104,111]) (ay hw aNd)) ?_
  refine aF ((eZ (e':=e') H (.g i) hs [105,102]).trans aNj) ?_
  refine du (bE H hw) ?_
  refine aW g2 ?_
  refine aW f2 ?_
  rfl
 ·refine Rs.node aNd f3.ok l2.nd aNc (λi' h'=>?_)
  obtain ⟨k,q1,q2,q3,q4,_⟩:=f3.good i' h'
  obtain ⟨k1,q5,q6,q7,q8⟩:=wc k q1
  cases q5
  subst q3;subst q7
  refine ⟨by omega,rfl,rfl,?_⟩
  rw [jk,cG]
  simp only [mg]
  omega
theorem afg (H:Tk ts e) {i:Nat} (hi:i<=ts.length) (IH:∀s,Lt ts i s->PC ts e e' s) (hw:tw ts i [105,102]=true):C1 ts e e' false 0 (.g i) bb aR:=by
 have hs:(JS.g i).Ok ts:=hi
 have hL:=H.len
 have bc:=bU hw
 obtain ⟨k4,k5,k2,k1⟩:=lh hw
 have ed:(JS.g (i+1)).Ok ts:=bc
 obtain ⟨s',n,m,g1,g2,g3⟩:=ahp H IH _ i (aKe _) (As i) hw
 refine ⟨s',n,m,?_,?_,g3⟩
 ·rw [bb]
  refine aF ((dG H _ hs 1 [] aNd).trans aNe) ?_
  refine aF ((dG H _ hs 6 [123] aNd).trans aNg) ?_
  refine du (cg H hw) ?_
  refine aW g1 ?_
  rfl
 ·rw [aR]
  refine (dP (bP H _ hs)).trans ?_
  refine bQ qg ?_
  refine bQ (show ¬(tok ts i).ai=1 from k1) ?_
  refine aF ((eZ (e':=e') H (.g i) hs [123]).trans aNi) ?_
  refine aF (ar H hs (w:=[101,99,104,111]) (ay hw aNd)) ?_
  refine du ((eZ (e':=e') H (.g i) hs [105,102]).trans (by rw [show tw ts (JS.g i).pos [105,102]=true from hw])) ?_
  refine aW g2 ?_
  rfl
theorem IJ (H:Tk ts e) {i:Nat} (hi:i<=ts.length) (IH:∀s,Lt ts i s->PC ts e e' s) (hw:tw ts i [102,111,114,101,97,99,104]=true):C1 ts e e' false 0 (.g i) bb aR:=by
 have hs:(JS.g i).Ok ts:=hi
 have hL:=H.len
 have bc:=bU hw
 obtain ⟨k4,k5,k2,k1⟩:=lh hw
 have ed:(JS.g (i+1)).Ok ts:=bc
 obtain ⟨s',n,m,g1,g2,g3⟩:=PA H bc IH
 refine ⟨s',n,m,?_,?_,g3⟩
 ·rw [bb]
  refine aF ((dG H _ hs 1 [] aNd).trans aNe) ?_
  refine aF ((dG H _ hs 6 [123] aNd).trans aNg) ?_
  refine aF (ax H hs (w:=[105,102]) (ay hw aNd)) ?_
  refine aF (ax H hs (w:=[119,104,105,108,101]) (ay hw aNd)) ?_
  refine du (cg H hw) ?_
  refine aW g1 ?_
  rfl
 ·rw [aR]
  refine (dP (bP H _ hs)).trans ?_
  refine bQ qg ?_
  refine bQ (show ¬(tok ts i).ai=1 from k1) ?_
  refine aF ((eZ (e':=e') H (.g i) hs [123]).trans aNi) ?_
  refine aF (ar H hs (w:=[101,99,104,111]) (ay hw aNd)) ?_
  refine aF ((eZ (e':=e') H (.g i) hs [105,102]).trans aNj) ?_
  refine aF (ar H hs (w:=[119,104,105,108,101]) (ay hw aNd)) ?_
  refine du (bE H hw) ?_
  refine aW g2 ?_
  rfl
theorem abH (H:Tk ts e) {i:Nat} (hi:i<=ts.length) (IH:∀s,Lt ts i s->PC ts e e' s) (hw:tw ts i [116,114,121]=true):C1 ts e e' false 0 (.g i) bb aR:=by
 have hs:(JS.g i).Ok ts:=hi
 have hL:=H.len
 have bc:=bU hw
 obtain ⟨k4,k5,k2,k1⟩:=lh hw
 have ed:(JS.g (i+1)).Ok ts:=bc
 obtain ⟨s',n,m,g1,g2,g3⟩:=am0 H bc IH
 refine ⟨s',n,m,?_,?_,g3⟩
 ·rw [bb]
  refine aF ((dG H _ hs 1 [] aNd).trans aNe) ?_
  refine aF ((dG H _ hs 6 [123] aNd).trans aNg) ?_
  refine aF (ax H hs (w:=[105,102]) (ay hw aNd)) ?_
  refine aF (ax H hs (w:=[119,104,105,108,101]) (ay hw aNd)) ?_
  refine aF (ax H hs (w:=[102,111,114,101,97,99,104]) (ay hw aNd)) ?_
  refine du (cg H hw) ?_
  refine aW g1 ?_
  rfl
 ·rw [aR]
  refine (dP (bP H _ hs)).trans ?_
  refine bQ qg ?_
  refine bQ (show ¬(tok ts i).ai=1 from k1) ?_
  refine aF ((eZ (e':=e') H (.g i) hs [123]).trans aNi) ?_
  refine aF (ar H hs (w:=[101,99,104,111]) (ay hw aNd)) ?_
  refine aF ((eZ (e':=e') H (.g i) hs [105,102]).trans aNj) ?_
  refine aF (ar H hs (w:=[119,104,105,108,101]) (ay hw aNd)) ?_
  refine aF (ar H hs (w:=[102,111,114,101,97,99,104]) (ay hw aNd)) ?_
  refine aF (ar H hs (w:=[98,114,101,97,107]) (ay hw aNd)) ?_
  refine aF (ar H hs (w:=[99,111,110,116,105,110,117,101]) (ay hw aNd)) ?_
  refine aF (ar H hs (w:=[114,101,116,117,114,110]) (ay hw aNd)) ?_
  refine aF (ar H hs (w:=[103,108,111,98,97,108]) (ay hw aNd)) ?_
  refine aF (ar H hs (w:=[117,110,115,101,116]) (ay hw aNd)) ?_
  refine aF (ar H hs (w:=[116,104,114,111,119]) (ay hw aNd)) ?_
  refine du (bE H hw) ?_
  refine aW g2 ?_
  rfl
theorem TN (H:Tk ts e) {i:Nat} (hi:i<=ts.length) (IH:∀s,Lt ts i s->PC ts e e' s) (hw:tw ts i [101,99,104,111]=true):C1 ts e e' false 0 (.g i) bb aR:=by
 have hs:(JS.g i).Ok ts:=hi
 have hL:=H.len
 have bc:=bU hw
 obtain ⟨k4,k5,k2,k1⟩:=lh hw
 have ed:(JS.g (i+1)).Ok ts:=bc
 obtain ⟨s1,n,m,g1,g2,g3⟩:=(IH _ (Lt.g (aKe i) bc)).expr
 refine ⟨wS ts s1 [59],.mk 32 0 [] [n],.mk 32 0 [] [m],?_,?_,?_⟩
 ·rw [bb]
  refine aF ((dG H _ hs 1 [] aNd).trans aNe) ?_
  refine aF ((dG H _ hs 6 [123] aNd).trans aNg) ?_
  refine aF (ax H hs (w:=[105,102]) (ay hw aNd)) ?_
  refine aF (ax H hs (w:=[119,104,105,108,101]) (ay hw aNd)) ?_
  refine aF (ax H hs (w:=[102,111,114,101,97,99,104]) (ay hw aNd)) ?_
  refine aF (ax H hs (w:=[116,114,121]) (ay hw aNd)) ?_
  refine du (cg H hw) ?_
  refine aW g1 ?_
  refine aW (dN H _ g3.ok [59]) ?_
  rfl
 ·rw [aR]
  refine (dP (bP H _ hs)).trans ?_
  refine bQ qg ?_
  refine bQ (show ¬(tok ts i).ai=1 from k1) ?_
  refine aF ((eZ (e':=e') H (.g i) hs [123]).trans aNi) ?_
  refine du (bE H hw) ?_
  refine aW (oB H 32 g2 g3.ok) ?_
  rfl
 ·exact st1 aNd g3 (aKQ i) [59]
theorem PD (H:Tk ts e) {i:Nat} (hi:i<=ts.length) (IH:∀s,Lt ts i s->PC ts e e' s) (hw:tw ts i [116,104,114,111,119]=true):C1 ts e e' false 0 (.g i) bb aR:=by
 have hs:(JS.g i).Ok ts:=hi
 have hL:=H.len
 have bc:=bU hw
 obtain ⟨k4,k5,k2,k1⟩:=lh hw
 have ed:(JS.g (i+1)).Ok ts:=bc
 obtain ⟨s1,n,m,g1,g2,g3⟩:=(IH _ (Lt.g (aKe i) bc)).expr
 refine ⟨wS ts s1 [59],.mk 42 0 [] [n],.mk 42 0 [] [m],?_,?_,?_⟩
 ·rw [bb]
  refine aF ((dG H _ hs 1 [] aNd).trans aNe) ?_
  refine aF ((dG H _ hs 6 [123] aNd).trans aNg) ?_
  refine aF (ax H hs (w:=[105,102]) (ay hw aNd)) ?_
  refine aF (ax H hs (w:=[119,104,105,108,101]) (ay hw aNd)) ?_
  refine aF (ax H hs (w:=[102,111,114,101,97,99,104]) (ay hw aNd)) ?_
  refine aF (ax H hs (w:=[116,114,121]) (ay hw aNd)) ?_
  refine aF (ax H hs (w:=[101,99,104,111]) (ay hw aNd)) ?_
  refine aF (ax H hs (w:=[98,114,101,97,107]) (ay hw aNd)) ?_
  refine aF (ax H hs (w:=[99,111,110,116,105,110,117,101]) (ay hw aNd)) ?_
  refine aF (ax H hs (w:=[114,101,116,117,114,110]) (ay hw aNd)) ?_
  refine aF (ax H hs (w:=[103,108,111,98,97,108]) (ay hw aNd)) ?_
  refine aF (ax H hs (w:=[117,110,115,101,116]) (ay hw aNd)) ?_
  refine du (cg H hw) ?_
  refine aW g1 ?_
  refine aW (dN H _ g3.ok [59]) ?_
  rfl
 ·rw [aR]
  refine (dP (bP H _ hs)).trans ?_
  refine bQ qg ?_
  refine bQ (show ¬(tok ts i).ai=1 from k1) ?_
  refine aF ((eZ (e':=e') H (.g i) hs [123]).trans aNi) ?_
  refine aF (ar H hs (w:=[101,99,104,111]) (ay hw aNd)) ?_
  refine aF ((eZ (e':=e') H (.g i) hs [105,102]).trans aNj) ?_
  refine aF (ar H hs (w:=[119,104,105,108,101]) (ay hw aNd)) ?_
  refine aF (ar H hs (w:=[102,111,114,101,97,99,104]) (ay hw aNd)) ?_
  refine aF (ar H hs (w:=[98,114,101,97,107]) (ay hw aNd)) ?_
  refine aF (ar H hs (w:=[99,111,110,116,105,110,117,101]) (ay hw aNd)) ?_
  refine aF (ar H hs (w:=[114,101,116,117,114,110]) (ay hw aNd)) ?_
  refine aF (ar H hs (w:=[103,108,111,98,97,108]) (ay hw aNd)) ?_
  refine aF (ar H hs (w:=[117,110,115,101,116]) (ay hw aNd)) ?_
  refine du (bE H hw) ?_
  refine aW (oB H 42 g2 g3.ok) ?_
  rfl
 ·exact st1 aNd g3 (aKQ i) [59]
theorem PE (H:Tk ts e) {i:Nat} (hi:i<=ts.length) (IH:∀s,Lt ts i s->PC ts e e' s) (hw:tw ts i [121,105,101,108,100]=true):C1 ts e e' false 0 (.g i) bb aR:=by
 have hs:(JS.g i).Ok ts:=hi
 have hL:=H.len
 have bc:=bU hw
 obtain ⟨k4,k5,k2,k1⟩:=lh hw
 have ed:(JS.g (i+1)).Ok ts:=bc
 obtain ⟨s1,n,m,g1,g2,g3⟩:=(IH _ (Lt.g (aKe i) bc)).expr
 refine ⟨wS ts s1 [59],.mk 46 0 [] [n],.mk 46 0 [] [m],?_,?_,?_⟩
 ·rw [bb]
  refine aF ((dG H _ hs 1 [] aNd).trans aNe) ?_
  refine aF ((dG H _ hs 6 [123] aNd).trans aNg) ?_
  refine aF (ax H hs (w:=[105,102]) (ay hw aNd)) ?_
  refine aF (ax H hs (w:=[119,104,105,108,101]) (ay hw aNd)) ?_
  refine aF (ax H hs (w:=[102,111,114,101,97,99,104]) (ay hw aNd)) ?_
  refine aF (ax H hs (w:=[116,114,121]) (ay hw aNd)) ?_
  refine aF (ax H hs (w:=[101,99,104,111]) (ay hw aNd)) ?_
  refine aF (ax H hs (w:=[98,114,101,97,107]) (ay hw aNd)) ?_
  refine aF (ax H hs (w:=[99,111,110,116,105,110,117,101]) (ay hw aNd)) ?_
  refine aF (ax H hs (w:=[114,101,116,117,114,110]) (ay hw aNd)) ?_
  refine aF (ax H hs (w:=[103,108,111,98,97,108]) (ay hw aNd)) ?_
  refine aF (ax H hs (w:=[117,110,115,101,116]) (ay hw aNd)) ?_
  refine aF (ax H hs (w:=[116,104,114,111,119]) (ay hw aNd)) ?_
  refine du (cg H hw) ?_
  refine aW g1 ?_
  refine aW (dN H _ g3.ok [59]) ?_
  rfl
 ·rw [aR]
  refine (dP (bP H _ hs)).trans ?_
  refine bQ qg ?_
  refine bQ (show ¬(tok ts i).ai=1 from k1) ?_
  refine aF ((eZ (e':=e') H (.g i) hs [123]).trans aNi) ?_
  refine aF (ar H hs (w:=[101,99,104,111]) (ay hw aNd)) ?_
  refine aF ((eZ (e':=e') H (.g i) hs [105,102]).trans aNj) ?_
  refine aF (ar H hs (w:=[119,104,105,108,101]) (ay hw aNd)) ?_
  refine aF (ar H hs (w:=[102,111,114,101,97,99,104]) (ay hw aNd)) ?_
  refine aF (ar H hs (w:=[98,114,101,97,107]) (ay hw aNd)) ?_
  refine aF (ar H hs (w:=[99,111,110,116,105,110,117,101]) (ay hw aNd)) ?_
  refine aF (ar H hs (w:=[114,101,116,117,114,110]) (ay hw aNd)) ?_
  refine aF (ar H hs (w:=[103,108,111,98,97,108]) (ay hw aNd)) ?_
  refine aF (ar H hs (w:=[117,110,115,101,116]) (ay hw aNd)) ?_
  refine aF (ar H hs (w:=[116,104,114,111,119]) (ay hw aNd)) ?_
  refine aF (ar H hs (w:=[116,114,121]) (ay hw aNd)) ?_
  refine du (bE H hw) ?_
  refine aW (oB H 46 g2 g3.ok) ?_
  rfl
 ·exact st1 aNd g3 (aKQ i) [59]
theorem PF (H:Tk ts e) {i:Nat} (hi:i<=ts.length) (IH:∀s,Lt ts i s->PC ts e e' s) (hw:tw ts i [98,114,101,97,107]=true):C1 ts e e' false 0 (.g i) bb aR:=by
 have hs:(JS.g i).Ok ts:=hi
 have hL:=H.len
 have bc:=bU hw
 obtain ⟨k4,k5,k2,k1⟩:=lh hw
 have ed:(JS.g (i+1)).Ok ts:=bc
 refine ⟨wS ts (.g (i+1)) [59],.mk 37 0 [] [],.mk 37 0 [] [],?_,?_,?_⟩
 ·rw [bb]
  refine aF ((dG H _ hs 1 [] aNd).trans aNe) ?_
  refine aF ((dG H _ hs 6 [123] aNd).trans aNg) ?_
  refine aF (ax H hs (w:=[105,102]) (ay hw aNd)) ?_
  refine aF (ax H hs (w:=[119,104,105,108,101]) (ay hw aNd)) ?_
  refine aF (ax H hs (w:=[102,111,114,101,97,99,104]) (ay hw aNd)) ?_
  refine aF (ax H hs (w:=[116,114,121]) (ay hw aNd)) ?_
  refine aF (ax H hs (w:=[101,99,104,111]) (ay hw aNd)) ?_
  refine du (cg H hw) ?_
  refine aW (dN H _ ed [59]) ?_
  rfl
 ·rw [aR]
  refine (dP (bP H _ hs)).trans ?_
  refine bQ qg ?_
  refine bQ (show ¬(tok ts i).ai=1 from k1) ?_
  refine aF ((eZ (e':=e') H (.g i) hs [123]).trans aNi) ?_
  refine aF (ar H hs (w:=[101,99,104,111]) (ay hw aNd)) ?_
  refine aF ((eZ (e':=e') H (.g i) hs [105,102]).trans aNj) ?_
  refine aF (ar H hs (w:=[119,104,105,108,101]) (ay hw aNd)) ?_
  refine aF (ar H hs (w:=[102,111,114,101,97,99,104]) (ay hw aNd)) ?_
  refine du (bE H hw) ?_
  refine aW (eM H _ ed [59]) ?_
  rfl
 ·have p:=@fL ts (.g (i+1)) [59]
  have p:i+1<=(wS ts (.g (i+1)) [59]).pos:=p
  exact st0 aNd (jU ed _) (me _ _) aNc (λi' h'=>by obtain ⟨k,q1,q2,_⟩:=eV h';cases q1;omega)
theorem FM (H:Tk ts e) {i:Nat} (hi:i<=ts.length) (IH:∀s,Lt ts i s->PC ts e e' s) (hw:tw ts i [99,111,110,116,105,110,117,101]=true):C1 ts e e' false 0 (.g i) bb aR:=by
 have hs:(JS.g i).Ok ts:=hi
 have hL:=H.len
 have bc:=bU hw
 obtain ⟨k4,k5,k2,k1⟩:=lh hw
 have ed:(JS.g (i+1)).Ok ts:=bc
 refine ⟨wS ts (.g (i+1)) [59],.mk 38 0 [] [],.mk 38 0 [] [],?_,?_,?_⟩
 ·rw [bb]
  refine aF ((dG H _ hs 1 [] aNd).trans aNe) ?_
  refine aF ((dG H _ hs 6 [123] aNd).trans aNg) ?_
  refine aF (ax H hs (w:=[105,102]) (ay hw aNd)) ?_
  refine aF (ax H hs (w:=[119,104,105,108,101]) (ay hw aNd)) ?_
  refine aF (ax H hs (w:=[102,111,114,101,97,99,104]) (ay hw aNd)) ?_
  refine aF (ax H hs (w:=[116,114,121]) (ay hw aNd)) ?_
  refine aF (ax H hs (w:=[101,99,104,111]) (ay hw aNd)) ?_
  refine aF (ax H hs (w:=[98,114,101,97,107]) (ay hw aNd)) ?_
  refine du (cg H hw) ?_
  refine aW (dN H _ ed [59]) ?_
  rfl
 ·rw [aR]
  refine (dP (bP H _ hs)).trans ?_
  refine bQ qg ?_
  refine bQ (show ¬(tok ts i).ai=1 from k1) ?_
  refine aF ((eZ (e':=e') H (.g i) hs [123]).trans aNi) ?_
  refine aF (ar H hs (w:=[101,99,104,111]) (ay hw aNd)) ?_
  refine aF ((eZ (e':=e') H (.g i) hs [105,102]).trans aNj) ?_
  refine aF (ar H hs (w:=[119,104,105,108,101]) (ay hw aNd)) ?_
  refine aF (ar H hs (w:=[102,111,114,101,97,99,104]) (ay hw aNd)) ?_
  refine aF (ar H hs (w:=[98,114,101,97,107]) (ay hw aNd)) ?_
  refine du (bE H hw) ?_
  refine aW (eM H _ ed [59]) ?_
  rfl
 ·have p:=@fL ts (.g (i+1)) [59]
  have p:i+1<=(wS ts (.g (i+1)) [59]).pos:=p
  exact st0 aNd (jU ed _) (me _ _) aNc (λi' h'=>by obtain ⟨k,q1,q2,_⟩:=eV h';cases q1;omega)
theorem L7 (H:Tk ts e) {i:Nat} (hi:i<=ts.length) (IH:∀s,Lt ts i s->PC ts e e' s) (hw:tw ts i [103,108,111,98,97,108]=true):C1 ts e e' false 0 (.g i) bb aR:=by
 have hs:(JS.g i).Ok ts:=hi
 have hL:=H.len
 have bc:=bU hw
 obtain ⟨k4,k5,k2,k1⟩:=lh hw
 have ed:(JS.g (i+1)).Ok ts:=bc
 have o1:=qG ed (k:=2) aNd
 have p1:=@lM ts (.g (i+1)) 2
 have p1:i+1<=(nS ts (.g (i+1)) 2).pos:=p1
 have p2:=fL (ts:=ts) (nS ts (.g (i+1)) 2) [59]
 have hx:=iK H (.g (i+1)) 2
 refine ⟨wS ts (nS ts (.g (i+1)) 2) [59],.mk 40 0 (nT ts (.g (i+1)) 2) [],.mk 40 0 (nT ts (.g (i+1)) 2) [],?_,?_,?_⟩
 ·rw [bb]
  refine aF ((dG H _ hs 1 [] aNd).trans aNe) ?_
  refine aF ((dG H _ hs 6 [123] aNd).trans aNg) ?_
  refine aF (ax H hs (w:=[105,102]) (ay hw aNd)) ?_
  refine aF (ax H hs (w:=[119,104,105,108,101]) (ay hw aNd)) ?_
  refine aF (ax H hs (w:=[102,111,114,101,97,99,104]) (ay hw aNd)) ?_
  refine aF (ax H hs (w:=[116,114,121]) (ay hw aNd)) ?_
  refine aF (ax H hs (w:=[101,99,104,111]) (ay hw aNd)) ?_
  refine aF (ax H hs (w:=[98,114,101,97,107]) (ay hw aNd)) ?_
  refine aF (ax H hs (w:=[99,111,110,116,105,110,117,101]) (ay hw aNd)) ?_
  refine aF (ax H hs (w:=[114,101,116,117,114,110]) (ay hw aNd)) ?_
  refine du (cg H hw) ?_
  refine aW (nW H _ ed 2) ?_
  refine aW (dN H _ o1 [59]) ?_
  rfl
 ·rw [aR]
  refine (dP (bP H _ hs)).trans ?_
  refine bQ qg ?_
  refine bQ (show ¬(tok ts i).ai=1 from k1) ?_
  refine aF ((eZ (e':=e') H (.g i) hs [123]).trans aNi) ?_
  refine aF (ar H hs (w:=[101,99,104,111]) (ay hw aNd)) ?_
  refine aF ((eZ (e':=e') H (.g i) hs [105,102]).trans aNj) ?_
  refine aF (ar H hs (w:=[119,104,105,108,101]) (ay hw aNd)) ?_
  refine aF (ar H hs (w:=[102,111,114,101,97,99,104]) (ay hw aNd)) ?_
  refine aF (ar H hs (w:=[98,114,101,97,107]) (ay hw aNd)) ?_
  refine aF (ar H hs (w:=[99,111,110,116,105,110,117,101]) (ay hw aNd)) ?_
  refine aF (ar H hs (w:=[114,101,116,117,114,110]) (ay hw aNd)) ?_
  refine du (bE H hw) ?_
  refine aW (nC H _ ed rfl 2 (.inl rfl)) ?_
  refine aW (eM H _ o1 [59]) ?_
  rfl
 ·refine Rs.node aNd (jU o1 _) (me _ _) aNc (λi' h'=>?_)
  obtain ⟨k,q1,q2,_⟩:=eV h'
  obtain ⟨k1,q3,q4,_⟩:=lj q1
  cases q3
  exact ⟨by omega,rfl,rfl,by rw [gv];omega⟩
theorem L8 (H:Tk ts e) {i:Nat} (hi:i<=ts.length) (IH:∀s,Lt ts i s->PC ts e e' s) (hw:tw ts i [114,101,116,117,114,110]=true):C1 ts e e' false 0 (.g i) bb aR:=by
 have hs:(JS.g i).Ok ts:=hi
 have hL:=H.len
 have bc:=bU hw
 obtain ⟨k4,k5,k2,k1⟩:=lh hw
 have ed:(JS.g (i+1)).Ok ts:=bc
 have atS:bq (pS ts e (.g (i+1))) 0 6 [59]=some (tw ts (i+1) [59],pS ts e (.g (i+1))):=(dG H _ ed 6 [59] aNd).trans (by rw [show aS ts (.g (i+1)) 0 6 [59]=tw ts (i+1) [59] from aM H aNd aNd])
 cases h2:tw ts (i+1) [59] with
 | true=>
  have uV:=bU h2
  refine ⟨.g (i+1+1),.mk 39 0 [] [],.mk 39 0 [] [],?_,?_,st0 aNd uV rfl (by show i<=i+1+1;omega) (λi' h'=>by cases h';omega)⟩
  ·rw [bb]
   refine aF ((dG H _ hs 1 [] aNd).trans aNe) ?_
   refine aF ((dG H _ hs 6 [123] aNd).trans aNg) ?_
   refine aF (ax H hs (w:=[105,102]) (ay hw aNd)) ?_
   refine aF (ax H hs (w:=[119,104,105,108,101]) (ay hw aNd)) ?_
   refine aF (ax H hs (w:=[102,111,114,101,97,99,104]) (ay hw aNd)) ?_
   refine aF (ax H hs (w:=[116,114,121]) (ay hw aNd)) ?_
   refine aF (ax H hs (w:=[101,99,104,111]) (ay hw aNd)) ?_
   refine aF (ax H hs (w:=[98,114,101,97,107]) (ay hw aNd)) ?_
   refine aF (ax H hs (w:=[99,111,110,116,105,110,117,101]) (ay hw aNd)) ?_
   refine du (cg H hw) ?_
   refine du (atS.trans (by rw [h2])) ?_
   refine aW (Au H h2) ?_
   rfl
  ·rw [aR]
   refine (dP (bP H _ hs)).trans ?_
   refine bQ qg ?_
   refine bQ (show ¬(tok ts i).ai=1 from k1) ?_
   refine aF ((eZ (e':=e') H (.g i) hs [123]).trans aNi) ?_
   refine aF (ar H hs (w:=[101,99,104,111]) (ay hw aNd)) ?_
   refine aF ((eZ (e':=e') H (.g i) hs [105,102]).trans aNj) ?_
   refine aF (ar H hs (w:=[119,104,105,108,101]) (ay hw aNd)) ?_
   refine aF (ar H hs (w:=[102,111,114,101,97,99,104]) (ay hw aNd)) ?_
   refine aF (ar H hs (w:=[98,114,101,97,107]) (ay hw aNd)) ?_
   refine aF (ar H hs (w:=[99,111,110,116,105,110,117,101]) (ay hw aNd)) ?_
   refine du (bE H hw) ?_
   refine du (bE H h2) ?_
   rfl
 | false=>
  obtain ⟨s1,n,m,g1,g2,g3⟩:=(IH _ (Lt.g (aKe i) bc)).expr
  refine ⟨wS ts s1 [59],.mk 39 0 [] [n],.mk 39 0 [] [m],?_,?_,st1 aNd g3 (aKQ i) [59]⟩
  ·rw [bb]
   refine aF ((dG H _ hs 1 [] aNd).trans aNe) ?_
   refine aF ((dG H _ hs 6 [123] aNd).trans aNg) ?_
   refine aF (ax H hs (w:=[105,102]) (ay hw aNd)) ?_
   refine aF (ax H hs (w:=[119,104,105,108,101]) (ay hw aNd)) ?_
   refine aF (ax H hs (w:=[102,111,114,101,97,99,104]) (ay hw aNd)) ?_
   refine aF (ax H hs (w:=[116,114,121]) (ay hw aNd)) ?_
   refine aF (ax H hs (w:=[101,99,104,111]) (ay hw aNd)) ?_
   refine aF (ax H hs (w:=[98,114,101,97,107]) (ay hw aNd)) ?_
   refine aF (ax H hs (w:=[99,111,110,116,105,110,117,101]) (ay hw aNd)) ?_
   refine du (cg H hw) ?_
   refine aF (atS.trans (by rw [h2])) ?_
   refine aW g1 ?_
   refine aW (dN H _ g3.ok [59]) ?_
   rfl
  ·rw [aR]
   refine (dP (bP H _ hs)).trans ?_
   refine bQ qg ?_
   refine bQ (show ¬(tok ts i).ai=1 from k1) ?_
   refine aF ((eZ (e':=e') H (.g i) hs [123]).trans aNi) ?_
   refine aF (ar H hs (w:=[101,99,104,111]) (ay hw aNd)) ?_
   refine aF ((eZ (e':=e') H (.g i) hs [105,102]).trans aNj) ?_
   refine aF (ar H hs (w:=[119,104,105,108,101]) (ay hw aNd)) ?_
   refine aF (ar H hs (w:=[102,111,114,101,97,99,104]) (ay hw aNd)) ?_
   refine aF (ar H hs (w:=[98,114,101,97,107]) (ay hw aNd)) ?_
   refine aF (ar H hs (w:=[99,111,110,116,105,110,117,101]) (ay hw aNd)) ?_
   refine du (bE H hw) ?_
   refine aF (ar (w:=[59]) H ed h2) ?_
   refine aW (oB H 39 g2 g3.ok) ?_
   rfl
theorem PG (H:Tk ts e) {i:Nat} (hi:i<=ts.length) (IH:∀s,Lt ts i s->PC ts e e' s) (hw:tw ts i [117,110,115,101,116]=true):C1 ts e e' false 0 (.g i) bb aR:=by
 have hs:(JS.g i).Ok ts:=hi
 have hL:=H.len
 have bc:=bU hw
 obtain ⟨k4,k5,k2,k1⟩:=lh hw
 have ed:(JS.g (i+1)).Ok ts:=bc
 have l1:=Lt.w (i:=i) ed (aKQ i) [40]
 have p1:=@fL ts (.g (i+1)) [40]
 have p1:i+1<=(wS ts (.g (i+1)) [40]).pos:=p1
 obtain ⟨s2,n,m,g1,g2,g3⟩:=(IH _ l1).chain false
 have g1:gg (pS ts e (wS ts (.g (i+1)) [40])) false=some (n,pS ts e s2):=g1
 have g2:bW (qS ts e' (wS ts (.g (i+1)) [40])) true=some (m,qS ts e' s2):=g2
 have p2:=g3.le
 by_cases hg:∃k,s2=.g k/\uZ n=true
 ·obtain ⟨k,rfl,htn⟩:=hg
  obtain ⟨ka,q1,q2,q3,q4,q5,_⟩:=g3.good k rfl
  obtain ⟨k2,q6,q7,_⟩:=eV q1
  cases q6
  subst q3
  have p3:=@fL ts (.g k) [41]
  have p3:k<=(wS ts (.g k) [41]).pos:=p3
  have o3:=jU g3.ok [41]
  have p4:=fL (ts:=ts) (wS ts (.g k) [41]) [59]
  have tg:ia (qS ts e' (wS ts (.g (i+1)) [40]))=some (n,qS ts e' (.g k)):=by
   rw [ia]
   refine aW g2 ?_
   refine bQ qg ?_
   refine du ((pk n).trans (by rw [q5,htn])) ?_
   rfl
  refine ⟨wS ts (wS ts (.g k) [41]) [59],.mk 41 0 [] [n],.mk 41 0 [] [n],?_,?_,Rs.node aNd (jU o3 _) (me _ _) aNc (λi' h'=>?_)⟩
  ·rw [bb]
   refine aF ((dG H _ hs 1 [] aNd).trans aNe) ?_
   refine aF ((dG H _ hs 6 [123] aNd).trans aNg) ?_
   refine aF (ax H hs (w:=[105,102]) (ay hw aNd)) ?_
   refine aF (ax H hs (w:=[119,104,105,108,101]) (ay hw aNd)) ?_
   refine aF (ax H hs (w:=[102,111,114,101,97,99,104]) (ay hw aNd)) ?_
   refine aF (ax H hs (w:=[116,114,121]) (ay hw aNd)) ?_
   refine aF (ax H hs (w:=[101,99,104,111]) (ay hw aNd)) ?_
   refine aF (ax H hs (w:=[98,114,101,97,107]) (ay hw aNd)) ?_
   refine aF (ax H hs (w:=[99,111,110,116,105,110,117,101]) (ay hw aNd)) ?_
   refine aF (ax H hs (w:=[114,101,116,117,114,110]) (ay hw aNd)) ?_
   refine aF (ax H hs (w:=[103,108,111,98,97,108]) (ay hw aNd)) ?_
   refine du (cg H hw) ?_
   refine aW (dN H _ ed [40]) ?_
   refine aW g1 ?_
   refine du ((ph n).trans (by rw [htn])) ?_
   refine aW (dN H _ g3.ok [41]) ?_
   refine aW (dN H _ o3 [59]) ?_
   rfl
  ·rw [aR]
   refine (dP (bP H _ hs)).trans ?_
   refine bQ qg ?_
   refine bQ (show ¬(tok ts i).ai=1 from k1) ?_
   refine aF ((eZ (e':=e') H (.g i) hs [123]).trans aNi) ?_
   refine aF (ar H hs (w:=[101,99,104,111]) (ay hw aNd)) ?_
   refine aF ((eZ (e':=e') H (.g i) hs [105,102]).trans aNj) ?_
   refine aF (ar H hs (w:=[119,104,105,108,101]) (ay hw aNd)) ?_
   refine aF (ar H hs (w:=[102,111,114,101,97,99,104]) (ay hw aNd)) ?_
   refine aF (ar H hs (w:=[98,114,101,97,107]) (ay hw aNd)) ?_
   refine aF (ar H hs (w:=[99,111,110,116,105,110,117,101]) (ay hw aNd)) ?_
   refine aF (ar H hs (w:=[114,101,116,117,114,110]) (ay hw aNd)) ?_
   refine aF (ar H hs (w:=[103,108,111,98,97,108]) (ay hw aNd)) ?_
   refine du (bE H hw) ?_
   refine aW (eM H _ ed [40]) ?_
   refine aW tg ?_
   refine aW (eM H _ g3.ok [41]) ?_
   refine aW (eM H _ o3 [59]) ?_
   rfl
  ·obtain ⟨k3,r1,r2,_⟩:=eV h'
   obtain ⟨k4,r3,r4,_⟩:=eV r1
   cases r3
   refine ⟨by omega,rfl,rfl,?_⟩
   rw [cG]
   simp only [mg]
   omega
 ·-- nothing that can be unset
  have jb:∃j,MM s2=.b j:=@ahq s2
  obtain ⟨j,hj⟩:=jb
  have oj:(JS.b j).Ok ts:=by rw [<-hj];exact Av g3.ok
  have pj:i<=j:=by
   have:=rC s2
   rw [hj] at this
   have this:j=s2.pos:=this
   omega
  have tg:ia (qS ts e' (wS ts (.g (i+1)) [40]))=some (m,qS ts e' (MM s2)):=by
   rw [ia]
   refine aW g2 ?_
   match s2,g3,hg with
   | .b j,g3,hg=>refine mN (show (qS ts e' (.b j)).av=true from rfl) ?_;rfl
   | .d j,g3,hg=>
    refine bQ (show ¬(qS ts e' (.d j)).av=true by rw [Py];exact id) ?_
    refine aF ((pk m).trans (by rw [(g3.dm j rfl).2.2.2 rfl])) ?_
    rw [Rw]
   | .g k,g3,hg=>
    obtain ⟨ka,q1,q2,q3,q4,q5,_⟩:=g3.good k rfl
    subst q3
    have:uZ n=false:=by
     cases ht:uZ n with
     | false=>rfl
     | true=>exact (hg ⟨k,rfl,ht⟩).elim
    refine bQ qg ?_
    refine aF ((pk n).trans (by rw [q5,this])) ?_
    rw [Rw]
  have bw:∀c,wS ts (.b j) c=.b j:=λc=>rfl
  refine ⟨.b j,if uZ n=true then .mk 41 0 [] [n] else .mk 0 0 [] [],.mk 41 0 [] [m],?_,?_,Rs.b oj pj⟩
  ·rw [bb]
   refine aF ((dG H _ hs 1 [] aNd).trans aNe) ?_
   refine aF ((dG H _ hs 6 [123] aNd).trans aNg) ?_
   refine aF (ax H hs (w:=[105,102]) (ay hw aNd)) ?_
   refine aF (ax H hs (w:=[119,104,105,108,101]) (ay hw aNd)) ?_
   refine aF (ax H hs (w:=[102,111,114,101,97,99,104]) (ay hw aNd)) ?_
   refine aF (ax H hs (w:=[116,114,121]) (ay hw aNd)) ?_
   refine aF (ax H hs (w:=[101,99,104,111]) (ay hw aNd)) ?_
   refine aF (ax H hs (w:=[98,114,101,97,107]) (ay hw aNd)) ?_
   refine aF (ax H hs (w:=[99,111,110,116,105,110,117,101]) (ay hw aNd)) ?_
   refine aF (ax H hs (w:=[114,101,116,117,114,110]) (ay hw aNd)) ?_
   refine aF (ax H hs (w:=[103,108,111,98,97,108]) (ay hw aNd)) ?_
   refine du (cg H hw) ?_
   refine aW (dN H _ ed [40]) ?_
   refine aW g1 ?_
   cases ht:uZ n with
   | false=>
    refine aF ((ph n).trans (by rw [ht])) ?_
    refine aW (rA H _ g3.ok) ?_
    rw [hj]
    rfl
   | true=>
    refine du ((ph n).trans (by rw [ht])) ?_
    have e2:pS ts e s2=pS ts e (.b j):=by
     match s2,g3,hg,hj with
     | .b j',_,_,hj=>rw [<-hj];rfl
     | .d j',_,_,hj=>rw [<-hj];rfl
     | .g k,_,hg,_=>exact (hg ⟨k,rfl,ht⟩).elim
    rw [e2]
    refine aW (dN H _ oj [41]) ?_
    refine aW (dN H _ oj [59]) ?_
    rfl
  ·rw [aR]
   refine (dP (bP H _ hs)).trans ?_
   refine bQ qg ?_
   refine bQ (show ¬(tok ts i).ai=1 from k1) ?_
   refine aF ((eZ (e':=e') H (.g i) hs [123]).trans aNi) ?_
   refine aF (ar H hs (w:=[101,99,104,111]) (ay hw aNd)) ?_
   refine aF ((eZ (e':=e') H (.g i) hs [105,102]).trans aNj) ?_
   refine aF (ar H hs (w:=[119,104,105,108,101]) (ay hw aNd)) ?_
   refine aF (ar H hs (w:=[102,111,114,101,97,99,104]) (ay hw aNd)) ?_
   refine aF (ar H hs (w:=[98,114,101,97,107]) (ay hw aNd)) ?_
   refine aF (ar H hs (w:=[99,111,110,116,105,110,117,101]) (ay hw aNd)) ?_
   refine aF (ar H hs (w:=[114,101,116,117,114,110]) (ay hw aNd)) ?_
   refine aF (ar H hs (w:=[103,108,111,98,97,108]) (ay hw aNd)) ?_
   refine du (bE H hw) ?_
   refine aW (eM H _ ed [40]) ?_
   refine aW tg ?_
   rw [hj]
   refine aW (eM H _ oj [41]) ?_
   refine aW (eM H _ oj [59]) ?_
   rfl
def yA (ts:List ah) (i:Nat):Bool:=kd ts i==2&&(tw ts (i+1) [61]&&tw ts (i+2) [121,105,101,108,100])
theorem yS (H:Tk ts e) {i:Nat} (hi:i<=ts.length):((
 bq (pS ts e (.g i)) 0 2 []>>=λ(QP,uA)=>
 (if QP=true then
 bq uA 1 6 [61]>>=λ(uv,qj)=>
 (if uv=true then
 bq qj 2 3 [121,105,101,108,100]>>=λ(QQ,xe)=>
 some (xe.fT,xe.fI,xe.aw,xe.av,QQ)
 else
 some (qj.fT,qj.fI,qj.aw,qj.av,false))
 else
 some (uA.fT,uA.fI,uA.aw,uA.av,false))
 :Option ((List ah)×Int×Int×Int×Bool)))=some ((pS ts e (.g i)).fT,(pS ts e (.g i)).fI,(pS ts e (.g i)).aw,(pS ts e (.g i)).av,yA ts i):=by
 have hs:(JS.g i).Ok ts:=hi
 have a0:bq (pS ts e (.g i)) 0 2 []=some (kd ts i==2,pS ts e (.g i)):=(dG H _ hs 2 [] aNd).trans (by rw [show aS ts (.g i) 0 2 []=(kd ts i==2) from by show (kd ts i==2&&true)=_;rw [aKv]])
 have a1:bq (pS ts e (.g i)) 1 6 [61]=some (tw ts (i+1) [61],pS ts e (.g i)):=(aCw H _ hs 6 [61] aNd).trans (by rw [show aS ts (.g i) 1 6 [61]=tw ts (i+1) [61] from aM H aNd aNd])
 have a2:bq (pS ts e (.g i)) 2 3 [121,105,101,108,100]=some (tw ts (i+2) [121,105,101,108,100],pS ts e (.g i)):=(aIb H _ hs 3 _ aNd).trans (by rw [show aS ts (.g i) 2 3 [121,105,101,108,100]=tw ts (i+2) [121,105,101,108,100] from aN H aNd aNd])
 unfold yA
 cases h0:kd ts i==2 with
 | false=>refine aF (a0.trans (by rw [h0])) ?_;rfl
 | true=>
  refine du (a0.trans (by rw [h0])) ?_
  cases h1:tw ts (i+1) [61] with
  | false=>refine aF (a1.trans aNL) ?_;rfl
  | true=>
   refine du (a1.trans aNL) ?_
   refine aW a2 ?_
   rfl
theorem yI (H:Tk ts e) {i:Nat} (hi:i<=ts.length):((
 (if (tok ts i).ai=2 then
 bC (tok ts i).aq>>=λv232=>
 (if v232=true then
 aV (qS ts e' (.g i)) 1 [61]>>=λ(adn,v236)=>
 (if adn=true then
 aV v236 2 [121,105,101,108,100]>>=λ(ado,zM)=>
 some (zM.ao,zM.bx,zM.aw,zM.av,ado)
 else
 some (v236.ao,v236.bx,v236.aw,v236.av,false))
 else
 some ((qS ts e' (.g i)).ao,(qS ts e' (.g i)).bx,(qS ts e' (.g i)).aw,(qS ts e' (.g i)).av,false))
 else
 some ((qS ts e' (.g i)).ao,(qS ts e' (.g i)).bx,(qS ts e' (.g i)).aw,(qS ts e' (.g i)).av,false))
 :Option ((List ah)×Int×Int×Bool×Bool)))=some ((qS ts e' (.g i)).ao,(qS ts e' (.g i)).bx,(qS ts e' (.g i)).aw,(qS ts e' (.g i)).av,yA ts i&&good (tx ts i)):=by
 have hs:(JS.g i).Ok ts:=hi
 have a1:aV (qS ts e' (.g i)) 1 [61]=some (tw ts (i+1) [61],qS ts e' (.g i)):=afa (e':=e') H _ hs _
 have a2:aV (qS ts e' (.g i)) 2 [121,105,101,108,100]=some (tw ts (i+2) [121,105,101,108,100],qS ts e' (.g i)):=aIc (e':=e') H _ hs _
 unfold yA
 by_cases h0:kd ts i=2
 ·refine mN (show (tok ts i).ai=2 from h0) ?_
  have hb:(kd ts i==2)=true:=by rw [h0];rfl
  cases hg:good (tok ts i).aq with
  | false=>
   refine aF ((su _).trans (by rw [hg])) ?_
   rw [show good (tx ts i)=false from hg,aKx]
  | true=>
   refine du ((su _).trans (by rw [hg])) ?_
   rw [show good (tx ts i)=true from hg,aKv,hb,aLc]
   cases h1:tw ts (i+1) [61] with
   | false=>refine aF (a1.trans aNL) ?_;rfl
   | true=>
    refine du (a1.trans aNL) ?_
    refine aW a2 ?_
    rfl
 ·refine bQ (show ¬(tok ts i).ai=2 from h0) ?_
  rw [beq_eq_false_iff_ne.2 h0]
  rfl
theorem TO (H:Tk ts e) {i:Nat} (hi:i<=ts.length) (IH:∀s,Lt ts i s->PC ts e e' s) (k1:¬kd ts i=1) (Jg:tw ts i [123]=false) (f0:tw ts i [105,102]=false) (f1:tw ts i [119,104,105,108,101]=false) (f2:tw ts i [102,111,114,101,97,99,104]=false) (f3:tw ts i [116,114,121]=false) (f4:tw ts i [101,99,104,111]=false) (f5:tw ts i [98,114,101,97,107]=false) (f6:tw ts i [99,111,110,116,105,110,117,101]=false) (f7:tw ts i [114,101,116,117,114,110]=false) (f8:tw ts i [103,108,111,98,97,108]=false) (f9:tw ts i [117,110,115,101,116]=false) (f10:tw ts i [116,104,114,111,119]=false) (f11:tw ts i [121,105,101,108,100]=false):C1 ts e e' false 0 (.g i) bb aR:=by
 have hs:(JS.g i).Ok ts:=hi
 have hL:=H.len
 cases hy:yA ts i with
 | true=>
  have hy2:=hy
  unfold yA at hy2
  simp only [At,beq_iff_eq] at hy2
  obtain ⟨h2k,h61,hyy⟩:=hy2
  have uV:=bU hyy
  have Ah:∀c,tw ts i c=false:=vY aNc aNc
  cases hg:good (tx ts i) with
  | true=>
   have hn:wZ ts 2 i=true:=by unfold wZ;rw [h2k,hg];rfl
   obtain ⟨s1,n,m,g1,g2,g3⟩:=(IH (.g (i+3)) (Lt.g aNc aNc)).expr
   have p1:i+3<=s1.pos:=g3.le
   have p2:=fL (ts:=ts) s1 [59]
   have ht:=tX H i
   refine ⟨wS ts s1 [59],.mk 46 0 [] [.mk 4 0 (tx ts i) [],n],.mk 46 0 [] ([.mk 4 0 (tx ts i) []]++[m]),?_,?_,Rs.node aNd (jU g3.ok _) (me _ _) aNc (λi' h'=>?_)⟩
   ·rw [bb]
    refine aF ((dG H _ hs 1 [] aNd).trans aNe) ?_
    refine aF ((dG H _ hs 6 [123] aNd).trans aNo) ?_
    refine aF (ax H hs (w:=[105,102]) f0) ?_
    refine aF (ax H hs (w:=[119,104,105,108,101]) f1) ?_
    refine aF (ax H hs (w:=[102,111,114,101,97,99,104]) f2) ?_
    refine aF (ax H hs (w:=[116,114,121]) f3) ?_
    refine aF (ax H hs (w:=[101,99,104,111]) f4) ?_
    refine aF (ax H hs (w:=[98,114,101,97,107]) f5) ?_
    refine aF (ax H hs (w:=[99,111,110,116,105,110,117,101]) f6) ?_
    refine aF (ax H hs (w:=[114,101,116,117,114,110]) f7) ?_
    refine aF (ax H hs (w:=[103,108,111,98,97,108]) f8) ?_
    refine aF (ax H hs (w:=[117,110,115,101,116]) f9) ?_
    refine aF (ax H hs (w:=[116,104,114,111,119]) f10) ?_
    refine aF (ax H hs (w:=[121,105,101,108,100]) f11) ?_
    refine aW (yS H hi) ?_
    refine mN hy ?_
    refine aW ((Pw H _ hs).trans (by rw [Pt hn,Ps hn])) ?_
    refine (dP (a:=((i+3:Nat):Int)) ?_).trans ?_
    ·show tN (ts.length:Int) (bm (((i+1:Nat):Int)+2))=_
     rw [wW aNc aNc]
     unfold tN
     by_cases hq:((i+1:Nat):Int)+2<(ts.length:Int)
     ·rw [if_pos hq];rfl
     ·rw [if_neg hq];congr 1;omega
    refine (dP (a:=(n,pS ts e s1)) g1).trans ?_
    refine aW (dN H _ g3.ok [59]) ?_
    rfl
   ·rw [aR]
    refine (dP (bP H _ hs)).trans ?_
    refine bQ qg ?_
    refine bQ (show ¬(tok ts i).ai=1 from k1) ?_
    refine aF ((eZ (e':=e') H (.g i) hs [123]).trans aNv) ?_
    refine aF (ar H hs (w:=[101,99,104,111]) f4) ?_
    refine aF ((eZ (e':=e') H (.g i) hs [105,102]).trans aNt) ?_
    refine aF (ar H hs (w:=[119,104,105,108,101]) f1) ?_
    refine aF (ar H hs (w:=[102,111,114,101,97,99,104]) f2) ?_
    refine aF (ar H hs (w:=[98,114,101,97,107]) f5) ?_
    refine aF (ar H hs (w:=[99,111,110,116,105,110,117,101]) f6) ?_
    refine aF (ar H hs (w:=[114,101,116,117,114,110]) f7) ?_
    refine aF (ar H hs (w:=[103,108,111,98,97,108]) f8) ?_
    refine aF (ar H hs (w:=[117,110,115,101,116]) f9) ?_
    refine aF (ar H hs (w:=[116,104,114,111,119]) f10) ?_
    refine aF (ar H hs (w:=[116,114,121]) f3) ?_
    refine aF (ar H hs (w:=[121,105,101,108,100]) f11) ?_
    refine aW (yI H hi) ?_
    refine mN (show (yA ts i&&good (tx ts i))=true by rw [hy,hg];rfl) ?_
    refine aW ((Px H _ hs rfl).trans (by rw [Pt hn,Ps hn])) ?_
    refine (dP (a:=(ae.mk 46 0 [] [m],qS ts e' (wS ts s1 [59]))) ?_).trans ?_
    ·have:ak.mk (qS ts e' (.g (i+1))).ao (bm ((qS ts e' (.g (i+1))).bx+2)) (qS ts e' (.g (i+1))).aw (qS ts e' (.g (i+1))).av=qS ts e' (.g (i+3)):=abC H aNc
     exact (congrArg (λz=>dE z 46) this).trans (oB H 46 g2 g3.ok)
    refine aW (jX (b:=56) (l:=[ae.mk 4 0 (tx ts i) []]) (m:=[m]) (by show (1+1)*56<=140737488355328;omega)) ?_
    rfl
   ·obtain ⟨k,q1,q2,_⟩:=eV h'
    obtain ⟨k3,q3,q4,q5,q6,_⟩:=g3.good k q1
    cases q3
    subst q5
    refine ⟨by omega,rfl,rfl,?_⟩
    rw [jk,cG,iI,gv]
    simp only [mg]
    omega
  | false=>
   have hn:wZ ts 2 i=false:=by unfold wZ;rw [hg,aKx]
   have hb:(JS.b i).Ok ts:=hi
   obtain ⟨n,g1⟩:=PH H hb
   have pr:aH (qS ts e' (.g i))=some (.mk 4 0 [] [],qS ts e' (.b i)):=by
    rw [aH]
    refine (dP (bP H _ hs)).trans ?_
    refine bQ qg ?_
    refine aW (tW H hi) ?_
    refine bQ (show ¬jR ts i=true by unfold jR;rw [h2k,Ah,Ah,Ah];decide) ?_
    refine mN (show (tok ts i).ai=2 from h2k) ?_
    rw [dc]
    refine aW ((Px H _ hs rfl).trans (by rw [abB hn,afh hn])) ?_
    rfl
   obtain ⟨m,g2⟩:=aCv H hi pr (Ah _) (Ah _)
   refine ⟨.b i,.mk 46 0 [] [.mk 4 0 [] [],n],.mk 33 0 [] [m],?_,?_,Rs.b hi (As i)⟩
   ·rw [bb]
    refine aF ((dG H _ hs 1 [] aNd).trans aNe) ?_
    refine aF ((dG H _ hs 6 [123] aNd).trans aNo) ?_
    refine aF (ax H hs (w:=[105,102]) f0) ?_
    refine aF (ax H hs (w:=[119,104,105,108,101]) f1) ?_
    refine aF (ax H hs (w:=[102,111,114,101,97,99,104]) f2) ?_
    refine aF (ax H hs (w:=[116,114,121]) f3) ?_
    refine aF (ax H hs (w:=[101,99,104,111]) f4) ?_
    refine aF (ax H hs (w:=[98,114,101,97,107]) f5) ?_
    refine aF (ax H hs (w:=[99,111,110,116,105,110,117,101]) f6) ?_
    refine aF (ax H hs (w:=[114,101,116,117,114,110]) f7) ?_
    refine aF (ax H hs (w:=[103,108,111,98,97,108]) f8) ?_
    refine aF (ax H hs (w:=[117,110,115,101,116]) f9) ?_
    refine aF (ax H hs (w:=[116,104,114,111,119]) f10) ?_
    refine aF (ax H hs (w:=[121,105,101,108,100]) f11) ?_
    refine aW (yS H hi) ?_
    refine mN hy ?_
    refine aW ((Pw H _ hs).trans (by rw [abB hn,afh hn])) ?_
    refine (dP (a:=((ts.length:Nat):Int)) ?_).trans ?_
    ·show tN (ts.length:Int) (bm ((ts.length:Int)+2))=_
     rw [wW aNc aNc]
     unfold tN
     rw [if_neg aNc]
    refine (dP (a:=(n,pS ts e (.b i))) g1).trans ?_
    refine aW (dN H _ hb [59]) ?_
    rfl
   ·rw [aR]
    refine (dP (bP H _ hs)).trans ?_
    refine bQ qg ?_
    refine bQ (show ¬(tok ts i).ai=1 from k1) ?_
    refine aF ((eZ (e':=e') H (.g i) hs [123]).trans aNv) ?_
    refine aF (ar H hs (w:=[101,99,104,111]) f4) ?_
    refine aF ((eZ (e':=e') H (.g i) hs [105,102]).trans aNt) ?_
    refine aF (ar H hs (w:=[119,104,105,108,101]) f1) ?_
    refine aF (ar H hs (w:=[102,111,114,101,97,99,104]) f2) ?_
    refine aF (ar H hs (w:=[98,114,101,97,107]) f5) ?_
    refine aF (ar H hs (w:=[99,111,110,116,105,110,117,101]) f6) ?_
    refine aF (ar H hs (w:=[114,101,116,117,114,110]) f7) ?_
    refine aF (ar H hs (w:=[103,108,111,98,97,108]) f8) ?_
    refine aF (ar H hs (w:=[117,110,115,101,116]) f9) ?_
    refine aF (ar H hs (w:=[116,104,114,111,119]) f10) ?_
    refine aF (ar H hs (w:=[116,114,121]) f3) ?_
    refine aF (ar H hs (w:=[121,105,101,108,100]) f11) ?_
    refine aW (yI H hi) ?_
    refine bQ (show ¬(yA ts i&&good (tx ts i))=true by rw [hg,aKx];exact are) ?_
    rw [dc]
    refine aF (ar (w:=[105,110,99,108,117,100,101]) H hs (Ah _)) ?_
    refine aW (oB H 33 g2 hb) ?_
    rfl
 | false=>
  have hyn:¬(yA ts i&&good (tx ts i))=true:=by rw [hy];exact are
  cases hw:tw ts i [105,110,99,108,117,100,101] with
  | true=>
   have bc:=bU hw
   have ed:(JS.g (i+1)).Ok ts:=bc
   have mJ:(JS.b (i+1)).Ok ts:=bc
   have at5:bq (pS ts e (.g (i+1))) 0 5 []=some (kd ts (i+1)==5,pS ts e (.g (i+1))):=(dG H _ ed 5 [] aNd).trans (by rw [show aS ts (.g (i+1)) 0 5 []=(kd ts (i+1)==5) from by show (kd ts (i+1)==5&&true)=_;rw [aKv]])
   by_cases h5:kd ts (i+1)=5
   ·have Aq:i+1<ts.length:=rB aNc
    have nJ:(JS.g (i+1+1)).Ok ts:=Aq
    have ht:=tX H (i+1)
    have p1:=@fL ts (.g (i+1+1)) [59]
    have p1:i+1+1<=(wS ts (.g (i+1+1)) [59]).pos:=p1
    refine ⟨wS ts (.g (i+1+1)) [59],.mk 47 0 (tx ts (i+1)) [],.mk 47 0 (tx ts (i+1)) [],?_,?_,Rs.node aNd (jU nJ _) (me _ _) aNc (λi' h'=>?_)⟩
    ·rw [bb]
     refine aF ((dG H _ hs 1 [] aNd).trans aNe) ?_
     refine aF ((dG H _ hs 6 [123] aNd).trans aNo) ?_
     refine aF (ax H hs (w:=[105,102]) f0) ?_
     refine aF (ax H hs (w:=[119,104,105,108,101]) f1) ?_
     refine aF (ax H hs (w:=[102,111,114,101,97,99,104]) f2) ?_
     refine aF (ax H hs (w:=[116,114,121]) f3) ?_
     refine aF (ax H hs (w:=[101,99,104,111]) f4) ?_
     refine aF (ax H hs (w:=[98,114,101,97,107]) f5) ?_
     refine aF (ax H hs (w:=[99,111,110,116,105,110,117,101]) f6) ?_
     refine aF (ax H hs (w:=[114,101,116,117,114,110]) f7) ?_
     refine aF (ax H hs (w:=[103,108,111,98,97,108]) f8) ?_
     refine aF (ax H hs (w:=[117,110,115,101,116]) f9) ?_
     refine aF (ax H hs (w:=[116,104,114,111,119]) f10) ?_
     refine aF (ax H hs (w:=[121,105,101,108,100]) f11) ?_
     refine aW (yS H hi) ?_
     refine bQ (show ¬yA ts i=true by rw [hy];exact are) ?_
     rw [iJ]
     refine du (cg H hw) ?_
     refine du (at5.trans (by rw [h5,beq_self_eq_true])) ?_
     refine (dP (a:=tok ts (i+1)) ?_).trans ?_
     ·show idx ts (bm (bm (((i+1:Nat):Int)+1) - 1))=_
      rw [abI aNc,ig Aq]
     rw [qD H ed]
     refine aW (dN H _ nJ [59]) ?_
     rfl
    ·rw [aR]
     refine (dP (bP H _ hs)).trans ?_
     refine bQ qg ?_
     refine bQ (show ¬(tok ts i).ai=1 from k1) ?_
     refine aF ((eZ (e':=e') H (.g i) hs [123]).trans aNv) ?_
     refine aF (ar H hs (w:=[101,99,104,111]) f4) ?_
     refine aF ((eZ (e':=e') H (.g i) hs [105,102]).trans aNt) ?_
     refine aF (ar H hs (w:=[119,104,105,108,101]) f1) ?_
     refine aF (ar H hs (w:=[102,111,114,101,97,99,104]) f2) ?_
     refine aF (ar H hs (w:=[98,114,101,97,107]) f5) ?_
     refine aF (ar H hs (w:=[99,111,110,116,105,110,117,101]) f6) ?_
     refine aF (ar H hs (w:=[114,101,116,117,114,110]) f7) ?_
     refine aF (ar H hs (w:=[103,108,111,98,97,108]) f8) ?_
     refine aF (ar H hs (w:=[117,110,115,101,116]) f9) ?_
     refine aF (ar H hs (w:=[116,104,114,111,119]) f10) ?_
     refine aF (ar H hs (w:=[116,114,121]) f3) ?_
     refine aF (ar H hs (w:=[121,105,101,108,100]) f11) ?_
     refine aW (yI H hi) ?_
     refine bQ hyn ?_
     rw [dc]
     refine du (bE H hw) ?_
     refine aW ((abG H ed).trans (if_pos h5)) ?_
     refine aW (eM H _ nJ [59]) ?_
     rfl
    ·obtain ⟨k,q1,q2,_⟩:=eV h'
     cases q1
     exact ⟨by omega,rfl,rfl,by rw [gv];omega⟩
   ·refine ⟨.b (i+1),.mk 0 0 [] [],.mk 47 0 [] [],?_,?_,Rs.b bc aNc⟩
    ·rw [bb]
     refine aF ((dG H _ hs 1 [] aNd).trans aNe) ?_
     refine aF ((dG H _ hs 6 [123] aNd).trans aNo) ?_
     refine aF (ax H hs (w:=[105,102]) f0) ?_
     refine aF (ax H hs (w:=[119,104,105,108,101]) f1) ?_
     refine aF (ax H hs (w:=[102,111,114,101,97,99,104]) f2) ?_
     refine aF (ax H hs (w:=[116,114,121]) f3) ?_
     refine aF (ax H hs (w:=[101,99,104,111]) f4) ?_
     refine aF (ax H hs (w:=[98,114,101,97,107]) f5) ?_
     refine aF (ax H hs (w:=[99,111,110,116,105,110,117,101]) f6) ?_
     refine aF (ax H hs (w:=[114,101,116,117,114,110]) f7) ?_
     refine aF (ax H hs (w:=[103,108,111,98,97,108]) f8) ?_
     refine aF (ax H hs (w:=[117,110,115,101,116]) f9) ?_
     refine aF (ax H hs (w:=[116,104,114,111,119]) f10) ?_
     refine aF (ax H hs (w:=[121,105,101,108,100]) f11) ?_
     refine aW (yS H hi) ?_
     refine bQ (show ¬yA ts i=true by rw [hy];exact are) ?_
     rw [iJ]
     refine du (cg H hw) ?_
     refine aF (at5.trans (by rw [beq_eq_false_iff_ne.2 h5])) ?_
     refine aW (rA H _ ed) ?_
     rfl
    ·rw [aR]
     refine (dP (bP H _ hs)).trans ?_
     refine bQ qg ?_
     refine bQ (show ¬(tok ts i).ai=1 from k1) ?_
     refine aF ((eZ (e':=e') H (.g i) hs [123]).trans aNv) ?_
     refine aF (ar H hs (w:=[101,99,104,111]) f4) ?_
     refine aF ((eZ (e':=e') H (.g i) hs [105,102]).trans aNt) ?_
     refine aF (ar H hs (w:=[119,104,105,108,101]) f1) ?_
     refine aF (ar H hs (w:=[102,111,114,101,97,99,104]) f2) ?_
     refine aF (ar H hs (w:=[98,114,101,97,107]) f5) ?_
     refine aF (ar H hs (w:=[99,111,110,116,105,110,117,101]) f6) ?_
     refine aF (ar H hs (w:=[114,101,116,117,114,110]) f7) ?_
     refine aF (ar H hs (w:=[103,108,111,98,97,108]) f8) ?_
     refine aF (ar H hs (w:=[117,110,115,101,116]) f9) ?_
     refine aF (ar H hs (w:=[116,104,114,111,119]) f10) ?_
     refine aF (ar H hs (w:=[116,114,121]) f3) ?_
     refine aF (ar H hs (w:=[121,105,101,108,100]) f11) ?_
     refine aW (yI H hi) ?_
     refine bQ hyn ?_
     rw [dc]
     refine du (bE H hw) ?_
     refine aW ((abG H ed).trans (if_neg h5)) ?_
     refine aW (eM H _ mJ [59]) ?_
     rfl
  | false=>
   obtain ⟨s1,n,m,g1,g2,g3⟩:=II (e':=e') H hi IH
   refine ⟨wS ts s1 [59],.mk 33 0 [] [n],.mk 33 0 [] [m],?_,?_,st1 aNd g3 (As i) [59]⟩
   ·rw [bb]
    refine aF ((dG H _ hs 1 [] aNd).trans aNe) ?_
    refine aF ((dG H _ hs 6 [123] aNd).trans aNo) ?_
    refine aF (ax H hs (w:=[105,102]) f0) ?_
    refine aF (ax H hs (w:=[119,104,105,108,101]) f1) ?_
    refine aF (ax H hs (w:=[102,111,114,101,97,99,104]) f2) ?_
    refine aF (ax H hs (w:=[116,114,121]) f3) ?_
    refine aF (ax H hs (w:=[101,99,104,111]) f4) ?_
    refine aF (ax H hs (w:=[98,114,101,97,107]) f5) ?_
    refine aF (ax H hs (w:=[99,111,110,116,105,110,117,101]) f6) ?_
    refine aF (ax H hs (w:=[114,101,116,117,114,110]) f7) ?_
    refine aF (ax H hs (w:=[103,108,111,98,97,108]) f8) ?_
    refine aF (ax H hs (w:=[117,110,115,101,116]) f9) ?_
    refine aF (ax H hs (w:=[116,104,114,111,119]) f10) ?_
    refine aF (ax H hs (w:=[121,105,101,108,100]) f11) ?_
    refine aW (yS H hi) ?_
    refine bQ (show ¬yA ts i=true by rw [hy];exact are) ?_
    rw [iJ]
    refine aF (ax (w:=[105,110,99,108,117,100,101]) H hs hw) ?_
    refine aW g1 ?_
    refine aW (dN H _ g3.ok [59]) ?_
    rfl
   ·rw [aR]
    refine (dP (bP H _ hs)).trans ?_
    refine bQ qg ?_
    refine bQ (show ¬(tok ts i).ai=1 from k1) ?_
    refine aF ((eZ (e':=e') H (.g i) hs [123]).trans aNv) ?_
    refine aF (ar H hs (w:=[101,99,104,111]) f4) ?_
    refine aF ((eZ (e':=e') H (.g i) hs [105,102]).trans aNt) ?_
    refine aF (ar H hs (w:=[119,104,105,108,101]) f1) ?_
    refine aF (ar H hs (w:=[102,111,114,101,97,99,104]) f2) ?_
    refine aF (ar H hs (w:=[98,114,101,97,107]) f5) ?_
    refine aF (ar H hs (w:=[99,111,110,116,105,110,117,101]) f6) ?_
    refine aF (ar H hs (w:=[114,101,116,117,114,110]) f7) ?_
    refine aF (ar H hs (w:=[103,108,111,98,97,108]) f8) ?_
    refine aF (ar H hs (w:=[117,110,115,101,116]) f9) ?_
    refine aF (ar H hs (w:=[116,104,114,111,119]) f10) ?_
    refine aF (ar H hs (w:=[116,114,121]) f3) ?_
    refine aF (ar H hs (w:=[121,105,101,108,100]) f11) ?_
    refine aW (yI H hi) ?_
    refine bQ hyn ?_
    rw [dc]
    refine aF (ar (w:=[105,110,99,108,117,100,101]) H hs hw) ?_
    refine aW (oB H 33 g2 g3.ok) ?_
    rfl
theorem afi (H:Tk ts e) {i:Nat} (hi:i<=ts.length) (IH:∀s,Lt ts i s->PC ts e e' s):C1 ts e e' false 0 (.g i) bb aR:=by
 have hs:(JS.g i).Ok ts:=hi
 have hL:=H.len
 by_cases k1:kd ts i=1
 ·have bc:i<ts.length:=rB aNc
  refine ⟨.g (i+1),.mk 31 0 (tx ts i) [],.mk 31 0 (tx ts i) [],?_,?_,Rs.leaf aNd bc (tX H i) (by rw [k1];rfl)⟩
  ·rw [bb]
   refine du ((dG H _ hs 1 [] aNd).trans (by rw [show aS ts (.g i) 0 1 []=true from by show (kd ts i==1&&true)=true;rw [k1];rfl])) ?_
   refine (dP (a:=tok ts i) ?_).trans ?_
   ·show idx ts (bm (bm ((i:Int)+1) - 1))=_
    rw [abI aNc,ig bc]
   rw [qD H hi]
   rfl
  ·rw [aR]
   refine (dP (bP H _ hs)).trans ?_
   refine bQ qg ?_
   refine mN (show (tok ts i).ai=1 from k1) ?_
   rw [pK H hi]
   rfl
 cases Jg:tw ts i [123] with
 | true=>
  obtain ⟨s',n,m,g1,g2,g3⟩:=L5 (e':=e') H hi IH
  refine ⟨s',n,m,?_,?_,g3⟩
  ·rw [bb]
   refine aF ((dG H _ hs 1 [] aNd).trans (by rw [show aS ts (.g i) 0 1 []=false from by show (kd ts i==1&&true)=false;rw [beq_eq_false_iff_ne.2 k1];rfl])) ?_
   refine du ((dG H _ hs 6 [123] aNd).trans (by rw [show aS ts (.g i) 0 6 [123]=true from (aM H aNd aNd).trans Jg])) ?_
   refine aW g1 ?_
   rfl
  ·rw [aR]
   refine (dP (bP H _ hs)).trans ?_
   refine bQ qg ?_
   refine bQ (show ¬(tok ts i).ai=1 from k1) ?_
   refine du ((eZ (e':=e') H (.g i) hs [123]).trans (by rw [show tw ts (JS.g i).pos [123]=true from Jg])) ?_
   refine aW g2 ?_
   rfl
 | false=>
 cases f0:tw ts i [105,102] with
 | true=>exact afg H hi IH f0
 | false=>
 cases f1:tw ts i [119,104,105,108,101] with
 | true=>exact PB H hi IH f1
 | false=>
 cases f2:tw ts i [102,111,114,101,97,99,104] with
 | true=>exact IJ H hi IH f2
 | false=>
 cases f3:tw ts i [116,114,121] with
 | true=>exact abH H hi IH f3
 | false=>
 cases f4:tw ts i [101,99,104,111] with
 | true=>exact TN H hi IH f4
 | false=>
 cases f5:tw ts i [98,114,101,97,107] with
 | true=>exact PF H hi IH f5
 | false=>
 cases f6:tw ts i [99,111,110,116,105,110,117,101] with
 | true=>exact FM H hi IH f6
 | false=>
 cases f7:tw ts i [114,101,116,117,114,110] with
 | true=>exact L8 H hi IH f7
 | false=>
 cases f8:tw ts i [103,108,111,98,97,108] with
 | true=>exact L7 H hi IH f8
 | false=>
 cases f9:tw ts i [117,110,115,101,116] with
 | true=>exact PG H hi IH f9
 | false=>
 cases f10:tw ts i [116,104,114,111,119] with
 | true=>exact PD H hi IH f10
 | false=>
 cases f11:tw ts i [121,105,101,108,100] with
 | true=>exact PE H hi IH f11
 | false=>
 exact TO H hi IH k1 Jg f0 f1 f2 f3 f4 f5 f6 f7 f8 f9 f10 f11
theorem abK (H:Tk ts e):∀(N i:Nat),ts.length - i<N->i<=ts.length->PC ts e e' (.g i)
 | 0,i,h,_=>by omega
 | N+1,i,h,hi=>by
  have IH:∀s,Lt ts i s->PC ts e e' s:=λs hs=>by
   match s,hs with
   | .g k,hs=>
    have h1:=hs.lt k rfl
    have h2:k<=ts.length:=hs.ok
    exact abK H N k aNc h2
   | .b j,hs=>exact abM H hs.ok
   | .d j,hs=>cases hs.nd
  exact ⟨Ro H hi IH,L0 H hi IH,aho H hi IH,λlv h4 h11=>Pz H hi IH (11 - lv) lv aNc h4,Rt H hi IH,Ru H hi IH,II H hi IH,aff H hi IH,afe H hi IH,L5 H hi IH,afi H hi IH⟩
theorem ahr (H:Tk ts e) (s:JS) (hs:s.Ok ts) (hd:s.nd=true):PC ts e e' s:=by
 match s,hs,hd with
 | .g k,hs,_=>exact abK H _ k (aKe _) hs
 | .b j,hs,_=>exact abM H hs
 | .d j,_,hd=>cases hd
end
set_option maxRecDepth 10000
set_option maxHeartbeats 400000
section
variable {ts:List ah} {e e':Int}
theorem a0k {i:Nat} (k:Int):aS ts (.g i) 0 k []=(kd ts i==k):=by
 show (kd ts (i+0)==k&&(([]:aD)==([]:aD)||_))=_
 rw [show (([]:aD)==([]:aD))=true from rfl,aLb,aKv,aKZ]
theorem a0n (H:Tk ts e) {i:Nat} {w:aD} (hw:DY.contains w=false) (hn:w≠[]):aS ts (.g i) 0 3 w=tw ts i w:=by
 show aT ts (i+0) 3 w=_
 rw [aKZ,aN H hw hn]
theorem abN (H:Tk ts e) {i:Nat} (hi:i<=ts.length) (h:jR ts i=true):∃n,aJ (pS ts e (.g i))=some (n,pS ts e (.g (i+1)))/\bJ (qS ts e' (.g i))=some (n,qS ts e' (.g (i+1)))/\wt n<=4000/\i<ts.length:=by
 have hs:(JS.g i).Ok ts:=hi
 by_cases k4:kd ts i=4
 ·have bc:i<ts.length:=rB aNc
  refine ⟨.mk 1 (tok ts i).aE [] [],?_,?_,by rw [iI,gv];simp,bc⟩
  ·rw [aJ]
   refine bQ (lH bc) ?_
   refine (dP (ig bc)).trans ?_
   refine mN k4 ?_
   rw [qD H hi]
  ·unfold bJ
   refine (dP (bP H _ hs)).trans ?_
   refine mN k4 ?_
   rw [pK H hi]
   rfl
 by_cases k5:kd ts i=5
 ·have bc:i<ts.length:=rB aNc
  refine ⟨.mk 2 0 (tx ts i) [],?_,?_,by rw [iI,gv];exact tX H i,bc⟩
  ·rw [aJ]
   refine bQ (lH bc) ?_
   refine (dP (ig bc)).trans ?_
   refine bQ k4 ?_
   refine mN k5 ?_
   rw [qD H hi]
   rfl
  ·unfold bJ
   refine (dP (bP H _ hs)).trans ?_
   refine bQ k4 ?_
   refine mN k5 ?_
   rw [pK H hi]
   rfl
 unfold jR at h
 rw [beq_eq_false_iff_ne.2 k4,beq_eq_false_iff_ne.2 k5,aKu,aKu] at h
 have k2:¬kd ts i=2:=λk2=>by
  rw [vY aNc aNc,vY aNc aNc,vY aNc aNc] at h
  exact absurd h aNd
 by_cases hn:tw ts i [110,117,108,108]=true
 ·have bc:=bU hn
  refine ⟨.mk 3 0 [] [],?_,?_,by rw [iI,gv];simp,bc⟩
  ·rw [aJ]
   refine bQ (lH bc) ?_
   refine (dP (ig bc)).trans ?_
   refine bQ k4 ?_
   refine bQ k5 ?_
   refine bQ k2 ?_
   refine du (cg H hn) ?_
   rfl
  ·unfold bJ
   refine (dP (bP H _ hs)).trans ?_
   refine bQ k4 ?_
   refine bQ k5 ?_
   refine du (bE H hn) ?_
   rfl
 have hn0:tw ts i [110,117,108,108]=false:=by simpa using hn
 by_cases hf:tw ts i [102,97,108,115,101]=true
 ·have bc:=bU hf
  refine ⟨.mk 3 1 [] [],?_,?_,by rw [iI,gv];simp,bc⟩
  ·rw [aJ]
   refine bQ (lH bc) ?_
   refine (dP (ig bc)).trans ?_
   refine bQ k4 ?_
   refine bQ k5 ?_
   refine bQ k2 ?_
   refine aF (ax H hs (w:=[110,117,108,108]) hn0) ?_
   refine du (cg H hf) ?_
   rfl
  ·unfold bJ
   refine (dP (bP H _ hs)).trans ?_
   refine bQ k4 ?_
   refine bQ k5 ?_
   refine aF (ar (w:=[110,117,108,108]) H hs hn0) ?_
   refine du (bE H hf) ?_
   rfl
 have hf0:tw ts i [102,97,108,115,101]=false:=by simpa using hf
 rw [hn0,hf0,aKD,aKD] at h
 have bc:=bU h
 refine ⟨.mk 3 2 [] [],?_,?_,by rw [iI,gv];simp,bc⟩
 ·rw [aJ]
  refine bQ (lH bc) ?_
  refine (dP (ig bc)).trans ?_
  refine bQ k4 ?_
  refine bQ k5 ?_
  refine bQ k2 ?_
  refine aF (ax H hs (w:=[110,117,108,108]) hn0) ?_
  refine aF (ax H hs (w:=[102,97,108,115,101]) hf0) ?_
  refine du (cg H h) ?_
  rfl
 ·unfold bJ
  refine (dP (bP H _ hs)).trans ?_
  refine bQ k4 ?_
  refine bQ k5 ?_
  refine aF (ar (w:=[110,117,108,108]) H hs hn0) ?_
  refine aF (ar (w:=[102,97,108,115,101]) H hs hf0) ?_
  refine du (bE H h) ?_
  rfl
theorem am1 (H:Tk ts e) {i:Nat} (hi:i<=ts.length) (h:jR ts i=false):bJ (qS ts e' (.g i))=some (.mk 0 0 [] [],qS ts e' (.b i)):=by
 have hs:(JS.g i).Ok ts:=hi
 unfold jR at h
 simp only [aLy,beq_eq_false_iff_ne] at h
 obtain ⟨k4,k5,h1,h2,h3⟩:=h
 unfold bJ
 refine (dP (bP H _ hs)).trans ?_
 refine bQ k4 ?_
 refine bQ k5 ?_
 refine aF (ar (w:=[110,117,108,108]) H hs h3) ?_
 refine aF (ar (w:=[102,97,108,115,101]) H hs h2) ?_
 refine aF (ar (w:=[116,114,117,101]) H hs h1) ?_
 rfl
theorem Rx (H:Tk ts e) (s:JS) (hs:s.Ok ts) (hd:s.nd=true):∃s' l m b b',(∃s1,eH (pS ts e s) 24 []=some (l,pS ts e s1)/\bV (pS ts e s1)=some (b,pS ts e s')/\ee (qS ts e' s)=some (m,qS ts e' s1)/\bs (qS ts e' s1)=some (b',qS ts e' s'))/\
  s'.Ok ts/\s'.nd=true/\s.pos<=s'.pos/\l.length<=4010/\m.length<=4010/\(∀i',s'=.g i'->∃i,s=.g i/\i+2<i'/\l=m/\b=b'/\(wl (l++[b]):Int)+16384*(i:Int)+20000<=16384*(i':Int)):=by
 have hL:=H.len
 obtain ⟨s1,l,m,h1,h2,R⟩:=Ar (e':=e') H 24 (.inl rfl) [] aNf s hs hd (λh=>absurd h aNd)
 obtain ⟨s',b,b',g1,g2,g3⟩:=(ahr (e':=e') H s1 R.ok R.nd).block
 have hp:=okp R.ok
 have q1:=R.len
 have q2:=R.lem
 have q3:=R.le
 have q4:=g3.le
 simp only [mg,aKc] at q1
 refine ⟨s',l,m,b,b',⟨s1,h1,g1,?_,g2⟩,g3.ok,?_,by omega,by omega,by omega,λi' h'=>?_⟩
 ·unfold ee
  rw [h2,sb]
 ·cases s' with
  | g _=>rfl
  | b _=>rfl
  | d j=>have:=(g3.dm j rfl).2.2.1;omega
 ·obtain ⟨k,r1,r2,r3,r4,_⟩:=g3.good i' h'
  obtain ⟨k0,r5,r6,r7,r8⟩:=R.good k r1
  rw [aKk] at r7
  subst r7
  refine ⟨k0,r5,by omega,rfl,r3,?_⟩
  rw [gU,cG]
  omega
theorem Rs.nd0 {v:Bool} {s s':JS} {n m:ae} (h:Rs ts v 0 s s' n m):s'.nd=true:=by
 cases s' with
 | g _=>rfl
 | b _=>rfl
 | d j=>have:=(h.dm j rfl).2.2.1;omega
theorem TP (H:Tk ts e) {i:Nat} (hi:i<=ts.length):C1 ts e e' false 0 (.g i) js jC:=by
 have hL:=H.len
 have hs0:(JS.g i).Ok ts:=hi
 obtain ⟨i1,f1,hf,Tl,hi2,p1,p2⟩:∃(i1:Nat) (f1:Int),(f1=0\/f1=1)/\i<=i1/\i1<=ts.length/\
   (aB (pS ts e (.g i)) [112,114,105,118,97,116,101]>>=λ(v9,v10)=>(if v9=true then some (v10.fT,v10.fI,v10.aw,v10.av,1) else some (v10.fT,v10.fI,v10.aw,v10.av,0)):Option ((List ah)×Int×Int×Int×Int))=some ((pS ts e (.g i1)).fT,(pS ts e (.g i1)).fI,(pS ts e (.g i1)).aw,(pS ts e (.g i1)).av,f1)/\
   (au (qS ts e' (.g i)) [112,114,105,118,97,116,101]>>=λ(v9,v10)=>(if v9=true then some (v10.ao,v10.bx,v10.aw,v10.av,1) else some (v10.ao,v10.bx,v10.aw,v10.av,0)):Option ((List ah)×Int×Int×Bool×Int))=some ((qS ts e' (.g i1)).ao,(qS ts e' (.g i1)).bx,(qS ts e' (.g i1)).aw,(qS ts e' (.g i1)).av,f1):=by
  cases h:tw ts i [112,114,105,118,97,116,101] with
  | true=>
   refine ⟨i+1,1,.inr rfl,aKQ i,bU h,?_,?_⟩
   ·refine du (cg H h) ?_;rfl
   ·refine du (bE H h) ?_;rfl
  | false=>
   refine ⟨i,0,.inl rfl,As i,hi,?_,?_⟩
   ·refine aF (ax (w:=[112,114,105,118,97,116,101]) H hs0 h) ?_;rfl
   ·refine aF (ar (w:=[112,114,105,118,97,116,101]) H hs0 h) ?_;rfl
 have ed:(JS.g i1).Ok ts:=hi2
 have S0:=js.eq_1 (pS ts e (.g i))
 have I0:=jC.eq_1 (qS ts e' (.g i))
 rw [p1,sb] at S0
 rw [p2,sb] at I0
 dsimp only at S0 I0
 rw [iJ,dG H _ ed 2 [] aNd,sb] at S0
 rw [dc,bP H _ ed,sb] at I0
 dsimp only at S0 I0
 rw [a0k] at S0
 by_cases k2:kd ts i1=2
 ·rw [if_pos (by rw [beq_iff_eq];exact k2),nW H _ ed 2,sb] at S0
  rw [if_pos (show (tok ts (JS.g i1).pos).ai=2 from k2),nC H _ ed rfl 2 (.inl rfl),sb] at I0
  dsimp only at S0 I0
  have o2:=qG ed (k:=2) aNd
  have d2:=tc (ts:=ts) (.g i1) 2
  have t2:=iK H (.g i1) 2
  have b2:=lM (ts:=ts) (.g i1) 2
  have b2:i1<=(nS ts (.g i1) 2).pos:=b2
  have pL:∀k,nS ts (.g i1) 2=.g k->k=i1+1:=λk hk=>by
   obtain ⟨i0,q1,q2,_⟩:=lj hk;cases q1;exact q2
  generalize nT ts (.g i1) 2=t at*
  generalize nS ts (.g i1) 2=s2 at*
  rcases IF (ts:=ts) s2 [61] with h | ⟨i2,rfl,h⟩
  ·rw [ax (w:=[61]) H o2 h,sb] at S0
   rw [ar (w:=[61]) H o2 h (.inr d2),sb] at I0
   dsimp only at S0 I0
   rw [if_neg aNd,dN H _ o2 [59],sb] at S0
   rw [if_neg aNd,eM H _ o2 [59],sb] at I0
   refine ⟨_,_,_,S0,I0,Rs.node aNd (jU o2 _) (me _ _) (by have:=fL (ts:=ts) s2 [59];omega) (λi' h'=>?_)⟩
   obtain ⟨k,q1,q2,_⟩:=eV h'
   have:=pL k q1
   refine ⟨by omega,rfl,rfl,?_⟩
   rw [cG,iI,gv]
   simp only [mg]
   omega
  ·have:=pL i2 rfl
   subst this
   have bc:=bU h
   have x7:(JS.g (i1+1+1)).Ok ts:=bc
   rw [cg H h,sb] at S0
   rw [bE H h,sb] at I0
   dsimp only at S0 I0
   rw [if_pos rfl,dG H _ x7 4 [] aNd,sb] at S0
   rw [if_pos rfl] at I0
   dsimp only at S0
   rw [a0k] at S0
   cases hl:jR ts (i1+1+1) with
   | true=>
    obtain ⟨n,g1,g2,g3,g4⟩:=abN (e':=e') H bc hl
    have hs4:(JS.g (i1+1+1+1)).Ok ts:=g4
    rw [g2,sb] at I0
    dsimp only at I0
    rw [eM H _ hs4 [59],sb] at I0
    have S1:js (pS ts e (.g i))=some (.mk 54 f1 t [n],pS ts e (wS ts (.g (i1+1+1+1)) [59])):=by
     rw [S0]
     have fin:(aJ (pS ts e (.g (i1+1+1)))>>=λ(v90,v91)=>aL v91 [59]>>=λOq=>some ((ae.mk 54 f1 t ([v90]:List ae)),Oq))=some (.mk 54 f1 t [n],pS ts e (wS ts (.g (i1+1+1+1)) [59])):=by
      rw [g1,sb]
      dsimp only
      rw [dN H _ hs4 [59],sb]
     by_cases k4:kd ts (i1+1+1)=4
     ·rw [if_pos (by rw [beq_iff_eq];exact k4)];exact fin
     rw [if_neg (by rw [beq_iff_eq];exact k4),dG H _ x7 5 [] aNd,sb]
     dsimp only
     rw [a0k]
     by_cases k5:kd ts (i1+1+1)=5
     ·rw [if_pos (by rw [beq_iff_eq];exact k5)];exact fin
     rw [if_neg (by rw [beq_iff_eq];exact k5),dG H _ x7 3 [110,117,108,108] aNd,sb]
     dsimp only
     rw [a0n H aNd aNd]
     cases hn:tw ts (i1+1+1) [110,117,108,108] with
     | true=>rw [if_pos rfl];exact fin
     | false=>
      rw [if_neg aNd,dG H _ x7 3 [116,114,117,101] aNd,sb]
      dsimp only
      rw [a0n H aNd aNd]
      cases ht:tw ts (i1+1+1) [116,114,117,101] with
      | true=>rw [if_pos rfl];exact fin
      | false=>
       rw [if_neg aNd,dG H _ x7 3 [102,97,108,115,101] aNd,sb]
       dsimp only
       rw [a0n H aNd aNd]
       cases hf:tw ts (i1+1+1) [102,97,108,115,101] with
       | true=>rw [if_pos rfl];exact fin
       | false=>
        unfold jR at hl
        rw [hn,ht,hf,beq_eq_false_iff_ne.2 k4,beq_eq_false_iff_ne.2 k5] at hl
        exact absurd hl aNd
    refine ⟨_,_,_,S1,I0,Rs.node aNd (jU hs4 _) (me _ _) (by have:=fL (ts:=ts) (.g (i1+1+1+1)) [59];have:i1+1+1+1<=_:=this;omega) (λi' h'=>?_)⟩
    obtain ⟨k,q1,q2,_⟩:=eV h'
    cases q1
    refine ⟨by omega,rfl,rfl,?_⟩
    rw [cG]
    omega
   | false=>
    rw [am1 H bc hl,sb] at I0
    dsimp only at I0
    have hb:(JS.b (i1+1+1)).Ok ts:=bc
    rw [eM H _ hb [59],sb] at I0
    have S1:js (pS ts e (.g i))=some (.mk 0 0 [] [],pS ts e (.b (i1+1+1))):=by
     rw [S0]
     unfold jR at hl
     simp only [aLy,beq_eq_false_iff_ne] at hl
     obtain ⟨k4,k5,h1,h2,h3⟩:=hl
     rw [if_neg (by rw [beq_iff_eq];exact k4),dG H _ x7 5 [] aNd,sb]
     dsimp only
     rw [a0k,if_neg (by rw [beq_iff_eq];exact k5),dG H _ x7 3 [110,117,108,108] aNd,sb]
     dsimp only
     rw [a0n H aNd aNd,h3,if_neg aNd,dG H _ x7 3 [116,114,117,101] aNd,sb]
     dsimp only
     rw [a0n H aNd aNd,h1,if_neg aNd,dG H _ x7 3 [102,97,108,115,101] aNd,sb]
     dsimp only
     rw [a0n H aNd aNd,h2,if_neg aNd,rA H _ x7,sb]
     rfl
    exact ⟨.b (i1+1+1),_,_,S1,I0,⟨hb,by show i<=i1+1+1;omega,λi h=>aNy,λi h=>aNy⟩⟩
 ·rw [if_neg (by rw [beq_iff_eq];exact k2)] at S0
  rw [if_neg (show ¬(tok ts (JS.g i1).pos).ai=2 from k2)] at I0
  obtain ⟨i2,f2,hi3,hi4,p3,p4⟩:∃(i2:Nat) (f2:Int),i1<=i2/\i2<=ts.length/\
    (aB (pS ts e (.g i1)) [115,116,97,116,105,99]>>=λ(v9,v10)=>(if v9=true then some (v10.fT,v10.fI,v10.aw,v10.av,bm (f1+2)) else some (v10.fT,v10.fI,v10.aw,v10.av,f1)):Option ((List ah)×Int×Int×Int×Int))=some ((pS ts e (.g i2)).fT,(pS ts e (.g i2)).fI,(pS ts e (.g i2)).aw,(pS ts e (.g i2)).av,f2)/\
    (au (qS ts e' (.g i1)) [115,116,97,116,105,99]>>=λ(v9,v10)=>(if v9=true then some (v10.ao,v10.bx,v10.aw,v10.av,bm (f1+2)) else some (v10.ao,v10.bx,v10.aw,v10.av,f1)):Option ((List ah)×Int×Int×Bool×Int))=some ((qS ts e' (.g i2)).ao,(qS ts e' (.g i2)).bx,(qS ts e' (.g i2)).aw,(qS ts e' (.g i2)).av,f2):=by
   cases h:tw ts i1 [115,116,97,116,105,99] with
   | true=>
    refine ⟨i1+1,bm (f1+2),aKQ i1,bU h,?_,?_⟩
    ·refine du (cg H h) ?_;rfl
    ·refine du (bE H h) ?_;rfl
   | false=>
    refine ⟨i1,f1,As i1,hi2,?_,?_⟩
    ·refine aF (ax (w:=[115,116,97,116,105,99]) H ed h) ?_;rfl
    ·refine aF (ar (w:=[115,116,97,116,105,99]) H ed h) ?_;rfl
  have nJ:(JS.g i2).Ok ts:=hi4
  rw [p3,sb] at S0
  rw [p4,sb] at I0
  dsimp only at S0 I0
  have o3:=jU nJ [102,117,110,99,116,105,111,110]
  have b3:=fL (ts:=ts) (.g i2) [102,117,110,99,116,105,111,110]
  have b3:i2<=(wS ts (.g i2) [102,117,110,99,116,105,111,110]).pos:=b3
  have d3:=me (ts:=ts) (.g i2) [102,117,110,99,116,105,111,110]
  have o4:=qG o3 (k:=3) aNd
  have b4:=lM (ts:=ts) (wS ts (.g i2) [102,117,110,99,116,105,111,110]) 3
  have d4:=tc (ts:=ts) (wS ts (.g i2) [102,117,110,99,116,105,111,110]) 3
  have t4:=iK H (wS ts (.g i2) [102,117,110,99,116,105,111,110]) 3
  rw [iJ,dN H _ nJ [102,117,110,99,116,105,111,110],sb,nW H _ o3 3,sb] at S0
  rw [dc,eM H _ nJ [102,117,110,99,116,105,111,110],sb,nC H _ o3 d3 3 (.inr rfl),sb] at I0
  dsimp only at S0 I0
  obtain ⟨s',l,m,b,b',⟨s5,g1,g2,g3,g4⟩,r1,r2,r3,r4,r5,r6⟩:=Rx (e':=e') H _ o4 d4
  rw [g1,sb] at S0
  rw [g3,sb] at I0
  dsimp only at S0 I0
  rw [g2,sb] at S0
  rw [g4,sb] at I0
  dsimp only at S0 I0
  rw [eY _ aNc,sb] at S0 I0
  refine ⟨_,_,_,S0,I0,Rs.node aNd r1 r2 aNc (λi' h'=>?_)⟩
  obtain ⟨k,q1,q2,q3,q4,q5⟩:=r6 i' h'
  obtain ⟨k1,q6,q7,_⟩:=lj q1
  obtain ⟨k2,q8,q9,_⟩:=eV q6
  cases q8
  subst q3;subst q4
  exact ⟨by omega,rfl,rfl,by omega⟩
end
set_option maxRecDepth 10000
set_option maxHeartbeats 400000
section
variable {ts:List ah} {e e':Int}
theorem L9 (H:Tk ts e):∀(N:Nat) (s:JS) (l m:List ae),s.Ok ts->s.nd=true->(∀i,s=.g i->ts.length - i<N/\l.length<=i+10/\m.length<=i+10)->
  ∃s' x y,dY (pS ts e s).fT (pS ts e s).fI (pS ts e s).aw (pS ts e s).av l=some ((pS ts e s').fT,(pS ts e s').fI,(pS ts e s').aw,(pS ts e s').av,l++x)/\
   dJ (qS ts e' s).ao (qS ts e' s).bx (qS ts e' s).aw (qS ts e' s).av m=some ((qS ts e' s').ao,(qS ts e' s').bx,(qS ts e' s').aw,(qS ts e' s').av,m++y)/\
   s'.Ok ts/\s'.nd=true/\s.pos<=s'.pos/\x.length+s.pos<=s'.pos+1/\y.length+s.pos<=s'.pos+1/\((∃j,s=.b j)->x=[]/\y=[])/\(∀i',s'=.g i'->∃i,s=.g i/\i<=i'/\x=y/\(wl x:Int)+16384*(i:Int)<=16384*(i':Int))
 | N,.d j,l,m,_,hd,_=>by cases hd
 | N,.b j,l,m,hs,_,_=>by
  refine ⟨.b j,[],[],?_,?_,hs,rfl,As _,by show 0+j<=j+1;omega,by show 0+j<=j+1;omega,λ_=>⟨rfl,rfl⟩,λi' h=>by cases h⟩
  ·rw [dY,iJ,aKF]
   refine aF (ax (w:=[117,115,101]) H hs rfl) ?_
   rfl
  ·rw [dJ,dc,aKF]
   refine aF (ar (w:=[117,115,101]) H hs rfl) ?_
   rfl
 | 0,.g i,_,_,_,_,h=>by have:=(h i rfl).1;omega
 | N+1,.g i,l,m,hs,_,hN=>by
  have hL:=H.len
  obtain ⟨hN,hl,hm⟩:=hN i rfl
  have hi:i<=ts.length:=hs
  cases h1:tw ts i [117,115,101] with
  | false=>
   refine ⟨.g i,[],[],?_,?_,hs,rfl,As _,by show 0+i<=i+1;omega,by show 0+i<=i+1;omega,λ_=>⟨rfl,rfl⟩,λi' h=>by cases h;exact ⟨i,rfl,As _,rfl,by rw [gv];omega⟩⟩
   ·rw [dY,iJ,aKF]
    refine aF (ax (w:=[117,115,101]) H hs h1) ?_
    rfl
   ·rw [dJ,dc,aKF]
    refine aF (ar (w:=[117,115,101]) H hs h1) ?_
    rfl
  | true=>
   have bc:=bU h1
   have ed:(JS.g (i+1)).Ok ts:=bc
   have o2:=qG ed (k:=3) aNd
   have d2:=tc (ts:=ts) (.g (i+1)) 3
   have t2:=iK H (.g (i+1)) 3
   have b2:=lM (ts:=ts) (.g (i+1)) 3
   have b2:i+1<=(nS ts (.g (i+1)) 3).pos:=b2
   have o3:=jU o2 [59]
   have d3:=me (ts:=ts) (nS ts (.g (i+1)) 3) [59]
   have b3:=fL (ts:=ts) (nS ts (.g (i+1)) 3) [59]
   have GP:∀k,wS ts (nS ts (.g (i+1)) 3) [59]=.g k->k=i+3:=λk hk=>by
    obtain ⟨k1,q1,q2,_⟩:=eV hk
    obtain ⟨k2,q3,q4,_⟩:=lj q1
    cases q3;omega
   have S0:dY (pS ts e (.g i)).fT (pS ts e (.g i)).fI (pS ts e (.g i)).aw (pS ts e (.g i)).av l=dY (pS ts e (wS ts (nS ts (.g (i+1)) 3) [59])).fT (pS ts e (wS ts (nS ts (.g (i+1)) 3) [59])).fI (pS ts e (wS ts (nS ts (.g (i+1)) 3) [59])).aw (pS ts e (wS ts (nS ts (.g (i+1)) 3) [59])).av (l++[.mk 53 0 (nT ts (.g (i+1)) 3) []]):=by
    conv=>lhs;rw [dY,iJ]
    refine du (cg H h1) ?_
    refine aW (nW H _ ed 3) ?_
    refine aW (eY _ aNc) ?_
    refine aW (dN H _ o2 [59]) ?_
    rfl
   have I0:dJ (qS ts e' (.g i)).ao (qS ts e' (.g i)).bx (qS ts e' (.g i)).aw (qS ts e' (.g i)).av m=dJ (qS ts e' (wS ts (nS ts (.g (i+1)) 3) [59])).ao (qS ts e' (wS ts (nS ts (.g (i+1)) 3) [59])).bx (qS ts e' (wS ts (nS ts (.g (i+1)) 3) [59])).aw (qS ts e' (wS ts (nS ts (.g (i+1)) 3) [59])).av (m++[.mk 53 0 (nT ts (.g (i+1)) 3) []]):=by
    conv=>lhs;rw [dJ,dc]
    refine du (bE H h1) ?_
    refine aW (nC H _ ed rfl 3 (.inr rfl)) ?_
    refine aW (eY _ aNc) ?_
    refine aW (eM H _ o2 [59]) ?_
    rfl
   rw [S0,I0]
   generalize wS ts (nS ts (.g (i+1)) 3) [59]=s3 at*
   generalize nT ts (.g (i+1)) 3=t at*
   obtain ⟨s',x,y,f1,f2,f3,f4,f5,f6,f7,f8,f9⟩:=L9 H N s3 (l++[.mk 53 0 t []]) (m++[.mk 53 0 t []]) o3 d3 (λk hk=>by
    have:=GP k hk;simp only [abL,an,mg];omega)
   rw [aKy] at f1 f2
   have hx:x.length+1+i<=s'.pos+1/\y.length+1+i<=s'.pos+1:=by
    rcases zn d3 with ⟨k,hk⟩ | ⟨j,hj⟩
    ·have:=GP k hk
     rw [hk] at f6 f7
     have f6:x.length+k<=_:=f6
     have f7:y.length+k<=_:=f7
     omega
    ·obtain ⟨q1,q2⟩:=f8 ⟨j,hj⟩
     rw [q1,q2];simp only [mg];omega
   refine ⟨s',[.mk 53 0 t []]++x,[.mk 53 0 t []]++y,f1,f2,f3,f4,by show i<=_;omega,?_,?_,λ⟨j,hj⟩=>(by cases hj),λi' h=>?_⟩
   ·simp only [abL,an,mg];show _+i<=_;omega
   ·simp only [abL,an,mg];show _+i<=_;omega
   ·obtain ⟨k,r1,r2,r3,r4⟩:=f9 i' h
    have:=GP k r1
    subst r3
    refine ⟨i,rfl,by omega,rfl,?_⟩
    rw [gU,cG,iI,gv]
    omega
theorem Ma (H:Tk ts e):∀(N:Nat) (s:JS) (l m:List ae),s.Ok ts->s.nd=true->(∀i,s=.g i->ts.length - i<N/\l.length<=i+20/\m.length<=i+20)->
  ∃s' x y,dZ (pS ts e s).fT (pS ts e s).fI (pS ts e s).aw (pS ts e s).av l=some ((pS ts e s').fT,(pS ts e s').fI,(pS ts e s').aw,(pS ts e s').av,l++x)/\
   dK (qS ts e' s).ao (qS ts e' s).bx (qS ts e' s).aw (qS ts e' s).av m=some ((qS ts e' s').ao,(qS ts e' s').bx,(qS ts e' s').aw,(qS ts e' s').av,m++y)/\
   s'.Ok ts/\s'.nd=true/\s.pos<=s'.pos/\x.length+s.pos<=s'.pos+1/\y.length+s.pos<=s'.pos+1/\((∃j,s=.b j)->x=[]/\y=[])/\(∀i',s'=.g i'->∃i,s=.g i/\i<i'/\x=y/\(wl x:Int)+16384*(i:Int)+16384<=16384*(i':Int))
 | N,.d j,l,m,_,hd,_=>by cases hd
 | N,.b j,l,m,hs,_,_=>by
  refine ⟨.b j,[],[],?_,?_,hs,rfl,As _,by show 0+j<=j+1;omega,by show 0+j<=j+1;omega,λ_=>⟨rfl,rfl⟩,λi' h=>by cases h⟩
  ·rw [dZ];simp only [pD H,if_false,aKF]
  ·rw [dK];simp only [iL,if_true,aKF]
 | 0,.g i,_,_,_,_,h=>by have:=(h i rfl).1;omega
 | N+1,.g i,l,m,hs,_,hN=>by
  have hL:=H.len
  obtain ⟨hN,hl,hm⟩:=hN i rfl
  have hi:i<=ts.length:=hs
  cases h1:tw ts i [125] with
  | true=>
   have bc:=bU h1
   refine ⟨.g (i+1),[],[],?_,?_,bc,rfl,aKQ i,by show 0+i<=i+1+1;omega,by show 0+i<=i+1+1;omega,λ_=>⟨rfl,rfl⟩,λi' h=>by cases h;exact ⟨i,rfl,aKe i,rfl,by rw [gv];omega⟩⟩
   ·rw [dZ]
    simp only [jM,if_true,iJ,aKF]
    refine du (cg H h1) ?_
    rfl
   ·rw [dK]
    simp only [iM,if_false,dc,aKF]
    refine du (bE H h1) ?_
    rfl
  | false=>
   obtain ⟨s1,n,n',g1,g2,g3⟩:=TP (e':=e') H hi
   have hle:i<=s1.pos:=g3.le
   have d1:=g3.nd0
   have S0:dZ (pS ts e (.g i)).fT (pS ts e (.g i)).fI (pS ts e (.g i)).aw (pS ts e (.g i)).av l=dZ (pS ts e s1).fT (pS ts e s1).fI (pS ts e s1).aw (pS ts e s1).av (l++[n]):=by
    conv=>lhs;rw [dZ]
    simp only [jM,if_true,iJ]
    refine aF (ax (w:=[125]) H hs h1) ?_
    refine aW g1 ?_
    refine aW (eY _ aNc) ?_
    rfl
   have I0:dK (qS ts e' (.g i)).ao (qS ts e' (.g i)).bx (qS ts e' (.g i)).aw (qS ts e' (.g i)).av m=dK (qS ts e' s1).ao (qS ts e' s1).bx (qS ts e' s1).aw (qS ts e' s1).av (m++[n']):=by
    conv=>lhs;rw [dK]
    simp only [iM,if_false,dc]
    refine aF (ar (w:=[125]) H hs h1) ?_
    refine aW g2 ?_
    refine aW (eY _ aNc) ?_
    rfl
   rw [S0,I0]
   obtain ⟨s',x,y,f1,f2,f3,f4,f5,f6,f7,f8,f9⟩:=Ma H N s1 (l++[n]) (m++[n']) g3.ok d1 (λk hk=>by
    obtain ⟨k0,q1,q2,_⟩:=g3.good k hk
    cases q1
    have q3:k<=ts.length:=by have:=g3.ok;rw [hk] at this;exact this
    simp only [abL,an,mg];omega)
   rw [aKy] at f1 f2
   have hx:x.length+1+i<=s'.pos+1/\y.length+1+i<=s'.pos+1:=by
    rcases zn d1 with ⟨k,hk⟩ | ⟨j,hj⟩
    ·obtain ⟨k0,q1,q2,_⟩:=g3.good k hk
     cases q1
     rw [hk] at f6 f7
     have f6:x.length+k<=_:=f6
     have f7:y.length+k<=_:=f7
     omega
    ·obtain ⟨q1,q2⟩:=f8 ⟨j,hj⟩
     rw [q1,q2];simp only [mg];omega
   refine ⟨s',[n]++x,[n']++y,f1,f2,f3,f4,by show i<=_;omega,?_,?_,λ⟨j,hj⟩=>(by cases hj),λi' h=>?_⟩
   ·simp only [abL,an,mg];show _+i<=_;omega
   ·simp only [abL,an,mg];show _+i<=_;omega
   ·obtain ⟨k,r1,r2,r3,r4⟩:=f9 i' h
    obtain ⟨k0,q1,q2,q3,q4,_⟩:=g3.good k r1
    cases q1
    subst r3;subst q3
    refine ⟨i,rfl,by omega,rfl,?_⟩
    rw [gU,cG]
    omega
theorem IK (H:Tk ts e) (s:JS) (hs:s.Ok ts) (hd:s.nd=true) (a:List ae) (ha:a.length<=1) (k0:Int) (t0:aD):∃s' x y,
  (aL (pS ts e s) [123]>>=λv24=>(dY v24.fT v24.fI v24.aw v24.av a:Option ((List ah)×Int×Int×Int×(List ae)))>>=λ(xO,QO,Ol,y29,H7)=>(dZ xO QO Ol y29 H7:Option ((List ah)×Int×Int×Int×(List ae)))>>=λ(l59,y60,y61,y62,Jc)=>some ((ae.mk k0 0 t0 Jc),(aC.mk l59 y60 y61 y62)))=some (.mk k0 0 t0 (a++x),pS ts e s')/\
  im (qS ts e' s)=some (y,qS ts e' s')/\s'.Ok ts/\s'.nd=true/\s.pos<=s'.pos/\y.length<=9000/\
  (∀i',s'=.g i'->∃i,s=.g i/\i+1<i'/\x=y/\(wl x:Int)+16384*(i:Int)+32768<=16384*(i':Int)):=by
 have hL:=H.len
 have o1:=jU hs [123]
 have d1:=me (ts:=ts) s [123]
 have b1:=fL (ts:=ts) s [123]
 have FR:=okp o1
 obtain ⟨s2,x1,y1,f1,f2,f3,f4,f5,f6,f7,f8,f9⟩:=L9 (e':=e') H (ts.length+1) (wS ts s [123]) a [] o1 d1 (λi hi=>⟨by omega,by omega,by simp⟩)
 have My:=okp f3
 obtain ⟨s',x2,y2,g1,g2,g3,g4,g5,g6,g7,g8,g9⟩:=Ma (e':=e') H (ts.length+1) s2 (a++x1) ([]++y1) f3 f4 (λi hi=>by
  rw [hi] at f6 f7
  have f6:x1.length+_<=i+1:=f6
  have f7:y1.length+_<=i+1:=f7
  simp only [abL,mg]
  omega)
 have hp3:=okp g3
 rw [aKy] at g1
 rw [aKk] at g2 f2
 refine ⟨s',x1++x2,y1++y2,?_,?_,g3,g4,by omega,by rw [abL];omega,λi' h=>?_⟩
 ·refine aW (dN H _ hs [123]) ?_
  refine aW f1 ?_
  refine aW g1 ?_
  rfl
 ·unfold im
  refine aW (eM H _ hs [123]) ?_
  refine aW f2 ?_
  refine aW g2 ?_
  rfl
 ·obtain ⟨k,r1,r2,r3,r4⟩:=g9 i' h
  obtain ⟨k1,r5,r6,r7,r8⟩:=f9 k r1
  obtain ⟨k2,r9,r10,_⟩:=eV r5
  subst r3;subst r7
  exact ⟨k2,r9,by omega,rfl,by rw [gU];omega⟩
theorem am2 (H:Tk ts e) {i:Nat} (bc:i<ts.length) (h59:tw ts i [59]=false) (tM yr:List ae) (hl:yr.length<=9000):∃s' n m,
  (bZ (pS ts e (.g i)).fT (pS ts e (.g i)).fI (pS ts e (.g i)).aw (pS ts e (.g i)).av tM yr=bZ (pS ts e s').fT (pS ts e s').fI (pS ts e s').aw (pS ts e s').av tM (yr++[n]))/\
  lW (qS ts e' (.g i))=some (m,qS ts e' s')/\Rs ts false 0 (.g i) s' n m:=by
 have hL:=H.len
 have hs:(JS.g i).Ok ts:=aKC bc
 have hi:i<=ts.length:=aKC bc
 obtain ⟨fb,hfb,P5,Q5⟩:∃fb:Bool,(fb=true->tw ts i [102,117,110,99,116,105,111,110]=true)/\
   (bq (pS ts e (.g i)) 0 3 [102,117,110,99,116,105,111,110]>>=λ(v40,zC)=>(if v40=true then bq zC 1 3 []>>=λ(xc,qO)=>some (qO.fT,qO.fI,qO.aw,qO.av,xc) else some (zC.fT,zC.fI,zC.aw,zC.av,false)):Option ((List ah)×Int×Int×Int×Bool))=some ((pS ts e (.g i)).fT,(pS ts e (.g i)).fI,(pS ts e (.g i)).aw,(pS ts e (.g i)).av,fb)/\
   (aV (qS ts e' (.g i)) 0 [102,117,110,99,116,105,111,110]>>=λ(v9,v10)=>(if v9=true then cD v10 1>>=λ(ml,wV)=>some (wV.ao,wV.bx,wV.aw,wV.av,(ml.ai==3)) else some (v10.ao,v10.bx,v10.aw,v10.av,false)):Option ((List ah)×Int×Int×Bool×Bool))=some ((qS ts e' (.g i)).ao,(qS ts e' (.g i)).bx,(qS ts e' (.g i)).aw,(qS ts e' (.g i)).av,fb):=by
  cases hf:tw ts i [102,117,110,99,116,105,111,110] with
  | false=>
   refine ⟨false,λh=>aNy,?_,?_⟩
   ·rw [dG H _ hs 3 [102,117,110,99,116,105,111,110] aNd,sb]
    dsimp only
    rw [a0n H aNd aNd,hf,if_neg aNd]
   ·rw [eZ H _ hs,sb]
    dsimp only
    rw [show tw ts (JS.g i).pos [102,117,110,99,116,105,111,110]=false from hf,if_neg aNd]
  | true=>
   refine ⟨kd ts (i+1)==3,λ_=>rfl,?_,?_⟩
   ·rw [dG H _ hs 3 [102,117,110,99,116,105,111,110] aNd,sb]
    dsimp only
    rw [a0n H aNd aNd,hf,if_pos rfl,aCw H _ hs 3 [] aNd,sb]
    dsimp only
    rw [show aS ts (.g i) 1 3 []=(kd ts (i+1)==3) by
     show (kd ts (i+1)==3&&(([]:aD)==([]:aD)||_))=_
     rw [show (([]:aD)==([]:aD))=true from rfl,aLb,aKv]]
   ·rw [eZ H _ hs,sb]
    dsimp only
    rw [show tw ts (JS.g i).pos [102,117,110,99,116,105,111,110]=true from hf,if_pos rfl,am3 H _ hs,sb]
    rfl
 have I0:=lW.eq_1 (qS ts e' (.g i))
 rw [Q5,sb] at I0
 dsimp only at I0
 have S0:=bZ.eq_1 (pS ts e (.g i)).fT (pS ts e (.g i)).fI (pS ts e (.g i)).aw (pS ts e (.g i)).av tM yr
 have uV:(pS ts e (.g i)).fI<((pS ts e (.g i)).fT.length:Int):=by show (i:Int)<(ts.length:Int);omega
 rw [if_pos (of_eq_true jM),if_pos uV,iJ,ax (w:=[59]) H hs h59,sb] at S0
 dsimp only at S0
 rw [if_neg aNd,P5,sb] at S0
 dsimp only at S0
 cases fb with
 | true=>
  rw [if_pos rfl,pK H hi] at I0
  rw [if_pos rfl,qD H hi] at S0
  have ed:(JS.g (i+1)).Ok ts:=bc
  have o2:=qG ed (k:=3) aNd
  have d2:=tc (ts:=ts) (.g (i+1)) 3
  have t2:=iK H (.g (i+1)) 3
  have b2:=lM (ts:=ts) (.g (i+1)) 3
  have b2:i+1<=(nS ts (.g (i+1)) 3).pos:=b2
  obtain ⟨s',l,m,b,b',⟨s5,g1,g2,g3,g4⟩,r1,r2,r3,r4,r5,r6⟩:=Rx (e':=e') H _ o2 d2
  rw [nC H _ ed rfl 3 (.inr rfl),sb] at I0
  dsimp only at I0
  rw [g3,sb] at I0
  dsimp only at I0
  rw [g4,sb] at I0
  dsimp only at I0
  rw [eY _ aNc,sb] at I0
  refine ⟨s',.mk 49 0 (nT ts (.g (i+1)) 3) (l++[b]),_,?_,I0,Rs.node aNd r1 r2 aNc (λi' h'=>?_)⟩
  ·rw [S0,nW H _ ed 3,sb]
   dsimp only
   rw [g1,sb]
   dsimp only
   rw [g2,sb]
   dsimp only
   rw [eY _ aNc,sb,eY _ aNc,sb]
  ·obtain ⟨k,q1,q2,q3,q4,q5⟩:=r6 i' h'
   obtain ⟨k1,q6,q7,_⟩:=lj q1
   cases q6
   subst q3;subst q4
   exact ⟨by omega,rfl,rfl,by omega⟩
 | false=>
  rw [if_neg aNd,dc] at I0
  rw [if_neg aNd,iJ] at S0
  cases hc:tw ts i [99,108,97,115,115] with
  | true=>
   have ed:(JS.g (i+1)).Ok ts:=bc
   rw [bE H hc,sb] at I0
   rw [cg H hc,sb] at S0
   dsimp only at S0 I0
   rw [if_pos rfl] at S0
   rw [if_pos rfl,nC H _ ed rfl 3 (.inr rfl),sb] at I0
   dsimp only at I0
   have o2:=qG ed (k:=3) aNd
   have d2:=tc (ts:=ts) (.g (i+1)) 3
   have t2:=iK H (.g (i+1)) 3
   have b2:=lM (ts:=ts) (.g (i+1)) 3
   have b2:i+1<=(nS ts (.g (i+1)) 3).pos:=b2
   have pL:∀k,nS ts (.g (i+1)) 3=.g k->k=i+2:=λk hk=>by
    obtain ⟨k2,q3,q4,_⟩:=lj hk
    cases q3;omega
   have C0:=lA.eq_1 (pS ts e (.g (i+1))) 50
   rw [nW H _ ed 3,sb] at C0
   dsimp only at C0
   rw [if_pos rfl] at C0
   generalize nT ts (.g (i+1)) 3=t at*
   generalize nS ts (.g (i+1)) 3=s2 at*
   rcases IF (ts:=ts) s2 [101,120,116,101,110,100,115] with h | ⟨i2,rfl,h⟩
   ·rw [ax (w:=[101,120,116,101,110,100,115]) H o2 h,sb] at C0
    dsimp only at C0
    rw [if_neg aNd,sb] at C0
    dsimp only at C0
    rw [iJ] at C0
    obtain ⟨s',x,y,f1,f2,f3,f4,f5,f6,f7⟩:=IK (e':=e') H s2 o2 d2 [] aNf 50 t
    rw [f1] at C0
    rw [ar (w:=[101,120,116,101,110,100,115]) H o2 h,sb] at I0
    dsimp only at I0
    rw [if_neg aNd,f2,sb] at I0
    dsimp only at I0
    rw [show must (y.length*56<=140737488355328)=some () from if_pos aNc,sb] at I0
    refine ⟨s',.mk 50 0 t ([]++x),_,?_,I0,Rs.node aNd f3 f4 aNc (λi' h'=>?_)⟩
    ·rw [S0,C0,sb]
     dsimp only
     rw [eY _ aNc,sb]
    ·obtain ⟨k,q1,q2,q3,q4⟩:=f7 i' h'
     have:=pL k q1
     subst q3
     exact ⟨by omega,rfl,rfl,by rw [aKk];omega⟩
   ·have:=pL i2 rfl
    subst this
    have x7:(JS.g (i+2+1)).Ok ts:=bU h
    have o4:=qG x7 (k:=3) aNd
    have d4:=tc (ts:=ts) (.g (i+2+1)) 3
    have t4:=iK H (.g (i+2+1)) 3
    have b4:=lM (ts:=ts) (.g (i+2+1)) 3
    have b4:i+2+1<=(nS ts (.g (i+2+1)) 3).pos:=b4
    rw [cg H h,sb] at C0
    dsimp only at C0
    rw [if_pos rfl,nW H _ x7 3,sb] at C0
    dsimp only at C0
    rw [show must (1*56<=140737488355328)=some () from rfl,sb,sb] at C0
    dsimp only at C0
    rw [iJ] at C0
    rw [bE H h,sb] at I0
    dsimp only at I0
    rw [if_pos rfl,nC H _ x7 rfl 3 (.inr rfl),sb] at I0
    dsimp only at I0
    rw [show must (1*56<=140737488355328)=some () from rfl,sb] at I0
    have abE:∀k,nS ts (.g (i+2+1)) 3=.g k->k=i+4:=λk hk=>by
     obtain ⟨k2,q3,q4,_⟩:=lj hk
     cases q3;omega
    generalize nT ts (.g (i+2+1)) 3=t4x at*
    generalize nS ts (.g (i+2+1)) 3=s4 at*
    obtain ⟨s',x,y,f1,f2,f3,f4,f5,f6,f7⟩:=IK (e':=e') H s4 o4 d4 [.mk 52 0 t4x []] aNf 50 t
    rw [f1] at C0
    rw [f2,sb] at I0
    dsimp only at I0
    rw [jX aNm,sb] at I0
    refine ⟨s',.mk 50 0 t ([.mk 52 0 t4x []]++x),_,?_,I0,Rs.node aNd f3 f4 aNc (λi' h'=>?_)⟩
    ·rw [S0,C0,sb]
     dsimp only
     rw [eY _ aNc,sb]
    ·obtain ⟨k,q1,q2,q3,q4⟩:=f7 i' h'
     have:=abE k q1
     subst q3
     exact ⟨by omega,rfl,rfl,by rw [gU,cG,iI,gv];omega⟩
  | false=>
   rw [ar (w:=[99,108,97,115,115]) H hs hc,sb] at I0
   dsimp only at I0
   rw [if_neg aNd] at I0
   rw [ax (w:=[99,108,97,115,115]) H hs hc,sb] at S0
   dsimp only at S0
   rw [if_neg aNd] at S0
   cases ht:tw ts i [116,114,97,105,116] with
   | true=>
    have ed:(JS.g (i+1)).Ok ts:=bc
    rw [bE H ht,sb] at I0
    dsimp only at I0
    rw [if_pos rfl,nC H _ ed rfl 3 (.inr rfl),sb] at I0
    dsimp only at I0
    rw [cg H ht,sb] at S0
    dsimp only at S0
    rw [if_pos rfl] at S0
    have o2:=qG ed (k:=3) aNd
    have d2:=tc (ts:=ts) (.g (i+1)) 3
    have t2:=iK H (.g (i+1)) 3
    have b2:=lM (ts:=ts) (.g (i+1)) 3
    have b2:i+1<=(nS ts (.g (i+1)) 3).pos:=b2
    have pL:∀k,nS ts (.g (i+1)) 3=.g k->k=i+2:=λk hk=>by
     obtain ⟨k2,q3,q4,_⟩:=lj hk
     cases q3;omega
    have C0:=lA.eq_1 (pS ts e (.g (i+1))) 51
    rw [nW H _ ed 3,sb] at C0
    dsimp only at C0
    rw [if_neg aNd,sb] at C0
    dsimp only at C0
    rw [iJ] at C0
    generalize nT ts (.g (i+1)) 3=t at*
    generalize nS ts (.g (i+1)) 3=s2 at*
    obtain ⟨s',x,y,f1,f2,f3,f4,f5,f6,f7⟩:=IK (e':=e') H s2 o2 d2 [] aNf 51 t
    rw [f1] at C0
    rw [f2,sb] at I0
    refine ⟨s',.mk 51 0 t ([]++x),_,?_,I0,Rs.node aNd f3 f4 aNc (λi' h'=>?_)⟩
    ·rw [S0,C0,sb]
     dsimp only
     rw [eY _ aNc,sb]
    ·obtain ⟨k,q1,q2,q3,q4⟩:=f7 i' h'
     have:=pL k q1
     subst q3
     exact ⟨by omega,rfl,rfl,by rw [aKk];omega⟩
   | false=>
    rw [ar (w:=[116,114,97,105,116]) H hs ht,sb] at I0
    dsimp only at I0
    rw [if_neg aNd] at I0
    rw [ax (w:=[116,114,97,105,116]) H hs ht,sb] at S0
    dsimp only at S0
    rw [if_neg aNd] at S0
    obtain ⟨s',n,m,g1,g2,g3⟩:=(ahr (e':=e') H (.g i) hs rfl).stmt
    rw [g2,sb] at I0
    refine ⟨s',n,m,?_,I0,g3⟩
    rw [S0,g1,sb]
    dsimp only
    rw [eY _ aNc,sb]
theorem we (H:Tk ts e):∀(N:Nat) (s:JS) (l0 l1 l m:List ae),s.Ok ts->s.nd=true->(∀i,s=.g i->ts.length - i<N/\l.length<=i/\l=m/\(wl l:Int)<=16384*(i:Int))->
  ∃s' x y,bZ (pS ts e s).fT (pS ts e s).fI (pS ts e s).aw (pS ts e s).av l0 l=some ((pS ts e s').fT,(pS ts e s').fI,(pS ts e s').aw,(pS ts e s').av,l0,x)/\
   dy ts l1 (qS ts e' s).ao (qS ts e' s).bx (qS ts e' s).aw (qS ts e' s).av m=some (l1,(qS ts e' s').ao,(qS ts e' s').bx,(qS ts e' s').aw,(qS ts e' s').av,y)/\
   s'.Ok ts/\s'.nd=true/\(∀i',s'=.g i'->x=y/\(wl x:Int)<=16384*(i':Int))
 | N,.d j,_,_,_,_,_,hd,_=>by cases hd
 | N,.b j,l0,l1,l,m,hs,_,_=>by
  refine ⟨.b j,l,m,?_,?_,hs,rfl,λi' h=>by cases h⟩
  ·rw [bZ];simp only [pD H,if_false]
  ·rw [dy];simp only [iL,if_true]
 | 0,.g i,_,_,_,_,_,_,h=>by have:=(h i rfl).1;omega
 | N+1,.g i,l0,l1,l,m,hs,_,hN=>by
  have hL:=H.len
  obtain ⟨hN,hl,rfl,hw⟩:=hN i rfl
  have hi:i<=ts.length:=hs
  by_cases bc:i<ts.length
  ·have uV:(pS ts e (.g i)).fI<((pS ts e (.g i)).fT.length:Int):=by show (i:Int)<(ts.length:Int);omega
   have amZ:(qS ts e' (.g i)).bx<(ts.length:Int):=by show (i:Int)<(ts.length:Int);omega
   have I0:=dy.eq_1 ts l1 (qS ts e' (.g i)).ao (qS ts e' (.g i)).bx (qS ts e' (.g i)).aw (qS ts e' (.g i)).av l
   simp only [iM,if_false,if_pos amZ,dc] at I0
   cases h59:tw ts i [59] with
   | true=>
    have S0:=bZ.eq_1 (pS ts e (.g i)).fT (pS ts e (.g i)).fI (pS ts e (.g i)).aw (pS ts e (.g i)).av l0 l
    simp only [jM,if_true,if_pos uV,iJ,cg H h59,sb] at S0
    simp only [bE H h59,sb,if_true] at I0
    rw [S0,I0]
    exact we H N (.g (i+1)) l0 l1 l l bc rfl (λk hk=>by cases hk;exact ⟨by omega,by omega,rfl,by omega⟩)
   | false=>
    obtain ⟨s',n,n',g1,g2,g3⟩:=am2 (e':=e') H bc h59 l0 l aNc
    simp only [ar (w:=[59]) H hs h59,sb,amb,if_false,g2,eY n' (show l.length<=20000 by omega)] at I0
    rw [g1,I0]
    refine we H N s' l0 l1 (l++[n]) (l++[n']) g3.ok g3.nd0 (λk hk=>?_)
    obtain ⟨k0,q1,q2,q3,q4,_⟩:=g3.good k hk
    cases q1
    have q5:k<=ts.length:=by have:=g3.ok;rw [hk] at this;exact this
    subst q3
    refine ⟨by omega,by simp only [abL,an,mg];omega,rfl,?_⟩
    rw [gU,cG]
    omega
  ·obtain rfl:i=ts.length:=by omega
   refine ⟨.g ts.length,l,l,?_,?_,hs,rfl,λi' h=>by cases h;exact ⟨rfl,hw⟩⟩
   ·rw [bZ]
    simp only [jM,if_true]
    rw [if_neg (show ¬(pS ts e (.g ts.length)).fI<((pS ts e (.g ts.length)).fT.length:Int) from λh=>by have h:(ts.length:Int)<(ts.length:Int):=h;omega)]
   ·rw [dy]
    simp only [iM,if_false]
    rw [if_neg (show ¬(qS ts e' (.g ts.length)).bx<(ts.length:Int) from λh=>by have h:(ts.length:Int)<(ts.length:Int):=h;omega)]
end
set_option maxRecDepth 100000
theorem Aw (s:aD) (hs:s.length<=1048576):∃(n:ae) (k p:Int),kl s=some (n,k,p)/\iR s=some (n,k,p)/\wt n<=134217728:=by
 unfold kl iR
 obtain ⟨ts,k,p,l1,l2,l3⟩:=abO s
 rw [l1,l2,sb,sb]
 dsimp only
 by_cases hk:k=0
 ·obtain ⟨hp,hT⟩:=l3 hk
  have H:Tk ts (s.length:Int):=hT _ aNc
  have hl:=H.len
  rw [if_pos hk,if_pos hk]
  obtain ⟨s',x,y,p1,p2,ok,nd,good⟩:=we (e':=(s.length:Int)) H (ts.length+1) (.g 0) [] [] [] [] (aLl _) rfl (λi hi=>by cases hi;exact ⟨by omega,by simp,rfl,by rw [gv];simp⟩)
  replace p1:bZ ts 0 (s.length:Int) (-1) [] []=_:=p1
  replace p2:dy ts [] ts 0 (s.length:Int) false []=_:=p2
  have q1:lZ (aC.mk ts 0 (s.length:Int) (-1))=some (ae.mk 56 0 [] x,pS ts (s.length:Int) s'):=by
   unfold lZ
   dsimp only
   rw [p1,sb]
  rw [q1,p2,sb,sb]
  dsimp only
  cases s' with
  | d j=>cases nd
  | g i=>
   obtain ⟨hxy,hw⟩:=good i rfl
   subst hxy
   have hi:i<=ts.length:=ok
   have hwt:wt (ae.mk 56 0 [] x)<=134217728:=by rw [iI];simp only [mg];omega
   obtain ⟨v1,v2⟩:=J3 _ hwt
   show ∃n' k' p',(if (-1:Int)>=0 then _ else _)=_/\(if false=true then _ else _)=_/\_
   rw [if_neg (show ¬((-1:Int)>=0) by decide),if_neg (show ¬(false=true) by decide),v1,v2,sb,sb]
   cases vZ (ae.mk 56 0 [] x)
   ·exact aNa
   ·rw [if_pos rfl,if_pos rfl,Ry (wt (ae.mk 56 0 [] x)+1) _ aNc aNc,sb]
    exact ⟨_,_,_,rfl,rfl,hwt⟩
  | b j=>
   have h0:=am4 H j
   have hj:j<=ts.length:=ok
   show ∃n' k' p',(if pl ts (s.length:Int) j>=0 then some (ae.mk 0 0 [] [],(10:Int),pl ts (s.length:Int) j) else _)=_/\(if true=true then _ else _)=_/\_
   rw [if_pos h0,if_pos rfl]
   have pe:ki (ak.mk (qS ts (s.length:Int) (.b j)).ao (qS ts (s.length:Int) (.b j)).bx (qS ts (s.length:Int) (.b j)).aw (qS ts (s.length:Int) (.b j)).av)=some (pl ts (s.length:Int) j,qS ts (s.length:Int) (.b j)):=by
    unfold ki
    show (if (j:Int)<(ts.length:Int) then _ else _)=_
    unfold pl
    by_cases bc:j<ts.length
    ·rw [if_pos aNc,if_pos bc]
     show (idx ts (j:Int)>>=_)=_
     rw [ig bc,sb]
    ·rw [if_neg aNc,if_neg bc]
     rfl
   rw [pe,sb]
   exact aNa
 ·rw [if_neg hk,if_neg hk]
  exact aNa
theorem BN (s:aD):gV s=some true:=by
 unfold gV
 by_cases hs:(s.length:Int)>1048576
 ·rw [if_pos hs]
 rw [if_neg hs]
 obtain ⟨n,k,p,e1,e2,hw⟩:=Aw s aNc
 have q:=ahs (wt n+1) n aNc aNc
 obtain ⟨z,m,e3,e4⟩:=aCx n aNc
 have hz:¬((z:Nat):Int)<0:=by omega
 simp only [e1,e2,sb,TM,q,if_true,e3,e4,if_neg hz]
theorem Cm (s:aD):ACall Tryz.prog 7 [.str s] [] (λres _=>res=.bool true):=(te (BN s)).mono (λ_ _ h=>h.1)
end Go.Am
