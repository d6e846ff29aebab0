/- Texts of the proof, joined and shortened. -/
import Derived.Test.YtiigfbapjeefbaaGreatDoorPk2
set_option linter.unusedVariables false
set_option linter.unusedSimpArgs false
namespace Go.Am
open Go Go.RowKit
section
variable {P:Program} {T:o9} {μ:Mu} {h h1:List ak} {S:Nat->Prop} {w:World}
theorem P6 (hc:Core μ h S w) (hx:J5 h h1):∃μ',Fr μ h S w μ' h1 S w/\Core μ' h1 S w:=by
 obtain ⟨id,g,sz,n,e,f,i,j,cr,n',e',f',F,f1,hh,hi,hj,P4,hf2,rfl⟩:=hx
 have hid:id<h.length:=(An.1 hh).1
 obtain ⟨hl,bs⟩:=hc.heap id g sz n e f hh
 have K0:j<sz:=by rw [<-hl i hi];exact (An.1 hj).1
 have yW:∃b0 Ae KH v,μ id=some (b0,Ae)/\w.heap[b0]? =some (.cells KH e (0,0))/\Ae+n*sz<=KH.size/\KH[Ae+i*sz+j]? =some v/\mg S w (.dY cr n' e' f' F) v/\
   ∀(i j:Nat) (pv:PV),i<n->(f i)[j]? =some pv->∃v:Value,KH[Ae+i*sz+j]? =some v/\pd μ h S w pv v:=by
  cases hC:μ id with
  | none=>rw [hC] at bs;have bs:n=0:=bs;omega
  | some p=>
   obtain ⟨b0,Ae⟩:=p
   rw [hC] at bs
   obtain ⟨o,q1,q2⟩:=bs
   cases o with
   | cells KH e0 z=>
    obtain ⟨rfl,rfl,q3,q4⟩:=q2
    obtain ⟨v,r1,r2⟩:=q4 i j _ hi hj
    exact ⟨b0,Ae,KH,v,rfl,q1,q3,r1,r2,q4⟩
   | map es c=>
    obtain ⟨kp,vp,en,y1,y2,y3,_⟩:=q2.2 i hi
    rw [y1] at hj
    match j,hj with
    | 0,hj=>simp at hj;rw [hj] at y2;cases y2
    | 1,hj=>simp at hj;rw [hj] at y3;cases y3
    | y+2,hj=>simp at hj
   | _=>exact q2.elim
 obtain ⟨b0,Ae,KH,v,hC,Hr,um,Qf,htv,jS⟩:=yW
 have aag:∀b,F b->dU h id i j b:=λb hb=>⟨_,_,_,_,_,_,_,_,_,_,hh,hi,hj,hb⟩
 obtain ⟨p,hp⟩:∃p:Option (Nat×Nat),match p with
   | none=>v=.slice none 0 0/\n'=0
   | some (b,off)=>F b/\∃(c:Nat) (a:Addr) (cur:Array Value),w.heap[b]? =some (.cells cur e' (0,0))/\v=.slice (some a) n' c/\n'<=c/\(0<c->a=⟨b,off,none⟩)/\off+c*cr<=cur.size/\(∀i,i<n'->(f' i).length=cr)/\
     (∀(i j:Nat) (pv:PV),i<n'->(f' i)[j]? =some pv->∃u,cur[off+i*cr+j]? =some u/\(aY S w pv u\/∃s2 n2 e2 f2 F2,pv=.dY s2 n2 e2 f2 F2/\mg S w (.dY s2 n2 e2 f2 F2) u))/\
     (∀(i j lG n2:Nat) (e2:TypeId) (f2:Nat->List PV) (F2:Nat->Prop),i<n'->(f' i)[j]? =some (.dY lG n2 e2 f2 F2)->∀b',F2 b'->F b'/\b'≠b)/\
     (∀(i j lG n2:Nat) (e2:TypeId) (f2:Nat->List PV) (F2:Nat->Prop) (i' j' sz3 n3:Nat) (e3:TypeId) (f3:Nat->List PV) (F3:Nat->Prop),i<n'->(f' i)[j]? =some (.dY lG n2 e2 f2 F2)->i'<n'->(f' i')[j']? =some (.dY sz3 n3 e3 f3 F3)->∀b',F2 b'->F3 b'->i=i'/\j=j'):=by
  cases htv with
  | nil _ _ _ _ hF=>exact ⟨none,rfl,rfl⟩
  | KE _ _ _ _ _ b off c a cur vf hF hb hlen hcc ha fY hcel pa u7 Ep KF=>
   refine ⟨some (b,off),hF,c,a,cur,hb,rfl,hcc,ha,fY,hlen,λi j pv hi hj=>⟨_,hcel i j pv hi hj,?_⟩,Ep,KF⟩
   rcases pa i j pv hi hj with q | ⟨s2,n2,e2,f2,F2,rfl⟩
   ·exact .inl q
   ·exact .inr ⟨s2,n2,e2,f2,F2,rfl,u7 i j _ _ _ _ _ hi hj⟩
 have hpF:∀b off,p=some (b,off)->F b:=λb off hq=>by subst hq;exact hp.1
 generalize hh1:h.set id (ak.row g sz n e f1)++[ak.row 0 cr n' e' f']=h1
 have aGC:h1.length=h.length+1:=by rw [<-hh1];simp
 have xr:h1[id]? =some (ak.row g sz n e f1):=by rw [<-hh1,aIk (by simpa using hid)];simp [hid]
 have A8:h1[h.length]? =some (ak.row 0 cr n' e' f'):=by rw [<-hh1,aIc aKN];simp
 have cM:∀k,k≠id->k<h.length->h1[k]? =h[k]? :=λk hk hkl=>by rw [<-hh1,aIk (by simpa using hkl),aId (aIT hk)]
 have inv:∀k o,h1[k]? =some o->(k=id/\o=ak.row g sz n e f1)\/(k=h.length/\o=ak.row 0 cr n' e' f')\/(k≠id/\k<h.length/\h[k]? =some o):=λk o hk=>by
  by_cases h2:k=id
  ·subst h2;rw [xr] at hk;injection hk with hk;exact .inl ⟨rfl,hk.symm⟩
  ·by_cases h3:k=h.length
   ·subst h3;rw [A8] at hk;injection hk with hk;exact .inr (.inl ⟨rfl,hk.symm⟩)
   ·have h4:k<h.length:=by have:=(An.1 hk).1;omega
    rw [cM k h2 h4] at hk
    exact .inr (.inr ⟨h2,h4,hk⟩)
 let μ1:Mu:=nF μ h.length p
 have Db:μ1 h.length=p:=bB _ _ _
 have pf:∀k,k<h.length->μ1 k=μ k:=λk hk=>dt μ _ aKK
 have Dc:∀x y pv,x<n->(f1 x)[y]? =some pv->((x,y)=(i,j)/\pv=.own h.length 0 0 n')\/((x,y)≠(i,j)/\(f x)[y]? =some pv):=λx y pv hx hy=>by
  by_cases hxi:x=i
  ·subst hxi
   rw [P4,aJq] at hy
   by_cases hyj:j=y
   ·subst hyj
    rw [if_pos rfl,if_pos (by rw [hl x hx];exact K0)] at hy
    injection hy with hy
    exact .inl ⟨rfl,hy.symm⟩
   ·rw [if_neg hyj] at hy
    exact .inr ⟨λq=>hyj (by injection q with _ q;exact q.symm),hy⟩
  ·rw [hf2 x hx hxi] at hy
   exact .inr ⟨λq=>hxi (by injection q),hy⟩
 have eN:∀k x y b,dU h1 k x y b->(k≠h.length/\¬(k=id/\x=i/\y=j)/\dU h k x y b)\/(k=h.length/\dU h id i j b/\∃lG n2 e2 f2 F2,x<n'/\(f' x)[y]? =some (.dY lG n2 e2 f2 F2)/\F2 b):=λk x y b ⟨g2,s2,n2,e2,f2,s3,n3,e3,f3,F3,q1,q2,q3,q4⟩=>by
  rcases inv k _ q1 with ⟨rfl,ho⟩ | ⟨rfl,ho⟩ | ⟨h2,h3,h4⟩
  ·injection ho with a1 a2 a3 a4 a5
   subst a1 a2 a3 a4 a5
   rcases Dc x y _ q2 q3 with ⟨_,hq⟩ | ⟨mJ,hq⟩
   ·cases hq
   ·exact .inl ⟨by omega,λ⟨_,b1,b2⟩=>mJ (by rw [b1,b2]),_,_,_,_,_,_,_,_,_,_,hh,q2,hq,q4⟩
  ·injection ho with a1 a2 a3 a4 a5
   subst a1 a2 a3 a4 a5
   refine .inr ⟨rfl,aag b ?_,_,_,_,_,_,q2,q3,q4⟩
   cases p with
   | none=>have:=hp.2;omega
   | some pp=>
    obtain ⟨pb,alG⟩:=pp
    obtain ⟨_,_,_,_,_,_,_,_,_,_,_,hs,_⟩:=hp
    exact (hs x y _ _ _ _ _ q2 q3 b q4).1
  ·exact .inl ⟨by omega,λ⟨b1,_⟩=>h2 b1,_,_,_,_,_,_,_,_,_,_,h4,q2,q3,q4⟩
 have Dd:∀b,CG μ1 h1 b->CG μ h b\/(∃off,p=some (b,off)):=λb ⟨k,g2,s2,n2,e2,f2,base,q1,q2⟩=>by
  rcases inv k _ q1 with ⟨rfl,ho⟩ | ⟨rfl,ho⟩ | ⟨h2,h3,h4⟩
  ·rw [pf k hid] at q2
   exact .inl ⟨k,_,_,_,_,_,_,hh,q2⟩
  ·rw [Db] at q2
   exact .inr ⟨base,q2⟩
  ·rw [pf k h3] at q2
   exact .inl ⟨k,_,_,_,_,_,_,h4,q2⟩
 have lE:∀b,di μ1 h1 b->di μ h b:=λb hb=>by
  rcases hb with hb | ⟨k,x,y,hb⟩
  ·rcases Dd b hb with q | ⟨off,q⟩
   ·exact .inl q
   ·exact .inr ⟨_,_,_,aag b (hpF b off q)⟩
  ·rcases eN k x y b hb with ⟨_,_,q⟩ | ⟨_,q,_⟩
   ·exact aKJ
   ·exact aKJ
 have jG:Fr μ h S w μ1 h1 S w:=by
  refine ⟨by omega,λ_ _ _=>rfl,λ_ hb=>hb,λ_ hb=>.inl hb,λb hb=>.inl (lE b hb),No _,rfl,rfl,rfl,λk g2 s2 n2 e2 f2 hk=>?_,λk hk=>?_,λ_ _ _ hc=>hc,λk g2 s2 n2 e2 f2 b base hk hm mu=>⟨mu,.inr ⟨?_,?_⟩⟩,λ_ _ _ _ _ mu=>mu⟩
  ·have hkl:=(An.1 hk).1
   by_cases xf:k=id
   ·subst xf
    rw [hh] at hk
    injection hk with hk
    injection hk with a1 a2 a3 a4 a5
    subst a1 a2 a3 a4 a5
    rw [xr]
    exact ⟨No _,λ_=>⟨pf _ hid,rfl,rfl,rfl⟩⟩
   ·rw [cM k xf hkl,hk]
    exact ⟨No _,λ_=>⟨pf k hkl,rfl,rfl,rfl⟩⟩
  ·have hkl:=(An.1 hk).1
   rw [cM k (by rintro rfl;rw [hh] at hk;cases hk) hkl];exact hk
  ·have hkl:=(An.1 hk).1
   by_cases xf:k=id
   ·subst xf;exact ⟨_,_,_,_,_,xr⟩
   ·exact ⟨_,_,_,_,_,(cM k xf hkl).trans hk⟩
  ·rw [pf k (An.1 hk).1];exact hm
 refine ⟨μ1,jG,⟨λk g2 s2 n2 e2 f2 hk=>?_,⟨λb hb=>hc.ok.apart b (lE b hb),λb hb=>hc.ok.lt b (lE b hb),hc.ok.slt,?_,hc.ok.known,λb hb k x y hx=>?_,λb k x y k' x' y' hx uo=>?_⟩⟩⟩
 ·rcases inv k _ hk with ⟨rfl,ho⟩ | ⟨rfl,ho⟩ | ⟨h2,h3,h4⟩
  ·injection ho with a1 a2 a3 a4 a5
   subst a1 a2 a3 a4 a5
   refine ⟨λx hx=>?_,?_⟩
   ·by_cases hxi:x=i
    ·subst hxi;rw [P4,aJw];exact hl x hx
    ·rw [hf2 x hx hxi];exact hl x hx
   ·rw [pf k hid,hC]
    refine ⟨_,Hr,rfl,rfl,um,λx y pv hx hy=>?_⟩
    rcases Dc x y pv hx hy with ⟨hq,rfl⟩ | ⟨_,hq⟩
    ·injection hq with r1 r2
     subst r1 r2
     refine ⟨v,Qf,?_⟩
     show bC μ1 h1 w h.length 0 0 n' v
     unfold bC
     rw [A8]
     cases p with
     | none=>
      obtain ⟨rfl,rfl⟩:=hp
      exact ⟨⟨_,_,_,rfl⟩,No _,λ_=>⟨No _,by rw [Db]⟩⟩
     | some pp=>
      obtain ⟨pb,alG⟩:=pp
      obtain ⟨_,c,a,cur,t1,rfl,t3,t4,t5,_⟩:=hp
      refine ⟨⟨_,_,_,rfl⟩,No _,λ_=>⟨by omega,?_⟩⟩
      rw [Db]
      exact ⟨a,c,rfl,t3,λh0=>by rw [t4 h0];simp,cur,e',_,t1,by rw [aHJ];exact t5⟩
    ·obtain ⟨u,r1,r2⟩:=jS x y pv hx hq
     exact ⟨u,r1,r2.fr jG hc.ok (λ_ _ _ _ _ _ _ _=>rfl)⟩
  ·injection ho with a1 a2 a3 a4 a5
   subst a1 a2 a3 a4 a5
   rw [Db]
   cases p with
   | none=>exact ⟨λx hx=>by have:=hp.2;omega,hp.2⟩
   | some pp=>
    obtain ⟨pb,alG⟩:=pp
    obtain ⟨_,c,a,cur,t1,_,t3,_,t5,t6,t7,_,_⟩:=hp
    refine ⟨t6,_,t1,rfl,rfl,aIH (Nat.add_le_add_left (aHO _ t3) _) t5,λx y pv hx hy=>?_⟩
    obtain ⟨u,r1,r2⟩:=t7 x y pv hx hy
    refine ⟨u,r1,?_⟩
    rcases r2 with r2 | ⟨_,_,_,_,_,rfl,r2⟩
    ·exact (cz.lp r2).k (aY.no r2)
    ·exact r2
  ·obtain ⟨q1,q2⟩:=hc.heap k _ _ _ _ _ h4
   refine ⟨q1,?_⟩
   rw [pf k h3]
   cases hm:μ k with
   | none=>rw [hm] at q2;exact q2
   | some pp=>
    obtain ⟨b,base⟩:=pp
    rw [hm] at q2
    obtain ⟨o,r1,r2⟩:=q2
    exact ⟨o,r1,r2.mono (λ_ _ _ _ _ _ hr=>hr.fr jG hc.ok (λ_ _ _ _ _ _ _ _=>rfl))⟩
 ·intro a b ga sa na ea fa gb sb nb eb fb KE o o' ha hb hma mu
  have Ni:∀k gk sk nk ek fk oo,h1[k]? =some (ak.row gk sk nk ek fk)->μ1 k=some (KE,oo)->(k=h.length/\F KE)\/(k<h.length/\∃gk sk nk ek fk,h[k]? =some (ak.row gk sk nk ek fk)/\μ k=some (KE,oo)):=λk gk sk nk ek fk oo hk hm=>by
   rcases inv k _ hk with ⟨rfl,ho⟩ | ⟨rfl,ho⟩ | ⟨h2,h3,h4⟩
   ·rw [pf k hid] at hm;exact .inr ⟨hid,_,_,_,_,_,hh,hm⟩
   ·rw [Db] at hm;exact .inl ⟨rfl,hpF _ _ hm⟩
   ·rw [pf k h3] at hm;exact .inr ⟨h3,_,_,_,_,_,h4,hm⟩
  rcases Ni a _ _ _ _ _ _ ha hma with ⟨rfl,q⟩ | ⟨q0,_,_,_,_,_,q1,q2⟩
  ·rcases Ni b _ _ _ _ _ _ hb mu with ⟨rfl,_⟩ | ⟨r0,_,_,_,_,_,r1,r2⟩
   ·rfl
   ·exact absurd (aag KE q) (hc.ok.hv KE ⟨b,_,_,_,_,_,_,r1,r2⟩ _ _ _)
  ·rcases Ni b _ _ _ _ _ _ hb mu with ⟨rfl,r⟩ | ⟨r0,_,_,_,_,_,r1,r2⟩
   ·exact absurd (aag KE r) (hc.ok.hv KE ⟨a,_,_,_,_,_,_,q1,q2⟩ _ _ _)
   ·exact hc.ok.inj a b _ _ _ _ _ _ _ _ _ _ _ _ _ q1 r1 q2 r2
 ·rcases Dd b hb with q | ⟨off,q⟩
  ·rcases eN k x y b hx with ⟨_,_,r⟩ | ⟨_,r,_⟩
   ·exact hc.ok.hv b q _ _ _ r
   ·exact hc.ok.hv b q _ _ _ r
  ·rcases eN k x y b hx with ⟨_,mJ,r⟩ | ⟨_,r,lG,n2,e2,f2,F2,r1,r2,r3⟩
   ·exact mJ (hc.ok.hh b _ _ _ _ _ _ r (aag b (hpF b off q)))
   ·subst q
    obtain ⟨_,_,_,_,_,_,_,_,_,_,_,hs,_⟩:=hp
    exact (hs x y _ _ _ _ _ r1 r2 b r3).2 rfl
 ·rcases eN k x y b hx with ⟨k1,mJ,r⟩ | ⟨rfl,r,lG,n2,e2,f2,F2,r1,r2,r3⟩
  ·rcases eN k' x' y' b uo with ⟨k2,hne',r'⟩ | ⟨rfl,r',_⟩
   ·exact hc.ok.hh b _ _ _ _ _ _ r r'
   ·exact absurd (hc.ok.hh b _ _ _ _ _ _ r r') mJ
  ·rcases eN k' x' y' b uo with ⟨k2,hne',r'⟩ | ⟨rfl,r',sz3,n3,e3,f3,F3,t1,t2,t3⟩
   ·exact absurd (hc.ok.hh b _ _ _ _ _ _ r' r) hne'
   ·cases p with
    | none=>have:=hp.2;omega
    | some pp=>
     obtain ⟨pb,alG⟩:=pp
     obtain ⟨_,_,_,_,_,_,_,_,_,_,_,_,hd⟩:=hp
     obtain ⟨e1,e2⟩:=hd x y _ _ _ _ _ x' y' _ _ _ _ _ r1 r2 t1 t2 b r3 t3
     exact ⟨rfl,e1,e2⟩
def FAb (μ:Mu) (h:List ak) (sub:Nat) (b:Nat):Prop:=(∃g sz n e f base,h[sub]? =some (ak.row g sz n e f)/\μ sub=some (b,base))\/∃x y,dU h sub x y b
theorem GR (hc:Core μ h S w) {id i j sub:Nat} (hx:AL h id i j sub (FAb μ h sub) h1):Fr μ h S w μ h1 S w/\Core μ h1 S w:=by
 obtain ⟨g,sz,n,e,f,g2,lG,n2,e2,f2,f1,hh,hs,mJ,hi,hj,hpu,P4,hf2,rfl⟩:=hx
 have hid:id<h.length:=(An.1 hh).1
 have Ro:sub<h.length:=(An.1 hs).1
 obtain ⟨hl,bs⟩:=hc.heap id g sz n e f hh
 have K0:j<sz:=by rw [<-hl i hi];exact (An.1 hj).1
 generalize hFF:FAb μ h sub=F
 rw [hFF] at P4
 have aBa:∀b,F b->di μ h b:=λb hb=>by
  rw [<-hFF] at hb
  rcases hb with ⟨g,sz,n,e,f,base,q1,q2⟩ | ⟨x,y,q⟩
  ·exact .inl ⟨sub,_,_,_,_,_,_,q1,q2⟩
  ·exact aKJ
 generalize hh1:(h.set id (ak.row g sz n e f1)).set sub ak.dead=h1
 have xr:h1[id]? =some (ak.row g sz n e f1):=by rw [<-hh1,aId (aIT mJ)];simp [hid]
 have Bb:h1[sub]? =some ak.dead:=by rw [<-hh1,aIx (by simpa using Ro)]
 have cM:∀k,k≠id->k≠sub->h1[k]? =h[k]? :=λk h2 h3=>by rw [<-hh1,aId (aIT h3),aId (aIT h2)]
 have inv:∀k gk sk nk ek fk,h1[k]? =some (ak.row gk sk nk ek fk)->k≠sub/\((k=id/\ak.row gk sk nk ek fk=ak.row g sz n e f1)\/(k≠id/\h[k]? =some (ak.row gk sk nk ek fk))):=λk gk sk nk ek fk hk=>by
  have h3:k≠sub:=by rintro rfl;rw [Bb] at hk;cases hk
  refine ⟨h3,?_⟩
  by_cases h2:k=id
  ·subst h2;rw [xr] at hk;injection hk with hk;exact .inl ⟨rfl,hk.symm⟩
  ·rw [cM k h2 h3] at hk;exact .inr ⟨h2,hk⟩
 have Dc:∀x y pv,x<n->(f1 x)[y]? =some pv->((x=i/\y=j)/\pv=.dY lG n2 e2 f2 F)\/(¬(x=i/\y=j)/\(f x)[y]? =some pv):=λx y pv hx hy=>by
  by_cases hxi:x=i
  ·subst hxi
   rw [P4,aJq] at hy
   by_cases hyj:j=y
   ·subst hyj
    rw [if_pos rfl,if_pos (by rw [hl x hx];exact K0)] at hy
    injection hy with hy
    exact .inl ⟨⟨rfl,rfl⟩,hy.symm⟩
   ·rw [if_neg hyj] at hy
    exact .inr ⟨λq=>hyj q.2.symm,hy⟩
  ·rw [hf2 x hx hxi] at hy
   exact .inr ⟨λq=>hxi q.1,hy⟩
 have eN:∀k x y b,dU h1 k x y b->(k=id/\x=i/\y=j/\F b)\/(k≠sub/\¬(k=id/\x=i/\y=j)/\dU h k x y b):=λk x y b ⟨g3,s3,n3,e3,f3,s4,n4,e4,f4,F4,q1,q2,q3,q4⟩=>by
  obtain ⟨h3,hq⟩:=inv k _ _ _ _ _ q1
  rcases hq with ⟨rfl,ho⟩ | ⟨h2,h4⟩
  ·injection ho with a1 a2 a3 a4 a5
   subst a1 a2 a3 a4 a5
   rcases Dc x y _ q2 q3 with ⟨⟨r1,r2⟩,hq⟩ | ⟨hne',hq⟩
   ·injection hq with _ _ _ _ hq
    subst hq
    exact .inl ⟨rfl,r1,r2,q4⟩
   ·exact .inr ⟨h3,λ⟨_,b1⟩=>hne' b1,_,_,_,_,_,_,_,_,_,_,hh,q2,hq,q4⟩
  ·exact .inr ⟨h3,λ⟨b1,_⟩=>h2 b1,_,_,_,_,_,_,_,_,_,_,h4,q2,q3,q4⟩
 have Dd:∀b,CG μ h1 b->∃k gk sk nk ek fk base,k≠sub/\h[k]? =some (ak.row gk sk nk ek fk)/\μ k=some (b,base):=λb ⟨k,g3,s3,n3,e3,f3,base,q1,q2⟩=>by
  obtain ⟨h3,hq⟩:=inv k _ _ _ _ _ q1
  rcases hq with ⟨rfl,ho⟩ | ⟨h2,h4⟩
  ·exact ⟨k,_,_,_,_,_,_,h3,hh,q2⟩
  ·exact ⟨k,_,_,_,_,_,_,h3,h4,q2⟩
 have lE:∀b,di μ h1 b->di μ h b:=λb hb=>by
  rcases hb with hb | ⟨k,x,y,hb⟩
  ·obtain ⟨k,_,_,_,_,_,_,_,q1,q2⟩:=Dd b hb
   exact .inl ⟨k,_,_,_,_,_,_,q1,q2⟩
  ·rcases eN k x y b hb with ⟨_,_,_,q⟩ | ⟨_,_,q⟩
   ·exact aBa b q
   ·exact aKJ
 have jG:Fr μ h S w μ h1 S w:=by
  refine ⟨by rw [<-hh1];simp,λ_ _ _=>rfl,λ_ hb=>hb,λ_ hb=>.inl hb,λb hb=>.inl (lE b hb),No _,rfl,rfl,rfl,λk g3 s3 n3 e3 f3 hk=>?_,λk hk=>?_,λ_ _ _ hc=>hc,λk g3 s3 n3 e3 f3 b base hk hm mu=>⟨mu,?_⟩,λ_ _ _ _ _ mu=>mu⟩
  ·by_cases xf:k=id
   ·subst xf
    rw [hh] at hk
    injection hk with hk
    injection hk with a1 a2 a3 a4 a5
    subst a1 a2 a3 a4 a5
    rw [xr]
    exact aKF
   ·by_cases So:k=sub
    ·subst So;rw [Bb];trivial
    ·rw [cM k xf So,hk]
     exact aKF
  ·by_cases So:k=sub
   ·subst So;exact Bb
   ·rw [cM k (by rintro rfl;rw [hh] at hk;cases hk) So];exact hk
  ·by_cases So:k=sub
   ·subst So;exact .inl Bb
   ·refine .inr ⟨?_,hm⟩
    by_cases xf:k=id
    ·subst xf;exact ⟨_,_,_,_,_,xr⟩
    ·exact ⟨_,_,_,_,_,(cM k xf So).trans hk⟩
 have agl:∀k x y b,k≠sub->dU h k x y b->¬F b:=λk x y b hk hx hF=>by
  rw [<-hFF] at hF
  rcases hF with ⟨_,_,_,_,_,_,q1,q2⟩ | ⟨_,_,q⟩
  ·exact hc.ok.hv b ⟨sub,_,_,_,_,_,_,q1,q2⟩ _ _ _ hx
  ·exact hk (hc.ok.hh b _ _ _ _ _ _ hx q).1
 refine ⟨jG,⟨λk g3 s3 n3 e3 f3 hk=>?_,⟨λb hb=>hc.ok.apart b (lE b hb),λb hb=>hc.ok.lt b (lE b hb),hc.ok.slt,?_,hc.ok.known,λb hb k x y hx=>?_,λb k x y k' x' y' hx uo=>?_⟩⟩⟩
 ·obtain ⟨h3,hq⟩:=inv k _ _ _ _ _ hk
  rcases hq with ⟨rfl,ho⟩ | ⟨h2,h4⟩
  ·injection ho with a1 a2 a3 a4 a5
   subst a1 a2 a3 a4 a5
   refine ⟨λx hx=>?_,?_⟩
   ·by_cases hxi:x=i
    ·subst hxi;rw [P4,aJw];exact hl x hx
    ·rw [hf2 x hx hxi];exact hl x hx
   ·cases hC:μ k with
    | none=>rw [hC] at bs;exact bs
    | some p=>
     obtain ⟨b0,Ae⟩:=p
     rw [hC] at bs
     obtain ⟨o,q1,q2⟩:=bs
     refine ⟨o,q1,?_⟩
     cases o with
     | cells KH e0 z=>
      obtain ⟨rfl,rfl,q3,q4⟩:=q2
      refine ⟨rfl,rfl,q3,λx y pv hx hy=>?_⟩
      rcases Dc x y pv hx hy with ⟨⟨rfl,rfl⟩,rfl⟩ | ⟨_,hq⟩
      ·obtain ⟨v,r1,r2⟩:=q4 x y _ hx hj
       refine ⟨v,r1,?_⟩
       show mg S w (.dY lG n2 e2 f2 F) v
       have r2:bC μ h w sub g2 0 n2 v:=r2
       unfold bC at r2
       rw [hs] at r2
       obtain ⟨_,_,r3⟩:=r2
       obtain ⟨_,r4⟩:=r3 rfl
       obtain ⟨s1,s2⟩:=hc.heap sub _ _ _ _ _ hs
       cases hms:μ sub with
       | none=>
        rw [hms] at r4 s2
        have s2:n2=0:=s2
        have r4:v=.slice none 0 0:=r4
        subst s2 r4
        refine .nil _ _ _ _ (λb hb=>?_)
        rw [<-hFF] at hb
        rcases hb with ⟨_,_,_,_,_,_,_,t2⟩ | ⟨x',y',t1,t2,t3,t4,t5,t6,t7,t8,t9,t10,u1,u2,u3,u4⟩
        ·rw [hms] at t2;cases t2
        ·rw [hs] at u1
         injection u1 with u1
         injection u1 with _ _ u1 _ _
         omega
       | some p=>
        obtain ⟨b,base⟩:=p
        rw [hms] at r4 s2
        obtain ⟨a,cap,rfl,t2,t3,t4⟩:=r4
        obtain ⟨cur,u1,u2,u3⟩:=cZ.cells t4 s2
        have fY:base+cap*lG<=cur.size:=by
         obtain ⟨zj,e',z',p1,p2⟩:=t4
         rw [u1] at p1
         injection p1 with p1
         injection p1 with p1 _ _
         subst p1
         rw [aHJ] at p2
         exact p2
        have vis:CG μ h b:=⟨sub,_,_,_,_,_,_,hs,hms⟩
        have alH:∀(x y s5 n5:Nat) (e5:TypeId) (f5:Nat->List PV) (F5:Nat->Prop),x<n2->(f2 x)[y]? =some (.dY s5 n5 e5 f5 F5)->∀b',F5 b'->dU h sub x y b':=λx y s5 n5 e5 f5 F5 hx hy b' nA=>⟨_,_,_,_,_,_,_,_,_,_,hs,hx,hy,nA⟩
        refine .KE lG n2 e2 f2 F b base cap a cur (λx y=>(cur[base+x*lG+y]?).getD undef) (by rw [<-hFF];exact .inl ⟨_,_,_,_,_,_,hs,hms⟩) u1 s1 t2 (λh0=>by rw [t3 h0];simp) fY (λx y pv hx hy=>?_) (λx y pv hx hy=>?_) (λx y s5 n5 e5 f5 F5 hx hy=>?_) (λx y s5 n5 e5 f5 F5 hx hy b' nA=>?_) (λx y s5 n5 e5 f5 F5 x' y' s6 n6 e6 f6 F6 hx hy uo hy' b' nA Ev=>?_)
        ·obtain ⟨u,w1,_⟩:=u3 x y pv hx hy
         rw [w1];rfl
        ·obtain ⟨u,w1,w2⟩:=u3 x y pv hx hy
         rw [w1]
         rcases hpu x hx pv (aHU hy) with z1 | z1
         ·exact .inl (zA z1 w2.c)
         ·exact .inr (by cases pv<;>first | exact ⟨_,_,_,_,_,rfl⟩ | cases z1)
        ·obtain ⟨u,w1,w2⟩:=u3 x y _ hx hy
         rw [w1]
         exact w2
        ·have hq:=alH x y s5 n5 e5 f5 F5 hx hy b' nA
         refine ⟨by rw [<-hFF];exact .inr ⟨_,_,hq⟩,?_⟩
         rintro rfl
         exact hc.ok.hv b' vis _ _ _ hq
        ·exact (hc.ok.hh b' _ _ _ _ _ _ (alH x y s5 n5 e5 f5 F5 hx hy b' nA) (alH x' y' s6 n6 e6 f6 F6 uo hy' b' Ev)).2
      ·obtain ⟨u,r1,r2⟩:=q4 x y pv hx hq
       exact ⟨u,r1,r2.fr jG hc.ok (λ_ _ _ _ _ _ _ _=>rfl)⟩
     | map es c=>
      obtain ⟨kp,vp,en,y1,y2,y3,_⟩:=q2.2 i hi
      rw [y1] at hj
      match j,hj with
      | 0,hj=>simp at hj;rw [hj] at y2;cases y2
      | 1,hj=>simp at hj;rw [hj] at y3;cases y3
      | y+2,hj=>simp at hj
     | _=>exact q2.elim
  ·obtain ⟨q1,q2⟩:=hc.heap k _ _ _ _ _ h4
   refine ⟨q1,?_⟩
   cases hm:μ k with
   | none=>rw [hm] at q2;exact q2
   | some pp=>
    obtain ⟨b,base⟩:=pp
    rw [hm] at q2
    obtain ⟨o,r1,r2⟩:=q2
    exact ⟨o,r1,r2.mono (λ_ _ _ _ _ _ hr=>hr.fr jG hc.ok (λ_ _ _ _ _ _ _ _=>rfl))⟩
 ·intro a b ga sa na ea fa gb sb nb eb fb KE o o' ha hb hma mu
  have Ni:∀k gk sk nk ek fk,h1[k]? =some (ak.row gk sk nk ek fk)->∃gk sk nk ek fk,h[k]? =some (ak.row gk sk nk ek fk):=λk gk sk nk ek fk hk=>by
   rcases (inv k _ _ _ _ _ hk).2 with ⟨rfl,_⟩ | ⟨_,q⟩
   ·exact ⟨_,_,_,_,_,hh⟩
   ·exact ⟨_,_,_,_,_,q⟩
  obtain ⟨_,_,_,_,_,q1⟩:=Ni a _ _ _ _ _ ha
  obtain ⟨_,_,_,_,_,q2⟩:=Ni b _ _ _ _ _ hb
  exact hc.ok.inj a b _ _ _ _ _ _ _ _ _ _ _ _ _ q1 q2 hma mu
 ·obtain ⟨k0,_,_,_,_,_,_,q0,q1,q2⟩:=Dd b hb
  rcases eN k x y b hx with ⟨_,_,_,q⟩ | ⟨_,_,q⟩
  ·rw [<-hFF] at q
   rcases q with ⟨_,_,_,_,_,_,r1,r2⟩ | ⟨_,_,r⟩
   ·exact q0 (hc.ok.inj k0 sub _ _ _ _ _ _ _ _ _ _ _ _ _ q1 r1 q2 r2)
   ·exact hc.ok.hv b ⟨k0,_,_,_,_,_,_,q1,q2⟩ _ _ _ r
  ·exact hc.ok.hv b ⟨k0,_,_,_,_,_,_,q1,q2⟩ _ _ _ q
 ·rcases eN k x y b hx with ⟨rfl,rfl,rfl,q⟩ | ⟨k1,_,q⟩
  ·rcases eN k' x' y' b uo with ⟨rfl,rfl,rfl,_⟩ | ⟨k2,_,r⟩
   ·exact ⟨rfl,rfl,rfl⟩
   ·exact absurd q (agl _ _ _ _ k2 r)
  ·rcases eN k' x' y' b uo with ⟨rfl,rfl,rfl,r⟩ | ⟨k2,_,r⟩
   ·exact absurd r (agl _ _ _ _ k1 q)
   ·exact hc.ok.hh b _ _ _ _ _ _ q r
variable {C:Start} {env:Env} {a:Act}
theorem mH.turn (hs:mH C μ h S env a w) {μ':Mu} (hf:Fr μ h S w μ' h1 S w) (hc:Core μ' h1 S w):mH C μ' h1 S env a w:=
 ⟨hc,hs.fr.trans hf,λt=>(hs.tmps t).fr hf hs.core.ok,hs.size,hs.far,hs.defers⟩
theorem mH.ex (hs:mH C μ h S env a w) (hx:J5 h h1):∃μ',mH C μ' h1 S env a w:=by
 obtain ⟨μ',hf,hc⟩:=P6 hs.core hx
 exact ⟨μ',hs.turn hf hc⟩
theorem mH.ab (hs:mH C μ h S env a w) {id i j sub:Nat} {h1:(Nat->Prop)->List ak} (ha:∀F,AL h id i j sub F (h1 F)):∃F,mH C μ (h1 F) S env a w:=by
 obtain ⟨hf,hc⟩:=GR hs.core (ha (FAb μ h sub))
 exact ⟨_,hs.turn hf hc⟩
end
section
variable {P:Program} {T:o9} {μ:Mu} {h η:List ak} {k:List Nat} {S:Nat->Prop} {w:World} {C:Start} {env:Env} {a:Act}
theorem mH.agree (hs:mH C μ h S env a w) {w':World} (ha:cD w w'):mH C μ h S env a w':=
 ⟨⟨hs.core.heap.agree ha hs.core.ok,hs.core.ok.agree ha⟩,hs.fr.trans (Fr.rH ha),λt=>(hs.tmps t).fr (Fr.rH ha) hs.core.ok,hs.size,hs.far,hs.defers⟩
theorem De {pv:PV} {v:Value} {w w':World} {μ μ':Mu} {h h':List ak} {S S':Nat->Prop} (hs:xE pv=true) (hv:bS μ h S w pv v):bS μ' h' S' w' pv v/\∀v':Value,bS μ' h' S' w' pv v'->v'=v:=by
 cases pv with
 | int k n=>obtain rfl:=hv.ll;exact ⟨aY.int _ _,λv' h'=>h'.ll⟩
 | bool b=>obtain rfl:=hv.ng;exact ⟨aY.bool _,λv' h'=>h'.ng⟩
 | str s=>obtain rfl:=hv.nh;exact ⟨aY.str _,λv' h'=>h'.nh⟩
 | cd=>obtain rfl:=hv.p9;exact ⟨aY.cd,λv' h'=>h'.p9⟩
 | _=>cases hs
def Fv:PV->Value
 | .int k n=>.int k n
 | .bool b=>.bool b
 | .str s=>.string ⟨⟨s⟩⟩
 | .cd=>.slice none 0 0
 | _=>undef
theorem rp {pv:PV} {w:World} {μ:Mu} {h:List ak} {S:Nat->Prop} (hs:xE pv=true):bS μ h S w pv (Fv pv):=by
 cases pv with
 | int k n=>exact aY.int _ _
 | bool b=>exact aY.bool _
 | str s=>exact aY.str _
 | cd=>exact aY.cd
 | _=>cases hs
theorem NP {P:Program} {K:Env->Prop} (all:List Oper) (o:Oper) (rest:List Oper) (env:Env) (h:List ak) {j:Nat} {want:Bool} (hg:o.guard=some (j,want)):
  xt P T all h K (o::rest) env=(match (all[j]?).bind (·.dst) with
     | some t=>match env t with
      | .bool b=>gJ b
        (match (generalizing:=false) want with
         | true=>qop P T o.op (qs env t (.bool true)) h (λv=>xt P T all h K rest (ee (qs env t (.bool true)) o.dst v))
         | false=>xt P T all h K rest (ee (qs env t (.bool true)) o.dst (.fv [])))
        (match (generalizing:=false) want with
         | true=>xt P T all h K rest (ee (qs env t (.bool false)) o.dst (.fv []))
         | false=>qop P T o.op (qs env t (.bool false)) h (λv=>xt P T all h K rest (ee (qs env t (.bool false)) o.dst v)))
      | .fv []=>xt P T all h K rest (ee env o.dst (.fv []))
      | _=>False
     | none=>False):=by
 obtain ⟨dst,op,ty,pos,after,guard⟩:=o
 have hg:guard=some (j,want):=hg
 rw [hg]
 rfl
theorem tv (hT:dJ P T) (ops:Array Oper) {K:Env->Prop} {Q:Act->Prop} (h:List ak) (w:World) (μ:Mu) (S:Nat->Prop) (hK:∀env a,K env->mH C μ h S env a w->Q a):
  ∀(l:List Oper) (env:Env) (a:Act),xt P T ops.toList h K l env->(∀o∈l,mz C.nt o=true)->mH C μ h S env a w->wpQuiet P ops (cD w) Q l a
 | [],env,a,hp,_,hs=>hK env a hp hs
 | o::rest,env,a,hp,hd,hs=>by
  have hdo:∀t,o.dst=some t->t<C.nt:=λt ht=>by
   have:=hd o aKN
   unfold mz at this
   rw [ht] at this
   simpa using this
  have hdr:∀o∈rest,mz C.nt o=true:=λo ho=>hd o (by simp [ho])
  have run:∀env',mH C μ h S env' a w->qop P T o.op env' h (λv=>xt P T ops.toList h K rest (ee env' o.dst v))->o.quiet P a (cD w) (wpQuiet P ops (cD w) Q rest):=λenv' kr xG=>by
   obtain ⟨dst,op,ty,pos,after,guard⟩:=o
   have still:de T op env' h (λv=>xt P T ops.toList h K rest (ee env' dst v))->Oper.quiet P ⟨dst,op,ty,pos,after,guard⟩ a (cD w) (wpQuiet P ops (cD w) Q rest):=λxG=>by
    obtain ⟨v,val,hK',hv,hr⟩:=nX (P:=P) (env:=env') hT kr.core.heap kr.tmps (dst:=dst) (ty:=ty) (pos:=pos) (after:=after) (guard:=guard) xG
    refine ⟨val,λw' hw'=>?_,tv hT ops h w μ S hK rest _ _ hK' hdr (kr.put Fr.refl kr.core hv hdo)⟩
    unfold Oper.quietAt
    rw [hr w' hw']
    exact ⟨rfl,rfl⟩
   cases op with
   | call c=>
    obtain ⟨cal,args,ts⟩:=c
    cases cal with
    | value fo=>
     have M5:=cA kr.tmps fo
     change aah P (ev env' fo) (args.toList.map (ev env')) h _ at xG
     unfold aah at xG
     split at xG
     ·rename_i f hef
      rw [hef] at M5
      replace xG:=bI xG
      obtain ⟨hnt,my,v,hz,aF3,⟨⟨fn,c,hfn,KB,yn⟩,hA⟩,hK'⟩:=xG
      obtain ⟨hsc,hK'⟩:=bI hK'
      refine ⟨Fv v,λw' hw'=>?_,tv hT ops h w μ S hK rest _ _ hK' hdr (kr.put Fr.refl kr.core (rp hsc) hdo)⟩
      have nI:=kr.agree hw'
      obtain ⟨hl,hzz⟩:=Aa.get _ _ hz
      have qI:=(yu (k:=[]) (η:=[]) (m:=0) nI.core trivial rfl).1
      have KC:=hA w' (args.map a.eval) (mm μ h []) (Fu μ h [] S) qI.heap qI.ok (by simpa using hl.symm) (λj gw hj=>by
       have K7:j<args.toList.length:=by have:=(An.1 hj).1;simpa [hl] using this
       have hx:(args.toList.map (ev env'))[j]? =some (ev env' args.toList[j]):=by rw [aIb,abF K7];rfl
       refine ⟨a.eval args.toList[j],by rw [aJo];have:=abF K7;simp only [aHZ] at this;rw [this];rfl,?_⟩
       have hv:=(vw (k:=[]) (η:=[]) (m:=0) nI.core trivial (hzz j _ gw hx hj)).2.2 _ (cA nI.tmps args.toList[j])
       have mJ:=(aHH.1 aF3) gw (aHU hj)
       cases gw with
       | fv ps=>cases mJ
       | _=>exact hv)
      have lS:(execOp a.eval ⟨dst,.call ⟨.value fo,args,ts⟩,ty,pos,after,guard⟩).run P w'=.ok (.enter f (args.map a.eval)) w':=by
       simp only [execOp,resolve,M5.Zb,Deferred.ofValue,invoke,callFunc,Sem.run_bind,Sem.run_pure,Result.andThen_ok,Array.append_empty,aJp]
       have C5:¬fn.name= "runtime.NumGoroutine" :=by simpa using yn
       simp [program,Sem.run,Result.andThen,hfn,C5,KB]
      unfold Oper.quietAt
      rw [lS]
      refine ⟨rfl,KC.mono λe Zd ⟨u,res,h',μ',S',he,hR,hv,hH,hM,hF⟩=>?_⟩
      subst hR
      have hu:=(De (w':=w) (μ':=μ) (h':=h) (S':=S) hsc (rp (w:=Zd) (μ:=μ') (h:=h') (S:=S') hsc)).1
      have Pt:=(De (w':=Zd) (μ':=μ') (h':=h') (S':=S') hsc (rp (w:=w) (μ:=μ) (h:=h) (S:=S) hsc)).2 u hv
      refine ⟨by rw [he,Pt],hw'.trans ⟨λb hb=>hF.blocks b hb lx,hF.size,hF.os,hF.tape,hF.output⟩⟩
     ·exact xG.elim
    | _=>exact still xG
   | _=>exact still xG
  have skip:∀env',mH C μ h S env' a w->xt P T ops.toList h K rest (ee env' o.dst (.fv []))->wpQuiet P ops (cD w) Q rest (a.put o.dst undef):=λenv' kr xG=>
   tv hT ops h w μ S hK rest _ _ xG hdr (kr.put Fr.refl kr.core xo hdo)
  unfold wpQuiet
  cases hg:o.guard with
  | none=>
   have hp:qop P T o.op env h (λv=>xt P T ops.toList h K rest (ee env o.dst v)):=by
    exact aJS
   rw [if_pos (by simp [Region.wanted,hg])]
   exact run env hs hp
  | some p=>
   obtain ⟨j,want⟩:=p
   rw [NP ops.toList o rest env h hg] at hp
   split at hp
   ·rename_i t hj
    split at hp
    ·rename_i b he
     have hy:=xn hs hj he
     obtain ⟨ht,hf⟩:=kQ hp
     have kr:=hs.Da he
     cases b with
     | true=>
      have hp:=ht rfl
      cases want with
      | true=>rw [if_pos aKX];exact run _ kr hp
      | false=>rw [if_neg aKX];exact skip _ kr hp
     | false=>
      have hp:=hf rfl
      cases want with
      | true=>rw [if_neg aKX];exact skip _ kr hp
      | false=>rw [if_pos aKX];exact run _ kr hp
    ·rename_i he
     rw [if_neg aLt]
     exact skip _ hs hp
    ·exact aKm
   ·exact aKm
theorem zB:∀(σ:List (Nat×PV)) (t:Nat),PH h η k env σ->(∃v,Fz h η k (env t) v/\zC ot σ t=v)\/zC ot σ t=.jf
 | [],t,_=>.inr rfl
 | (t',v)::r,t,hh=>by
  obtain ⟨h1,h2⟩:=hh
  by_cases htt:t=t'
  ·subst htt
   exact .inl ⟨v,h1,by simp [zC,C9]⟩
  ·simp only [zC]
   rw [Hc _ _ htt]
   exact zB r t h2
theorem zD (hs:mH C μ h S env a w) {σ:List (Nat×PV)} (ht:vi C.h.length env h σ η):∃μ' S',mH C μ' η S' (zC ot σ) a w:=by
 obtain ⟨k,hk,hm,he,hh⟩:=ht
 obtain ⟨qI,_,_⟩:=yu hs.core hh hk
 refine ⟨mm μ h k,Fu μ h k S,qI,agk hs.core hs.fr hh hk hm,λt=>?_,hs.size,λt bg=>?_,hs.defers⟩
 ·rcases zB σ t he with ⟨v,h1,h2⟩ | h1
  ·rw [h2];exact (vw hs.core hh h1).2.2 _ (hs.tmps t)
  ·rw [h1];trivial
 ·rcases zB σ t he with ⟨v,h1,h2⟩ | h1
  ·rw [hs.far t bg] at h1
   rw [h2]
   cases h1
   rfl
  ·exact h1
theorem yv.mono {Q Q':XQ} {e:Exit} {w:World} (hq:∀env h,Q e env h->Q' e env h) (hl:yv C Q e a w):yv C Q' e a w:=by
 obtain ⟨μ,h,S,env,hs,hQ⟩:=hl
 exact ⟨μ,h,S,env,hs,hq env h hQ⟩
theorem lz:∀(l:List Nat) (x:Nat),j8 l x=true->x∈l
 | [],_,h=>by cases h
 | a::r,x,h=>by
  unfold j8 at h
  split at h
  ·rename_i hb
   have:=Of hb
   simp [this]
  ·exact aHT _ (lz r x h)
theorem KI:∀(l:List Nat) (F:Nat->Prop),alI l F->∀i∈l,F i
 | [],_,_,i,hi=>by simp at hi
 | [j],F,h,i,hi=>by simp at hi;subst hi;exact h
 | j::k::r,F,h,i,hi=>by
  obtain ⟨h1,h2⟩:=h
  simp only [aHM] at hi
  rcases hi with rfl | hi
  ·exact h1
  ·exact KI (k::r) F h2 i (by simpa using hi)
theorem k7 (hT:dJ P T) (ops:Array Oper) {K:Env->List ak->Prop} {Q:Exit->Act->World->Prop} {next:Act->World->Prop} (hK:∀env h a w μ S,K env h->mH C μ h S env a w->next a w) (i:Nat) (o:Oper) (ho:ops[i]? =some o)
  (hd:mz C.nt o=true) (env:Env) (h:List ak) (a:Act) (w:World) (μ:Mu) (S:Nat->Prop) (hp:rn P T ops.toList K [o] env h) (hs:mH C μ h S env a w):wpOp P ops Q i next a w:=by
 have hdo:∀t,o.dst=some t->t<C.nt:=λt ht=>by
  unfold mz at hd
  rw [ht] at hd
  simpa using hd
 have run:∀env',mH C μ h S env' a w->pop P T o.op env' h (λv h'=>K (ee env' o.dst v) h')->o.wp P a w next Q:=λenv' kr xG=>by
  obtain ⟨dst,op,ty,pos,after,guard⟩:=o
  refine Fs (env:=env') hT kr.core kr.tmps xG _ _ λv val h' μ' S' w' hK' hv hc hf=>?_
  exact hK _ h' _ w' μ' S' hK' (kr.put hf hc hv hdo)
 have skip:∀env',mH C μ h S env' a w->K (ee env' o.dst (.fv [])) h->next (a.put o.dst undef) w:=λenv' kr xG=>
  hK _ h _ w μ S xG (kr.put Fr.refl kr.core xo hdo)
 unfold wpOp
 simp only [ho]
 cases hg:o.guard with
 | none=>
  have hp:pop P T o.op env h (λv h'=>K (ee env o.dst v) h'):=by
   exact aJS
  rw [if_pos (by simp [Region.wanted,hg])]
  exact .inl (run env hs hp)
 | some p=>
  obtain ⟨j,want⟩:=p
  rw [xp ops.toList o [] env h hg] at hp
  split at hp
  ·rename_i t hj
   split at hp
   ·rename_i b he
    have hy:=xn hs hj he
    obtain ⟨ht,hf⟩:=kQ hp
    have kr:=hs.Da he
    cases b with
    | true=>
     have hp:=ht rfl
     cases want with
     | true=>rw [if_pos aKX];exact .inl (run _ kr hp)
     | false=>rw [if_neg aKX];exact skip _ kr hp
    | false=>
     have hp:=hf rfl
     cases want with
     | true=>rw [if_neg aKX];exact skip _ kr hp
     | false=>rw [if_pos aKX];exact .inl (run _ kr hp)
   ·rename_i he
    rw [if_neg aLt]
    exact skip _ hs hp
   ·exact aKm
  ·exact aKm
theorem Df (hT:dJ P T) (ops:Array Oper) {K:Env->List ak->Prop} {Q:Exit->Act->World->Prop} (hK:∀env h a w μ S,K env h->mH C μ h S env a w->Q .normal a w) (hd:∀o∈ops.toList,mz C.nt o=true):
  ∀(f:Nat) (listed:Array Bool) (done:List Nat) (env:Env) (h:List ak) (a:Act) (w:World) (μ:Mu) (S:Nat->Prop),aai ops f listed done=true->alJ P T ops.toList K f done env h->mH C μ h S env a w->
   wpAny P .any ops Q f listed a w
 | 0,listed,done,env,h,a,w,μ,S,hc,hp,hs=>by
  refine ⟨?_,hK env h a w μ S hp hs⟩
  simpa [aai] using hc
 | f+1,listed,done,env,h,a,w,μ,S,hc,hp,hs=>by
  simp only [aai,As,aHH] at hc
  obtain ⟨mJ,hc⟩:=hc
  refine ⟨λh0=>by rw [h0] at mJ;simp at mJ,λi hi=>?_⟩
  obtain ⟨Sh,hc'⟩:=hc i hi
  have aaj:=KI _ _ hp i (lz _ _ Sh)
  split at aaj
  ·rename_i o ho
   have Sp:ops[i]? =some o:=by simpa using ho
   exact k7 hT ops (λenv' h' a' w' μ' S' hk kr=>Df hT ops hK hd f _ (i::done) env' h' a' w' μ' S' hc' hk kr) i o Sp (hd o (by have:=(An.1 ho);obtain ⟨h1,h2⟩:=this;rw [<-h2];exact aIh h1)) env h a w μ S aaj hs
  ·exact aaj.elim
theorem aak {op:Op} {env:Env} {h:List ak} {G:PV->List ak->Prop} (hs:de T op env h (λv=>G v h)):pop P T op env h G:=by
 cases op with
 | store t a x=>exact hs.elim
 | box t x=>exact hs.elim
 | alloc t=>exact hs.elim
 | makeSlice t l c=>exact hs.elim
 | buildSlice t len parts=>exact hs.elim
 | convert s d x=>
  simp only [pop]
  split
  ·rename_i e1 e2 e3
   simp only [de,e1,e2,e3] at hs
  ·exact hs
 | binOp bo t x y ty=>
  simp only [pop]
  split
  ·rename_i e1 e2 e3
   simp only [de,Rk,e1,e2,e3] at hs
  ·exact hs
 | makeMap t r=>exact hs.elim
 | mapUpdate t m k x=>exact hs.elim
 | call c=>
  obtain ⟨callee,args,ts⟩:=c
  cases callee with
  | value fo=>exact hs.elim
  | builtin b=>cases b with
   | append=>exact hs.elim
   | copy=>exact hs.elim
   | _=>(simp only [pop];exact hs)
  | _=>(simp only [pop];exact hs)
 | _=>(simp only [pop];exact hs)
theorem Dg {st:Bool} {op:Op} {env:Env} {h:List ak} {G:PV->List ak->Prop} (hs:Er P T st op env h G):pop P T op env h G:=by
 cases st with
 | true=>exact aak hs
 | false=>exact hs
theorem tz {all:List Oper} {st:Bool} {o:Oper} {K:Env->List ak->Prop} {env:Env} {h:List ak} (hp:fs P T all st o (λv h'=>K (ee env o.dst v) h') env h):rn P T all K [o] env h:=by
 unfold fs at hp
 cases hg:o.guard with
 | none=>
  rw [hg] at hp
  obtain ⟨dst,op,ty,pos,after,guard⟩:=o
  have hg:guard=none:=hg
  subst hg
  exact Dg hp
 | some q=>
  obtain ⟨j,want⟩:=q
  rw [hg] at hp
  rw [xp all o [] env h hg]
  simp only at hp ⊢
  generalize (all[j]?).bind (·.dst)=d at hp ⊢
  cases d with
  | none=>exact hp.elim
  | some t=>
   simp only at hp ⊢
   generalize hv:env t=v at hp ⊢
   cases v with
   | bool b=>
    simp only at hp ⊢
    cases b with
    | true=>
     refine .mk (λ_=>?_) (λhc=>by cases hc)
     rw [Bc hv]
     cases want with
     | true=>exact Dg hp
     | false=>exact hp
    | false=>
     refine .mk (λhc=>by cases hc) (λ_=>?_)
     rw [Bc hv]
     cases want with
     | true=>exact hp
     | false=>exact Dg hp
   | fv l=>cases l with
    | nil=>exact hp
    | cons a r=>exact hp.elim
   | _=>exact hp.elim
inductive Es (all:List Oper):Nat->Nat->Prop
 | base {x i:Nat} (h:x∈bZ all i):Es all x i
 | step {x d i:Nat} (h:d∈bZ all i) (hx:Es all x d):Es all x i
theorem Hd:∀(l acc:List Nat) (x:Nat),x∈ddL l acc->x∈l\/x∈acc
 | [],acc,x,h=>.inr h
 | a::r,acc,x,h=>by
  unfold ddL at h
  cases hi:j8 acc a with
  | true=>rw [hi] at h;exact (Hd r acc x h).imp (aHT _) id
  | false=>
   rw [hi] at h
   rcases Hd r (a::acc) x h with h | h
   ·exact .inl (aHT _ h)
   ·simp only [aHM] at h
    rcases h with rfl | h
    ·exact .inl aKN
    ·exact .inr h
theorem vM:∀(l:List Nat) (x:Nat),x∈l->j8 l x=true
 | a::r,x,h=>by
  unfold j8
  cases hb:Nat.beq a x with
  | true=>rfl
  | false=>
   simp only [aHM] at h
   rcases h with rfl | h
   ·rw [aIW] at hb;cases hb
   ·exact vM r x h
theorem sg {all:List Oper}:∀(ord:List (Nat×Bool)) (t:List (Nat×List Nat)),(∀i x,j8 (dD t i) x=true->Es all x i)->∀i x,j8 (dD (sh all ord t) i) x=true->Es all x i
 | [],t,hg=>hg
 | (j,b)::r,t,hg=>sg r _ (λi x hx=>by
  unfold dD at hx
  cases hb:Nat.beq j i with
  | false=>rw [hb] at hx;exact hg i x hx
  | true=>
   rw [hb] at hx
   have:=Of hb
   subst this
   rcases Hd _ _ _ (lz _ _ hx) with hm | hm
   ·rw [are,List.mem_flatMap] at hm
    rcases hm with hm | ⟨d,hd,hm⟩
    ·exact .base hm
    ·exact .step hd (hg d x (vM _ _ hm))
   ·simp at hm)
theorem eU {ops:Array Oper} {t:List (Nat×List Nat)} {p:Nat×Bool}:∀(l1 l2:List (Nat×Bool)),bN ops t (l1++p::l2)=true->(∀o,o∈l1->fp ops t o p=true)/\bN ops t (l1++l2)=true
 | [],l2,h=>by
  simp only [aIg,bN,As] at h
  exact ⟨λo ho=>by simp at ho,h.2⟩
 | a::l1,l2,h=>by
  simp only [aIM,bN,As,aHH] at h ⊢
  obtain ⟨h1,h2⟩:=eU l1 l2 h.2
  refine ⟨λo ho=>?_,λq hq=>h.1 q (by simp only [are,aHM] at hq ⊢;exact hq.imp id .inr),h2⟩
  simp only [aHM] at ho
  rcases ho with rfl | ho
  ·exact h.1 p aKN
  ·exact h1 o ho
theorem oc {ops:Array Oper} {i:Nat} {o:Oper} (ho:ops[i]? =some o) {d:Nat}:d∈bZ ops.toList i↔∃e,e∈o.after/\Region.binds .any e=true/\e.on=d:=by
 unfold bZ
 have:ops.toList[i]? =some o:=by simpa using ho
 rw [this]
 unfold aal
 rw [List.mem_filterMap]
 constructor
 ·rintro ⟨e,he,hx⟩
  cases hb:Region.binds .any e with
  | true=>rw [hb] at hx;exact ⟨e,by simpa using he,hb,by simpa using hx⟩
  | false=>rw [hb] at hx;cases hx
 ·rintro ⟨e,he,hb,hx⟩
  exact ⟨e,by simpa using he,by rw [hb];simp [hx]⟩
theorem yw (hT:dJ P T) (ops:Array Oper) {t:List (Nat×List Nat)} (gf:∀i x,j8 (dD t i) x=true->Es ops.toList x i) (kk:∀i,i<ops.size->∀d,d∈bZ ops.toList i->d<ops.size/\d≠i)
  {K:Env->List ak->Prop} {Q:Exit->Act->World->Prop} (hK:∀env h a w μ S,K env h->mH C μ h S env a w->Q .normal a w) (hd:∀o∈ops.toList,mz C.nt o=true):
  ∀(n:Nat) (l:List (Nat×Bool)) (bP:List (Nat×List Nat)) (listed:Array Bool) (env:Env) (h:List ak) (a:Act) (w:World) (μ:Mu) (S:Nat->Prop),l.length=n->bN ops t l=true->(∀p,p∈l->p.1<ops.size)->listed.size=ops.size->
   (∀j,j<ops.size->(listed.getD j true=false↔j∈l.map (·.1)))->(∀j,j<ops.size->j∉l.map (·.1)->∀d,d∈bZ ops.toList j->d∉l.map (·.1))->Dh P T ops.toList t K l bP env h->mH C μ h S env a w->wpAny P .any ops Q n listed a w
 | 0,l,bP,listed,env,h,a,w,μ,S,hn,_,_,gK,yO,_,hf,hs=>by
  obtain rfl:l=[]:=aJf.1 hn
  refine ⟨?_,hK env h a w μ S hf hs⟩
  cases hr:Region.ready .any ops listed with
  | nil=>rfl
  | cons j r=>
   have hj:j∈Region.ready .any ops listed:=by rw [hr];simp
   rw [mem_ready] at hj
   obtain ⟨h1,o,ho,_⟩:=hj
   have:=(yO j (abL.1 ho).1).1 h1
   simp at this
 | n+1,l,bP,listed,env,h,a,w,μ,S,hn,hpo,bg,gK,yO,Fw,hf,hs=>by
  have hgd:∀d,d<ops.size->(listed.getD d false=true↔d∉l.map (·.1)):=λd P0=>by
   have:=yO d P0
   have e:listed.getD d false=listed.getD d true:=by simp [Array.getD,gK,P0]
   rw [e,<-this]
   cases listed.getD d true<;>simp
  refine ⟨λh0=>?_,λi hi=>?_⟩
  ·exfalso
   cases l with
   | nil=>simp at hn
   | cons p r=>
    have hp:=bg p aKN
    have ho:=aIa hp
    have:p.1∈Region.ready .any ops listed:=by
     rw [mem_ready]
     refine ⟨(yO p.1 hp).2 aKN,_,ho,λe he hb=>?_⟩
     have hm:e.on∈bZ ops.toList p.1:=(oc ho).2 ⟨e,he,hb,rfl⟩
     obtain ⟨d1,d2⟩:=kk p.1 hp _ hm
     rw [hgd _ d1]
     intro hc
     simp only [aHQ,aHM,aHW] at hc
     rcases hc with hc | ⟨q,hq,hc⟩
     ·exact d2 hc
     ·simp only [bN,As,aHH] at hpo
      have:=hpo.1 q hq
      unfold fp at this
      simp only [As,aIt] at this
      rw [hc,vM _ _ hm] at this
      exact absurd this.1.2 aKN
    rw [h0] at this
    simp at this
  ·rw [mem_ready] at hi
   obtain ⟨h1,oi,xD,KJ⟩:=hi
   have ru:=(abL.1 xD).1
   have xC:∀d,d∈bZ ops.toList i->d∉l.map (·.1):=λd vN=>by
    exact aKg
   have xu:∀x,Es ops.toList x i->x∉l.map (·.1):=by
    have gen:∀x j,Es ops.toList x j->j<ops.size->(∀d,d∈bZ ops.toList j->d∉l.map (·.1))->x∉l.map (·.1):=λx j ha=>by
     induction ha with
     | base hx=>exact λ_ hj=>hj _ hx
     | step vN _ ih=>exact λhj hjd=>ih (kk _ hj _ vN).1 (Fw _ (kk _ hj _ vN).1 (hjd _ vN))
    exact λx ha=>gen x i ha ru xC
   obtain ⟨p,hp,hpi⟩:=aHW.1 ((yO i ru).1 h1)
   obtain ⟨l1,l2,rfl⟩:=aJz hp
   obtain ⟨i',st⟩:=p
   simp only at hpi
   subst hpi
   obtain ⟨hpr,aF4⟩:=eU l1 l2 hpo
   have AR:ops.toList[i']? =some oi:=by simpa using xD
   have RS:=yx (P:=P) (T:=T) (ops:=ops) (t:=t) (K:=K) AR l1 l2 bP env h (λq hq=>by
    have hk:=hpr q hq
    unfold fp at hk
    simp only [As,aIJ,aIt] at hk
    have hqm:q.1∈(l1++(i',st)::l2).map (·.1):=aHW.2 ⟨q,by simp [hq],rfl⟩
    have hna:j8 (dD t i') q.1=false:=by
     cases hb:j8 (dD t i') q.1 with
     | false=>rfl
     | true=>exact absurd hqm (xu _ (gf _ _ hb))
    rcases hk.2 with vZ | ⟨hk1,xP⟩
    ·exact absurd hqm (xC _ (lz _ _ vZ))
    ·refine ⟨?_,hna,hk1⟩
     rcases xP with xP | xP
     ·exact xP
     ·rw [hna] at xP;cases xP) hf
   have mJ:∀q,q∈l1++l2->q.1≠i':=λq hq=>by
    rw [are] at hq
    rcases hq with hq | hq
    ·have hk:=hpr q hq
     unfold fp at hk
     simp only [As,aIt] at hk
     intro he
     have this:Nat.beq q.1 i'=false:=hk.1.1
     rw [he,aIW] at this
     cases this
    ·have:∀(l1:List (Nat×Bool)),bN ops t (l1++(i',st)::l2)=true->fp ops t (i',st) q=true:=λl1=>by
      induction l1 with
      | nil=>intro hh;simp only [aIg,bN,As,aHH] at hh;exact hh.1 q hq
      | cons b r ih=>intro hh;simp only [aIM,bN,As] at hh;exact ih hh.2
     have hk:=this l1 hpo
     unfold fp at hk
     simp only [As,aIt] at hk
     intro he
     have:=hk.1.1
     rw [he] at this
     rw [aIW] at this
     cases this
   have He:∀j,j∈(l1++(i',st)::l2).map (·.1)↔j=i'\/j∈(l1++l2).map (·.1):=λj=>by
    simp only [aIp,aHQ,are,aHM]
    constructor
    ·rintro (h | h | h)
     ·exact aKC
     ·exact .inl h
     ·exact .inr (.inr h)
    ·rintro (h | h | h)
     ·exact aKC
     ·exact .inl h
     ·exact .inr (.inr h)
   have NQ:i'∉(l1++l2).map (·.1):=λhm=>by
    obtain ⟨q,hq,he⟩:=aHW.1 hm
    exact mJ q hq he
   have sj:rn P T ops.toList (λenv' h'=>Dh P T ops.toList t K (l1++l2) bP env' h') [oi] env h:=tz (dZ (λv h' hk=>hk.2.2) RS)
   refine k7 hT ops (λenv' h' a' w' μ' S' hk kr=>yw hT ops gf kk hK hd n (l1++l2) bP _ env' h' a' w' μ' S' (by simp at hn ⊢;omega) aF4 (λq hq=>bg q (by rw [are] at hq ⊢;exact hq.imp id (aHT _))) aLs (λj hj=>?_) (λj hj hjn dd DB=>?_) hk kr) i' oi xD (hd oi (by have:=(An.1 AR);obtain ⟨h1,h2⟩:=this;rw [<-h2];exact aIh h1)) env h a w μ S sj hs
   ·by_cases fF:j=i'
    ·subst fF
     constructor
     ·intro hc
      have:(listed.setIfInBounds j true).getD j true=true:=by simp [Array.getD,gK,hj]
      rw [this] at hc;cases hc
     ·intro hc;exact absurd hc NQ
    ·have e:(listed.setIfInBounds i' true).getD j true=listed.getD j true:=getD_set_ne true (aIT fF)
     rw [e,yO j hj,He j]
     constructor
     ·rintro (h | h)
      ·exact absurd h fF
      ·exact h
     ·exact .inr
   ·by_cases fF:j=i'
    ·subst fF
     exact λhm=>xC dd DB ((He dd).2 (.inr hm))
    ·exact λhm=>Fw j hj (λhc=>by rcases (He j).1 hc with hc | hc;exact fF hc;exact hjn hc) dd DB ((He dd).2 (.inr hm))
theorem sn {ops:Array Oper} {listed:Array Bool} {i:Nat} {L L':List Nat} (He:∀j,j∈L↔j=i\/j∈L') (NQ:i∉L') (gK:listed.size=ops.size) (yO:∀j,j<ops.size->(listed.getD j true=false↔j∈L))
  (Fw:∀j,j<ops.size->j∉L->∀d,d∈bZ ops.toList j->d∉L) (xC:∀d,d∈bZ ops.toList i->d∉L):
  (∀j,j<ops.size->((listed.setIfInBounds i true).getD j true=false↔j∈L'))/\∀j,j<ops.size->j∉L'->∀d,d∈bZ ops.toList j->d∉L':=by
 refine ⟨λj hj=>?_,λj hj hjn d DB hm=>?_⟩
 ·by_cases fF:j=i
  ·subst fF
   constructor
   ·intro hc
    have:(listed.setIfInBounds j true).getD j true=true:=by simp [Array.getD,gK,hj]
    rw [this] at hc;cases hc
   ·intro hc;exact absurd hc NQ
  ·have e:(listed.setIfInBounds i true).getD j true=listed.getD j true:=getD_set_ne true (aIT fF)
   rw [e,yO j hj,He j]
   exact ⟨λh=>h.resolve_left fF,.inr⟩
 ·by_cases fF:j=i
  ·subst fF
   exact xC d DB ((He d).2 (.inr hm))
  ·exact Fw j hj (λhc=>by rcases (He j).1 hc with hc | hc;exact fF hc;exact hjn hc) d DB ((He d).2 (.inr hm))
theorem j9 {ops:Array Oper} {t:List (Nat×List Nat)} {p q:Nat×Bool} (h:fp ops t p q=true):p.1≠q.1:=by
 unfold fp at h
 simp only [As,aIt] at h
 intro he
 have:=h.1.1
 rw [he,aIW] at this
 cases this
theorem Di {ops:Array Oper} {t:List (Nat×List Nat)} {p q:Nat×Bool} (h:fp ops t p q=true):q.1∉bZ ops.toList p.1:=by
 unfold fp at h
 simp only [As,aIt] at h
 intro hm
 have:=h.1.2
 rw [vM _ _ hm] at this
 cases this
theorem jD {ops:Array Oper} {t:List (Nat×List Nat)} {p q:Nat×Bool}:∀(l1 l2:List (Nat×Bool)),bN ops t (l1++p::l2)=true->q∈l2->fp ops t p q=true
 | [],l2,h,hq=>by simp only [aIg,bN,As,aHH] at h;exact h.1 q hq
 | _::l1,l2,h,hq=>by simp only [aIM,bN,As] at h;exact jD l1 l2 h.2 hq
theorem so {ops:Array Oper} {t:List (Nat×List Nat)} (gf:∀i x,j8 (dD t i) x=true->Es ops.toList x i) {L:List Nat} {q:Nat×Bool} {i:Nat} {st:Bool} (hk:fp ops t q (i,st)=true) (hqL:q.1∈L) (xC:∀d,d∈bZ ops.toList i->d∉L) (xu:∀x,Es ops.toList x i->x∉L):
  q.2=true/\j8 (dD t i) q.1=false/\qN ops q.1 i=true:=by
 unfold fp at hk
 simp only [As,aIJ,aIt] at hk
 have hna:j8 (dD t i) q.1=false:=by
  cases hb:j8 (dD t i) q.1 with
  | false=>rfl
  | true=>exact absurd hqL (xu _ (gf _ _ hb))
 rcases hk.2 with vZ | ⟨hk1,xP⟩
 ·exact absurd hqL (xC _ (lz _ _ vZ))
 ·refine ⟨?_,hna,hk1⟩
  rcases xP with xP | xP
  ·exact xP
  ·rw [hna] at xP;cases xP
theorem wD (hT:dJ P T) (ops:Array Oper) {t:List (Nat×List Nat)} (gf:∀i x,j8 (dD t i) x=true->Es ops.toList x i) (kk:∀i,i<ops.size->∀d,d∈bZ ops.toList i->d<ops.size/\d≠i) {x y:Nat} {ra rb:List (Nat×Bool)}
  (hlen:rb.length=ra.length) (hAB:∀j,j∈((x,false)::ra).map (·.1)↔j∈((y,false)::rb).map (·.1)) (hxA:∀d,d∈bZ ops.toList x->d∉((x,false)::ra).map (·.1)) (hxr:x∉ra.map (·.1)) (hyr:y∉rb.map (·.1))
  (Hf:∀p,p∈ra->p.1=y\/j8 (dD t p.1) x=true\/j8 (dD t p.1) y=true)
  {K:Env->List ak->Prop} {Q:Exit->Act->World->Prop} (hK:∀env h a w μ S,K env h->mH C μ h S env a w->Q .normal a w) (hd:∀o∈ops.toList,mz C.nt o=true)
  (n:Nat) (l:List (Nat×Bool)) (bP:List (Nat×List Nat)) (listed:Array Bool) (env:Env) (h:List ak) (a:Act) (w:World) (μ:Mu) (S:Nat->Prop) (hn:l.length=n) (hpa:bN ops t (l++ra)=true) (hpb:bN ops t (l++rb)=true)
  (Hn:∀p,p∈l->fp ops t p (x,false)=true/\fp ops t p (y,false)=true/\∀d,d∈bZ ops.toList p.1->d∉((x,false)::ra).map (·.1))
  (bg:∀p,p∈l++(x,false)::ra->p.1<ops.size) (gK:listed.size=ops.size)
  (yO:∀j,j<ops.size->(listed.getD j true=false↔j∈(l++(x,false)::ra).map (·.1))) (Fw:∀j,j<ops.size->j∉(l++(x,false)::ra).map (·.1)->∀d,d∈bZ ops.toList j->d∉(l++(x,false)::ra).map (·.1))
  (hf:zE P T ops.toList t ((x,false)::ra) ((y,false)::rb) K l bP env h) (hs:mH C μ h S env a w)
  (ih:∀m,m+1=n->∀(l:List (Nat×Bool)) (bP:List (Nat×List Nat)) (listed:Array Bool) (env:Env) (h:List ak) (a:Act) (w:World) (μ:Mu) (S:Nat->Prop),l.length=m->bN ops t (l++ra)=true->bN ops t (l++rb)=true->
   (∀p,p∈l->fp ops t p (x,false)=true/\fp ops t p (y,false)=true/\∀d,d∈bZ ops.toList p.1->d∉((x,false)::ra).map (·.1))->
   (∀p,p∈l++(x,false)::ra->p.1<ops.size)->listed.size=ops.size->
   (∀j,j<ops.size->(listed.getD j true=false↔j∈(l++(x,false)::ra).map (·.1)))->(∀j,j<ops.size->j∉(l++(x,false)::ra).map (·.1)->∀d,d∈bZ ops.toList j->d∉(l++(x,false)::ra).map (·.1))->
   zE P T ops.toList t ((x,false)::ra) ((y,false)::rb) K l bP env h->mH C μ h S env a w->wpAny P .any ops Q (m+(ra.length+1)) listed a w):wpAny P .any ops Q (n+(ra.length+1)) listed a w:=by
 have hgd:∀d,d<ops.size->(listed.getD d false=true↔d∉(l++(x,false)::ra).map (·.1)):=λd P0=>by
  have:=yO d P0
  have e:listed.getD d false=listed.getD d true:=by simp [Array.getD,gK,P0]
  rw [e,<-this]
  cases listed.getD d true<;>simp
 have hx:=bg (x,false) aKN
 refine ⟨λh0=>?_,λi hi=>?_⟩
 ·exfalso
  have first:∃p,p<ops.size/\p∈(l++(x,false)::ra).map (·.1)/\∀d,d∈bZ ops.toList p->d∉(l++(x,false)::ra).map (·.1):=by
   cases l with
   | nil=>exact ⟨x,hx,by simp,λd DB hm=>hxA d DB (by simpa using hm)⟩
   | cons p r=>
    have hp:=bg p aKN
    refine ⟨p.1,hp,by simp,λd DB hm=>?_⟩
    rw [aIp,are] at hm
    rcases hm with hm | hm
    ·simp only [aHQ,aHM,aHW] at hm
     rcases hm with rfl | ⟨q,hq,rfl⟩
     ·exact (kk _ hp _ DB).2 rfl
     ·exact Di (jD [] _ hpa (aIZ _ hq)) DB
    ·exact (Hn p aKN).2.2 d DB hm
  obtain ⟨p,hp,hpm,hpd⟩:=first
  have ho:=aIa hp
  have:p∈Region.ready .any ops listed:=by
   rw [mem_ready]
   refine ⟨(yO p hp).2 hpm,_,ho,λe he hb=>?_⟩
   have hm:e.on∈bZ ops.toList p:=(oc ho).2 ⟨e,he,hb,rfl⟩
   rw [hgd _ (kk p hp _ hm).1]
   exact hpd _ hm
  rw [h0] at this
  simp at this
 ·rw [mem_ready] at hi
  obtain ⟨h1,oi,xD,KJ⟩:=hi
  have ru:=(abL.1 xD).1
  have AR:ops.toList[i]? =some oi:=by simpa using xD
  have NR:mz C.nt oi=true:=hd oi aLB
  have xC:∀d,d∈bZ ops.toList i->d∉(l++(x,false)::ra).map (·.1):=λd vN=>by
   exact aKg
  have xu:∀z,Es ops.toList z i->z∉(l++(x,false)::ra).map (·.1):=by
   have gen:∀z j,Es ops.toList z j->j<ops.size->(∀d,d∈bZ ops.toList j->d∉(l++(x,false)::ra).map (·.1))->z∉(l++(x,false)::ra).map (·.1):=λz j ha=>by
    induction ha with
    | base hx=>exact λ_ hj=>hj _ hx
    | step vN _ ih=>exact λhj hjd=>ih (kk _ hj _ vN).1 (Fw _ (kk _ hj _ vN).1 (hjd _ vN))
   exact λz ha=>gen z i ha ru xC
  have hyA:y∈((x,false)::ra).map (·.1):=(hAB y).2 aKN
  have Hg:=(yO i ru).1 h1
  rw [aIp,are] at Hg
  have split:i∈l.map (·.1)\/i=x\/i=y:=by
   rcases Hg with Hg | Hg
   ·exact .inl Hg
   ·simp only [aHQ,aHM,aHW] at Hg
    rcases Hg with rfl | ⟨q,hq,rfl⟩
    ·exact .inr (.inl rfl)
    ·rcases Hf q hq with h2 | h2 | h2
     ·exact .inr (.inr h2)
     ·exact absurd (by simp:x∈(l++(x,false)::ra).map (·.1)) (xu _ (gf _ _ h2))
     ·exact absurd (by rw [aIp,are];exact .inr hyA) (xu _ (gf _ _ h2))
  rcases split with Hg | rfl | rfl
  ·-- one of those ahead
   obtain ⟨p,hp,hpi⟩:=aHW.1 Hg
   obtain ⟨l1,l2,rfl⟩:=aJz hp
   obtain ⟨i',st⟩:=p
   simp only at hpi
   subst hpi
   have e1:l1++(i',st)::l2++ra=l1++(i',st)::(l2++ra):=by simp
   have e2:l1++(i',st)::l2++rb=l1++(i',st)::(l2++rb):=by simp
   rw [e1] at hpa
   rw [e2] at hpb
   obtain ⟨hpr,aF5⟩:=eU l1 _ hpa
   obtain ⟨_,aF6⟩:=eU l1 _ hpb
   have RS:=Fx (P:=P) (T:=T) (ops:=ops) (t:=t) (A0:=(x,false)::ra) (B0:=(y,false)::rb) (K:=K) AR l1 l2 bP env h (λq hq=>so gf (hpr q hq) (by rw [aIp,are];exact .inl (aHW.2 ⟨q,aIZ _ hq,rfl⟩)) xC xu) hf
   have NQ:i'∉((l1++l2)++(x,false)::ra).map (·.1):=λhm=>by
    simp only [aIp,aHQ,are,aHM,aHW] at hm
    rcases hm with (⟨q,hq,he⟩ | ⟨q,hq,he⟩) | he | ⟨q,hq,he⟩
    ·exact j9 (hpr q hq) he
    ·exact j9 (jD l1 _ hpa (aIZ _ hq)) he.symm
    ·exact j9 (Hn (i',st) aKN).1 he
    ·exact j9 (jD l1 _ hpa (List.mem_append_right _ hq)) he.symm
   obtain ⟨r1,r2⟩:=sn (L':=((l1++l2)++(x,false)::ra).map (·.1)) (λj=>by
    simp only [aIp,aHQ,are,aHM]
    constructor
    ·rintro ((h | h | h) | h)
     ·exact .inr (.inl (.inl h))
     ·exact .inl h
     ·exact .inr (.inl (.inr h))
     ·exact .inr (.inr h)
    ·rintro (h | (h | h) | h)
     ·exact .inl (.inr (.inl h))
     ·exact .inl (.inl h)
     ·exact .inl (.inr (.inr h))
     ·exact .inr h) NQ gK yO Fw xC
   have sj:rn P T ops.toList (λenv' h'=>zE P T ops.toList t ((x,false)::ra) ((y,false)::rb) K (l1++l2) bP env' h') [oi] env h:=tz (dZ (λv h' hk=>hk.2.2) RS)
   obtain ⟨m,rfl⟩:∃m,n=m+1:=⟨n - 1,by simp at hn;omega⟩
   rw [show (m+1).add ra.length=m+(ra.length+1) from (by show m+1+ra.length=_;omega)]
   refine k7 hT ops (λenv' h' a' w' μ' S' hk kr=>ih m rfl (l1++l2) bP _ env' h' a' w' μ' S' (by simp at hn ⊢;omega) (by rw [aIe];exact aF5) (by rw [aIe];exact aF6) (λq hq=>Hn q (by
    simp only [are,aHM] at hq ⊢
    exact hq.imp id .inr)) (λq hq=>bg q (by
    simp only [are,aHM] at hq ⊢
    rcases hq with (h | h) | h
    ·exact .inl (.inl h)
    ·exact .inl (.inr (.inr h))
    ·exact .inr h)) aLs r1 r2 hk kr) i' oi xD NR env h a w μ S sj hs
  ·-- the first of the two
   have A9:Dh P T ops.toList t K (l++(i,false)::ra) bP env h:=NS l bP env h hf
   have RS:=yx (P:=P) (T:=T) (ops:=ops) (t:=t) (K:=K) AR l ra bP env h (λq hq=>so gf (Hn q hq).1 aLA xC xu) A9
   have NQ:i∉(l++ra).map (·.1):=λhm=>by
    simp only [aIp,are] at hm
    rcases hm with hm | hm
    ·obtain ⟨q,hq,he⟩:=aHW.1 hm
     exact j9 (Hn q hq).1 he
    ·exact hxr hm
   obtain ⟨r1,r2⟩:=sn (L':=(l++ra).map (·.1)) (λj=>by
    simp only [aIp,aHQ,are,aHM]
    constructor
    ·rintro (h | h | h)
     ·exact aKC
     ·exact .inl h
     ·exact .inr (.inr h)
    ·rintro (h | h | h)
     ·exact aKC
     ·exact .inl h
     ·exact .inr (.inr h)) NQ gK yO Fw xC
   have sj:rn P T ops.toList (λenv' h'=>Dh P T ops.toList t K (l++ra) bP env' h') [oi] env h:=tz (dZ (λv h' hk=>hk.2.2) RS)
   refine k7 hT ops (λenv' h' a' w' μ' S' hk kr=>yw hT ops gf kk hK hd (n+ra.length) (l++ra) bP _ env' h' a' w' μ' S' (by simp [hn]) hpa (λq hq=>bg q (by
    simp only [are,aHM] at hq ⊢
    exact hq.imp id .inr)) aLs r1 r2 hk kr) i oi xD NR env h a w μ S sj hs
  ·-- the second
   have A9:Dh P T ops.toList t K (l++(i,false)::rb) bP env h:=NT l bP env h hf
   have RS:=yx (P:=P) (T:=T) (ops:=ops) (t:=t) (K:=K) AR l rb bP env h (λq hq=>so gf (Hn q hq).2.1 aLA xC xu) A9
   have NQ:i∉(l++rb).map (·.1):=λhm=>by
    simp only [aIp,are] at hm
    rcases hm with hm | hm
    ·obtain ⟨q,hq,he⟩:=aHW.1 hm
     exact j9 (Hn q hq).2.1 he
    ·exact hyr hm
   obtain ⟨r1,r2⟩:=sn (L':=(l++rb).map (·.1)) (λj=>by
    rw [aIp,are,hAB j,aIp]
    simp only [aHQ,are,aHM]
    constructor
    ·rintro (h | h | h)
     ·exact aKC
     ·exact .inl h
     ·exact .inr (.inr h)
    ·rintro (h | h | h)
     ·exact aKC
     ·exact .inl h
     ·exact .inr (.inr h)) NQ gK yO Fw xC
   have sj:rn P T ops.toList (λenv' h'=>Dh P T ops.toList t K (l++rb) bP env' h') [oi] env h:=tz (dZ (λv h' hk=>hk.2.2) RS)
   refine k7 hT ops (λenv' h' a' w' μ' S' hk kr=>yw hT ops gf kk hK hd (n+ra.length) (l++rb) bP _ env' h' a' w' μ' S' (by simp [hn,hlen]) hpb (λq hq=>by
    rw [are] at hq
    rcases hq with h | h
    ·exact bg q (aIZ _ h)
    ·have:q.1∈((x,false)::ra).map (·.1):=(hAB q.1).2 (aHT _ (aHW.2 ⟨q,h,rfl⟩))
     obtain ⟨p,hp,he⟩:=aHW.1 this
     rw [<-he]
     exact bg p (List.mem_append_right _ hp)) aLs r1 r2 hk kr) i oi xD NR env h a w μ S sj hs
theorem aam (hT:dJ P T) (ops:Array Oper) {t:List (Nat×List Nat)} (gf:∀i x,j8 (dD t i) x=true->Es ops.toList x i) (kk:∀i,i<ops.size->∀d,d∈bZ ops.toList i->d<ops.size/\d≠i) {x y:Nat} {ra rb:List (Nat×Bool)}
  (hlen:rb.length=ra.length) (hAB:∀j,j∈((x,false)::ra).map (·.1)↔j∈((y,false)::rb).map (·.1)) (hxA:∀d,d∈bZ ops.toList x->d∉((x,false)::ra).map (·.1)) (hxr:x∉ra.map (·.1)) (hyr:y∉rb.map (·.1))
  (Hf:∀p,p∈ra->p.1=y\/j8 (dD t p.1) x=true\/j8 (dD t p.1) y=true)
  {K:Env->List ak->Prop} {Q:Exit->Act->World->Prop} (hK:∀env h a w μ S,K env h->mH C μ h S env a w->Q .normal a w) (hd:∀o∈ops.toList,mz C.nt o=true)
  (n:Nat) (l:List (Nat×Bool)) (bP:List (Nat×List Nat)) (listed:Array Bool) (env:Env) (h:List ak) (a:Act) (w:World) (μ:Mu) (S:Nat->Prop) (hn:l.length=n) (hpa:bN ops t (l++ra)=true) (hpb:bN ops t (l++rb)=true)
  (Hn:∀p,p∈l->fp ops t p (x,false)=true/\fp ops t p (y,false)=true/\∀d,d∈bZ ops.toList p.1->d∉((x,false)::ra).map (·.1))
  (bg:∀p,p∈l++(x,false)::ra->p.1<ops.size) (gK:listed.size=ops.size)
  (yO:∀j,j<ops.size->(listed.getD j true=false↔j∈(l++(x,false)::ra).map (·.1))) (Fw:∀j,j<ops.size->j∉(l++(x,false)::ra).map (·.1)->∀d,d∈bZ ops.toList j->d∉(l++(x,false)::ra).map (·.1))
  (hf:zE P T ops.toList t ((x,false)::ra) ((y,false)::rb) K l bP env h) (hs:mH C μ h S env a w):wpAny P .any ops Q (n+(ra.length+1)) listed a w:=by
 induction n generalizing l bP listed env h a w μ S with
 | zero=>exact wD hT ops gf kk hlen hAB hxA hxr hyr Hf hK hd 0 l bP listed env h a w μ S hn hpa hpb Hn bg gK yO Fw hf hs (λm hm=>absurd hm (Nat.succ_ne_zero m))
 | succ n ih=>exact wD hT ops gf kk hlen hAB hxA hxr hyr Hf hK hd (n+1) l bP listed env h a w μ S hn hpa hpb Hn bg gK yO Fw hf hs (λm hm=>by (obtain rfl:m=n:=Nat.succ.inj hm);exact ih)
def Left (ops:Array Oper) (l:List (Nat×Bool)) (R:List Nat) (listed:Array Bool):Prop:=
 listed.size=ops.size/\(∀j,j<ops.size->(listed.getD j true=false↔j∈l.map (·.1)++R))/\∀j,j<ops.size->j∉l.map (·.1)++R->∀d,d∈bZ ops.toList j->d∉l.map (·.1)++R
def Snd (P:Program) (T:o9) (C:Start) (ops:Array Oper) (t:List (Nat×List Nat)) (Q:Exit->Act->World->Prop) (E:List (Nat×List Nat)->Env->List ak->Prop) (R:List Nat) (c:List (Nat×Bool)->Prop):Prop:=
 ∀(l:List (Nat×Bool)) (bP:List (Nat×List Nat)) (listed:Array Bool) (env:Env) (h:List ak) (a:Act) (w:World) (μ:Mu) (S:Nat->Prop),c l->(∀p,p∈l->p.1<ops.size)->Left ops l R listed->
  mI P T ops.toList t E l bP env h->mH C μ h S env a w->wpAny P .any ops Q (l.length+R.length) listed a w
theorem yy (hT:dJ P T) (ops:Array Oper) {t:List (Nat×List Nat)} (gf:∀i x,j8 (dD t i) x=true->Es ops.toList x i) (kk:∀i,i<ops.size->∀d,d∈bZ ops.toList i->d<ops.size/\d≠i)
  {K:Env->List ak->Prop} {Q:Exit->Act->World->Prop} (hK:∀env h a w μ S,K env h->mH C μ h S env a w->Q .normal a w) (hd:∀o∈ops.toList,mz C.nt o=true) (A:List (Nat×Bool)) (hA:∀p,p∈A->p.1<ops.size):
  Snd P T C ops t Q (λbP env h=>Dh P T ops.toList t K A bP env h) (A.map (·.1)) (λl=>bN ops t (l++A)=true):=by
 intro l bP listed env h a w μ S hc bg hL hf hs
 obtain ⟨gK,yO,Fw⟩:=hL
 rw [show l.length+(A.map (·.1)).length=(l++A).length from by simp]
 rw [<-aIp] at yO Fw
 exact yw hT ops gf kk hK hd _ (l++A) bP listed env h a w μ S rfl hc (λp hp=>by rcases are.1 hp with q | q;exact bg p q;exact hA p q) gK yO Fw (vx l bP env h hf) hs
theorem P7 {ops:Array Oper} {t:List (Nat×List Nat)} {Q:Exit->Act->World->Prop} {E:List (Nat×List Nat)->Env->List ak->Prop} {R:List Nat} {c:List (Nat×Bool)->Prop} (hE:Snd P T C ops t Q E R c) (o1:List (Nat×Bool)) (h1:∀p,p∈o1->p.1<ops.size):
  Snd P T C ops t Q (λbP env h=>mI P T ops.toList t E o1 bP env h) (o1.map (·.1)++R) (λl=>c (l++o1)):=by
 intro l bP listed env h a w μ S hc bg hL hf hs
 have e:(l++o1).map (·.1)++R=l.map (·.1)++(o1.map (·.1)++R):=by simp
 have:=hE (l++o1) bP listed env h a w μ S hc (λp hp=>by rcases are.1 hp with q | q;exact bg p q;exact h1 p q) (by unfold Left;rw [e];exact hL) (vy l bP env h hf) hs
 rw [show l.length+(o1.map (·.1)++R).length=(l++o1).length+R.length from by simp;omega]
 exact this
structure BrC (ops:Array Oper) (t:List (Nat×List Nat)) (x y:Nat) (R:List Nat) (cX cY:List (Nat×Bool)->Prop) (l:List (Nat×Bool)):Prop where
 pw:bN ops t l=true
 hd:∀p,p∈l->fp ops t p (x,false)=true/\fp ops t p (y,false)=true/\(∀d,d∈bZ ops.toList p.1->d∉R)/\p.1∉R
 x:cX l
 y:cY l
theorem NU (hT:dJ P T) (ops:Array Oper) {t:List (Nat×List Nat)} (gf:∀i x,j8 (dD t i) x=true->Es ops.toList x i) (kk:∀i,i<ops.size->∀d,d∈bZ ops.toList i->d<ops.size/\d≠i)
  {Q:Exit->Act->World->Prop} (hd:∀o∈ops.toList,mz C.nt o=true) {x y:Nat} {RX RY:List Nat} {EX EY:List (Nat×List Nat)->Env->List ak->Prop} {cX cY:List (Nat×Bool)->Prop} (hEX:tR EX) (hEY:tR EY)
  (hX:Snd P T C ops t Q EX RX cX) (hY:Snd P T C ops t Q EY RY cY) (hcX:∀l1 p l2,cX (l1++p::l2)->cX (l1++l2)) (hcY:∀l1 p l2,cY (l1++p::l2)->cY (l1++l2))
  (hlen:RX.length=RY.length) (hAB:∀j,j∈x::RX↔j∈y::RY) (hxs:x<ops.size) (hxd:∀d,d∈bZ ops.toList x->d∉x::RX) (hxr:x∉RX) (hyr:y∉RY) (Hf:∀j,j∈RX->j=y\/j8 (dD t j) x=true\/j8 (dD t j) y=true):
  Snd P T C ops t Q (λbP env h=>mI P T ops.toList t EX [(x,false)] bP env h/\mI P T ops.toList t EY [(y,false)] bP env h) (x::RX) (BrC ops t x y (x::RX) cX cY):=by
 have hE:tR (λbP env h=>mI P T ops.toList t EX [(x,false)] bP env h/\mI P T ops.toList t EY [(y,false)] bP env h):=zF (k8 hEX _) (k8 hEY _)
 intro l
 generalize hn:l.length=n
 induction n generalizing l with
 | zero=>?z
 | succ n ih=>?s
 all_goals
  intro bP listed env h a w μ S hc bg hL hf hs
  obtain ⟨gK,yO,Fw⟩:=hL
  have hgd:∀d,d<ops.size->(listed.getD d false=true↔d∉l.map (·.1)++x::RX):=λd P0=>by
   have:=yO d P0
   have e:listed.getD d false=listed.getD d true:=by simp [Array.getD,gK,P0]
   rw [e,<-this]
   cases listed.getD d true<;>simp
  refine ⟨λh0=>?_,λi hi=>?_⟩
 case z.refine_1 | s.refine_1=>
  exfalso
  have first:∃p,p<ops.size/\p∈l.map (·.1)++x::RX/\∀d,d∈bZ ops.toList p->d∉l.map (·.1)++x::RX:=by
   cases l with
   | nil=>exact ⟨x,hxs,by simp,λd DB hm=>hxd d DB (by simpa using hm)⟩
   | cons p r=>
    have hp:=bg p aKN
    refine ⟨p.1,hp,by simp,λd DB hm=>?_⟩
    rw [are] at hm
    rcases hm with hm | hm
    ·simp only [aHQ,aHM,aHW] at hm
     rcases hm with rfl | ⟨q,hq,rfl⟩
     ·exact (kk _ hp _ DB).2 rfl
     ·exact Di (jD [] _ hc.pw hq) DB
    ·exact (hc.hd p aKN).2.2.1 d DB hm
  obtain ⟨p,hp,hpm,hpd⟩:=first
  have ho:=aIa hp
  have:p∈Region.ready .any ops listed:=by
   rw [mem_ready]
   refine ⟨(yO p hp).2 hpm,_,ho,λe he hb=>?_⟩
   have hm:e.on∈bZ ops.toList p:=(oc ho).2 ⟨e,he,hb,rfl⟩
   rw [hgd _ (kk p hp _ hm).1]
   exact hpd _ hm
  rw [h0] at this
  simp at this
 all_goals
  rw [mem_ready] at hi
  obtain ⟨h1,oi,xD,KJ⟩:=hi
  have ru:=(abL.1 xD).1
  have AR:ops.toList[i]? =some oi:=by simpa using xD
  have NR:mz C.nt oi=true:=hd oi aLB
  have xC:∀d,d∈bZ ops.toList i->d∉l.map (·.1)++x::RX:=λd vN=>by
   exact aKg
  have xu:∀z,Es ops.toList z i->z∉l.map (·.1)++x::RX:=by
   have gen:∀z j,Es ops.toList z j->j<ops.size->(∀d,d∈bZ ops.toList j->d∉l.map (·.1)++x::RX)->z∉l.map (·.1)++x::RX:=λz j ha=>by
    induction ha with
    | base hx=>exact λ_ hj=>hj _ hx
    | step vN _ ih=>exact λhj hjd=>ih (kk _ hj _ vN).1 (Fw _ (kk _ hj _ vN).1 (hjd _ vN))
   exact λz ha=>gen z i ha ru xC
  have hyA:y∈x::RX:=(hAB y).2 aKN
  have Hg:=(yO i ru).1 h1
  rw [are] at Hg
  have split:i∈l.map (·.1)\/i=x\/i=y:=by
   rcases Hg with Hg | Hg
   ·exact .inl Hg
   ·rcases aHM.1 Hg with rfl | hq
    ·exact .inr (.inl rfl)
    ·rcases Hf i hq with h2 | h2 | h2
     ·exact .inr (.inr h2)
     ·exact absurd (by simp:x∈l.map (·.1)++x::RX) (xu _ (gf _ _ h2))
     ·exact absurd (by rw [are];exact .inr hyA) (xu _ (gf _ _ h2))
  have aF7:∀q,q∈l->q.1∉x::RX:=λq hq=>(hc.hd q hq).2.2.2
  rcases split with Hg | rfl | rfl
 case z.refine_2.inl=>obtain rfl:=aJf.1 hn;simp at Hg
 case s.refine_2.inl=>
  obtain ⟨p,hp,hpi⟩:=aHW.1 Hg
  obtain ⟨l1,l2,rfl⟩:=aJz hp
  obtain ⟨i',st⟩:=p
  simp only at hpi
  subst hpi
  obtain ⟨hpr,hpw⟩:=eU l1 _ hc.pw
  have RS:=vO hE (P:=P) (T:=T) (ops:=ops) (t:=t) AR l1 l2 bP env h (λq hq=>so gf (hpr q hq) (by rw [are];exact .inl (aHW.2 ⟨q,aIZ _ hq,rfl⟩)) xC xu) hf
  have NQ:i'∉(l1++l2).map (·.1)++x::RX:=λhm=>by
   rw [are] at hm
   rcases hm with hm | hm
   ·obtain ⟨q,hq,he⟩:=aHW.1 hm
    rcases are.1 hq with hq | hq
    ·exact j9 (hpr q hq) he
    ·exact j9 (jD l1 _ hc.pw hq) he.symm
   ·exact aF7 (i',st) aKN hm
  obtain ⟨r1,r2⟩:=sn (L':=(l1++l2).map (·.1)++x::RX) (λj=>by
   simp only [aIp,aHQ,are,aHM]
   constructor
   ·rintro ((h | h | h) | h)
    ·exact .inr (.inl (.inl h))
    ·exact .inl h
    ·exact .inr (.inl (.inr h))
    ·exact .inr (.inr h)
   ·rintro (h | (h | h) | h)
    ·exact .inl (.inr (.inl h))
    ·exact .inl (.inl h)
    ·exact .inl (.inr (.inr h))
    ·exact .inr h) NQ gK yO Fw xC
  have sj:rn P T ops.toList (λenv' h'=>mI P T ops.toList t (λbP env h=>mI P T ops.toList t EX [(x,false)] bP env h/\mI P T ops.toList t EY [(y,false)] bP env h) (l1++l2) bP env' h') [oi] env h:=tz (dZ (λv h' hk=>hk.2.2) RS)
  have hc':BrC ops t x y (x::RX) cX cY (l1++l2):=⟨hpw,λq hq=>hc.hd q (by
   simp only [are,aHM] at hq ⊢
   exact hq.imp id .inr),hcX _ _ _ hc.x,hcY _ _ _ hc.y⟩
  have q:wpOp P ops Q i' (wpAny P .any ops Q (n+(x::RX).length) (listed.setIfInBounds i' true)) a w:=k7 hT ops (λenv' h' a' w' μ' S' hk kr=>ih (l1++l2) (by simp at hn ⊢;omega) bP _ env' h' a' w' μ' S' hc' (λq hq=>bg q (by
   simp only [are,aHM] at hq ⊢
   exact hq.imp id .inr)) ⟨by simpa using gK,r1,r2⟩ hk kr) i' oi xD NR env h a w μ S sj hs
  rw [show n+(x::RX).length=n+1+RX.length from by simp;omega] at q
  exact q
 case z.refine_2.inr.inl | s.refine_2.inr.inl=>
  have A9:mI P T ops.toList t EX (l++[(i,false)]) bP env h:=vy l bP env h (yz (λ_ _ _ q=>q.1) l bP env h hf)
  have RS:=vO hEX (P:=P) (T:=T) (ops:=ops) (t:=t) AR l [] bP env h (λq hq=>so gf (hc.hd q hq).1 (by rw [are];exact .inl (aHW.2 ⟨q,hq,rfl⟩)) xC xu) A9
  have NQ:i∉l.map (·.1)++RX:=λhm=>by
   rcases are.1 hm with hm | hm
   ·obtain ⟨q,hq,he⟩:=aHW.1 hm
    exact j9 (hc.hd q hq).1 he
   ·exact hxr hm
  obtain ⟨r1,r2⟩:=sn (L':=l.map (·.1)++RX) (λj=>by
   simp only [are,aHM]
   constructor
   ·rintro (h | h | h)
    ·exact aKC
    ·exact .inl h
    ·exact .inr (.inr h)
   ·rintro (h | h | h)
    ·exact aKC
    ·exact .inl h
    ·exact .inr (.inr h)) NQ gK yO Fw xC
  have sj:rn P T ops.toList (λenv' h'=>mI P T ops.toList t EX l bP env' h') [oi] env h:=tz (dZ (λv h' hk=>by have:=hk.2.2;rwa [aII] at this) RS)
  have q:wpOp P ops Q i (wpAny P .any ops Q (l.length+RX.length) (listed.setIfInBounds i true)) a w:=k7 hT ops (λenv' h' a' w' μ' S' hk kr=>hX l bP _ env' h' a' w' μ' S' hc.x bg ⟨by simpa using gK,r1,r2⟩ hk kr) i oi xD NR env h a w μ S sj hs
  rw [hn] at q
  exact q
 case z.refine_2.inr.inr | s.refine_2.inr.inr=>
  have A9:mI P T ops.toList t EY (l++[(i,false)]) bP env h:=vy l bP env h (yz (λ_ _ _ q=>q.2) l bP env h hf)
  have RS:=vO hEY (P:=P) (T:=T) (ops:=ops) (t:=t) AR l [] bP env h (λq hq=>so gf (hc.hd q hq).2.1 (by rw [are];exact .inl (aHW.2 ⟨q,hq,rfl⟩)) xC xu) A9
  have NQ:i∉l.map (·.1)++RY:=λhm=>by
   rcases are.1 hm with hm | hm
   ·obtain ⟨q,hq,he⟩:=aHW.1 hm
    exact j9 (hc.hd q hq).2.1 he
   ·exact hyr hm
  obtain ⟨r1,r2⟩:=sn (L':=l.map (·.1)++RY) (λj=>by
   rw [are,hAB j,are]
   simp only [aHM]
   constructor
   ·rintro (h | h | h)
    ·exact aKC
    ·exact .inl h
    ·exact .inr (.inr h)
   ·rintro (h | h | h)
    ·exact aKC
    ·exact .inl h
    ·exact .inr (.inr h)) NQ gK yO Fw xC
  have sj:rn P T ops.toList (λenv' h'=>mI P T ops.toList t EY l bP env' h') [oi] env h:=tz (dZ (λv h' hk=>by have:=hk.2.2;rwa [aII] at this) RS)
  have q:wpOp P ops Q i (wpAny P .any ops Q (l.length+RY.length) (listed.setIfInBounds i true)) a w:=k7 hT ops (λenv' h' a' w' μ' S' hk kr=>hY l bP _ env' h' a' w' μ' S' hc.y bg ⟨by simpa using gK,r1,r2⟩ hk kr) i oi xD NR env h a w μ S sj hs
  rw [hn,<-hlen] at q
  exact q
theorem oT {ops:Array Oper} {t:List (Nat×List Nat)}:∀(l A:List (Nat×Bool)),bN ops t (l++A)=true->bN ops t l=true
 | [],_,_=>rfl
 | p::l,A,h=>by
  simp only [aIM,bN,As,aHH] at h ⊢
  exact ⟨λq hq=>h.1 q (aIZ _ hq),oT l A h.2⟩
theorem vP {ops:Array Oper} {t:List (Nat×List Nat)} {ord:List (Nat×Bool)} {x y:Nat} {RX RY:List Nat} (h:NV ops t ord x y RX RY=true):
  RX.length=RY.length/\(∀p,p∈ord->fp ops t p (x,false)=true/\fp ops t p (y,false)=true/\(∀d,d∈bZ ops.toList p.1->d∉x::RX)/\p.1∉x::RX)/\(∀j,j∈x::RX↔j∈y::RY)/\
  (∀d,d∈bZ ops.toList x->d∉x::RX)/\x∉RX/\y∉RY/\(∀j,j∈RX->j=y\/j8 (dD t j) x=true\/j8 (dD t j) y=true):=by
 unfold NV at h
 simp only [As] at h
 obtain ⟨⟨⟨⟨⟨⟨⟨h1,h2⟩,h3⟩,h4⟩,h5⟩,h6⟩,h7⟩,h8⟩:=h
 rw [aHH] at h2 h3 h4 h5 h8
 have no:∀(L:List Nat) (z:Nat),(!(j8 L z))=true->z∉L:=λL z hz hm=>by rw [vM _ _ hm] at hz;cases hz
 refine ⟨Of h1,λp hp=>?_,λj=>⟨λhj=>lz _ _ (h3 j hj),λhj=>lz _ _ (h4 j hj)⟩,λd hd=>no _ _ (h5 d hd),no _ _ h6,no _ _ h7,λj hj=>?_⟩
 ·have:=h2 p hp
  rw [As,As,As,aHH] at this
  exact ⟨this.1.1.1,this.1.1.2,λd vN=>no _ _ (this.1.2 d vN),no _ _ this.2⟩
 ·have:=h8 j hj
  rw [aIJ,aIJ] at this
  rcases this with (q | q) | q
  ·exact .inl (Of q)
  ·exact .inr (.inl q)
  ·exact .inr (.inr q)
theorem RT (hT:dJ P T) (ops:Array Oper) {ord:List (Nat×Bool)} {x:Nat} {o1:List (Nat×Bool)} {x1:Nat} {yP:List (Nat×Bool)} {y1:Nat} {KK:List (Nat×Bool)} {y:Nat} {rb:List (Nat×Bool)} (hc:Dj ops ord x o1 x1 yP y1 KK y rb=true)
  {K:Env->List ak->Prop} {Q:Exit->Act->World->Prop} (hK:∀env h a w μ S,K env h->mH C μ h S env a w->Q .normal a w) (hd:∀o∈ops.toList,mz C.nt o=true) {env:Env} {h:List ak} {a:Act} {w:World}
  (hf:fw3 P T ops.toList (sh ops.toList (ord++(x,false)::(o1++(x1,false)::yP)) []) x o1 x1 yP y1 KK y rb K ord [] env h) (hs:mH C μ h S env a w):wpAny P .any ops Q ops.size (Array.replicate ops.size false) a w:=by
 unfold Dj at hc
 simp only [As] at hc
 obtain ⟨⟨⟨⟨⟨⟨⟨hlen,hcv⟩,mG⟩,Dx⟩,Hy⟩,hp3⟩,lA⟩,sC⟩:=hc
 rw [aHH] at hcv mG
 have hlen:=Of hlen
 generalize ht:sh ops.toList (ord++(x,false)::(o1++(x1,false)::yP)) []=t at*
 have gf:∀i x,j8 (dD t i) x=true->Es ops.toList x i:=by rw [<-ht];exact sg _ [] (λi x hx=>by simp [dD,j8] at hx)
 generalize hal:ord++(x,false)::(o1++(x1,false)::yP)=al at*
 have bg:∀p,p∈al->p.1<ops.size:=λp hp=>by
  have:=mG p hp
  rw [As] at this
  exact aHV this.1
 have xw:∀j,j<ops.size->j∈al.map (·.1):=λj hj=>lz _ _ (hcv j (aJi.2 hj))
 have kk:∀i,i<ops.size->∀d,d∈bZ ops.toList i->d<ops.size/\d≠i:=λi hi d vN=>by
  obtain ⟨p,hp,rfl⟩:=aHW.1 (xw i hi)
  have:=mG p hp
  rw [As,aHH] at this
  have:=this.2 d vN
  rw [As] at this
  exact ⟨aHV this.1,λhe=>by rw [he,aIW] at this;cases this.2⟩
 obtain ⟨b1,b2,b3,b4,b5,b6,b7⟩:=vP lA
 obtain ⟨c1,c2,c3,c4,c5,c6,c7⟩:=vP sC
 have mx:∀p,p∈ord\/p=(x,false)\/p∈o1\/p=(x1,false)\/p∈yP->p.1<ops.size:=λp hp=>bg p (by
  rw [<-hal];simp only [are,aHM];exact hp)
 have mid:∀j,j∈x1::yP.map (·.1)->j<ops.size:=λj hj=>by
  rcases aHM.1 hj with rfl | hj
  ·exact mx (j,false) (.inr (.inr (.inr (.inl rfl))))
  ·obtain ⟨p,hp,rfl⟩:=aHW.1 hj
   exact mx p (.inr (.inr (.inr (.inr hp))))
 have aBb:∀j,j∈x::(o1.map (·.1)++x1::yP.map (·.1))->j<ops.size:=λj hj=>by
  rcases aHM.1 hj with rfl | hj
  ·exact mx (j,false) (.inr (.inl rfl))
  ·rcases are.1 hj with hj | hj
   ·obtain ⟨p,hp,rfl⟩:=aHW.1 hj
    exact mx p (.inr (.inr (.inl hp)))
   ·exact mid j hj
 have app:∀{A:List (Nat×Bool)} (l1:List (Nat×Bool)) (p:Nat×Bool) (l2:List (Nat×Bool)),bN ops t ((l1++p::l2)++A)=true->bN ops t ((l1++l2)++A)=true:=λ{A} l1 p l2 q=>by
  rw [aIe] at q ⊢
  exact (eU l1 _ q).2
 have s1:=yy (C:=C) hT ops gf kk hK hd yP (λp hp=>mx p (.inr (.inr (.inr (.inr hp)))))
 have s2:=yy (C:=C) hT ops gf kk hK hd KK (λp hp=>mid p.1 ((c3 p.1).2 (aHT _ (aHW.2 ⟨p,hp,rfl⟩))))
 have s3:=yy (C:=C) hT ops gf kk hK hd rb (λp hp=>aBb p.1 ((b3 p.1).2 (aHT _ (aHW.2 ⟨p,hp,rfl⟩))))
 have in1:=NU (C:=C) hT ops gf kk hd (x:=x1) (y:=y1) (mA yP) (mA KK) s1 s2 app app c1 c3 (mid x1 aKN) c4 c5 c6 c7
 have in2:=P7 in1 o1 (λp hp=>mx p (.inr (.inr (.inl hp))))
 have out:=NU (C:=C) hT ops gf kk hd (x:=x) (y:=y) (k8 (zF (k8 (mA yP) _) (k8 (mA KK) _)) o1) (mA rb) in2 s3 (λl1 p l2 q=>by
  rw [aIe] at q ⊢
  obtain ⟨q1,q2,q3,q4⟩:=q
  refine ⟨(eU l1 _ q1).2,λr hr=>q2 r ?_,?_,?_⟩
  ·simp only [are,aHM] at hr ⊢
   rcases hr with hr | hr | hr
   ·exact .inl hr
   ·exact .inr (.inl (.inr hr))
   ·exact .inr (.inr hr)
  ·have q3:bN ops t ((l1++(p::l2++o1))++yP)=true:=q3
   show bN ops t ((l1++(l2++o1))++yP)=true
   rw [aIe] at q3 ⊢
   exact (eU l1 _ q3).2
  ·have q4:bN ops t ((l1++(p::l2++o1))++KK)=true:=q4
   show bN ops t ((l1++(l2++o1))++KK)=true
   rw [aIe] at q4 ⊢
   exact (eU l1 _ q4).2) app b1 b3 (aBb x aKN) b4 b5 b6 b7
 have hR:∀j,j∈ord.map (·.1)++x::(o1.map (·.1)++x1::yP.map (·.1))↔j∈al.map (·.1):=λj=>by rw [<-hal];simp
 have gK:ops.size=ord.length+(x::(o1.map (·.1)++x1::yP.map (·.1))).length:=by rw [<-hlen,<-hal];simp
 have:=out ord [] (Array.replicate ops.size false) env h a w μ S ⟨oT ord _ hp3,b2,⟨oT _ _ Dx,c2,Dx,Hy⟩,hp3⟩ (λp hp=>mx p (.inl hp))
  ⟨by simp,λj hj=>⟨λ_=>(hR j).2 (xw j hj),λ_=>by simp [Array.getD,hj]⟩,λj hj hn=>absurd ((hR j).2 (xw j hj)) hn⟩
  (mB (λbP env h q=>⟨mB (E:=λbP env h=>fw P T ops.toList t K ((x1,false)::yP) bP env h/\fw P T ops.toList t K ((y1,false)::KK) bP env h) (λbP env h q=>⟨kb _ _ _ _ q.1,kb _ _ _ _ q.2⟩) ((x,false)::o1) bP env h q.1,kb _ _ _ _ q.2⟩) ord [] env h hf) hs
 rw [<-gK] at this
 exact this
def ad7 (P:Program) (T:o9) (all:List Oper) (t:List (Nat×List Nat)) (K:Env->List ak->Prop) (fin:List (Nat×Bool)):qO->List (Nat×List Nat)->Env->List ak->Prop
 | []=>λbP env h=>Dh P T all t K fin bP env h
 | c::r=>λbP env h=>mI P T all t (λbP env h=>mI P T all t (ad7 P T all t K fin r) [(c.2.1,false)] bP env h/\mI P T all t (λbP env h=>Dh P T all t K c.2.2.2 bP env h) [(c.2.2.1,false)] bP env h) c.1 bP env h
theorem Dk {all:List Oper} {t:List (Nat×List Nat)} {K:Env->List ak->Prop} {fin:List (Nat×Bool)}:∀(cs:qO),tR (ad7 P T all t K fin cs)
 | []=>mA fin
 | c::r=>k8 (zF (k8 (Dk r) _) (k8 (mA c.2.2.2) _)) c.1
theorem P8 {all:List Oper} {t:List (Nat×List Nat)} {K:Env->List ak->Prop} {fin:List (Nat×Bool)}:∀(cs:qO) (bP:List (Nat×List Nat)) (env:Env) (h:List ak),fwC P T all t K fin cs bP env h->ad7 P T all t K fin cs bP env h
 | [],bP,env,h,q=>kb _ _ _ _ q
 | c::r,bP,env,h,q=>mB (λbP env h q=>⟨mB (P8 r) _ bP env h q.1,kb _ _ _ _ q.2⟩) c.1 bP env h q
def cbC (ops:Array Oper) (t:List (Nat×List Nat)) (fin:List (Nat×Bool)):qO->List (Nat×Bool)->Prop
 | []=>λl=>bN ops t (l++fin)=true
 | c::r=>λl=>BrC ops t c.2.1 c.2.2.1 (c.2.1::(Et r fin).map (·.1)) (cbC ops t fin r) (λl=>bN ops t (l++c.2.2.2)=true) (l++c.1)
theorem P9 {ops:Array Oper} {t:List (Nat×List Nat)} {fin:List (Nat×Bool)}:∀(cs:qO) (l1:List (Nat×Bool)) (p:Nat×Bool) (l2:List (Nat×Bool)),cbC ops t fin cs (l1++p::l2)->cbC ops t fin cs (l1++l2)
 | [],l1,p,l2,q=>by
  have q:bN ops t ((l1++p::l2)++fin)=true:=q
  show bN ops t ((l1++l2)++fin)=true
  rw [aIe] at q ⊢
  exact (eU l1 _ q).2
 | c::r,l1,p,l2,q=>by
  obtain ⟨q1,q2,q3,q4⟩:=q
  rw [aIe l1] at q1 q3
  have q4:bN ops t ((l1++p::l2++c.1)++c.2.2.2)=true:=q4
  rw [aIe l1 (p::l2) c.1] at q4
  have e:l1++l2++c.1=l1++(l2++c.1):=aIe _ _ _
  show BrC ops t c.2.1 c.2.2.1 (c.2.1::(Et r fin).map (·.1)) (cbC ops t fin r) (λl=>bN ops t (l++c.2.2.2)=true) (l1++l2++c.1)
  rw [e]
  refine ⟨(eU l1 _ q1).2,λs hs=>q2 s ?_,P9 r l1 p (l2++c.1) q3,?_⟩
  ·simp only [are,aHM] at hs ⊢
   rcases hs with hs | hs | hs
   ·exact .inl (.inl hs)
   ·exact .inl (.inr (.inr hs))
   ·exact .inr hs
  ·have q4:bN ops t ((l1++(p::l2++c.1))++c.2.2.2)=true:=q4
   show bN ops t ((l1++(l2++c.1))++c.2.2.2)=true
   rw [aIe] at q4 ⊢
   exact (eU l1 _ q4).2
theorem ad8 {ops:Array Oper} {t:List (Nat×List Nat)} {fin:List (Nat×Bool)}:∀(cs:qO) (l:List (Nat×Bool)),cbC ops t fin cs l->bN ops t l=true
 | [],l,q=>oT _ _ q
 | c::r,l,q=>oT _ _ q.pw
theorem aan {ops:Array Oper} {t:List (Nat×List Nat)} {fin:List (Nat×Bool)}:∀(cs:qO) (pre:List (Nat×Bool)),RU ops t fin cs pre=true->cbC ops t fin cs pre
 | [],pre,q=>q
 | c::r,pre,q=>by
  have q:(NV ops t (pre++c.1) c.2.1 c.2.2.1 ((Et r fin).map (·.1)) (c.2.2.2.map (·.1))&&bN ops t ((pre++c.1)++c.2.2.2)&&RU ops t fin r (pre++c.1))=true:=q
  simp only [As] at q
  obtain ⟨⟨q1,q2⟩,q3⟩:=q
  obtain ⟨b1,b2,b3,b4,b5,b6,b7⟩:=vP q1
  have ih:=aan r _ q3
  exact ⟨ad8 r _ ih,b2,ih,q2⟩
theorem aao (hT:dJ P T) (ops:Array Oper) {t:List (Nat×List Nat)} (gf:∀i x,j8 (dD t i) x=true->Es ops.toList x i) (kk:∀i,i<ops.size->∀d,d∈bZ ops.toList i->d<ops.size/\d≠i)
  {K:Env->List ak->Prop} {Q:Exit->Act->World->Prop} (hK:∀env h a w μ S,K env h->mH C μ h S env a w->Q .normal a w) (hd:∀o∈ops.toList,mz C.nt o=true) (fin:List (Nat×Bool)):
  ∀(cs:qO) (pre:List (Nat×Bool)),RU ops t fin cs pre=true->(∀p,p∈Et cs fin->p.1<ops.size)->Snd P T C ops t Q (ad7 P T ops.toList t K fin cs) ((Et cs fin).map (·.1)) (cbC ops t fin cs)
 | [],pre,_,bg=>yy (C:=C) hT ops gf kk hK hd fin bg
 | c::r,pre,q,bg=>by
  have q:(NV ops t (pre++c.1) c.2.1 c.2.2.1 ((Et r fin).map (·.1)) (c.2.2.2.map (·.1))&&bN ops t ((pre++c.1)++c.2.2.2)&&RU ops t fin r (pre++c.1))=true:=q
  simp only [As] at q
  obtain ⟨⟨q1,q2⟩,q3⟩:=q
  obtain ⟨b1,b2,b3,b4,b5,b6,b7⟩:=vP q1
  have bg:∀p,p∈c.1++(c.2.1,false)::Et r fin->p.1<ops.size:=bg
  have hx:c.2.1<ops.size:=bg (c.2.1,false) aKN
  have hr:∀p,p∈Et r fin->p.1<ops.size:=λp hp=>bg p (by simp [hp])
  have mid:∀j,j∈c.2.1::(Et r fin).map (·.1)->j<ops.size:=λj hj=>by
   rcases aHM.1 hj with rfl | hj
   ·exact hx
   ·obtain ⟨p,hp,rfl⟩:=aHW.1 hj
    exact hr p hp
  have sX:=aao hT ops gf kk hK hd fin r (pre++c.1) q3 hr
  have sY:=yy (C:=C) hT ops gf kk hK hd c.2.2.2 (λp hp=>mid p.1 ((b3 p.1).2 (aHT _ (aHW.2 ⟨p,hp,rfl⟩))))
  have br:=NU (C:=C) hT ops gf kk hd (x:=c.2.1) (y:=c.2.2.1) (Dk r) (mA c.2.2.2) sX sY (P9 r) (λl1 p l2 q=>by
   rw [aIe] at q ⊢
   exact (eU l1 _ q).2) b1 b3 hx b4 b5 b6 b7
  have out:=P7 br c.1 (λp hp=>bg p (by simp [hp]))
  have e:(Et (c::r) fin).map (·.1)=c.1.map (·.1)++c.2.1::(Et r fin).map (·.1):=by
   show (c.1++(c.2.1,false)::Et r fin).map (·.1)=_
   simp
  rw [e]
  exact out
theorem RV (hT:dJ P T) (ops:Array Oper) {cs:qO} {fin:List (Nat×Bool)} (hc:Dl ops cs fin=true)
  {K:Env->List ak->Prop} {Q:Exit->Act->World->Prop} (hK:∀env h a w μ S,K env h->mH C μ h S env a w->Q .normal a w) (hd:∀o∈ops.toList,mz C.nt o=true) {env:Env} {h:List ak} {a:Act} {w:World}
  (hf:fwC P T ops.toList (sh ops.toList (Et cs fin) []) K fin cs [] env h) (hs:mH C μ h S env a w):wpAny P .any ops Q ops.size (Array.replicate ops.size false) a w:=by
 unfold Dl at hc
 simp only [As] at hc
 obtain ⟨⟨⟨hlen,hcv⟩,mG⟩,hcb⟩:=hc
 rw [aHH] at hcv mG
 have hlen:=Of hlen
 generalize ht:sh ops.toList (Et cs fin) []=t at*
 have gf:∀i x,j8 (dD t i) x=true->Es ops.toList x i:=by rw [<-ht];exact sg _ [] (λi x hx=>by simp [dD,j8] at hx)
 have bg:∀p,p∈Et cs fin->p.1<ops.size:=λp hp=>by
  have:=mG p hp
  rw [As] at this
  exact aHV this.1
 have xw:∀j,j<ops.size->j∈(Et cs fin).map (·.1):=λj hj=>lz _ _ (hcv j (aJi.2 hj))
 have kk:∀i,i<ops.size->∀d,d∈bZ ops.toList i->d<ops.size/\d≠i:=λi hi d vN=>by
  obtain ⟨p,hp,rfl⟩:=aHW.1 (xw i hi)
  have:=mG p hp
  rw [As,aHH] at this
  have:=this.2 d vN
  rw [As] at this
  exact ⟨aHV this.1,λhe=>by rw [he,aIW] at this;cases this.2⟩
 have out:=aao (C:=C) hT ops gf kk hK hd fin cs [] hcb bg
 have:=out [] [] (Array.replicate ops.size false) env h a w μ S (aan cs [] hcb) (λp hp=>by simp at hp)
  ⟨by simp,λj hj=>⟨λ_=>by simpa using xw j hj,λ_=>by simp [Array.getD,hj]⟩,λj hj hn=>absurd (xw j hj) (by simpa using hn)⟩
  (P8 cs [] env h hf) hs
 have e:([]:List (Nat×Bool)).length+((Et cs fin).map (·.1)).length=ops.size:=by simpa using hlen
 rw [e] at this
 exact this
theorem ad9 {J:List (Nat×PV)->List ak->Prop} {env:Env} {h:List ak} {a:Act} {w:World} (hg:ym C.h.length J env h):∀{μ:Mu} {S:Nat->Prop},mH C μ h S env a w->∃σ η μ3 S3,mH C μ3 η S3 (zC ot σ) a w/\J σ η:=by
 induction hg with
 | mk σ η ht hj=>
  intro μ S hs
  obtain ⟨μ3,S3,K2⟩:=zD hs ht
  exact ⟨σ,η,μ3,S3,K2,hj⟩
 | ex h1 hx hk ih=>
  intro μ S hs
  obtain ⟨μ1,fu⟩:=hs.ex hx
  exact ih fu
 | ab id i j sub h1 ha hk ih=>
  intro μ S hs
  obtain ⟨F,fu⟩:=hs.ab ha
  exact ih F fu
theorem aea {m:Nat} {A B:XQ->Env->List ak->Prop} {Q:XQ} {env:Env} {h:List ak} {a:Act} {w:World} {S:Nat->Prop} (hv:vj m A B Q env h):∀{μ:Mu},mH C μ h S env a w->
  ∃μ' h',mH C μ' h' S env a w/\(A (XQ.then (B Q) Q) env h'\/∃J,A (XQ.then (ym m J) Q) env h'/\∀σ η,J σ η->B Q (zC ot σ) η):=by
 induction hv with
 | direct hd=>exact λhs=>⟨_,_,hs,.inl hd⟩
 | cut J ha hb=>exact λhs=>⟨_,_,hs,.inr ⟨J,ha,hb⟩⟩
 | ex h1 hx hk ih=>
  intro μ hs
  obtain ⟨μ1,fu⟩:=hs.ex hx
  exact ih fu
 | ab id i j sub h1 ha hk ih=>
  intro μ hs
  obtain ⟨F,fu⟩:=hs.ab ha
  exact ih F fu
theorem ny (hT:dJ P T) (wg:P.follows .mixedOrders=true):∀(c:Code) (Q:XQ) (env:Env) (h:List ak) (a:Act) (w:World) (μ:Mu) (S:Nat->Prop),
  vc P T C.h.length c Q env h->codeOk C.nt c=true->mH C μ h S env a w->c.wp P (yv C Q) a w
 | .skip,Q,env,h,a,w,μ,S,hv,_,hs=>wp_skip ⟨μ,h,S,env,hs,hv⟩
 | .label _,Q,env,h,a,w,μ,S,hv,_,hs=>wp_label ⟨μ,h,S,env,hs,hv⟩
 | .exit _,Q,env,h,a,w,μ,S,hv,_,hs=>wp_exit ⟨μ,h,S,env,hs,hv⟩
 | .ret,Q,env,h,a,w,μ,S,hv,_,hs=>wp_ret ⟨μ,h,S,env,hs,hv⟩
 | .region id ops d,Q,env,h,a,w,μ,S,hv,wi,hs=>by
  simp only [codeOk,As,aHH] at wi
  have hd:∀o∈ops.toList,mz C.nt o=true:=wi.1
  cases d with
  | false=>
   refine wp_region_list (xq hT ops (Q:=yv C Q) (λenv h a w μ S hq hs=>⟨μ,h,S,env,hs,hq⟩) ops.toList env h a w μ S hv hd hs)
  | true=>
   have quiet:xt P T ops.toList h (λenv'=>Q .normal env' h) ops.toList env->(Code.region id ops true).wp P (yv C Q) a w:=λhv=>by
    refine wp_region_quiet (C:=cD w) wg (by simpa using wi.2) (cD.drew w) ?_
    exact tv hT ops h w μ S (λenv a hq hs w' hw'=>⟨μ,h,S,env,hs.agree hw',hq⟩) ops.toList env a hv hd hs
   have hv:(match ops.toList.all (λo=>Fy o.op) with
    | true=>xt P T ops.toList h (λenv'=>Q .normal env' h) ops.toList env
    | false=>vz P T C.h.length ops (λenv' h'=>Q .normal env' h') env h):=hv
   split at hv
   ·exact quiet hv
   ·cases hv with
    | quiet hq=>exact quiet hq
    | orders σ η hc xC hk=>
     refine wp_region_any wg ?_
     refine Df hT ops (C:=C) (K:=λenv' h'=>vi C.h.length env' h' σ η) (Q:=yv C Q) (λenv' h' a' w' μ' S' ht kr=>?_) hd ops.size _ [] env h a _ μ S hc (by simpa using xC) (hs.agree (cD.drew w))
     obtain ⟨μ2,S2,nI⟩:=zD kr ht
     exact ⟨μ2,η,S2,_,nI,hk⟩
    | Md ord x ra y rb hc hf=>
     refine wp_region_any wg ?_
     unfold KL at hc
     simp only [As] at hc
     obtain ⟨⟨⟨⟨⟨⟨⟨⟨⟨⟨⟨⟨hlen,aBc⟩,hcv⟩,mG⟩,hpa⟩,hpb⟩,Hn⟩,aBd⟩,aBe⟩,hxA⟩,hxr⟩,hyr⟩,Hf⟩:=hc
     rw [aHH] at hcv mG Hn aBd aBe hxA Hf
     have hlen:=Of hlen
     have bg:∀p,p∈ord++(x,false)::ra->p.1<ops.size:=λp hp=>by
      have:=mG p hp
      rw [As] at this
      exact aHV this.1
     have xw:∀j,j<ops.size->j∈(ord++(x,false)::ra).map (·.1):=λj hj=>lz _ _ (hcv j (aJi.2 hj))
     have no:∀(L:List Nat) (z:Nat),(!(j8 L z))=true->z∉L:=λL z hz hm=>by rw [vM _ _ hm] at hz;cases hz
     rw [<-hlen]
     exact aam hT ops (C:=C) (sg _ [] (λi x hx=>by simp [dD,j8] at hx)) (λi hi d vN=>by
      obtain ⟨p,hp,rfl⟩:=aHW.1 (xw i hi)
      have:=mG p hp
      rw [As,aHH] at this
      have:=this.2 d vN
      rw [As] at this
      exact ⟨aHV this.1,λhe=>by rw [he,aIW] at this;cases this.2⟩)
      (Of aBc) (λj=>⟨λhj=>lz _ _ (aBd j hj),λhj=>lz _ _ (aBe j hj)⟩) (λd vN=>no _ _ (hxA d vN)) (no _ _ hxr) (no _ _ hyr)
      (λp hp=>by
       have:=Hf p hp
       rw [aIJ,aIJ] at this
       rcases this with (h1 | h1) | h1
       ·exact .inl (Of h1)
       ·exact .inr (.inl h1)
       ·exact .inr (.inr h1))
      (K:=Qa Q) (Q:=yv C Q) (λenv h a w μ S hq hs=>⟨μ,h,S,env,hs,hq⟩) hd ord.length ord [] _ env h a _ μ S rfl hpa hpb (λp hp=>by
       have:=Hn p hp
       rw [As,As,aHH] at this
       exact ⟨this.1.1,this.1.2,λd vN=>no _ _ (this.2 d vN)⟩) bg (by simp [hlen]) (λj hj=>⟨λ_=>xw j hj,λ_=>by simp [Array.getD,hlen,hj]⟩) (λj hj hn=>absurd (xw j hj) hn) (vA _ _ _ _ hf) (hs.agree (cD.drew w))
    | XA ord x o1 x1 yP y1 KK y rb hc hf=>
     refine wp_region_any wg ?_
     exact RT (C:=C) hT ops hc (K:=Qa Q) (Q:=yv C Q) (λenv h a w μ S hq hs=>⟨μ,h,S,env,hs,hq⟩) hd hf (hs.agree (cD.drew w))
    | YR cs fin hc hf=>
     refine wp_region_any wg ?_
     exact RV (C:=C) hT ops hc (K:=Qa Q) (Q:=yv C Q) (λenv h a w μ S hq hs=>⟨μ,h,S,env,hs,hq⟩) hd hf (hs.agree (cD.drew w))
    | float ord hc hf=>
     refine wp_region_any wg ?_
     unfold Qb at hc
     simp only [As,aHH,aIt] at hc
     obtain ⟨⟨⟨hlen,hcv⟩,mG⟩,hpo⟩:=hc
     have hlen:=Of hlen
     have bg:∀p,p∈ord->p.1<ops.size:=λp hp=>aHV (mG p hp).1
     have hnd:(ord.map (·.1)).Nodup:=by
      have:∀(l:List (Nat×Bool)),bN ops (sh ops.toList ord []) l=true->(l.map (·.1)).Nodup:=λl=>by
       induction l with
       | nil=>simp
       | cons p r ih=>
        intro hh
        simp only [bN,As,aHH] at hh
        simp only [aHQ,List.nodup_cons]
        refine ⟨λhm=>?_,ih hh.2⟩
        obtain ⟨q,hq,he⟩:=aHW.1 hm
        have:=hh.1 q hq
        unfold fp at this
        simp only [As,aIt] at this
        have:=this.1.1
        rw [he,aIW] at this
        cases this
      exact this _ hpo
     have xw:∀j,j<ops.size->j∈ord.map (·.1):=λj hj=>lz _ _ (hcv j (aJi.2 hj))
     exact yw hT ops (C:=C) (sg ord [] (λi x hx=>by simp [dD,j8] at hx)) (λi hi d vN=>by
      obtain ⟨p,hp,rfl⟩:=aHW.1 (xw i hi)
      have:=(mG p hp).2 d vN
      exact ⟨aHV this.1,λhe=>by rw [he,aIW] at this;cases this.2⟩)
      (K:=λenv' h'=>Q .normal env' h') (Q:=yv C Q) (λenv h a w μ S hq hs=>⟨μ,h,S,env,hs,hq⟩) hd ops.size ord [] _ env h a _ μ S hlen hpo bg aKN (λj hj=>⟨λ_=>xw j hj,λ_=>by simp [Array.getD,hj]⟩) (λj hj hn=>absurd (xw j hj) hn) (kb _ _ _ _ hf) (hs.agree (cD.drew w))
 | .seq x y,Q,env,h,a,w,μ,S,hv,wi,hs=>by
  simp only [codeOk,As] at wi
  have hv:vj C.h.length (vc P T C.h.length x) (vc P T C.h.length y) Q env h:=hv
  obtain ⟨μ,h,hs,hd | ⟨J,ha,hb⟩⟩:=aea hv hs
  ·refine wp_seq (Code.wp_mono (λe a' w' hl=>?_) (ny hT wg x _ env h a w μ S hd wi.1 hs))
   cases e with
   | normal=>
    obtain ⟨μ',h',S',env',kr,hq⟩:=hl
    exact ny hT wg y Q env' h' a' w' μ' S' hq wi.2 kr
   | exit id=>exact hl
   | goto l=>exact hl
   | ret=>exact hl
   | panic ch=>exact hl
   | outgrown=>exact hl
  ·refine wp_seq (Code.wp_mono (λe a' w' hl=>?_) (ny hT wg x _ env h a w μ S ha wi.1 hs))
   cases e with
   | normal=>
    obtain ⟨μ',h',S',env',kr,hg⟩:=hl
    obtain ⟨σ,η,μ3,S3,K2,hj⟩:=ad9 hg kr
    exact ny hT wg y Q _ η a' w' μ3 S3 (hb σ η hj) wi.2 K2
   | exit id=>exact hl
   | goto l=>exact hl
   | ret=>exact hl
   | panic ch=>exact hl
   | outgrown=>exact hl
 | .cond c x y,Q,env,h,a,w,μ,S,hv,wi,hs=>by
  simp only [codeOk,As] at wi
  have hv:(match ev env c with
   | .bool t=>gJ t (vc P T C.h.length x Q env h) (vc P T C.h.length y Q env h)
   | _=>False):=hv
  have hc:=cA hs.tmps c
  split at hv
  ·rename_i b he
   rw [he] at hc
   obtain ⟨h1,h2⟩:=kQ hv
   exact wp_cond_split hc.ng (λhb=>ny hT wg x Q env h a w μ S (h1 hb) wi.1 hs) (λhb=>ny hT wg y Q env h a w μ S (h2 hb) wi.2 hs)
  ·exact hv.elim
 | .block id c,Q,env,h,a,w,μ,S,hv,wi,hs=>by
  refine wp_block (Code.wp_mono (λe a' w' hl=>?_) (ny hT wg c _ env h a w μ S hv wi hs))
  cases e with
  | exit id'=>
   obtain ⟨μ',h',S',env',kr,hq⟩:=hl
   show if id'=id then yv C Q .normal a' w' else yv C Q (.exit id') a' w'
   simp only [XQ.inBlock] at hq
   by_cases hid:id'=id
   ·rw [if_pos hid]
    subst hid
    rw [show Nat.beq id' id'=true by simp] at hq
    exact ⟨μ',h',S',env',kr,hq⟩
   ·rw [if_neg hid]
    have:Nat.beq id' id=false:=by
     cases hb:Nat.beq id' id with
     | true=>exact (hid (Of hb)).elim
     | false=>rfl
    rw [this] at hq
    exact ⟨μ',h',S',env',kr,hq⟩
  | normal=>exact hl
  | goto l=>exact hl
  | ret=>exact hl
  | panic ch=>exact hl
  | outgrown=>exact hl
 | .loop c,Q,env,h,a,w,μ,S,hv,wi,hs=>by
  intro b k cs
  replace hv:qK C.h.length (λnext=>vc P T C.h.length c (XQ.then next Q)) env h:=hv
  have key:∀(a:Act) (w:World) (μ:Mu) (S:Nat->Prop),mH C μ h S env a w->∃e a' w',yv C Q e a' w'/\Arrives P (lone (b.at a (.code c::.inLoop c::k)) cs w) b k cs e a' w':=by
   clear hs
   induction hv with
   | take σ η ht hk ih=>
    intro a w μ S hs
    obtain ⟨μ0,S0,hs0⟩:=zD hs ht
    exact ih a w μ0 S0 hs0
   | ex h1 hx hk ih=>
    intro a w μ S hs
    obtain ⟨μ1,fu⟩:=hs.ex hx
    exact ih a w μ1 S fu
   | ab id i j sub h1 ha hk ih=>
    intro a w μ S hs
    obtain ⟨F,fu⟩:=hs.ab ha
    exact ih F a w μ S fu
   | step N hN hb ih=>
    intro a w μ S hs
    obtain ⟨e,a₁,w₁,hq,KM⟩:=ny hT wg c _ _ _ a w μ S hb wi hs b (.inLoop c::k) cs
    cases e with
    | normal=>
     obtain ⟨μ2,h2,S2,aHD,nI,hn⟩:=hq
     obtain ⟨e₂,a₂,w₂,hq₂,harr₂⟩:=ih _ _ hn a₁ w₁ μ2 S2 nI
     exact ⟨e₂,a₂,w₂,hq₂,.of_steps (Steps.trans KM (.one step_inLoop)) harr₂⟩
    | exit id=>exact ⟨_,a₁,w₁,hq,.pass (x:=.inLoop c) rfl (λ_ _=>.inl aKN) KM⟩
    | goto l=>exact ⟨_,a₁,w₁,hq,.pass (x:=.inLoop c) rfl (λ_ _=>.inl aKN) KM⟩
    | ret=>exact ⟨_,a₁,w₁,hq,.pass (x:=.inLoop c) rfl (λ_ _=>.inl aKN) KM⟩
    | panic ch=>exact ⟨_,a₁,w₁,hq,.pass (x:=.inLoop c) rfl (λ_ _=>.inl aKN) KM⟩
    | outgrown=>exact ⟨_,a₁,w₁,hq,.pass (x:=.inLoop c) rfl (λ_ _=>.inl aKN) KM⟩
  obtain ⟨e,a',w',hq,KM⟩:=key a w μ S hs
  exact ⟨e,a',w',hq,.of_steps (.one step_loop) KM⟩
 | .rangeFunc _ _ _ _,Q,env,h,a,w,μ,S,hv,_,_=>hv.elim
 | .scope _,Q,env,h,a,w,μ,S,hv,_,_=>hv.elim
 | .goto _,Q,env,h,a,w,μ,S,hv,_,_=>hv.elim
 | .refuse _,Q,env,h,a,w,μ,S,hv,_,_=>hv.elim
theorem aap (hT:dJ P T) (hH:cZ μ h S w) (t:Nat) (px:PV) (v:Value) (hx:bS μ h S w px v) {K:PV->Prop} (hp:yh T t px h K):∃pv val,K pv/\bS μ h S w pv val/\(do loadVar t (<-asAddr v):Sem Value).run P w=.ok val w:=by
 obtain ⟨pv,val,hK,hv,hr⟩:=Cw (P:=P) (dst:=none) (ty:=0) (pos:= "") (after:=#[]) (guard:=none) (a:=⟨#[v],[]⟩) hT hH t (.tmp 0) px (by simpa [Act.eval] using hx) hp
 refine ⟨pv,val,hK,hv,?_⟩
 have:=hr w (cD.refl w)
 have he:(execOp (Act.eval ⟨#[v],[]⟩) ⟨none,.load t (.tmp 0),0, "",#[],none⟩)=(do pure (Next.value (<-Instr.loadAt t v)):Sem Next):=rfl
 rw [he] at this
 have aF8:∃ad,v=.pointer (some ad):=by
  unfold yh at hp
  split at hp
  ·obtain ⟨b,off,vf,e1,_⟩:=hx.yb;exact ⟨_,e1⟩
  ·rename_i id gen i off
   split at hp
   ·rename_i g sz n e f hg
    obtain ⟨rfl,_⟩:=hp
    have hr:=hx.uZ
    unfold cG at hr
    rw [ez hg] at hr
    obtain ⟨_,_,hr⟩:=hr
    obtain ⟨_,b,base,_,_,hv⟩:=hr rfl
    exact ⟨_,hv⟩
   ·exact aKm
  ·exact aKm
 obtain ⟨ad,rfl⟩:=aF8
 simp only [Instr.loadAt,Instr.sureAddr,asAddr,Sem.run_bind,Sem.run_pure,Result.andThen_ok] at this ⊢
 cases hl:(loadVar t ad).run P w with
 | ok u w'=>
  rw [hl] at this
  simp only [Result.andThen] at this
  injection this with h1 h2
  injection h1 with h1
  rw [h1,h2]
 | halt x w'=>rw [hl] at this;cases this
theorem rq (hT:dJ P T) (hs:mH C μ h S env a w):∀(rs:List ResultVar) (K:List PV->Prop),vQ T env h rs K->∃(vs:List PV) (us:List Value),K vs/\us.length=vs.length/\(∀(j:Nat) (pv:PV),vs[j]? =some pv->∃u,us[j]? =some u/\bS μ h S w pv u)/\
  (rs.mapM (fun | .tmp t=>pure (a.tmps.getD t undef) | .cell ad t=>(do loadVar t (<-asAddr (a.tmps.getD ad undef))):ResultVar->Sem Value)).run P w=.ok us w
 | [],K,hp=>⟨[],[],hp,rfl,λj pv hj=>by simp at hj,rfl⟩
 | .tmp t::r,K,hp=>by
  obtain ⟨vs,us,hK,h1,h2,h3⟩:=rq hT hs r _ hp
  refine ⟨env t::vs,a.tmps.getD t undef::us,hK,by simp [h1],λj pv hj=>?_,?_⟩
  ·cases j with
   | zero=>simp at hj;subst hj;exact ⟨_,rfl,hs.tmps t⟩
   | succ j=>simp at hj;obtain ⟨u,q1,q2⟩:=h2 j pv hj;exact ⟨u,by simpa using q1,q2⟩
  ·simp only [List.mapM_cons,Sem.run_bind,Sem.run_pure,Result.andThen_ok,h3]
 | .cell ad t::r,K,hp=>by
  obtain ⟨pv,val,hK,hv,hr⟩:=aap hT hs.core.heap t _ _ (hs.tmps ad) hp
  obtain ⟨vs,us,hK,h1,h2,h3⟩:=rq hT hs r _ hK
  refine ⟨pv::vs,val::us,hK,by simp [h1],λj gw hj=>?_,?_⟩
  ·cases j with
   | zero=>simp at hj;subst hj;exact ⟨_,rfl,hv⟩
   | succ j=>simp at hj;obtain ⟨u,q1,q2⟩:=h2 j gw hj;exact ⟨u,by simpa using q1,q2⟩
  ·simp only [List.mapM_cons,Sem.run_bind,hr,Result.andThen_ok,h3,Sem.run_pure]
end
section
variable {P:Program} {T:o9}
def valOf:List Value->Value
 | [v]=>v
 | us=>.tuple us.toArray
theorem KN {fn:Func} {tmps:Array Value} {us:List Value} {w:World}
  (hm:(fn.results.toList.mapM (fun | .tmp t=>pure (tmps.getD t undef) | .cell ad t=>(do loadVar t (<-asAddr (tmps.getD ad undef))):ResultVar->Sem Value)).run P w=.ok us w):
  (results fn tmps).run P w=.ok (valOf us) w:=by
 unfold results
 rw [Array.mapM_eq_mapM_toList]
 simp only [map_eq_pure_bind,bind_assoc,pure_bind,Sem.run_bind]
 have key:∀X:Result (List Value),X=.ok us w->(X.andThen λa w'=>Sem.run P (pure (if h:a.toArray.size=1 then a.toArray[0] else Value.tuple a.toArray)) w')=.ok (valOf us) w:=by
  rintro _ rfl
  simp only [Result.andThen_ok,Sem.run_pure]
  congr 1
  match us with
  | []=>rfl
  | [v]=>rfl
  | v::u::r=>simp [valOf]
 exact key _ hm
theorem aaq {C:Start} {m:Nat} {R:PV->List ak->Prop} {env:Env} {h:List ak} {a:Act} {w:World} {S:Nat->Prop} {vs:List PV} {us:List Value} (hE:Ends m R h vs):∀{μ:Mu},mH C μ h S env a w->
  (∀(j:Nat) (pv:PV),vs[j]? =some pv->∃u,us[j]? =some u/\bS μ h S w pv u)->∃μ' h',mH C μ' h' S env a w/\(∀(j:Nat) (pv:PV),vs[j]? =some pv->∃u,us[j]? =some u/\bS μ' h' S w pv u)/\
   vs.all nu=true/\∃(k:List Nat) (res:PV) (η:List ak),pg (oR η k)=true/\m<=k.length/\Fz h' η k (oneOf vs) res/\qe h' η k m 0 η k/\R res η:=by
 induction hE with
 | mk hn k res η hk hm hz hh hR=>exact λhs h2=>⟨_,_,hs,h2,hn,k,res,η,hk,hm,hz,hh,hR⟩
 | ex h1 hx hk ih=>
  intro μ hs h2
  obtain ⟨μ1,hf,hc⟩:=P6 hs.core hx
  exact ih (hs.turn hf hc) (λj pv hj=>let ⟨u,q1,q2⟩:=h2 j pv hj;⟨u,q1,q2.fr hf hs.core.ok⟩)
 | ab id i j sub h1 ha hk ih=>
  intro μ hs h2
  obtain ⟨hf,hc⟩:=GR hs.core (ha (FAb μ _ sub))
  exact ih _ (hs.turn hf hc) (λj pv hj=>let ⟨u,q1,q2⟩:=h2 j pv hj;⟨u,q1,q2.fr hf hs.core.ok⟩)
theorem ACall.aAP (hT:dJ P T) (wg:P.follows .mixedOrders=true) {f:FuncId} {fn:Func} {c:Code} (hf:P.funcs[f]? =some fn) (hb:fn.body=some c) (yn:(fn.name== "runtime.NumGoroutine")=false)
  (args:List PV) (h:List ak) (R:PV->List ak->Prop) (hn:Nat.ble args.length fn.ntmps=true) (wi:codeOk fn.ntmps c=true)
  (hv:vc P T h.length c (aAO T fn.results.toList h.length R) (vq args) h):ACall P f args h R:=by
 refine ⟨⟨fn,c,hf,hb,yn⟩,λw vs μ S hH hM gK mn=>?_⟩
 have hn:=aHV hn
 let C:Start:=⟨μ,h,S,w,fn.ntmps⟩
 have hs:mH C μ h S (vq args) ⟨vs++Array.replicate (fn.ntmps - vs.size) undef,[]⟩ w:=by
  refine ⟨⟨hH,hM⟩,Fr.refl,λt=>?_,by simp;show _=fn.ntmps;omega,λt ht=>?_,rfl⟩
  ·unfold vq
   rw [aHL]
   cases ha:args[t]? with
   | none=>trivial
   | some pv=>
    obtain ⟨v,h1,h2⟩:=mn t pv ha
    have bg:t<vs.size:=(abL.1 h1).1
    have:(vs++Array.replicate (fn.ntmps - vs.size) undef).getD t undef=v:=by
     rw [Array.getD_eq_getD_getElem?,aID bg,h1];rfl
    simp only [aJC]
    rw [this]
    exact bS.ad5 h2
  ·unfold vq
   rw [aHL,aIw]
   ·rfl
   ·exact aIH hn ht
 refine calls_of_wp hf hb ?_
 refine Code.wp_mono (λe a' w' hl=>?_) (ny (C:=C) hT wg c _ _ h _ w μ S hv wi hs)
 obtain ⟨μ',h',S',env',kr,hq⟩:=hl
 have fin:vQ T env' h' fn.results.toList (Ends h.length R h')->a'.defers=[]/\∃v,(results fn a'.tmps).run P w'=.ok v w'/\
   (∃(v':Value) (res:PV) (h'':List ak) (μ'':Mu) (S'':Nat->Prop),Ending.returned v=.returned v'/\R res h''/\bS μ'' h'' S'' w' res v'/\cZ μ'' h'' S'' w'/\ta μ'' h'' S'' w'/\Fr μ h S w μ'' h'' S'' w'):=λhr=>by
  obtain ⟨vs',us,hE,h1,h2,h3⟩:=rq hT kr _ _ hr
  refine ⟨kr.defers,_,KN h3,?_⟩
  obtain ⟨μ',h',kr,h2,hnt,k,res,η,hk,hm,hz,hh,hR⟩:=aaq hE kr h2
  have hvr:bS μ' h' S' w' (oneOf vs') (valOf us):=by
   have key:(∀v,vs'≠[v])->bS μ' h' S' w' (oneOf vs') (valOf us):=λmJ=>by
    have e1:oneOf vs'=.fv vs':=by
     match vs',mJ with
     | [],_=>rfl
     | [v],mJ=>exact (mJ v rfl).elim
     | a::b::r,_=>rfl
    have e2:valOf us=.tuple us.toArray:=by
     match us,h1 with
     | [],_=>rfl
     | [v],h1=>
      match vs',h1,mJ with
      | [x],_,mJ=>exact (mJ x rfl).elim
     | a::b::r,_=>rfl
    rw [e1,e2]
    refine ⟨_,rfl,by simpa using h1,λj pv hj=>?_⟩
    obtain ⟨u,q1,q2⟩:=h2 j pv hj
    refine ⟨u,by simpa using q1,?_⟩
    have hp:nu pv=true:=(aHH.1 hnt) pv (aHU hj)
    cases pv with
    | fv ps=>cases hp
    | _=>exact q2
   match vs',us,h1 with
   | [v],[u],_=>
    obtain ⟨u',q1,q2⟩:=h2 0 v rfl
    simp at q1
    subst q1
    exact q2
   | [],us,_=>exact key (λv hv=>by cases hv)
   | a::b::r,us,_=>exact key (λv hv=>by cases hv)
  obtain ⟨qI,_,_⟩:=yu kr.core hh hk
  exact ⟨_,res,η,mm μ' h' k,Fu μ' h' k S',rfl,hR,(vw kr.core hh hz).2.2 _ hvr,qI.heap,qI.ok,agk (C:=C) kr.core kr.fr hh hk hm⟩
 cases e with
 | ret=>exact fin hq
 | normal=>exact fin hq
 | exit id=>exact hq.elim
 | goto l=>exact hq.elim
 | panic ch=>exact hq.elim
 | outgrown=>exact hq.elim
theorem ACall.mono {f:FuncId} {args:List PV} {h:List ak} {R R':PV->List ak->Prop} (hc:ACall P f args h R) (hr:∀res h',R res h'->R' res h'):ACall P f args h R':=
 ⟨hc.1,λw vs μ S hH hM gK ha=>(hc.2 w vs μ S hH hM gK ha).mono λe w' ⟨v,res,h',μ',S',he,hR,rest⟩=>⟨v,res,h',μ',S',he,hr _ _ hR,rest⟩⟩
end
def nZ (N:Nat):PV->PV
 | .own id gen off len=>.own (N+id) gen off len
 | .aC id gen i off=>.aC (N+id) gen i off
 | .oL id=>.oL (N+id)
 | .qE f cH=>.qE f (te (N+·) cH)
 | v=>v
def NW (N:Nat):PV->PV
 | .agg cs=>.agg (cs.map (nZ N))
 | v=>nZ N v
def tl (N:Nat):PV->PV
 | .fv vs=>.fv (vs.map (NW N))
 | v=>NW N v
def gU (N:Nat):ak->ak
 | .row g sz n e f=>.row g sz n e (λi=>(f i).map (nZ N))
 | .dead=>.dead
def PG:PV->Bool
 | .agg cs=>cs.all cu
 | v=>cu v
def qf:PV->Bool
 | .ig _ _ _=>false
 | .gB _=>false
 | .dY _ _ _ _ _=>false
 | _=>true
def agm:PV->Bool
 | .agg cs=>cs.all qf
 | v=>qf v
def PE:PV->Bool
 | .fv vs=>vs.all agm
 | v=>agm v
def Zy:ak->Prop
 | .row _ _ n _ f=>∀i,i<n->(f i).all qf=true
 | .dead=>True
section
variable {P:Program} {T:o9} {μ μ0:Mu} {h h0:List ak} {S S0 S':Nat->Prop} {w w':World}
def kl (μ:Mu) (N:Nat) (μ0:Mu):Mu:=λid=>if id<N then μ id else μ0 (id - N)
theorem Af {N:Nat} {a:PV} (h:ko a=true):nZ N a=a:=by cases a<;>first | rfl | cases h
theorem pK (N:Nat) (hN:h.length=N) (id:Nat):(h++h0.map (gU N))[N+id]? =(h0[id]?).map (gU N):=by
 subst hN
 rw [aIc aKK,aIC,aIb]
theorem tA (N id:Nat):kl μ N μ0 (N+id)=μ0 id:=by
 unfold kl
 rw [if_neg aKK,aIC]
theorem eQ (G:PV->Prop) (hG:∀pv v,G pv->aY S0 w' pv v->aY S' w' pv v) {pv:PV} {v:Value} (hg:G pv) (hc:cz μ0 h0 S0 w' pv v):
  cz (kl μ h.length μ0) (h++h0.map (gU h.length)) S' w' (nZ h.length pv) v:=by
 have ve:∀(id gen i off:Nat) (v:Value),cG μ0 h0 w' id gen i off v->cG (kl μ h.length μ0) (h++h0.map (gU h.length)) w' (h.length+id) gen i off v:=λid gen i off v hc=>by
  unfold cG at hc ⊢
  rw [pK _ rfl,tA]
  obtain ⟨h1,h2⟩:=hc
  refine ⟨h1,?_⟩
  cases ho:h0[id]? with
  | none=>rw [ho] at h2;exact h2
  | some o=>
   rw [ho] at h2
   cases o with
   | dead=>trivial
   | row g sz n e f=>exact h2
 cases pv with
 | own id gen off len=>
  have hc:bC μ0 h0 w' id gen off len v:=hc
  show bC _ _ _ (h.length+id) gen off len v
  unfold bC at hc ⊢
  rw [pK _ rfl,tA]
  obtain ⟨h1,h2⟩:=hc
  refine ⟨h1,?_⟩
  cases ho:h0[id]? with
  | none=>rw [ho] at h2;exact h2
  | some o=>
   rw [ho] at h2
   cases o with
   | dead=>trivial
   | row g sz n e f=>exact h2
 | aC id gen i off=>exact ve _ _ _ _ _ hc
 | qE f cH=>exact uq.map (O:=λid g u=>cG (kl μ h.length μ0) (h++h0.map (gU h.length)) w' id g 0 0 u) (uq.mono (show pc μ0 h0 w' f cH v from hc) (λid g u hu=>ve id g 0 0 u hu))
 | oL id=>
  have hc:gI μ0 h0 w' id v:=hc
  show gI _ _ _ (h.length+id) v
  unfold gI at hc ⊢
  rw [pK _ rfl,tA]
  obtain ⟨h1,h2⟩:=hc
  refine ⟨h1,?_⟩
  cases ho:h0[id]? with
  | none=>rw [ho] at h2;exact h2
  | some o=>
   rw [ho] at h2
   cases o with
   | dead=>trivial
   | row g sz n e f=>exact h2
 | jf=>exact hc
 | dY sz n e f F=>exact hc
 | agg cs=>exact (show False from hc).elim
 | fv cs=>exact (show False from hc).elim
 | int k n=>exact hG _ _ hg hc
 | bool b=>exact hG _ _ hg hc
 | str s=>exact hG _ _ hg hc
 | cd=>exact hG _ _ hg hc
 | iC=>exact hG _ _ hg hc
 | ig sz n f=>exact hG _ _ hg hc
 | gB cs=>exact hG _ _ hg hc
 | fn f=>exact hG _ _ hg hc
theorem eR (G:PV->Prop) (hG:∀pv v,G pv->aY S0 w' pv v->aY S' w' pv v) {pv:PV} {v:Value} (hg:match pv with | .agg cs=>∀c∈cs,G c | v=>G v) (hc:jF μ0 h0 S0 w' pv v):
  jF (kl μ h.length μ0) (h++h0.map (gU h.length)) S' w' (NW h.length pv) v:=by
 cases pv with
 | agg cs=>
  obtain ⟨vs,h1,h2,h3⟩:=hc
  refine ⟨vs,h1,by simpa using h2,λj pv hj=>?_⟩
  rw [aIb] at hj
  cases hx:cs[j]? with
  | none=>rw [hx] at hj;cases hj
  | some c=>
   rw [hx] at hj
   injection hj with hj
   subst hj
   obtain ⟨u,q1,q2⟩:=h3 j c hx
   exact ⟨u,q1,eQ G hG (hg c (aHU hx)) q2⟩
 | jf=>trivial
 | dY sz n e f F=>exact eQ (μ:=μ) (μ0:=μ0) (h:=h) (h0:=h0) (pv:=.dY sz n e f F) G hG hg hc
 | fv cs=>exact (show False from hc).elim
 | own id gen off len=>exact eQ (μ:=μ) (μ0:=μ0) (h:=h) (h0:=h0) (pv:=.own id gen off len) G hG hg hc
 | aC id gen i off=>exact eQ (μ:=μ) (μ0:=μ0) (h:=h) (h0:=h0) (pv:=.aC id gen i off) G hG hg hc
 | oL id=>exact eQ (μ:=μ) (μ0:=μ0) (h:=h) (h0:=h0) (pv:=.oL id) G hG hg hc
 | qE f cH=>exact eQ (μ:=μ) (μ0:=μ0) (h:=h) (h0:=h0) (pv:=.qE f cH) G hG hg hc
 | int k n=>exact eQ (μ:=μ) (μ0:=μ0) (h:=h) (h0:=h0) (pv:=.int k n) G hG hg hc
 | bool b=>exact eQ (μ:=μ) (μ0:=μ0) (h:=h) (h0:=h0) (pv:=.bool b) G hG hg hc
 | str s=>exact eQ (μ:=μ) (μ0:=μ0) (h:=h) (h0:=h0) (pv:=.str s) G hG hg hc
 | cd=>exact eQ (μ:=μ) (μ0:=μ0) (h:=h) (h0:=h0) (pv:=.cd) G hG hg hc
 | iC=>exact eQ (μ:=μ) (μ0:=μ0) (h:=h) (h0:=h0) (pv:=.iC) G hG hg hc
 | ig sz n f=>exact eQ (μ:=μ) (μ0:=μ0) (h:=h) (h0:=h0) (pv:=.ig sz n f) G hG hg hc
 | gB cs=>exact eQ (μ:=μ) (μ0:=μ0) (h:=h) (h0:=h0) (pv:=.gB cs) G hG hg hc
 | fn f=>exact eQ (μ:=μ) (μ0:=μ0) (h:=h) (h0:=h0) (pv:=.fn f) G hG hg hc
def aeb (G:PV->Prop):PV->Prop
 | .fv vs=>∀v∈vs,(match v with | .agg cs=>∀c∈cs,G c | v=>G v)
 | .agg cs=>∀c∈cs,G c
 | v=>G v
theorem Dm (G:PV->Prop) (hG:∀pv v,G pv->aY S0 w' pv v->aY S' w' pv v) {pv:PV} {v:Value} (hg:aeb G pv) (hc:bS μ0 h0 S0 w' pv v):
  bS (kl μ h.length μ0) (h++h0.map (gU h.length)) S' w' (tl h.length pv) v:=by
 cases pv with
 | fv cs=>
  obtain ⟨vs,h1,h2,h3⟩:=hc
  refine ⟨vs,h1,by simpa using h2,λj pv hj=>?_⟩
  rw [aIb] at hj
  cases hx:cs[j]? with
  | none=>rw [hx] at hj;cases hj
  | some c=>
   rw [hx] at hj
   injection hj with hj
   subst hj
   obtain ⟨u,q1,q2⟩:=h3 j c hx
   exact ⟨u,q1,eR G hG (hg c (aHU hx)) q2⟩
 | agg cs=>exact eR (μ:=μ) (μ0:=μ0) (h:=h) (h0:=h0) (pv:=.agg cs) G hG hg hc
 | jf=>trivial
 | dY sz n e f F=>exact eR (μ:=μ) (μ0:=μ0) (h:=h) (h0:=h0) (pv:=.dY sz n e f F) G hG hg hc
 | own id gen off len=>exact eR (μ:=μ) (μ0:=μ0) (h:=h) (h0:=h0) (pv:=.own id gen off len) G hG hg hc
 | aC id gen i off=>exact eR (μ:=μ) (μ0:=μ0) (h:=h) (h0:=h0) (pv:=.aC id gen i off) G hG hg hc
 | oL id=>exact eR (μ:=μ) (μ0:=μ0) (h:=h) (h0:=h0) (pv:=.oL id) G hG hg hc
 | qE f cH=>exact eR (μ:=μ) (μ0:=μ0) (h:=h) (h0:=h0) (pv:=.qE f cH) G hG hg hc
 | int k n=>exact eR (μ:=μ) (μ0:=μ0) (h:=h) (h0:=h0) (pv:=.int k n) G hG hg hc
 | bool b=>exact eR (μ:=μ) (μ0:=μ0) (h:=h) (h0:=h0) (pv:=.bool b) G hG hg hc
 | str s=>exact eR (μ:=μ) (μ0:=μ0) (h:=h) (h0:=h0) (pv:=.str s) G hG hg hc
 | cd=>exact eR (μ:=μ) (μ0:=μ0) (h:=h) (h0:=h0) (pv:=.cd) G hG hg hc
 | iC=>exact eR (μ:=μ) (μ0:=μ0) (h:=h) (h0:=h0) (pv:=.iC) G hG hg hc
 | ig sz n f=>exact eR (μ:=μ) (μ0:=μ0) (h:=h) (h0:=h0) (pv:=.ig sz n f) G hG hg hc
 | gB cs=>exact eR (μ:=μ) (μ0:=μ0) (h:=h) (h0:=h0) (pv:=.gB cs) G hG hg hc
 | fn f=>exact eR (μ:=μ) (μ0:=μ0) (h:=h) (h0:=h0) (pv:=.fn f) G hG hg hc
theorem FA (hH:cZ μ h S w) (hM:ta μ h S w) {μc:Mu} {Sc:Nat->Prop} (hF:Fr μc [] Sc w μ0 h0 S0 w') (hH0:cZ μ0 h0 S0 w') (Hq:ta μ0 h0 S0 w')
  (G:PV->Prop) (hG:∀pv v,G pv->aY S0 w' pv v->aY S' w' pv v) (aBf:∀(id g sz n:Nat) (e:TypeId) (f:Nat->List PV),h0[id]? =some (ak.row g sz n e f)->∀i,i<n->∀c∈f i,(dW c=false->G c)/\(dW c=true->OG G c))
  (hS1:∀b,S b->S' b) (hS2:∀b,S' b->S b\/w.heap.size<=b) (hS3:∀b,S' b->b<w'.heap.size) (hS4:∀b,S' b->¬di μ0 h0 b):
  cZ (kl μ h.length μ0) (h++h0.map (gU h.length)) S' w'/\ta (kl μ h.length μ0) (h++h0.map (gU h.length)) S' w'/\Fr μ h S w (kl μ h.length μ0) (h++h0.map (gU h.length)) S' w':=by
 have xB:∀b,¬di μc [] b:=λb=>lx
 have gO:∀b,b<w.heap.size->w'.heap[b]? =w.heap[b]? :=λb hb=>hF.blocks b hb (xB b)
 have NX:∀b,di μ0 h0 b->w.heap.size<=b:=λb hb=>(hF.own b hb).resolve_left (xB b)
 have qG:∀id o,h[id]? =some o->(h++h0.map (gU h.length))[id]? =some o/\kl μ h.length μ0 id=μ id:=λid o hid=>by
  have bg:=(An.1 hid).1
  exact ⟨by rw [aIk bg];exact hid,by unfold kl;rw [if_pos bg]⟩
 have inv:∀(id g sz n:Nat) (e:TypeId) (f:Nat->List PV),(h++h0.map (gU h.length))[id]? =some (ak.row g sz n e f)->
   (h[id]? =some (ak.row g sz n e f)/\kl μ h.length μ0 id=μ id)\/∃DC f0,id=h.length+DC/\h0[DC]? =some (ak.row g sz n e f0)/\kl μ h.length μ0 id=μ0 DC/\f=λi=>(f0 i).map (nZ h.length):=λid g sz n e f hid=>by
  rcases aIE id h.length with bg | Pw
  ·rw [aIk bg] at hid
   exact .inl ⟨hid,by unfold kl;rw [if_pos bg]⟩
  ·obtain ⟨DC,rfl⟩:∃DC,id=h.length+DC:=⟨id - h.length,by omega⟩
   rw [pK _ rfl] at hid
   cases ho:h0[DC]? with
   | none=>rw [ho] at hid;cases hid
   | some o=>
    rw [ho] at hid
    cases o with
    | dead=>cases hid
    | row g0 sz0 n0 e0 f0=>
     injection hid with hid
     injection hid with e1 e2 e3 e4 e5
     subst e1 e2 e3 e4 e5
     exact .inr ⟨DC,f0,rfl,ho,tA _ _,rfl⟩
 have xl:∀b,CG (kl μ h.length μ0) (h++h0.map (gU h.length)) b->CG μ h b\/CG μ0 h0 b:=λb ⟨id,g,sz,n,e,f,base,hid,hm⟩=>by
  rcases inv id g sz n e f hid with ⟨h1,h2⟩ | ⟨DC,f0,rfl,h1,h2,_⟩
  ·rw [h2] at hm;exact .inl ⟨id,g,sz,n,e,f,base,h1,hm⟩
  ·rw [h2] at hm;exact .inr ⟨DC,g,sz,n,e,f0,base,h1,hm⟩
 have aF9:∀{c:PV} {sz n:Nat} {e:TypeId} {f:Nat->List PV} {F:Nat->Prop},nZ h.length c=.dY sz n e f F->c=.dY sz n e f F:=λ{c} _ _ _ _ _ hc=>by
  cases c<;>first | exact hc | cases hc
 have n9:∀id i j b,dU (h++h0.map (gU h.length)) id i j b->dU h id i j b\/∃DC,id=h.length+DC/\dU h0 DC i j b:=λid i j b ⟨g,sz,n,e,f,cr,n',e',f',F',q1,q2,q3,q4⟩=>by
  rcases inv id g sz n e f q1 with ⟨h1,h2⟩ | ⟨DC,f0,rfl,h1,h2,rfl⟩
  ·exact .inl ⟨_,_,_,_,_,_,_,_,_,_,h1,q2,q3,q4⟩
  ·rw [aIb] at q3
   cases hx:(f0 i)[j]? with
   | none=>rw [hx] at q3;cases q3
   | some c=>
    rw [hx] at q3
    injection q3 with q3
    rw [aF9 q3] at hx
    exact .inr ⟨DC,rfl,_,_,_,_,_,_,_,_,_,_,h1,q2,hx,q4⟩
 have lE:∀b,di (kl μ h.length μ0) (h++h0.map (gU h.length)) b->di μ h b\/di μ0 h0 b:=λb hb=>by
  rcases hb with hb | ⟨x,y,z,hb⟩
  ·exact (xl b hb).imp .inl .inl
  ·rcases n9 x y z b hb with q | ⟨_,_,q⟩
   ·exact .inl (.inr ⟨_,_,_,q⟩)
   ·exact .inr (.inr ⟨_,_,_,q⟩)
 have jG:Fr μ h S w (kl μ h.length μ0) (h++h0.map (gU h.length)) S' w':=by
  refine ⟨by simp,λb hb _=>gO b hb,hS1,λb hb=>(hS2 b hb).imp id .inr,λb hb=>(lE b hb).imp id (NX b),hF.size,hF.os,hF.tape,hF.output,λid g sz n e f hid=>?_,λid hid=>(qG id _ hid).1,λb k hb hc=>kq.of_same (gO b hc.lt) hc,λid g sz n e f b base hid hm mu=>⟨let ⟨es,c,q⟩:=mu;⟨es,c,(gO b (abL.1 q).1).trans q⟩,.inr ⟨⟨_,_,_,_,_,(qG id _ hid).1⟩,(qG id _ hid).2.trans hm⟩⟩,λb _ _ _ hx mu=>let ⟨es,c,q⟩:=mu;⟨es,c,(gO b (abL.1 q).1).trans q⟩⟩
  obtain ⟨h1,h2⟩:=qG id _ hid
  rw [h1]
  exact ⟨No _,λ_=>⟨h2,rfl,rfl,rfl⟩⟩
 refine ⟨λid g sz n e f hid=>?_,⟨λb hb hs=>?_,λb hb=>?_,hS3,?_,hM.zk jG,λb hb x y z hx=>?_,λb x y z x' y' z' hx uo=>?_⟩,jG⟩
 rotate_right 2
 ·rcases xl b hb with h1 | h1
  ·rcases n9 x y z b hx with h2 | ⟨_,_,h2⟩
   ·exact hM.hv b h1 _ _ _ h2
   ·have a1:=hM.lt b (.inl h1)
    have a2:=NX b (.inr ⟨_,_,_,h2⟩)
    omega
  ·rcases n9 x y z b hx with h2 | ⟨_,_,h2⟩
   ·have a1:=hM.lt b (.inr ⟨_,_,_,h2⟩)
    have a2:=NX b (.inl h1)
    omega
   ·exact Hq.hv b h1 _ _ _ h2
 ·rcases n9 x y z b hx with h1 | ⟨u1,rfl,h1⟩
  ·rcases n9 x' y' z' b uo with h2 | ⟨u2,rfl,h2⟩
   ·exact hM.hh b _ _ _ _ _ _ h1 h2
   ·have a1:=hM.lt b (.inr ⟨_,_,_,h1⟩)
    have a2:=NX b (.inr ⟨_,_,_,h2⟩)
    omega
  ·rcases n9 x' y' z' b uo with h2 | ⟨u2,rfl,h2⟩
   ·have a1:=hM.lt b (.inr ⟨_,_,_,h2⟩)
    have a2:=NX b (.inr ⟨_,_,_,h1⟩)
    omega
   ·obtain ⟨e1,e2,e3⟩:=Hq.hh b _ _ _ _ _ _ h1 h2
    exact ⟨by rw [e1],e2,e3⟩
 ·rcases inv id g sz n e f hid with ⟨h1,h2⟩ | ⟨DC,f0,rfl,h1,h2,rfl⟩
  ·obtain ⟨q1,q2⟩:=hH id g sz n e f h1
   refine ⟨q1,?_⟩
   rw [h2]
   cases hm:μ id with
   | none=>rw [hm] at q2;exact q2
   | some p=>
    obtain ⟨b,base⟩:=p
    rw [hm] at q2
    obtain ⟨o,r1,r2⟩:=q2
    have bg:b<w.heap.size:=(abL.1 r1).1
    exact ⟨o,(gO b bg).trans r1,r2.mono (λi y pv v hi hy hr=>hr.fr jG hM (λcr n' e' f' F' he b2 sC=>gO b2 (hM.lt b2 (.inr ⟨id,i,y,_,_,_,_,_,_,_,_,_,_,h1,hi,he▸hy,sC⟩))))⟩
  ·obtain ⟨q1,q2⟩:=hH0 DC g sz n e f0 h1
   refine ⟨λi hi=>by simpa using q1 i hi,?_⟩
   rw [h2]
   cases hm:μ0 DC with
   | none=>rw [hm] at q2;exact q2
   | some p=>
    obtain ⟨b,base⟩:=p
    rw [hm] at q2
    obtain ⟨o,r1,r2⟩:=q2
    refine ⟨o,r1,?_⟩
    cases o with
    | cells cur e' z=>
     obtain ⟨x1,x2,x3,r3⟩:=r2
     refine ⟨x1,x2,x3,λi j pv hi hj=>?_⟩
     rw [aIb] at hj
     cases hx:(f0 i)[j]? with
     | none=>rw [hx] at hj;cases hj
     | some c=>
      rw [hx] at hj
      injection hj with hj
      subst hj
      obtain ⟨v,s1,s2⟩:=r3 i j c hi hx
      obtain ⟨g1,g2⟩:=aBf DC g sz n e f0 h1 i hi c (aHU hx)
      refine ⟨v,s1,?_⟩
      cases ho:dW c with
      | false=>exact cz.k (eQ G hG (g1 ho) s2.c) (by cases c<;>first | rfl | cases ho)
      | true=>
       cases c with
       | dY lG n2 e2 f2 F2=>exact mg.og hG (show mg S0 w' (.dY lG n2 e2 f2 F2) v from s2) (g2 rfl)
       | _=>cases ho
    | map es c=>
     obtain ⟨x1,r3⟩:=r2
     refine ⟨x1,λi hi=>?_⟩
     obtain ⟨kp,vp,en,y1,y2,y3,y4⟩:=r3 i hi
     exact ⟨kp,vp,en,by show (f0 i).map (nZ h.length)=_;rw [y1];show [nZ h.length kp,nZ h.length vp]=_;rw [Af y2,Af y3],y2,y3,y4⟩
    | _=>exact r2.elim
 ·rcases lE b hb with h1 | h1
  ·rcases hS2 b hs with h2 | h2
   ·exact hM.apart b h1 h2
   ·have:=hM.lt b h1;omega
  ·exact hS4 b hs h1
 ·rcases lE b hb with h1 | h1
  ·exact aHX (hM.lt b h1) hF.size
  ·exact Hq.lt b h1
 ·intro i j gi Rr ni ei fi gj k9 nj ej fj b o o' hi hj nB mF
  rcases inv i _ _ _ _ _ hi with ⟨h1,h2⟩ | ⟨DC,f0,rfl,h1,h2,_⟩
  ·rw [h2] at nB
   rcases inv j _ _ _ _ _ hj with ⟨h3,h4⟩ | ⟨id1,f1,rfl,h3,h4,_⟩
   ·rw [h4] at mF;exact hM.inj i j _ _ _ _ _ _ _ _ _ _ _ _ _ h1 h3 nB mF
   ·rw [h4] at mF
    have a1:=hM.lt b (.inl ⟨i,_,_,_,_,_,_,h1,nB⟩)
    have a2:=NX b (.inl ⟨id1,_,_,_,_,_,_,h3,mF⟩)
    omega
  ·rw [h2] at nB
   rcases inv j _ _ _ _ _ hj with ⟨h3,h4⟩ | ⟨id1,f1,rfl,h3,h4,_⟩
   ·rw [h4] at mF
    have a1:=hM.lt b (.inl ⟨j,_,_,_,_,_,_,h3,mF⟩)
    have a2:=NX b (.inl ⟨DC,_,_,_,_,_,_,h1,nB⟩)
    omega
   ·rw [h4] at mF
    have:=Hq.inj DC id1 _ _ _ _ _ _ _ _ _ _ _ _ _ h1 h3 nB mF
    rw [this]
theorem ACall.frame {f:FuncId} {args:List PV} {R:PV->List ak->Prop} (hA:ACall P f args [] R) (h:List ak) (hp:args.all PG=true):
  ACall P f args h (λres h'=>∃r0 h0,R r0 h0/\res=tl h.length r0/\h'=h++h0.map (gU h.length)):=by
 refine ⟨hA.1,λw vs μ S hH hM gK ha=>?_⟩
 refine (hA.2 w vs (λ_=>none) S (λid g sz n e f hid=>by simp at hid) ⟨λb hb=>absurd hb lx,λb hb=>absurd hb lx,hM.slt,λi j g sz n e f g' cr n' e' f' b o o' hi=>by simp at hi,hM.known,λb _ x y z hx=>yl hx,λb _ _ _ _ _ _ hx=>absurd hx yl⟩ gK (λj pv hj=>?_)).mono ?_
 ·obtain ⟨v,h1,h2⟩:=ha j pv hj
  refine ⟨v,h1,?_⟩
  have hpj:=(aHH.1 hp) pv (aHU hj)
  cases pv with
  | agg cs=>
   obtain ⟨us,q1,q2,q3⟩:=h2
   refine ⟨us,q1,q2,λi c hi=>?_⟩
   obtain ⟨u,r1,r2⟩:=q3 i c hi
   have hc:=(aHH.1 hpj) c (aHU hi)
   exact ⟨u,r1,cz.lp (zA hc r2)⟩
  | fv cs=>cases hpj
  | own id gen off len=>cases hpj
  | aC id gen i off=>cases hpj
  | oL id=>cases hpj
  | qE f cH=>cases hpj
  | jf=>cases hpj
  | dY sz n e f F=>cases hpj
  | int k n=>exact h2
  | bool b=>exact h2
  | str s=>exact h2
  | cd=>exact h2
  | iC=>exact h2
  | ig sz n f=>exact h2
  | gB cs=>exact h2
  | fn f=>exact h2
 ·rintro e w' ⟨v,r0,h0,μ0,S0,he,hR,hv,hH0,Hq,hF⟩
  have xB:∀b,¬di (λ_=>none) [] b:=λb=>lx
  obtain ⟨c1,c2,c3⟩:=FA (S':=S0) hH hM hF hH0 Hq (λ_=>True) (λ_ _ _ h=>h) (λid g sz n e f hid i hi c hcm=>⟨λ_=>trivial,λhx=>by
    obtain ⟨j,hj,hcj⟩:=aJc.1 hcm
    obtain ⟨_,q2⟩:=hH0 id g sz n e f hid
    cases hC:μ0 id with
    | none=>rw [hC] at q2;omega
    | some p=>
     obtain ⟨b,base⟩:=p
     rw [hC] at q2
     obtain ⟨o,_,r2⟩:=q2
     cases o with
     | cells cur e' z=>
      obtain ⟨_,_,_,r3⟩:=r2
      obtain ⟨v,_,s2⟩:=r3 i j c hi (by rw [<-hcj];exact abF hj)
      cases c with
      | dY lG n2 e2 f2 F2=>exact mg.all (show mg S0 w' (.dY lG n2 e2 f2 F2) v from s2)
      | _=>cases hx
     | map es cl=>
      obtain ⟨kp,vp,en,y1,y2,y3,_⟩:=r2.2 i hi
      rw [y1] at hcm
      rcases aHM.1 hcm with q | q
      ·rw [q] at hx;cases kp<;>first | (cases hx;done) | (cases y2;done)
      ·rw [aJy.1 q] at hx;cases vp<;>first | (cases hx;done) | (cases y3;done)
     | _=>exact r2.elim⟩) hF.sub
   (λb hb=>(hF.new b hb).imp id (λh=>h.resolve_left (xB b))) Hq.slt (λb hb ho=>Hq.apart b ho hb)
  have mG:aeb (λ_=>True) r0:=by
   unfold aeb
   split
   ·intro v _;split<;>intros<;>trivial
   ·intros;trivial
   ·trivial
  exact ⟨v,_,_,_,S0,he,⟨r0,h0,hR,rfl,rfl⟩,Dm _ (λ_ _ _ h=>h) mG hv,c1,c2,c3⟩
def agn:ak->Prop
 | .row _ _ n _ f=>∀i,i<n->∀c∈f i,(dW c=false->qf c=true)/\(dW c=true->OG (λpv=>qf pv=true) c)
 | .dead=>True
theorem Zy.p {o:ak} (h:Zy o):agn o:=by
 cases o with
 | dead=>trivial
 | row g sz n e f=>
  intro i hi c hc
  have:=(aHH.1 (h i hi)) c hc
  exact ⟨λ_=>this,λhx=>by cases c<;>first | (cases hx;done) | (cases this;done)⟩
theorem ACall.snap {f:FuncId} {args my:List PV} {R:PV->List ak->Prop} (hA:ACall P f my [] R) (h:List ak) (hl:my.length=args.length)
  (hz:∀(j:Nat) (pv gw:PV),args[j]? =some pv->my[j]? =some gw->Fz h [] [] pv gw/\nu gw=true) (PD:∀r0 h0,R r0 h0->PE r0=true/\∀o∈h0,agn o):
  ACall P f args h (λres h'=>∃r0 h0,R r0 h0/\res=tl h.length r0/\h'=h++h0.map (gU h.length)):=by
 refine ⟨hA.1,λw vs μ S hH hM gK ha=>?_⟩
 have hfz:qe h [] [] 0 0 [] []:=trivial
 obtain ⟨qI,_,_⟩:=yu (m:=0) ⟨hH,hM⟩ hfz rfl
 refine (hA.2 w vs (mm μ h []) (Fu μ h [] S) qI.heap qI.ok aKK (λj gw hj=>?_)).mono ?_
 ·have K7:j<args.length:=by rw [<-hl];exact (An.1 hj).1
  have th:=abF K7
  obtain ⟨v,h1,h2⟩:=ha j _ th
  obtain ⟨z1,z2⟩:=hz j _ gw th hj
  exact ⟨v,h1,(vw (m:=0) ⟨hH,hM⟩ hfz z1).2.1 v h2⟩
 ·rintro e w' ⟨v,r0,h0,μ0,S0,he,hR,hv,hH0,Hq,hF⟩
  obtain ⟨P4,hf2⟩:=PD r0 h0 hR
  have xB:∀b,¬di (mm μ h []) [] b:=λb=>lx
  have hG:∀pv v,qf pv=true->aY S0 w' pv v->aY S w' pv v:=λpv v hf hp=>by
   cases hp with
   | int k n=>exact .int k n
   | bool b=>exact .bool b
   | str s=>exact .str s
   | cd=>exact .cd
   | iC=>exact .iC
   | fn f=>exact .fn f
   | uk=>cases hf
   | ig=>cases hf
   | gB=>cases hf
  obtain ⟨c1,c2,c3⟩:=FA (S':=S) hH hM hF hH0 Hq (λpv=>qf pv=true) hG (λid g sz n e f hid i hi c hc=>hf2 _ (aHU hid) i hi c hc) (λ_ hb=>hb) (λb hb=>.inl hb) (λb hb=>aHX (hM.slt b hb) hF.size)
   (λb hb ho=>by
    have h1:=(hF.own b ho).resolve_left (xB b)
    have h2:=hM.slt b hb
    omega)
  have mG:aeb (λpv=>qf pv=true) r0:=by
   cases r0 with
   | fv vs=>
    intro v hv
    have:=(aHH.1 P4) v hv
    cases v with
    | agg cs=>exact λc hc=>(aHH.1 this) c hc
    | _=>exact this
   | agg cs=>exact λc hc=>(aHH.1 P4) c hc
   | _=>exact P4
  exact ⟨v,_,_,_,S,he,⟨r0,h0,hR,rfl,rfl⟩,Dm _ hG mG hv,c1,c2,c3⟩
end
end Go.Am
