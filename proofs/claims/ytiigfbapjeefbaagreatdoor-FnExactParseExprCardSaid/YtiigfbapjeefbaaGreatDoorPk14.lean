/- Texts of the proof, joined and shortened. -/
import Derived.Test.YtiigfbapjeefbaaGreatDoorPk13
set_option linter.unusedVariables false
set_option linter.unusedSimpArgs false
set_option maxRecDepth 100000
namespace Go.Am
open Go Go.RowKit Go.Proofs
theorem Y7 {n:ae} {i:Nat} (h:i<n.ah.length):wt n.ah[i]<wt n:=by
 have:=Gl _ _ (aIh h);have:=zR n;omega
theorem Pq:∀(N:Nat) (n:ae),wt n<N->N<=1099511627776->kP n=some (n,n)
 | 0,n,h,_=>by omega
 | N+1,n,h,hN=>by
  have hk:n.ah.length<=wt n:=by have:=zR n;omega
  have go:∀(f i:Nat),n.ah.length<=i+f->i<=n.ah.length->ir n n.ah [] (n.ah.take i) (i:Int)=some (n.ah,[],n.ah):=by
   intro f
   induction f with
   | zero=>
    intro i h1 h2
    obtain rfl:i=n.ah.length:=by omega
    rw [ir,if_neg aKK,List.take_length]
   | succ f ih=>
    intro i h1 h2
    rw [ir]
    by_cases hc:i<n.ah.length
    ·have hx:=Pq N n.ah[i] (by have:=Y7 hc;omega) aKK
     rw [if_pos aKK,fJ hc,sb,hx,sb]
     dsimp only
     rw [km (by simp only [aJk,an,At];omega),sb,bQ aKK]
     have e1:n.ah.set ((i:Int).toNat) (ae.mk n.ah[i].aj n.ah[i].aP n.ah[i].aq n.ah[i].ah)=n.ah:=by
      rw [Rg,aIU,List.set_getElem_self]
     have e2:n.ah.take i++[n.ah[i]]=n.ah.take (i+1):=(List.take_succ_eq_append_getElem hc).symm
     rw [e1,e2]
     exact ih (i+1) aKK aKK
    ·obtain rfl:i=n.ah.length:=by omega
     rw [if_neg aKK,List.take_length]
  have g0:=go n.ah.length 0 aKK aKK
  rw [List.take_zero] at g0
  replace g0:ir n n.ah [] [] 0=some (n.ah,[],n.ah):=g0
  rw [kP,g0,sb]
  dsimp only
  rw [Rg]
theorem af4:∀(N:Nat) (n:ae),wt n<N->N<=1099511627776->kJ n n=some true
 | 0,n,h,_=>by omega
 | N+1,n,h,hN=>by
  have hk:n.ah.length<=wt n:=by have:=zR n;omega
  have go:∀(f i:Nat),n.ah.length<=i+f->il n.ah n.ah (i:Int)=some (.inl ()):=by
   intro f
   induction f with
   | zero=>intro i h1;rw [il,if_neg aKK]
   | succ f ih=>
    intro i h1
    rw [il]
    by_cases hc:i<n.ah.length
    ·rw [if_pos aKK,fJ hc,sb,sb,af4 N n.ah[i] (by have:=Y7 hc;omega) aKK,sb,if_pos rfl,bQ aKK]
     exact ih (i+1) aKK
    ·rw [if_neg aKK]
  have g0:=go n.ah.length 0 aKK
  replace g0:il n.ah n.ah 0=some (.inl ()):=g0
  rw [kJ,if_pos rfl,if_pos rfl,if_pos rfl,uF,if_pos rfl,g0,sb,sb,if_pos rfl]
theorem af5:∀(f:Nat) (y:Int) (s:aB),0<=y->y<=9223372036854775807->y<10 ^ f->s.length+f<=1000->∃r,iH y s=some r/\r.length<=s.length+f
 | 0,y,s,h0,hm,h1,h2=>by
  rw [iH,if_neg aKK];exact ⟨s,rfl,by omega⟩
 | f+1,y,s,h0,hm,h1,h2=>by
  rw [iH]
  by_cases h:y>0
  ·have h3:y.tdiv 10=y / 10:=Int.tdiv_eq_ediv_of_nonneg h0
   rw [Int.pow_succ] at h1
   have hb:bq (y.tdiv 10)=y / 10:=by rw [h3];exact U7 aKK aKK
   have e:sF ([UInt8.ofNat (IntKind.u8.wrap (bq (48+(y.tmod 10)))).toNat]:List UInt8) s=some ([UInt8.ofNat (IntKind.u8.wrap (bq (48+(y.tmod 10)))).toNat]++s):=if_pos aKT
   rw [if_pos h,e,sb,hb]
   obtain ⟨r,e2,h4⟩:=af5 f (y / 10) ([UInt8.ofNat (IntKind.u8.wrap (bq (48+(y.tmod 10)))).toNat]++s) aKK aKK aKK aKT
   exact ⟨r,e2,by simp at h4;omega⟩
  ·rw [if_neg h];exact ⟨s,rfl,by omega⟩
theorem Y8 (k:Int) (h:k<=9223372036854775807):∃s,iZ k=some s:=by
 unfold iZ
 by_cases hk:k<=0
 ·rw [if_pos hk];exact ⟨_,rfl⟩
 ·rw [if_neg hk]
  obtain ⟨r,e,hr⟩:=af5 19 k [] aKK h aKK aKN
  rw [e,sb]
  have:sF [109] r=some ([109]++r):=if_pos (by simp at hr ⊢;omega)
  rw [this];exact ⟨_,rfl⟩
theorem Fa:∀(N:Nat) (l:List ae),wl l<N->∀k:Nat,k+3*wl l<=4611686018427387904->∃(k':Nat) (l':List ae),gZ l (k:Int)=some ((k':Int),l')/\k<=k'/\k'<=k+3*wl l/\gn l' (k:Int)=some (k':Int)
 | 0,l,h=>by omega
 | N+1,l,h=>by
  intro k hk
  have hlen:=ak5 l
  have go:∀(f i k:Nat) (D:List ae),l.length=i+f->D.length=i->k+3*wl (l.drop i)<=4611686018427387904->∃(k':Nat) (E:List ae),E.length=f/\fW l (D++l.drop i) (k:Int) (i:Int)=some ((k':Int),D++E)/\k<=k'/\k'<=k+3*wl (l.drop i)/\fX (D++E) (k:Int) (i:Int)=some (.inl (k':Int)):=by
   intro f
   induction f with
   | zero=>
    intro i k D h1 h2 h3
    refine ⟨k,[],rfl,?_,No _,by omega,?_⟩
    ·rw [fW,if_neg aKK,aHN aKK]
    ·rw [fX,if_neg (by rw [aII];omega)]
   | succ f ih=>
    intro i k D h1 h2 h3
    have hc:i<l.length:=by omega
    have hd:=aIf hc
    have hwl:wl (l.drop i)=1+wt l[i]+wl (l.drop (i+1)):=by rw [hd,ja]
    have hx:wl l[i].ah<=wt l[i]:=by have:=lR l[i].aj l[i].aP l[i].aq l[i].ah;rw [Rg] at this;omega
    have hN:wl (l.drop i)<=wl l:=by
     have:=ki (l.take i) (l.drop i);rw [List.take_append_drop] at this;omega
    obtain ⟨t,et⟩:=Y8 (((k+2:Nat):Int)) aKK
    have w1:bq ((k:Int)+1)=((k+1:Nat):Int):=bQ aKK
    have w2:bq (((k+1:Nat):Int)+1)=((k+2:Nat):Int):=bQ aKK
    have w3:bq (((k+2:Nat):Int)+1)=((k+3:Nat):Int):=bQ aKK
    obtain ⟨k2,q,e1,e2,e3,e4⟩:=Fa N l[i].ah aKK (k+3) aKK
    obtain ⟨k',E,hE,e5,e6,e7,e8⟩:=ih (i+1) k2 (D++[ae.mk (k:Int) ((k+1:Nat):Int) t q]) aKK (by simp [h2]) aKK
    have en:∀(z:ae) (R:List ae),idx (D++z::R) (i:Int)=some z:=λz R=>by
     rw [fJ (by simp only [aHK,an];omega),aJd aKK]
     simp [h2]
    have es:(D++l[i]::l.drop (i+1)).set ((i:Int).toNat) (ae.mk (k:Int) ((k+1:Nat):Int) t q)=(D++[ae.mk (k:Int) ((k+1:Nat):Int) t q])++l.drop (i+1):=by
     rw [aIU,List.set_append_right _ _ aKK,h2,aIR,aJa,aIe];rfl
    refine ⟨k',ae.mk (k:Int) ((k+1:Nat):Int) t q::E,by simp [hE],?_,by omega,by omega,?_⟩
    ·rw [fW,if_pos aKK,hd,en,sb,w1,w2,et,sb,w3,e1,sb]
     dsimp only
     rw [es,bQ aKK,e5,aIe];rfl
    ·rw [fX,if_pos (by simp only [aHK,an];omega),en,sb,ae.pV,if_pos rfl,sb,ae.qA,w1,if_pos rfl,sb,w2,et,sb,ae.mS,if_pos rfl,sb,w3,ae.kK,e4,sb,if_neg aKK,bQ aKK]
     rw [aIe] at e8
     exact e8
  obtain ⟨k',E,hE,e5,e6,e7,e8⟩:=go l.length 0 k [] aKK rfl (by rw [aHY];omega)
  rw [aHY] at e5 e7
  refine ⟨k',E,?_,e6,e7,?_⟩
  ·replace e5:fW l l (k:Int) 0=some ((k':Int),E):=e5
   rw [gZ,e5,sb]
  ·replace e8:fX E (k:Int) 0=some (.inl (k':Int)):=e8
   rw [gn,e8,sb]
theorem aAi (n:ae) (h:wt n<=1099511627776):∃(k:Nat) (m:ae),nf n 1=some ((k:Int),m)/\lj (ae.mk n.aj n.aP n.aq m.ah) 1=some (k:Int):=by
 have hx:wl n.ah<=wt n:=by have:=lR n.aj n.aP n.aq n.ah;rw [Rg] at this;omega
 obtain ⟨k,l,e1,e2,e3,e4⟩:=Fa (wl n.ah+1) n.ah aKK 1 aKK
 replace e1:gZ n.ah 1=some ((k:Int),l):=e1
 replace e4:gn l 1=some (k:Int):=e4
 refine ⟨k,ae.mk n.aj n.aP n.aq l,?_,?_⟩
 ·rw [nf,e1,sb]
 ·unfold lj
  show (gn l 1>>=_)=_
  rw [e4,sb,if_neg aKK]
set_option maxRecDepth 100000
theorem Co (s:aB) (hs:s.length<=1048576):∃(n:ae) (k:Int),lP s=some (n,k)/\j7 s=some (n,k)/\wt n<=134217728:=by
 unfold lP j7
 have e1:sF [60,63,32] s=some ([60,63,32]++s):=if_pos aKU
 rw [e1,sb,sb]
 obtain ⟨ts,k,p,l1,l2,l3⟩:=Y9 ([60,63,32]++s)
 rw [l1,l2,sb,sb]
 dsimp only
 by_cases hk:k=0
 ·obtain ⟨hp,hT⟩:=l3 hk
  have H:Tk ts (s.length:Int):=hT _ aKK
  have hl:=H.len
  rw [if_pos hk,if_pos hk]
  obtain ⟨s',n,m,p1,p2,R⟩:=(aAj (e':=0) H (.g 0) (aIS _) rfl).expr
  replace p1:bp (aA.mk ts 0 (s.length:Int) (-1))=some (n,pS ts (s.length:Int) s'):=p1
  replace p2:aU (ai.mk ts 0 0 false)=some (m,qS ts 0 s'):=p2
  rw [p1,p2,sb,sb]
  dsimp only
  have wi:=R.ok
  cases s' with
  | g i=>
   obtain ⟨i0,hi0,bg,JG,hw,_⟩:=R.good i rfl
   subst JG
   have hi:i<=ts.length:=wi
   have hwt:wt n<=134217728:=by omega
   show ∃n' k',((if (-1:Int)>=0 then _ else some (decide ((i:Int)<(ts.length:Int))))>>=_)=_/\(if false=true then _ else if (i:Int)<(ts.length:Int) then _ else _)=_/\_
   rw [if_neg (show ¬((-1:Int)>=0) by decide),sb,if_neg (show ¬(false=true) by decide)]
   by_cases xc:i<ts.length
   ·rw [if_pos aLd,if_pos aKK]
    exact aKB
   ·obtain ⟨v1,v2⟩:=Rh n hwt
    rw [if_neg aLd,if_neg aKK,v1,v2,sb,sb]
    cases vX n
    ·exact aKB
    ·rw [if_pos rfl,if_pos rfl,Pq (wt n+1) n aKK aKK,sb]
     exact ⟨_,_,rfl,rfl,hwt⟩
  | b j=>
   have h0:=adn H j
   show ∃n' k',((if pl ts (s.length:Int) j>=0 then _ else _)>>=_)=_/\(if true=true then _ else _)=_/\_
   rw [if_pos h0,sb,if_pos rfl,if_pos rfl]
   exact aKB
  | d j=>
   have h0:=adn H j
   have hj:j<ts.length:=wi.1
   show ∃n' k',((if pl ts (s.length:Int) j>=0 then _ else _)>>=_)=_/\(if false=true then _ else if (j:Int)<(ts.length:Int) then _ else _)=_/\_
   rw [if_pos h0,sb,if_pos rfl,if_neg aKL,if_pos aKK]
   exact aKB
 ·rw [if_neg hk,if_neg hk]
  exact aKB
theorem Ef (s:aB):jc s=some true:=by
 unfold jc
 by_cases hs:(s.length:Int)>1048576
 ·rw [if_pos hs]
 rw [if_neg hs]
 obtain ⟨n,k,e1,e2,hw⟩:=Co s aKK
 have q:=af4 (wt n+1) n aKK aKK
 obtain ⟨z,m,e3,e4⟩:=aAi n aKK
 have hz:¬((z:Nat):Int)<0:=by omega
 simp only [e1,e2,sb,Rg,q,if_true,e3,e4,if_neg hz]
theorem Gc (s:aB):ACall Tryz.prog 6 [.str s] [] (λres _=>res=.bool true):=(uj (Ef s)).mono (λ_ _ h=>h.1)
end Go.Am
