/- Texts of the proof, joined and shortened. -/
import Derived.Test.YtiigfbapjeefbaaGreatDoorPk5
import Derived.Lib.AtoiTie
import Derived.Lib.IndexMore
import Derived.WalkKit
import Derived.BigCall
set_option linter.unusedVariables false
set_option linter.unusedSimpArgs false
namespace Go.Am
open Go Go.RowKit Go.Proofs
theorem WL (a b c:Int):yn a b c=some (decide (b<=a/\a<=c)):=by
 unfold yn
 by_cases h:a>=b
 ·rw [if_pos h];congr 1;simp;omega
 ·rw [if_neg h];congr 1;symm;rw [decide_eq_false_iff_not];omega
theorem yJ:∀(k u:Nat),u<10 ^ (k+1)->Lib.nDigits u<=k+1
 | 0,u,h=>by rw [Lib.nDigits_small aNH];exact As _
 | k+1,u,h=>by
  by_cases h1:u<10
  ·rw [Lib.nDigits_small h1];omega
  ·rw [Lib.nDigits_big h1]
   have:=yJ k (u / 10) (by rw [Nat.pow_succ] at h;omega)
   omega
theorem Cn (u:Nat):Lib.decDigits u=(if u / 10=0 then [] else Lib.decDigits (u / 10))++[UInt8.ofNat (48+u % 10)]:=by
 by_cases h:u<10
 ·rw [if_pos aNc,Lib.decDigits,dif_pos h,show u % 10=u by omega];rfl
 ·rw [if_neg aNc]
  conv=>lhs;rw [Lib.decDigits,dif_neg h]
theorem WM:∀(k:Nat) (out:aD) (m:Int),m.natAbs<10 ^ k-> -9223372036854775808<=m->m<=9223372036854775807->k+out.length<=1000->
  ve out m=some ((if m=0 then [] else Lib.decDigits m.natAbs)++out)
 | 0,out,m,h,_,_,_=>by
  have:m=0:=by simp at h;exact h
  subst this
  rw [ve,if_pos rfl,if_pos rfl];rfl
 | k+1,out,m,h,h0,h1,ho=>by
  rw [ve]
  by_cases hm:m=0
  ·rw [if_pos hm,if_pos hm];rfl
  rw [if_neg hm,if_neg hm]
  have ab:(m.tmod 10).natAbs=m.natAbs % 10:=Int.natAbs_tmod m 10
  have ad:(m.tdiv 10).natAbs=m.natAbs / 10:=Int.natAbs_tdiv m 10
  have dv:bm (m.tdiv 10)=m.tdiv 10:=by rw [bm,WJ]<;>omega
  have fin:∀d:Int,d=((m.natAbs % 10:Nat):Int)->UInt8.ofNat (IntKind.u8.wrap (bm (48+d))).toNat=UInt8.ofNat (48+m.natAbs % 10):=λd hd=>by
   subst hd
   rw [bm,WJ aNc aNc,IntKind.wrap_u8]
   congr 1
   omega
  have next:ve ([UInt8.ofNat (48+m.natAbs % 10)]++out) (bm (m.tdiv 10))=some (Lib.decDigits m.natAbs++out):=by
   rw [dv,WM k _ _ (by rw [Nat.pow_succ] at h;omega) aNc aNc aNl,Cn m.natAbs,ad,aKy]
   by_cases h:m.tdiv 10=0
   ·rw [if_pos h,if_pos aNc]
   ·rw [if_neg h,if_neg aNc]
  have hs:∀b:UInt8,wQ [b] out=some ([b]++out):=λb=>if_pos aNl
  by_cases hn:m.tmod 10<0
  ·rw [if_pos hn,hs,sb,fin _ (by rw [bm,WJ]<;>omega),next]
  ·rw [if_neg hn,hs,sb,fin _ aNc,next]
theorem aiI (n:Int) (h0: -9223372036854775808<=n) (h1:n<=9223372036854775807):m94 n=some (Lib.itoa n):=by
 unfold m94
 by_cases h:n=0
 ·subst h;rw [if_pos rfl,show Lib.itoa 0=[48] by decide +kernel]
 rw [if_neg h,WM 20 [] n (by simp only [Nat.reducePow];omega) h0 h1 aNf,sb,if_neg h,aKF]
 unfold Lib.itoa
 have hL:(Lib.decDigits n.natAbs).length<=20:=by rw [Lib.decDigits_length];exact yJ 19 _ aNx
 by_cases hn:n<0
 ·rw [if_pos hn,if_pos hn,wQ,if_pos aNl];rfl
 ·rw [if_neg hn,if_neg hn,show n.natAbs=n.toNat by omega]
def arH (s:List UInt8):Option Nat->Option Nat
 | some v=>if v<=1000000000000/\Lib.decDigits v=s then some v else none
 | none=>none
def rK (s:List UInt8):Option Nat:=if 1<=s.length/\s.length<=13 then arH s (Lib.decFrom 0 s) else none
theorem HD {v:Nat} {c:UInt8} {r:List UInt8} (h:48<=c.toNat/\c.toNat<=57):Lib.decFrom v (c::r)=Lib.decFrom (v*10+(c.toNat - 48)) r:=by
 show (match Lib.digitVal c with | some d=>Lib.decFrom (v*10+d) r | none=>none)=_
 rw [Lib.digitVal,if_pos h]
theorem JV {v:Nat} {c:UInt8} {r:List UInt8} (h:¬(48<=c.toNat/\c.toNat<=57)):Lib.decFrom v (c::r)=none:=by
 show (match Lib.digitVal c with | some d=>Lib.decFrom (v*10+d) r | none=>none)=_
 rw [Lib.digitVal,if_neg h]
theorem drop_cons {s:aD} {i:Nat} (h:i<s.length):s.drop i=s.getD i 0::s.drop (i+1):=by
 rw [aKg h,aKb];simp [h]
theorem sOp (n:Int) (h1:1<=n) (h2:n<=15):∃s,iZ n=some s/\pN n=some s/\∃k,ly n=some k/\kJ n=some k/\6<=k/\k<=10:=by
 obtain ⟨k,rfl⟩:∃k:Nat,n=(k:Int):=⟨n.toNat,by omega⟩
 have h3:k<=15:=by omega
 have h4:1<=k:=by omega
 match k,h3,h4 with
 | 1,_,_=>exact ⟨_,rfl,rfl,_,rfl,rfl,by decide,by decide⟩
 | 2,_,_=>exact ⟨_,rfl,rfl,_,rfl,rfl,by decide,by decide⟩
 | 3,_,_=>exact ⟨_,rfl,rfl,_,rfl,rfl,by decide,by decide⟩
 | 4,_,_=>exact ⟨_,rfl,rfl,_,rfl,rfl,by decide,by decide⟩
 | 5,_,_=>exact ⟨_,rfl,rfl,_,rfl,rfl,by decide,by decide⟩
 | 6,_,_=>exact ⟨_,rfl,rfl,_,rfl,rfl,by decide,by decide⟩
 | 7,_,_=>exact ⟨_,rfl,rfl,_,rfl,rfl,by decide,by decide⟩
 | 8,_,_=>exact ⟨_,rfl,rfl,_,rfl,rfl,by decide,by decide⟩
 | 9,_,_=>exact ⟨_,rfl,rfl,_,rfl,rfl,by decide,by decide⟩
 | 10,_,_=>exact ⟨_,rfl,rfl,_,rfl,rfl,by decide,by decide⟩
 | 11,_,_=>exact ⟨_,rfl,rfl,_,rfl,rfl,by decide,by decide⟩
 | 12,_,_=>exact ⟨_,rfl,rfl,_,rfl,rfl,by decide,by decide⟩
 | 13,_,_=>exact ⟨_,rfl,rfl,_,rfl,rfl,by decide,by decide⟩
 | 14,_,_=>exact ⟨_,rfl,rfl,_,rfl,rfl,by decide,by decide⟩
 | 15,_,_=>exact ⟨_,rfl,rfl,_,rfl,rfl,by decide,by decide⟩
 | 0,_,h=>omega
 | k+16,h,_=>omega
set_option maxRecDepth 100000
def arI (a0:ae) (a1:Int) (r:Int):Prop:=sg7 10 a0 a1 r
inductive sw:(List ae)->Int->Int->((Int) ⊕ Int)->Prop
 | mk (G10:ae->Int->Option (Int)) (aI7:∀a0 a1 r,G10 a0 a1=some r->arI a0 a1 r) (sx:(List ae)->Int->Int->Option ((Int) ⊕ Int)) (Qj:∀a0 qP iH o,sx a0 qP iH=some o->sw a0 qP iH o) (a0:List ae) (qP:Int) (iH:Int) (o:(Int) ⊕ Int) (h:(
 (if iH<(a0.length:Int) then
 idx a0 iH>>=λxx=>
 G10 xx qP>>=λnL=>
 (if nL<0 then
 some (.inr (-1))
 else
 sx a0 nL (bm (iH+1)))
 else
 some (.inl qP))
 )=some o):sw a0 qP iH o
def arJ (a0:ae) (r:ae):Prop:=ACall Tryz.prog 12 [.agg a0.lit] [] (λres h=>res=.agg r.lit/\h=[])
inductive sy:(List ae)->(List ae)->Int->((List ae))->Prop
 | mk (G12:ae->Option (ae)) (aI8:∀a0 r,G12 a0=some r->arJ a0 r) (sA:(List ae)->(List ae)->Int->Option ((List ae))) (Qk:∀a0 l9 qP o,sA a0 l9 qP=some o->sy a0 l9 qP o) (a0:List ae) (l9:List ae) (qP:Int) (o:(List ae)) (h:(
 (if qP<(a0.length:Int) then
 idx a0 qP>>=λNv=>
 G12 Nv>>=λRQ=>
 idx l9 qP>>=λx20=>
 sA a0 (l9.set qP.toNat RQ) (bm (qP+1))
 else
 some l9)
 )=some o):sy a0 l9 qP o
mutual
def kK (a0:ae) (a1:ae):Option (Bool):=
 (if a0.ai=a1.ai then
 (if a0.aE=a1.aE then
 (if a0.aq=a1.aq then
 vg a0.af a1.af>>=λv4=>
 (if v4=true then
 some true
 else
 some false)
 else
 some false)
 else
 some false)
 else
 some false)
partial_fixpoint
def vg (a0:List ae) (a1:List ae):Option (Bool):=
 (if (a0.length:Int)=(a1.length:Int) then
 ((
 ik a0 a1 0
 :Option iD)>>=λo8=>match o8 with
 | .inr r=>some r
 | .inl _=>
 some true
 )
 else
 some false)
partial_fixpoint
def ik (a0:List ae) (a1:List ae) (iH:Int):Option iD:=
 (if iH<(a0.length:Int) then
 idx a0 iH>>=λxx=>
 idx a1 iH>>=λx19=>
 kK xx x19>>=λv21=>
 (if v21=true then
 ik a0 a1 (bm (iH+1))
 else
 some (.inr false))
 else
 some (.inl ()))
partial_fixpoint
end
def WN (a0:ae) (a1:ae) (r:Bool):Prop:=ACall Tryz.prog 14 [.agg a0.lit,.agg a1.lit] [] (λres h=>res=.bool r/\h=[])
def agq (a0:List ae) (a1:List ae) (r:Bool):Prop:=ACall Tryz.prog 44 [sl 4 ae.cells a0,sl 4 ae.cells a1] [] (λres h=>res=.bool r/\h=[])
inductive jy:(List ae)->(List ae)->Int->iD->Prop
 | mk (G14:ae->ae->Option (Bool)) (arK:∀a0 a1 r,G14 a0 a1=some r->WN a0 a1 r) (sC:(List ae)->(List ae)->Int->Option iD) (Ql:∀a0 a1 iH o,sC a0 a1 iH=some o->jy a0 a1 iH o) (a0:List ae) (a1:List ae) (iH:Int) (o:(Unit) ⊕ Bool) (h:(
 (if iH<(a0.length:Int) then
 idx a0 iH>>=λxx=>
 idx a1 iH>>=λx19=>
 G14 xx x19>>=λv21=>
 (if v21=true then
 sC a0 a1 (bm (iH+1))
 else
 some (.inr false))
 else
 some (.inl ()))
 )=some o):jy a0 a1 iH o
theorem ET:(∀a0 a1 r,kK a0 a1=some r->WN a0 a1 r)/\(∀a0 a1 r,vg a0 a1=some r->agq a0 a1 r)/\(∀a0 a1 iH o,ik a0 a1 iH=some o->jy a0 a1 iH o):=by
 refine kK.mutual_partial_correctness WN agq jy ?_ ?_ ?_
 intro _ arL a0 a1 r h
 refine ep Tryz.func14 ?_
 refine .d (.d (.d ⟨rfl,rfl,_,rfl,rfl,rfl,_,rfl,(sN h (λmJ h=>?_) (λmJ h=>?_))⟩))
 exact aMI
 refine .d (.d ⟨rfl,rfl,_,rfl,rfl,rfl,_,rfl,(sN h (λAS h=>?_) (λAS h=>?_))⟩)
 exact aMI
 refine .d (.d ⟨rfl,rfl,_,rfl,rfl,rfl,_,rfl,(UJ h (λzA h=>?_) (λzA h=>?_))⟩)
 exact aMI
 refine .d (.d ⟨rfl,rfl,_,rfl,rfl,rfl,_,rfl,(bk h λv4 Ni h=>(b8 (arL _ _ _ Ni) (fP h (λBR h=>?_) (λBR h=>?_))))⟩)
 exact aMI
 exact aMI
 intro _ aDz a0 a1 r h
 refine ep Tryz.func44 ?_
 refine .d (.d (.d (sN h (λEC h=>?_) (λEC h=>?_))))
 exact aMI
 obtain ⟨o8,h,adg⟩:=bd h
 refine .cut (λσ η=>.inl ()=o8/\σ=[]/\η=[]) ?_ ?_
 refine .d ?_
 have aDA:=aDz _ _ _ _ h
 refine le (jy.rec (motive:=λp26 p27 iH o24 _=>a0=p26->a1=p27->o8=o24->aK _ _ [(0,sl 4 ae.cells a0),(1,sl 4 ae.cells a1),(5,pI iH)] []) ?_ aDA rfl rfl rfl) (tk [] ⟨.l,.l,.i,⟨⟩⟩ ⟨⟩)
 intro _ arK _ _ p26 p27 iH o24 h WO  aiJ aiK aiL
 subst aiJ
 subst aiK
 subst aiL
 refine aK.round (.d (.d (sD h (λnK h=>?_) (λnK h=>?_))))
 refine .d (.d (.float [(0,true),(1,true),(2,true),(3,true),(4,true),(5,true),(6,true),(7,true),(8,false),(9,true)] aNh ?_))
 refine bk h λxx vh h=>⟨bf vh,_,(aU vh).trans (ae.aO xx),(bk h λx19 Co h=>⟨bf Co,_,(aU Co).trans (ae.aO x19),(bk h λv21 zQ h=>(b8 (arK _ _ _ zQ) (fP h (λsr h=>?_) (λsr h=>?_))))⟩)⟩
 refine .d ?_
 obtain rfl:=si h
 replace h:=adg
 exact eB h
 exact lg (WO _ _ _ _ h rfl rfl rfl) (tk [] ⟨.l,.l,.i,⟨⟩⟩ ⟨⟩)
 exact aMF
 rintro _ _ ⟨rfl,rfl,rfl⟩
 replace h:=adg
 exact aMI
 intro F0 F1 n8 n9 a0 a1 iH o h
 exact .mk F0 n8 F1 n9 a0 a1 iH o h
theorem AW {a0:ae} {a1:ae} {r:Bool} (h:kK a0 a1=some r):ACall Tryz.prog 14 [.agg a0.lit,.agg a1.lit] [] (λres h=>res=.bool r/\h=[]):=ET.1 a0 a1 r h
mutual
def sz:ae->Nat | .mk _ _ _ k=>1+yK k
def yK:List ae->Nat | []=>0 | x::r=>sz x+yK r
end
mutual
def dp:ae->Nat | .mk _ _ _ k=>1+MB k
def MB:List ae->Nat | []=>0 | x::r=>max (dp x) (MB r)
end
theorem wz (n:ae):sz n=1+yK n.af:=by cases n;rfl
theorem Qm (n:ae):dp n=1+MB n.af:=by cases n;rfl
theorem yL:∀(l:List ae) (i:Nat) (h:i<l.length),yK (l.drop i)=sz l[i]+yK (l.drop (i+1))
 | x::r,0,h=>rfl
 | x::r,i+1,h=>yL r i aNH
theorem Cp:∀(l:List ae) (i:Nat) (h:i<l.length),MB (l.drop i)=max (dp l[i]) (MB (l.drop (i+1)))
 | x::r,0,h=>rfl
 | x::r,i+1,h=>Cp r i aNH
theorem Cq (n:ae):0<sz n:=by rw [wz];omega
theorem WQ:∀(l:List ae) (i:Nat),yK (l.drop i)<=yK l
 | [],i=>by simp [yK]
 | x::r,0=>As _
 | x::r,i+1=>aKW (WQ r i) (by show yK r<=sz x+yK r;omega)
theorem HF (l:List ae) (i:Nat) (h:i<l.length):sz l[i]<=yK l:=by
 have:=yL l i h;have:=WQ l i;omega
theorem yM:∀l:List ae,l.length<=yK l
 | []=>As _
 | x::r=>by have:=yM r;have:=Cq x;simp only [an];show r.length+1<=sz x+yK r;omega
theorem JW:∀(k:Nat),(∀n:ae,sz n<=k->sz n<4611686018427387904->jZ n=some (sz n:Int))
 | 0,n,h,_=>by have:=Cq n;omega
 | k+1,n,h,hb=>by
  have hk:=wz n
  have go:∀(f i s:Nat),n.af.length<=i+f->s+yK (n.af.drop i)<4611686018427387904->iQ n (s:Int) (i:Int)=some ((s+yK (n.af.drop i):Nat):Int):=by
   intro f
   induction f with
   | zero=>
    intro i s h1 h2
    rw [iQ,if_neg aNc,aKa aNc];rfl
   | succ f ih=>
    intro i s h1 h2
    rw [iQ]
    by_cases hc:i<n.af.length
    ·have hd:=yL n.af i hc
     have hl:=HF n.af i hc
     have hn:=yM n.af
     rw [if_pos aNc,eu hc,sb,JW k _ aNc aNc,sb,bN aNc,kE (n:=s+sz n.af[i]) aNc aNc,ih (i+1) _ aNc aNc,hd,aLO]
    ·rw [if_neg aNc,aKa aNc];rfl
  have h0:=go n.af.length 0 1 aNc (by rw [aKh];omega)
  rw [jZ]
  rw [show ((1:Nat):Int)=1 from rfl,show ((0:Nat):Int)=0 from rfl,aKh] at h0
  rw [h0,sb,hk]
theorem arM (a b:Nat):m91 (a:Int) (b:Int)=some ((max a b:Nat):Int):=by
 unfold m91
 by_cases h:a<b
 ·rw [if_pos aNc,aLV aNc]
 ·rw [if_neg aNc,Nat.max_eq_left aNc]
theorem arN (a b:Nat):m93 (a:Int) (b:Int)=some ((max a b:Nat):Int):=by
 unfold m93
 by_cases h:a<b
 ·first | rw [if_pos aNc,aLV aNc] | rw [if_neg aNc,aLV aNc]
 ·by_cases h2:b<a
  ·first | rw [if_neg aNc,Nat.max_eq_left aNc] | rw [if_pos aNc,Nat.max_eq_left aNc]
  ·obtain rfl:a=b:=by omega
   split<;>simp
mutual
theorem arO:∀n:ae,dp n<=sz n
 | .mk _ _ _ k=>by have:=BV k;show 1+MB k<=1+yK k;omega
theorem BV:∀l:List ae,MB l<=yK l
 | []=>As _
 | x::r=>by have:=arO x;have:=BV r;show max (dp x) (MB r)<=sz x+yK r;omega
end
theorem WR:∀(k:Nat),(∀n:ae,sz n<=k->sz n<4611686018427387904->jo n=some (dp n:Int))
 | 0,n,h,_=>by have:=Cq n;omega
 | k+1,n,h,hb=>by
  have hk:=wz n
  have hd0:=Qm n
  have hn:=yM n.af
  have go:∀(f i s:Nat),n.af.length<=i+f->hP n (s:Int) (i:Int)=some ((max s (MB (n.af.drop i)):Nat):Int):=by
   intro f
   induction f with
   | zero=>
    intro i s h1
    rw [hP,if_neg aNc,aKa aNc];simp [MB]
   | succ f ih=>
    intro i s h1
    rw [hP]
    by_cases hc:i<n.af.length
    ·have hl:=HF n.af i hc
     rw [if_pos aNc,eu hc,sb,WR k _ aNc aNc,sb,arM,sb,bN aNc,ih (i+1) _ aNc,Cp n.af i hc,Nat.max_assoc]
    ·rw [if_neg aNc,aKa aNc];simp [MB]
  have h0:=go n.af.length 0 0 aNc
  have hz:=BV n.af
  rw [jo]
  rw [show ((0:Nat):Int)=0 from rfl,aKh,Nat.zero_max] at h0
  rw [h0,sb,kE (n:=MB n.af+1) aNc aNc,hd0,Nat.add_comm]
theorem WS:∀(k:Nat),(∀n:ae,sz n<=k->sz n<4611686018427387904->jq n=some (dp n:Int))
 | 0,n,h,_=>by have:=Cq n;omega
 | k+1,n,h,hb=>by
  have hk:=wz n
  have hd0:=Qm n
  have hn:=yM n.af
  have go:∀(f i s:Nat),n.af.length<=i+f->hU n (s:Int) (i:Int)=some ((max s (MB (n.af.drop i)):Nat):Int):=by
   intro f
   induction f with
   | zero=>
    intro i s h1
    rw [hU,if_neg aNc,aKa aNc];simp [MB]
   | succ f ih=>
    intro i s h1
    rw [hU]
    by_cases hc:i<n.af.length
    ·have hl:=HF n.af i hc
     rw [if_pos aNc,eu hc,sb,WS k _ aNc aNc,sb,arN,sb,bN aNc,ih (i+1) _ aNc,Cp n.af i hc,Nat.max_assoc]
    ·rw [if_neg aNc,aKa aNc];simp [MB]
  have h0:=go n.af.length 0 0 aNc
  have hz:=BV n.af
  rw [jq]
  rw [show ((0:Nat):Int)=0 from rfl,aKh,Nat.zero_max] at h0
  rw [h0,sb,kE (n:=MB n.af+1) aNc aNc,hd0,Nat.add_comm]
theorem JX:∀(k:Nat),(∀n:ae,sz n<=k->sz n<4611686018427387904->∀left:Int,0<=left->left<=600->∃v,kL n left=some v/\ -4611686018427387904<v/\v<=600/\((sz n:Int)<=left->v=left - sz n)/\(left<sz n->v<0))
 | 0,n,h,_,_,_,_=>by have:=Cq n;omega
 | k+1,n,h,hb,left,JY,hl1=>by
  have hk:=wz n
  have hn:=yM n.af
  have go:∀(f i:Nat) (y:Int),n.af.length<=i+f-> -4611686018427387904<y->y<=600->∃v,jz n y (i:Int)=some v/\ -4611686018427387904<v/\v<=600/\(0<=y->(yK (n.af.drop i):Int)<=y->v=y - yK (n.af.drop i))/\(y<yK (n.af.drop i)->v<0)/\(y<0->v<0):=by
   intro f
   induction f with
   | zero=>
    intro i y h1 h2 h3
    rw [jz,if_neg aNc,aKa aNc]
    exact ⟨y,rfl,h2,h3,λ_ _=>by simp [yK],λq=>by simp [yK] at q;exact q,λq=>q⟩
   | succ f ih=>
    intro i y h1 h2 h3
    rw [jz]
    by_cases hc:i<n.af.length
    ·have hl:=HF n.af i hc
     have hd:=yL n.af i hc
     rw [if_pos aNc]
     by_cases hy:0<=y
     ·obtain ⟨v,e1,e2,e3,e4,e5⟩:=JX k n.af[i] aNc aNc y hy h3
      obtain ⟨u,g1,g2,g3,g4,g5,g6⟩:=ih (i+1) v aNc e2 e3
      rw [if_pos hy,eu hc,sb,e1,sb,bN aNc,g1]
      refine ⟨u,rfl,g2,g3,λ_ q=>?_,λq=>?_,λq=>by omega⟩
      ·have:=e4 aNc;have:=g4 aNc aNc;omega
      ·by_cases hq:(sz n.af[i]:Int)<=y
       ·have:=e4 hq;exact g5 aNc
       ·exact g6 (e5 aNc)
     ·rw [if_neg hy]
      exact ⟨y,rfl,h2,h3,λq=>absurd q hy,λ_=>by omega,λq=>q⟩
    ·rw [if_neg aNc,aKa aNc]
     exact ⟨y,rfl,h2,h3,λ_ _=>by simp [yK],λq=>by simp [yK] at q;exact q,λq=>q⟩
  obtain ⟨v,e1,e2,e3,e4,e5,e6⟩:=go n.af.length 0 (left - 1) aNc aNc aNc
  rw [aKh] at e4 e5
  have hw:bm (left - 1)=left - 1:=by
   by_cases h0:left=0
   ·subst h0;decide
   ·rw [kE (n:=(left - 1).toNat) aNc aNc];omega
  rw [kL,hw,show (0:Int)=((0:Nat):Int) from rfl,e1,sb]
  refine ⟨v,rfl,e2,e3,λq=>?_,λq=>?_⟩
  ·have:=e4 aNc aNc;omega
  ·exact e5 aNc
theorem WT (n:ae) (hb:sz n<4611686018427387904):lU n=some (decide (sz n<=600/\dp n<=30))/\mS n=some (decide (sz n<=600/\dp n<=30)):=by
 obtain ⟨v,e1,_,_,e4,e5⟩:=JX (sz n) n (As _) hb 600 aNc aNc
 unfold lU mS
 rw [JW (sz n) n (As _) hb,e1,sb,sb]
 by_cases h:sz n<=600
 ·have:=e4 aNc
  rw [if_pos aNc,if_pos aNc,WS (sz n) n (As _) hb,WR (sz n) n (As _) hb,sb]
  constructor<;>(congr 1;simp only [decide_eq_decide];omega)
 ·have:=e5 aNc
  rw [if_neg aNc,if_neg aNc]
  constructor<;>(rw [decide_eq_false aNc])
set_option maxRecDepth 100000
theorem yN {s p:aD} {i:Nat} (hp:p≠[]) (h:¬i+p.length<=s.length):Lib.occAt s p i=false:=by
 cases hc:Lib.occAt s p i
 ·rfl
 ·rcases Lib.occAt_room hc with h2 | h2
  ·exact absurd h2 h
  ·exact absurd h2 hp
theorem Qn {s p:aD} {i:Nat} (h:i+p.length<=s.length):((s.take (i+p.length)).drop i==p)=Lib.occAt s p i:=by
 rw [Lib.occAt_iff_take s p i h,aLK,aKT]
theorem Bl {s p:aD} {i:Nat} (hp:p≠[]) (My:p.length<=10) (hi:i<=s.length) (hs:s.length<=4611686018427387904):hZ s (i:Int) p=some (Lib.occAt s p i):=by
 unfold hZ
 rw [kE (x:=(s.length:Int) - (i:Int)) (n:=s.length - i) aNc aNc,kE (x:=(i:Int)+(p.length:Int)) (n:=i+p.length) aNc aNc]
 by_cases h:i+p.length<=s.length
 ·rw [if_pos aNc,tI,if_pos ⟨by omega,by omega,by omega⟩,sb,<-Qn h];rfl
 ·rw [if_neg aNc,yN hp h]
theorem Nw (n:ae) (hs:n.aq.length<=4611686018427387904):∀(f i:Nat) (b:Bool),n.aq.length<=i+f->i<=n.aq.length->
  ∃v,fQ n b (i:Int)=some ((n.aE==0),v)/\(v=true↔b=true/\∀j,i<=j->j<n.aq.length->Lib.occAt n.aq [60,63] j=false)
 | f,i,b,h,hi=>by
  rw [fQ]
  by_cases hc:i<n.aq.length
  ·obtain ⟨g,rfl⟩:∃g,f=g+1:=⟨f - 1,by omega⟩
   rw [if_pos aNc,bN aNc]
   cases b
   ·rw [if_neg aNf]
    obtain ⟨v,h1,h2⟩:=Nw n hs g (i+1) false aNc aNc
    exact ⟨v,h1,by rw [h2];simp⟩
   ·rw [if_pos rfl,Bl aNf aNf hi hs,sb]
    obtain ⟨v,h1,h2⟩:=Nw n hs g (i+1) (!Lib.occAt n.aq [60,63] i) aNc aNc
    refine ⟨v,h1,?_⟩
    rw [h2]
    constructor
    ·rintro ⟨q,r⟩
     refine ⟨rfl,λj hj1 BW=>?_⟩
     by_cases e:j=i
     ·subst e;simpa using q
     ·exact r j aNc BW
    ·rintro ⟨_,r⟩
     exact ⟨by simp [r i aNc hc],λj hj1 BW=>r j aNc BW⟩
  ·rw [if_neg aNc]
   exact ⟨b,rfl,⟨λq=>⟨q,λj hj1 BW=>by omega⟩,λq=>q.1⟩⟩
def t31 (t:aD):Bool:=!(t==([]:aD))&&!decide (0<=Lib.index t [60,63])
theorem aiM (n:ae) (hs:n.aq.length<=4611686018427387904):fQ n (!(n.aq==([]:aD))) 0=some ((n.aE==0),t31 n.aq):=by
 obtain ⟨v,h1,h2⟩:=Nw n hs n.aq.length 0 (!(n.aq==([]:aD))) aNc aNc
 rw [show ((0:Nat):Int)=0 from rfl] at h1
 rw [h1]
 congr 2
 rw [aLv,h2,t31,At]
 refine and_congr_right λ_=>?_
 rcases Lib.index_spec n.aq [60,63] with ⟨e,q⟩ | ⟨i,e,q1,q2,_⟩
 ·rw [e];exact ⟨λ_=>by decide,λ_ j _ hj=>q j aNc⟩
 ·rw [e]
  constructor
  ·intro r
   by_cases hi:i<n.aq.length
   ·rw [r i aNc hi] at q2;cases q2
   ·rw [yN aNf aNl] at q2;cases q2
  ·intro r;simp at r
theorem JZ (s:aD) (hs:s.length<=4611686018427387904):∀(f i:Nat),s.length<=i+f->i<=s.length->(∀j,j<i->Lib.occAt s [58,58] j=false)->
  kf s (i:Int)=some (if 0<=Lib.index s [58,58] then .inr (s.take (Lib.index s [58,58]).toNat,s.drop ((Lib.index s [58,58]).toNat+2)) else .inl ())
 | f,i,h,hi,hj=>by
  rw [kf,bN aNc]
  by_cases hc:i+1<s.length
  ·obtain ⟨g,rfl⟩:∃g,f=g+1:=⟨f - 1,by omega⟩
   have ho:=Qn (s:=s) (p:=[58,58]) (i:=i) aNl
   simp only [an,mg] at ho
   rw [if_pos aNc,kE (x:=(i:Int)+2) (n:=i+2) aNc aNc,tI,if_pos ⟨by omega,by omega,by omega⟩,sb]
   show (if (s.take (i+2)).drop i=[58,58] then _ else _)=_
   by_cases he:(s.take (i+2)).drop i=[58,58]
   ·have WU:Lib.occAt s [58,58] i=true:=by rw [<-ho];simpa using he
    have hx:=Lib.index_first aNc WU hj
    rw [if_pos he,hx,if_pos aNc,sto,if_pos ⟨by omega,by omega⟩,sb,mU,if_pos ⟨by omega,by omega⟩,sb];rfl
   ·have WU:Lib.occAt s [58,58] i=false:=by rw [<-ho,beq_eq_false_iff_ne];exact he
    rw [if_neg he]
    refine JZ s hs g (i+1) aNc aNc λj q=>?_
    by_cases e:j=i
    ·subst e;exact WU
    ·exact hj j aNc
  ·rw [if_neg aNc,Lib.index_none (s:=s) (sub:=[58,58]) λj q=>by
    by_cases e:j<i
    ·exact hj j e
    ·exact yN aNf aNl]
   rfl
def t21 (t:aD):Bool:=(Lib.cut t [58,58]).2.2&&((good (Lib.cut t [58,58]).1||(Lib.cut t [58,58]).1==([115,116,97,116,105,99]:aD))&&good (Lib.cut t [58,58]).2.1)
theorem WV:good []=false:=by
 have h:=su []
 unfold bC oh dT at h
 rw [if_pos aNd,cK,if_neg aNd,sb,sb,if_pos aNd,sb,if_neg aNd] at h
 injection h with h;exact h.symm
theorem WW (s:aD) (hs:s.length<=4611686018427387904):∃a b,mV s=some (a,b)/\t21 s=((good a||a==([115,116,97,116,105,99]:aD))&&good b):=by
 have h:=JZ s hs s.length 0 aNc aNc (λj q=>by omega)
 rw [show ((0:Nat):Int)=0 from rfl] at h
 unfold mV
 rw [h,sb]
 unfold t21 Lib.cut
 by_cases hc:0<=Lib.index s [58,58]
 ·rw [if_pos hc,if_pos hc]
  exact ⟨_,_,rfl,by rw [aLc];rfl⟩
 ·rw [if_neg hc,if_neg hc]
  exact ⟨_,_,rfl,by simp [WV]⟩
theorem Sb (s:aD) (hs:s.length<4294967281):mP s=some (t21 s):=by
 unfold mP tv t21
 rw [if_pos hs,sb]
 generalize Lib.cut s [58,58]=c
 obtain ⟨a,b,x⟩:=c
 cases x
 ·rfl
 ·simp only [su,sb,if_true,aLc]
  by_cases h:a=([115,116,97,116,105,99]:aD)
  ·rw [if_pos h,h];simp
  ·rw [if_neg h]
   cases good a<;>simp [h]
theorem contains_eq (s:aD) (hs:s.length<4294967281):mO s [60,63]=some (decide (0<=Lib.index s [60,63])):=if_pos hs
set_option maxRecDepth 100000
def tn (k m:Int):Bool:=
 if k=1 then decide (0<=m/\m<=1000000000) else if k=3 then decide (0<=m/\m<=2) else if k=9 then decide (1<=m/\m<=2) else if k=10 then decide (1<=m/\m<=15)
 else if k=54 then decide (0<=m/\m<=1) else if k=55 then decide (0<=m/\m<=3) else m==0
def nmK:List Int:=[4,8,17,18,20,40,44,49,50,51,52,53,54,55]
def uY (k:Int) (t:aD):Bool:=
 if k=2\/k=47 then decide ((t.length:Int)<=400) else if nmK.contains k then good t else if k=22 then good t||t==([115,116,97,116,105,99]:aD) else if k=21 then t21 t
 else if k=31 then t31 t else t==([]:aD)
def kds:List Int:=[1,2,3,4,8,9,10,17,18,20,21,22,31,40,44,47,49,50,51,52,53,54,55]
theorem zR (k m:Int) (t:aD) (ks:List ae) (hs:t.length<=4611686018427387904):eD (.mk k m t ks)=some (tn k m,uY k t):=by
 unfold eD
 simp only [ae.qh,ae.rh,ae.mW,ae.kM]
 by_cases h:k∈kds
 ·simp only [kds,aKo,aLU,or_false] at h
  rcases h with h | h | h | h | h | h | h | h | h | h | h | h | h | h | h | h | h | h | h | h | h | h | h<;>subst h
  case inr.inr.inr.inr.inr.inr.inr.inr.inr.inr.inl=>
   obtain ⟨a,b,e1,e2⟩:=WW t hs
   simp only [Int.reduceEq,if_false,if_true,e1,sb,Qi,tn,uY,nmK,Int.reduceBEq,amb,e2]
   simp only [aKK,aKO,Int.reduceBEq,aKD,or_false,amb,if_false]
   cases good a
   ·by_cases q:a=([115,116,97,116,105,99]:aD)
    ·rw [if_neg aNf,if_pos q,sb,q];rfl
    ·rw [if_neg aNf,if_neg q,sb];simp [q]
   ·rw [if_pos rfl,sb];rfl
  case inr.inr.inr.inr.inr.inr.inr.inr.inr.inr.inr.inr.inl=>
   have:=aiM (.mk 31 m t ks) hs
   simp only [ae.rh,ae.mW] at this
   simp only [Int.reduceEq,if_false,sb,Int.reduceBEq,amb,if_true,this]
   rfl
  all_goals
   simp only [Int.reduceEq,if_false,if_true,rf,sb,Qi,tn,uY,nmK,Int.reduceBEq,amb,or_false,false_or,or_true,true_or]
   try simp only [aKK,aKO,Int.reduceBEq,aKD,aLa,aLb,or_false,amb,if_false,if_true]
   try (cases good t<;>rfl)
 ·simp only [kds,aKo,aLU,or_false,not_or] at h
  obtain ⟨_,_,_,_,_,_,_,_,_,_,_,_,_,_,_,_,_,_,_,_,_,_,_⟩:=h
  simp only [*,if_false,sb,tn,uY,nmK,aKK,aKO,beq_eq_false_iff_ne,aLi,beq_iff_eq,amb,or_self,or_false,ne_eq,not_false_eq_true,not_true_eq_false]
set_option maxRecDepth 100000
def FZ (b:Bool):Unit ⊕ Bool:=bif b then .inl () else .inr false
def ob2 (b:Bool):Unit ⊕ (Unit ⊕ Bool):=bif b then .inl () else .inr (.inr false)
mutual
def uZ:ae->Bool | .mk k _ _ ks=>if k=7/\ks.length=2 then aDB ks else k==4||k==8
def aDB:List ae->Bool | []=>false | x::_=>uZ x
end
section
variable (E S:ae->Bool)
def bl (x:ae):Bool:=x.ai==48&&S x
def prK (x:ae):Bool:=x.ai==6&&(x.aE==0&&(x.aq==([]:aD)&&(decide (1<=(x.af.length:Int)/\(x.af.length:Int)<=2)&&x.af.all E)))
def Qo (a:Bool):Bool->List ae->Bool
 | _,[]=>true
 | b,x::r=>((x.ai==25&&a)||(x.ai==24&&!b))&&(decide (0<=x.aE/\x.aE<=1)&&(good x.aq&&((x.af.length:Int)==0&&Qo a (b||x.ai==25) r)))
def fU (a:Bool) (ks:List ae):Bool:=match ks.getLast? with
 | none=>false
 | some x=>Qo a false ks.dropLast&&bl S x
def gE (k:Int) (ks:List ae):Bool:=
 if [1,2,3,4].contains k then (ks.length:Int)==0
 else if k=5 then ks.all (prK E)
 else if [8,9].contains k then (match ks with | [a]=>E a | _=>false)
 else if [7,10,11,12,13].contains k then (match ks with | [a,b]=>E a&&E b | _=>false)
 else if k=14 then (match ks with | [a,b,c]=>E a&&(E b&&E c) | _=>false)
 else if [15,16].contains k then (match ks with | [a,b]=>uZ a&&(E a&&E b) | _=>false)
 else if k=17 then (match ks with | [a]=>a.ai==4&&E a | _=>false)
 else if [18,21,22].contains k then ks.all E
 else if [19,20].contains k then (match ks with | []=>false | a::r=>E a&&r.all E)
 else if k=23 then fU S true ks else false
def fE (n:ae):Bool:=tn n.ai n.aE&&(uY n.ai n.aq&&gE E S n.ai n.af)
def cat (x:ae):Bool:=x.ai==44&&(x.aE==0&&(good x.aq&&(match x.af with | [a,b]=>a.ai==4&&(E a&&bl S b) | _=>false)))
def fin (x:ae):Bool:=x.ai==45&&(x.aE==0&&(x.aq==([]:aD)&&(match x.af with | [a]=>bl S a | _=>false)))
def gS (k:Int) (ks:List ae):Bool:=
 if [31,37,38,40,47].contains k then (ks.length:Int)==0
 else if [32,33,42].contains k then (match ks with | [a]=>E a | _=>false)
 else if k=39 then (match ks with | []=>true | [a]=>E a | _=>false)
 else if k=41 then (match ks with | [a]=>uZ a&&E a | _=>false)
 else if k=34 then (match ks with | [a,b]=>E a&&bl S b | [a,b,c]=>E a&&(bl S b&&bl S c) | _=>false)
 else if k=35 then (match ks with | [a,b]=>E a&&bl S b | _=>false)
 else if k=36 then (match ks with | [a,b,c]=>E a&&(E b&&(b.ai==4&&bl S c)) | [a,b,c,d]=>E a&&(E b&&(E c&&(b.ai==4&&(c.ai==4&&bl S d)))) | _=>false)
 else if k=46 then (match ks with | [a]=>E a | [a,b]=>E a&&(E b&&a.ai==4) | _=>false)
 else if k=48 then ks.all S
 else if k=43 then (match ks with | [a,b]=>bl S a&&(cat E S b||fin S b) | [a,b,c]=>bl S a&&(cat E S b&&fin S c) | _=>false) else false
def fS (n:ae):Bool:=tn n.ai n.aE&&(uY n.ai n.aq&&gS E S n.ai n.af)
end
theorem ja {a:ae} {r:List ae}:idx (a::r) 0=some a:=by unfold idx;rw [if_pos ⟨by omega,by simp⟩];rfl
theorem vi {a b:ae} {r:List ae}:idx (a::b::r) 1=some b:=by unfold idx;rw [if_pos ⟨by omega,by simp;omega⟩];rfl
theorem F8 {a b c:ae} {r:List ae}:idx (a::b::c::r) 2=some c:=by unfold idx;rw [if_pos ⟨by omega,by simp;omega⟩];rfl
theorem arP {a b c d:ae} {r:List ae}:idx (a::b::c::d::r) 3=some d:=by unfold idx;rw [if_pos ⟨by omega,by simp;omega⟩];rfl
section
variable {E S:ae->Bool}
theorem Qp (l:List ae) (h:∀x∈l,bD x=some (E x)) (hl:l.length<4611686018427387904):∀f i:Nat,l.length<=i+f->kB l (i:Int)=some (FZ ((l.drop i).all E))
 | f,i,hf=>by
  rw [kB]
  by_cases hc:i<l.length
  ·obtain ⟨g,rfl⟩:∃g,f=g+1:=⟨f - 1,by omega⟩
   rw [if_pos aNc,eu hc,sb,h _ (aKr hc),sb,bN aNc,Qp l h hl g (i+1) aNc,aKg hc,aKf]
   cases E l[i]<;>rfl
  ·rw [if_neg aNc,aKa aNc];rfl
theorem yO (l:List ae) (h:∀x∈l,bD x=some (E x)) (hl:l.length<4611686018427387904):fF l 0=some (l.all E):=by
 have:=Qp l h hl l.length 0 aNc
 rw [show ((0:Nat):Int)=0 from rfl,aKh] at this
 rw [fF,this,sb]
 cases l.all E<;>rfl
theorem Qq (n:ae) (h:∀x∈n.af,dS x=some (S x)) (hl:n.af.length<4611686018427387904):∀f i:Nat,n.af.length<=i+f->kc n (i:Int)=some (FZ ((n.af.drop i).all S))
 | f,i,hf=>by
  rw [kc]
  by_cases hc:i<n.af.length
  ·obtain ⟨g,rfl⟩:∃g,f=g+1:=⟨f - 1,by omega⟩
   rw [if_pos aNc,eu hc,sb,h _ (aKr hc),sb,bN aNc,Qq n h hl g (i+1) aNc,aKg hc,aKf]
   cases S n.af[i]<;>rfl
  ·rw [if_neg aNc,aKa aNc];rfl
theorem Qr (n:ae) (h:∀x∈n.af,dS x=some (S x)) (hl:n.af.length<4611686018427387904):cb n=some (n.ai==48&&(n.aE==0&&(n.aq==([]:aD)&&n.af.all S))):=by
 have:=Qq n h hl n.af.length 0 aNc
 rw [show ((0:Nat):Int)=0 from rfl,aKh] at this
 rw [cb,this,sb]
 by_cases h1:n.ai=48
 ·rw [if_pos h1,h1]
  by_cases h2:n.aE=0
  ·rw [if_pos h2,h2]
   by_cases h3:n.aq=([]:aD)
   ·rw [if_pos h3,h3]
    cases n.af.all S<;>rfl
   ·rw [if_neg h3];simp [h3]
  ·rw [if_neg h2];simp [h2]
 ·rw [if_neg h1];simp [h1]
theorem aDC (n:ae) (h:n.ai=48):fS E S n=(n.aE==0&&(n.aq==([]:aD)&&n.af.all S)):=by
 unfold fS gS tn uY nmK
 rw [h];rfl
theorem sbl (n:ae) (h:∀x∈n.af,dS x=some (S x)) (hl:n.af.length<4611686018427387904) (hS:S n=fS E S n):cb n=some (bl S n):=by
 rw [Qr n h hl,bl]
 by_cases h1:n.ai=48
 ·rw [hS,aDC n h1]
 ·rw [beq_eq_false_iff_ne.2 h1];rfl
theorem WX (n:ae) (h:∀x∈n.af,∀y∈x.af,bD y=some (E y)) (HG:∀x∈n.af,x.af.length<4611686018427387904) (hl:n.af.length<4611686018427387904):∀f i:Nat,n.af.length<=i+f->kA n (i:Int)=some (ob2 ((n.af.drop i).all (prK E)))
 | f,i,hf=>by
  rw [kA]
  by_cases hc:i<n.af.length
  ·obtain ⟨g,rfl⟩:∃g,f=g+1:=⟨f - 1,by omega⟩
   rw [if_pos aNc,eu hc,sb,rf,sb,yO _ (h _ (aKr hc)) (HG _ (aKr hc)),sb,bN aNc,WX n h HG hl g (i+1) aNc,aKg hc,aKf]
   generalize n.af[i]=x
   unfold prK
   by_cases h1:x.ai=6
   ·by_cases h2:x.aE=0
    ·by_cases h3:x.aq=([]:aD)
     ·rw [if_pos h1,if_pos h2,if_pos h3,h1,h2,h3]
      cases decide (1<=(x.af.length:Int)/\(x.af.length:Int)<=2)
      ·rfl
      ·cases x.af.all E<;>rfl
     ·rw [if_pos h1,if_pos h2,if_neg h3,beq_eq_false_iff_ne.2 h3,aLn,aKx,aKx];rfl
    ·rw [if_pos h1,if_neg h2,beq_eq_false_iff_ne.2 h2,aLn,aKx];rfl
   ·rw [if_neg h1,beq_eq_false_iff_ne.2 h1];rfl
  ·rw [if_neg aNc,aKa aNc];rfl
theorem J0 {l:List ae} {x:ae}:idx (l++[x]) (l.length:Int)=some x:=by
 rw [eu aNf];simp
theorem Qs (a:Bool) (l:List ae) (z:ae) (hl:l.length<4611686018427387904):∀(f i:Nat) (b:Bool),l.length<=i+f->gn (l++[z]) a b (i:Int)=some (FZ (Qo a b (l.drop i)))
 | f,i,b,hf=>by
  rw [gn,kE (x:=(((l++[z]).length:Int)) - 1) (n:=l.length) aNf aNc]
  by_cases hc:i<l.length
  ·obtain ⟨g,rfl⟩:∃g,f=g+1:=⟨f - 1,by omega⟩
   have hd:(l++[z])[i]'aNl=l[i]:=aLs hc
   have IH:=λb'=>Qs a l z hl g (i+1) b' aNc
   rw [if_pos aNc,eu aNl,sb,hd,aKg hc]
   simp only [rf,sb,Qi,bN (show i<9223372036854775807 by omega),IH,Qo]
   generalize l[i]=x
   have e0:(if (x.af.length:Int)>0 then (some (.inr false):Option (Unit ⊕ Bool)) else some (FZ (Qo a (b||x.ai==25) (l.drop (i+1)))))=some (FZ ((x.af.length:Int)==0&&Qo a (b||x.ai==25) (l.drop (i+1)))):=by
    by_cases h:(x.af.length:Int)>0
    ·rw [if_pos h,beq_eq_false_iff_ne.2 aNc];rfl
    ·rw [if_neg h,show (x.af.length:Int)=0 by omega];rfl
   by_cases h1:x.ai=25
   ·rw [if_pos h1,sb,if_neg aNc,if_pos h1]
    cases a
    ·rw [h1];rfl
    ·rw [h1] at e0
     simp only [Int.reduceBEq,aLa,BEq.rfl] at e0
     rw [h1]
     cases decide (0<=x.aE/\x.aE<=1)
     ·rfl
     ·cases good x.aq
      ·rfl
      ·simpa using e0
   ·rw [if_neg h1,sb]
    have h1':(x.ai==25)=false:=beq_eq_false_iff_ne.2 h1
    rw [h1',aKD] at e0
    rw [h1',aKD,aLn,aKu]
    by_cases h2:x.ai=24
    ·rw [if_pos h2,h2]
     cases b
     ·cases decide (0<=x.aE/\x.aE<=1)
      ·rfl
      ·cases good x.aq
       ·rfl
       ·simpa using e0
     ·rw [if_pos rfl,if_neg aNd];rfl
    ·rw [if_neg h2,if_neg h1,beq_eq_false_iff_ne.2 h2];rfl
  ·rw [if_neg aNc,aKa aNc];rfl
theorem HH (a:Bool) (ks:List ae) (hl:ks.length<4611686018427387904) (hB:∀x∈ks,cb x=some (bl S x)):jS ks a=some (fU S a ks):=by
 rcases List.eq_nil_or_concat ks with rfl | ⟨l,z,rfl⟩
 ·rw [jS,gn];rfl
 ·rw [List.concat_eq_append] at hl hB ⊢
  have hl':l.length<4611686018427387904:=by simp at hl;omega
  have:=Qs a l z hl' l.length 0 false aNc
  rw [show ((0:Nat):Int)=0 from rfl,aKh] at this
  rw [jS,this,sb,kE (x:=(((l++[z]).length:Int)) - 1) (n:=l.length) aNf aNc,fU,List.getLast?_concat,List.dropLast_concat]
  show _=some (Qo a false l&&bl S z)
  cases Qo a false l
  ·rfl
  ·show (if (l.length:Int)>=0 then _ else _)=_
   rw [if_pos aNc,J0,sb,hB z aNf,sb];rfl
end
set_option maxRecDepth 100000
mutual
theorem stg:∀(k m:Int) (t:aD) (ks:List ae),∃a b c d,jA k m t ks=some (a,b,c,d)/\uZ (.mk k m t ks)=(a==4||a==8)
 | k,m,t,ks=>by
  rw [jA,uZ]
  by_cases h:k=7
  ·by_cases h2:ks.length=2
   ·rw [if_pos h,if_pos aNc,if_pos ⟨h,h2⟩]
    match ks,h2 with
    | [.mk k1 m1 t1 ks1,y],_=>rw [ja,sb];exact stg k1 m1 t1 ks1
   ·rw [if_pos h,if_neg aNc,if_neg (λq=>h2 q.2)];exact ⟨_,_,_,_,rfl,rfl⟩
  ·rw [if_neg h,if_neg (λq=>h q.1)];exact ⟨_,_,_,_,rfl,rfl⟩
end
theorem ph (x:ae):ff x=some (uZ x):=by
 cases x with
 | mk k m t ks=>
  obtain ⟨a,b,c,d,h1,h2⟩:=stg k m t ks
  unfold ff
  simp only [ae.qh,ae.rh,ae.mW,ae.kM,h1,sb]
  rw [h2]
  by_cases h:a=4
  ·rw [if_pos h,h];rfl
  ·rw [if_neg h,beq_eq_false_iff_ne.2 h,aKu]
section
variable {E S:ae->Bool}
theorem adh (k m:Int) (t:aD) (ks:List ae) (ht:t.length<=4611686018427387904) (hl:ks.length<4611686018427387904) (HG:∀x∈ks,x.af.length<4611686018427387904)
  (HE:∀x∈ks,bD x=some (E x)) (Sd:∀x∈ks,∀y∈x.af,bD y=some (E y)) (HB:∀x∈ks,cb x=some (bl S x)):bD (.mk k m t ks)=some (fE E S (.mk k m t ks)):=by
 rw [bD,zR _ _ _ _ ht,sb,fE]
 simp only [ae.qh,ae.rh,ae.mW,ae.kM]
 cases tn k m
 ·rfl
 cases uY k t
 ·rfl
 rw [if_pos rfl,if_pos rfl]
 show _=some (gE E S k ks)
 have he:=yO ks HE hl
 by_cases hk:1<=k/\k<=23
 ·rcases (by omega:k=1\/k=2\/k=3\/k=4\/k=5\/k=6\/k=7\/k=8\/k=9\/k=10\/k=11\/k=12\/k=13\/k=14\/k=15\/k=16\/k=17\/k=18\/k=19\/k=20\/k=21\/k=22\/k=23) with h | h | h | h | h | h | h | h | h | h | h | h | h | h | h | h | h | h | h | h | h | h | h<;>subst h<;>
  simp only [gE,aKK,aKO,Int.reduceEq,Int.reduceBEq,if_true,if_false,aKD,aLa,aLb,aKu,amb,sb,he,ph]<;>try rfl
  case inr.inr.inr.inr.inl=>
   have h0:=WX (.mk 5 m t ks) Sd HG hl ks.length 0 (by show ks.length<=_;omega)
   rw [show ((0:Nat):Int)=0 from rfl,aKh,ae.kM] at h0
   rw [h0,sb]
   cases ks.all (prK E)<;>rfl
  all_goals
   first
    | (rw [HH _ _ hl HB];rfl)
    | (match ks,HE with
     | [],_=>first | rfl | (rw [if_neg aNd]) | (rw [if_neg aNd];rfl)
     | [a],HE=>simp only [ja,vi,F8,sb,HE a aNf,aKf,aKL,aKv,an,mg];first | done | rfl | (rw [if_pos aNd];done) | (rw [if_neg aNd];done) | (by_cases q:a.ai=4<;>simp [q];done)
     | [a,b],HE=>simp only [ja,vi,F8,sb,HE a aNf,HE b aNf,aKf,aKL,aKv,an,mg];first | done | rfl | (rw [if_pos aNd];done) | (rw [if_neg aNd];done) | (rw [if_pos aNd];cases uZ a<;>rfl)
     | [a,b,c],HE=>simp only [an,mg,aKf,aKL,aKv];first | done | rfl | (rw [if_pos aNd];done) | (rw [if_neg aNd];done)
     | a::b::c::d::r,HE=>simp only [an,aKf];first | done | rfl | (rw [if_pos aNc];rfl) | (rw [if_neg aNc];done) | (rw [if_neg aNc];rfl))
 ·have h1:¬k=1:=by omega
  have h2:¬k=2:=by omega
  have h3:¬k=3:=by omega
  have h4:¬k=4:=by omega
  have h5:¬k=5:=by omega
  have h7:¬k=7:=by omega
  have h8:¬k=8:=by omega
  have h9:¬k=9:=by omega
  have h10:¬k=10:=by omega
  have h11:¬k=11:=by omega
  have h12:¬k=12:=by omega
  have h13:¬k=13:=by omega
  have h14:¬k=14:=by omega
  have h15:¬k=15:=by omega
  have h16:¬k=16:=by omega
  have h17:¬k=17:=by omega
  have h18:¬k=18:=by omega
  have h19:¬k=19:=by omega
  have h20:¬k=20:=by omega
  have h21:¬k=21:=by omega
  have h22:¬k=22:=by omega
  have h23:¬k=23:=by omega
  simp only [gE,aKK,aKO,if_true,if_false,aKD,aLa,aLb,aKu,amb,sb, *,beq_eq_false_iff_ne.2 h1,beq_eq_false_iff_ne.2 h2,beq_eq_false_iff_ne.2 h3,beq_eq_false_iff_ne.2 h4,beq_eq_false_iff_ne.2 h7,beq_eq_false_iff_ne.2 h8,beq_eq_false_iff_ne.2 h9,beq_eq_false_iff_ne.2 h10,beq_eq_false_iff_ne.2 h11,beq_eq_false_iff_ne.2 h12,beq_eq_false_iff_ne.2 h13,beq_eq_false_iff_ne.2 h15,beq_eq_false_iff_ne.2 h16,beq_eq_false_iff_ne.2 h18,beq_eq_false_iff_ne.2 h19,beq_eq_false_iff_ne.2 h20,beq_eq_false_iff_ne.2 h21,beq_eq_false_iff_ne.2 h22]
end
set_option maxRecDepth 100000
theorem zS (x:ae) (hs:x.aq.length<=4611686018427387904):eD x=some (tn x.ai x.aE,uY x.ai x.aq):=by
 cases x with
 | mk k m t ks=>exact zR k m t ks hs
section
variable {E S:ae->Bool}
theorem aiN (x:ae) (h:x.ai=44):cat E S x=(tn 44 x.aE&&(uY 44 x.aq&&(match x.af with | [a,b]=>a.ai==4&&(E a&&bl S b) | _=>false))):=by
 unfold cat;rw [h];rfl
theorem aiO (x:ae) (h:x.ai=45):fin S x=(tn 45 x.aE&&(uY 45 x.aq&&(match x.af with | [a]=>bl S a | _=>false))):=by
 unfold fin;rw [h];rfl
theorem Cr (n:ae) (i:Nat) (hi:i<n.af.length) (hb:n.af.length<4611686018427387904) (ht:n.af[i].aq.length<=4611686018427387904)
  (HE:∀y∈n.af[i].af,bD y=some (E y)) (HB:∀y∈n.af[i].af,cb y=some (bl S y)):
  fh n (i:Int)=bif ((decide (i=1)&&cat E S n.af[i])||(decide (i+1=n.af.length)&&fin S n.af[i])) then fh n ((i+1:Nat):Int) else some (.inr (.inr false)):=by
 rw [fh,if_pos aNc,eu hi,sb,zS _ ht,sb,bN aNc,kE (x:=(n.af.length:Int) - 1) (n:=n.af.length - 1) aNc aNc]
 generalize n.af[i]=x at HE HB ⊢
 show (Option.bind _ _)=_
 by_cases h4:x.ai=44
 ·rw [if_pos h4,h4,aiN x h4,show fin S x=false by unfold fin;rw [h4];rfl,aKx,aKD]
  by_cases h1:i=1
  ·rw [if_pos aNc,decide_eq_true h1,aLc]
   match h:x.af,HE,HB with
   | [],_,_=>cases tn 44 x.aE<;>cases uY 44 x.aq<;>rfl
   | [a],_,_=>cases tn 44 x.aE<;>cases uY 44 x.aq<;>rfl
   | a::b::c::r,_,_=>
    rw [if_neg aNn]
    cases tn 44 x.aE<;>cases uY 44 x.aq<;>rfl
   | [a,b],HE,HB=>
    rw [if_pos (by rfl),ja,vi,sb,sb,sb,HE a aNf,HB b aNf,sb,sb]
    show _=(bif (tn 44 x.aE&&(uY 44 x.aq&&(a.ai==4&&(E a&&bl S b)))) then _ else _)
    by_cases h5:a.ai=4
    ·rw [if_pos h5,h5]
     cases tn 44 x.aE<;>cases uY 44 x.aq<;>cases E a<;>cases bl S b<;>rfl
    ·rw [if_neg h5,beq_eq_false_iff_ne.2 h5]
     cases tn 44 x.aE<;>cases uY 44 x.aq<;>rfl
  ·rw [if_neg aNc,decide_eq_false h1,aLn]
   cases tn 44 x.aE<;>cases uY 44 x.aq<;>rfl
 ·by_cases h5:x.ai=45
  ·rw [if_neg h4,h5,aiO x h5,show cat E S x=false by unfold cat;rw [h5];rfl,aKx,aKu]
   by_cases h1:i+1=n.af.length
   ·rw [if_pos rfl,if_pos aNc,decide_eq_true h1,aLc]
    match h:x.af,HE,HB with
    | [],_,_=>cases tn 45 x.aE<;>cases uY 45 x.aq<;>rfl
    | a::b::r,_,_=>
     rw [if_neg aNn]
     cases tn 45 x.aE<;>cases uY 45 x.aq<;>rfl
    | [a],HE,HB=>
     rw [if_pos (by rfl),ja,sb,HB a aNf,sb]
     show _=(bif (tn 45 x.aE&&(uY 45 x.aq&&bl S a)) then _ else _)
     cases tn 45 x.aE<;>cases uY 45 x.aq<;>cases bl S a<;>rfl
   ·rw [if_pos rfl,if_neg aNc,decide_eq_false h1,aLn]
    cases tn 45 x.aE<;>cases uY 45 x.aq<;>rfl
  ·rw [if_neg h4,if_neg h5,show cat E S x=false by unfold cat;rw [beq_eq_false_iff_ne.2 h4];rfl,show fin S x=false by unfold fin;rw [beq_eq_false_iff_ne.2 h5];rfl,aKx,aKx]
   cases tn x.ai x.aE<;>cases uY x.ai x.aq<;>rfl
theorem Qt (n:ae) (i:Nat) (hi:i=n.af.length):fh n (i:Int)=some (.inl ()):=by
 rw [fh,if_neg aNc]
theorem adi (k m:Int) (t:aD) (ks:List ae) (ht:t.length<=4611686018427387904) (hl:ks.length<4611686018427387904) (ht2:∀x∈ks,x.aq.length<=4611686018427387904)
  (HE:∀x∈ks,bD x=some (E x)) (Sd:∀x∈ks,∀y∈x.af,bD y=some (E y)) (HB:∀x∈ks,cb x=some (bl S x)) (HB2:∀x∈ks,∀y∈x.af,cb y=some (bl S y))
  (HS:∀x∈ks,dS x=some (S x)):dS (.mk k m t ks)=some (fS E S (.mk k m t ks)):=by
 rw [dS,zR _ _ _ _ ht,sb,fS]
 simp only [ae.qh,ae.rh,ae.mW,ae.kM]
 cases hN:tn k m
 ·rfl
 cases hT:uY k t
 ·rfl
 rw [if_pos rfl,if_pos rfl]
 show _=some (gS E S k ks)
 have he:=yO ks HE hl
 by_cases hk:31<=k/\k<=48
 ·rcases (by omega:k=31\/k=32\/k=33\/k=34\/k=35\/k=36\/k=37\/k=38\/k=39\/k=40\/k=41\/k=42\/k=43\/k=44\/k=45\/k=46\/k=47\/k=48) with h | h | h | h | h | h | h | h | h | h | h | h | h | h | h | h | h | h<;>subst h<;>
  simp only [gS,aKK,aKO,Int.reduceEq,Int.reduceBEq,if_true,if_false,aKD,aLa,aLb,aKu,amb,sb,he,ph,rf]<;>try rfl
  case inr.inr.inr.inr.inr.inr.inr.inr.inr.inr.inr.inr.inl=>
   match ks,HB,HB2,Sd,ht2,hl with
   | [],_,_,_,_,_=>rfl
   | [a],_,_,_,_,_=>rfl
   | [a,b],HB,HB2,Sd,ht2,hl=>
    have h1:=Cr (E:=E) (S:=S) (.mk 43 m t [a,b]) 1 aNf hl (ht2 b aNf) (Sd b aNf) (HB2 b aNf)
    rw [Qt _ 2 rfl] at h1
    simp only [ja,sb,HB a aNf]
    rw [show (((1:Nat):Int))=1 from rfl] at h1
    rw [h1]
    simp only [ae.kM,an,mg,List.getElem_cons_succ,aLF,decide_true,aLc]
    cases bl S a<;>cases cat E S b<;>cases fin S b<;>rfl
   | [a,b,c],HB,HB2,Sd,ht2,hl=>
    have h1:=Cr (E:=E) (S:=S) (.mk 43 m t [a,b,c]) 1 aNf hl (ht2 b aNf) (Sd b aNf) (HB2 b aNf)
    have h2:=Cr (E:=E) (S:=S) (.mk 43 m t [a,b,c]) 2 aNf hl (ht2 c aNf) (Sd c aNf) (HB2 c aNf)
    rw [Qt _ 3 rfl] at h2
    rw [h2] at h1
    simp only [ja,sb,HB a aNf]
    rw [show (((1:Nat):Int))=1 from rfl] at h1
    rw [h1]
    simp only [ae.kM,an,mg,List.getElem_cons_succ,aLF,decide_true,aLc]
    cases bl S a<;>cases cat E S b<;>cases fin S b<;>cases fin S c<;>rfl
   | a::b::c::d::r,_,_,_,_,_=>
    rw [decide_eq_false aNn];rfl
  case inr.inr.inr.inr.inr.inr.inr.inr.inr.inr.inr.inr.inr.inr.inr.inr.inr=>
   have h0:=Qr (.mk 48 m t ks) HS hl
   simp only [ae.qh,ae.rh,ae.mW,ae.kM] at h0
   have e1:(m==0)=true:=hN
   have e2:(t==([]:aD))=true:=hT
   rw [e1,e2] at h0
   rw [h0];rfl
  all_goals
   match ks,HE,HB,HS with
   | [],_,_,_=>first | rfl | (rw [if_neg aNd];done) | (rw [if_neg aNd];rfl) | (rw [if_pos aNd];rfl)
   | [a],HE,HB,HS=>
    simp only [ja,sb,HE a aNf,aKf,aKL,aKv,an,mg]
    first | done | rfl | (cases E a<;>rfl) | (cases uZ a<;>rfl) | (cases uZ a<;>cases E a<;>rfl)
   | [a,b],HE,HB,HS=>
    simp only [ja,vi,sb,HE a aNf,HE b aNf,HB b aNf,aKf,aKL,aKv,an,mg]
    first
     | done
     | rfl
     | (rw [show bm (((0+1+1:Nat):Int) - 1)=1 from rfl,vi,sb,HB b aNf,sb];cases E a<;>cases bl S b<;>rfl)
     | (cases E a<;>cases bl S b<;>rfl)
     | (cases E a<;>cases E b<;>rfl)
   | [a,b,c],HE,HB,HS=>
    try dsimp only
    first
     | rfl
     | (rw [show bm ((([a,b,c]:List ae).length:Int) - 1)=2 from rfl,F8,ja,vi,sb,sb,sb,HE a aNf,HB b aNf,HB c aNf,sb,sb,sb];cases E a<;>cases bl S b<;>cases bl S c<;>rfl)
     | (
      rw [show bm ((([a,b,c]:List ae).length:Int) - 1)=2 from rfl,show bm ((([a,b,c]:List ae).length:Int) - 2)=1 from rfl,F8,vi,sb,sb,sb,HB c aNf,sb,show T2 [a,b,c] 2=some [a,b] from rfl,sb,yO [a,b] (λx h=>HE x (by simp at h ⊢;rcases h with h | h<;>simp [h])) aNf]
      by_cases q:b.ai=4
      ·rw [if_pos q,q];simp only [aKf,aKL,aKv];cases E a<;>cases E b<;>cases bl S c<;>rfl
      ·rw [if_neg q,beq_eq_false_iff_ne.2 q];simp only [aKf,aKL,aKv];cases E a<;>cases E b<;>cases bl S c<;>rfl)
   | [a,b,c,d],HE,HB,HS=>
    try dsimp only
    first
     | rfl
     | (
      rw [show bm ((([a,b,c,d]:List ae).length:Int) - 1)=3 from rfl,show bm ((([a,b,c,d]:List ae).length:Int) - 2)=2 from rfl,arP,F8,vi,sb,sb,sb,HB d aNf,sb,show T2 [a,b,c,d] 3=some [a,b,c] from rfl,sb,yO [a,b,c] (λx h=>HE x (by simp at h ⊢;rcases h with h | h | h<;>simp [h])) aNf]
      simp only [aKf,aKL,aKv]
      by_cases q:b.ai=4
      ·by_cases q2:c.ai=4
       ·rw [if_pos q,if_pos q2,q,q2];cases E a<;>cases E b<;>cases E c<;>cases bl S d<;>rfl
       ·rw [if_pos q,if_neg q2,q,beq_eq_false_iff_ne.2 q2];cases E a<;>cases E b<;>cases E c<;>cases bl S d<;>rfl
      ·rw [if_neg q,beq_eq_false_iff_ne.2 q];cases E a<;>cases E b<;>cases E c<;>cases bl S d<;>rfl)
   | a::b::c::d::e::r,_,_,_=>
    first
     | rfl
     | (rw [if_neg aNn];done)
     | (rw [if_neg aNn];rfl)
     | (rw [decide_eq_false aNn];rfl)
 ·have h31:¬k=31:=by omega
  have h32:¬k=32:=by omega
  have h33:¬k=33:=by omega
  have h34:¬k=34:=by omega
  have h35:¬k=35:=by omega
  have h36:¬k=36:=by omega
  have h37:¬k=37:=by omega
  have h38:¬k=38:=by omega
  have h39:¬k=39:=by omega
  have BX:¬k=40:=by omega
  have h41:¬k=41:=by omega
  have h42:¬k=42:=by omega
  have h43:¬k=43:=by omega
  have h46:¬k=46:=by omega
  have h47:¬k=47:=by omega
  have h48:¬k=48:=by omega
  simp only [gS,aKK,aKO,if_true,if_false,aKD,aLa,aLb,aKu,amb,sb, *,beq_eq_false_iff_ne.2 h31,beq_eq_false_iff_ne.2 h32,beq_eq_false_iff_ne.2 h33,beq_eq_false_iff_ne.2 h37,beq_eq_false_iff_ne.2 h38,beq_eq_false_iff_ne.2 BX,beq_eq_false_iff_ne.2 h42,beq_eq_false_iff_ne.2 h47]
end
set_option maxRecDepth 100000
mutual
def wt:ae->Nat | .mk _ _ t k=>t.length+k.length+J1 k
def J1:List ae->Nat | []=>0 | x::r=>wt x+J1 r
end
theorem w6 (n:ae):wt n=n.aq.length+n.af.length+J1 n.af:=by cases n;rfl
theorem HI:∀(l:List ae) (x:ae),x∈l->wt x<=J1 l
 | y::r,x,h=>by
  rw [J1]
  rcases aKo.1 h with h | h
  ·subst h;omega
  ·have:=HI r x h;omega
theorem Qu:∀(l:List ae) (x:ae),x∈l->sz x<=yK l
 | y::r,x,h=>by
  rw [yK]
  rcases aKo.1 h with h | h
  ·subst h;omega
  ·have:=Qu r x h;omega
mutual
theorem agr:∀n:ae,sz n<=1+wt n
 | .mk _ _ t k=>by have:=Qv k;rw [sz,wt];omega
theorem Qv:∀l:List ae,yK l<=l.length+J1 l
 | []=>As _
 | x::r=>by have:=agr x;have:=Qv r;rw [yK,J1,an];omega
end
def vE (n:ae):Bool:=(bD n).getD false
def vS (n:ae):Bool:=(dS n).getD false
theorem rL {n x:ae} (h:x∈n.af):sz x<sz n:=by have:=Qu _ _ h;have:=wz n;omega
theorem ko {n x:ae} (h:x∈n.af):wt x<=wt n:=by have:=HI _ _ h;have:=w6 n;omega
theorem Cs:∀(N:Nat) (n:ae),sz n<N->wt n<=134217728->(bD n=some (vE n)/\vE n=fE vE vS n)/\(dS n=some (vS n)/\vS n=fS vE vS n)
 | 0,n,h,_=>by omega
 | N+1,n,h,hw=>by
  have hk:∀x∈n.af,_:=λx hx=>Cs N x (by have:=rL hx;omega) (by have:=ko hx;omega)
  have yP:∀x∈n.af,∀y∈x.af,_:=λx hx y hy=>Cs N y (by have:=rL hx;have:=rL hy;omega) (by have:=ko hx;have:=ko hy;omega)
  have fD:∀x∈n.af,∀y∈x.af,∀z∈y.af,_:=λx hx y hy z hz=>Cs N z (by have:=rL hx;have:=rL hy;have:=rL hz;omega) (by have:=ko hx;have:=ko hy;have:=ko hz;omega)
  have bd:∀x:ae,wt x<=134217728->x.aq.length<=4611686018427387904/\x.af.length<4611686018427387904:=λx hx=>by have:=w6 x;omega
  have w1:∀x∈n.af,wt x<=134217728:=λx hx=>by have:=ko hx;omega
  have w2:∀x∈n.af,∀y∈x.af,wt y<=134217728:=λx hx y hy=>by have:=ko hx;have:=ko hy;omega
  have HE:∀x∈n.af,bD x=some (vE x):=λx hx=>(hk x hx).1.1
  have Sd:∀x∈n.af,∀y∈x.af,bD y=some (vE y):=λx hx y hy=>(yP x hx y hy).1.1
  have HS:∀x∈n.af,dS x=some (vS x):=λx hx=>(hk x hx).2.1
  have HB:∀x∈n.af,cb x=some (bl vS x):=λx hx=>sbl x (λy hy=>(yP x hx y hy).2.1) (bd x (w1 x hx)).2 (hk x hx).2.2
  have HB2:∀x∈n.af,∀y∈x.af,cb y=some (bl vS y):=λx hx y hy=>sbl y (λz hz=>(fD x hx y hy z hz).2.1) (bd y (w2 x hx y hy)).2 (yP x hx y hy).2.2
  have e1:bD n=some (fE vE vS n):=by
   cases n with
   | mk k m t ks=>exact adh k m t ks (bd _ hw).1 (bd _ hw).2 (λx hx=>(bd x (w1 x hx)).2) HE Sd HB
  have e2:dS n=some (fS vE vS n):=by
   cases n with
   | mk k m t ks=>exact adi k m t ks (bd _ hw).1 (bd _ hw).2 (λx hx=>(bd x (w1 x hx)).1) HE Sd HB HB2 HS
  have g1:vE n=fE vE vS n:=by rw [vE,e1];rfl
  have g2:vS n=fS vE vS n:=by rw [vS,e2];rfl
  exact ⟨⟨by rw [e1,g1],g1⟩,⟨by rw [e2,g2],g2⟩⟩
theorem spE {n:ae} (h:wt n<=134217728):bD n=some (vE n):=(Cs _ n (aKe _) h).1.1
theorem spS {n:ae} (h:wt n<=134217728):dS n=some (vS n):=(Cs _ n (aKe _) h).2.1
theorem J2 {n:ae} (h:wt n<=134217728):vE n=fE vE vS n:=(Cs _ n (aKe _) h).1.2
theorem WY {n:ae} (h:wt n<=134217728):vS n=fS vE vS n:=(Cs _ n (aKe _) h).2.2
theorem sB {n:ae} (h:wt n<=134217728):cb n=some (bl vS n):=sbl n (λy hy=>spS (by have:=ko hy;omega)) (by have:=w6 n;omega) (WY h)
set_option maxRecDepth 100000
theorem nest {c:Prop} [Decidable c] {b:Bool}:(if c then (some (.inr b):Option (Unit ⊕ Bool)) else some (.inr false))=some (.inr (decide c&&b)):=by
 by_cases h:c<;>simp [h]
theorem arQ {c:Prop} [Decidable c] {b:Bool}:(if c then some b else some false)=some (decide c&&b):=by
 by_cases h:c<;>simp [h]
theorem HJ {α:Type} [BEq α] [LawfulBEq α] {a b:α} [Decidable (a=b)]:decide (a=b)=(a==b):=by
 by_cases h:a=b
 ·rw [decide_eq_true h,h,BEq.rfl]
 ·rw [decide_eq_false h,beq_eq_false_iff_ne.2 h]
section
variable {E S:ae->Bool}
theorem ln1 (ks:List ae):(((ks.length:Int)==1)&&ks.all E)=(match ks with | [a]=>E a | _=>false):=by
 match ks with
 | []=>rfl
 | [a]=>simp
 | a::b::r=>rw [beq_eq_false_iff_ne.2 aNn];rfl
theorem ln2 (ks:List ae):(((ks.length:Int)==2)&&ks.all E)=(match ks with | [a,b]=>E a&&E b | _=>false):=by
 match ks with
 | []=>rfl
 | [a]=>rfl
 | [a,b]=>simp
 | a::b::c::r=>rw [beq_eq_false_iff_ne.2 aNn];rfl
theorem ln3 (ks:List ae):(((ks.length:Int)==3)&&ks.all E)=(match ks with | [a,b,c]=>E a&&(E b&&E c) | _=>false):=by
 match ks with
 | []=>rfl
 | [a]=>rfl
 | [a,b]=>rfl
 | [a,b,c]=>simp
 | a::b::c::d::r=>rw [beq_eq_false_iff_ne.2 aNn];rfl
theorem arR (ks:List ae):(decide ((ks.length:Int)>=1)&&ks.all E)=(match ks with | []=>false | a::r=>E a&&r.all E):=by
 match ks with
 | []=>rfl
 | a::r=>rw [decide_eq_true aNn];rfl
theorem arS (ks:List ae):(decide ((ks.length:Int)<=1)&&ks.all E)=(match ks with | []=>true | [a]=>E a | _=>false):=by
 match ks with
 | []=>rfl
 | [a]=>simp
 | a::b::r=>rw [decide_eq_false aNn];rfl
theorem Qw (l:List ae) (h:∀x∈l,cF x=some (E x)) (hl:l.length<4611686018427387904):∀f i:Nat,l.length<=i+f->j7 l (i:Int)=some (FZ ((l.drop i).all E))
 | f,i,hf=>by
  rw [j7]
  by_cases hc:i<l.length
  ·obtain ⟨g,rfl⟩:∃g,f=g+1:=⟨f - 1,by omega⟩
   rw [if_pos aNc,eu hc,sb,h _ (aKr hc),sb,bN aNc,Qw l h hl g (i+1) aNc,aKg hc,aKf]
   cases E l[i]<;>rfl
  ·rw [if_neg aNc,aKa aNc];rfl
theorem HK (l:List ae) (h:∀x∈l,cF x=some (E x)) (hl:l.length<4611686018427387904):cP l=some (l.all E):=by
 have:=Qw l h hl l.length 0 aNc
 rw [show ((0:Nat):Int)=0 from rfl,aKh] at this
 rw [cP,this,sb]
 cases l.all E<;>rfl
theorem WZ (l:List ae) (h:∀x∈l,c8 x=some (S x)) (hl:l.length<4611686018427387904):∀f i:Nat,l.length<=i+f->lR l (i:Int)=some (FZ ((l.drop i).all (bl S)))
 | f,i,hf=>by
  rw [lR]
  by_cases hc:i<l.length
  ·obtain ⟨g,rfl⟩:∃g,f=g+1:=⟨f - 1,by omega⟩
   rw [if_pos aNc,eu hc,sb,h _ (aKr hc),sb,bN aNc,WZ l h hl g (i+1) aNc,aKg hc,aKf,bl]
   by_cases h4:l[i].ai=48
   ·rw [if_pos h4,h4]
    cases S l[i]<;>rfl
   ·rw [if_neg h4,beq_eq_false_iff_ne.2 h4];rfl
  ·rw [if_neg aNc,aKa aNc];rfl
theorem vj (l:List ae) (h:∀x∈l,c8 x=some (S x)) (hl:l.length<4611686018427387904):fO l=some (l.all (bl S)):=by
 have:=WZ l h hl l.length 0 aNc
 rw [show ((0:Nat):Int)=0 from rfl,aKh] at this
 rw [fO,this,sb]
 cases l.all (bl S)<;>rfl
theorem W0 (n:ae) (h:∀x∈n.af,c8 x=some (S x)) (hl:n.af.length<4611686018427387904):∀f i:Nat,n.af.length<=i+f->lQ n (i:Int)=some (ob2 ((n.af.drop i).all S))
 | f,i,hf=>by
  rw [lQ]
  by_cases hc:i<n.af.length
  ·obtain ⟨g,rfl⟩:∃g,f=g+1:=⟨f - 1,by omega⟩
   rw [if_pos aNc,eu hc,sb,h _ (aKr hc),sb,bN aNc,W0 n h hl g (i+1) aNc,aKg hc,aKf]
   cases S n.af[i]<;>rfl
  ·rw [if_neg aNc,aKa aNc];rfl
theorem W1 (n:ae) (h:∀x∈n.af,∀y∈x.af,cF y=some (E y)) (HG:∀x∈n.af,x.af.length<4611686018427387904) (hl:n.af.length<4611686018427387904):∀f i:Nat,n.af.length<=i+f->lP n (i:Int)=some (ob2 ((n.af.drop i).all (prK E)))
 | f,i,hf=>by
  rw [lP]
  by_cases hc:i<n.af.length
  ·obtain ⟨g,rfl⟩:∃g,f=g+1:=⟨f - 1,by omega⟩
   rw [if_pos aNc,eu hc,sb,ss,sb,HK _ (h _ (aKr hc)) (HG _ (aKr hc)),sb,bN aNc,W1 n h HG hl g (i+1) aNc,aKg hc,aKf]
   generalize n.af[i]=x
   unfold prK
   by_cases h1:x.ai=6
   ·by_cases h2:x.aE=0
    ·by_cases h3:x.aq=([]:aD)
     ·rw [if_pos h1,if_pos h2,if_pos h3,h1,h2,h3]
      cases decide (1<=(x.af.length:Int)/\(x.af.length:Int)<=2)
      ·rfl
      ·cases x.af.all E<;>rfl
     ·rw [if_pos h1,if_pos h2,if_neg h3,beq_eq_false_iff_ne.2 h3,aLn,aKx,aKx];rfl
    ·rw [if_pos h1,if_neg h2,beq_eq_false_iff_ne.2 h2,aLn,aKx];rfl
   ·rw [if_neg h1,beq_eq_false_iff_ne.2 h1];rfl
  ·rw [if_neg aNc,aKa aNc];rfl
theorem Qx (a:Bool) (l:List ae) (hl:l.length<4611686018427387904):∀(f i:Nat) (b:Bool),l.length<=i+f->iU a l b (i:Int)=some (FZ (Qo a b (l.drop i)))
 | f,i,b,hf=>by
  rw [iU]
  by_cases hc:i<l.length
  ·obtain ⟨g,rfl⟩:∃g,f=g+1:=⟨f - 1,by omega⟩
   have IH:=λb'=>Qx a l hl g (i+1) b' aNc
   rw [if_pos aNc,eu hc,sb,aKg hc]
   simp only [ss,sb,su,bN (show i<9223372036854775807 by omega),IH,Qo]
   generalize l[i]=x
   have e0:(if (x.af.length:Int)>0 then (some (.inr false):Option (Unit ⊕ Bool)) else some (FZ (Qo a (b||x.ai==25) (l.drop (i+1)))))=some (FZ ((x.af.length:Int)==0&&Qo a (b||x.ai==25) (l.drop (i+1)))):=by
    by_cases h:(x.af.length:Int)>0
    ·rw [if_pos h,beq_eq_false_iff_ne.2 aNc];rfl
    ·rw [if_neg h,show (x.af.length:Int)=0 by omega];rfl
   by_cases h1:x.ai=25
   ·rw [if_pos h1]
    cases a
    ·rw [h1];rfl
    ·rw [h1] at e0
     simp only [Int.reduceBEq,aLa,BEq.rfl] at e0
     rw [h1,if_pos rfl,sb]
     cases decide (0<=x.aE/\x.aE<=1)
     ·rfl
     ·cases good x.aq
      ·rfl
      ·simpa using e0
   ·rw [if_neg h1]
    have h1':(x.ai==25)=false:=beq_eq_false_iff_ne.2 h1
    rw [h1',aKD] at e0
    rw [h1',aKD,aLn,aKu]
    by_cases h2:x.ai=24
    ·rw [if_pos h2,h2]
     cases b
     ·cases decide (0<=x.aE/\x.aE<=1)
      ·rfl
      ·cases good x.aq
       ·rfl
       ·simpa using e0
     ·rfl
    ·rw [if_neg h2,beq_eq_false_iff_ne.2 h2];rfl
  ·rw [if_neg aNc,aKa aNc];rfl
theorem adj {l:List ae} {z:ae}:T2 (l++[z]) (l.length:Int)=some l:=by
 unfold T2
 rw [if_pos ⟨by omega,by simp;omega⟩,aLg,List.take_left]
theorem HL (a:Bool) (ks:List ae) (hl:ks.length<4611686018427387904) (hS:∀x∈ks,c8 x=some (S x)):gm ks a=some (fU S a ks):=by
 rcases List.eq_nil_or_concat ks with rfl | ⟨l,z,rfl⟩
 ·rw [gm];rfl
 ·rw [List.concat_eq_append] at hl hS ⊢
  have hl':l.length<4611686018427387904:=by simp at hl;omega
  have:=Qx a l hl' l.length 0 false aNc
  rw [show ((0:Nat):Int)=0 from rfl,aKh] at this
  rw [gm,kE (x:=(((l++[z]).length:Int)) - 1) (n:=l.length) aNf aNc,if_neg aNc,J0,sb,sb,hS z aNf,sb,fU,List.getLast?_concat,List.dropLast_concat,adj,sb,this,sb]
  show _=some (Qo a false l&&bl S z)
  rw [bl]
  by_cases h4:z.ai=48
  ·rw [if_pos h4,h4]
   cases S z<;>cases Qo a false l<;>rfl
  ·rw [if_neg h4,beq_eq_false_iff_ne.2 h4];simp
theorem var_eq (x:ae) (h:E x=fE E S x):hJ x=some (x.ai==4&&E x):=by
 unfold hJ
 simp only [su,sb,arQ,HJ,beq_true]
 by_cases h4:x.ai=4
 ·rw [h,fE,h4];rfl
 ·rw [beq_eq_false_iff_ne.2 h4];rfl
mutual
def yo:ae->Bool | .mk k _ _ ks=>if k=7/\ks≠[] then aDD ks else k==4||k==8
def aDD:List ae->Bool | []=>false | x::_=>yo x
end
theorem W2:∀(k m:Int) (t:aD) (ks:List ae),∃a b c d,kg k m t ks=some (a,b,c,d)/\yo (.mk k m t ks)=(a==4||a==8)
 | k,m,t,ks=>by
  rw [kg,yo]
  by_cases h:k=7
  ·match ks with
   | .mk k1 m1 t1 ks1::y=>rw [if_pos h,if_pos aNn,if_pos ⟨h,by simp⟩,ja,sb];exact W2 k1 m1 t1 ks1
   | []=>rw [if_pos h,if_neg aNf,if_neg (λq=>q.2 rfl)];exact ⟨_,_,_,_,rfl,rfl⟩
  ·rw [if_neg h,if_neg (λq=>h q.1)];exact ⟨_,_,_,_,rfl,rfl⟩
theorem pk (x:ae):fg x=some (yo x):=by
 cases x with
 | mk k m t ks=>
  obtain ⟨a,b,c,d,h1,h2⟩:=W2 k m t ks
  unfold fg
  simp only [ae.qh,ae.rh,ae.mW,ae.kM,h1,sb]
  rw [h2]
  by_cases h:a=4
  ·rw [if_pos h,h];rfl
  ·rw [if_neg h,beq_eq_false_iff_ne.2 h,aKu]
theorem Qy:∀(N:Nat) (x:ae),sz x<N->(∀y,sz y<=sz x->wt y<=wt x->E y=fE E S y)->E x=true->yo x=uZ x
 | 0,x,h,_,_=>by omega
 | N+1,.mk k m t ks,h,hE,he=>by
  rw [yo,uZ]
  by_cases h7:k=7
  ·subst h7
   have h1:=hE _ (As _) (As _)
   rw [he,fE] at h1
   have h2:gE E S 7 ks=true:=by
    have:=h1.symm
    simp only [At] at this
    exact this.2.2
   match ks,h2 with
   | [a,b],h2=>
    rw [if_pos ⟨rfl,by simp⟩,if_pos ⟨rfl,rfl⟩]
    have h3:(E a&&E b)=true:=h2
    have ha:a∈(ae.mk 7 m t [a,b]).af:=by simp
    have hs:=rL ha
    have hw:=ko ha
    exact Qy N a aNc (λy q q2=>hE y aNc aNc) (Bool.and_eq_true_iff.1 h3).1
   | [],h2=>cases h2
   | [a],h2=>cases h2
   | a::b::c::r,h2=>cases h2
  ·rw [if_neg (λq=>h7 q.1),if_neg (λq=>h7 q.1)]
end
set_option maxRecDepth 100000
section
variable {E S:ae->Bool}
theorem aiP (n:ae) (h:n.ai=4):hJ n=some (n.aE==0&&(good n.aq&&(n.af.length:Int)==0)):=by
 unfold hJ
 rw [if_pos h,su,sb]
 by_cases h0:n.aE=0
 ·rw [if_pos h0,h0];cases good n.aq<;>rfl
 ·rw [if_neg h0,beq_eq_false_iff_ne.2 h0];rfl
theorem adk (n:ae) (ht:n.aq.length<4294967281) (hl:n.af.length<4611686018427387904) (HG:∀x∈n.af,x.af.length<4611686018427387904)
  (HE:∀x∈n.af,cF x=some (E x)) (Sd:∀x∈n.af,∀y∈x.af,cF y=some (E y)) (HS:∀x∈n.af,c8 x=some (S x))
  (hv:∀x∈n.af,E x=fE E S x) (Ga:∀x∈n.af,E x=true->yo x=uZ x):cF n=some (fE E S n):=by
 have he:=HK n.af HE hl
 have hp:=W1 n Sd HG hl n.af.length 0 aNc
 rw [show ((0:Nat):Int)=0 from rfl,aKh] at hp
 have hr:=aiP n
 rw [cF,fE]
 generalize n.af=ks at*
 generalize n.aq=t at*
 generalize n.aE=m at*
 generalize n.ai=k at*
 by_cases hk:1<=k/\k<=23
 ·rcases (by omega:k=1\/k=2\/k=3\/k=4\/k=5\/k=6\/k=7\/k=8\/k=9\/k=10\/k=11\/k=12\/k=13\/k=14\/k=15\/k=16\/k=17\/k=18\/k=19\/k=20\/k=21\/k=22\/k=23) with h | h | h | h | h | h | h | h | h | h | h | h | h | h | h | h | h | h | h | h | h | h | h<;>subst h
  all_goals
   simp only [gE,aKK,aKO,Int.reduceEq,Int.reduceBEq,if_true,if_false,aKD,aLa,aLb,aKu,amb,sb,he,pk,ss,su,Sb t ht,nest,HJ,beq_true,<-ln1 (E:=E),<-ln2 (E:=E),<-ln3 (E:=E),<-arR (E:=E)]
  case inr.inr.inr.inl=>
   rw [hr rfl];rfl
  case inr.inr.inr.inr.inl=>
   show _=some (m==0&&(t==([]:aD)&&ks.all (prK E)))
   rw [hp,sb]
   cases ks.all (prK E)
   ·show some false=_;simp
   ·by_cases h0:m=0
    ·rw [h0];simp [ob2,sb]
    ·rw [beq_eq_false_iff_ne.2 h0];simp [ob2,h0,sb]
  case inr.inr.inr.inr.inr.inl=>simp
  case inr.inr.inr.inr.inr.inr.inr.inr.inl=>
   rw [ln1]
   by_cases h1:m=1
   ·rw [if_pos h1,h1];rfl
   ·rw [if_neg h1,sb]
    by_cases h2:m=2
    ·rw [h2];rfl
    ·rw [beq_eq_false_iff_ne.2 h2,show tn 9 m=false from decide_eq_false aNc];rfl
  case inr.inr.inr.inr.inr.inr.inr.inr.inr.inr.inr.inr.inr.inr.inl=>
   match ks,Ga with
   | [],_=>by_cases h0:m=0<;>by_cases h1:t=([]:aD)<;>simp [h0,h1]
   | [a],_=>by_cases h0:m=0<;>by_cases h1:t=([]:aD)<;>simp [h0,h1]
   | a::b::c::r,_=>rw [if_neg (show ¬(((a::b::c::r:List ae).length:Int)=2) by simp only [an];omega)];by_cases h0:m=0<;>by_cases h1:t=([]:aD)<;>simp [h0,h1]
   | [a,b],Ga=>
    show _=some (m==0&&(t==([]:aD)&&(uZ a&&(E a&&E b))))
    rw [ja,sb,if_pos (show (([a,b]:List ae).length:Int)=2 from rfl),aKf,aKf,aKL,aKv]
    by_cases h0:m=0
    ·rw [if_pos h0,h0]
     by_cases h1:t=([]:aD)
     ·rw [if_pos h1,h1]
      cases hA:E a
      ·simp
      ·rw [Ga a aNf hA];cases E b<;>cases uZ a<;>rfl
     ·rw [if_neg h1,beq_eq_false_iff_ne.2 h1];rfl
    ·rw [if_neg h0,beq_eq_false_iff_ne.2 h0];rfl
  case inr.inr.inr.inr.inr.inr.inr.inr.inr.inr.inr.inr.inr.inr.inr.inl=>
   match ks,Ga with
   | [],_=>by_cases h0:m=0<;>by_cases h1:t=([]:aD)<;>simp [h0,h1]
   | [a],_=>by_cases h0:m=0<;>by_cases h1:t=([]:aD)<;>simp [h0,h1]
   | a::b::c::r,_=>rw [if_neg (show ¬(((a::b::c::r:List ae).length:Int)=2) by simp only [an];omega)];by_cases h0:m=0<;>by_cases h1:t=([]:aD)<;>simp [h0,h1]
   | [a,b],Ga=>
    show _=some (m==0&&(t==([]:aD)&&(uZ a&&(E a&&E b))))
    rw [ja,sb,if_pos (show (([a,b]:List ae).length:Int)=2 from rfl),aKf,aKf,aKL,aKv]
    by_cases h0:m=0
    ·rw [if_pos h0,h0]
     by_cases h1:t=([]:aD)
     ·rw [if_pos h1,h1]
      cases hA:E a
      ·simp
      ·rw [Ga a aNf hA];cases E b<;>cases uZ a<;>rfl
     ·rw [if_neg h1,beq_eq_false_iff_ne.2 h1];rfl
    ·rw [if_neg h0,beq_eq_false_iff_ne.2 h0];rfl
  case inr.inr.inr.inr.inr.inr.inr.inr.inr.inr.inr.inr.inr.inr.inr.inr.inl=>
   match ks,hv with
   | [],_=>by_cases h0:m=0<;>cases h1:good t<;>simp [h0,h1,uY,nmK]
   | a::b::r,_=>rw [if_neg (show ¬(((a::b::r:List ae).length:Int)=1) by simp only [an];omega)];by_cases h0:m=0<;>cases h1:good t<;>simp [h0,h1]
   | [a],hv=>
    show _=some (m==0&&(good t&&(a.ai==4&&E a)))
    rw [ja,sb,var_eq a (hv a aNf),sb,if_pos (show (([a]:List ae).length:Int)=1 from rfl)]
    by_cases h0:m=0
    ·rw [if_pos h0,h0];cases good t<;>rfl
    ·rw [if_neg h0,beq_eq_false_iff_ne.2 h0];rfl
  case inr.inr.inr.inr.inr.inr.inr.inr.inr.inr.inr.inr.inr.inr.inr.inr.inr.inr.inr.inr.inr.inr=>
   rw [HL true ks hl HS,sb]
   show _=some (m==0&&(t==([]:aD)&&fU S true ks))
   by_cases h0:m=0
   ·rw [if_pos h0,h0]
    by_cases h1:t=([]:aD)
    ·rw [if_pos h1,h1];rfl
    ·rw [if_neg h1,beq_eq_false_iff_ne.2 h1];rfl
   ·rw [if_neg h0,beq_eq_false_iff_ne.2 h0];rfl
  case inr.inr.inr.inr.inr.inr.inr.inr.inr.inr.inr.inr.inr.inr.inr.inr.inr.inr.inr.inr.inr.inl=>
   show _=some (m==0&&((good t||t==([115,116,97,116,105,99]:aD))&&ks.all E))
   by_cases h0:m=0
   ·rw [if_pos h0,h0]
    by_cases h1:t=([115,116,97,116,105,99]:aD)
    ·rw [if_pos h1,h1];simp [sb]
    ·rw [if_neg h1,beq_eq_false_iff_ne.2 h1,aKD];rfl
   ·rw [if_neg h0,beq_eq_false_iff_ne.2 h0];rfl
  all_goals first | rfl | (rw [ln1];rfl) | (rw [ln2];rfl) | (rw [ln3];rfl) | (rw [arR];rfl)
 ·have h1:¬k=1:=by omega
  have h2:¬k=2:=by omega
  have h3:¬k=3:=by omega
  have h4:¬k=4:=by omega
  have h5:¬k=5:=by omega
  have h7:¬k=7:=by omega
  have h8:¬k=8:=by omega
  have h9:¬k=9:=by omega
  have h10:¬k=10:=by omega
  have h11:¬k=11:=by omega
  have h12:¬k=12:=by omega
  have h13:¬k=13:=by omega
  have h14:¬k=14:=by omega
  have h15:¬k=15:=by omega
  have h16:¬k=16:=by omega
  have h17:¬k=17:=by omega
  have h18:¬k=18:=by omega
  have h19:¬k=19:=by omega
  have h20:¬k=20:=by omega
  have h21:¬k=21:=by omega
  have h22:¬k=22:=by omega
  have h23:¬k=23:=by omega
  simp only [gE,aKK,aKO,if_true,if_false,aKD,aLa,aLb,aKu,aKx,amb,sb, *,beq_eq_false_iff_ne.2 h1,beq_eq_false_iff_ne.2 h2,beq_eq_false_iff_ne.2 h3,beq_eq_false_iff_ne.2 h4,beq_eq_false_iff_ne.2 h7,beq_eq_false_iff_ne.2 h8,beq_eq_false_iff_ne.2 h9,beq_eq_false_iff_ne.2 h10,beq_eq_false_iff_ne.2 h11,beq_eq_false_iff_ne.2 h12,beq_eq_false_iff_ne.2 h13,beq_eq_false_iff_ne.2 h15,beq_eq_false_iff_ne.2 h16,beq_eq_false_iff_ne.2 h18,beq_eq_false_iff_ne.2 h19,beq_eq_false_iff_ne.2 h20,beq_eq_false_iff_ne.2 h21,beq_eq_false_iff_ne.2 h22]
end
set_option maxRecDepth 100000
section
variable {E S:ae->Bool}
theorem zT {a:ae} {r:List ae}:qc (a::r) 1=some r:=by
 unfold qc
 rw [if_pos ⟨by omega,by simp only [an];omega⟩];rfl
theorem aDE {a:ae} {r:List ae}:T2 (a::r) 1=some [a]:=by
 unfold T2
 rw [if_pos ⟨by omega,by simp only [an];omega⟩];simp
theorem aDF (x:ae) {β:Type} (Y N:Option β) (hv:∀y∈x.af,E y=fE E S y) (HS:∀y∈x.af,c8 y=some (S y)) (h4:x.ai=44):
  (if x.aE=0 then bC x.aq>>=λacR=>(if acR=true then (if (x.af.length:Int)=2 then idx x.af 0>>=λUz=>hJ Uz>>=λacS=>(if acS=true then qc x.af 1>>=λRT=>fO RT>>=λCa=>(if Ca=true then Y else N) else N) else N) else N) else N)=bif cat E S x then Y else N:=by
 rw [cat,h4,su,sb]
 generalize x.aE=m
 by_cases h0:m=0
 ·rw [if_pos h0,h0]
  cases good x.aq
  ·rfl
  rw [if_pos rfl]
  match h:x.af,hv,HS with
  | [],_,_=>rfl
  | [a],_,_=>rfl
  | a::b::c::r,_,_=>rw [if_neg (show ¬(((a::b::c::r:List ae).length:Int)=2) by simp only [an];omega)];rfl
  | [a,b],hv,HS=>
   rw [if_pos (by rfl),ja,sb,var_eq a (hv a aNf),sb,zT,sb,vj [b] (λy hy=>HS y (by simp at hy ⊢;exact .inr hy)) aNf,sb,aKf,aKL,aKv]
   show _=bif ((a.ai==4)&&(E a&&bl S b)) then Y else N
   cases (a.ai==4)<;>cases E a<;>cases bl S b<;>rfl
 ·rw [if_neg h0,beq_eq_false_iff_ne.2 h0];rfl
theorem aDG (x:ae) (HS:∀y∈x.af,c8 y=some (S y)) (h4:x.ai=45):
  (if x.aE=0 then (if x.aq=([]:aD) then (if (x.af.length:Int)=1 then fO x.af>>=λRU=>some RU else some false) else some false) else some false)=some (fin S x):=by
 rw [fin,h4]
 generalize x.aE=m
 generalize x.aq=t
 by_cases h0:m=0
 ·rw [if_pos h0,h0]
  by_cases h1:t=([]:aD)
  ·rw [if_pos h1,h1]
   match h:x.af,HS with
   | [],_=>rfl
   | a::b::r,_=>rw [if_neg (show ¬(((a::b::r:List ae).length:Int)=1) by simp only [an];omega)];rfl
   | [a],HS=>
    rw [if_pos (by rfl),vj [a] HS aNf,sb,aKf,aKL,aKv];rfl
  ·rw [if_neg h1,beq_eq_false_iff_ne.2 h1];rfl
 ·rw [if_neg h0,beq_eq_false_iff_ne.2 h0];rfl
theorem aiQ (x:ae) (h:¬x.ai=44):cat E S x=false:=by rw [cat,beq_eq_false_iff_ne.2 h];rfl
theorem W3 (x:ae) (h:¬x.ai=45):fin S x=false:=by rw [fin,beq_eq_false_iff_ne.2 h];rfl
def fR (S:ae->Bool) (l:List ae):Bool:=match l with | []=>true | [c]=>fin S c | _=>false
def fT (E S:ae->Bool) (ks:List ae):Bool:=match ks with | [a,b]=>bl S a&&(cat E S b||fin S b) | [a,b,c]=>bl S a&&(cat E S b&&fin S c) | _=>false
theorem aDH (ks:List ae) (HS:∀x∈ks,c8 x=some (S x)) (tu:∀x∈ks,∀y∈x.af,E y=fE E S y) (HS2:∀x∈ks,∀y∈x.af,c8 y=some (S y)):
  wx ks=some (fT E S ks):=by
 rw [wx]
 rcases ks with _ | ⟨a,_ | ⟨b,r⟩⟩
 ·rfl
 ·rfl
 rw [if_neg (show ¬(((a::b::r:List ae).length:Int)<2) by simp only [an];omega),aDE,sb,vj [a] (λx hx=>HS x (by simp at hx ⊢;exact .inl hx)) aNf,sb,zT,sb,zT,aKf,aKL,aKv,ja,sb,sb]
 have K:∀(l:List ae) (_:l=r\/l=b::r),(if (l.length:Int)=0 then some true else idx l 0>>=λzG=>(if (l.length:Int)=1 then (if zG.ai=45 then (if zG.aE=0 then (if zG.aq=([]:aD) then (if (zG.af.length:Int)=1 then fO zG.af>>=λRU=>some RU else some false) else some false) else some false) else some false) else some false))=some (fR S l):=by
  intro l hl
  rcases l with _ | ⟨c,_ | ⟨d,q⟩⟩
  ·rfl
  ·rw [if_neg (show ¬((([c]:List ae).length:Int)=0) by simp),ja,sb,if_pos (show (([c]:List ae).length:Int)=1 from rfl)]
   by_cases h5:c.ai=45
   ·rw [if_pos h5,aDG c (HS2 c (by rcases hl with h | h<;>simp [<-h])) h5];rfl
   ·rw [if_neg h5];show _=some (fin S c);rw [W3 c h5]
  ·rw [if_neg (show ¬(((c::d::q:List ae).length:Int)=0) by simp only [an];omega),ja,sb,if_neg (show ¬(((c::d::q:List ae).length:Int)=1) by simp only [an];omega)];rfl
 by_cases h4:b.ai=44
 ·rw [if_pos h4,aDF (E:=E) (S:=S) b (some (Sum.inl r:List ae ⊕ Bool)) (some (Sum.inr false)) (tu b aNf) (HS2 b aNf) h4]
  have hf:fin S b=false:=W3 b aNc
  cases hb:bl S a
  ·rcases r with _ | ⟨c,_ | ⟨d,q⟩⟩<;>simp [fT,hb]
  ·rw [if_pos rfl]
   cases hc:cat E S b
   ·show some false=_
    rcases r with _ | ⟨c,_ | ⟨d,q⟩⟩<;>simp [fT,hb,hc,hf]
   ·show (if (r.length:Int)=0 then _ else _)=_
    rw [K r (.inl rfl)]
    rcases r with _ | ⟨c,_ | ⟨d,q⟩⟩<;>simp [fT,fR,hb,hc,hf]
 ·rw [if_neg h4,sb]
  have hf:cat E S b=false:=aiQ b h4
  cases hb:bl S a
  ·rcases r with _ | ⟨c,_ | ⟨d,q⟩⟩<;>simp [fT,hb]
  ·rw [if_pos rfl]
   show (if ((b::r).length:Int)=0 then _ else _)=_
   rw [K (b::r) (.inr rfl)]
   rcases r with _ | ⟨c,_ | ⟨d,q⟩⟩<;>simp [fT,fR,hb,hf]
end
set_option maxRecDepth 100000
section
variable {E S:ae->Bool}
theorem adl (n:ae) (ht:n.aq.length<4294967281) (hl:n.af.length<4611686018427387904)
  (HE:∀x∈n.af,cF x=some (E x)) (HS:∀x∈n.af,c8 x=some (S x)) (HS2:∀x∈n.af,∀y∈x.af,c8 y=some (S y))
  (hv:∀x∈n.af,E x=fE E S x) (tu:∀x∈n.af,∀y∈x.af,E y=fE E S y) (Ga:∀x∈n.af,E x=true->yo x=uZ x):c8 n=some (fS E S n):=by
 have he:=HK n.af HE hl
 have hp:=W0 n HS hl n.af.length 0 aNc
 rw [show ((0:Nat):Int)=0 from rfl,aKh] at hp
 have hT:=aDH n.af HS tu HS2
 rw [c8,fS]
 generalize n.af=ks at*
 generalize n.aq=t at*
 generalize n.aE=m at*
 generalize n.ai=k at*
 by_cases hk:31<=k/\k<=48
 ·have e0:tn k m=(m==0):=by
   unfold tn
   rw [if_neg aNc,if_neg aNc,if_neg aNc,if_neg aNc,if_neg aNc,if_neg aNc]
  rw [e0]
  by_cases h0:m=0
  rotate_left
  ·rw [if_neg h0,beq_eq_false_iff_ne.2 h0];rfl
  rw [if_pos h0,h0]
  show _=some (uY k t&&gS E S k ks)
  rcases (by omega:k=31\/k=32\/k=33\/k=34\/k=35\/k=36\/k=37\/k=38\/k=39\/k=40\/k=41\/k=42\/k=43\/k=44\/k=45\/k=46\/k=47\/k=48) with h | h | h | h | h | h | h | h | h | h | h | h | h | h | h | h | h | h<;>subst h
  all_goals
   simp only [gS,aKK,aKO,Int.reduceEq,Int.reduceBEq,if_true,if_false,aKD,aLa,aLb,aKu,amb,sb,he,ss,su,contains_eq t ht,nest,HJ,beq_true]
  case inl=>
   show _=some (t31 t&&(ks.length:Int)==0)
   unfold t31
   by_cases h1:t=([]:aD)
   ·rw [if_pos h1,h1];rfl
   ·rw [if_neg h1,beq_eq_false_iff_ne.2 h1]
    cases decide (0<=Lib.index t [60,63])<;>rfl
  case inr.inr.inr.inl=>
   show _=some (t==([]:aD)&&_)
   by_cases h1:t=([]:aD)
   rotate_left
   ·rw [if_neg h1,beq_eq_false_iff_ne.2 h1];rfl
   rw [if_pos h1,h1]
   rcases ks with _ | ⟨a,_ | ⟨b,_ | ⟨c,_ | ⟨d,r⟩⟩⟩⟩
   ·rfl
   ·rfl
   ·rw [ja,sb,HE a aNf,sb,zT,sb,vj [b] (λx hx=>HS x aNO) aNf,sb,aKf,aKL,aKv]
    dsimp only
    cases E a<;>cases bl S b<;>rfl
   ·rw [ja,sb,HE a aNf,sb,zT,sb,vj [b,c] (λx hx=>HS x aNO) aNf,sb,aKf,aKf,aKL,aKv]
    dsimp only
    cases E a<;>cases bl S b<;>cases bl S c<;>rfl
   ·rw [decide_eq_false aNn];rfl
  case inr.inr.inr.inr.inl=>
   show _=some (t==([]:aD)&&_)
   by_cases h1:t=([]:aD)
   rotate_left
   ·rw [if_neg h1,beq_eq_false_iff_ne.2 h1];rfl
   rw [if_pos h1,h1]
   rcases ks with _ | ⟨a,_ | ⟨b,_ | ⟨c,r⟩⟩⟩
   ·rfl
   ·rfl
   ·rw [ja,sb,HE a aNf,sb,zT,sb,vj [b] (λx hx=>HS x aNO) aNf,sb,aKf,aKL,aKv]
    dsimp only
    cases E a<;>cases bl S b<;>rfl
   ·rw [if_neg (show ¬(((a::b::c::r:List ae).length:Int)=2) by simp only [an];omega)];rfl
  case inr.inr.inr.inr.inr.inl=>
   show _=some (t==([]:aD)&&_)
   by_cases h1:t=([]:aD)
   rotate_left
   ·rw [if_neg h1,beq_eq_false_iff_ne.2 h1];rfl
   rw [if_pos h1,h1]
   rcases ks with _ | ⟨a,_ | ⟨b,_ | ⟨c,_ | ⟨d,_ | ⟨e,r⟩⟩⟩⟩⟩
   ·rfl
   ·rfl
   ·rfl
   ·rw [ja,vi,sb,sb,HE a aNf,sb,var_eq b (hv b aNf),sb,if_pos (show (([a,b,c]:List ae).length:Int)=3 from rfl),show bm ((([a,b,c]:List ae).length:Int) - 1)=2 from rfl,show qc [a,b,c] 2=some [c] from rfl,sb,vj [c] (λx hx=>HS x (by simp at hx ⊢;exact .inr (.inr hx))) aNf,sb,aKf,aKL,aKv]
    dsimp only
    cases (b.ai==4)<;>cases E a<;>cases E b<;>cases bl S c<;>rfl
   ·rw [ja,vi,F8,sb,sb,sb,HE a aNf,sb,var_eq b (hv b aNf),sb,if_neg (show ¬(([a,b,c,d]:List ae).length:Int)=3 by simp),var_eq c (hv c aNf),sb,show bm ((([a,b,c,d]:List ae).length:Int) - 1)=3 from rfl,show qc [a,b,c,d] 3=some [d] from rfl,sb,vj [d] (λx hx=>HS x (by simp at hx ⊢;exact .inr (.inr (.inr hx)))) aNf,sb,aKf,aKL,aKv]
    dsimp only
    cases (b.ai==4)<;>cases (c.ai==4)<;>cases E a<;>cases E b<;>cases E c<;>cases bl S d<;>rfl
   ·rw [decide_eq_false aNn];rfl
  case inr.inr.inr.inr.inr.inr.inr.inr.inl=>rw [arS];rfl
  case inr.inr.inr.inr.inr.inr.inr.inr.inr.inr.inl=>
   show _=some (t==([]:aD)&&_)
   by_cases h1:t=([]:aD)
   rotate_left
   ·rw [if_neg h1,beq_eq_false_iff_ne.2 h1];rfl
   rw [if_pos h1,h1]
   rcases ks with _ | ⟨a,_ | ⟨b,r⟩⟩
   ·rfl
   ·rw [if_pos (show (([a]:List ae).length:Int)=1 from rfl),ja,sb,tz,pk,sb,HE a aNf,sb]
    show _=some (uZ a&&E a)
    cases hA:E a
    ·cases yo a<;>simp [sb]
    ·rw [Ga a aNf hA];cases uZ a<;>rfl
   ·rw [if_neg (show ¬(((a::b::r:List ae).length:Int)=1) by simp only [an];omega)];rfl
  case inr.inr.inr.inr.inr.inr.inr.inr.inr.inr.inr.inr.inl=>
   rw [hT,sb]
   by_cases h1:t=([]:aD)
   ·rw [if_pos h1,h1];rfl
   ·rw [if_neg h1,show uY 43 t=false from beq_eq_false_iff_ne.2 h1];rfl
  case inr.inr.inr.inr.inr.inr.inr.inr.inr.inr.inr.inr.inr.inr.inr.inl=>
   show _=some (t==([]:aD)&&_)
   by_cases h1:t=([]:aD)
   rotate_left
   ·rw [if_neg h1,beq_eq_false_iff_ne.2 h1];rfl
   rw [if_pos h1,h1]
   rcases ks with _ | ⟨a,_ | ⟨b,_ | ⟨c,r⟩⟩⟩
   ·rfl
   ·rw [show bm ((([a]:List ae).length:Int) - 1)=0 from rfl,ja,sb,sb,HE a aNf];rfl
   ·rw [show bm ((([a,b]:List ae).length:Int) - 1)=1 from rfl,ja,vi,sb,sb,HE b aNf,var_eq a (hv a aNf),sb,sb]
    dsimp only
    cases (a.ai==4)<;>cases E a<;>cases E b<;>rfl
   ·rw [if_neg (show ¬(((a::b::c::r:List ae).length:Int)=1) by simp only [an];omega),if_neg (show ¬(((a::b::c::r:List ae).length:Int)=2) by simp only [an];omega)];rfl
  case inr.inr.inr.inr.inr.inr.inr.inr.inr.inr.inr.inr.inr.inr.inr.inr.inr=>
   rw [hp,sb]
   show _=some (t==([]:aD)&&_)
   cases ks.all S
   ·cases (t==([]:aD))<;>rfl
   ·cases (t==([]:aD))<;>rfl
  all_goals first
   | rfl
   | (
    show _=some (t==([]:aD)&&_)
    by_cases h1:t=([]:aD)
    ·rw [if_pos h1,h1]
     rcases ks with _ | ⟨a,_ | ⟨b,r⟩⟩
     ·rfl
     ·rw [if_pos (show (([a]:List ae).length:Int)=1 from rfl),ja,sb,HE a aNf];rfl
     ·rw [if_neg (show ¬(((a::b::r:List ae).length:Int)=1) by simp only [an];omega)];rfl
    ·rw [if_neg h1,beq_eq_false_iff_ne.2 h1];rfl)
   | (simp;done)
 ·have h31:¬k=31:=by omega
  have h32:¬k=32:=by omega
  have h33:¬k=33:=by omega
  have h34:¬k=34:=by omega
  have h35:¬k=35:=by omega
  have h36:¬k=36:=by omega
  have h37:¬k=37:=by omega
  have h38:¬k=38:=by omega
  have h39:¬k=39:=by omega
  have BX:¬k=40:=by omega
  have h41:¬k=41:=by omega
  have h42:¬k=42:=by omega
  have h43:¬k=43:=by omega
  have h46:¬k=46:=by omega
  have h47:¬k=47:=by omega
  have h48:¬k=48:=by omega
  simp only [gS,aKK,aKO,if_true,if_false,aKD,aLa,aLb,aKu,aKx,amb,sb,beq_eq_false_iff_ne.2 h31,beq_eq_false_iff_ne.2 h32,beq_eq_false_iff_ne.2 h33,beq_eq_false_iff_ne.2 h37,beq_eq_false_iff_ne.2 h38,beq_eq_false_iff_ne.2 BX,beq_eq_false_iff_ne.2 h42,beq_eq_false_iff_ne.2 h47,h31,h32,h33,h34,h35,h36,h37,h38,h39,BX,h41,h42,h43,h46,h47,h48,ite_self]
end
set_option maxRecDepth 100000
theorem vtg {x:ae} (h:wt x<=134217728) (he:vE x=true):yo x=uZ x:=Qy (S:=vS) _ x (aKe _) (λy _ hw=>J2 aNc) he
theorem Qz:∀(N:Nat) (n:ae),sz n<N->wt n<=134217728->cF n=some (vE n)/\c8 n=some (vS n)
 | 0,n,h,_=>by omega
 | N+1,n,h,hw=>by
  have hk:∀x∈n.af,_:=λx hx=>Qz N x (by have:=rL hx;omega) (by have:=ko hx;omega)
  have yP:∀x∈n.af,∀y∈x.af,_:=λx hx y hy=>Qz N y (by have:=rL hx;have:=rL hy;omega) (by have:=ko hx;have:=ko hy;omega)
  have bd:∀x:ae,wt x<=134217728->x.aq.length<4294967281/\x.af.length<4611686018427387904:=λx hx=>by have:=w6 x;omega
  have w1:∀x∈n.af,wt x<=134217728:=λx hx=>by have:=ko hx;omega
  have w2:∀x∈n.af,∀y∈x.af,wt y<=134217728:=λx hx y hy=>by have:=ko hx;have:=ko hy;omega
  rw [J2 hw,WY hw]
  exact ⟨adk n (bd n hw).1 (bd n hw).2 (λx hx=>(bd x (w1 x hx)).2) (λx hx=>(hk x hx).1) (λx hx y hy=>(yP x hx y hy).1) (λx hx=>(hk x hx).2) (λx hx=>J2 (w1 x hx)) (λx hx=>vtg (w1 x hx)),
   adl n (bd n hw).1 (bd n hw).2 (λx hx=>(hk x hx).1) (λx hx=>(hk x hx).2) (λx hx y hy=>(yP x hx y hy).2) (λx hx=>J2 (w1 x hx)) (λx hx y hy=>J2 (w2 x hx y hy)) (λx hx=>vtg (w1 x hx))⟩
theorem iE {n:ae} (h:wt n<=134217728):cF n=some (vE n):=(Qz _ n (aKe _) h).1
theorem iS {n:ae} (h:wt n<=134217728):c8 n=some (vS n):=(Qz _ n (aKe _) h).2
theorem bdk {n:ae} (h:wt n<=134217728):n.aq.length<=134217728/\n.af.length<=134217728:=by have:=w6 n;omega
theorem wk {n:ae} (h:wt n<=134217728):∀x∈n.af,wt x<=134217728:=λx hx=>by have:=ko hx;omega
theorem W4 {n:ae} (h:wt n<=134217728):sz n<4611686018427387904:=by have:=agr n;omega
def m54 (ks:List ae):Bool:=match ks with | [y]=>decide (1<=y.ai/\y.ai<=3)&&vE y | _=>false
def EU (c:Bool):Bool->Bool->List ae->Bool
 | _,_,[]=>true
 | f,p,x::r=>bif x.ai==52 then (f&&(c&&(x.aE==0&&(good x.aq&&(x.af.length:Int)==0))))&&EU c false false r
  else bif x.ai==53 then (!p&&(x.aE==0&&(good x.aq&&(x.af.length:Int)==0)))&&EU c false false r
  else bif x.ai==54 then (decide (0<=x.aE/\x.aE<=1)&&(good x.aq&&m54 x.af))&&EU c false true r
  else (x.ai==55&&(decide (0<=x.aE/\x.aE<=3)&&(good x.aq&&fU vS false x.af)))&&EU c false true r
theorem s54 (ks:List ae) (hw:∀x∈ks,wt x<=134217728) (v11 v12:Bool) (y5:Nat) (Z:Option (Unit ⊕ Bool)) (K:Int×Bool->Option (Unit ⊕ Bool)):
  ((if (ks.length:Int)=1 then idx ks 0>>=λyC=>yn yC.ai 1 3>>=λzy=>(if zy=true then idx ks 0>>=λEN=>bD EN>>=λzN=>some (2,zN) else some (2,false)) else some (2,false))>>=K)=K (2,m54 ks):=by
 rcases ks with _ | ⟨a,_ | ⟨b,r⟩⟩
 ·rfl
 ·rw [if_pos (show (([a]:List ae).length:Int)=1 from rfl),ja,sb,rf,sb,sb,spE (hw a aNf),m54]
  cases decide (1<=a.ai/\a.ai<=3)<;>rfl
 ·rw [if_neg (show ¬(((a::b::r:List ae).length:Int)=1) by simp only [an];omega)];rfl
theorem i54 (ks:List ae) (hw:∀x∈ks,wt x<=134217728) {β:Type} (Y N:Option β):
  (if (ks.length:Int)=1 then idx ks 0>>=λx54=>Mz x54.ai 1 3>>=λyD=>(if yD=true then idx ks 0>>=λx59=>cF x59>>=λCd=>(if Cd=true then Y else N) else N) else N)=bif m54 ks then Y else N:=by
 rcases ks with _ | ⟨a,_ | ⟨b,r⟩⟩
 ·rfl
 ·rw [if_pos (show (([a]:List ae).length:Int)=1 from rfl),ja,sb,ss,sb,sb,iE (hw a aNf),m54]
  cases decide (1<=a.ai/\a.ai<=3)<;>cases vE a<;>rfl
 ·rw [if_neg (show ¬(((a::b::r:List ae).length:Int)=1) by simp only [an];omega)];rfl
theorem aiR (n:ae) (hw:wt n<=134217728):∀(f i:Nat) (y:Int),n.af.length<=i+f->(y=0↔i=0)->0<=y->gO n y (i:Int)=some (ob2 (EU (!(n.ai==51)) (decide (i=0)) (decide (1<y)) (n.af.drop i)))
 | f,i,y,hf,hy,hy0=>by
  have hl:=(bdk hw).2
  rw [gO]
  by_cases hc:i<n.af.length
  ·obtain ⟨g,rfl⟩:∃g,f=g+1:=⟨f - 1,by omega⟩
   have hx:=wk hw _ (aKr hc)
   have I1:=aiR n hw g (i+1) 1 aNc aNc aNc
   have I2:=aiR n hw g (i+1) 2 aNc aNc aNc
   rw [if_pos aNc,eu hc,sb,su,sb,bN aNc,I1,I2,aKg hc,EU]
   generalize n.af[i]=x at hx
   rw [i54 _ (wk hx),ss,sb,HL (S:=vS) false x.af (by have:=(bdk hx).2;omega) (λz hz=>iS (wk hx z hz)),sb]
   rw [show decide (i+1=0)=false from decide_eq_false aNc,show decide ((1:Int)<1)=false from rfl,show decide ((1:Int)<2)=true from rfl]
   have e0:∀(b:Bool),(if (x.af.length:Int)>0 then (some (.inr (.inr false)):Option (Unit ⊕ (Unit ⊕ Bool))) else some (ob2 b))=some (ob2 ((x.af.length:Int)==0&&b)):=by
    intro b
    by_cases h:(x.af.length:Int)>0
    ·rw [if_pos h,beq_eq_false_iff_ne.2 aNc];rfl
    ·rw [if_neg h,show (x.af.length:Int)=0 by omega];rfl
   rw [e0]
   generalize EU (!(n.ai==51)) false false (n.af.drop (i+1))=R1
   generalize EU (!(n.ai==51)) false true (n.af.drop (i+1))=R2
   generalize fU vS false x.af=U
   generalize m54 x.af=M
   generalize ((x.af.length:Int)==0)=L
   generalize x.aE=m
   generalize x.ai=k
   cases good x.aq
   ·simp;rfl
   rw [if_pos rfl]
   by_cases h1:k=52
   ·rw [if_pos h1,h1]
    by_cases h2:n.ai=51
    ·rw [if_pos h2,h2];simp;rfl
    ·rw [if_neg h2,beq_eq_false_iff_ne.2 h2]
     by_cases h3:y>0
     ·rw [if_pos h3,decide_eq_false (show ¬i=0 by omega)];rfl
     ·rw [if_neg h3,decide_eq_true (show i=0 by omega)]
      by_cases h4:m=0
      ·rw [if_pos h4,h4];rfl
      ·rw [if_neg h4,beq_eq_false_iff_ne.2 h4];rfl
   ·rw [if_neg h1,beq_eq_false_iff_ne.2 h1]
    by_cases h5:k=53
    ·rw [if_pos h5,h5]
     by_cases h3:y>1
     ·rw [if_pos h3,decide_eq_true (show 1<y by omega)];rfl
     ·rw [if_neg h3,decide_eq_false (show ¬1<y by omega)]
      by_cases h4:m=0
      ·rw [if_pos h4,h4];rfl
      ·rw [if_neg h4,beq_eq_false_iff_ne.2 h4];rfl
    ·rw [if_neg h5,beq_eq_false_iff_ne.2 h5]
     by_cases h6:k=54
     ·rw [if_pos h6,h6]
      by_cases h4:m=0
      ·rw [if_pos h4,h4];cases M<;>rfl
      ·rw [if_neg h4]
       by_cases h7:m=1
       ·rw [if_pos h7,h7];cases M<;>rfl
       ·rw [if_neg h7,decide_eq_false (show ¬(0<=m/\m<=1) by omega)];rfl
     ·rw [if_neg h6,beq_eq_false_iff_ne.2 h6]
      by_cases h7:k=55
      ·rw [if_pos h7,h7]
       cases decide (0<=m/\m<=3)<;>cases U<;>rfl
      ·rw [if_neg h7,beq_eq_false_iff_ne.2 h7];rfl
  ·rw [if_neg aNc,aKa aNc]
   cases decide (i=0)<;>cases decide (1<y)<;>rfl
set_option maxRecDepth 100000
theorem adm (n:ae) (hw:wt n<=134217728):∀(f i:Nat) (y:Int),n.af.length<=i+f->(i=0->y=0)->0<=y->y<=2->ke n y (i:Int)=some (FZ (EU (n.ai==50) (decide (i=0)) (decide (1<y)) (n.af.drop i)))
 | f,i,y,hf,hy,hy0,hy2=>by
  have hl:=(bdk hw).2
  rw [ke]
  by_cases hc:i<n.af.length
  ·obtain ⟨g,rfl⟩:∃g,f=g+1:=⟨f - 1,by omega⟩
   have hx:=wk hw _ (aKr hc)
   have I0:=adm n hw g (i+1) 0 aNc aNc aNc aNc
   have I1:=adm n hw g (i+1) 1 aNc aNc aNc aNc
   have I2:=adm n hw g (i+1) 2 aNc aNc aNc aNc
   rw [show decide (i+1=0)=false from decide_eq_false aNc] at I0 I1 I2
   rw [show decide ((1:Int)<0)=false from rfl] at I0
   rw [show decide ((1:Int)<1)=false from rfl] at I1
   rw [show decide ((1:Int)<2)=true from rfl] at I2
   rw [if_pos aNc,eu hc,sb,zS _ (by have:=(bdk hx).1;omega),sb,bN aNc,aKg hc,EU]
   generalize n.af[i]=x at hx
   have h54:∀K:Int×Bool->Option (Unit ⊕ Bool),((if (x.af.length:Int)=1 then idx x.af 0>>=λyC=>yn yC.ai 1 3>>=λzy=>(if zy=true then idx x.af 0>>=λEN=>bD EN>>=λzN=>some (2,zN) else some (2,false)) else some (2,false))>>=K)=K (2,m54 x.af):=s54 x.af (wk hx) true true 0 none
   rw [HH (S:=vS) false x.af (by have:=(bdk hx).2;omega) (λz hz=>sB (wk hx z hz)),sb]
   generalize EU (n.ai==50) false false (n.af.drop (i+1))=R1 at*
   generalize EU (n.ai==50) false true (n.af.drop (i+1))=R2 at*
   by_cases h1:x.ai=52
   ·rw [if_pos h1,h1]
    show _=some (FZ ((decide (i=0)&&(n.ai==50&&(x.aE==0&&(good x.aq&&(x.af.length:Int)==0))))&&R1))
    rw [show tn 52 x.aE=(x.aE==0) from rfl,show uY 52 x.aq=good x.aq from rfl]
    by_cases h2:i=0
    ·rw [if_pos aNc,decide_eq_true h2]
     have hy':=hy h2
     subst hy'
     by_cases h3:n.ai=50
     ·rw [if_pos h3,h3]
      show (if (x.aE==0)=true then _ else _)=_
      cases (x.aE==0)<;>cases good x.aq<;>cases ((x.af.length:Int)==0)<;>first | rfl | (rw [if_pos rfl,if_pos rfl,if_pos rfl,if_neg aNd,I0];rfl)
     ·rw [if_neg h3,beq_eq_false_iff_ne.2 h3]
      show (if (x.aE==0)=true then _ else _)=_
      cases (x.aE==0)<;>cases good x.aq<;>rfl
    ·rw [if_neg aNc,decide_eq_false h2]
     show (if (x.aE==0)=true then _ else _)=_
     cases (x.aE==0)<;>cases good x.aq<;>rfl
   rw [if_neg h1,beq_eq_false_iff_ne.2 h1]
   by_cases h5:x.ai=53
   ·rw [if_pos h5,h5]
    show (if (x.aE==0)=true then _ else _)=some (FZ ((!decide (1<y)&&(x.aE==0&&(good x.aq&&(x.af.length:Int)==0)))&&R1))
    rw [show uY 53 x.aq=good x.aq from rfl]
    try dsimp only
    rw [I1]
    by_cases h3:1<y
    ·rw [if_pos h3,decide_eq_true h3]
     cases (x.aE==0)<;>cases good x.aq<;>cases ((x.af.length:Int)==0)<;>rfl
    ·rw [if_neg h3,decide_eq_false h3]
     cases (x.aE==0)<;>cases good x.aq<;>cases ((x.af.length:Int)==0)<;>rfl
   rw [if_neg h5,beq_eq_false_iff_ne.2 h5]
   by_cases h6:x.ai=54
   ·rw [if_pos h6,h6]
    show ((if (x.af.length:Int)=1 then _ else _)>>=_)=_
    rw [h54]
    show (if tn 54 x.aE=true then _ else _)=some (FZ ((tn 54 x.aE&&(good x.aq&&m54 x.af))&&R2))
    rw [show uY 54 x.aq=good x.aq from rfl]
    try dsimp only
    rw [I2,if_neg (show ¬(2:Int)<y by omega)]
    cases tn 54 x.aE<;>cases good x.aq<;>cases m54 x.af<;>rfl
   rw [if_neg h6,beq_eq_false_iff_ne.2 h6]
   by_cases h7:x.ai=55
   ·rw [if_pos h7,h7]
    show (if tn 55 x.aE=true then _ else _)=some (FZ ((tn 55 x.aE&&(good x.aq&&fU vS false x.af))&&R2))
    rw [show uY 55 x.aq=good x.aq from rfl]
    try dsimp only
    rw [I2,if_neg (show ¬(2:Int)<y by omega)]
    cases tn 55 x.aE<;>cases good x.aq<;>cases fU vS false x.af<;>rfl
   ·rw [if_neg h7,beq_eq_false_iff_ne.2 h7]
    show (if tn x.ai x.aE=true then _ else _)=_
    cases tn x.ai x.aE<;>cases uY x.ai x.aq<;>rfl
  ·rw [if_neg aNc,aKa aNc]
   cases decide (i=0)<;>cases decide (1<y)<;>rfl
def vT (n:ae):Bool:=n.aE==0&&(good n.aq&&(bif n.ai==49 then fU vS false n.af else (n.ai==50||n.ai==51)&&EU (n.ai==50) true false n.af))
theorem aDI (n:ae) (hw:wt n<=134217728):sh n=some (vT n):=by
 unfold sh vT
 have h0:=aiR n hw n.af.length 0 0 aNc aNc aNc
 rw [show ((0:Nat):Int)=0 from rfl,aKh,show decide ((0:Nat)=0)=true from rfl,show decide ((1:Int)<0)=false from rfl] at h0
 rw [su,sb,h0,HL (S:=vS) false n.af (by have:=(bdk hw).2;omega) (λz hz=>iS (wk hw z hz)),sb,sb]
 by_cases h1:n.aE=0
 ·rw [if_pos h1,h1]
  cases good n.aq
  ·rfl
  rw [if_pos rfl]
  by_cases h9:n.ai=49
  ·rw [if_pos h9,h9,sb];rfl
  ·rw [if_neg h9,beq_eq_false_iff_ne.2 h9]
   by_cases h5:n.ai=50
   ·rw [if_pos h5,h5,show (!((50:Int)==51))=true from rfl,show ((50:Int)==50)=true from rfl]
    cases EU true true false n.af<;>rfl
   ·rw [if_neg h5,beq_eq_false_iff_ne.2 h5]
    by_cases h6:n.ai=51
    ·rw [h6,show (!((51:Int)==51))=false from rfl]
     cases EU false true false n.af<;>rfl
    ·rw [beq_eq_false_iff_ne.2 h6];rfl
 ·rw [if_neg h1,beq_eq_false_iff_ne.2 h1];rfl
set_option maxRecDepth 100000
def vP (x:ae):Bool:=vT x||vS x
theorem W5 {x:ae} (hw:wt x<=134217728) (h:49<=x.ai):vS x=false:=by
 rw [WY hw,fS]
 have h31:¬x.ai=31:=by omega
 have h32:¬x.ai=32:=by omega
 have h33:¬x.ai=33:=by omega
 have h34:¬x.ai=34:=by omega
 have h35:¬x.ai=35:=by omega
 have h36:¬x.ai=36:=by omega
 have h37:¬x.ai=37:=by omega
 have h38:¬x.ai=38:=by omega
 have h39:¬x.ai=39:=by omega
 have BX:¬x.ai=40:=by omega
 have h41:¬x.ai=41:=by omega
 have h42:¬x.ai=42:=by omega
 have h43:¬x.ai=43:=by omega
 have h46:¬x.ai=46:=by omega
 have h47:¬x.ai=47:=by omega
 have h48:¬x.ai=48:=by omega
 simp only [gS,aKK,aKO,if_false,aKD,aKx,amb,beq_eq_false_iff_ne.2 h31,beq_eq_false_iff_ne.2 h32,beq_eq_false_iff_ne.2 h33,beq_eq_false_iff_ne.2 h37,beq_eq_false_iff_ne.2 h38,beq_eq_false_iff_ne.2 BX,beq_eq_false_iff_ne.2 h42,beq_eq_false_iff_ne.2 h47,h34,h35,h36,h39,h41,h43,h46,h48]
theorem arT (n:ae) (hw:wt n<=134217728):∀(f i:Nat),n.af.length<=i+f->iP n (i:Int)=some (FZ ((n.af.drop i).all vP))
 | f,i,hf=>by
  rw [iP]
  by_cases hc:i<n.af.length
  ·obtain ⟨g,rfl⟩:∃g,f=g+1:=⟨f - 1,by omega⟩
   have hl:=(bdk hw).2
   have hx:=wk hw _ (aKr hc)
   rw [if_pos aNc,eu hc,sb,aDI _ hx,sb,iS hx,sb,bN aNc,arT n hw g (i+1) aNc,aKg hc,aKf,vP]
   cases vT n.af[i]<;>cases vS n.af[i]<;>rfl
  ·rw [if_neg aNc,aKa aNc];rfl
theorem scl (n:ae) (hw:wt n<=134217728):lx n=some (EU (n.ai==50) true false n.af):=by
 have h0:=adm n hw n.af.length 0 0 aNc aNc aNc aNc
 rw [show ((0:Nat):Int)=0 from rfl,aKh,show decide ((0:Nat)=0)=true from rfl,show decide ((1:Int)<0)=false from rfl] at h0
 unfold lx
 rw [h0,sb]
 cases EU (n.ai==50) true false n.af<;>rfl
theorem arU (n:ae) (hw:wt n<=134217728):∀(f i:Nat),n.af.length<=i+f->fG n (i:Int)=some (FZ ((n.af.drop i).all vP))
 | f,i,hf=>by
  rw [fG]
  by_cases hc:i<n.af.length
  ·obtain ⟨g,rfl⟩:∃g,f=g+1:=⟨f - 1,by omega⟩
   have hl:=(bdk hw).2
   have hx:=wk hw _ (aKr hc)
   rw [if_pos aNc,eu hc,sb,zS _ (by have:=(bdk hx).1;omega),sb,bN aNc,aKg hc,aKf,vP]
   generalize n.af[i]=x at hx
   rw [spS hx]
   show (if x.ai=49 then _ else _)=_
   rw [scl x hx,HH (S:=vS) false x.af (by have:=(bdk hx).2;omega) (λz hz=>sB (wk hx z hz)),sb,sb,arU n hw g (i+1) aNc]
   generalize (n.af.drop (i+1)).all vP=R
   by_cases h1:x.ai=49
   ·rw [if_pos h1,h1,W5 hx aNc,vT,h1,show tn 49 x.aE=(x.aE==0) from rfl,show uY 49 x.aq=good x.aq from rfl,show ((49:Int)==49)=true from rfl]
    show _=some (FZ (((x.aE==0&&(good x.aq&&fU vS false x.af))||false)&&R))
    cases (x.aE==0)<;>cases good x.aq<;>cases fU vS false x.af<;>rfl
   ·rw [if_neg h1]
    by_cases h2:x.ai=50
    ·rw [if_pos h2,h2,W5 hx aNc,vT,h2,show tn 50 x.aE=(x.aE==0) from rfl,show uY 50 x.aq=good x.aq from rfl]
     show _=some (FZ (((x.aE==0&&(good x.aq&&EU true true false x.af))||false)&&R))
     rw [show ((50:Int)==50)=true from rfl]
     cases (x.aE==0)<;>cases good x.aq<;>cases EU true true false x.af<;>rfl
    ·rw [if_neg h2]
     by_cases h3:x.ai=51
     ·rw [if_pos h3,h3,W5 hx aNc,vT,h3,show tn 51 x.aE=(x.aE==0) from rfl,show uY 51 x.aq=good x.aq from rfl]
      show _=some (FZ (((x.aE==0&&(good x.aq&&EU false true false x.af))||false)&&R))
      rw [show ((51:Int)==50)=false from rfl]
      cases (x.aE==0)<;>cases good x.aq<;>cases EU false true false x.af<;>rfl
     ·rw [if_neg h3,vT,beq_eq_false_iff_ne.2 h1,beq_eq_false_iff_ne.2 h2,beq_eq_false_iff_ne.2 h3]
      cases (x.aE==0)<;>cases good x.aq<;>cases vS x<;>rfl
  ·rw [if_neg aNc,aKa aNc];rfl
def vZ (n:ae):Bool:=n.ai==56&&(n.aE==0&&(n.aq==([]:aD)&&(decide (sz n<=600/\dp n<=30)&&n.af.all vP)))
theorem J3 (n:ae) (hw:wt n<=134217728):mQ n=some (vZ n)/\mR n=some (vZ n):=by
 obtain ⟨h1,h2⟩:=WT n (W4 hw)
 have e1:=arT n hw n.af.length 0 aNc
 have e2:=arU n hw n.af.length 0 aNc
 rw [show ((0:Nat):Int)=0 from rfl,aKh] at e1 e2
 unfold mQ mR vZ
 rw [h1,h2,sb,sb,e1,e2,sb]
 generalize n.af.all vP=R
 generalize decide (sz n<=600/\dp n<=30)=D
 generalize n.ai=k
 generalize n.aE=m
 generalize n.aq=t
 by_cases h3:k=56
 ·by_cases h4:m=0
  ·by_cases h5:t=([]:aD)
   ·rw [if_pos h3,if_pos h3,if_pos h4,if_pos h4,if_pos h5,if_pos h5,h3,h4,h5]
    cases D<;>cases R<;>exact ⟨rfl,rfl⟩
   ·rw [if_pos h3,if_pos h3,if_pos h4,if_pos h4,if_neg h5,if_neg h5,h3,h4,beq_eq_false_iff_ne.2 h5]
    cases D<;>exact ⟨rfl,rfl⟩
  ·rw [if_pos h3,if_pos h3,if_neg h4,if_neg h4,h3,beq_eq_false_iff_ne.2 h4]
   cases D<;>exact ⟨rfl,rfl⟩
 ·rw [if_neg h3,if_neg h3,beq_eq_false_iff_ne.2 h3]
  cases D<;>exact ⟨rfl,rfl⟩
end Go.Am
namespace Go.Am
open Go Go.RowKit
section
variable {P:Program} {f:FuncId} {h:List al} {K:PV->List al->Prop}
end
theorem ACall.aiS {P:Program} {f:FuncId} {args a1:List PV} {h:List al} {R:PV->List al->Prop} {i lN:Nat} {e2:TypeId} {f2:Nat->List PV} (hi:args[i]? =some .ck) (hs:a1=args.set i (.own h.length 0 0 0))
  (hA:ACall P f a1 (h++[al.row 0 lN 0 e2 f2]) R):ACall P f args h R:=by
 subst hs
 refine ⟨hA.1,λw vs μ S hH hM jO ha=>?_⟩
 obtain ⟨fr1,c1⟩:=oK (w1:=w) ⟨hH,hM⟩ lN 0 e2 f2 none rfl (c7.refl w) (λi hi=>absurd hi (aKR _)) (λi j pv hi=>absurd hi (aKR _))
 have hN:(h++[al.row 0 lN 0 e2 f2])[h.length]? =some (.row 0 lN 0 e2 f2):=by simp
 refine (hA.2 w vs _ S c1.heap c1.ok (by simpa using jO) (λj pv hj=>?_)).mono ?_
 ·rw [aLP] at hj
  by_cases hij:i=j
  ·subst hij
   have bc:i<args.length:=(An.1 hi).1
   rw [if_pos rfl,if_pos bc] at hj
   cases hj
   obtain ⟨v,r1,r2⟩:=ha i .ck hi
   have r2:ba S w .ck v:=r2
   cases r2
   refine ⟨_,r1,?_⟩
   show bG _ _ w h.length 0 0 0 _
   unfold bG
   rw [hN,bH]
   exact ⟨⟨_,_,_,rfl⟩,As _,λ_=>⟨As _,rfl⟩⟩
  ·rw [if_neg hij] at hj
   obtain ⟨v,h1,h2⟩:=ha j pv hj
   exact ⟨v,h1,h2.fr fr1 hM⟩
 ·rintro x w' ⟨v,res,h',μ',S',rfl,hr,hv,hH',hM',hF⟩
  exact ⟨v,res,h',μ',S',rfl,hr,hv,hH',hM',fr1.trans hF⟩
theorem pcN {P:Program} {f:FuncId} {args a1:List PV} {h h2:List al} {K:PV->List al->Prop} (i:Nat) {lN:Nat} {e2:TypeId} {f2:Nat->List PV} (k:pF P f a1 h2 K) (hi:args[i]? =some .ck:=by rfl)
  (hs:a1=args.set i (.own h.length 0 0 0):=by rfl) (h3:h2=h++[al.row 0 lN 0 e2 f2]:=by rfl):pF P f args h K:=by
 subst h3
 obtain ⟨R,hA,hk⟩:=k
 exact ⟨R,ACall.aiS hi hs hA,hk⟩
theorem arV {P:Program} {f:FuncId} {args:List PV} {h:List al} {K:PV->List al->Prop} (id i j sub:Nat) (h1:(Nat->Prop)->List al) (ha:∀F,Bm h id i j sub F (h1 F)) (k:∀F,pF P f args (h1 F) K):pF P f args h K:=by
 have hA:∀F,ACall P f args (h1 F) K:=λF=>by
  obtain ⟨R,hA,hk⟩:=k F
  exact hA.mono hk
 refine ⟨K,⟨(hA (λ_=>False)).1,λw vs μ S hH hM jO ha'=>?_⟩,λ_ _ h=>h⟩
 obtain ⟨fr1,c1⟩:=HM (w:=w) ⟨hH,hM⟩ (ha (FAb μ h sub))
 refine ((hA (FAb μ h sub)).2 w vs μ S c1.heap c1.ok jO (λj pv hj=>?_)).mono ?_
 ·obtain ⟨v,r1,r2⟩:=ha' j pv hj
  exact ⟨v,r1,r2.fr fr1 hM⟩
 ·rintro x w' ⟨v,res,h',μ',S',rfl,hr,hv,hH',hM',hF⟩
  exact ⟨v,res,h',μ',S',rfl,hr,hv,hH',hM',fr1.trans hF⟩
theorem p9 {P:Program} {f:FuncId} {args:List PV} {h:List al} {K:PV->List al->Prop} {r:PV} (hA:ACall P f args h (λres h'=>res=r/\h'=h)) (k:K r h):pF P f args h K:=
 ⟨_,hA,by rintro _ _ ⟨rfl,rfl⟩;exact k⟩
end Go.Am
namespace Go.Am
open Go Go.RowKit Go.Proofs
theorem Nx (k:Int) (s:aD) (a:Option Addr) (l c:Nat) (w:World):
  Calls Tryz.prog 106 #[.int .i64 k,.string ⟨⟨s⟩⟩,.slice a l c] w λe w'=>e=.returned (.agg #[.int .i64 k,.int .i64 0,.string ⟨⟨s⟩⟩,.slice a l c])/\Below w.heap.size w w':=by
 go_enter Tryz.func106,Tryz.ntmps106
 go_wp2
 exact bodyPost_ret (v:=.agg #[.int .i64 k,.int .i64 0,.string ⟨⟨s⟩⟩,.slice a l c]) (by simp [results,Tryz.results106,go_sem]) rfl ⟨rfl,(Below.refl _ _).alloc (As _) _⟩
def aiT:PV->Bool
 | .ck=>true
 | .own _ _ _ _=>true
 | _=>false
theorem bA (k:Int) (t:aD) (v:PV) (h:List al) (hv:aiT v=true):ACall Tryz.prog 106 [.int .i64 k,.str t,v] h (λres h'=>res=.agg [.int .i64 k,.int .i64 0,.str t,v]/\h'=h):=by
 refine ⟨⟨_,_,Tryz.func106,rfl,by kernel_rfl⟩,λw vs μ S hH hM jO ha=>?_⟩
 obtain ⟨v0,q0,r0⟩:=ha 0 _ rfl
 obtain ⟨v1,q1,r1⟩:=ha 1 _ rfl
 obtain ⟨v2,q2,r2⟩:=ha 2 _ rfl
 have r0:ba S w (.int .i64 k) v0:=r0
 have r1:ba S w (.str t) v1:=r1
 cases r0
 cases r1
 have hs:∃a l c,v2=.slice a l c:=by
  cases v with
  | ck=>
   have r2:ba S w .ck v2:=r2
   cases r2
   exact ⟨_,_,_,rfl⟩
  | own id g o n=>
   have r2:bG μ h w id g o n v2:=r2
   exact r2.1
  | _=>cases hv
 obtain ⟨a,l,c,rfl⟩:=hs
 have e:vs=#[.int .i64 k,.string ⟨⟨t⟩⟩,.slice a l c]:=by
  obtain ⟨vl⟩:=vs
  rcases vl with _ | ⟨x,_ | ⟨y,_ | ⟨z,_ | ⟨u,vl⟩⟩⟩⟩<;>simp at jO
  simp at q0 q1 q2
  subst q0;subst q1;subst q2;rfl
 subst e
 refine (Nx k t a l c w).mono ?_
 rintro e w' ⟨rfl,hb⟩
 have ag:c7 w w':=⟨hb.block,hb.size,hb.os,hb.tape,hb.output⟩
 refine ⟨_,_,h,μ,S,rfl,⟨rfl,rfl⟩,?_,hH.agree ag hM,hM.agree ag,Fr.sf ag⟩
 refine ⟨_,rfl,rfl,λj pv hj=>?_⟩
 match j,hj with
 | 0,hj=>cases hj;exact ⟨_,rfl,ba.int _ _⟩
 | 1,hj=>cases hj;exact ⟨_,rfl,ba.int _ _⟩
 | 2,hj=>cases hj;exact ⟨_,rfl,ba.str _⟩
 | 3,hj=>
  cases hj
  refine ⟨_,rfl,?_⟩
  have r2:cQ μ h S w v (.slice a l c):=by
   cases v with
   | ck=>exact r2
   | own id g o n=>exact r2
   | _=>cases hv
  exact cQ.fr (Fr.sf ag) hM r2
end Go.Am
