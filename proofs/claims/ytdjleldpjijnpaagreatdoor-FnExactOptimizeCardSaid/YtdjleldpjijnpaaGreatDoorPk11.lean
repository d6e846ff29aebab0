/- Texts of the proof, joined and shortened. -/
import Derived.Test.YtdjleldpjijnpaaGreatDoorPk10
set_option linter.unusedVariables false
set_option linter.unusedSimpArgs false
namespace Go.Am
open Go Go.RowKit Go.Proofs
structure FB (f:ar):Prop where
 nm:f.ay.length<=2000000
 ps:f.ao.length<=2000000
 us:f.aI.length<=2000000
 sl:f.au.length<=2000000
 cd:f.ah.length<=2000000
structure CB (c:aq):Prop where
 fs:c.aM.length<=2000000
 ms:c.aP.length<=2000000
 iw:∀x∈c.aM,x.aQ.wt<=2000000
 mn:∀m∈c.aP,m.me.length<=2000000/\m.ay.length<=2000000
structure PB (p:aE):Prop where
 fl:p.aK.length<=2000000
 cl:p.aH.length<=2000000
 fb:∀f∈p.aK,FB f
 cb:∀c∈p.aH,CB c
theorem xL {σ R:Type} {L:σ->Int->Option R} (c:Nat->Bool) (n:Nat) (T F:R) (I:σ->Nat->Prop)
  (hs:∀s k,k<n->I s k->(c k=true->∃a,I a (k+1)/\L s (k:Int)=L a ((k+1:Nat):Int))/\(c k=false->L s (k:Int)=some F))
  (he:∀s,I s n->L s (n:Int)=some T):∀(f k:Nat) (s:σ),n<=k+f->k<=n->I s k->L s (k:Int)=some (if iE c k n=true then T else F)
 | f,k,s,hf,d,hi=>by
  by_cases hc:k<n
  ·obtain⟨g,rfl⟩:∃g,f=g+1:=⟨f - 1,by omega⟩;obtain⟨h1,h2⟩:=hs s k hc hi;rw[A9 hc];cases b:c k
   ·rw[h2 b,aiW,An alW]
   ·obtain⟨a,q1,q2⟩:=h1 b;rw[q2,aiB];exact xL c n T F I hs he g (k+1) a alV alV q1
  ·have:k=n:=by omega
   subst this;rw[he s hi,As DA]
theorem nu {R:Type} {L:Int->Option R} (c:Nat->Bool) (n:Nat) (T F:R)
  (hs:∀k,k<n->(c k=true->L (k:Int)=L ((k+1:Nat):Int))/\(c k=false->L (k:Int)=some F))
  (he:L (n:Int)=some T):L 0=some (if iE c 0 n=true then T else F):=
 xL (σ:=Unit) (L:=λ_=>L) c n T F (λ_ _=>True) (λs k a _=>⟨λh=>⟨(),trivial,(hs k a).1 h⟩,(hs k a).2⟩) (λ_ _=>he) n 0 () alV (aih _) trivial
def gF (p:aE) (i:Nat):ar:=p.aK.getD i default
def gK (p:aE) (i:Nat):aq:=p.aH.getD i default
def gD (c:aq) (i:Nat):aC:=c.aM.getD i default
def gM (c:aq) (i:Nat):aD:=c.aP.getD i default
theorem getD_lt {α:Type} [Inhabited α] {l:List α} {i:Nat} (h:i<l.length):l.getD i default=l[i]:=by rw[ahA,abF h];rfl
theorem Hn {α:Type} [Inhabited α] {l:List α} {i:Nat} (h:i<l.length):idx l (i:Int)=some (l.getD i default):=by rw[aV h,getD_lt h]
theorem Qv {p:aE} {i:Nat} (h:i<p.aK.length):idx p.aK (i:Int)=some (gF p i):=Hn h
theorem abe {p:aE} {i:Nat} (h:i<p.aH.length):idx p.aH (i:Int)=some (gK p i):=Hn h
theorem W0 {c:aq} {i:Nat} (h:i<c.aM.length):idx c.aM (i:Int)=some (gD c i):=Hn h
theorem adZ {c:aq} {i:Nat} (h:i<c.aP.length):idx c.aP (i:Int)=some (gM c i):=Hn h
theorem B3 {α:Type} [Inhabited α] {l:List α} {i:Nat} (h:i<l.length):l.getD i default∈l:=by rw[getD_lt h];exact ahD h
def Lz (q:Nat->Bool) (k:Nat):Bool:=(List.range k).any q
theorem pG {q:Nat->Bool} {k:Nat}:Lz q k=true↔∃j,j<k/\q j=true:=by
 unfold Lz;rw[List.any_eq_true];constructor
 ·rintro⟨j,h1,h2⟩;exact⟨j,by simpa using h1,h2⟩
 ·rintro⟨j,h1,h2⟩;exact⟨j,by simpa using h1,h2⟩
theorem findF (p:aE) (s:aW) (hl:p.aK.length<=2000000):∃r,ff p s=some r/\((r= -1/\∀j,j<p.aK.length->(gF p j).ay≠s)\/∃j:Nat,j<p.aK.length/\r=(j:Int)/\(gF p j).ay=s/\∀i,i<j->(gF p i).ay≠s):=by
 have go:∀m i:Nat,i<=p.aK.length->p.aK.length - i=m->(∀j,j<i->(gF p j).ay≠s)->∃o,fV p s (i:Int)=some o/\((o=.inl ()/\∀j,j<p.aK.length->(gF p j).ay≠s)\/∃j:Nat,j<p.aK.length/\o=.inr (j:Int)/\(gF p j).ay=s/\∀i,i<j->(gF p i).ay≠s):=by
  intro m;induction m with
  | zero=>
   intro i h1 h2 h3;rw[fV,An alV];exact⟨_,rfl,.inl ⟨rfl,λj hj=>h3 j alV⟩⟩
  | succ m a=>
   intro i h1 h2 h3;have b:i<p.aK.length:=by omega
   rw[fV,As alV,Qv b,sb];by_cases hc:(gF p i).ay=s
   ·rw[As hc];exact⟨_,rfl,.inr ⟨i,b,rfl,hc,h3⟩⟩
   ·rw[An hc,aO alV]
    exact a (i+1) alV alV (λj hj=>by
     by_cases c:j=i
     ·subst c;exact hc
     ·exact h3 j alV)
 obtain⟨o,e,h⟩:=go _ 0 (aih _) rfl (λj hj=>absurd hj (ahP _));replace e:fV p s 0=some o:=e;unfold ff;rw[e,sb];rcases h with⟨rfl,h⟩ | ⟨j,h1,rfl,h2,h3⟩
 ·exact alS
 ·exact⟨_,rfl,.inr ⟨j,h1,rfl,h2,h3⟩⟩
theorem ad0 (p:aE) (s:aW) (hl:p.aH.length<=2000000):∃r,kH p.aH s=some r/\((r= -1/\∀j,j<p.aH.length->(gK p j).ay≠s)\/∃j:Nat,j<p.aH.length/\r=(j:Int)/\(gK p j).ay=s/\∀i,i<j->(gK p i).ay≠s):=by
 have go:∀m i:Nat,i<=p.aH.length->p.aH.length - i=m->(∀j,j<i->(gK p j).ay≠s)->∃o,eY p.aH s (i:Int)=some o/\((o=.inl ()/\∀j,j<p.aH.length->(gK p j).ay≠s)\/∃j:Nat,j<p.aH.length/\o=.inr (j:Int)/\(gK p j).ay=s/\∀i,i<j->(gK p i).ay≠s):=by
  intro m;induction m with
  | zero=>
   intro i h1 h2 h3;rw[eY,An alV];exact⟨_,rfl,.inl ⟨rfl,λj hj=>h3 j alV⟩⟩
  | succ m a=>
   intro i h1 h2 h3;have b:i<p.aH.length:=by omega
   rw[eY,As alV,abe b,sb];by_cases hc:(gK p i).ay=s
   ·rw[As hc];exact⟨_,rfl,.inr ⟨i,b,rfl,hc,h3⟩⟩
   ·rw[An hc,aO alV]
    exact a (i+1) alV alV (λj hj=>by
     by_cases c:j=i
     ·subst c;exact hc
     ·exact h3 j alV)
 obtain⟨o,e,h⟩:=go _ 0 (aih _) rfl (λj hj=>absurd hj (ahP _));replace e:eY p.aH s 0=some o:=e;unfold kH;rw[e,sb];rcases h with⟨rfl,h⟩ | ⟨j,h1,rfl,h2,h3⟩
 ·exact alS
 ·exact⟨_,rfl,.inr ⟨j,h1,rfl,h2,h3⟩⟩
def Yi (f:ar):Bool:=(eW f).getD false
theorem Um {f:ar} (h:FB f):eW f=some (Yi f)/\eX f=some (Yi f):=by
 obtain⟨b,a,e2,_⟩:=Gw f h.cd h.sl h.ps h.us h.nm;unfold Yi;rw[a,e2];exact⟨rfl,rfl⟩
def B4 (p:aE) (k:Nat):Bool:=Lz (λj=>decide ((gF p j).ay=(gF p k).ay)) k
def AG (p:aE) (k:Nat):Bool:=!B4 p k&&Yi (gF p k)
theorem abf {p:aE} (h:PB p):de p 0=some (if iE (AG p) 0 p.aK.length=true then .inl ()else .inr false):=by
 have l:=h.fl;refine nu (L:=de p) _ _ _ _ (λk b=>?_) (by rw[de,An alV]);have c:FB (gF p k):=h.fb _ (B3 b);obtain⟨r,e,f⟩:=findF p (gF p k).ay h.fl
 have a:r=(k:Int)↔B4 p k=false:=by
  rw[aiU,Ne,B4,pG];rcases f with⟨rfl,hn⟩ | ⟨j,h1,rfl,h2,h3⟩
  ·exact absurd rfl (hn k b)
  ·constructor
   ·intro d;rintro⟨i,q1,q2⟩;exact h3 i alV (by simpa using q2)
   ·intro hn;by_cases d:j=k
    ·rw[d]
    ·exfalso;by_cases g:j<k
     ·exact hn ⟨j,g,by simpa using h2⟩
     ·exact h3 k alV rfl
 have this:de p (k:Int)=if r=(k:Int)then(if Yi (gF p k)=true then de p ((k+1:Nat):Int)else some (.inr false))else some (.inr false):=by
  rw[de,As alV,Qv b,sb];show(ff p (gF p k).ay>>=_)=_;rw[e,sb,sb];show(if r=(k:Int)then(eX (gF p k)>>=_)else _)=_;rw[(Um c).2,sb,aO alV]
 rw[this];unfold AG;refine⟨λhc=>?_,λhc=>?_⟩
 ·simp only[No,aid]at hc;rw[As (a.2 hc.1),As hc.2]
 ·by_cases h1:r=(k:Int)
  ·rw[As h1];by_cases h2:Yi (gF p k)=true
   ·rw[a.1 h1,h2]at hc;cases hc
   ·rw[An h2]
  ·rw[An h1]
def MF (p:aE) (l:List (aW×Int)) (k:Nat):Prop:=∀x,(∀j,j<k->(gF p j).ay=x->ik l x=some (j:Int))/\((∀j,j<k->(gF p j).ay≠x)->ik l x=none)
theorem abg {p:aE} (h:PB p):∃o,eZ p [] 0=some o/\((iE (AG p) 0 p.aK.length=true/\∃l,o=.inl l/\MF p l p.aK.length)\/(iE (AG p) 0 p.aK.length=false/\o=.inr false)):=by
 have t:=h.fl
 have go:∀m k:Nat,k<=p.aK.length->p.aK.length - k=m->∀l,MF p l k->∃o,eZ p l (k:Int)=some o/\((iE (AG p) k p.aK.length=true/\∃l,o=.inl l/\MF p l p.aK.length)\/(iE (AG p) k p.aK.length=false/\o=.inr false)):=by
  intro m;induction m with
  | zero=>
   intro k h1 h2 l hl;have b:k=p.aK.length:=by omega
   rw[eZ,An alV];subst b;exact⟨_,rfl,.inl ⟨DA,l,rfl,hl⟩⟩
  | succ m c=>
   intro k h1 h2 l hl;have b:k<p.aK.length:=by omega
   have d:FB (gF p k):=h.fb _ (B3 b)
   have f:uc l (gF p k).ay=B4 p k:=by
    rw[aic,B4,pG,uc];obtain⟨g,i⟩:=hl (gF p k).ay;constructor
    ·intro hq;refine Classical.byContradiction λq=>?_;rw[i (λj hj he=>q ⟨j,hj,by simpa using he⟩)]at hq;cases hq
    ·rintro⟨j,hj,he⟩;rw[g j hj (by simpa using he)];rfl
   rw[eZ,As alV,Qv b,sb,A9 b];show ∃o,(if uc l (gF p k).ay=true then _ else(eW (gF p k)>>=_))=some o/\_;rw[f,(Um d).1,sb];rw[show AG p k=(!B4 p k&&Yi (gF p k))from rfl];cases r:B4 p k with
   | true=>rw[As rfl];exact⟨_,rfl,.inr ⟨by simp,rfl⟩⟩
   | false=>
    rw[An ama];cases hf:Yi (gF p k)with
    | false=>rw[An ama];exact⟨_,rfl,.inr ⟨by simp,rfl⟩⟩
    | true=>
     rw[As rfl,aO alV]
     obtain⟨o,e,s⟩:=c (k+1) alV alV (eU l (gF p k).ay (k:Int)) (λx=>by
      obtain⟨g,i⟩:=hl x;refine⟨λj hj he=>?_,λhn=>?_⟩
      ·rw[xr];by_cases a:x=(gF p k).ay
       ·rw[As a];by_cases n:j=k
        ·rw[n]
        ·exfalso;have:B4 p k=true:=pG.2 ⟨j,by omega,by simp [he,a]⟩;rw[r]at this;cases this
       ·rw[An a];by_cases n:j=k
        ·subst n;exact absurd he.symm a
        ·exact g j alV he
      ·rw[xr,An (λa=>hn k alV a.symm)];exact i (λj hj=>hn j alV))
     refine⟨o,e,?_⟩;simpa using s
 exact go _ 0 (aih _) rfl [] (λx=>⟨λj hj=>absurd hj (ahP _),λ_=>rfl⟩)
def okI (v:ae):Bool:=(decide (v.kw<=200)&&v.Kd)&&decide (v.aJ<=3)
theorem abh {v:ae} (hv:v.wt<=2000000):nD v=some (decide (v.kw<=200)&&v.Kd):=by
 unfold nD;rw[Gr _ (ahy _) v hv,sb,ye _ (ahy _) v hv];by_cases h:v.kw<=200
 ·rw[As alV,sb,ahI h];rfl
 ·rw[An alV,ahG h];rfl
theorem Un {v:ae} (h:v.Kd=true):0<=v.aJ:=by
 cases v with
 | mk k n s x l=>
  rw[MN]at h;simp only[ae.rB];refine Classical.byContradiction λa=>?_;rw[An alV,An alV,An alV,An alV,An alV,An alV]at h;simp at h
def AH (c:aq) (k:Nat):Bool:=Lz (λj=>decide ((gD c j).ay=(gD c k).ay)) k
def yq (c:aq) (k:Nat):Bool:=(!AH c k&&sj (gD c k).ay)&&okI (gD c k).aQ
theorem W1 {c:aq} (h:CB c):cz c 0=some (if iE (yq c) 0 c.aM.length=true then .inl ()else .inr (.inr (.inr false))):=by
 have f:=h.fs;refine nu (L:=cz c) _ _ _ _ (λk a=>?_) (by rw[cz,An alV]);have hw:(gD c k).aQ.wt<=2000000:=h.iw _ (B3 a)
 have inner:∀(v:Bool) (x y:aC),bR v c x y (k:Int) 0=some (if AH c k=true then .inr (.inr (.inr (.inr false)))else .inl (x.aQ.aJ,(decide (x.aQ.aJ>3)),y.ay,v,(!v))):=λv x y=>by
  have e:=nu (L:=λq=>bR v c x y (k:Int) q) (λj=>!decide ((gD c j).ay=(gD c k).ay)) k (.inl (x.aQ.aJ,(decide (x.aQ.aJ>3)),y.ay,v,(!v))) (.inr (.inr (.inr (.inr false)))) (λj hj=>by
   show(_->bR v c x y (k:Int) (j:Int)=_)/\(_->bR v c x y (k:Int) (j:Int)=_)
   have b:bR v c x y (k:Int) (j:Int)=if(gD c j).ay=(gD c k).ay then some (.inr (.inr (.inr (.inr false))))else bR v c x y (k:Int) ((j+1:Nat):Int):=by
    rw[bR,As alV,W0 (show j<c.aM.length by omega),sb,W0 a,sb,aO alV]
   rw[b];exact⟨λhq=>An amr,λhq=>As amr⟩) (by
   show bR v c x y (k:Int) (k:Int)=_;rw[bR,An alV])
  refine e.trans ?_
  have d:iE (λj=>!decide ((gD c j).ay=(gD c k).ay)) 0 k=!AH c k:=by
   rw[aic,wz,aid,aiU,Ne,AH,pG];constructor
   ·rintro hq ⟨j,h1,h2⟩;have:=hq j (aih _) h1;rw[h2]at this;cases this
   ·intro hq j _ hj;cases hd:decide ((gD c j).ay=(gD c k).ay)with
    | false=>rfl
    | true=>exact absurd ⟨j,hj,hd⟩ hq
  rw[d];cases AH c k<;>rfl
 have this:cz c (k:Int)=if yq c k=true then cz c ((k+1:Nat):Int)else some (.inr (.inr (.inr false))):=by
  rw[cz,As alV,W0 a,sb];show((m22 (gD c k).aQ>>=_)>>=_)=_;rw[Zc hw,sb,aO alV];unfold yq okI;cases hv:(decide ((gD c k).aQ.kw<=200)&&(gD c k).aQ.Kd)with
  | false=>rw[An ama,sb];simp
  | true=>
   rw[As rfl,sb];show((if(gD c k).aQ.aJ>3 then _ else _)>>=_)=_;by_cases h3:(gD c k).aQ.aJ>3
   ·rw[As h3,sb,ahG (by omega:¬(gD c k).aQ.aJ<=3)];simp
   ·rw[An h3,ahI (by omega:(gD c k).aQ.aJ<=3),sb];show((gB (gD c k).ay>>=_)>>=_)=_;rw[XA,sb];cases hg:sj (gD c k).ay with
    | false=>rw[An ama,sb];simp
    | true=>
     rw[As rfl,inner,sb];cases g:AH c k with
     | true=>simp
     | false=>simp
 rw[this];exact alE
theorem W2 {c:aq} (h:CB c):bZ c [] 0=some (if iE (yq c) 0 c.aM.length=true then .inl ()else .inr (.inr (.inr false))):=by
 have f:=h.fs;refine xL (L:=λl y=>bZ c l y) (yq c) c.aM.length _ _ (λl k=>∀x,qQ l x false=true↔∃j,j<k/\(gD c j).ay=x) (λl k d hi=>?_) (λl hi=>?_) c.aM.length 0 [] alV (aih _) (λx=>⟨λh=>by simp [qQ,ik]at h,λ⟨j,h,_⟩=>absurd h (ahP _)⟩)
 ·have hw:(gD c k).aQ.wt<=2000000:=h.iw _ (B3 d)
  have e:qQ l (gD c k).ay false=AH c k:=by
   rw[aic,hi,AH,pG];exact⟨λ⟨j,h1,h2⟩=>⟨j,h1,by simpa using h2⟩,λ⟨j,h1,h2⟩=>⟨j,h1,by simpa using h2⟩⟩
  have this:bZ c l (k:Int)=if yq c k=true then bZ c (eU l (gD c k).ay true) ((k+1:Nat):Int)else some (.inr (.inr (.inr false))):=by
   rw[bZ,As alV,W0 d,sb];show(if qQ l (gD c k).ay false=true then _ else(dV (gD c k).ay>>=_))=_;rw[e,Xz,sb];unfold yq okI;cases g:AH c k with
   | true=>rw[As rfl];simp
   | false=>
    rw[An ama];cases hg:sj (gD c k).ay with
    | false=>rw[An ama];simp
    | true=>
     rw[As rfl];show(nD (gD c k).aQ>>=_)=_;rw[abh hw,sb];cases hv:(decide ((gD c k).aQ.kw<=200)&&(gD c k).aQ.Kd)with
     | false=>rw[An ama];simp
     | true=>
      have b:=Un (show(gD c k).aQ.Kd=true by simp only[No]at hv;exact hv.2);rw[As rfl];show(xp (gD c k).aQ.aJ 0 3>>=_)=_;rw[wq,sb,aO alV];by_cases h3:(gD c k).aQ.aJ<=3
      ·rw[As (by simp [b,h3]),As (by simp [h3])]
      ·rw[An (by simp [h3]),An (by simp [h3])]
  simp only[this];refine⟨λhc=>⟨eU l (gD c k).ay true,λx=>?_,by rw[As hc]⟩,λhc=>An (by rw[hc];decide)⟩;rw[wA];by_cases a:x=(gD c k).ay
  ·rw[As a];exact⟨λ_=>⟨k,by omega,a.symm⟩,λ_=>rfl⟩
  ·rw[An a,hi];constructor
   ·rintro⟨j,q1,q2⟩;exact⟨j,by omega,q2⟩
   ·rintro⟨j,q1,q2⟩;rcases aju.1 q1 with q | rfl
    ·exact⟨j,q,q2⟩
    ·exact absurd q2.symm a
 ·show bZ c l _=_;rw[bZ,An alV]
def Gi (f:ar):Bool:=(kd f).getD false
theorem O9 (f:ar):kd f=some (Gi f)/\ll f=some (Gi f):=by
 obtain⟨b,a,e2⟩:=Sa f;unfold Gi;rw[a,e2];exact⟨rfl,rfl⟩
def Yj (p:aE) (s:aW):Int:=(ff p s).getD (-1)
def Qw (c:aq) (k:Nat):aW:=((gM c k).me++[58,58])++(gM c k).ay
def r8 (p:aE) (c:aq) (k:Nat):Bool:=decide (0<=Yj p (Qw c k))&&(!Gi (gF p (Yj p (Qw c k)).toNat)&&decide ((gF p (Yj p (Qw c k)).toNat).aI.length=0))
theorem Uo {p:aE} (hl:p.aK.length<=2000000) (s:aW):ff p s=some (Yj p s)/\((Yj p s= -1/\∀j,j<p.aK.length->(gF p j).ay≠s)\/∃j:Nat,j<p.aK.length/\Yj p s=(j:Int)/\(gF p j).ay=s/\∀i,i<j->(gF p i).ay≠s):=by
 obtain⟨r,e,h⟩:=findF p s hl;have:Yj p s=r:=by unfold Yj;rw[e];rfl
 rw[this];exact⟨e,h⟩
theorem Up {p:aE} {c:aq} (hp:PB p) (h:CB c):cA p c 0=some (if iE (r8 p c) 0 c.aP.length=true then .inl ()else .inr (.inr false)):=by
 have g:=h.ms;refine nu (L:=cA p c) _ _ _ _ (λk d=>?_) (by rw[cA,An alV]);obtain⟨i,l⟩:(gM c k).me.length<=2000000/\(gM c k).ay.length<=2000000:=h.mn _ (B3 d);obtain⟨e,f⟩:=Uo hp.fl (Qw c k)
 have this:cA p c (k:Int)=if r8 p c k=true then cA p c ((k+1:Nat):Int)else some (.inr (.inr false)):=by
  rw[cA,As alV,adZ d,sb,CM (by simp only[ahN,aii];omega),sb,sb,CM (by simp only[aiy,ahN,aii];omega),sb];show(ff p (Qw c k)>>=_)=_;rw[e,sb,aO alV];rcases f with⟨hn,_⟩ | ⟨j,h1,hj,_⟩
  ·rw[show r8 p c k=false by unfold r8;rw[hn];rfl,hn,As ama,An ama]
  ·rw[show r8 p c k=(!Gi (gF p j)&&decide ((gF p j).aI.length=0)) by unfold r8;rw[hj,ahF];simp,hj,An alV,Qv h1,sb,sb];show(ll (gF p j)>>=_)=_;rw[(O9 _).2,sb];by_cases a:Gi (gF p j)=true
   ·rw[As a,a];simp
   ·have b:Gi (gF p j)=false:=by simpa using a
    rw[An a,b];show(if((gF p j).aI.length:Int)>0 then _ else _)=_;by_cases hu:(gF p j).aI.length=0
    ·rw[An alV,As (by simp [hu])]
    ·rw[As alV,An (by simp [hu])]
 rw[this];exact alE
theorem Uq {p:aE} {c:aq} (hp:PB p) (h:CB c) {l:List (aW×Int)} (hl:MF p l p.aK.length) (a:List (aW×Bool)):cC p l a c 0=some (if iE (r8 p c) 0 c.aP.length=true then .inl (eU a c.ay true)else .inr (.inr false)):=by
 have q:=h.ms;refine nu (L:=cC p l a c) _ _ _ _ (λk f=>?_) (by rw[cC,An alV]);obtain⟨r,s⟩:(gM c k).me.length<=2000000/\(gM c k).ay.length<=2000000:=h.mn _ (B3 f);obtain⟨e,i⟩:=Uo hp.fl (Qw c k);obtain⟨g,m⟩:=hl (Qw c k)
 have this:cC p l a c (k:Int)=if r8 p c k=true then cC p l a c ((k+1:Nat):Int)else some (.inr (.inr false)):=by
  rw[cC,As alV,adZ f,sb,CM (by simp only[ahN,aii];omega),sb,CM (by simp only[aiy,ahN,aii];omega),sb];show(if uc l (Qw c k)=true then(idx p.aK (qQ l (Qw c k) 0)>>=_)else _)=_;rw[aO alV];rcases i with⟨hn,n⟩ | ⟨j,h1,hj,h2,_⟩
  ·have hm:uc l (Qw c k)=false:=by unfold uc;rw[m n];rfl
   rw[show r8 p c k=false by unfold r8;rw[hn];rfl,hm,An ama,An ama]
  ·have hm:uc l (Qw c k)=true:=by unfold uc;rw[g j h1 h2];rfl
   have hg:qQ l (Qw c k) 0=(j:Int):=by unfold qQ;rw[g j h1 h2];rfl
   rw[show r8 p c k=(!Gi (gF p j)&&decide ((gF p j).aI.length=0)) by unfold r8;rw[hj,ahF];simp,hm,As rfl,hg,Qv h1,sb];show(kd (gF p j)>>=_)=_;rw[(O9 _).1,sb];by_cases b:Gi (gF p j)=true
   ·rw[As b,b];simp
   ·have d:Gi (gF p j)=false:=by simpa using b
    rw[An b,d];show((idx p.aK (qQ l (Qw c k) 0)>>=λo=>if(o.aI.length:Int)>0 then _ else _):Option _)=_;rw[hg,Qv h1,sb];by_cases hu:(gF p j).aI.length=0
    ·rw[An alV,As (by simp [hu])]
    ·rw[As alV,An (by simp [hu])]
 rw[this];exact alE
def B5 (p:aE) (k:Nat):Bool:=Lz (λj=>decide ((gK p j).ay=(gK p k).ay)) k
def yr (p:aE) (k:Nat):Bool:=!B5 p k&&(iE (yq (gK p k)) 0 (gK p k).aM.length&&iE (r8 p (gK p k)) 0 (gK p k).aP.length)
theorem Ur {p:aE} (h:PB p):cO p 0=some (if iE (yr p) 0 p.aH.length=true then .inl ()else .inr false):=by
 have l:=h.cl;refine nu (L:=cO p) _ _ _ _ (λk b=>?_) (by rw[cO,An alV]);have c:CB (gK p k):=h.cb _ (B3 b);obtain⟨r,e,f⟩:=ad0 p (gK p k).ay h.cl
 have a:r=(k:Int)↔B5 p k=false:=by
  rw[aiU,Ne,B5,pG];rcases f with⟨rfl,hn⟩ | ⟨j,h1,rfl,h2,h3⟩
  ·exact absurd rfl (hn k b)
  ·constructor
   ·intro d;rintro⟨i,q1,q2⟩;exact h3 i alV (by simpa using q2)
   ·intro hn;by_cases d:j=k
    ·rw[d]
    ·exfalso;by_cases g:j<k
     ·exact hn ⟨j,g,by simpa using h2⟩
     ·exact h3 k alV rfl
 have this:cO p (k:Int)=if yr p k=true then cO p ((k+1:Nat):Int)else some (.inr false):=by
  rw[cO,As alV,abe b,sb];show((kH p.aH (gK p k).ay>>=_)>>=_)=_;rw[e,sb,aO alV];unfold yr;by_cases h1:r=(k:Int)
  ·rw[As h1,a.1 h1];show(((cz (gK p k) 0)>>=_)>>=_)=_;rw[W1 c,sb];cases m:iE (yq (gK p k)) 0 (gK p k).aM.length with
   | false=>simp [sb]
   | true=>
    simp only[aiz];show((cA p (gK p k) 0)>>=_)=_;rw[Up h c,sb];cases hM:iE (r8 p (gK p k)) 0 (gK p k).aP.length<;>simp
  ·rw[An h1,sb]
   have:B5 p k=true:=by
    cases hq:B5 p k with
    | true=>rfl
    | false=>exact absurd (a.2 hq) h1
   rw[this];simp
 rw[this];exact alE
theorem Us {p:aE} (h:PB p) {a:List (aW×Int)} (hl:MF p a p.aK.length):cD p a [] 0=some (if iE (yr p) 0 p.aH.length=true then .inl ()else .inr false):=by
 have f:=h.cl;refine xL (L:=λl y=>cD p a l y) (yr p) p.aH.length _ _ (λl k=>∀x,qQ l x false=true↔∃j,j<k/\(gK p j).ay=x) (λl k c hi=>?_) (λl hi=>?_) p.aH.length 0 [] alV (aih _) (λx=>⟨λh=>by simp [qQ,ik]at h,λ⟨j,h,_⟩=>absurd h (ahP _)⟩)
 ·have d:CB (gK p k):=h.cb _ (B3 c)
  have e:qQ l (gK p k).ay false=B5 p k:=by
   rw[aic,hi,B5,pG];exact⟨λ⟨j,h1,h2⟩=>⟨j,h1,by simpa using h2⟩,λ⟨j,h1,h2⟩=>⟨j,h1,by simpa using h2⟩⟩
  have this:cD p a l (k:Int)=if yr p k=true then cD p a (eU l (gK p k).ay true) ((k+1:Nat):Int)else some (.inr false):=by
   rw[cD,As alV,abe c,sb];show((if qQ l (gK p k).ay false=true then _ else((bZ (gK p k) [] 0)>>=_))>>=_)=_;rw[e,W2 d,sb,aO alV];unfold yr;cases g:B5 p k with
   | true=>rw[As rfl,sb];simp
   | false=>
    rw[An ama];cases i:iE (yq (gK p k)) 0 (gK p k).aM.length with
    | false=>simp [sb]
    | true=>
     simp only[aiz];show((cC p a l (gK p k) 0)>>=_)=_;rw[Uq h d hl,sb];cases hM:iE (r8 p (gK p k)) 0 (gK p k).aP.length<;>simp
  simp only[this];refine⟨λhc=>⟨eU l (gK p k).ay true,λx=>?_,by rw[As hc]⟩,λhc=>An (by rw[hc];decide)⟩;rw[wA];by_cases b:x=(gK p k).ay
  ·rw[As b];exact⟨λ_=>⟨k,by omega,b.symm⟩,λ_=>rfl⟩
  ·rw[An b,hi];constructor
   ·rintro⟨j,q1,q2⟩;exact⟨j,by omega,q2⟩
   ·rintro⟨j,q1,q2⟩;rcases aju.1 q1 with q | rfl
    ·exact⟨j,q,q2⟩
    ·exact absurd q2.symm b
 ·show cD p a l _=_;rw[cD,An alV]
def isP (p:aE):Bool:=(decide (p.aK.length<=5000)&&decide (p.aH.length≠0))&&((decide ((gK p 0).ay=([69,114,114,111,114]:aW))&&(decide ((gK p 0).aM.length≠0)&&decide ((gD (gK p 0) 0).ay=([109,101,115,115,97,103,101]:aW))))&&(iE (AG p) 0 p.aK.length&&iE (yr p) 0 p.aH.length))
theorem TT {p:aE} (h:PB p):mL p=some (isP p)/\mK p=some (isP p):=by
 have d:=h.fl;unfold mL mK isP;by_cases h1:(p.aK.length:Int)>5000
 ·rw[As h1,As h1,ahG (by omega:¬p.aK.length<=5000)];simp
 rw[An h1,An h1,ahI (by omega:p.aK.length<=5000)];by_cases h2:(p.aH.length:Int)=0
 ·rw[As h2,As h2,ahG (by omega:¬p.aH.length≠0)];simp
 rw[An h2,An h2,ahI (by omega:p.aH.length≠0)];have a:idx p.aH 0=some (gK p 0):=Hn (i:=0) alV;obtain⟨o,b,c⟩:=abg h;rw[b,sb,a,abf h,Ur h];simp only[sb,Bool.and_self,aiB];have hf:∀q:(gK p 0).aM.length≠0,idx (gK p 0).aM 0=some (gD (gK p 0) 0):=λq=>Hn (i:=0) alV;constructor
 ·rcases c with⟨hA,l,rfl,hl⟩ | ⟨hA,rfl⟩
  ·simp only[Us h hl,sb,hA];by_cases h3:(gK p 0).ay=([69,114,114,111,114]:aW)
   ·rw[As h3,ahI h3];by_cases h4:(gK p 0).aM.length=0
    ·rw[As alV];simp [h4]
    ·rw[An alV,hf h4,sb];by_cases h5:(gD (gK p 0) 0).ay=([109,101,115,115,97,103,101]:aW)
     ·rw[As h5,ahI h5];cases iE (yr p) 0 p.aH.length<;>simp [h4]
     ·rw[An h5,ahG h5];simp
   ·rw[An h3,ahG h3];simp
  ·simp only[hA];simp
 ·by_cases h3:(gK p 0).ay=([69,114,114,111,114]:aW)
  ·rw[As h3,ahI h3];by_cases h4:(gK p 0).aM.length=0
   ·rw[As alV];simp [h4]
   ·rw[An alV,hf h4,sb];by_cases h5:(gD (gK p 0) 0).ay=([109,101,115,115,97,103,101]:aW)
    ·rw[As h5,ahI h5];cases iE (AG p) 0 p.aK.length<;>cases iE (yr p) 0 p.aH.length<;>simp [h4]
    ·rw[An h5,ahG h5];simp
  ·rw[An h3,ahG h3];simp
def zS {α:Type} (z:α->Nat) (l:List α):Nat:=l.length+(l.map z).sum
theorem oM {α:Type} {z:α->Nat} {x:α} {l:List α}:zS z (x::l)=(1+z x)+zS z l:=by unfold zS;simp;omega
theorem sd {α:Type} {z:α->Nat} (l:List α):l.length<=zS z l:=by unfold zS;omega
theorem tN {α:Type} {z:α->Nat}:∀{l:List α} {x:α},x∈l->1+z x<=zS z l
 | y::l,x,h=>by
  rw[oM];rcases ahM.1 h with rfl | h
  ·omega
  ·have:=tN (z:=z) h;omega
theorem Gj {α:Type} (l:List α):zS (λ_=>0) l=l.length:=by
 induction l with
 | nil=>rfl
 | cons x l a=>rw[oM,a];simp;omega
theorem vl {α:Type} [Inhabited α] (B:Nat) {L:List α->List α->Int->Int->Option (Int×List α)} {H:List α->Int->Int->Option (Int ⊕ Int)} (l:List α) (z:α->Nat)
  (step:∀x∈l,∀k:Nat,k+7*(1+z x)<=B->∃(a:Nat) (y:α),k<=a/\a<=k+7*(1+z x)/\
   (∀(m:List α) (i:Nat),i<l.length->idx m (i:Int)=some x->L l m (k:Int) (i:Int)=L l (m.set i y) (a:Int) ((i+1:Nat):Int))/\
   ∀(m:List α) (i:Nat),i<m.length->m.length<=B->idx m (i:Int)=some y->H m (k:Int) (i:Int)=H m (a:Int) ((i+1:Nat):Int))
  (he:∀m k,L l m k (l.length:Int)=some (k,m)) (hh:∀m k,H m k (m.length:Int)=some (.inl k)):
  ∀k:Nat,k+7*zS z l<=B->∃(a:Nat) (c:List α),L l l (k:Int) 0=some ((a:Int),c)/\k<=a/\a<=k+7*zS z l/\c.length=l.length/\H c (k:Int) 0=some (.inl (a:Int)):=by
 have go:∀(R P:List α) (k:Nat),(∀x∈R,x∈l)->P.length+R.length=l.length->l.length<=B->k+7*zS z R<=B->
   ∃(a:Nat) (b:List α),L l (P++R) (k:Int) (P.length:Int)=some ((a:Int),P++b)/\k<=a/\a<=k+7*zS z R/\b.length=R.length/\∀Q:List α,Q.length=P.length->H (Q++b) (k:Int) (Q.length:Int)=some (.inl (a:Int)):=by
  intro R;induction R with
  | nil=>
   intro P k h1 h2 h3 h4;simp only[aii,aiv]at h2;refine⟨k,[],?_,ahy _,by omega,rfl,λQ f=>?_⟩
   ·rw[aiL,h2];exact he P k
   ·rw[aiL];exact hh Q k
  | cons x R j=>
   intro P k h1 h2 h3 h4;rw[oM]at h4;simp only[ahN]at h2;obtain⟨n,y,C,g2,o,p⟩:=step x (h1 x alW) k alV
   have d:∀(S:List α) (w:α) (T:List α),idx (S++w::T) (S.length:Int)=some w:=λS w T=>by
    rw[aV alW];simp
   have q:(P++x::R).set P.length y=(P++[y])++R:=by simp
   obtain⟨a,b,r,f2,f3,g,f5⟩:=j (P++[y]) n (λw hw=>h1 w (by simp [hw])) alX h3 alV;refine⟨a,y::b,?_,by omega,by rw[oM];omega,by simp [g],λQ f=>?_⟩
   ·rw[o _ _ alV (d P x R),q];have e:((P++[y]).length:Int)=((P.length+1:Nat):Int):=by simp
    rw[<-e,r];simp
   ·rw[p _ _ alW (by simp [g];omega) (d Q y b)];have h:=f5 (Q++[y]) (by simp [f]);have e:((Q++[y]).length:Int)=((Q.length+1:Nat):Int):=by simp
    rw[e]at h;simpa using h
 intro k s;have hl:=sd (z:=z) l;obtain⟨a,c,t,e2,u,v,A⟩:=go l [] k (λx d=>d) alW alV s;exact⟨a,c,by simpa using t,e2,u,v,by simpa using A [] rfl⟩
theorem LA (l:List TParam) (k:Nat) (h:k+7*l.length<=1000000000):∃(a:Nat) (b:List TParam),jK l (k:Int)=some ((a:Int),b)/\k<=a/\a<=k+7*l.length/\b.length=l.length/\jL b (k:Int)=some (a:Int):=by
 obtain⟨a,b,c,e2,d,e,f⟩:=vl 1000000000 (L:=fH) (H:=fK) l (λ_=>0) (λx g k n=>by
  have j:=sd (z:=(λ_=>0)) l;have o:=tN (z:=(λ_=>0)) g;refine⟨k+1+1,TParam.mk (Kg (k:Int)) ((((k+1:Nat):Int).tmod 3)==0),by omega,by omega,λm i hi hm=>?_,λm i hi hl hm=>?_⟩
  ·rw[fH,As alV];simp (disch:=omega) only[hm,kL,aO,sb,ahF]
  ·rw[fK,As alV];simp (disch:=omega) only[hm,aiz,kL,aO,sb,ahF,An,aC.mk.injEq]) (λm k=>by rw[fH,An alV]) (λm k=>by rw[fK,An alV]) k (by rw[Gj];omega)
 refine⟨a,b,?_,e2,by rw[Gj]at d;omega,e,?_⟩
 ·unfold jK;rw[c,sb]
 ·unfold jL;rw[f,sb]
theorem Qx (l:List aW) (k:Nat) (h:k+7*l.length<=1000000000):∃(a:Nat) (b:List aW),kq l (k:Int)=some ((a:Int),b)/\k<=a/\a<=k+7*l.length/\b.length=l.length/\ks b (k:Int)=some (a:Int):=by
 obtain⟨a,b,c,e2,d,e,f⟩:=vl 1000000000 (L:=eN) (H:=eQ) l (λ_=>0) (λx g k n=>by
  have j:=sd (z:=(λ_=>0)) l;have o:=tN (z:=(λ_=>0)) g;refine⟨k+1,(Kg (k:Int)),by omega,by omega,λm i hi hm=>?_,λm i hi hl hm=>?_⟩
  ·rw[eN,As alV];simp (disch:=omega) only[hm,kL,aO,sb,ahF]
  ·rw[eQ,As alV];simp (disch:=omega) only[hm,aiz,kL,aO,sb,ahF,An,aC.mk.injEq]) (λm k=>by rw[eN,An alV]) (λm k=>by rw[eQ,An alV]) k (by rw[Gj];omega)
 refine⟨a,b,?_,e2,by rw[Gj]at d;omega,e,?_⟩
 ·unfold kq;rw[c,sb]
 ·unfold ks;rw[f,sb]
theorem abi (l:List ak) (k:Nat) (h:k+7*l.length<=1000000000):∃(a:Nat) (b:List ak),oc l (k:Int)=some ((a:Int),b)/\k<=a/\a<=k+7*l.length/\b.length=l.length/\om b (k:Int)=some (a:Int):=by
 obtain⟨a,b,c,e2,d,e,f⟩:=vl 1000000000 (L:=iW) (H:=iX) l (λ_=>0) (λx g k n=>by
  have j:=sd (z:=(λ_=>0)) l;have o:=tN (z:=(λ_=>0)) g;refine⟨k+1+1+1+1+1,ak.mk (k:Int) ((k+1:Nat):Int) ((k+1+1:Nat):Int) (Kg ((k+1+1+1:Nat):Int)) (Kg ((k+1+1+1+1:Nat):Int)),by omega,by omega,λm i hi hm=>?_,λm i hi hl hm=>?_⟩
  ·rw[iW,As alV];simp (disch:=omega) only[hm,kL,aO,sb,ahF]
  ·rw[iX,As alV];simp (disch:=omega) only[hm,aiz,kL,aO,sb,ahF,An,aC.mk.injEq]) (λm k=>by rw[iW,An alV]) (λm k=>by rw[iX,An alV]) k (by rw[Gj];omega)
 refine⟨a,b,?_,e2,by rw[Gj]at d;omega,e,?_⟩
 ·unfold oc;rw[c,sb]
 ·unfold om;rw[f,sb]
theorem Qy (l:List aD) (k:Nat) (h:k+7*l.length<=1000000000):∃(a:Nat) (b:List aD),kr l (k:Int)=some ((a:Int),b)/\k<=a/\a<=k+7*l.length/\b.length=l.length/\ku b (k:Int)=some (a:Int):=by
 obtain⟨a,b,c,e2,d,e,f⟩:=vl 1000000000 (L:=eO) (H:=eR) l (λ_=>0) (λx g k n=>by
  have j:=sd (z:=(λ_=>0)) l;have o:=tN (z:=(λ_=>0)) g;refine⟨k+1+1+1+1+1,aD.mk (Kg (k:Int)) (Kg ((k+1:Nat):Int)) (Kg ((k+1+1:Nat):Int)) ((((k+1+1+1:Nat):Int).tmod 3)==0) ((((k+1+1+1+1:Nat):Int).tmod 3)==0),by omega,by omega,λm i hi hm=>?_,λm i hi hl hm=>?_⟩
  ·rw[eO,As alV];simp (disch:=omega) only[hm,kL,aO,sb,ahF]
  ·rw[eR,As alV];simp (disch:=omega) only[hm,aiz,kL,aO,sb,ahF,An,aC.mk.injEq]) (λm k=>by rw[eO,An alV]) (λm k=>by rw[eR,An alV]) k (by rw[Gj];omega)
 refine⟨a,b,?_,e2,by rw[Gj]at d;omega,e,?_⟩
 ·unfold kr;rw[c,sb]
 ·unfold ku;rw[f,sb]
def zD (x:aC):Nat:=x.aQ.wt
def zK (x:aq):Nat:=zS zD x.aM+x.aP.length
def zF (x:ar):Nat:=x.ao.length+x.aI.length+x.au.length+x.ah.length
def zP (x:aE):Nat:=zS zF x.aK+zS zK x.aH
theorem Ut (l:List aC) (k:Nat) (h:k+7*zS zD l<=1000000000):∃(a:Nat) (b:List aC),k6 l (k:Int)=some ((a:Int),b)/\k<=a/\a<=k+7*zS zD l/\b.length=l.length/\k9 b (k:Int)=some (a:Int):=by
 obtain⟨a,b,c,e2,s,g,j⟩:=vl 1000000000 (L:=fI) (H:=fL) l zD (λx n k o=>by
  have p:=sd (z:=zD) l;have t:=tN (z:=zD) n;have q:=x.aQ.ub;simp only[zD]at o ⊢;obtain⟨d,r,c,u,v,g2,e⟩:=Gu _ x.aQ.aw (ahy _) (k+1+1+1+1+1+1+1) alV;have f:¬(d:Int)<0:=by omega
  refine⟨d,aC.mk (Kg (k:Int)) (Kg ((k+1:Nat):Int)) ((((k+1+1:Nat):Int).tmod 3)==0) (ae.mk ((k+1+1+1:Nat):Int) ((k+1+1+1+1:Nat):Int) (Kg ((k+1+1+1+1+1:Nat):Int)) ((k+1+1+1+1+1+1:Nat):Int) r),by omega,by omega,λm i hi hm=>?_,λm i hi hl hm=>?_⟩
  ·rw[fI,As alV];simp (disch:=omega) only[hm,kL,aO,sb,ahF,c,e,f,aiO,ae.rB,ae.xt,ae.zG,ae.rA,ae.iY]
  ·rw[fL,As alV];simp (disch:=omega) only[hm,aiz,kL,aO,sb,ahF,c,e,f,aiO,ae.rB,ae.xt,ae.zG,ae.rA,ae.iY,An,aC.mk.injEq]) (λm k=>by rw[fI,An alV]) (λm k=>by rw[fL,An alV]) k alV
 refine⟨a,b,?_,e2,by omega,g,?_⟩
 ·unfold k6;rw[c,sb]
 ·unfold k9;rw[j,sb]
theorem Uu (l:List aq) (k:Nat) (h:k+7*zS zK l<=1000000000):∃(a:Nat) (b:List aq),k7 l (k:Int)=some ((a:Int),b)/\k<=a/\a<=k+7*zS zK l/\b.length=l.length/\la b (k:Int)=some (a:Int):=by
 obtain⟨a,b,c,e2,u,n,o⟩:=vl 1000000000 (L:=fJ) (H:=fM) l zK (λx p k q=>by
  have r:=sd (z:=zK) l;have v:=tN (z:=zK) p;simp only[zK]at q ⊢;obtain⟨d,s,c,w,g2,y,e⟩:=Ut x.aM (k+1+1) alV;obtain⟨f,t,e2,q1,q2,A,q3⟩:=Qy x.aP d alV;have g:¬(d:Int)<0:=by omega
  have j:¬(f:Int)<0:=by omega
  refine⟨f,aq.mk (Kg (k:Int)) (Kg ((k+1:Nat):Int)) s t,by omega,by omega,λm i hi hm=>?_,λm i hi hl hm=>?_⟩
  ·rw[fJ,As alV];simp (disch:=omega) only[hm,kL,aO,sb,ahF,c,e,e2,q3,g,j,aiO]
  ·rw[fM,As alV];simp (disch:=omega) only[hm,aiz,kL,aO,sb,ahF,c,e,e2,q3,g,j,aiO,An,aC.mk.injEq]) (λm k=>by rw[fJ,An alV]) (λm k=>by rw[fM,An alV]) k alV
 refine⟨a,b,?_,e2,by omega,n,?_⟩
 ·unfold k7;rw[c,sb]
 ·unfold la;rw[o,sb]
theorem W3 (l:List ar) (k:Nat) (h:k+7*zS zF l<=1000000000):∃(a:Nat) (b:List ar),mG l (k:Int)=some ((a:Int),b)/\k<=a/\a<=k+7*zS zF l/\b.length=l.length/\mH b (k:Int)=some (a:Int):=by
 obtain⟨a,b,c,e2,e,d,v⟩:=vl 1000000000 (L:=gZ) (H:=hB) l zF (λx w k y=>by
  have A:=sd (z:=zF) l;have F:=tN (z:=zF) w;simp only[zF]at y ⊢;obtain⟨g,B,c,G,I,J,j⟩:=LA x.ao (k+1) alV;obtain⟨n,C,e2,K,M,N,o⟩:=LA x.aI g alV;obtain⟨f,D,e,O,P,Q,p⟩:=Qx x.au n alV;obtain⟨q,E,d,R,S,T,r⟩:=abi x.ah (f+1) alV;have s:¬(g:Int)<0:=by omega
  have g2:¬(n:Int)<0:=by omega
  have t:¬(f:Int)<0:=by omega
  have u:¬(q:Int)<0:=by omega
  refine⟨q,ar.mk (Kg (k:Int)) B C D (((f:Int).tmod 3)==0) E,by omega,by omega,λm i hi hm=>?_,λm i hi hl hm=>?_⟩
  ·rw[gZ,As alV];simp (disch:=omega) only[hm,kL,aO,sb,ahF,c,e2,e,d,j,o,p,r,s,g2,t,u,aiO]
  ·rw[hB,As alV];simp (disch:=omega) only[hm,aiz,kL,aO,sb,ahF,c,e2,e,d,j,o,p,r,s,g2,t,u,aiO,An,aC.mk.injEq]) (λm k=>by rw[gZ,An alV]) (λm k=>by rw[hB,An alV]) k alV
 refine⟨a,b,?_,e2,by omega,d,?_⟩
 ·unfold mG;rw[c,sb]
 ·unfold mH;rw[v,sb]
theorem G5 (p:aE) (k:Nat) (h:k+7*zP p<=1000000000):∃(a:Nat) (b:aE),ep p (k:Int)=some ((a:Int),b)/\k<=a/\a<=k+7*zP p/\fQ b (k:Int)=some (a:Int):=by
 unfold zP at h ⊢;obtain⟨c,d,e,l,m,n,f⟩:=W3 p.aK k alV;obtain⟨g,i,e2,o,q,r,j⟩:=Uu p.aH c alV;refine⟨g,⟨d,i⟩,?_,by omega,by omega,?_⟩
 ·unfold ep;rw[e,sb];dsimp only;rw[e2,sb]
 ·unfold fQ;dsimp only;rw[f,sb,An alV,j,sb,An alV]
theorem pH {L:Int->Option (Unit ⊕ Bool)} (n:Nat) (hs:∀k:Nat,k<n->L (k:Int)=L ((k+1:Nat):Int)) (he:L (n:Int)=some (.inl ())):L 0=some (.inl ()):=by
 have:=nu (L:=L) (λ_=>true) n (.inl ()) (.inr true) (λk a=>⟨λ_=>hs k a,λh=>by cases h⟩) he;rw[this,As (wz.2 (λ_ _ _=>rfl))]
theorem Oe (x:ak):tW x x=some true:=by unfold tW;simp
theorem Jg (x:TParam):p7 x x=some true:=by unfold p7;simp
theorem Gk (x:aD):nY x x=some true:=by unfold nY;simp
theorem Jh (x:aC) (h:x.aQ.wt<=2000000):p9 x x=some true:=by unfold p9;simp [Ki _ (ahy _) _ h,sb]
theorem yt (l:List TParam) (hn:l.length<=2000000):lQ l l=some true:=by
 have e:iS l l 0=some (.inl ()):=pH l.length (λk a=>by rw[iS,As alV,aV a,sb,sb,Jg,sb,As rfl,aO alV]) (by rw[iS,An alV]);unfold lQ;rw[As rfl,e];rfl
theorem LB (l:List ak) (hn:l.length<=2000000):rn l l=some true:=by
 have e:kG l l 0=some (.inl ()):=pH l.length (λk a=>by rw[kG,As alV,aV a,sb,sb,Oe,sb,As rfl,aO alV]) (by rw[kG,An alV]);unfold rn;rw[As rfl,e];rfl
theorem EZ (l:List aD) (hn:l.length<=2000000):mF l l=some true:=by
 have e:gY l l 0=some (.inl ()):=pH l.length (λk a=>by rw[gY,As alV,aV a,sb,sb,Gk,sb,As rfl,aO alV]) (by rw[gY,An alV]);unfold mF;rw[As rfl,e];rfl
theorem E0 (l:List aW) (hn:l.length<=2000000):mE l l=some true:=by
 have e:gX l l 0=some (.inl ()):=pH l.length (λk a=>by rw[gX,As alV,aV a,sb,sb,As rfl,aO alV]) (by rw[gX,An alV]);unfold mE;rw[As rfl,e];rfl
theorem Gl (l:List aC) (hn:l.length<=2000000) (h:∀x∈l,x.aQ.wt<=2000000):nZ l l=some true:=by
 have e:iT l l 0=some (.inl ()):=pH l.length (λk a=>by rw[iT,As alV,aV a,sb,sb,Jh _ (h _ (ahD a)),sb,As rfl,aO alV]) (by rw[iT,An alV]);unfold nZ;rw[As rfl,e];rfl
theorem LC (a:ar) (h:FB a):rp a a=some true:=by
 unfold rp;simp [yt _ h.ps,yt _ h.us,E0 _ h.sl,LB _ h.cd,sb]
theorem Ji (a:aq) (h:CB a):qa a a=some true:=by
 unfold qa;simp [Gl _ h.fs h.iw,EZ _ h.ms,sb]
theorem Jj (l:List ar) (hn:l.length<=2000000) (h:∀x∈l,FB x):p8 l l=some true:=by
 have e:jJ l l 0=some (.inl ()):=pH l.length (λk a=>by rw[jJ,As alV,aV a,sb,sb,LC _ (h _ (ahD a)),sb,As rfl,aO alV]) (by rw[jJ,An alV]);unfold p8;rw[As rfl,e];rfl
theorem Gm (l:List aq) (hn:l.length<=2000000) (h:∀x∈l,CB x):n7 l l=some true:=by
 have e:iU l l 0=some (.inl ()):=pH l.length (λk a=>by rw[iU,As alV,aV a,sb,sb,Ji _ (h _ (ahD a)),sb,As rfl,aO alV]) (by rw[iU,An alV]);unfold n7;rw[As rfl,e];rfl
theorem xg (p:aE) (h:PB p):gA p p=some true:=by
 unfold gA;simp [Jj _ h.fl h.fb,Gm _ h.cl h.cb,sb]
theorem rb {α:Type} (a:List α) {L:List α->Int->Option (List α)} (hs:∀(l:List α) (k:Nat) (h:k<a.length),l.length=a.length->L l (k:Int)=L (l.set k a[k]) ((k+1:Nat):Int))
  (he:∀l,L l (a.length:Int)=some l):∀(f k:Nat) (l:List α),a.length<=k+f->k<=a.length->l.length=a.length->(∀j,j<k->l[j]? =a[j]?)->L l (k:Int)=some a
 | f,k,l,hf,b,hl,hj=>by
  by_cases hc:k<a.length
  ·obtain⟨g,rfl⟩:∃g,f=g+1:=⟨f - 1,by omega⟩;rw[hs l k hc hl];refine rb a hs he g (k+1) _ alV alV (by rw[aiH];exact hl) (λj c=>?_);rw[aiG];by_cases h:k=j
   ·subst h;rw[As rfl,As alV,abF hc]
   ·rw[An h];exact hj j alV
  ·have:k=a.length:=by omega
   subst this;rw[he l];congr 1;refine aiT λj=>?_;by_cases h:j<a.length
   ·exact hj j h
   ·rw[ahO alV,ahO alV]
theorem mk_eq {α:Type} [Inhabited α] {b n:Nat} (hn:n<=2000000) (a:b<=1000):(mf b (n:Int) (n:Int):Option (List α))=some (List.replicate n default):=by
 unfold mf;have:n*b<=2000000*1000:=Nat.mul_le_mul hn a;rw[As ⟨by omega,by omega,by omega,by simp only[ahF];omega⟩];rfl
theorem sC {y:Int} {n:Nat} (h0:0<=y) (h1:y<=1048576) (hn:n<=9223372036854775807):av (y - (n:Int))=y - (n:Int):=Cu alV alV
theorem B6 {α:Type} {L:Int->Int->Option (Int ⊕ Int)} (l:List α) (sz:α->Int->Option Int) (c:α->Nat) (Q:α->Prop) (hl:l.length<=1048576)
  (f:∀x∈l,∀y:Int,0<=y->y<=1048576->∃v,sz x y=some v/\(v<0\/(0<=v/\v+c x<=y/\Q x)))
  (hs:∀(i:Nat) (hi:i<l.length) (y:Int),0<=y->y<=1048576->L y (i:Int)=(sz l[i] y>>=λv=>if v<0 then some (.inr (-1))else L v ((i+1:Nat):Int)))
  (he:∀y,L y (l.length:Int)=some (.inl y)):∀(m i:Nat),i+m=l.length->∀y:Int,0<=y->y<=1048576->∃o,L y (i:Int)=some o/\(o=.inr (-1)\/∃z,o=.inl z/\0<=z/\z+((l.drop i).map c).sum<=y/\∀x∈l.drop i,Q x):=by
 intro m;induction m with
 | zero=>
  intro i h y d y1;obtain rfl:i=l.length:=by omega
  refine⟨_,he y,.inr ⟨y,rfl,d,by rw[ajA];simp,λx a=>by rw[ajA]at a;simp at a⟩⟩
 | succ m g=>
  intro i h y d y1;have hi:i<l.length:=by omega
  obtain⟨v,e,hv⟩:=f l[i] (ahD hi) y d y1;rw[hs i hi y d y1,e,sb];rcases hv with hv | ⟨j,n,k⟩
  ·rw[As hv];exact⟨_,rfl,.inl rfl⟩
  ·rw[An alV];obtain⟨o,e2,b⟩:=g (i+1) alV v j alV;refine⟨o,e2,?_⟩;rcases b with b | ⟨z,b,z0,p,z2⟩
   ·exact .inl b
   ·refine .inr ⟨z,b,z0,?_,?_⟩
    ·rw[ahY hi];simp only[ahE,List.sum_cons];omega
    ·intro x a;rw[ahY hi]at a;rcases ahM.1 a with rfl | a
     ·exact k
     ·exact z2 x a
structure FT (f:ar):Prop where
 nm:f.ay.length<=1048576
 ps:∀p∈f.ao,p.ay.length<=1048576
 us:∀p∈f.aI,p.ay.length<=1048576
 sl:∀s∈f.au,s.length<=1048576
 cd:∀i∈f.ah,i.fS.length<=1048576/\i.fT.length<=1048576
structure CT (c:aq):Prop where
 nm:c.ay.length<=1048576
 pa:c.cE.length<=1048576
 fs:∀x∈c.aM,(x.ay.length<=1048576/\x.bL.length<=1048576)/\x.aQ.wt<=1048577
 ms:∀m∈c.aP,m.ay.length<=1048576/\m.bL.length<=1048576/\m.me.length<=1048576
def zE (x:aC):Nat:=x.aQ.wt - 1
def zL (c:aq):Nat:=zS zE c.aM+c.aP.length
theorem Of {x:TParam} (h:x.Ok) {y:Int} (h0:0<=y) (h1:y<=1048576):∃v,ny x y=some v/\(v<0\/(0<=v/\v+(0:Nat)<=y/\x.ay.length<=1048576)):=by
 unfold ny;rw[sC h0 h1 h.h0];by_cases a:y - (x.ay.length:Int)<0
 ·rw[As a];exact⟨_,rfl,.inl ama⟩
 ·rw[An a];exact⟨_,rfl,.inr ⟨by omega,by omega,by omega⟩⟩
theorem Uv {x:ak} (h:x.Ok) {y:Int} (h0:0<=y) (h1:y<=1048576):∃v,re x y=some v/\(v<0\/(0<=v/\v+(0:Nat)<=y/\x.fS.length<=1048576/\x.fT.length<=1048576)):=by
 unfold re;rw[sC h0 h1 h.h0];by_cases a:y - (x.fS.length:Int)<0
 ·rw[As a];exact⟨_,rfl,.inl ama⟩
 ·rw[An a,sC alV alV h.h1];by_cases hw:y - (x.fS.length:Int) - (x.fT.length:Int)<0
  ·rw[As hw];exact⟨_,rfl,.inl ama⟩
  ·rw[An hw];exact⟨_,rfl,.inr ⟨by omega,by omega,by omega,by omega⟩⟩
theorem LD {x:aD} (h:x.Ok) {y:Int} (h0:0<=y) (h1:y<=1048576):∃v,lO x y=some v/\(v<0\/(0<=v/\v+(0:Nat)<=y/\x.ay.length<=1048576/\x.bL.length<=1048576/\x.me.length<=1048576)):=by
 unfold lO;rw[sC h0 h1 h.h0];by_cases a:y - (x.ay.length:Int)<0
 ·rw[As a];exact⟨_,rfl,.inl ama⟩
 ·rw[An a,sC alV alV h.h1];by_cases hw:y - (x.ay.length:Int) - (x.bL.length:Int)<0
  ·rw[As hw];exact⟨_,rfl,.inl ama⟩
  ·rw[An hw,sC alV alV h.h2];by_cases hu:y - (x.ay.length:Int) - (x.bL.length:Int) - (x.me.length:Int)<0
   ·rw[As hu];exact⟨_,rfl,.inl ama⟩
   ·rw[An hu];exact⟨_,rfl,.inr ⟨by omega,by omega,by omega,by omega,by omega⟩⟩
theorem Uw {x:bW} (h:x.Ok) {y:Int} (h0:0<=y) (h1:y<=1048576):∃v,tT x y=some v/\(v<0\/(0<=v/\v<=y)):=by
 unfold tT;rw[sC h0 h1 h.h0];by_cases a:y - (x.bq.length:Int)<0
 ·rw[As a];exact⟨_,rfl,.inl ama⟩
 ·rw[An a];exact⟨_,rfl,.inr ⟨by omega,by omega⟩⟩
theorem B7 {l:List TParam} (hl:l.length<=9223372036854775807) (h:∀x∈l,x.Ok) {k:Int} (h0:0<=k) (h1:k<=1048576):∃v,lN l k=some v/\(v<0\/(0<=v/\v+zS (λ_=>0) l<=k/\∀x∈l,x.ay.length<=1048576)):=by
 unfold lN;rw[sC h0 h1 hl];by_cases a:k - (l.length:Int)<0
 ·rw[As a];exact⟨_,rfl,.inl ama⟩
 ·rw[An a];obtain⟨o,e,c⟩:=B6 (L:=iJ l) l ny (λ_=>0) (λx=>x.ay.length<=1048576) alV (λx d y b y1=>Of (h x d) b y1) (λi hi y b y1=>by rw[iJ,As alV,aV hi,sb,aO alV]) (λy=>by rw[iJ,An alV]) l.length 0 alV (k - (l.length:Int)) alV alV;rw[show((0:Nat):Int)=0 from rfl]at e;rw[e,sb];rcases c with rfl | ⟨z,rfl,z0,f,z2⟩
  ·exact alA
  ·rw[aib]at f z2;exact alo
theorem Jk {l:List aW} (hl:l.length<=9223372036854775807) (h:∀x∈l,x.length<=9223372036854775807) {k:Int} (h0:0<=k) (h1:k<=1048576):∃v,mw l k=some v/\(v<0\/(0<=v/\v+zS (λ_=>0) l<=k/\∀x∈l,x.length<=1048576)):=by
 unfold mw;rw[sC h0 h1 hl];by_cases a:k - (l.length:Int)<0
 ·rw[As a];exact⟨_,rfl,.inl ama⟩
 ·rw[An a];obtain⟨o,e,c⟩:=B6 (L:=gT l) l (λx y=>some (av (y - (x.length:Int)))) (λ_=>0) (λx=>x.length<=1048576) alV (λx d y b y1=>⟨_,rfl,by rw[sC b y1 (h x d)];omega⟩) (λi hi y b y1=>by rw[gT,As alV,aV hi,sb,aO alV];rfl) (λy=>by rw[gT,An alV]) l.length 0 alV (k - (l.length:Int)) alV alV;rw[show((0:Nat):Int)=0 from rfl]at e;rw[e,sb];rcases c with rfl | ⟨z,rfl,z0,f,z2⟩
  ·exact alA
  ·rw[aib]at f z2;exact alo
theorem Qz {l:List ak} (hl:l.length<=9223372036854775807) (h:∀x∈l,x.Ok) {k:Int} (h0:0<=k) (h1:k<=1048576):∃v,rh l k=some v/\(v<0\/(0<=v/\v+zS (λ_=>0) l<=k/\∀x∈l,x.fS.length<=1048576/\x.fT.length<=1048576)):=by
 unfold rh;rw[sC h0 h1 hl];by_cases a:k - (l.length:Int)<0
 ·rw[As a];exact⟨_,rfl,.inl ama⟩
 ·rw[An a];obtain⟨o,e,c⟩:=B6 (L:=kD l) l re (λ_=>0) (λx=>x.fS.length<=1048576/\x.fT.length<=1048576) alV (λx d y b y1=>Uv (h x d) b y1) (λi hi y b y1=>by rw[kD,As alV,aV hi,sb,aO alV]) (λy=>by rw[kD,An alV]) l.length 0 alV (k - (l.length:Int)) alV alV;rw[show((0:Nat):Int)=0 from rfl]at e;rw[e,sb];rcases c with rfl | ⟨z,rfl,z0,f,z2⟩
  ·exact alA
  ·rw[aib]at f z2;exact alo
theorem Jl {l:List aD} (hl:l.length<=9223372036854775807) (h:∀x∈l,x.Ok) {k:Int} (h0:0<=k) (h1:k<=1048576):∃v,my l k=some v/\(v<0\/(0<=v/\v+zS (λ_=>0) l<=k/\∀x∈l,x.ay.length<=1048576/\x.bL.length<=1048576/\x.me.length<=1048576)):=by
 unfold my;rw[sC h0 h1 hl];by_cases a:k - (l.length:Int)<0
 ·rw[As a];exact⟨_,rfl,.inl ama⟩
 ·rw[An a];obtain⟨o,e,c⟩:=B6 (L:=gU l) l lO (λ_=>0) (λx=>x.ay.length<=1048576/\x.bL.length<=1048576/\x.me.length<=1048576) alV (λx d y b y1=>LD (h x d) b y1) (λi hi y b y1=>by rw[gU,As alV,aV hi,sb,aO alV]) (λy=>by rw[gU,An alV]) l.length 0 alV (k - (l.length:Int)) alV alV;rw[show((0:Nat):Int)=0 from rfl]at e;rw[e,sb];rcases c with rfl | ⟨z,rfl,z0,f,z2⟩
  ·exact alA
  ·rw[aib]at f z2;exact alo
theorem Pa:∀l:List af,af.Dw l=zS (λe:af=>e.a8.wt - 1) l
 | []=>rfl
 | e::l=>by
  have:=pf e.a8;rw[rz,oM,Pa l];omega
theorem Og:∀(n:Nat) (v:ae),v.wt<=n->v.Ok->∀y:Int,0<=y->y<=1048576->∃r,kX v y=some r/\(r<0\/(0<=r/\r+(v.wt - 1:Nat)<=y)):=by
 intro n;induction n with
 | zero=>intro v hv;have:=pf v;omega
 | succ n h=>
  intro v hv j y b y1;obtain⟨k,l,m⟩:=j.inv;have p:=v.ub;rw[kX,sC b y1 k];by_cases a:y - (v.bq.length:Int)<0
  ·rw[As a];exact⟨_,rfl,.inl ama⟩
  rw[An a];have f:0<=y - (v.bq.length:Int):=by omega
  have q1:y - (v.bq.length:Int)<=1048576:=by omega
  generalize q:y - (v.bq.length:Int)=y2 at f q1 a ⊢
  have main:∃r,qJ v.aw y2=some r/\(r<0\/(0<=r/\r+(v.wt - 1:Nat)<=y2)):=by
   rw[qJ,sC f q1 l];by_cases a:y2 - (v.aw.length:Int)<0
   ·rw[As a];exact⟨_,rfl,.inl ama⟩
   ·rw[An a]
    obtain⟨o,e,s⟩:=B6 (L:=iK v.aw) v.aw sF (λe:af=>e.a8.wt - 1) (λ_=>True) alV (λx g y b y1=>by
     obtain⟨t,g2⟩:=(m x g).inv;obtain⟨u,w,hu⟩:=Uw t b y1;have A:=uN _ _ g;rw[sF,w,sb];rcases hu with hu | ⟨B,E⟩
     ·rw[As hu];exact⟨_,rfl,.inl ama⟩
     ·rw[An alV];obtain⟨F,e2,c⟩:=h x.a8 alV g2 u B alV;rw[e2,sb];rcases c with c | ⟨C,G⟩
      ·rw[As c];exact⟨_,rfl,.inl ama⟩
      ·rw[An alV];exact⟨_,rfl,.inr ⟨C,by omega,trivial⟩⟩) (λi hi y b y1=>by rw[iK,As alV,aV hi,sb,aO alV]) (λy=>by rw[iK,An alV]) v.aw.length 0 alV (y2 - (v.aw.length:Int)) alV alV
    rw[show((0:Nat):Int)=0 from rfl]at e;rw[e,sb];rcases s with rfl | ⟨z,rfl,z0,D,z2⟩
    ·exact alA
    ·rw[aib]at D;have:=Pa v.aw;unfold zS at this;exact⟨_,rfl,.inr ⟨z0,by omega⟩⟩
  obtain⟨r,e,d⟩:=main
  rw[e,sb];rcases d with d | ⟨r0,r1⟩
  ·rw[As d];exact⟨_,rfl,.inl ama⟩
  ·rw[An alV];exact⟨_,rfl,.inr ⟨r0,by omega⟩⟩
theorem Oh {x:aC} (h:x.Ok) {y:Int} (h0:0<=y) (h1:y<=1048576):∃v,nz x y=some v/\(v<0\/(0<=v/\v+zE x<=y/\(x.ay.length<=1048576/\x.bL.length<=1048576)/\x.aQ.wt<=1048577)):=by
 unfold nz;rw[sC h0 h1 h.h0];by_cases a:y - (x.ay.length:Int)<0
 ·rw[As a];exact⟨_,rfl,.inl ama⟩
 ·rw[An a,sC alV alV h.h1];by_cases hw:y - (x.ay.length:Int) - (x.bL.length:Int)<0
  ·rw[As hw];exact⟨_,rfl,.inl ama⟩
  ·rw[An hw];obtain⟨u,e,hu⟩:=Og _ x.aQ (ahy _) h.h2 (y - (x.ay.length:Int) - (x.bL.length:Int)) alV alV;rw[e,sb];rcases hu with hu | ⟨b,c⟩
   ·rw[As hu];exact⟨_,rfl,.inl ama⟩
   ·rw[An alV];exact⟨_,rfl,.inr ⟨b,by unfold zE;omega,by omega,by omega⟩⟩
theorem LF {l:List aC} (hl:l.length<=9223372036854775807) (h:∀x∈l,x.Ok) {k:Int} (h0:0<=k) (h1:k<=1048576):∃v,nS l k=some v/\(v<0\/(0<=v/\v+zS zE l<=k/\∀x∈l,(x.ay.length<=1048576/\x.bL.length<=1048576)/\x.aQ.wt<=1048577)):=by
 unfold nS;rw[sC h0 h1 hl];by_cases a:k - (l.length:Int)<0
 ·rw[As a];exact⟨_,rfl,.inl ama⟩
 ·rw[An a];obtain⟨o,e,c⟩:=B6 (L:=iL l) l nz zE (λx=>(x.ay.length<=1048576/\x.bL.length<=1048576)/\x.aQ.wt<=1048577) alV (λx d y b y1=>Oh (h x d) b y1) (λi hi y b y1=>by rw[iL,As alV,aV hi,sb,aO alV]) (λy=>by rw[iL,An alV]) l.length 0 alV (k - (l.length:Int)) alV alV;rw[show((0:Nat):Int)=0 from rfl]at e;rw[e,sb];rcases c with rfl | ⟨z,rfl,z0,f,z2⟩
  ·exact alA
  ·rw[aib]at f z2;exact alo
theorem QA {a:ar} (h:a.Ok) {y:Int} (h0:0<=y) (h1:y<=1048576):∃v,pc a y=some v/\(v<0\/(0<=v/\v+zF a<=y/\FT a)):=by
 unfold pc;rw[sC h0 h1 h.h0];by_cases f:y - (a.ay.length:Int)<0
 ·rw[As f];exact⟨_,rfl,.inl ama⟩
 rw[An f];obtain⟨g,i,b⟩:=B7 h.h1 h.h2 (k:=y - (a.ay.length:Int)) alV alV;rw[i,sb];rcases b with b | ⟨w,j,l⟩
 ·rw[As b];exact⟨_,rfl,.inl ama⟩
 rw[An alV];obtain⟨m,e2,c⟩:=B7 h.h3 h.h4 (k:=g) alV alV;rw[e2,sb];rcases c with c | ⟨q1,q2,q3⟩
 ·rw[As c];exact⟨_,rfl,.inl ama⟩
 rw[An alV];obtain⟨n,o,d⟩:=Jk h.h5 h.h6 (k:=m) alV alV;rw[o,sb];rcases d with d | ⟨r1,p,q⟩
 ·rw[As d];exact⟨_,rfl,.inl ama⟩
 rw[An alV];obtain⟨x,r,e⟩:=Qz h.h7 h.h8 (k:=n) alV alV;rw[r,sb];rcases e with e | ⟨s,t,u⟩
 ·rw[As e];exact⟨_,rfl,.inl ama⟩
 rw[An alV];rw[Gj]at j q2 p t;exact⟨_,rfl,.inr ⟨s,by unfold zF;omega,⟨by omega,l,q3,q,u⟩⟩⟩
theorem Oi {a:aq} (h:a.Ok) {y:Int} (h0:0<=y) (h1:y<=1048576):∃v,nA a y=some v/\(v<0\/(0<=v/\v+zL a<=y/\CT a)):=by
 unfold nA;rw[sC h0 h1 h.h0];by_cases d:y - (a.ay.length:Int)<0
 ·rw[As d];exact⟨_,rfl,.inl ama⟩
 rw[An d,sC alV alV h.h1];by_cases hw:y - (a.ay.length:Int) - (a.cE.length:Int)<0
 ·rw[As hw];exact⟨_,rfl,.inl ama⟩
 rw[An hw];obtain⟨e,f,b⟩:=LF h.h2 h.h3 (k:=y - (a.ay.length:Int) - (a.cE.length:Int)) alV alV;rw[f,sb];rcases b with b | ⟨i,j,g⟩
 ·rw[As b];exact⟨_,rfl,.inl ama⟩
 rw[An alV];obtain⟨l,e2,c⟩:=Jl h.h4 h.h5 (k:=e) alV alV;rw[e2,sb];rcases c with c | ⟨q1,q2,q3⟩
 ·rw[As c];exact⟨_,rfl,.inl ama⟩
 rw[An alV];rw[Gj]at q2;exact⟨_,rfl,.inr ⟨q1,by unfold zL;omega,⟨by omega,by omega,g,q3⟩⟩⟩
theorem Oj {l:List ar} (hl:l.length<=9223372036854775807) (h:∀x∈l,x.Ok) {k:Int} (h0:0<=k) (h1:k<=1048576):∃v,pX l k=some v/\(v<0\/(0<=v/\v+zS zF l<=k/\∀x∈l,FT x)):=by
 unfold pX;rw[sC h0 h1 hl];by_cases a:k - (l.length:Int)<0
 ·rw[As a];exact⟨_,rfl,.inl ama⟩
 ·rw[An a];obtain⟨o,e,c⟩:=B6 (L:=jF l) l pc zF (λx=>FT x) alV (λx d y b y1=>QA (h x d) b y1) (λi hi y b y1=>by rw[jF,As alV,aV hi,sb,aO alV]) (λy=>by rw[jF,An alV]) l.length 0 alV (k - (l.length:Int)) alV alV;rw[show((0:Nat):Int)=0 from rfl]at e;rw[e,sb];rcases c with rfl | ⟨z,rfl,z0,f,z2⟩
  ·exact alA
  ·rw[aib]at f z2;exact alo
theorem LG {l:List aq} (hl:l.length<=9223372036854775807) (h:∀x∈l,x.Ok) {k:Int} (h0:0<=k) (h1:k<=1048576):∃v,nT l k=some v/\(v<0\/(0<=v/\v+zS zL l<=k/\∀x∈l,CT x)):=by
 unfold nT;rw[sC h0 h1 hl];by_cases a:k - (l.length:Int)<0
 ·rw[As a];exact⟨_,rfl,.inl ama⟩
 ·rw[An a];obtain⟨o,e,c⟩:=B6 (L:=iM l) l nA zL (λx=>CT x) alV (λx d y b y1=>Oi (h x d) b y1) (λi hi y b y1=>by rw[iM,As alV,aV hi,sb,aO alV]) (λy=>by rw[iM,An alV]) l.length 0 alV (k - (l.length:Int)) alV alV;rw[show((0:Nat):Int)=0 from rfl]at e;rw[e,sb];rcases c with rfl | ⟨z,rfl,z0,f,z2⟩
  ·exact alA
  ·rw[aib]at f z2;exact alo
theorem IZ {a:aE} (h:a.Ok):∃v,mz a 1048576=some v/\(v<0\/(zS zF a.aK+zS zL a.aH<=1048576/\(∀x∈a.aK,FT x)/\∀x∈a.aH,CT x)):=by
 unfold mz;obtain⟨d,e,b⟩:=Oj h.h0 h.h1 (k:=1048576) alV alV;rw[e,sb];rcases b with b | ⟨g,i,f⟩
 ·rw[As b];exact⟨_,rfl,.inl ama⟩
 rw[An alV];obtain⟨j,e2,c⟩:=LG h.h2 h.h3 (k:=d) alV alV;rw[e2,sb];rcases c with c | ⟨q1,q2,q3⟩
 ·rw[As c];exact⟨_,rfl,.inl ama⟩
 rw[An alV];exact⟨_,rfl,.inr ⟨by omega,f,q3⟩⟩
structure Small (p:aE):Prop where
 n:zS zF p.aK+zS zL p.aH<=1048576
 f:∀x∈p.aK,FT x
 c:∀x∈p.aH,CT x
theorem ad1 {p:aE} (h:Small p) {f:ar} (hf:f∈p.aK):zF f<=1048576:=by
 have:=tN (z:=zF) hf;have:=h.n;omega
theorem ad2 {p:aE} (h:Small p) {c:aq} (hc:c∈p.aH):zL c<=1048576:=by
 have:=tN (z:=zL) hc;have:=h.n;omega
theorem Small.pb {p:aE} (h:Small p):PB p:=by
 have h1:=sd (z:=zF) p.aK;have h2:=sd (z:=zL) p.aH;have h3:=h.n;refine⟨by omega,by omega,λf hf=>?_,λc hc=>?_⟩
 ·have h4:=ad1 h hf;unfold zF at h4;have h5:=h.f f hf;exact⟨by have:=h5.nm;omega,by omega,by omega,by omega,by omega⟩
 ·have h4:=ad2 h hc;have h6:=sd (z:=zE) c.aM;unfold zL at h4;have h5:=h.c c hc;exact⟨by omega,by omega,λx a=>by have:=(h5.fs x a).2;omega,λm hm=>by have:=h5.ms m hm;omega⟩
theorem ad3 (c:aq):zK c<=2*zL c:=by
 have:∀l:List aC,zS zD l<=2*zS zE l:=by
  intro l;induction l with
  | nil=>exact ahy _
  | cons x l a=>
   rw[oM,oM];have:=pf x.aQ;simp only[zD,zE];omega
 have:=this c.aM;unfold zK zL;omega
theorem Small.zp {p:aE} (h:Small p):zP p<=4194304:=by
 have:∀l:List aq,zS zK l<=2*zS zL l:=by
  intro l;induction l with
  | nil=>exact ahy _
  | cons x l a=>
   rw[oM,oM];have:=ad3 x;omega
 have:=this p.aH;have:=h.n;unfold zP;omega
theorem B8 (a:List TParam) (hn:a.length<=2000000):lP a=some a:=by
 unfold lP;have e:=rb a (L:=iN a) (λl k b hl=>by rw[iN,As alV,aV b,sb,aV alV,sb,aO alV];rfl) (λl=>by rw[iN,An alV]) a.length 0 (List.replicate a.length default) alV alV alW (λj h=>absurd h alV);rw[show((0:Nat):Int)=0 from rfl]at e;rw[mk_eq hn alV,sb,e];rfl
theorem Jm (a:List aW) (hn:a.length<=2000000):mC a=some a:=by
 unfold mC;have e:=rb a (L:=gV a) (λl k b hl=>by rw[gV,As alV,aV b,sb,aV alV,sb,aO alV];rfl) (λl=>by rw[gV,An alV]) a.length 0 (List.replicate a.length default) alV alV alW (λj h=>absurd h alV);rw[show((0:Nat):Int)=0 from rfl]at e;rw[mk_eq hn alV,sb,e];rfl
theorem QB (a:List ak) (hn:a.length<=2000000):ri a=some a:=by
 unfold ri;have e:=rb a (L:=kE a) (λl k b hl=>by rw[kE,As alV,aV b,sb,aV alV,sb,aO alV];rfl) (λl=>by rw[kE,An alV]) a.length 0 (List.replicate a.length default) alV alV alW (λj h=>absurd h alV);rw[show((0:Nat):Int)=0 from rfl]at e;rw[mk_eq hn alV,sb,e];rfl
theorem Jn (a:List aD) (hn:a.length<=2000000):mD a=some a:=by
 unfold mD;have e:=rb a (L:=gW a) (λl k b hl=>by rw[gW,As alV,aV b,sb,aV alV,sb,aO alV];rfl) (λl=>by rw[gW,An alV]) a.length 0 (List.replicate a.length default) alV alV alW (λj h=>absurd h alV);rw[show((0:Nat):Int)=0 from rfl]at e;rw[mk_eq hn alV,sb,e];rfl
theorem QC (a:ar) (h:FB a):rj a=some a:=by
 unfold rj;rw[B8 _ h.ps,sb,B8 _ h.us,sb,Jm _ h.sl,sb,QB _ h.cd,sb]
theorem Ol (a:List ar) (hn:a.length<=2000000) (h:∀x∈a,FB x):pY a=some a:=by
 unfold pY;have e:=rb a (L:=jI a) (λl k b hl=>by rw[jI,As alV,aV b,sb,QC _ (h _ (ahD b)),sb,aV alV,sb,aO alV];rfl) (λl=>by rw[jI,An alV]) a.length 0 (List.replicate a.length default) alV alV alW (λj h=>absurd h alV);rw[show((0:Nat):Int)=0 from rfl]at e;rw[mk_eq hn alV,sb,e];rfl
theorem Om:∀(n:Nat),n<=2000000->∀v:ae,v.wt<=n->kY v=some v:=by
 intro n;induction n with
 | zero=>intro _ v hv;have:=pf v;omega
 | succ n b=>
  intro hn v hv;have c:=v.ub;have d:=zB v.aw
  have e:=rb v.aw (L:=iP v.aw) (λl k a hl=>by
   have f:=uN _ _ (ahD a)
   have he:sJ v.aw[k]=some v.aw[k]:=by
    rw[sJ,b alV _ alV,sb];cases v.aw[k];rfl
   rw[iP,As alV,aV a,sb,he,sb,aV alV,sb,aO alV];rfl) (λl=>by rw[iP,An alV]) v.aw.length 0 (List.replicate v.aw.length default) alV alV alW (λj h=>absurd h alV)
  rw[show((0:Nat):Int)=0 from rfl]at e;rw[kY,uF,mk_eq alV alV,sb,e,sb,sb];cases v;rfl
theorem On (x:aC) (h:x.aQ.wt<=2000000):pZ x=some x:=by
 unfold pZ;rw[Om _ (ahy _) _ h,sb]
theorem LH (a:List aC) (hn:a.length<=2000000) (h:∀x∈a,x.aQ.wt<=2000000):nV a=some a:=by
 unfold nV;have e:=rb a (L:=iQ a) (λl k b hl=>by rw[iQ,As alV,aV b,sb,On _ (h _ (ahD b)),sb,aV alV,sb,aO alV];rfl) (λl=>by rw[iQ,An alV]) a.length 0 (List.replicate a.length default) alV alV alW (λj h=>absurd h alV);rw[show((0:Nat):Int)=0 from rfl]at e;rw[mk_eq hn alV,sb,e];rfl
theorem Oo (a:aq) (h:CB a):p6 a=some a:=by
 unfold p6;rw[LH _ h.fs h.iw,sb,Jn _ h.ms,sb]
theorem LI (a:List aq) (hn:a.length<=2000000) (h:∀x∈a,CB x):nW a=some a:=by
 unfold nW;have e:=rb a (L:=iR a) (λl k b hl=>by rw[iR,As alV,aV b,sb,Oo _ (h _ (ahD b)),sb,aV alV,sb,aO alV];rfl) (λl=>by rw[iR,An alV]) a.length 0 (List.replicate a.length default) alV alV alW (λj h=>absurd h alV);rw[show((0:Nat):Int)=0 from rfl]at e;rw[mk_eq hn alV,sb,e];rfl
theorem I0 (p:aE) (h:PB p):dM p=some p:=by
 unfold dM;rw[Ol _ h.fl h.fb,sb,LI _ h.cl h.cb,sb]
structure Fits (a:ar):Prop where
 code:a.ah.length<=2000000
 slots:a.au.length<=2000000
 params:a.ao.length<=2000000
 Gc:a.aI.length<=2000000
 name:a.ay.length<=2000000
def Bm (code:List ak) (at_:Nat):Option Nat:=if(gC code at_).aN=27 then some (gC code at_).fA.toNat else if(gC code at_).aN=1/\at_+1<code.length then some (at_+1)else none
def wk (code:List ak):Nat->Nat->List Int
 | 0,_=>[]
 | f+1,a=>match Bm code a with
  | none=>[]
  | some b=>(b:Int)::wk code f b
def Ho (code:List ak):Prop:=∀i,i<code.length->(gC code i).aN=27->0<=(gC code i).fA/\(gC code i).fA<code.length
theorem abj {code:List ak} (hj:Ho code) {a b:Nat} (ha:a<code.length) (h:Bm code a=some b):b<code.length:=by
 unfold Bm at h;by_cases h1:(gC code a).aN=27
 ·rw[As h1]at h;injection h with h;have:=hj a ha h1;omega
 ·rw[An h1]at h;by_cases h2:(gC code a).aN=1/\a+1<code.length
  ·rw[As h2]at h;injection h with h;omega
  ·rw[An h2]at h;cases h
theorem E3 {code:List ak} (hj:Ho code) (hn:code.length<=2000000):∀(f y a:Nat) (l:List Int),y+f=code.length->a<code.length->l.length<=y+1->
  ∃o,fW code (a:Int) l (y:Int)=some o/\(o=.inl (l++wk code f a)\/o=.inr (l++wk code f a))
 | 0,y,a,l,hy,ha,hl=>by
  rw[fW,An alV];exact⟨_,rfl,.inl (by rw[wk,aiL])⟩
 | f+1,y,a,l,hy,ha,hl=>by
  rw[fW,As alV,wB ha,sb,aO alV,wk];by_cases h1:(gC code a).aN=27
  ·have c:=hj a ha h1;have e:Bm code a=some (gC code a).fA.toNat:=by unfold Bm;rw[As h1]
   have b:(gC code a).fA=(((gC code a).fA.toNat:Nat):Int):=by omega
   rw[As h1,sb,eJ alX,sb,e];dsimp only;obtain⟨o,e2,h⟩:=E3 hj hn f (y+1) (gC code a).fA.toNat (l++[(gC code a).fA]) alV alV alX;rw[<-b]at e2;refine⟨o,e2,?_⟩;rw[ait]at h;rw[<-b];exact h
  ·rw[An h1,sb];by_cases h2:(gC code a).aN=1
   ·rw[As h2,aO alV];by_cases h3:a+1<code.length
    ·have e:Bm code a=some (a+1):=by unfold Bm;rw[An h1,As ⟨h2,h3⟩]
     rw[As alV,eJ alX,sb,e];dsimp only;obtain⟨o,e2,h⟩:=E3 hj hn f (y+1) (a+1) (l++[((a+1:Nat):Int)]) alV alV alX;refine⟨o,e2,?_⟩;rw[ait]at h;exact h
    ·have e:Bm code a=none:=by unfold Bm;rw[An h1,An (λq=>h3 q.2)]
     rw[An alV,e];exact⟨_,rfl,.inr alW⟩
   ·have e:Bm code a=none:=by unfold Bm;rw[An h1,An (λq=>h2 q.1)]
    rw[An h2,e];exact⟨_,rfl,.inr alW⟩
theorem ad4 {code:List ak} (hj:Ho code) (hn:code.length<=2000000) {a:Nat} (ha:a<code.length):oz code (a:Int)=some ((a:Int)::wk code code.length a):=by
 unfold oz;obtain⟨o,e,h⟩:=E3 hj hn code.length 0 a [(a:Int)] alV ha alW;rw[show((0:Nat):Int)=0 from rfl]at e;rw[e,sb];rcases h with rfl | rfl<;>rfl
theorem LJ {code:List ak} (hj:Ho code) (hn:code.length<=2000000) (to:Int):∀(f y a:Nat),y+f=code.length->a<code.length->
  ∃r,(dB code to (a:Int) (y:Int)>>=λc=>match c with
   | .inr r=>some r
   | .inl y1=>some (y1,false))=some (r,decide (to∈(a:Int)::wk code f a))/\(to∉(a:Int)::wk code f a->some r=((a:Int)::wk code f a).getLast?)
 | 0,y,a,hy,ha=>by
  have hy:y=code.length:=by omega
  subst hy;rw[dB,As (ajw _),wk];by_cases h:(a:Int)=to
  ·rw[As h,sb];have hm:to∈[(a:Int)]:=by rw[h];simp
   exact⟨(a:Int),by rw[ahI hm],λq=>absurd hm q⟩
  ·have hm:to∉[(a:Int)]:=λq=>h (aiQ.1 q).symm;rw[An h,As rfl,aO alV,dB,An alV,sb];exact⟨(a:Int),by rw[ahG hm],λ_=>rfl⟩
 | f+1,y,a,hy,ha=>by
  rw[dB,As alV,wk];by_cases h:(a:Int)=to
  ·rw[As h,sb];have hm:∀r:List Int,to∈(a:Int)::r:=λr=>by rw[h];simp
   exact⟨(a:Int),by rw[ahI (hm _)],λq=>absurd (hm _) q⟩
  have h':¬to=(a:Int):=λq=>h q.symm;rw[An h,An alV,wB ha,sb,aO alV,aO alV]
  have more:∀b:Nat,Bm code a=some b->∃r,(dB code to (b:Int) ((y+1:Nat):Int)>>=λc=>match c with
   | .inr r=>some r
   | .inl y1=>some (y1,false))=some (r,decide (to∈(a:Int)::(b:Int)::wk code f b))/\(to∉(a:Int)::(b:Int)::wk code f b->some r=((a:Int)::(b:Int)::wk code f b).getLast?):=λb d=>by
   obtain⟨r,e,h2⟩:=LJ hj hn to f (y+1) b alV (abj hj ha d);refine⟨r,?_,λq=>?_⟩
   ·rw[e];congr 2;rw[ajB,ahM (a:=to) (b:=(a:Int))];exact⟨.inr,λq=>q.resolve_left h'⟩
   ·rw[List.getLast?_cons_cons];exact h2 (λz=>q (ahZ _ z))
  have stop:Bm code a=none->∃r,((some (.inr ((a:Int),false)):Option (Int ⊕ (Int×Bool)))>>=λc=>match c with
   | .inr r=>some r
   | .inl y1=>some (y1,false))=some (r,decide (to∈[(a:Int)]))/\(to∉[(a:Int)]->some r=[(a:Int)].getLast?):=λ_=>
   ⟨(a:Int),by simp [h',sb],λ_=>rfl⟩
  by_cases h1:(gC code a).aN=27
  ·have d:=hj a ha h1;have e:Bm code a=some (gC code a).fA.toNat:=by unfold Bm;rw[As h1]
   obtain⟨b,g⟩:∃b:Nat,(gC code a).fA=(b:Int):=⟨(gC code a).fA.toNat,by omega⟩;rw[g,ahF]at e;rw[As h1,sb,g,e];exact more _ e
  ·rw[An h1,sb];by_cases h2:(gC code a).aN=1
   ·rw[As h2];by_cases h3:a+1<code.length
    ·have e:Bm code a=some (a+1):=by unfold Bm;rw[An h1,As ⟨h2,h3⟩]
     rw[As alV,e];exact more _ e
    ·have e:Bm code a=none:=by unfold Bm;rw[An h1,An (λq=>h3 q.2)]
     rw[An alV,e];exact stop e
   ·have e:Bm code a=none:=by unfold Bm;rw[An h1,An (λq=>h2 q.1)]
    rw[An h2,e];exact stop e
theorem ad5 {code:List ak} (hj:Ho code) (hn:code.length<=2000000) (to:Int) {a:Nat} (ha:a<code.length):
  ∃r,qj code (a:Int) to=some (r,decide (to∈(a:Int)::wk code code.length a))/\(to∉(a:Int)::wk code code.length a->some r=((a:Int)::wk code code.length a).getLast?):=by
 unfold qj;exact LJ hj hn to code.length 0 a alV ha
theorem LK {code:List ak} (hA:∀i (hi:i<code.length),vU (code[i]).aN=true->0<=(code[i]).fA/\(code[i]).fA<code.length):Ho code:=λi hi h=>by
 rw[Xy hi]at h ⊢;exact hA i hi (by rw[h];rfl)
theorem tl (a:ar) (ha:Fits a):∃b,eW a=some b/\eX a=some b/\(b=true->∃l,dA a=some (l,true)/\gE a=some (l,true)/\l.length=a.ah.length/\
   (∀i (hi:i<a.ah.length),vU (a.ah[i]).aN=true->0<=(a.ah[i]).fA/\(a.ah[i]).fA<a.ah.length)):=
 Gw a ha.code ha.slots ha.params ha.Gc ha.name
def W4 (K:List Int) (x:Int):Nat:=K.countP λk=>decide (k<x)
def mv (x:ak) (K:List Int):ak:=if vU x.aN=true then ak.mk x.aN (W4 K x.fA:Int) x.fB x.fS x.fT else x
theorem Jo {K:List Int} {k:Nat} (h:k<K.length):K.drop k=gI K k::K.drop (k+1):=by
 rw[ahY h,Dz h]
theorem E4 (x:ak) (K:List Int) (b:K.length<=3000000):∀(f k c:Nat),K.length<=k+f->k<=K.length->c<=k->lV x K (c:Int) (k:Int)=some ((c+W4 (K.drop k) x.fA:Nat):Int)
 | f,k,c,hf,d,hc=>by
  rw[lV];by_cases h:k<K.length
  ·obtain⟨g,rfl⟩:∃g,f=g+1:=⟨f - 1,by omega⟩;rw[As alV,ph h,sb,aO alV,aO alV,Jo h];unfold W4;rw[List.countP_cons];by_cases a:gI K k<x.fA
   ·rw[As a,E4 x K b g (k+1) (c+1) alV alV alV,As (by simpa using a)];congr 2;unfold W4;omega
   ·rw[An a,E4 x K b g (k+1) c alV alV alV,An (by simpa using a)];rfl
  ·rw[An alV,aik alV];rfl
theorem Ux (x:ak) (K:List Int) (a:K.length<=3000000):ud x K=some (mv x K):=by
 unfold ud mv;rw[Pu,sb];cases b:vU x.aN
 ·rw[An alW,sb,An alW]
 ·have e:=E4 x K a K.length 0 0 alV alV alV;rw[show((0:Nat):Int)=0 from rfl,aib,ahx]at e;rw[As rfl,e,sb,sb,As rfl]
structure tJ (w a:ar):Prop where
 name:w.ay=a.ay
 params:w.ao=a.ao
 Gc:w.aI=a.aI
 slots:w.au=a.au
 gen:w.bG=a.bG
 code:w.ah.length<=a.ah.length
theorem tJ.Qk (a:ar):tJ a a:=⟨rfl,rfl,rfl,rfl,rfl,ahy _⟩
theorem tJ.trans {a b c:ar} (h:tJ a b) (g:tJ b c):tJ a c:=⟨h.name.trans g.name,h.params.trans g.params,h.Gc.trans g.Gc,h.slots.trans g.slots,h.gen.trans g.gen,air h.code g.code⟩
theorem tJ.fits {w a:ar} (h:tJ w a) (g:Fits a):Fits w:=⟨air h.code g.code,by rw[h.slots];exact g.slots,by rw[h.params];exact g.params,by rw[h.Gc];exact g.Gc,by rw[h.name];exact g.name⟩
theorem Hp (l:List TParam) (hn:l.length<=2000000):oy l=some l:=by
 unfold oy;rw[eJ alX,sb];rfl
theorem QD (l:List aW) (hn:l.length<=2000000):wD l=some l:=by
 unfold wD;rw[eJ alX,sb];rfl
theorem QE (l:List ak) (hn:l.length<=2000000):wE l=some l:=by
 unfold wE;rw[eJ alX,sb];rfl
theorem xe (a:ar) (ha:Fits a):fg a=some a:=by
 unfold fg;rw[Hp _ ha.params,sb,Hp _ ha.Gc,sb,QD _ ha.slots,sb,QE _ ha.code,sb]
theorem xf (a:ar) (ha:Fits a):fx a=some a:=by
 have q1:=ha.params;have q2:=ha.Gc;have q3:=ha.slots;have q4:=ha.code;unfold fx;rw[eJ alX,sb,sb,eJ alX,sb,sb,eJ alX,sb,sb,eJ alX,sb];rfl
theorem Uy {α:Type} (th:α->α) (code:List α) (L:List α->Int->Option (List α)) (hs:∀(l:List α) (k:Nat) (h:k<code.length),l.length=code.length->l[k]? =some code[k]->L l (k:Int)=L (l.set k (th code[k])) ((k+1:Nat):Int))
  (he:∀l:List α,l.length=code.length->L l (code.length:Int)=some l):L code 0=some (code.map th):=by
 suffices h:∀(g k:Nat) (l:List α),code.length<=k+g->k<=code.length->l.length=code.length->(∀j,j<k->l[j]? =(code.map th)[j]?)->(∀j,k<=j->l[j]? =code[j]?)->L l (k:Int)=some (code.map th)from
  h code.length 0 code alV alV rfl (λj hj=>absurd hj alV) (λj _=>rfl)
 intro g
 have fin:∀(k:Nat) (l:List α),k=code.length->l.length=code.length->(∀j,j<k->l[j]? =(code.map th)[j]?)->L l (k:Int)=some (code.map th):=λk l a hl h1=>by
  subst a;rw[he l hl];congr 1;refine aiT λj=>?_;by_cases h:j<code.length
  ·exact h1 j h
  ·rw[ahO alV,ahO alX]
 induction g with
 | zero=>intro k l hg a hl h1 _;exact fin k l alV hl h1
 | succ g b=>
  intro k l hg a hl h1 h2;by_cases hc:k<code.length
  ·rw[hs l k hc hl (by rw[h2 k alV,abF hc])];refine b (k+1) _ alV alV ams (λj hj=>?_) (λj hj=>?_)
   ·rw[aiG];by_cases h:k=j
    ·subst h;rw[As rfl,As alV];simp [hc]
    ·rw[An h];exact h1 j alV
   ·rw[aiG,An alV];exact h2 j alV
  ·exact fin k l alV hl h1
def LL (code:List ak) (a:Int):Int:=(((a:Int)::wk code code.length a.toNat).getLast?).getD 0
def th (code:List ak) (x:ak):ak:=if vU x.aN=true then⟨x.aN,LL code x.fA,x.fB,x.fS,x.fT⟩else x
theorem Uz {α:Type} [Inhabited α] {l:List α} {k:Nat} {x:α} (h:l[k]? =some x):idx l (k:Int)=some x:=by
 obtain⟨a,e⟩:=Is.1 h;rw[aV a,e]
theorem LM {α:Type} {l:List α} {k:Nat} {x:α} (h:l[k]? =some x):l.set k x=l:=by
 refine aiT λj=>?_;rw[aiG];by_cases q:k=j
 ·subst q;obtain⟨a,e⟩:=Is.1 h;rw[As rfl,As a,h]
 ·rw[An q]
section
variable (a:ar)(ha:Fits a)(hA:∀i (hi:i<a.ah.length),vU (a.ah[i]).aN=true->0<=(a.ah[i]).fA/\(a.ah[i]).fA<a.ah.length)
include ha hA
theorem Jp:dX a a.ah 0=some (a.ah.map (th a.ah)):=by
 have hc:=ha.code;refine Uy (th a.ah) a.ah _ (λl k c hl he=>?_) (λl hl=>by rw[dX,An alV]);have d:=hA k c;rw[dX,As alV,aV c,sb,Pu,sb,aO alV];generalize i:a.ah[k]=x at d he ⊢;unfold th;cases g:vU x.aN
 ·rw[An alW,An alW,LM he]
 ·obtain⟨h0,h1⟩:=d g;obtain⟨t,e⟩:∃t:Nat,x.fA=(t:Int):=⟨x.fA.toNat,by omega⟩;have f:=ad4 (LK hA) hc (a:=t) alV;rw[<-e]at f
  have hlen:∀(n t:Nat),(wk a.ah n t).length<=n:=λn=>by
   induction n with
   | zero=>intro t;simp [wk]
   | succ n h=>
    intro t;unfold wk;cases Bm a.ah t with
    | none=>simp
    | some b=>have:=h b;simp;exact this
  have j:=hlen a.ah.length t;rw[As rfl,As rfl,f,sb,BD (x:=(((x.fA::wk a.ah a.ah.length t).length:Nat):Int) - 1) (n:=(wk a.ah a.ah.length t).length) alW alV]
  have el:idx (x.fA::wk a.ah a.ah.length t) ((wk a.ah a.ah.length t).length:Int)=some (LL a.ah x.fA):=by
   rw[aV alW];unfold LL;rw[List.getLast?_eq_getElem?,e,ahF];simp
  rw[el,sb,Uz he,sb,ahF]
theorem Jq:dW a a.ah 0=some (a.ah.map (th a.ah)):=by
 have hc:=ha.code;refine Uy (th a.ah) a.ah _ (λl k f hl he=>?_) (λl hl=>by rw[dW,An alV]);have g:=hA k f;rw[dW,As alV,aV f,sb,RW,sb,aO alV];generalize o:a.ah[k]=x at g he ⊢;unfold th;cases j:vU x.aN
 ·rw[An alW,An alW,LM he]
 ·obtain⟨h0,h1⟩:=g j;obtain⟨t,c⟩:∃t:Nat,x.fA=(t:Int):=⟨x.fA.toNat,by omega⟩;obtain⟨r,h,i⟩:=ad5 (LK hA) hc (-1) (a:=t) alV;rw[<-c]at h i
  have d:∀(n t:Nat),(-1:Int)∉wk a.ah n t:=λn=>by
   induction n with
   | zero=>intro t;simp [wk]
   | succ n m=>
    intro t;unfold wk;cases Bm a.ah t with
    | none=>simp
    | some b=>
     have:=m b;intro hm;rcases ahM.1 hm with q | q
     ·omega
     ·exact this q
  have e:=i (by
   intro hm;rcases ahM.1 hm with q | q
   ·omega
   ·exact d _ _ q)
  have el:r=LL a.ah x.fA:=by
   unfold LL;rw[c,ahF,<-c,<-e];rfl
  rw[As rfl,As rfl,sb,h,sb,el];dsimp only;rw[Uz he,sb,ahF]
end
theorem Lc (a:ar) (ha:Fits a):∃w,lv a=some w/\lr a=some w/\tJ w a:=by
 unfold lv lr;obtain⟨b,c,d,e⟩:=tl a ha;rw[xe a ha,xf a ha,sb,sb,c,d,sb,sb];cases b
 ·rw[An alW,An alW];exact⟨_,rfl,rfl,tJ.Qk a⟩
 ·obtain⟨H,f,g,hH,hA⟩:=e rfl;rw[As rfl,As rfl,Jp a ha hA,Jq a ha hA,sb];exact⟨_,rfl,rfl,⟨rfl,rfl,rfl,rfl,rfl,by simp⟩⟩
section
variable (code:List ak)(H:List Int)
def Hq (i:Nat):Bool:=decide (0<=gI H i)&&!decide ((gC code i).aN=1)
def kp (k:Nat):List Int:=((List.range k).filter (Hq code H)).map λi:Nat=>(i:Int)
def QZ (k:Nat):List Int:=(List.range k).map λi=>((kp code H i).length:Int)
theorem Jr (k:Nat):kp code H (k+1)=if Hq code H k=true then kp code H k++[(k:Int)]else kp code H k:=by
 unfold kp;rw[List.range_succ,List.filter_append,aiS];cases h:Hq code H k
 ·rw[An alW];simp [h]
 ·rw[As rfl];simp [h]
theorem UA (k:Nat):QZ code H (k+1)=QZ code H k++[((kp code H k).length:Int)]:=by
 unfold QZ;rw[List.range_succ,aiS];rfl
theorem E5 (k:Nat):(kp code H k).length<=k:=by
 unfold kp;rw[aiY];have:=List.length_filter_le (Hq code H) (List.range k);simpa using this
theorem UB {k:Nat} {x:Int} (h:x∈kp code H k):∃i:Nat,x=(i:Int)/\i<k:=by
 unfold kp at h;obtain⟨i,hi,rfl⟩:=aif.1 h;exact⟨i,rfl,ajk.1 (List.mem_filter.1 hi).1⟩
theorem Oq (t:Nat):∀d:Nat,W4 (kp code H (t+d)) (t:Int)=(kp code H t).length
 | 0=>by
  unfold W4;exact List.countP_eq_length.2 (λx a=>by obtain⟨i,rfl,hi⟩:=UB code H a;simpa using hi)
 | d+1=>by
  rw[<-ajJ,Jr];split
  ·unfold W4;rw[List.countP_append];have:=Oq t d;unfold W4 at this;rw[this];simp;omega
  ·exact Oq t d
theorem abk {k t:Nat} (h:t<k):gI (QZ code H k) t=((kp code H t).length:Int):=by
 unfold gI QZ;simp [ahA,h]
end
theorem Yk (a:ar) (H:List Int) (hn:a.ah.length<=2000000) (hH:H.length=a.ah.length):∀(f k:Nat),a.ah.length<=k+f->k<=a.ah.length->fZ a H (kp a.ah H k) (k:Int)=some (kp a.ah H a.ah.length)
 | f,k,hf,c=>by
  rw[fZ];by_cases hc:k<a.ah.length
  ·obtain⟨g,rfl⟩:∃g,f=g+1:=⟨f - 1,by omega⟩;have b:=Yk a H hn hH g (k+1) alV alV;have hl:=E5 a.ah H k;rw[Jr]at b;unfold Hq at b;rw[As alV,wB hc,sb,ph alV,sb,aO alV];by_cases h1:0<=gI H k
   ·rw[As (show gI H k>=0 from h1)];by_cases h2:(gC a.ah k).aN=1
    ·rw[As h2];rw[An (by simp [h2])]at b;exact b
    ·rw[An h2,eJ alX,sb];rw[As (by simp [h1,h2])]at b;exact b
   ·rw[An (show ¬gI H k>=0 from h1)];rw[An (by simp [h1])]at b;exact b
  ·have:k=a.ah.length:=by omega
   subst this;rw[An alV]
theorem UC (a:ar) (H:List Int) (hn:a.ah.length<=2000000) (hH:H.length=a.ah.length):∀(f k:Nat),a.ah.length<=k+f->k<=a.ah.length->
  fX a H (kp a.ah H k) (QZ a.ah H k) (k:Int)=some (kp a.ah H a.ah.length,QZ a.ah H a.ah.length)
 | f,k,hf,c=>by
  rw[fX];by_cases hc:k<a.ah.length
  ·obtain⟨g,rfl⟩:∃g,f=g+1:=⟨f - 1,by omega⟩;have b:=UC a H hn hH g (k+1) alV alV;have hl:=E5 a.ah H k;have d:(QZ a.ah H k).length=k:=by simp [QZ]
   rw[Jr,UA]at b;unfold Hq at b;rw[As alV,eJ alX,sb,ph alV,sb,aO alV];by_cases h1:0<=gI H k
   ·rw[As (show gI H k>=0 from h1),wB hc,sb];by_cases h2:(gC a.ah k).aN=1
    ·rw[As h2];rw[An (by simp [h2])]at b;exact b
    ·rw[An h2,eJ alX,sb];rw[As (by simp [h1,h2])]at b;exact b
   ·rw[An (show ¬gI H k>=0 from h1)];rw[An (by simp [h1])]at b;exact b
  ·have:k=a.ah.length:=by omega
   subst this;rw[An alV]
theorem UD {α:Type} (K:List Int) (g:Int->α) (L:List α->Int->Option (List α)) (hs:∀(l:List α) (k:Nat) (h:k<K.length),l.length=k->L l (k:Int)=L (l++[g K[k]]) ((k+1:Nat):Int))
  (he:∀l:List α,L l (K.length:Int)=some l):L [] 0=some (K.map g):=by
 suffices h:∀(f k:Nat),K.length<=k+f->k<=K.length->L ((K.take k).map g) (k:Int)=some (K.map g) by
  have:=h K.length 0 alV alV;simpa using this
 intro f;induction f with
 | zero=>
  intro k hf a;have:k=K.length:=by omega
  subst this;rw[he,ajV]
 | succ f b=>
  intro k hf a;by_cases hc:k<K.length
  ·rw[hs _ k hc alX,<-b (k+1) alV alV,<-aje hc,aiS];rfl
  ·have:k=K.length:=by omega
   subst this;rw[he,ajV]
theorem ad6 (a:ar) (H:List Int) (ha:Fits a):iZ a (kp a.ah H a.ah.length) [] 0=some ((kp a.ah H a.ah.length).map λk=>mv (gC a.ah k.toNat) (kp a.ah H a.ah.length)):=by
 have hc:=ha.code;have hl:=E5 a.ah H a.ah.length;refine UD _ _ _ (λl k b d=>?_) (λl=>by rw[iZ,An alV]);obtain⟨i,c,hi⟩:=UB a.ah H (ahD b);rw[iZ,As alV,aV b,sb,c,wB hi,sb,Ux _ _ alV,sb,eJ alX,sb,aO alV,ahF]
theorem ad7 (a:ar) (H:List Int) (ha:Fits a) (hA:∀i (hi:i<a.ah.length),vU (a.ah[i]).aN=true->0<=(a.ah[i]).fA/\(a.ah[i]).fA<a.ah.length):fY a (kp a.ah H a.ah.length) (QZ a.ah H a.ah.length) [] 0=some ((kp a.ah H a.ah.length).map λk=>mv (gC a.ah k.toNat) (kp a.ah H a.ah.length)):=by
 have hc:=ha.code;have hl:=E5 a.ah H a.ah.length;refine UD _ _ _ (λl k c g=>?_) (λl=>by rw[fY,An alV]);obtain⟨i,d,hi⟩:=UB a.ah H (ahD c);have b:=hA i hi;rw[<-Xy hi]at b;rw[fY,As alV,aV c,sb,d,wB hi,sb,RW,sb,aO alV,ahF];unfold mv;generalize gC a.ah i=x at b ⊢;cases f:vU x.aN
 ·rw[An alW,eJ alX,sb,An alW]
 ·have b:=b f;obtain⟨t,h4⟩:∃t:Nat,x.fA=(t:Int):=⟨x.fA.toNat,by omega⟩
  have e:W4 (kp a.ah H a.ah.length) (t:Int)=(kp a.ah H t).length:=by
   have:=Oq a.ah H t (a.ah.length - t)
   rwa [show t+(a.ah.length - t)=a.ah.length by omega]at this
  rw[As rfl,h4,ph (by simp [QZ];omega),sb,abk a.ah H alV,eJ alX,sb,As rfl,e]
theorem Ql (a:ar) (ha:Fits a):∃w K,oB a=some (w,K)/\oA a=some (w,K)/\tJ w a/\K.length<=2000000:=by
 unfold oB oA;obtain⟨h,i,j,k⟩:=tl a ha;obtain⟨l,b,m,d,_⟩:=heights a ha.code;rw[xe a ha,xf a ha,i,j,sb,d];have hc:=ha.code;cases h
 ·simp only[sb];rw[An alW];cases b
  ·exact⟨_,_,rfl,rfl,tJ.Qk a,by simp⟩
  ·exact⟨_,_,rfl,rfl,tJ.Qk a,by simp⟩
 ·obtain⟨H,n,c,hH,hA⟩:=k rfl;rw[d]at c;injection c with c;injection c with q1 q2;subst q1 q2;have e:=Yk a l hc hH a.ah.length 0 alV alV;have f:=UC a l hc hH a.ah.length 0 alV alV;have g:kp a.ah l 0=[]:=rfl;have z2:QZ a.ah l 0=[]:=rfl;rw[g,show((0:Nat):Int)=0 from rfl]at e;rw[g,z2,show((0:Nat):Int)=0 from rfl]at f;simp only[sb,m,aiz,e,f,ad6 a l ha,ad7 a l ha hA];have hl:=E5 a.ah l a.ah.length;exact⟨_,_,rfl,rfl,⟨rfl,rfl,rfl,rfl,rfl,by simp;omega⟩,by omega⟩
def dv (b:UInt8):Int:=(b.toNat:Int) - 48
theorem E6 {b:UInt8} (h:fu b=true):0<=dv b/\dv b<=9:=by unfold fu at h;unfold dv;simp at h;omega
theorem dw {b:UInt8} (h:fu b=true):av (IntKind.u8.wrap ((b.toNat:Int) - 48))=dv b:=by
 have:=E6 h;unfold dv at this ⊢;rw[IntKind.wrap_u8,av,Cu alV alV];omega
def val:Int->aW->Int
 | a,[]=>a
 | a,b::r=>val (a*10+dv b) r
theorem se:∀(t:aW) (a:Int),0<=a->t.all fu=true->a<=val a t
 | [],a,_,_=>ajw _
 | b::r,a,h,hd=>by
  simp only[aiA,No]at hd;have:=E6 hd.1;have:=se r (a*10+dv b) alV hd.2;unfold val;omega
theorem zc {t:aW} {k:Nat} (h:k<t.length):t.drop k=t.getD k 0::t.drop (k+1):=by
 rw[ahY h];simp [ahA,h]
theorem Pb (t:aW) (a:t.length<=10):∀(f k:Nat) (y:Int),t.length<=k+f->k<=t.length->0<=y->y<10 ^ k->
  hU t y (k:Int)=some (if(t.drop k).all fu=true then .inl (val y (t.drop k))else .inr false)
 | f,k,y,hf,c,h0,h1=>by
  rw[hU];by_cases hc:k<t.length
  ·obtain⟨g,rfl⟩:∃g,f=g+1:=⟨f - 1,by omega⟩;rw[As alV,jN hc,sb,MO,sb,zc hc,aiA];cases hd:fu (t.getD k 0)
   ·rw[An alW,An alW]
   ·have d:=E6 hd
    have b:(10:Int) ^ k<=10 ^ 9:=by
     have:=Nat.pow_le_pow_right (n:=10) alV (show k<=9 by omega)
     exact_mod_cast this
    have hy:y<=1000000000:=by omega
    rw[As rfl,sb,dw hd,aO alV,av,av,Cu (x:=y*10) alV alV,Cu alV alV,Pb t a g (k+1) _ alV alV alV (by rw[Int.pow_succ];omega),aiB];rfl
  ·rw[An alV,aik alV];rfl
def dn:aW->Nat
 | []=>0
 | b::r=>if fu b=true then dn r+1 else 0
def mm (m:Int):Int->aW->Int
 | a,[]=>a
 | a,b::r=>if fu b=true then mm m (min (a*10+dv b) m) r else a
theorem LN (t:aW) (hl:t.length<=1000):∀(f k:Nat) (y:Int),t.length<=k+f->k<=t.length->0<=y->y<=1000000001->
  kI t y (k:Int)=some (mm 1000000001 y (t.drop k),((k+dn (t.drop k):Nat):Int))
 | f,k,y,hf,b,h0,h1=>by
  rw[kI];by_cases hc:k<t.length
  ·obtain⟨g,rfl⟩:∃g,f=g+1:=⟨f - 1,by omega⟩;have hw:av ((t.getD k 0).toNat:Int)=((t.getD k 0).toNat:Int):=wb _;have a:decide ((48:Int)<=((t.getD k 0).toNat:Int)/\((t.getD k 0).toNat:Int)<=57)=fu (t.getD k 0):=by unfold fu;rw[aic];simp;omega
   rw[As alV,jN hc,sb,hw,fN,sb,a,zc hc];cases hd:fu (t.getD k 0)
   ·rw[An alW];unfold mm dn;rw[hd];rfl
   ·have c:=E6 hd
    have hm:sP (av ((av (10*y))+(av (IntKind.u8.wrap (((t.getD k 0).toNat:Int) - 48))))) 1000000001=some (min (y*10+dv (t.getD k 0)) 1000000001):=by
     unfold sP;rw[dw hd,av,av,Cu (x:=10*y) alV alV,Cu alV alV];by_cases h:(1000000001:Int)<10*y+dv (t.getD k 0)
     ·rw[As h];congr 1;omega
     ·rw[An h];congr 1;omega
    rw[As rfl,sb,hm,sb,aO alV,LN t hl g (k+1) _ alV alV alV alV];conv=>rhs;unfold mm dn
    rw[hd,As rfl,As rfl];congr 2;omega
  ·rw[An alV,aik alV];rfl
theorem qo {m:Int}:∀(t:aW) (a:Int),0<=a->a<=m->t.all fu=true->mm m a t=min (val a t) m
 | [],a,h0,h1,_=>by unfold mm val;omega
 | b::r,a,h0,h1,hd=>by
  simp only[aiA,No]at hd;have c:=E6 hd.1;unfold mm val;rw[As hd.1];by_cases h:a*10+dv b<=m
  ·rw[show min (a*10+dv b) m=a*10+dv b by omega];exact qo r _ alV h hd.2
  ·rw[show min (a*10+dv b) m=m by omega,qo r m alV (ajw _) hd.2];have q1:=se r m alV hd.2;have q2:=se r (a*10+dv b) alV hd.2;omega
theorem vm:∀(t:aW),dn t=t.length↔t.all fu=true
 | []=>by simp [dn]
 | b::r=>by
  unfold dn;rw[aiA];cases hd:fu b
  ·simp
  ·have:=vm r;simp only[aiz,ahN,aiB];rw[<-this];omega
theorem E7 (t:aW) (hl:t.length<=1000):∀(f k:Nat) (y:Int),t.length<=k+f->k<=t.length->0<=y->y<=1000000000->
  jj t (k:Int) y=some (mm 1000000000 y (t.drop k))
 | f,k,y,hf,a,h0,h1=>by
  rw[jj];by_cases hc:k<t.length
  ·obtain⟨g,rfl⟩:∃g,f=g+1:=⟨f - 1,by omega⟩;rw[As alV,jN hc,sb,MO,sb,zc hc];cases hd:fu (t.getD k 0)
   ·rw[An alW];unfold mm;rw[hd];rfl
   ·have b:=E6 hd
    have hm:zN (av ((av (y*10))+(av (IntKind.u8.wrap (((t.getD k 0).toNat:Int) - 48))))) 1000000000=some (min (y*10+dv (t.getD k 0)) 1000000000):=by
     unfold zN;rw[dw hd,av,av,Cu (x:=y*10) alV alV,Cu alV alV];by_cases h:(1000000000:Int)<y*10+dv (t.getD k 0)
     ·rw[As h];congr 1;omega
     ·rw[An h];congr 1;omega
    rw[As rfl,sb,hm,sb,aO alV,E7 t hl g (k+1) _ alV alV alV alV];conv=>rhs;unfold mm
    rw[hd,As rfl]
  ·rw[An alV,aik alV];rfl
def numOf (s:aW):Option Int:=
 match s with
 | []=>none
 | b::r=>if b.toNat=45 then(if 1<=r.length/\r.length<=10/\r.all fu=true/\val 0 r<=1000000000 then some (0 - val 0 r)else none)
  else if r.length+1<=10/\(b::r).all fu=true/\val 0 (b::r)<=1000000000 then some (val 0 (b::r))else none
theorem UE {s:aW} {n:Int} (h:numOf s=some n): -1000000000<=n/\n<=1000000000:=by
 unfold numOf at h;split at h
 ·cases h
 ·split at h
  ·split at h
   ·rename_i hc;have:=se _ 0 alV hc.2.2.1;cases h;omega
   ·cases h
  ·split at h
   ·rename_i hc;have:=se _ 0 alV hc.2.1;cases h;omega
   ·cases h
theorem UF (s:aW) (hs:s.length<=500):mO s=some (numOf s).isSome:=by
 unfold mO;cases s with
 | nil=>rw[As rfl,sb,As ama];rfl
 | cons b r=>
  rw[An alW,show nL (b::r) 0=some b from by rw[show(0:Int)=((0:Nat):Int)from rfl,jN alW];rfl,sb]
  have core:∀t:aW,(if(t.length:Int)<1 then some false else(if(t.length:Int)>10 then some false else(hU t 0 0>>=λc=>match c with
    | .inr r=>some r
    | .inl d=>some (decide (d<=1000000000)))))=some (decide (1<=t.length/\t.length<=10/\t.all fu=true/\val 0 t<=1000000000)):=λt=>by
   by_cases h1:(t.length:Int)<1
   ·rw[As h1,ahG alV]
   rw[An h1];by_cases h2:(t.length:Int)>10
   ·rw[As h2,ahG alV]
   have:=Pb t alV t.length 0 0 alV alV alV ama;rw[show((0:Nat):Int)=0 from rfl,aib]at this;rw[An h2,this,sb];cases hd:t.all fu
   ·rw[An alW];simp
   ·rw[As rfl];dsimp only;congr 1;rw[ajB];constructor
    ·intro h;exact⟨by omega,by omega,rfl,h⟩
    ·intro h;exact h.2.2.2
  unfold numOf;by_cases a:b.toNat=45
  ·rw[As alV,show BF (b::r) 1=some r from by unfold BF;rw[As ⟨by omega,by simp;omega⟩];rfl,sb,sb];refine(core r).trans ?_;dsimp only;rw[As a];by_cases hc:1<=r.length/\r.length<=10/\r.all fu=true/\val 0 r<=1000000000
   ·rw[As hc,ahI hc];rfl
   ·rw[An hc,ahG hc];rfl
  ·rw[An alV,sb];refine(core (b::r)).trans ?_;dsimp only;rw[An a];by_cases hc:r.length+1<=10/\(b::r).all fu=true/\val 0 (b::r)<=1000000000
   ·rw[As hc,ahI ⟨by simp,by simpa using hc.1,hc.2⟩];rfl
   ·rw[An hc,ahG (λh=>hc ⟨by simpa using h.2.1,h.2.2⟩)];rfl
theorem ad8 {s:aW} (hs:s.length<=500) {n:Int} (h:numOf s=some n):jT s=some n:=by
 unfold jT;cases s with
 | nil=>cases h
 | cons b r=>
  rw[An alW,show nL (b::r) 0=some b from by rw[show(0:Int)=((0:Nat):Int)from rfl,jN alW];rfl,sb,sb];unfold numOf at h;dsimp only at h;by_cases a:b.toNat=45
  ·rw[As a]at h;by_cases hc:1<=r.length/\r.length<=10/\r.all fu=true/\val 0 r<=1000000000
   ·rw[As hc]at h;cases h;have hv:=se r 0 alV hc.2.2.1;have:=E7 (b::r) alV r.length 1 0 alX alW alV alV;rw[show((1:Nat):Int)=1 from rfl,List.drop_one,List.tail_cons,qo r 0 alV alV hc.2.2.1]at this;rw[As (by rw[aio];omega),sb,this,sb,As (by rw[aio];omega),show min (val 0 r) 1000000000=val 0 r by omega,av,Cu alV alV]
   ·rw[An hc]at h;cases h
  ·rw[An a]at h;by_cases hc:r.length+1<=10/\(b::r).all fu=true/\val 0 (b::r)<=1000000000
   ·rw[As hc]at h;cases h;have hv:=se (b::r) 0 alV hc.2.1;have:=E7 (b::r) alV (r.length+1) 0 0 alW alW alV alV;rw[show((0:Nat):Int)=0 from rfl,aib,qo (b::r) 0 alV alV hc.2.1]at this;rw[An (by rw[aio];omega),sb,this,sb,An (by rw[aio];omega),show min (val 0 (b::r)) 1000000000=val 0 (b::r) by omega]
   ·rw[An hc]at h;cases h
theorem Js (s:aW) (at_:Nat) (hs:s.length<=500) (ha:at_<=s.length):kI s 0 (at_:Int)=some (mm 1000000001 0 (s.drop at_),((at_+dn (s.drop at_):Nat):Int)):=
 LN s alV s.length at_ 0 alV ha alV alV
theorem UG:∀t:aW,dn t<=t.length
 | []=>ahy _
 | b::r=>by
  have:=UG r;unfold dn;split<;>simp<;>omega
theorem LO (m:Int) (hm:0<=m):∀(t:aW) (a:Int),0<=a->a<=m->0<=mm m a t/\mm m a t<=m
 | [],a,h0,h1=>⟨h0,h1⟩
 | b::r,a,h0,h1=>by
  unfold mm;split
  ·rename_i hd;have:=E6 hd;exact LO m hm r _ alV alV
  ·exact⟨h0,h1⟩
theorem Yl (b:UInt8) (r:aW) (hs:(b::r).length<=500):lA (b::r)=some (
  if b.toNat=45 then(if dn r=0 then(0,0)else(0 - mm 1000000001 0 r,((dn r+1:Nat):Int)))
  else(if dn (b::r)=0 then(0,0)else(mm 1000000001 0 (b::r),((dn (b::r):Nat):Int)))):=by
 unfold lA;rw[As (by rw[ahN];omega),show nL (b::r) 0=some b from by rw[show(0:Int)=((0:Nat):Int)from rfl,jN alW];rfl,sb];by_cases a:b.toNat=45
 ·have e:=Js (b::r) 1 hs alW;rw[show((1:Nat):Int)=1 from rfl,List.drop_one,List.tail_cons]at e;rw[As alV,sb,e,sb];dsimp only;rw[As a];have c:=LO 1000000001 alV r 0 alV alV;by_cases h:dn r=0
  ·rw[As alV,As h]
  ·rw[An alV,An h,As rfl,av,Cu alV alV];congr 3<;>omega
 ·have e:=Js (b::r) 0 hs alW;rw[show((0:Nat):Int)=0 from rfl,aib]at e;rw[An alV,sb,e,sb];dsimp only;rw[An a];by_cases h:dn (b::r)=0
  ·rw[As alV,As h]
  ·rw[An alV,An h,An alV,ahx]
theorem UH (s:aW) (hs:s.length<=500):mP s=some (numOf s).isSome:=by
 unfold mP;cases s with
 | nil=>
  have:lA []=some (0,0):=by
   unfold lA;rw[An alW,sb];have e:=Js [] 0 alW alW;rw[show((0:Nat):Int)=0 from rfl]at e;rw[e,sb];rfl
  rw[this,sb];rfl
 | cons b r=>
  rw[Yl b r hs,sb];have hl:(b::r).length=r.length+1:=rfl;unfold numOf;by_cases g:b.toNat=45
  ·rw[As g];dsimp only;rw[As g];have hle:=UG r;by_cases h:dn r=0
   ·rw[As h];dsimp only;rw[An alV,An (λhc=>by have:=(vm r).2 hc.2.2.1;omega)];rfl
   ·rw[An h];dsimp only;rw[As alV];by_cases hd:dn r=r.length
    ·have ha:=(vm r).1 hd;have hv:=se r 0 alV ha;rw[As alV,fN,sb,qo r 0 alV alV ha];by_cases a:val 0 r<=1000000000
     ·rw[As (by rw[aiF];omega)];by_cases c:r.length<=10
      ·rw[As (⟨by omega,c,ha,a⟩:1<=r.length/\r.length<=10/\r.all fu=true/\val 0 r<=1000000000)];by_cases d:((dn r+1:Nat):Int)<=10
       ·rw[As d];rfl
       ·rw[An d,As alV,show nL (b::r) 0=some b from by rw[show(0:Int)=((0:Nat):Int)from rfl,jN alW];rfl,sb];congr 1;rw[aio.2 alV];rfl
      ·rw[An alV,An alV,An (λhc=>c hc.2.1)];rfl
     ·rw[An (by rw[aiF];omega),An (λhc=>a hc.2.2.2)];rfl
    ·rw[An alV,An (λhc=>hd ((vm r).2 hc.2.2.1))];rfl
  ·rw[An g];dsimp only;rw[An g];have hle:=UG (b::r);by_cases h:dn (b::r)=0
   ·rw[As h];dsimp only;rw[An alV,An (λhc=>by have:=(vm (b::r)).2 hc.2.1;rw[hl]at this;omega)];rfl
   ·rw[An h];dsimp only;rw[As alV];by_cases hd:dn (b::r)=(b::r).length
    ·have ha:=(vm (b::r)).1 hd;have hv:=se (b::r) 0 alV ha;rw[As alV,fN,sb,qo (b::r) 0 alV alV ha];by_cases a:val 0 (b::r)<=1000000000
     ·rw[As (by rw[aiF];omega)];by_cases c:r.length+1<=10
      ·rw[As (⟨c,ha,a⟩:r.length+1<=10/\(b::r).all fu=true/\val 0 (b::r)<=1000000000),As alV];rfl
      ·rw[An (show ¬((dn (b::r):Nat):Int)<=10 by omega),An (show ¬(r.length+1<=10/\(b::r).all fu=true/\val 0 (b::r)<=1000000000) fromλhc=>c hc.1)];by_cases f:((dn (b::r):Nat):Int)=11
       ·rw[As f,show nL (b::r) 0=some b from by rw[show(0:Int)=((0:Nat):Int)from rfl,jN alW];rfl,sb];congr 1;rw[ajf.2 alV];rfl
       ·rw[An f];rfl
     ·rw[An (by rw[aiF];omega),An (λhc=>a hc.2.2)];rfl
    ·rw[An alV,An (λhc=>hd ((vm (b::r)).2 hc.2.1))];rfl
theorem ad9 {s:aW} (hs:s.length<=500) {n:Int} (h:numOf s=some n):jU s=some n:=by
 have c:=UE h
 have fin:∀v:Int,v=n->(sP 1000000000 v>>=λd=>ZS (-1000000000) d>>=λe=>some e)=some n:=λv hv=>by
  subst hv;unfold sP ZS;by_cases h1:v<1000000000
  ·rw[As h1,sb];by_cases h2:v> -1000000000
   ·rw[As h2,sb]
   ·rw[An h2,sb];congr 1;omega
  ·rw[An h1,sb,As alV,sb];congr 1;omega
 unfold jU;cases s with
 | nil=>cases h
 | cons b r=>
  rw[Yl b r hs,sb];unfold numOf at h;dsimp only at h;by_cases a:b.toNat=45
  ·rw[As a]at h ⊢;by_cases hc:1<=r.length/\r.length<=10/\r.all fu=true/\val 0 r<=1000000000
   ·rw[As hc]at h;have hd:=(vm r).2 hc.2.2.1;have hv:=se r 0 alV hc.2.2.1;rw[An alV];refine fin _ ?_;injection h with h;rw[qo r 0 alV alV hc.2.2.1];omega
   ·rw[An hc]at h;cases h
  ·rw[An a]at h ⊢;by_cases hc:r.length+1<=10/\(b::r).all fu=true/\val 0 (b::r)<=1000000000
   ·rw[As hc]at h;have hd:=(vm (b::r)).2 hc.2.1;have hv:=se (b::r) 0 alV hc.2.1;have hl:(b::r).length=r.length+1:=rfl;rw[An alV];refine fin _ ?_;injection h with h;rw[qo (b::r) 0 alV alV hc.2.1];omega
   ·rw[An hc]at h;cases h
theorem LP (a b:aW):Op.bytesLess a b=true↔Lib.compareBytes a b= -1:=by
 induction a generalizing b with
 | nil=>cases b<;>simp [Op.bytesLess,Lib.compareBytes]
 | cons x r c=>
  cases b with
  | nil=>simp [Op.bytesLess,Lib.compareBytes]
  | cons y q=>
   simp only[Op.bytesLess,Lib.compareBytes];by_cases h1:x<y
   ·simp [h1]
   ·by_cases h2:y<x
    ·have:x≠y:=λh=>by subst h;exact absurd h2 (UInt8.lt_irrefl _)
     simp [h1,h2,this]
    ·have:x=y:=UInt8.le_antisymm (ajW.1 h2) (ajW.1 h1);subst this;simp [h1,c]
theorem LQ (a b:aW):Lib.compareBytes a b=0↔a=b:=by
 induction a generalizing b with
 | nil=>cases b<;>simp [Lib.compareBytes]
 | cons x r c=>
  cases b with
  | nil=>simp [Lib.compareBytes]
  | cons y q=>
   simp only[Lib.compareBytes];by_cases h1:x<y
   ·have:x≠y:=λh=>by subst h;exact absurd h1 (UInt8.lt_irrefl _)
    simp [h1,this]
   ·by_cases h2:y<x
    ·have:x≠y:=λh=>by subst h;exact absurd h2 (UInt8.lt_irrefl _)
     simp [h1,h2,this]
    ·have:x=y:=UInt8.le_antisymm (ajW.1 h2) (ajW.1 h1);simp [h1,h2,c,this]
theorem QF (a b:aW):Lib.compareBytes a b= -1\/Lib.compareBytes a b=0\/Lib.compareBytes a b=1:=by
 induction a generalizing b with
 | nil=>cases b<;>simp [Lib.compareBytes]
 | cons x r c=>
  cases b with
  | nil=>simp [Lib.compareBytes]
  | cons y q=>
   simp only[Lib.compareBytes];split
   ·simp
   ·split
    ·simp
    ·exact c q
theorem abl (a b:aW):lz a b=some (Lib.compareBytes a b):=by
 unfold lz;by_cases h1:Op.bytesLess a b=true
 ·rw[As h1,(LP a b).1 h1]
 ·rw[An h1];have c:Op.bytesLess a b=false:=by simpa using h1
  rw[c,aiN];by_cases h2:a=b
  ·rw[As amf,(LQ a b).2 h2]
  ·rw[An amf];rcases QF a b with h | h | h
   ·exact absurd ((LP a b).2 h) h1
   ·exact absurd ((LQ a b).1 h) h2
   ·rw[h]
theorem LR {n:Int} (h0: -1000000000<=n) (h1:n<=1000000000):(Lib.itoa n).length<=11:=by
 unfold Lib.itoa;split
 ·simp only[ahN];rw[Lib.decDigits_length];have:=uM 9 n.natAbs amd;omega
 ·rw[Lib.decDigits_length];have:=uM 9 n.toNat amd;omega
structure Sc (v:ae):Prop where
 kind:v.aJ=0\/v.aJ=1\/v.aJ=2\/v.aJ=3
 part:v.aw=[]
 num: -1000000000<=v.bc/\v.bc<=1000000000
 str:v.bq.length<=400
def tb (v:ae):Bool:=(cF v).getD false
theorem Vc (v:ae):cF v=some (tb v):=by
 unfold tb cF;by_cases h0:v.aJ=0<;>by_cases h1:v.aJ=1<;>by_cases h2:v.aJ=2<;>by_cases h3:v.aJ=3<;>by_cases h4:v.aJ=4<;>by_cases hs:v.bq=[]<;>simp [h0,h1,h2,h3,h4,hs,sb]
theorem sTB (v:ae):kh v=some (tb v):=(show kh v=cF v from rfl).trans (Vc v)
def bn (b:Bool):Int:=if b=true then 1 else 0
theorem iBN (b:Bool):er b=some (bn b):=by cases b<;>rfl
theorem aea (v:ae):pq v=some (bn (tb v)):=by
 unfold pq;rw[sTB,sb];cases tb v<;>rfl
def bv (b:Bool):ae:=ae.mk 1 (bn b) [] 0 []
theorem iBV (b:Bool):fh b=some (bv b):=by cases b<;>rfl
theorem sBV (b:Bool):Ii b=some (bv b):=by cases b<;>rfl
theorem aeb (b:Bool):Sc (bv b):=⟨.inr (.inl rfl),rfl,by cases b<;>decide,by simp [bv]⟩
theorem Jt (a b c:Int):xp a b c=some (decide (b<=a/\a<=c)):=by
 unfold xp;by_cases h:a>=b
 ·rw[As h];congr 1;rw[ajB];omega
 ·rw[An h,ahG alV]
def abm (a b:Int):Int:=if a<b then -1 else if a>b then 1 else 0
theorem aec (a b:Int):fy a b=some (abm a b):=by unfold fy abm;repeat' first | rfl | split
theorem ahc (a b:Int):ly a b=some (abm a b):=(show ly a b=fy a b from rfl).trans (aec a b)
theorem Ju {v:ae} (h:Sc v):∃n e,dZ v=some (n,e)/\ed v=some (n,e):=by
 have hs:=h.str;rcases h.kind with k | k | k | k
 ·simp only[dZ,ed,pk,pn,fN,Vc,sTB,k,sb];cases tb v<;>exact⟨_,_,rfl,rfl⟩
 ·simp only[dZ,ed,pk,pn,fN,Vc,sTB,k,sb];cases tb v<;>exact⟨_,_,rfl,rfl⟩
 ·simp only[dZ,ed,pk,pn,fN,Vc,sTB,k,sb];exact⟨_,_,rfl,rfl⟩
 ·simp only[dZ,ed,pk,pn,fN,k,sb,UF _ (show v.bq.length<=500 by omega),UH _ (show v.bq.length<=500 by omega)];cases hn:numOf v.bq with
  | none=>exact⟨_,_,rfl,rfl⟩
  | some n=>
   rw[ad8 alV hn,ad9 alV hn];exact⟨_,_,rfl,rfl⟩
theorem C0 {v:ae} (h:Sc v):∃t e,im v=some (t,e)/\iq v=some (t,e)/\t.length<=400:=by
 have hs:=h.str;have hn:=h.num;rcases h.kind with k | k | k | k
 ·simp only[im,iq,k];exact⟨_,_,rfl,rfl,by simp⟩
 ·simp only[im,iq,k];by_cases h0:v.bc=0
  ·simp only[h0];exact⟨_,_,rfl,rfl,by simp⟩
  ·simp only[h0];exact⟨_,_,rfl,rfl,by simp⟩
 ·simp only[im,iq,pN,m73,k,As (show -9223372036854775808<=v.bc/\v.bc<=9223372036854775807 by omega),RP v.bc alV alV,sb];exact⟨_,_,rfl,rfl,by have:=LR hn.1 hn.2;omega⟩
 ·simp only[im,iq,k];exact⟨_,_,rfl,rfl,hs⟩
theorem aed (v:ae):hJ v=some (decide (2<=v.aJ/\v.aJ<=3)):=by
 unfold hJ;by_cases h:v.aJ=2
 ·rw[As h,ahI alV]
 ·rw[An h];congr 1;rw[aic];simp;omega
theorem cmp_eq {v w:ae} (h:Sc v) (g:Sc w):∃c,dt v w=some c/\du v w=some c:=by
 obtain⟨n,a,b,d⟩:=Ju h;obtain⟨n2,e2,e,f⟩:=Ju g;obtain⟨o,p,i,r1,_⟩:=C0 h;obtain⟨q,f2,j,m,_⟩:=C0 g;rw[dt,du];simp only[b,e,d,f,i,j,r1,m,Vc,sTB,iBN,aea,aec,ahc,aed,fN,abl,ug,sb];rcases h.kind with k | k | k | k<;>rcases g.kind with l | l | l | l<;>rw[k,l]<;>simp [sb]
 all_goals
  by_cases q1:a=0
  ·by_cases q2:e2=0
   ·simp [q1,q2,sb]
   ·simp [q1,q2,sb]
  ·simp [q1,sb]
theorem abn {v w:ae} (h:Sc v) (g:Sc w):∃c,gL v w=some c/\gN v w=some c:=by
 have hv:=h.part;have hw:=g.part;rw[gL,gN,hv,hw];have a:jW v w 0=some (.inl ()):=by rw[jW,hv];rfl
 have e2:jX v w 0=some (.inl ()):=by rw[jX,hv];rfl
 rw[a,e2]
 repeat' first | exact⟨_,rfl,rfl⟩ | split
def rl (o c:Int):Bool:=(ki o c).getD false
theorem aee (o c:Int):ki o c=some (rl o c):=by
 unfold rl ki
 repeat' first | rfl | split
theorem ahd (o c:Int):oE o c=some (rl o c):=(show oE o c=ki o c from rfl).trans (aee o c)
theorem UI (o a b:Int):∃n e,uh o a b=some (n,e)/\uj o a b=some (n,e):=by
 unfold uh uj;simp only[Jt,fN,sb];by_cases f:1<=o/\o<=5
 ·rw[An alV,An alV,As (ahI f)];by_cases ha: -1000000000<=a/\a<=1000000000
  ·rw[As (ahI ha),As (ahI ha)];by_cases d: -1000000000<=b/\b<=1000000000
   ·rw[As (ahI d),ahI d,sb,Bool.not_true,An aiR];by_cases c:b=0
    ·rw[As c];by_cases h4:o=4
     ·subst h4;subst c;exact⟨_,_,rfl,rfl⟩
     by_cases h5:o=5
     ·subst h5;subst c;exact⟨_,_,rfl,rfl⟩
     rw[An h4,An h5,An (show ¬o>=4 by omega),sb,sb,An aiR];dsimp only;have h3:o=1\/o=2\/o=3:=by omega
     rcases h3 with q | q | q<;>subst q<;>repeat' first | exact⟨_,_,rfl,rfl⟩ | (exfalso;omega) | split
    ·have g:(if o>=4 then some (b==0)else some false)=some false:=by
      rw[show(b==0)=false by simpa using c];split<;>rfl
     have em:must (b≠0)=some ():=As c;rw[An c,g,sb,sb,An aiR,em];simp only[sb];have h3:o=1\/o=2\/o=3\/o=4\/o=5:=by omega
     rcases h3 with q | q | q | q | q<;>subst q<;>repeat' first | exact⟨_,_,rfl,rfl⟩ | (exfalso;omega) | split
   ·rw[An (λhc=>d (aja hc)),ahG d];exact⟨_,_,rfl,rfl⟩
  ·rw[An (λhc=>ha (aja hc)),An (λhc=>ha (aja hc))];exact⟨_,_,rfl,rfl⟩
 ·rw[An (λhc=>f (aja hc))];by_cases h1:o<1
  ·rw[As h1];exact⟨_,_,rfl,rfl⟩
  ·rw[An h1,As alV];exact⟨_,_,rfl,rfl⟩
theorem TQ (o:Int) {v w:ae} (h:Sc v) (g:Sc w):∃r e,lX o v w=some (r,e)/\lY o v w=some (r,e):=by
 obtain⟨A,B,C,D⟩:=Ju h;obtain⟨n2,e2,E,F⟩:=Ju g;obtain⟨b,G,H,r1,S⟩:=C0 h;obtain⟨a,f2,I,J,T⟩:=C0 g;obtain⟨c,ci,cs⟩:=cmp_eq h g;obtain⟨d,K,L⟩:=abn h g;obtain⟨n,e,M,l⟩:=UI o A n2;have N:¬v.aJ=4:=by have:=h.kind;omega
 unfold lX lY pR;simp only[C,E,D,F,H,I,r1,J,ci,cs,K,L,M,l,iBV,sBV,aee,ahd,fN,sb,N,aiO]
 have tail:∃r x,(if B=0 then(if e2=0 then(if e=0 then some ((ae.mk 2 n [] 0 []),(0:Int))else some ((ae.mk 0 0 [] 0 []),e))else some ((ae.mk 0 0 [] 0 []),2))else some ((ae.mk 0 0 [] 0 []),2))=some (r,x):=by
  repeat' first | exact⟨_,_,rfl⟩ | split
 obtain⟨r,x,j⟩:=tail;by_cases h1:o=1
 ·subst h1;exact⟨r,x,j,j⟩
 by_cases h6:o=6
 ·subst h6;have w1:av ((b.length:Int)+(a.length:Int))=(b.length:Int)+a.length:=by rw[av,Cu alV alV]
  have O:av (400 - (a.length:Int))=400 - a.length:=by rw[av,Cu alV alV]
  have P:uI b a=some (b++a):=As alV;simp only[w1,O,P,sb];by_cases k:G=0
  ·by_cases z2:f2=0
   ·by_cases y:(b.length:Int)+a.length>400
    ·have m:(b.length:Int)>400 - a.length:=by omega
     simp [k,z2,y,m,sb]
    ·have m:¬(b.length:Int)>400 - a.length:=by omega
     simp [k,z2,y,m,sb]
   ·simp [k,z2,sb]
  ·simp [k,sb]
 by_cases z:o=9
 ·subst z;simp [sb]
 by_cases f:o=10
 ·subst f;simp [sb]
 by_cases i:o=15
 ·subst i;simp [sb]
 by_cases h7:7<=o/\o<=14
 ·have:o=7\/o=8\/o=11\/o=12\/o=13\/o=14:=by omega
  rcases this with q | q | q | q | q | q<;>subst q<;>simp [sb]
 ·have Q:¬o=7:=by omega
  have R:¬o=8:=by omega
  have p:¬o=11:=by omega
  have s:¬o=12:=by omega
  have t:¬o=13:=by omega
  have u:(o==14)=false:=by rw[ajf];omega
  simp only[h1,h6,z,f,i,Q,R,p,s,t,u,aiO,sb,An (show ¬(decide (7<=o/\o<=14)=true) by simpa using h7),An (show ¬(false=true) by decide)];exact⟨r,x,j,j⟩
theorem adF (o:Int) {v:ae} (h:Sc v):∃r e,ql o v=some (r,e)/\qm o v=some (r,e):=by
 unfold ql qm;simp only[Vc,sTB,sb,iBV,sBV];by_cases h1:o=1
 ·simp only[As h1];exact⟨_,_,rfl,rfl⟩
 by_cases h2:o=2
 ·obtain⟨r,e,a,b⟩:=TQ 2 (v:=ae.mk 2 0 [] 0 []) ⟨.inr (.inr (.inl rfl)),rfl,⟨by decide,by decide⟩,by simp⟩ h;simp only[An h1,As h2,a,b];exact⟨_,_,rfl,rfl⟩
 ·simp only[An h1,An h2];exact⟨_,_,rfl,rfl⟩
theorem of_eq (v:ae):∃x b,gd v=some (x,b)/\np v=some (x,b):=by
 have e:gd v=np v:=by
  unfold gd np;simp only[Vc,iBN,aea,Jt,fN,sb]
 rw[<-e]
 suffices h:∃x b,gd v=some (x,b) by
  obtain⟨x,b,h⟩:=h;exact⟨x,b,h,h⟩
 unfold gd;simp only[Vc,iBN,Jt,sb];by_cases h0:v.aJ=0
 ·rw[As h0];exact⟨_,_,rfl⟩
 by_cases h1:v.aJ=1
 ·rw[An h0,As h1];exact⟨_,_,rfl⟩
 rw[An h0,An h1];by_cases h2:v.aJ=2
 ·rw[As h2,sb];split
  ·exact⟨_,_,rfl⟩
  ·rw[An alV];exact⟨_,_,rfl⟩
 ·rw[An h2,sb,An aiR];split
  ·split<;>exact⟨_,_,rfl⟩
  ·exact⟨_,_,rfl⟩
theorem W5 (x:ak):∃v b,fm x=some (v,b)/\jv x=some (v,b)/\(b=true->x.aN=2/\v=ae.mk 2 x.fA [] 0 []\/x.aN=3/\v=ae.mk 3 0 x.fS 0 []\/Sc v):=by
 unfold fm jv qV;by_cases h2:x.aN=2
 ·simp only[As h2];exact⟨_,_,rfl,rfl,λ_=>.inl ⟨h2,rfl⟩⟩
 by_cases h3:x.aN=3
 ·simp only[An h2,As h3];exact⟨_,_,rfl,rfl,λ_=>.inr (.inl ⟨h3,rfl⟩)⟩
 by_cases h4:x.aN=4
 ·simp only[An h2,An h3,As h4,iBV,sBV,sb,show(bA.mk 3 x.fA [] []).aJ=3 from rfl,show(bA.mk 3 x.fA [] []).bc=x.fA from rfl,An (show ¬(3:Int)=1 by omega),An (show ¬(3:Int)=2 by omega)];by_cases hA:x.fA=0
  ·simp only[As hA];exact⟨_,_,rfl,rfl,λ_=>.inr (.inr ⟨.inl rfl,rfl,⟨by decide,by decide⟩,by simp⟩)⟩
  ·simp only[An hA];exact⟨_,_,rfl,rfl,λ_=>.inr (.inr (aeb _))⟩
 ·simp only[An h2,An h3,An h4];exact⟨_,_,rfl,rfl,λh=>by cases h⟩
theorem W6 {x:ak} {a b:Int} (h:wy x a b=true) (d:x.aN=2):0<=x.fA/\x.fA<=1000000000:=by
 have h1:fO x a b=some true:=by rw[VN,h]
 unfold fO at h1;obtain⟨e,_,h1⟩:=bind_some h1;by_cases hv:e=true
 ·rw[As hv]at h1;obtain⟨f,h4,h1⟩:=bind_some h1;by_cases c:f=true
  ·subst c;unfold lS at h4;rw[As d,Jt,sb]at h4;simpa using h4
  ·rw[An c]at h1;cases h1
 ·rw[An hv]at h1;cases h1
theorem UJ {x:ak} {a b:Int} (h:wy x a b=true) (e:x.aN=3):x.fS.length<=400:=by
 have h1:fO x a b=some true:=by rw[VN,h]
 unfold fO at h1;obtain⟨f,_,h1⟩:=bind_some h1;by_cases hv:f=true
 ·rw[As hv]at h1;obtain⟨g,h4,h1⟩:=bind_some h1;by_cases c:g=true
  ·rw[As c]at h1;obtain⟨i,h7,h1⟩:=bind_some h1;by_cases d:i=true
   ·rw[As d,e]at h1;refine Decidable.byContradiction λhc=>?_;rw[An alV,An alV,An alV,An alV,sb,An alW,As rfl,As alV,sb]at h1;cases h1
   ·rw[An d]at h1;cases h1
  ·rw[An c]at h1;cases h1
 ·rw[An hv]at h1;cases h1
theorem OV {x:ak} {a b:Int} (h:wy x a b=true):∃v p,fm x=some (v,p)/\jv x=some (v,p)/\(p=true->Sc v):=by
 obtain⟨v,p,i,s,hv⟩:=W5 x;refine⟨v,p,i,s,λhp=>?_⟩;rcases hv hp with⟨c,e⟩ | ⟨c,e⟩ | e
 ·subst e;have:=W6 h c;exact⟨.inr (.inr (.inl rfl)),rfl,⟨by show -1000000000<=x.fA;omega,this.2⟩,by simp⟩
 ·subst e;exact⟨.inr (.inr (.inr rfl)),rfl,⟨by show(-1000000000:Int)<=0;omega,by show(0:Int)<=1000000000;omega⟩,UJ h c⟩
 ·exact e
end Go.Am
