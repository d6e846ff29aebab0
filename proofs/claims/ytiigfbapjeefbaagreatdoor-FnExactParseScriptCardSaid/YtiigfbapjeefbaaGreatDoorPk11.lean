/- Texts of the proof, joined and shortened. -/
import Derived.Test.YtiigfbapjeefbaaGreatDoorPk10
import Derived.Lib.AtoiTie
set_option linter.unusedVariables false
set_option linter.unusedSimpArgs false
namespace Go.Am
open Go Go.RowKit Go.Proofs
def ltr (c:UInt8):Bool:=decide ((97<=c.toNat/\c.toNat<=122)\/(65<=c.toNat/\c.toNat<=90)\/c.toNat=95)
def nmW:aD->Bool | c::_=>ltr c | []=>false
def DY:List aD:=[[61,61,61],[33,61,61],[60,61,62],[61,61],[33,61],[60,61],[62,61],[61,62],[45,62],[58,58],[38,38],[124,124],[63,63],[43],[45],[42],[47],[37],[46],[61],[33],[60],[62],[40],[41],[91],[93],[123],[125],[44],[59],[63],[58],[38]]
structure Tk (ts:List ah) (e:Int):Prop where
 len:ts.length<=4000
 e0:0<=e
 at0:∀t∈ts,0<=t.bx
 txt:∀t∈ts,t.aq.length<=4000
 nam:∀t∈ts,t.ai=3->nmW t.aq=true
 mrk:∀t∈ts,t.ai=6->DY.contains t.aq=true
inductive JS where
 | g (i:Nat)
 | b (j:Nat)
 | d (j:Nat)
def tok (ts:List ah) (i:Nat):ah:=ts.getD i ⟨0,0,[],0⟩
def kd (ts:List ah) (i:Nat):Int:=(tok ts i).ai
def tx (ts:List ah) (i:Nat):aD:=(tok ts i).aq
def pl (ts:List ah) (e:Int) (j:Nat):Int:=if j<ts.length then (tok ts j).bx else e
def pS (ts:List ah) (e:Int):JS->aC
 | .g i=>⟨ts,i,e,-1⟩
 | .b j=>⟨ts,ts.length,e,pl ts e j⟩
 | .d j=>⟨ts,ts.length,e,pl ts e j⟩
def qS (ts:List ah) (e:Int):JS->ak
 | .g i=>⟨ts,i,e,false⟩
 | .b j=>⟨ts,j,e,true⟩
 | .d j=>⟨ts,j,e,false⟩
def JS.pos:JS->Nat | .g i=>i | .b i=>i | .d i=>i
def tw (ts:List ah) (i:Nat) (w:aD):Bool:=(kd ts i==6||kd ts i==3)&&tx ts i==w
def JS.Ok (ts:List ah):JS->Prop | .g i=>i<=ts.length | .b i=>i<=ts.length | .d i=>i<ts.length/\tw ts i [61]=true
def JS.nd:JS->Bool | .d _=>false | _=>true
def tS (ts:List ah) (s:JS) (w:aD):Bool:=match s with | .g i=>tw ts i w | _=>false
def wS (ts:List ah) (s:JS) (w:aD):JS:=match s with | .g i=>(bif tw ts i w then .g (i+1) else .b i) | .b j=>.b j | .d j=>.b j
def wZ (ts:List ah) (k:Int) (i:Nat):Bool:=kd ts i==k&&good (tx ts i)
def nS (ts:List ah) (s:JS) (k:Int):JS:=match s with | .g i=>(bif wZ ts k i then .g (i+1) else .b i) | .b j=>.b j | .d j=>.b j
def nT (ts:List ah) (s:JS) (k:Int):aD:=match s with | .g i=>(bif wZ ts k i then tx ts i else []) | _=>[]
def aT (ts:List ah) (i:Nat) (k:Int) (w:aD):Bool:=kd ts i==k&&(w==([]:aD)||tx ts i==w)
def aS (ts:List ah) (s:JS) (o:Nat) (k:Int) (w:aD):Bool:=match s with | .g i=>aT ts (i+o) k w | _=>false
theorem dP {α β:Type} {x:Option α} {a:α} {F:α->Option β} (h:x=some a):(x>>=F)=F a:=by rw [h];rfl
theorem aW {α β:Type} {x:Option α} {a:α} {F:α->Option β} {r:Option β} (h:x=some a) (k:F a=r):(x>>=F)=r:=(dP h).trans k
theorem du {α β:Type} {x:Option α} {a:α} {F:α->Option β} {r A B:Option β} {c:Prop} {i:Decidable c} (h:x=some a) (k:A=r) (e:F a=@ite _ c i A B:=by rfl) (hc:c:=by rfl):(x>>=F)=r:=(dP h).trans (e.trans ((if_pos hc).trans k))
theorem aF {α β:Type} {x:Option α} {a:α} {F:α->Option β} {r A B:Option β} {c:Prop} {i:Decidable c} (h:x=some a) (k:B=r) (e:F a=@ite _ c i A B:=by rfl) (hc:¬c:=by exact are):(x>>=F)=r:=(dP h).trans (e.trans ((if_neg hc).trans k))
theorem mN {β:Type} {r A B:β} {c:Prop} {i:Decidable c} (hc:c) (k:A=r):@ite _ c i A B=r:=(if_pos hc).trans k
theorem bQ {β:Type} {r A B:β} {c:Prop} {i:Decidable c} (hc:¬c) (k:B=r):@ite _ c i A B=r:=(if_neg hc).trans k
theorem iJ (p:aC):aC.mk p.fT p.fI p.aw p.av=p:=rfl
theorem dc (p:ak):ak.mk p.ao p.bx p.aw p.av=p:=rfl
theorem TM (n:ae):ae.mk n.ai n.aE n.aq n.af=n:=by cases n;rfl
theorem wW {x:Int} (h1: -9223372036854775808<=x) (h2:x<=9223372036854775807):bm x=x:=WJ h1 h2
section
variable {ts:List ah} {e e':Int}
theorem acg {i:Nat} (h:i<ts.length):ts[i]=tok ts i:=by unfold tok;rw [aKb,Of h];rfl
theorem B7 {i:Nat} (h:¬i<ts.length):tok ts i=⟨0,0,[],0⟩:=by unfold tok;rw [aKb,aKM aNc];rfl
theorem rB {i:Nat} (h:kd ts i≠0):i<ts.length:=by
 by_cases hi:i<ts.length
 ·exact hi
 ·exfalso;apply h;unfold kd;rw [B7 hi]
theorem Rq {i:Nat} {w:aD} (h:tw ts i w=true):(kd ts i=6\/kd ts i=3)/\tx ts i=w:=by
 unfold tw at h
 simpa using h
theorem bU {i:Nat} {w:aD} (h:tw ts i w=true):i<ts.length:=rB (by have:=(Rq h).1;omega)
theorem ay {i:Nat} {w w2:aD} (h:tw ts i w=true) (hn:(w==w2)=false):tw ts i w2=false:=by
 obtain ⟨_,h2⟩:=Rq h
 unfold tw
 rw [h2,hn,aKx]
theorem B8 {i:Nat} (h:i<ts.length):tok ts i∈ts:=by rw [<-acg h];exact aKr h
theorem tX (H:Tk ts e) (i:Nat):(tx ts i).length<=4000:=by
 by_cases h:i<ts.length
 ·exact H.txt _ (B8 h)
 ·unfold tx;rw [B7 h];simp
theorem ig {i:Nat} (h:i<ts.length):idx ts (i:Int)=some (tok ts i):=by rw [eu h,acg h]
theorem am4 (H:Tk ts e) (j:Nat):0<=pl ts e j:=by
 unfold pl
 split
 ·rename_i h;exact H.at0 _ (B8 h)
 ·exact H.e0
theorem aM {i:Nat} {w:aD} (H:Tk ts e) (hw:nmW w=false) (hn:w≠[]):aT ts i 6 w=tw ts i w:=by
 unfold aT tw
 rw [beq_eq_false_iff_ne.2 hn,aKu]
 by_cases h3:kd ts i=3
 ·have bc:i<ts.length:=rB aNc
  have:=H.nam _ (B8 bc) h3
  have hx:(tx ts i==w)=false:=by
   rw [beq_eq_false_iff_ne]
   intro hh
   rw [<-hh] at hw
   rw [show tx ts i=(tok ts i).aq from rfl,this] at hw
   cases hw
  rw [hx,aKx,aKx]
 ·rw [beq_eq_false_iff_ne.2 h3,aKD]
theorem aN {i:Nat} {w:aD} (H:Tk ts e) (hw:DY.contains w=false) (hn:w≠[]):aT ts i 3 w=tw ts i w:=by
 unfold aT tw
 rw [beq_eq_false_iff_ne.2 hn,aKu]
 by_cases h3:kd ts i=6
 ·have bc:i<ts.length:=rB aNc
  have:=H.mrk _ (B8 bc) h3
  have hx:(tx ts i==w)=false:=by
   rw [beq_eq_false_iff_ne]
   intro hh
   rw [<-hh] at hw
   rw [show tx ts i=(tok ts i).aq from rfl,this] at hw
   cases hw
  rw [hx,aKx,aKx]
 ·rw [beq_eq_false_iff_ne.2 h3,aKu]
theorem sAt (H:Tk ts e) (s:JS) (hs:s.Ok ts) (o:Nat) (ho:o<=10) (k:Int) (hk:k≠0) (w:aD):bq (pS ts e s) (o:Int) k w=some (aS ts s o k w,pS ts e s):=by
 have hl:=H.len
 have out:∀x:Int,x=(ts.length:Int)->∀bd:Int,bq ⟨ts,x,e,bd⟩ (o:Int) k w=some (false,⟨ts,x,e,bd⟩):=λx hx bd=>by
  subst hx
  unfold bq
  rw [if_neg]
  rw [wW]<;>simp only<;>omega
 cases s with
 | g i=>
  have hi:i<=ts.length:=hs
  show bq ⟨ts,(i:Int),e,-1⟩ (o:Int) k w=some (aT ts (i+o) k w,⟨ts,(i:Int),e,-1⟩)
  have ew:bm ((i:Int)+(o:Int))=((i+o:Nat):Int):=by rw [wW aNc aNc];omega
  unfold bq
  simp only [ew]
  by_cases h:i+o<ts.length
  ·rw [if_pos aNc,ig h,sb]
   unfold aT kd tx
   by_cases h2:(tok ts (i+o)).ai=k
   ·rw [if_pos h2,h2,beq_self_eq_true,aLc]
    by_cases h3:w=[]
    ·rw [if_pos h3,h3];rfl
    ·rw [if_neg h3,sb,beq_eq_false_iff_ne.2 h3];rfl
   ·rw [if_neg h2,beq_eq_false_iff_ne.2 h2];rfl
  ·rw [if_neg aNc]
   unfold aT kd
   rw [B7 h,beq_eq_false_iff_ne.2 (aLo hk)];rfl
 | b j=>exact out _ rfl _
 | d j=>exact out _ rfl _
theorem dG (H:Tk ts e) (s:JS) (hs:s.Ok ts) (k:Int) (w:aD) (hk:k≠0):bq (pS ts e s) 0 k w=some (aS ts s 0 k w,pS ts e s):=sAt H s hs 0 aNc k hk w
theorem aCw (H:Tk ts e) (s:JS) (hs:s.Ok ts) (k:Int) (w:aD) (hk:k≠0):bq (pS ts e s) 1 k w=some (aS ts s 1 k w,pS ts e s):=sAt H s hs 1 aNc k hk w
theorem aIb (H:Tk ts e) (s:JS) (hs:s.Ok ts) (k:Int) (w:aD) (hk:k≠0):bq (pS ts e s) 2 k w=some (aS ts s 2 k w,pS ts e s):=sAt H s hs 2 aNc k hk w
theorem qD (H:Tk ts e) {i:Nat} (h:i<=ts.length):aC.mk (pS ts e (.g i)).fT (bm ((pS ts e (.g i)).fI+1)) (pS ts e (.g i)).aw (pS ts e (.g i)).av=pS ts e (.g (i+1)):=by
 have:=H.len
 show aC.mk ts (bm ((i:Int)+1)) e (-1)=⟨ts,((i+1:Nat):Int),e,-1⟩
 rw [bN aNc]
theorem ach {i:Nat} {w:aD} (hw:w≠[]):tw ts i w=(aT ts i 6 w||aT ts i 3 w):=by
 unfold tw aT
 rw [beq_eq_false_iff_ne.2 hw,aKu]
 cases kd ts i==6<;>cases kd ts i==3<;>cases tx ts i==w<;>rfl
theorem ax (H:Tk ts e) {s:JS} (hs:s.Ok ts) {w:aD} (h:tS ts s w=false) (hw:w≠[]:=by decide):aB (pS ts e s) w=some (false,pS ts e s):=by
 have h6:aS ts s 0 6 w=false:=by
  cases s with
  | g i=>have:tw ts i w=false:=h;rw [ach hw,aLy] at this;exact this.1
  | _=>rfl
 have h3:aS ts s 0 3 w=false:=by
  cases s with
  | g i=>have:tw ts i w=false:=h;rw [ach hw,aLy] at this;exact this.2
  | _=>rfl
 unfold aB
 rw [dG H s hs _ _ aNd,sb,h6]
 simp only [amb,if_false]
 rw [dG H s hs _ _ aNd,sb,h3]
 rfl
theorem cg (H:Tk ts e) {i:Nat} {w:aD} (h:tw ts i w=true) (hw:w≠[]:=by decide):aB (pS ts e (.g i)) w=some (true,pS ts e (.g (i+1))):=by
 have bc:=bU h
 have hs:(JS.g i).Ok ts:=aKC bc
 rw [ach hw] at h
 unfold aB
 rw [dG H _ hs _ _ aNd,sb]
 have e6:aS ts (.g i) 0 6 w=aT ts i 6 w:=rfl
 have e3:aS ts (.g i) 0 3 w=aT ts i 3 w:=rfl
 rw [e6]
 cases h6:aT ts i 6 w with
 | true=>dsimp only;rw [if_pos rfl,qD H hs]
 | false=>
  rw [h6,aKu] at h
  simp only [amb,if_false]
  rw [dG H _ hs _ _ aNd,sb,e3,h]
  dsimp only
  rw [if_pos rfl,qD H hs]
def MM:JS->JS | .g i=>.b i | .b j=>.b j | .d j=>.b j
theorem rA (H:Tk ts e) (s:JS) (hs:s.Ok ts):c6 (pS ts e s)=some (.mk 0 0 [] [],pS ts e (MM s)):=by
 have bad:∀j:Nat,c6 ⟨ts,(ts.length:Int),e,pl ts e j⟩=some (.mk 0 0 [] [],⟨ts,(ts.length:Int),e,pl ts e j⟩):=λj=>by
  have:=am4 H j
  unfold c6
  rw [if_neg (by simp only;omega)]
 cases s with
 | g i=>
  have hi:i<=ts.length:=hs
  show c6 ⟨ts,(i:Int),e,-1⟩=some (.mk 0 0 [] [],⟨ts,(ts.length:Int),e,pl ts e i⟩)
  unfold c6 pl
  rw [if_pos (show (-1:Int)<0 by decide)]
  by_cases h:i<ts.length
  ·simp only
   rw [if_pos aNc,ig h,sb,if_pos h]
  ·simp only
   rw [if_neg aNc,if_neg h]
 | b j=>exact bad j
 | d j=>exact bad j
theorem Et {i:Nat} {w:aD}:wS ts (.g i) w=(bif tw ts i w then .g (i+1) else .b i):=rfl
theorem Ms {i:Nat} {k:Int}:nS ts (.g i) k=(bif wZ ts k i then .g (i+1) else .b i):=rfl
theorem aci {i:Nat} {k:Int}:nT ts (.g i) k=(bif wZ ts k i then tx ts i else []):=rfl
theorem jV {s:JS} {w:aD} (h:tS ts s w=false):wS ts s w=MM s:=by
 cases s with
 | g i=>have:tw ts i w=false:=h;rw [Et,this];rfl
 | _=>rfl
theorem IF (s:JS) (w:aD):tS ts s w=false\/∃i,s=.g i/\tw ts i w=true:=by
 cases h:tS ts s w with
 | false=>exact .inl rfl
 | true=>
  cases s with
  | g i=>exact .inr ⟨i,rfl,h⟩
  | _=>cases h
theorem dN (H:Tk ts e) (s:JS) (hs:s.Ok ts) (w:aD) (hw:w≠[]:=by decide):aL (pS ts e s) w=some (pS ts e (wS ts s w)):=by
 unfold aL
 rcases IF (ts:=ts) s w with h | ⟨i,rfl,h⟩
 ·rw [ax H hs h hw,sb]
  simp only [amb,if_false]
  rw [rA H s hs,sb,jV h]
 ·rw [cg H h hw,sb,Et,h];rfl
theorem jU {s:JS} (hs:s.Ok ts) (w:aD):(wS ts s w).Ok ts:=by
 cases s with
 | g i=>
  rw [Et]
  cases h:tw ts i w with
  | true=>exact bU h
  | false=>exact hs
 | b j=>exact hs
 | d j=>exact aKC hs.1
theorem me (s:JS) (w:aD):(wS ts s w).nd=true:=by
 cases s with
 | g i=>rw [Et];cases tw ts i w<;>rfl
 | _=>rfl
theorem tc (s:JS) (k:Int):(nS ts s k).nd=true:=by
 cases s with
 | g i=>rw [Ms];cases wZ ts k i<;>rfl
 | _=>rfl
theorem Pr {k:Int} {i:Nat} (hk:k≠0) (h:wZ ts k i=true):i<ts.length:=by
 unfold wZ at h
 simp only [At,beq_iff_eq] at h
 exact rB (by rw [h.1];exact hk)
theorem qG {s:JS} (hs:s.Ok ts) {k:Int} (hk:k≠0):(nS ts s k).Ok ts:=by
 cases s with
 | g i=>
  rw [Ms]
  cases h:wZ ts k i with
  | true=>exact Pr hk h
  | false=>exact hs
 | b j=>exact hs
 | d j=>exact aKC hs.1
theorem iK (H:Tk ts e) (s:JS) (k:Int):(nT ts s k).length<=4000:=by
 cases s with
 | g i=>
  rw [aci]
  cases wZ ts k i with
  | true=>exact tX H i
  | false=>exact aLl _
 | _=>exact aLl _
theorem abI {i:Nat} (h:i<4001):bm (bm ((i:Int)+1) - 1)=(i:Int):=by rw [bN aNc];rw [wW aNc aNc];omega
theorem nW (H:Tk ts e) (s:JS) (hs:s.Ok ts) (k:Int) (hk:k≠0:=by decide):cf (pS ts e s) k=some (nT ts s k,pS ts e (nS ts s k)):=by
 have hl:=H.len
 unfold cf
 rw [dG H s hs _ _ hk,sb]
 cases s with
 | g i=>
  have hi:i<=ts.length:=hs
  have ea:aS ts (.g i) 0 k []=(kd ts i==k):=by show (kd ts i==k&&true)=_;rw [aKv]
  rw [ea]
  rw [Ms,aci]
  unfold wZ
  cases hkd:kd ts i==k with
  | false=>
   simp only [amb,if_false]
   rw [rA H _ hs];rfl
  | true=>
   have bc:i<ts.length:=rB (by rw [beq_iff_eq] at hkd;rw [hkd];exact hk)
   dsimp only
   rw [if_pos rfl]
   show (idx ts (i:Int)>>=_)=_
   rw [ig bc,sb,Qi,sb]
   cases hg:good (tok ts i).aq with
   | true=>
    rw [if_pos rfl]
    show (idx ts (bm (bm ((i:Int)+1) - 1))>>=_)=_
    rw [abI aNc,ig bc,sb,qD H hs]
    unfold tx
    rw [hg];rfl
   | false=>
    simp only [amb,if_false]
    rw [rA H _ hs,sb]
    unfold tx
    rw [hg];rfl
 | b j=>simp only [aS,amb,if_false];rw [rA H _ hs];rfl
 | d j=>simp only [aS,amb,if_false];rw [rA H _ hs];rfl
theorem Pw (H:Tk ts e) (s:JS) (hs:s.Ok ts):gI (pS ts e s)=some (.mk 4 0 (nT ts s 2) [],pS ts e (nS ts s 2)):=by unfold gI;rw [nW H s hs 2,sb]
theorem acj (H:Tk ts e) (s:JS) (hs:s.Ok ts) (o:Nat) (ho:o<=10):cD (qS ts e' s) (o:Int)=some (tok ts (s.pos+o),qS ts e' s):=by
 have hl:=H.len
 have hp:s.pos<=ts.length:=by
  cases s with
  | g i=>exact hs
  | b i=>exact hs
  | d i=>exact aKC hs.1
 have e1:(qS ts e' s).bx=(s.pos:Int):=by cases s<;>rfl
 have e2:(qS ts e' s).ao=ts:=by cases s<;>rfl
 have ew:bm ((s.pos:Int)+(o:Int))=((s.pos+o:Nat):Int):=by rw [wW aNc aNc];omega
 unfold cD
 rw [e1,e2,ew]
 by_cases h:s.pos+o<ts.length
 ·rw [if_pos aNc,ig h,sb]
 ·rw [if_neg aNc,B7 h]
theorem bP (H:Tk ts e) (s:JS) (hs:s.Ok ts):cD (qS ts e' s) 0=some (tok ts s.pos,qS ts e' s):=acj H s hs 0 aNc
theorem am3 (H:Tk ts e) (s:JS) (hs:s.Ok ts):cD (qS ts e' s) 1=some (tok ts (s.pos+1),qS ts e' s):=acj H s hs 1 aNc
theorem iIs (H:Tk ts e) (s:JS) (hs:s.Ok ts) (o:Nat) (ho:o<=10) (w:aD):aV (qS ts e' s) (o:Int) w=some (tw ts (s.pos+o) w,qS ts e' s):=by
 unfold aV tw kd tx
 rw [acj H s hs o ho,sb]
 dsimp only
 by_cases h6:(tok ts (s.pos+o)).ai=6
 ·rw [if_pos h6,h6];rfl
 ·rw [if_neg h6,beq_eq_false_iff_ne.2 h6,aKu]
  by_cases h3:(tok ts (s.pos+o)).ai=3
  ·rw [if_pos h3,h3];rfl
  ·rw [if_neg h3,beq_eq_false_iff_ne.2 h3];rfl
theorem eZ (H:Tk ts e) (s:JS) (hs:s.Ok ts) (w:aD):aV (qS ts e' s) 0 w=some (tw ts s.pos w,qS ts e' s):=iIs H s hs 0 aNc w
theorem afa (H:Tk ts e) (s:JS) (hs:s.Ok ts) (w:aD):aV (qS ts e' s) 1 w=some (tw ts (s.pos+1) w,qS ts e' s):=iIs H s hs 1 aNc w
theorem aIc (H:Tk ts e) (s:JS) (hs:s.Ok ts) (w:aD):aV (qS ts e' s) 2 w=some (tw ts (s.pos+2) w,qS ts e' s):=iIs H s hs 2 aNc w
theorem pK (H:Tk ts e) {i:Nat} (h:i<=ts.length):ak.mk (qS ts e' (.g i)).ao (bm ((qS ts e' (.g i)).bx+1)) (qS ts e' (.g i)).aw (qS ts e' (.g i)).av=qS ts e' (.g (i+1)):=by
 have:=H.len
 show ak.mk ts (bm ((i:Int)+1)) e' false=⟨ts,((i+1:Nat):Int),e',false⟩
 rw [bN aNc]
theorem ar (H:Tk ts e) {s:JS} (hs:s.Ok ts) {w:aD} (h:tS ts s w=false) (hw:(w==([61]:aD))=false\/s.nd=true:=by exact .inl aNd):au (qS ts e' s) w=some (false,qS ts e' s):=by
 unfold au
 cases s with
 | g i=>
  have h:tw ts i w=false:=h
  rw [if_neg aNz,eZ H _ hs,sb]
  show (if tw ts i w=true then _ else _)=_
  rw [h];rfl
 | b j=>rfl
 | d j=>
  have hw:(w==([61]:aD))=false:=hw.resolve_right (by simp [JS.nd])
  rw [if_neg aNz,eZ H _ hs,sb]
  show (if tw ts j w=true then _ else _)=_
  rw [ay hs.2 (by rw [aLE] at hw ⊢;intro hh;apply hw;rw [beq_iff_eq] at hh ⊢;exact hh.symm)];rfl
theorem bE (H:Tk ts e) {i:Nat} {w:aD} (h:tw ts i w=true):au (qS ts e' (.g i)) w=some (true,qS ts e' (.g (i+1))):=by
 have hs:(JS.g i).Ok ts:=aKC (bU h)
 unfold au
 rw [if_neg aNz,eZ H _ hs,sb]
 show (if tw ts i w=true then _ else _)=_
 rw [h,if_pos rfl,pK H hs]
theorem Rw {s:JS}:ak.mk (qS ts e' s).ao (qS ts e' s).bx (qS ts e' s).aw true=qS ts e' (MM s):=by cases s<;>rfl
theorem eM (H:Tk ts e) (s:JS) (hs:s.Ok ts) (w:aD) (hw:(w==([61]:aD))=false\/s.nd=true:=by exact .inl aNd):aI (qS ts e' s) w=some (qS ts e' (wS ts s w)):=by
 unfold aI
 rcases IF (ts:=ts) s w with h | ⟨i,rfl,h⟩
 ·rw [ar H hs h hw,sb]
  simp only [amb,if_false]
  rw [jV h,Rw]
 ·rw [bE H h,sb,Et,h];rfl
theorem nC (H:Tk ts e) (s:JS) (hs:s.Ok ts) (hd:s.nd=true) (k:Int) (hk:k=2\/k=3):bu (qS ts e' s) k=some (nT ts s k,qS ts e' (nS ts s k)):=by
 unfold bu
 rw [bP H s hs,sb]
 cases s with
 | g i=>
  have hi:i<=ts.length:=hs
  dsimp only
  rw [if_neg aNz]
  show (if kd ts i=k then _ else _)=_
  rw [aci,Ms]
  unfold wZ
  by_cases hkd:kd ts i=k
  ·have step:(bC (tok ts i).aq>>=λv7=>(if v7=true then some ((tok ts i).aq,(ak.mk (qS ts e' (.g i)).ao (bm ((qS ts e' (.g i)).bx+1)) (qS ts e' (.g i)).aw (qS ts e' (.g i)).av)) else some ([],(ak.mk (qS ts e' (.g i)).ao (qS ts e' (.g i)).bx (qS ts e' (.g i)).aw true))))=
     some ((bif good (tx ts i) then tx ts i else []),qS ts e' (bif good (tx ts i) then .g (i+1) else .b i)):=by
    rw [su,sb,pK H hi]
    unfold tx
    cases good (tok ts i).aq<;>rfl
   have hb:(kd ts i==k)=true:=by rw [hkd];exact beq_self_eq_true k
   rw [if_pos hkd,hb,aLc]
   rcases hk with rfl | rfl
   ·rw [if_neg aNd,if_pos rfl];exact step
   ·rw [if_pos rfl];exact step
  ·have hb:(kd ts i==k)=false:=beq_eq_false_iff_ne.2 hkd
   rw [if_neg hkd,hb];rfl
 | b j=>rfl
 | d j=>cases hd
theorem Px (H:Tk ts e) (s:JS) (hs:s.Ok ts) (hd:s.nd=true):cx (qS ts e' s)=some (.mk 4 0 (nT ts s 2) [],qS ts e' (nS ts s 2)):=by unfold cx;rw [nC H s hs hd 2 (.inl rfl),sb]
end
theorem ack (s:aD) (hs:s.length<=13):∀(n i v:Nat),i<=s.length->s.length - i=n->v<10 ^ i->
  xY s (v:Int) (i:Int)=some (match Lib.decFrom v (s.drop i) with | some u=>.inl (u:Int) | none=>.inr (0,false))
 | 0,i,v,hi,hn,hv=>by
  have e:i=s.length:=by omega
  rw [xY,if_neg aNc,e,List.drop_length];rfl
 | n+1,i,v,hi,hn,hv=>by
  have hl:i<s.length:=by omega
  have EI:v<10000000000000:=aKm hv (Nat.pow_le_pow_right aNd (show i<=13 by omega))
  have hc:=(s.getD i 0).toNat_lt
  rw [xY,if_pos aNc,eE hl,sb,WL,sb,bm,WJ aNc aNc,drop_cons hl]
  by_cases hd:48<=(s.getD i 0).toNat/\(s.getD i 0).toNat<=57
  ·rw [if_pos aNB,sb,HD hd]
   have e1:IntKind.u8.wrap (((s.getD i 0).toNat:Int) - 48)=(((s.getD i 0).toNat - 48:Nat):Int):=by rw [IntKind.wrap_u8];omega
   have e2:IntKind.i64.wrap (IntKind.i64.wrap (10*(v:Int))+IntKind.i64.wrap (IntKind.u8.wrap (((s.getD i 0).toNat:Int) - 48)))=((v*10+((s.getD i 0).toNat - 48):Nat):Int):=by
    rw [e1,WJ (x:=10*(v:Int)) aNc aNc,WJ (x:=(((s.getD i 0).toNat - 48:Nat):Int)) aNc aNc,WJ aNc aNc]
    omega
   rw [bm,bm,bm,e2,bN aNc,ack s hs n (i+1) _ aNc aNc (by rw [Nat.pow_succ];omega)]
  ·rw [if_neg aNB,JV hd]
def nbW:Option Nat->Int×Bool
 | some v=>((v:Int),true)
 | none=>(0,false)
theorem anh (s:aD):m61 s=some (nbW (rK s)):=by
 unfold m61 rK
 rw [WL,sb]
 by_cases h:1<=s.length/\s.length<=13
 ·rw [if_pos aNB,if_pos h]
  have e:=ack s h.2 s.length 0 0 aNc aNc aNf
  rw [aKh] at e
  replace e:xY s 0 0=_:=e
  rw [e,sb]
  cases hd:Lib.decFrom 0 s with
  | none=>rfl
  | some u=>
   show (if (u:Int)>1000000000000 then some (0,false) else _)=some (nbW (if u<=1000000000000/\Lib.decDigits u=s then some u else none))
   by_cases h1:(u:Int)>1000000000000
   ·rw [if_pos h1,if_neg aNc];rfl
   ·rw [if_neg h1,aiI _ aNc aNc,sb,Lib.itoa_nonneg]
    by_cases h2:Lib.decDigits u=s
    ·rw [if_pos h2,if_pos ⟨by omega,h2⟩];rfl
    ·rw [if_neg h2,if_neg (λh=>h2 h.2)];rfl
 ·rw [if_neg aNB,if_neg h];rfl
def Mt:Option Nat->Option Int
 | some v=>if v<=1000000000 then some (v:Int) else none
 | none=>none
theorem PZ {n:Int} (h0: -1000000000<=n) (h1:n<=1000000000):(Lib.itoa n).length<=11:=by
 unfold Lib.itoa
 split
 ·simp only [an]
  rw [Lib.decDigits_length]
  have:=yJ 9 n.natAbs aNx
  omega
 ·rw [Lib.decDigits_length]
  have:=yJ 9 n.toNat aNx
  omega
theorem Mv {n:Int} (h0:0<=n) (h1:n<=1000000000):(Lib.decDigits n.toNat).length<=10:=by
 rw [Lib.decDigits_length]
 exact yJ 9 n.toNat aNx
def dO (s:aD) (o:Option Int):Option Int:=
 match o with | some n=>if Lib.itoa n=s/\(-1000000000:Int)<=n/\n<=1000000000 then some n else none | none=>none
theorem acm (s:aD) (hl:s.length<=18):pw s (-1000000000) 1000000000=dO s (Lib.atoi s):=by
 unfold pw dO
 rw [if_neg aNc,Lib.atoiAll_short s hl]
 cases Lib.atoi s<;>rfl
theorem afz (s:aD) (hl:11<s.length):pw s (-1000000000) 1000000000=none:=by
 unfold pw
 split
 ·rfl
 ·split
  ·rw [if_neg]
   intro h
   have:=PZ h.2.1 h.2.2
   rw [h.1] at this
   omega
  ·rfl
theorem P0 (s:aD) (hl:11<s.length):Mt (rK s)=none:=by
 unfold rK
 split
 ·cases Lib.decFrom 0 s with
  | none=>rfl
  | some v=>
   show Mt (if v<=1000000000000/\Lib.decDigits v=s then some v else none)=none
   by_cases h:v<=1000000000000/\Lib.decDigits v=s
   ·rw [if_pos h]
    show (if v<=1000000000 then some (v:Int) else none)=none
    rw [if_neg]
    intro hv
    have:=Mv (n:=(v:Int)) aNc aNc
    rw [aLg,h.2] at this
    omega
   ·rw [if_neg h];rfl
 ·rfl
theorem afA (c:UInt8) (r:aD) (hl:(c::r).length<=11) (h45:c≠45) (h43:c≠43):dO (c::r) (Lib.atoi (c::r))=Mt (rK (c::r)):=by
 have ea:Lib.atoi (c::r)=(Lib.decFrom 0 (c::r)).map λ(m:Nat)=>(m:Int):=by
  show (if c==45 then _ else if c==43 then _ else (Lib.decNat (c::r)).map λ(m:Nat)=>(m:Int))=_
  rw [if_neg (by simpa using h45),if_neg (by simpa using h43)]
  rfl
 have eP:rK (c::r)=arH (c::r) (Lib.decFrom 0 (c::r)):=by unfold rK;rw [if_pos ⟨by simp,by omega⟩]
 rw [ea,eP]
 cases hd:Lib.decFrom 0 (c::r) with
 | none=>rfl
 | some v=>
  show (if Lib.itoa (v:Int)=c::r/\(-1000000000:Int)<=v/\(v:Int)<=1000000000 then some (v:Int) else none)=Mt (if v<=1000000000000/\Lib.decDigits v=c::r then some v else none)
  rw [Lib.itoa_nonneg]
  by_cases h2:Lib.decDigits v=c::r
  ·by_cases h3:v<=1000000000
   ·rw [if_pos ⟨h2,by omega,by omega⟩,if_pos ⟨by omega,h2⟩]
    show _=if v<=1000000000 then some (v:Int) else none
    rw [if_pos h3]
   ·rw [if_neg (λh=>h3 (by have:=h.2.2;omega))]
    by_cases h4:v<=1000000000000
    ·rw [if_pos ⟨h4,h2⟩]
     show _=if v<=1000000000 then some (v:Int) else none
     rw [if_neg h3]
    ·rw [if_neg (λh=>h4 h.1)];rfl
  ·rw [if_neg (λh=>h2 h.1),if_neg (λh=>h2 h.2)];rfl
theorem afB {c:UInt8} {r:aD} (h45:c≠45) (h43:c≠43):pw (c::r) (-1000000000) 1000000000=Mt (rK (c::r)):=by
 by_cases h:11<(c::r).length
 ·rw [afz _ h,P0 _ h]
 ·rw [acm _ aNc,afA c r aNc h45 h43]
set_option maxRecDepth 100000
def T0 (c:UInt8):Bool:=isLet c||decide (c.toNat=95)
def Mw:aD->Nat
 | []=>0
 | c::r=>if (T0 c||pE c)=true then Mw r+1 else 0
def AG:aD->Nat
 | []=>0
 | c::r=>if T0 c=true then Mw r+1 else 0
def uW:aD->Nat
 | []=>0
 | c::r=>if pE c=true then uW r+1 else 0
theorem RG:∀s:aD,Mw s<=s.length
 | []=>As _
 | c::r=>by
  have:=RG r
  rw [Mw];split
  ·simp only [an];omega
  ·exact aLl _
theorem RH:∀s:aD,AG s<=s.length
 | []=>As _
 | c::r=>by
  have:=RG r
  rw [AG];split
  ·simp only [an];omega
  ·exact aLl _
theorem RI:∀s:aD,uW s<=s.length
 | []=>As _
 | c::r=>by
  have:=RI r
  rw [uW];split
  ·simp only [an];omega
  ·exact aLl _
theorem xo {a b:Nat} (h:a=b):(some ((a:Nat):Int))=some ((b:Nat):Int):=by rw [h]
theorem aCJ (s:aD) (hs:s.length<=100000):∀(f i:Nat),s.length<=i+f->0<i->i<=s.length->cK s (i:Int)=some ((i+Mw (s.drop i):Nat):Int)
 | f,i,h,h0,hi=>by
  rw [cK]
  by_cases hc:i<s.length
  ·obtain ⟨g,rfl⟩:∃g,f=g+1:=⟨f - 1,by omega⟩
   have ih:=aCJ s hs g (i+1) aNc aNc aNc
   rw [if_pos aNc,eE hc,sb,Nu,sb,bN aNc,drop_cons hc,Mw,T0]
   generalize s.getD i 0=c
   cases hl:isLet c
   ·rw [if_neg aNf,sb]
    by_cases h5:c.toNat=95
    ·rw [if_pos aNc,ih,if_pos (by simp [h5])];exact xo aNc
    ·rw [if_neg aNc,if_pos aNc,sb,HC,sb]
     cases hd:pE c
     ·rw [if_neg aNf,if_neg (by simp [h5])];rfl
     ·rw [if_pos rfl,ih,if_pos aNf];exact xo aNc
   ·rw [if_pos rfl,ih,if_pos aNf];exact xo aNc
  ·rw [if_neg aNc,aKa aNc];rfl
theorem iNl (s:aD) (hs:s.length<=100000):dT s=some ((AG s:Nat):Int):=by
 have key:cK s 0=some ((AG s:Nat):Int):=by
  rw [cK]
  cases s with
  | nil=>rw [if_neg aNf];rfl
  | cons c r=>
   have ih:=aCJ (c::r) hs r.length 1 aNn aNc aNf
   rw [if_pos aNn,show gz (c::r) 0=some c from eE (i:=0) aNf,sb,Nu,sb,show bm ((0:Int)+1)=((1:Nat):Int) from bN (i:=0) aNc,AG,T0]
   cases hl:isLet c
   ·rw [if_neg aNf,sb]
    by_cases h5:c.toNat=95
    ·rw [if_pos aNc,ih,if_pos (by simp [h5])];exact xo (by rw [aLk,aKh];omega)
    ·rw [if_neg aNc,if_neg aNc,if_neg (by simp [h5])];rfl
   ·rw [if_pos rfl,ih,if_pos aNf];exact xo (by rw [aLk,aKh];omega)
 rw [dT,key,sb]
theorem aCK (s:aD) (hs:s.length<=100000) (a:Nat):∀(f i:Nat),s.length<=i+f->a<i->i<=s.length->eF s (a:Int) (i:Int)=some ((i+Mw (s.drop i):Nat):Int)
 | f,i,h,h0,hi=>by
  rw [eF]
  by_cases hc:i<s.length
  ·obtain ⟨g,rfl⟩:∃g,f=g+1:=⟨f - 1,by omega⟩
   have ih:=aCK s hs a g (i+1) aNc aNc aNc
   rw [if_pos aNc,eE hc,sb,BT,sb,bN aNc,drop_cons hc,Mw]
   generalize s.getD i 0=c
   show (if (T0 c)=true then _ else _)=_
   cases hl:T0 c
   ·rw [if_neg aNf,if_pos aNc,sb,BU,sb]
    cases hd:pE c
    ·rw [if_neg aNf,if_neg aNf];rfl
    ·rw [if_pos rfl,ih,if_pos aNf];exact xo aNc
   ·rw [if_pos rfl,ih,if_pos aNf];exact xo aNc
  ·rw [if_neg aNc,aKa aNc];rfl
theorem sNl (s:aD) (hs:s.length<=100000) {a:Nat} (ha:a<=s.length):iX s (a:Int)=some ((a+AG (s.drop a):Nat):Int):=by
 have key:eF s (a:Int) (a:Int)=some ((a+AG (s.drop a):Nat):Int):=by
  rw [eF]
  by_cases hc:a<s.length
  ·have ih:=aCK s hs a s.length (a+1) aNc aNc aNc
   rw [if_pos aNc,eE hc,sb,BT,sb,bN aNc,drop_cons hc,AG]
   generalize s.getD a 0=c
   show (if (T0 c)=true then _ else _)=_
   cases hl:T0 c
   ·rw [if_neg aNf,if_neg aNc,if_neg aNf];rfl
   ·rw [if_pos rfl,ih,if_pos rfl];exact xo aNc
  ·rw [if_neg aNc,aKa aNc];rfl
 rw [iX,key,sb]
theorem iDr (s:aD) (hs:s.length<=100000):∀(f i:Nat),s.length<=i+f->i<=s.length->gG s (i:Int)=some ((i+uW (s.drop i):Nat):Int)
 | f,i,h,hi=>by
  rw [gG]
  by_cases hc:i<s.length
  ·obtain ⟨g,rfl⟩:∃g,f=g+1:=⟨f - 1,by omega⟩
   have ih:=iDr s hs g (i+1) aNc aNc
   rw [if_pos aNc,eE hc,sb,HC,sb,bN aNc,drop_cons hc,uW]
   cases hd:pE (s.getD i 0)
   ·rw [if_neg aNf,if_neg aNf];rfl
   ·rw [if_pos rfl,ih,if_pos rfl];exact xo aNc
  ·rw [if_neg aNc,aKa aNc];rfl
theorem sDr (s:aD) (hs:s.length<=100000):∀(f i:Nat),s.length<=i+f->i<=s.length->km s (i:Int)=some ((i+uW (s.drop i):Nat):Int)
 | f,i,h,hi=>by
  rw [km]
  by_cases hc:i<s.length
  ·obtain ⟨g,rfl⟩:∃g,f=g+1:=⟨f - 1,by omega⟩
   have ih:=sDr s hs g (i+1) aNc aNc
   rw [if_pos aNc,eE hc,sb,BU,sb,bN aNc,drop_cons hc,uW]
   cases hd:pE (s.getD i 0)
   ·rw [if_neg aNf,if_neg aNf];rfl
   ·rw [if_pos rfl,ih,if_pos rfl];exact xo aNc
  ·rw [if_neg aNc,aKa aNc];rfl
theorem T1 (s:aD) (a j:Nat):(s.drop a).getD j 0=s.getD (a+j) 0:=by
 rw [aKb,aKb,aLe]
theorem Eu {s:aD} {a j:Nat} (h:a+j<s.length):gz (s.drop a) (j:Int)=some (s.getD (a+j) 0):=by
 rw [eE (by rw [aKS];omega),T1]
theorem add_eq {s:aD} {a z:Nat} {O:List ah} {c:Int} (hO:O.length<=4000) (k n:Int) (x:aD) (hz:a+z<=100000):
  dz (.mk s (a:Int) O c) k n x (z:Int)=some (.mk s ((a+z:Nat):Int) (O++[.mk k n x (a:Int)]) c):=by
 unfold dz
 rw [jX aNm,sb]
 show some (bL.mk s (bm ((a:Int)+(z:Int))) _ c)=_
 rw [kE (x:=(a:Int)+(z:Int)) (n:=a+z) aNc aNc]
theorem P1 {s:aD} {a:Nat} {O:List ah} (hO:O.length<=4000) (hs:s.length<=4000):∀(f j:Nat) (l:aD),s.length<=a+j+f->1<=j->l.length<=j->
  ((dt s l ((a+j:Nat):Int)=some (.inl ())\/dt s l ((a+j:Nat):Int)=some (.inr ([],-1)))/\cU (.mk s (a:Int) O 0) (s.drop a) l (j:Int)=some (.inl ()))\/
  (∃(q:aD) (b:Nat),a<b/\b<=s.length/\q.length<=400/\dt s l ((a+j:Nat):Int)=some (.inr (q,(b:Int)))/\cU (.mk s (a:Int) O 0) (s.drop a) l (j:Int)=some (.inr (.mk s (b:Int) (O++[.mk 5 0 q (a:Int)]) 0)))
 | f,j,l,h,h1,hl=>by
  have S0:=dt.eq_1 s l ((a+j:Nat):Int)
  have I0:=cU.eq_1 (.mk s (a:Int) O 0) (s.drop a) l (j:Int)
  have hdl:(s.drop a).length=s.length - a:=aKS
  by_cases hc:a+j<s.length
  ·obtain ⟨g,rfl⟩:∃g,f=g+1:=⟨f - 1,by omega⟩
   have one:∀c:UInt8,cC 1 l ([c]:List UInt8)=some (l++[c]):=λc=>jX aNm
   have ih1:=λc:UInt8=>P1 (a:=a) hO hs g (j+1) (l++[c]) aNc aNc aNq
   have w1:bm (((a+j:Nat):Int)+1)=((a+(j+1):Nat):Int):=kE aNc aNc
   have w2:bm ((j:Int)+1)=((j+1:Nat):Int):=kE aNc aNc
   have w3:bm (((a+(j+1):Nat):Int)+1)=((a+(j+2):Nat):Int):=kE aNc aNc
   have w4:bm (((j+1:Nat):Int)+1)=((j+2:Nat):Int):=kE aNc aNc
   rw [if_pos aNc,eE hc,sb,w1] at S0
   rw [if_pos aNc,Eu hc,sb,w2] at I0
   by_cases h39:(s.getD (a+j) 0).toNat=39
   ·rw [if_pos aNc] at S0 I0
    by_cases hL:(l.length:Int)>400
    ·rw [if_pos hL] at S0 I0;exact .inl ⟨.inr S0,I0⟩
    ·rw [if_neg hL] at S0 I0
     rw [add_eq hO 5 0 l aNc,sb] at I0
     exact .inr ⟨l,a+(j+1),by omega,by omega,by omega,S0,I0⟩
   ·rw [if_neg aNc,sb] at S0 I0
    by_cases h92:(s.getD (a+j) 0).toNat=92
    ·rw [if_pos aNc] at S0 I0
     by_cases hn:a+(j+1)<s.length
     ·have ih2:=λc:UInt8=>P1 (a:=a) hO hs g (j+2) (l++[c]) aNc aNc aNq
      rw [if_pos aNc,eE hn,sb,w3] at S0
      rw [if_pos aNc,Eu hn,sb,w4] at I0
      by_cases k1:(s.getD (a+(j+1)) 0).toNat=39
      ·rw [if_pos aNc,sb,one,sb] at S0 I0
       rw [S0,I0];exact ih2 _
      ·rw [if_neg aNc,sb] at S0 I0
       by_cases k2:(s.getD (a+(j+1)) 0).toNat=92
       ·rw [if_pos aNc,sb,one,sb] at S0 I0
        rw [S0,I0];exact ih2 _
       ·rw [if_neg aNc,sb,one,sb] at S0 I0
        rw [S0,I0];exact ih1 _
     ·rw [if_neg aNc,sb,one,sb] at S0 I0
      rw [S0,I0];exact ih1 _
    ·rw [if_neg aNc,sb,one,sb] at S0 I0
     rw [S0,I0];exact ih1 _
  ·rw [if_neg aNc] at S0 I0
   exact .inl ⟨.inl S0,I0⟩
def Ev:List aD:=[[61,61,61],[33,61,61],[60,61,62],[61,61],[33,61],[60,61],[62,61],[61,62],[45,62],[58,58],[38,38],[124,124],[63,63]]
def AH:aD:=[43,45,42,47,37,46,61,33,60,62,40,41,91,93,123,125,44,59,63,58,38]
def yl:List aD:=[[61,61,61],[33,61,61],[60,61,62],[61,61],[33,61],[60,61],[62,61],[61,62],[45,62],[58,58],[38,38],[124,124],[63,63],[43],[45],[42],[47],[37],[46],[61],[33],[60],[62],[40],[41],[91],[93],[123],[125],[44],[59],[63],[58],[38]]
theorem acn:yl=Ev++AH.map (λc=>[c]):=rfl
def fm (l:List aD) (r:aD):Option aD:=l.find? λm=>Lib.hasPrefix r m
theorem aCL {s:aD} (hs:s.length<=4000) {a:Nat} (ha:a<=s.length):∀(f k:Nat),13<=k+f->k<=13->
  kZ s (a:Int) (k:Int)=some (match fm (Ev.drop k) (s.drop a) with | some m=>.inr m | none=>.inl ())
 | f,k,h,hk=>by
  rw [kZ]
  by_cases hc:k<13
  ·obtain ⟨g,rfl⟩:∃g,f=g+1:=⟨f - 1,by omega⟩
   have ih:=aCL hs ha g (k+1) aNc aNc
   have e:idx ([[61,61,61],[33,61,61],[60,61,62],[61,61],[33,61],[60,61],[62,61],[61,62],[45,62],[58,58],[38,38],[124,124],[63,63]]:List aD) (k:Int)=some (Ev[k]'hc):=eu (l:=Ev) hc
   have hm:Ev[k]'hc≠[]/\(Ev[k]'hc).length<=10:=by
    have:∀m∈Ev,m≠[]/\m.length<=10:=by decide
    exact this _ (aKr hc)
   rw [if_pos aNm,e,sb,Bl hm.1 hm.2 ha aNc,sb,bN aNc,aKg (l:=Ev) hc,fm,List.find?_cons]
   show (if Lib.hasPrefix (s.drop a) (Ev[k]'hc)=true then _ else _)=_
   cases hp:Lib.hasPrefix (s.drop a) (Ev[k]'hc)
   ·rw [if_neg aNf,ih];rfl
   ·rw [if_pos rfl,sb]
  ·obtain rfl:k=13:=by omega
   rw [if_neg aNf];rfl
theorem FR {s:aD} {a:Nat} (h:a<s.length) (c:UInt8):Lib.hasPrefix (s.drop a) [c]=(c==s.getD a 0):=by
 rw [drop_cons h]
 show ([c].isPrefixOf (s.getD a 0::s.drop (a+1)))=_
 simp [List.isPrefixOf]
theorem aCM {s:aD} {a:Nat} (ha:a<s.length):∀(f k:Nat),21<=k+f->k<=21->
  jK s (a:Int) (k:Int)=some (match fm ((AH.drop k).map λc=>[c]) (s.drop a) with | some m=>.inr m | none=>.inl ())
 | f,k,h,hk=>by
  rw [jK]
  by_cases hc:k<21
  ·obtain ⟨g,rfl⟩:∃g,f=g+1:=⟨f - 1,by omega⟩
   have ih:=aCM ha g (k+1) aNc aNc
   have e:gz [43,45,42,47,37,46,61,33,60,62,40,41,91,93,123,125,44,59,63,58,38] (k:Int)=some (AH.getD k 0):=eE (s:=AH) hc
   have e2:tI [43,45,42,47,37,46,61,33,60,62,40,41,91,93,123,125,44,59,63,58,38] (k:Int) ((k+1:Nat):Int)=some [AH.getD k 0]:=by
    show tI AH (k:Int) ((k+1:Nat):Int)=_
    rw [tI,if_pos ⟨by omega,by omega,by show ((k+1:Nat):Int)<=(21:Nat);omega⟩]
    rw [show ((k+1:Nat):Int).toNat=k+1 from rfl,show ((k:Nat):Int).toNat=k from rfl,aLK,drop_cons (s:=AH) hc,show k+1 - k=1 by omega];rfl
   rw [if_pos aNm,eE ha,sb,e,sb,bN aNc,e2,sb,drop_cons (s:=AH) hc,aKp,fm,List.find?_cons,FR ha]
   by_cases hp:(s.getD a 0).toNat=(AH.getD k 0).toNat
   ·rw [if_pos aNc,show (AH.getD k 0==s.getD a 0)=true by rw [beq_iff_eq];exact UInt8.toNat_inj.1 hp.symm]
   ·rw [if_neg aNc,ih,show (AH.getD k 0==s.getD a 0)=false by rw [beq_eq_false_iff_ne];intro q;exact hp (by rw [q])];rfl
  ·obtain rfl:k=21:=by omega
   rw [if_neg aNf];rfl
theorem aCN {s:aD} (hs:s.length<=4000) {a:Nat} (ha:a<s.length):o9 s (a:Int)=some ((fm yl (s.drop a)).getD []):=by
 unfold o9
 have e1:=aCL hs (a:=a) aNc 13 0 aNc aNc
 have e2:=aCM (s:=s) ha 21 0 aNc aNc
 rw [show ((0:Nat):Int)=0 from rfl,aKh] at e1 e2
 rw [e1,sb,acn]
 unfold fm at e2 ⊢
 rw [List.find?_append]
 cases Ev.find? (λm=>Lib.hasPrefix (s.drop a) m) with
 | some m=>rfl
 | none=>
  show (jK s (a:Int) 0>>=_)=some (((AH.map λc=>[c]).find? λm=>Lib.hasPrefix (s.drop a) m).getD [])
  rw [e2,sb]
  cases (AH.map λc=>[c]).find? (λm=>Lib.hasPrefix (s.drop a) m)<;>rfl
theorem iMk {s:aD} {a:Nat} {O:List ah} (hO:O.length<=4000) (hs:s.length<=4000) (ha:a<=s.length):∀(f k:Nat),34<=k+f->k<=34->
  jG (.mk s (a:Int) O 0) (s.drop a) (k:Int)=some (match fm (yl.drop k) (s.drop a) with | some m=>.inr (.mk s ((a+m.length:Nat):Int) (O++[.mk 6 0 m (a:Int)]) 0) | none=>.inl ())
 | f,k,h,hk=>by
  rw [jG]
  by_cases hc:k<34
  ·obtain ⟨g,rfl⟩:∃g,f=g+1:=⟨f - 1,by omega⟩
   have ih:=iMk hO hs ha g (k+1) aNc aNc
   have e:idx ([[61,61,61],[33,61,61],[60,61,62],[61,61],[33,61],[60,61],[62,61],[61,62],[45,62],[58,58],[38,38],[124,124],[63,63],[43],[45],[42],[47],[37],[46],[61],[33],[60],[62],[40],[41],[91],[93],[123],[125],[44],[59],[63],[58],[38]]:List aD) (k:Int)=some (yl[k]'hc):=eu (l:=yl) hc
   have hm:(yl[k]'hc).length<=10:=by
    have:∀m∈yl,m.length<=10:=by decide
    exact this _ (aKr hc)
   rw [if_pos aNm,e,sb,m66,sb,bN aNc,aKg (l:=yl) hc,fm,List.find?_cons]
   cases hp:Lib.hasPrefix (s.drop a) (yl[k]'hc)
   ·rw [if_neg aNf,ih];rfl
   ·rw [if_pos rfl,add_eq hO _ _ _ aNc,sb]
  ·obtain rfl:k=34:=by omega
   rw [if_neg aNf];rfl
theorem aCO {s:aD} {a:Nat} {O:List ah} (hO:O.length<=4000) (hs:s.length<=4000) (ha:a<=s.length):
  ma (.mk s (a:Int) O 0) (s.drop a)=some (match fm yl (s.drop a) with | some m=>(.mk s ((a+m.length:Nat):Int) (O++[.mk 6 0 m (a:Int)]) 0) | none=>.mk s (a:Int) O 2):=by
 unfold ma
 have e:=iMk hO hs ha 34 0 aNc aNc
 rw [show ((0:Nat):Int)=0 from rfl,aKh] at e
 rw [e,sb]
 cases fm yl (s.drop a)<;>rfl
theorem afC {s m:aD} (h:fm yl s=some m):yl.contains m=true/\1<=m.length/\m.length<=s.length/\m≠[]:=by
 have h1:=List.mem_of_find?_eq_some h
 have h2:Lib.hasPrefix s m=true:=List.find?_some (p:=λm=>Lib.hasPrefix s m) h
 have h3:∀m∈yl,1<=m.length/\m≠[]:=by decide
 have h4:m <+: s:=aLA.1 h2
 exact ⟨by simpa using h1,(h3 m h1).1,h4.length_le,(h3 m h1).2⟩
set_option maxRecDepth 100000
structure MP (l:List ah) (a:Nat):Prop where
 len:l.length<=a
 at0:∀t∈l,0<=t.bx
 txt:∀t∈l,t.aq.length<=4000
 nam:∀t∈l,t.ai=3->nmW t.aq=true
 mrk:∀t∈l,t.ai=6->DY.contains t.aq=true
theorem MP.mono {l:List ah} {a b:Nat} (h:MP l a) (hab:a<=b):MP l b:=⟨by have:=h.len;omega,h.at0,h.txt,h.nam,h.mrk⟩
theorem MP.push {l:List ah} {a b:Nat} {k n:Int} {x:aD} {p:Nat} (h:MP l a) (hab:a<b) (hx:x.length<=4000) (h3:k=3->nmW x=true) (h6:k=6->DY.contains x=true):MP (l++[.mk k n x (p:Int)]) b:=by
 refine ⟨by have:=h.len;simp only [abL,an,mg];omega,?_,?_,?_,?_⟩<;>intro t ht<;>rcases aKj.1 ht with ht | ht<;>try (rw [aLM] at ht;subst ht)
 ·exact h.at0 t ht
 ·exact Int.natCast_nonneg p
 ·exact h.txt t ht
 ·exact hx
 ·exact h.nam t ht
 ·exact h3
 ·exact h.mrk t ht
 ·exact h6
theorem pZ {s:aD} {a:Nat} (h:a<=s.length):mU s (a:Int)=some (s.drop a):=by unfold mU;rw [if_pos ⟨by omega,by omega⟩,aLg]
theorem aco {s:aD} {a:Nat} (h:a<=s.length):sto s (a:Int)=some (s.take a):=by unfold sto;rw [if_pos ⟨by omega,by omega⟩,aLg]
theorem Ew {s:aD} {a b:Nat} (h:a<=b) (h2:b<=s.length):tI s (a:Int) (b:Int)=some ((s.drop a).take (b - a)):=by
 unfold tI;rw [if_pos ⟨by omega,by omega,by omega⟩,aLg,aLg,aLK]
theorem Mx {s:aD} {a:Nat} (h:a<s.length):0<AG (s.drop a)↔T0 (s.getD a 0)=true:=by
 rw [drop_cons h,AG]
 by_cases q:T0 (s.getD a 0)=true
 ·rw [if_pos q];exact ⟨λ_=>q,λ_=>Nat.succ_pos _⟩
 ·rw [if_neg q];exact ⟨λq2=>absurd q2 (Nat.lt_irrefl 0),λq2=>absurd q2 q⟩
theorem acp {s:aD} {a:Nat} (h:a<s.length) (hd:pE (s.getD a 0)=true):0<uW (s.drop a):=by
 rw [drop_cons h,uW,if_pos hd];omega
theorem acq {s:aD} {a n:Nat} (h:a<s.length) (hd:T0 (s.getD a 0)=true) (hn:0<n):nmW ((s.drop a).take n)=true:=by
 obtain ⟨m,rfl⟩:∃m,n=m+1:=⟨n - 1,by omega⟩
 rw [drop_cons h,List.take_succ_cons,nmW,ltr]
 unfold T0 isLet at hd
 simp only [aLi,decide_eq_true_eq] at hd ⊢
 omega
theorem P2 (s d:aD):m66 s d=some (Lib.hasPrefix s d):=rfl
theorem acr {s:aD} (hs:s.length<=4000) {a:Nat} (ha:a<s.length) {l:List ah} (h:MP l a) (hw:(s.getD a 0).toNat≠32/\(s.getD a 0).toNat≠9/\(s.getD a 0).toNat≠10/\(s.getD a 0).toNat≠13)
  (p1:Lib.hasPrefix (s.drop a) [63,62]=false) (p2:Lib.hasPrefix (s.drop a) [47,47]=false):
  (∃(t:ah) (b:Nat),a<b/\b<=s.length/\j6 s (a:Int)=some (t,(b:Int),0)/\dn (.mk s (a:Int) l 0)=some (.mk s (b:Int) (l++[t]) 0)/\MP (l++[t]) b)\/
  (∃(t:ah) (k:Int),k≠0/\j6 s (a:Int)=some (t,(a:Int),k)/\dn (.mk s (a:Int) l 0)=some (.mk s (a:Int) l k)):=by
 have hl:=h.len
 have hO:l.length<=4000:=by omega
 have hlen:(s.drop a).length=s.length - a:=aKS
 have e1:mU s (a:Int)=some (s.drop a):=pZ aNc
 have e2:gz (s.drop a) 0=some (s.getD a 0):=Eu (j:=0) aNc
 have lt1:=(s.getD a 0).toNat_lt
 have I0:=dn.eq_1 (.mk s (a:Int) l 0)
 have S0:=j6.eq_1 s (a:Int)
 replace I0:dn (.mk s (a:Int) l 0)=(mU s (a:Int)>>=_):=I0
 rw [e1,sb,e2,sb,if_neg aNc,if_neg aNc,if_neg aNc,sb,if_neg (by rw [beq_iff_eq];omega),P2,sb,p1,if_neg aNf,P2,sb,p2,if_neg aNf] at I0
 rw [eE ha,sb,sb,sb,sb] at S0
 by_cases h36:(s.getD a 0).toNat=36
 ·have w1:bm ((a:Int)+1)=((a+1:Nat):Int):=bN aNc
  have hn:=RH (s.drop (a+1))
  rw [aKS] at hn
  have e3:mU (s.drop a) 1=some (s.drop (a+1)):=by
   have:=pZ (s:=s.drop a) (a:=1) aNc
   rw [List.drop_drop] at this;exact this
  rw [if_pos aNc,e3,sb,iNl _ (by rw [aKS];omega),sb,sb] at I0
  rw [if_pos aNc,w1,sNl s aNc aNc,sb,Ew aNc aNc,sb,aKT] at S0
  generalize AG (s.drop (a+1))=n at*
  by_cases hz:n=0
  ·subst hz
   rw [if_pos (by rw [List.take_zero]),sb] at S0
   rw [if_pos aNc,sb] at I0
   exact .inr ⟨_,2,by decide,S0,I0⟩
  ·have q0:(s.drop (a+1)).take n≠[]:=λq=>by
    have:=congrArg List.length q
    rw [aLz,aKS,mg] at this;omega
   rw [if_neg q0,sb] at S0
   have w2:bm (1+(n:Int))=((1+n:Nat):Int):=kE aNc aNc
   have e5:tI (s.drop a) 1 ((1+n:Nat):Int)=some ((s.drop (a+1)).take n):=by
    have:=Ew (s:=s.drop a) (a:=1) (b:=1+n) aNc aNc
    rw [List.drop_drop,aKT] at this;exact this
   rw [if_neg aNc,sb,w2] at I0
   replace I0:_=(tI (s.drop a) 1 ((1+n:Nat):Int)>>=_):=I0
   rw [e5,sb,add_eq hO _ _ _ aNc,sb] at I0
   refine .inl ⟨_,a+1+n,by omega,by omega,S0,?_,h.push aNc (by rw [aLz,aKS];omega) (λq=>absurd q aNd) (λq=>absurd q aNd)⟩
   rw [I0,show a+(1+n)=a+1+n by omega]
 rw [if_neg aNc] at I0 S0
 have hn:=RH (s.drop a)
 rw [iNl _ aNc,sb] at I0
 rw [BT,sb] at S0
 by_cases hm:T0 (s.getD a 0)=true
 ·have hp:=(Mx ha).2 hm
  rw [if_pos (show (isLet (s.getD a 0)||decide ((s.getD a 0).toNat=95))=true from hm),sNl s aNc aNc,sb,Ew aNc aNc,sb,aKT,sb] at S0
  rw [if_pos aNc,sb,sb,aco aNc,sb,add_eq hO _ _ _ aNc,sb] at I0
  exact .inl ⟨_,a+AG (s.drop a),by omega,by omega,S0,I0,h.push aNc (by rw [aLz];omega) (λ_=>acq ha hm hp) (λq=>absurd q aNd)⟩
 have hm0:¬0<AG (s.drop a):=λq=>hm ((Mx ha).1 q)
 rw [if_neg (show ¬(isLet (s.getD a 0)||decide ((s.getD a 0).toNat=95))=true from hm),BU,sb] at S0
 rw [if_neg aNc,HC,sb,sb] at I0
 by_cases hd:pE (s.getD a 0)=true
 ·have hdp:=acp ha hd
  have hdl:=RI (s.drop a)
  have d0:gG (s.drop a) 0=some ((uW (s.drop a):Nat):Int):=by
   have:=iDr (s.drop a) aNc (s.drop a).length 0 aNc aNc
   rw [aKc,aKh] at this;exact this
  rw [if_pos hd,d0,sb,aco hdl,sb,m69,m98] at I0
  rw [if_pos hd,sDr s aNc s.length a aNc aNc,sb,Ew aNc aNc,sb,aKT,anh,sb] at S0
  have hdr:(s.drop a).take (uW (s.drop a))=s.getD a 0::(s.drop (a+1)).take (uW (s.drop a) - 1):=by
   obtain ⟨m,hm⟩:∃m,uW (s.drop a)=m+1:=⟨uW (s.drop a) - 1,by omega⟩
   rw [hm,drop_cons ha,List.take_succ_cons];rfl
  have GX:48<=(s.getD a 0).toNat/\(s.getD a 0).toNat<=57:=by unfold pE at hd;simpa using hd
  have hpw:pw ((s.drop a).take (uW (s.drop a))) (-1000000000) 1000000000=Mt (rK ((s.drop a).take (uW (s.drop a)))):=by
   rw [hdr];exact afB (λq=>by rw [q] at GX;exact absurd GX aNd) (λq=>by rw [q] at GX;exact absurd GX aNd)
  rw [hpw] at I0
  generalize rK ((s.drop a).take (uW (s.drop a)))=o at I0 S0
  generalize uW (s.drop a)=d at*
  cases o with
  | none=>exact .inr ⟨_,4,by decide,S0,I0⟩
  | some v=>
   by_cases hv:v<=1000000000
   ·replace S0:_=((if (v:Int)>1000000000 then _ else _)>>=_):=S0
    rw [if_neg aNc,sb] at S0
    have:Mt (some v)=some (v:Int):=if_pos hv
    rw [this] at I0
    replace I0:_=(dz (.mk s (a:Int) l 0) 4 (v:Int) [] (d:Int)>>=_):=I0
    rw [add_eq hO _ _ _ aNc,sb] at I0
    exact .inl ⟨_,a+d,by omega,by omega,S0,I0,h.push aNc aNf (λq=>absurd q aNd) (λq=>absurd q aNd)⟩
   ·replace S0:_=((if (v:Int)>1000000000 then _ else _)>>=_):=S0
    rw [if_pos aNc,sb] at S0
    have:Mt (some v)=none:=if_neg hv
    rw [this] at I0
    exact .inr ⟨_,4,by decide,S0,I0⟩
 rw [if_neg hd] at I0 S0
 by_cases h39:(s.getD a 0).toNat=39
 ·rw [if_pos aNc,oE] at I0
  rw [if_pos aNc,oG,bN aNc] at S0
  rcases P1 (a:=a) hO hs s.length 1 [] aNc aNc aNf with ⟨x1,x2⟩ | ⟨q,b,q1,q2,q3,q4,q5⟩
  ·replace I0:_=((cU (.mk s (a:Int) l 0) (s.drop a) [] ((1:Nat):Int)>>=_)>>=_):=I0
   rw [x2,sb,sb] at I0
   rcases x1 with x1 | x1<;>rw [x1,sb,sb] at S0<;>dsimp only at S0<;>rw [if_pos aNd,sb] at S0<;>exact .inr ⟨_,3,by decide,S0,I0⟩
  ·replace I0:_=((cU (.mk s (a:Int) l 0) (s.drop a) [] ((1:Nat):Int)>>=_)>>=_):=I0
   rw [q5,sb,sb] at I0
   rw [q4,sb,sb] at S0
   dsimp only at S0
   rw [if_neg aNc,sb] at S0
   exact .inl ⟨_,b,q1,q2,S0,I0,h.push aNc aNc (λq=>absurd q aNd) (λq=>absurd q aNd)⟩
 rw [if_neg aNc] at I0 S0
 rw [sb,aCN hs ha,sb] at S0
 rw [aCO hO hs aNc,sb] at I0
 cases hf:fm yl (s.drop a) with
 | none=>
  rw [hf] at I0 S0
  dsimp only at S0
  rw [if_pos (show ((none:Option aD).getD [])=([]:aD) from rfl)] at S0
  exact .inr ⟨_,2,by decide,S0,I0⟩
 | some m=>
  obtain ⟨m1,m2,m3,m4⟩:=afC hf
  rw [hf] at I0 S0
  replace S0:_=(if m=([]:aD) then _ else _):=S0
  rw [if_neg m4] at S0
  have w2:bm ((a:Int)+(m.length:Int))=((a+m.length:Nat):Int):=kE aNc aNc
  replace S0:j6 s (a:Int)=some ((.mk 6 0 m (a:Int)),bm ((a:Int)+(m.length:Int)),0):=S0
  rw [w2] at S0
  exact .inl ⟨_,a+m.length,by omega,by omega,S0,I0,h.push aNc aNc (λq=>absurd q aNd) (λ_=>m1)⟩
theorem oq {s:aD} (hs:s.length<=4000) {k:Nat} (hk:k<=s.length) (h2:k<s.length->Lib.occAt s [60,63] k=true):∀(f j:Nat),j+f=k->(∀p,j<=p->p<k->Lib.occAt s [60,63] p=false)->k8 s (j:Int)=some (k:Int)
 | 0,j,e,_=>by
  obtain rfl:j=k:=by omega
  rw [k8]
  by_cases hc:j<s.length
  ·rw [if_pos aNc,Bl aNf aNf hk aNc,sb,h2 hc,if_pos rfl]
  ·rw [if_neg aNc]
 | f+1,j,e,h=>by
  rw [k8,if_pos aNc,Bl aNf aNf aNc aNc,sb,h j aNc aNc,if_neg aNf,bN aNc]
  exact oq hs hk h2 f (j+1) aNc (λp FR My=>h p aNc My)
theorem Ex (s p:aD) (a j:Nat):Lib.occAt (s.drop a) p j=Lib.occAt s p (a+j):=by unfold Lib.occAt;rw [List.drop_drop]
theorem acs {s:aD} (hs:s.length<=4000) {a:Nat} (ha:a<s.length) {l:List ah} (h:MP l a):
  ∃(b:Nat) (l':List ah),a<b/\b<=s.length/\MP l' b/\cR (.mk s (a:Int) l 0)=some (.mk s (b:Int) l' 0)/\
   ((bM s l false (a:Int)=bM s l' true (b:Int))\/(b=s.length/\bM s l false (a:Int)=some (.inl l'))):=by
 have hl:=h.len
 have hO:l.length<=4000:=by omega
 have hlen:(s.drop a).length=s.length - a:=aKS
 obtain ⟨n,hn,hn1,hn2,hn3⟩:∃n:Nat,(if Lib.index (s.drop a) [60,63]<0 then some ((s.drop a).length:Int) else some (Lib.index (s.drop a) [60,63]))=some (n:Int)/\a+n<=s.length/\(a+n<s.length->Lib.occAt s [60,63] (a+n)=true/\a+n+2<=s.length)/\(∀p,a<=p->p<a+n->Lib.occAt s [60,63] p=false):=by
  rcases Lib.index_spec (s.drop a) [60,63] with ⟨i1,i2⟩ | ⟨i,i1,i2⟩
  ·rw [i1,if_pos aNd]
   refine ⟨_,rfl,by omega,λq=>by omega,λp FR My=>?_⟩
   have:=i2 (p - a) aNc
   rw [Ex,show a+(p - a)=p by omega] at this;exact this
  ·rw [i1,if_neg aNc]
   have hr:=Lib.index_room (s.drop a) [60,63] aNc
   simp only [an,mg] at hr
   refine ⟨i,rfl,by omega,λ_=>⟨?_,by omega⟩,λp FR My=>?_⟩
   ·have:=i2.2.1
    rw [Ex] at this;exact this
   ·have:=i2.2.2 (p - a) aNc
    rw [Ex,show a+(p - a)=p by omega] at this;exact this
 have eL:k8 s (a:Int)=some ((a+n:Nat):Int):=oq hs hn1 (λq=>(hn2 q).1) n a rfl hn3
 have e2:m64 (s.drop a) [60,63]=some (Lib.index (s.drop a) [60,63]):=by unfold m64;rw [if_pos aNc]
 have hS:=bM.eq_1 s l false (a:Int)
 rw [if_pos aNc,if_neg aNd,eL,sb] at hS
 have hI:=cR.eq_1 (.mk s (a:Int) l 0)
 replace hI:cR (.mk s (a:Int) l 0)=(mU s (a:Int)>>=_):=hI
 rw [pZ aNc,sb,e2,sb,hn,sb] at hI
 obtain ⟨l1,t1,hS,hI,hz⟩:∃l1:List ah,MP l1 (a+n)/\bM s l false (a:Int)=(if ((a+n:Nat):Int)<(s.length:Int) then
    hZ s ((a+n:Nat):Int) [60,63,61]>>=λR9=>
    (if R9=true then
     cC 40 l1 ([(ah.mk 3 0 [101,99,104,111] ((a+n:Nat):Int))]:List ah)>>=λl39=>
     bM s l39 (decide (((a+n:Nat):Int)<(s.length:Int))) (bm (((a+n:Nat):Int)+3))
    else
     bM s l1 (decide (((a+n:Nat):Int)<(s.length:Int))) (bm (((a+n:Nat):Int)+2)))
   else
    bM s l1 (decide (((a+n:Nat):Int)<(s.length:Int))) (bm (((a+n:Nat):Int)+2)))/\
   cR (.mk s (a:Int) l 0)=(if ((a+n:Nat):Int)=(s.length:Int) then
    some (bL.mk s ((a+n:Nat):Int) l1 0)
   else
    mU s ((a+n:Nat):Int)>>=λs25=>
    m66 s25 [60,63,61]>>=λzy=>
    (if zy=true then
     dz (bL.mk s ((a+n:Nat):Int) l1 0) 3 0 [101,99,104,111] ((3:Nat):Int)>>=λv30=>
     some v30
    else
     some (bL.mk s (bm (((a+n:Nat):Int)+2)) l1 0)))/\l1.length<=4000:=by
  by_cases hz:n=0
  ·subst hz
   rw [if_neg aNc,sb] at hI hS
   exact ⟨l,h,hS,hI,hO⟩
  ·have t1:MP (l++[.mk 1 0 ((s.drop a).take n) (a:Int)]) (a+n):=h.push aNc (by rw [aLz];omega) (λq=>absurd q aNd) (λq=>absurd q aNd)
   rw [if_pos aNc,Ew aNc aNc,sb,aKT,jX aNm,sb,sb] at hS
   rw [if_pos aNc,aco aNc,sb,add_eq hO _ _ _ aNc,sb] at hI
   exact ⟨_,t1,hS,hI,by have:=t1.len;omega⟩
 by_cases hk:a+n<s.length
 ·obtain ⟨o1,o2⟩:=hn2 hk
  rw [if_pos aNc,Bl aNf aNf aNc aNc,sb,show decide (((a+n:Nat):Int)<(s.length:Int))=true from decide_eq_true aNc] at hS
  rw [if_neg aNc,pZ aNc,sb,P2,sb] at hI
  replace hS:_=(if Lib.hasPrefix (s.drop (a+n)) [60,63,61]=true then _ else _):=hS
  cases hp:Lib.hasPrefix (s.drop (a+n)) [60,63,61]
  ·rw [hp,if_neg aNd,kE (n:=a+n+2) aNc aNc] at hS hI
   exact ⟨a+n+2,l1,by omega,o2,t1.mono aNc,hI,.inl hS⟩
  ·have h3:a+n+3<=s.length:=by
    have:=(aLA.1 (show [60,63,61].isPrefixOf (s.drop (a+n))=true from hp)).length_le
    rw [aKS] at this;simp only [an,mg] at this;omega
   rw [hp,if_pos rfl,kE (x:=((a+n:Nat):Int)+3) (n:=a+n+3) aNc aNc,jX aNm,sb] at hS
   rw [hp,if_pos rfl,add_eq hz _ _ _ aNc,sb] at hI
   exact ⟨a+n+3,_,by omega,h3,t1.push aNc aNf (λ_=>rfl) (λq=>absurd q aNd),hI,.inl hS⟩
 ·rw [if_neg aNc,kE (x:=((a+n:Nat):Int)+2) (n:=a+n+2) aNc aNc,bM.eq_1 s l1,if_neg aNc] at hS
  rw [if_pos aNc] at hI
  exact ⟨a+n,l1,by omega,hn1,t1,hI,.inr ⟨by omega,hS⟩⟩
theorem RJ {s:aD} (hs:s.length<=4000) (l:List ah) (q:Int):∀(f j:Nat),s.length<=j+f->j<=s.length->∃b:Nat,j<=b/\b<=s.length/\k9 s true l (j:Int)=some (.inl (l,true,(b:Int)))/\ez (.mk s q l 0) (j:Int)=some (.mk s (b:Int) l 0)
 | f,j,h,hj=>by
  rw [k9,ez]
  dsimp only
  by_cases hc:j<s.length
  ·obtain ⟨g,rfl⟩:∃g,f=g+1:=⟨f - 1,by omega⟩
   rw [if_pos aNc,if_pos aNc,eE hc,sb,sb]
   by_cases h10:(s.getD j 0).toNat=10
   ·rw [if_pos aNc,if_pos aNc,sb]
    exact ⟨j,As _,hj,rfl,rfl⟩
   ·rw [if_neg aNc,if_neg aNc,Bl aNf aNf aNc aNc,sb,pZ aNc,sb,P2,sb]
    show ∃b:Nat,_/\_/\(if Lib.hasPrefix (s.drop j) [63,62]=true then _ else _)=_/\_
    cases hp:Lib.hasPrefix (s.drop j) [63,62]
    ·rw [if_neg aNd,if_neg aNd,sb,bN aNc]
     obtain ⟨b,b1,b2,b3,b4⟩:=RJ hs l q g (j+1) aNc aNc
     exact ⟨b,by omega,b2,b3,b4⟩
    ·rw [if_pos rfl,if_pos rfl,sb]
     exact ⟨j,As _,hj,rfl,rfl⟩
  ·rw [if_neg aNc,if_neg aNc,sb]
   exact ⟨j,As _,hj,rfl,rfl⟩
def ani (s:aD) (x:Option ((List ah) ⊕ ((List ah)×Int×Int))) (y:Option (aD×Int×Int×(List ah))):Prop:=
 ∃(p k:Int) (l:List ah),y=some (s,p,k,l)/\((k=0/\x=some (.inl l)/\MP l s.length)\/(k≠0/\x=some (.inr ([],k,p))))
theorem acu {s:aD} {l:List ah}:fX s s (s.length:Int) 0 l=some (s,(s.length:Int),0,l):=by
 rw [fX,if_pos rfl,if_neg aNc,sb]
theorem wM {s:aD} {l:List ah} {a:Nat} (ha:a<s.length) {x:bL} (h:dn (.mk s (a:Int) l 0)=some x):fX s s (a:Int) 0 l=fX s x.fS x.bx x.dM x.bO:=by
 rw [fX,if_pos rfl,if_pos aNc,sb]
 show (dn (.mk s (a:Int) l 0)>>=_)=_
 rw [h,sb]
theorem aCP {s:aD} (hs:s.length<=4000):∀m a:Nat,a<=s.length->s.length - a=m->∀l:List ah,MP l a->
  ani s (bM s l true (a:Int)) (fX s s (a:Int) 0 l)/\
  ∃(b:Nat) (l':List ah),cR (.mk s (a:Int) l 0)=some (.mk s (b:Int) l' 0)/\ani s (bM s l false (a:Int)) (fX s s (b:Int) 0 l'):=by
 intro m
 induction m using Nat.strongRecOn with
 | _ m ih=>
  intro a ha hm l h
  have hl:=h.len
  have hO:l.length<=4000:=by omega
  by_cases hc:a<s.length
  ·have IH:=λ(b:Nat) (hb:a<b) (AS:b<=s.length) (l':List ah) (h':MP l' b)=>ih (s.length - b) aNc b AS rfl l' h'
   constructor
   ·have lt1:=(s.getD a 0).toNat_lt
    by_cases hw:(s.getD a 0).toNat≠32/\(s.getD a 0).toNat≠9/\(s.getD a 0).toNat≠10/\(s.getD a 0).toNat≠13
    ·have eI:=dn.eq_1 (.mk s (a:Int) l 0)
     replace eI:dn (.mk s (a:Int) l 0)=(mU s (a:Int)>>=_):=eI
     rw [pZ aNc,sb,show gz (s.drop a) 0=some (s.getD a 0) from Eu (j:=0) aNc,sb,if_neg aNc,if_neg aNc,if_neg aNc,sb,if_neg (by rw [beq_iff_eq];omega),P2,sb] at eI
     have eS:=bM.eq_1 s l true (a:Int)
     rw [if_pos aNc,if_pos rfl,Bl aNf aNf aNc aNc,sb] at eS
     replace eS:_=(if Lib.hasPrefix (s.drop a) [63,62]=true then _ else _):=eS
     cases hp:Lib.hasPrefix (s.drop a) [63,62]
     ·rw [hp,if_neg aNd] at eI eS
      rw [P2,sb] at eI
      rw [Bl aNf aNf aNc aNc,sb] at eS
      replace eS:_=(if Lib.hasPrefix (s.drop a) [47,47]=true then _ else _):=eS
      cases hq:Lib.hasPrefix (s.drop a) [47,47]
      ·rw [hq,if_neg aNd,eE hc,sb,if_neg aNc,sb,if_neg aNc,sb,if_neg aNc,sb,sb,if_neg (by rw [beq_iff_eq];omega)] at eS
       rcases acr hs hc h hw hp hq with ⟨t,b,q1,q2,q3,q4,q5⟩ | ⟨t,k,q1,q2,q3⟩
       ·rw [q3,sb] at eS
        dsimp only at eS
        rw [if_pos rfl,jX aNm,sb] at eS
        rw [eS,wM hc q4]
        exact (IH b q1 q2 _ q5).1
       ·rw [q2,sb] at eS
        dsimp only at eS
        rw [if_neg q1] at eS
        rw [eS,wM hc q3,fX,if_neg q1,sb]
        exact ⟨_,_,_,rfl,.inr ⟨q1,rfl⟩⟩
      ·rw [hq,if_pos rfl] at eI eS
       have h47:(s.getD a 0)=47:=by
        rw [drop_cons hc] at hq
        have:[47,47].isPrefixOf (s.getD a 0::s.drop (a+1))=true:=hq
        simp only [List.isPrefixOf,At,beq_iff_eq] at this
        exact this.1.symm
       obtain ⟨b,b1,b2,b3,b4⟩:=RJ hs l (a:Int) s.length (a+1) aNc aNc
       have c1:k9 s true l (a:Int)=some (.inl (l,true,(b:Int))):=by
        rw [k9,if_pos aNc,eE hc,sb,if_neg aNc,Bl aNf aNf aNc aNc,sb]
        show (if Lib.hasPrefix (s.drop a) [63,62]=true then _ else _)=_
        rw [hp,if_neg aNd,bN aNc,b3]
       have c2:ez (.mk s (a:Int) l 0) (a:Int)=some (.mk s (b:Int) l 0):=by
        rw [ez]
        dsimp only
        rw [if_pos aNc,eE hc,sb,if_neg aNc,pZ aNc,sb,P2,sb,hp,if_neg aNd,sb,bN aNc,b4]
       rw [c1,sb] at eS
       replace eI:_=ez (.mk s (a:Int) l 0) (a:Int):=eI
       rw [c2] at eI
       rw [wM hc eI]
       replace eS:_=bM s l true (b:Int):=eS
       rw [eS]
       exact (IH b aNc b2 _ (h.mono aNc)).1
     ·have h2:a+2<=s.length:=by
       have:=(aLA.1 (show [63,62].isPrefixOf (s.drop a)=true from hp)).length_le
       rw [aKS] at this;simp only [an,mg] at this;omega
      have t1:MP (l++[.mk 6 0 [59] (a:Int)]) (a+2):=h.push aNc aNf (λq=>absurd q aNd) (λ_=>rfl)
      have ea:dz (.mk s (a:Int) l 0) 6 0 [59] 2=some (.mk s ((a+2:Nat):Int) (l++[.mk 6 0 [59] (a:Int)]) 0):=add_eq (z:=2) hO 6 0 [59] aNc
      rw [hp,if_pos rfl,ea,sb] at eI
      dsimp only at eI
      rw [hp,if_pos rfl,jX aNm,sb,kE (x:=(a:Int)+2) (n:=a+2) aNc aNc,Bl aNf aNf aNc aNc,sb] at eS
      have nx:(if ((a+2:Nat):Int)<(s.length:Int) then gz s ((a+2:Nat):Int)>>=λc24=>some ((c24.toNat:Int)==10) else some false)=some (Lib.occAt s [10] (a+2)):=by
       by_cases bc:a+2<s.length
       ·rw [if_pos aNc,eE bc,sb]
        have:=FR bc 10
        replace this:Lib.occAt s [10] (a+2)=_:=this
        rw [this]
        congr 1
        rw [aLv,beq_iff_eq,beq_iff_eq]
        constructor
        ·intro q;exact UInt8.toNat_inj.1 (show (10:UInt8).toNat=_ by show 10=_;omega)
        ·intro q;rw [<-q];rfl
       ·rw [if_neg aNc,yN aNf aNm]
      rw [nx,sb] at eI
      cases ho:Lib.occAt s [10] (a+2)
      ·rw [ho,if_neg aNd] at eI eS
       obtain ⟨b,l',i1,i2⟩:=(IH (a+2) aNc h2 _ t1).2
       rw [i1,sb] at eI
       rw [eS,wM hc eI]
       exact i2
      ·have h3:a+2+1<=s.length:=by
        rcases Lib.occAt_room ho with q | q
        ·simpa using q
        ·exact absurd q aNf
       rw [ho,if_pos rfl,bN aNc] at eI eS
       obtain ⟨b,l',i1,i2⟩:=(IH (a+2+1) aNc h3 _ (t1.mono aNc)).2
       rw [i1,sb] at eI
       rw [eS,wM hc eI]
       exact i2
    ·-- a blank
     have hx:(s.getD a 0).toNat=32\/(s.getD a 0).toNat=9\/(s.getD a 0).toNat=10\/(s.getD a 0).toNat=13:=by omega
     have np:∀(c:UInt8) (p:aD),c.toNat≠(s.getD a 0).toNat->Lib.hasPrefix (s.drop a) (c::p)=false:=λc p oY=>by
      rw [drop_cons hc]
      show (c::p).isPrefixOf (s.getD a 0::s.drop (a+1))=false
      simp only [List.isPrefixOf,Bool.and_eq_false_iff,beq_eq_false_iff_ne]
      exact .inl (λq=>oY (by rw [q]))
     have q1:Lib.occAt s [63,62] a=false:=np 63 [62] (by show 63≠_;omega)
     have q2:Lib.occAt s [47,47] a=false:=np 47 [47] (by show 47≠_;omega)
     have b5:(if ((s.getD a 0).toNat:Int)=32 then some true else if ((s.getD a 0).toNat:Int)=9 then some true else if ((s.getD a 0).toNat:Int)=10 then some true else some (((s.getD a 0).toNat:Int)==13):Option Bool)=some true:=by
      split
      ·rfl
      ·split
       ·rfl
       ·split
        ·rfl
        ·rw [show (((s.getD a 0).toNat:Int)==13)=true by rw [beq_iff_eq];omega]
     have eI:=dn.eq_1 (.mk s (a:Int) l 0)
     replace eI:dn (.mk s (a:Int) l 0)=(mU s (a:Int)>>=_):=eI
     rw [pZ aNc,sb,show gz (s.drop a) 0=some (s.getD a 0) from Eu (j:=0) aNc,sb,b5,sb,if_pos rfl] at eI
     dsimp only at eI
     rw [bN aNc] at eI
     have eS:=bM.eq_1 s l true (a:Int)
     rw [if_pos aNc,if_pos rfl,Bl aNf aNf aNc aNc,sb,q1,if_neg aNd,Bl aNf aNf aNc aNc,sb,q2,if_neg aNd,eE hc] at eS
     replace eS:_=((if ((s.getD a 0).toNat:Int)=32 then some true else if ((s.getD a 0).toNat:Int)=9 then some true else if ((s.getD a 0).toNat:Int)=10 then some true else some (((s.getD a 0).toNat:Int)==13):Option Bool)>>=_):=eS
     rw [b5,sb,if_pos rfl,bN aNc] at eS
     rw [eS,wM hc eI]
     exact (IH (a+1) aNc aNc _ (h.mono aNc)).1
   ·obtain ⟨b,l',i1,i2,i3,i4,i5⟩:=acs hs hc h
    refine ⟨b,l',i4,?_⟩
    rcases i5 with i5 | ⟨i5,i6⟩
    ·rw [i5];exact (IH b i1 i2 l' i3).1
    ·subst i5
     rw [i6,acu]
     exact ⟨_,_,_,rfl,.inl ⟨rfl,rfl,i3⟩⟩
  ·obtain rfl:a=s.length:=by omega
   have eS:∀b:Bool,bM s l b (s.length:Int)=some (.inl l):=λb=>by rw [bM,if_neg aNc]
   have fin:ani s (some (.inl l)) (fX s s (s.length:Int) 0 l):=by rw [acu];exact ⟨_,_,_,rfl,.inl ⟨rfl,rfl,h⟩⟩
   refine ⟨by rw [eS];exact fin,s.length,l,?_,by rw [eS];exact fin⟩
   have hI:=cR.eq_1 (.mk s (s.length:Int) l 0)
   replace hI:cR (.mk s (s.length:Int) l 0)=(mU s (s.length:Int)>>=_):=hI
   rw [pZ aNc,sb,List.drop_length,show m64 [] [60,63]=some (-1) from rfl,sb,if_pos aNd,sb,if_neg aNf,sb] at hI
   dsimp only at hI
   rw [if_pos rfl] at hI
   exact hI
theorem abO (s:aD):∃(l:List ah) (k p:Int),y0 s=some (l,k,p)/\yX s=some (l,k,p)/\(k=0->p=0/\∀e:Int,0<=e->Tk l e):=by
 unfold y0 yX
 rw [sb]
 by_cases h4:(s.length:Int)>4000
 ·rw [if_pos h4,if_pos h4,sb]
  exact ⟨_,_,_,rfl,rfl,λq=>absurd q aNd⟩
 ·rw [if_neg h4,if_neg h4,sb,sb]
  obtain ⟨b,l',i1,p,k,l,i2,i3⟩:=(aCP (s:=s) aNc s.length 0 aNc aNc [] ⟨by simp,by simp,by simp,by simp,by simp⟩).2
  replace i1:cR (.mk s 0 [] 0)=some (.mk s (b:Int) l' 0):=i1
  rw [i1,sb]
  show ∃(l:List ah) (k p:Int),_/\(fX s s (b:Int) 0 l'>>=_)=_/\_
  rw [i2,sb]
  rcases i3 with ⟨rfl,i3,i4⟩ | ⟨i3,i4⟩
  ·replace i3:bM s [] false 0=_:=i3
   rw [i3,sb]
   dsimp only
   rw [if_pos rfl]
   exact ⟨_,_,_,rfl,rfl,λ_=>⟨rfl,λe he=>⟨by have:=i4.len;omega,he,i4.at0,i4.txt,i4.nam,i4.mrk⟩⟩⟩
  ·replace i4:bM s [] false 0=_:=i4
   rw [i4,sb]
   dsimp only
   rw [if_neg i3]
   exact ⟨_,_,_,rfl,rfl,λq=>absurd q i3⟩
set_option maxRecDepth 100000
def iT (y6:Int) (s7:aD):Option (aD):=
 (if y6>0 then
 wQ ([UInt8.ofNat (IntKind.u8.wrap (bm (48+(y6.tmod 10)))).toNat]:List UInt8) s7>>=λs11=>
 iT (bm (y6.tdiv 10)) s11
 else
 some s7)
partial_fixpoint
def jm (a0:Int):Option (aD):=
 (if a0<=0 then
 some [109,48]
 else
 (
 iT a0 []
 :Option (aD))>>=λs2=>
 wQ [109] s2>>=λs15=>
 some s15)
theorem xp {a0:Int} {r:aD} (h:jm a0=some r):sg6 114 a0 r:=by
 refine ep Tryz.func114 ?_
 unfold jm at h
 refine .d (.d (.d (sD h (λmJ h=>?_) (λmJ h=>?_))))
 exact .d (eS h)
 refine .d ?_
 obtain ⟨o3,h,hk5⟩:=bd h
 refine .cut (λσ η=>∃s2,s2=o3/\σ=[(3,.str s2)]/\η=[]) ?_ ?_
 refine le (iT.partial_correctness  (motive:=λy6 s7 o13=>o3=o13->aK _ _ [(0,pI y6),(3,.str s7)] []) ?_ a0 [] o3 h rfl) (tk [] ⟨.i,.s,⟨⟩⟩ ⟨⟩)
 intro F9 ih8 y6 s7 o13 h aIp
 subst aIp
 refine aK.round (.d (.d (sD h (λlS h=>?_) (λlS h=>?_))))
 exact .d ⟨by decide,row cB ([UInt8.ofNat (IntKind.u8.wrap (bm (48+(y6.tmod 10)))).toNat]:List UInt8),eg cB ([UInt8.ofNat (IntKind.u8.wrap (bm (48+(y6.tmod 10)))).toNat]:List UInt8) rfl (vx (Ix _) ⟨.same _,trivial⟩ trivial),rfl,([UInt8.ofNat (IntKind.u8.wrap (bm (48+(y6.tmod 10)))).toNat]:List UInt8),rfl,oW bg rfl,(bk h λs11 vX h=>⟨pR vX,s11,pT vX,by decide,(lg (ih8 _ _ _ h rfl) (tk [] ⟨.i,.s,⟨⟩⟩ ⟨⟩))⟩)⟩
 exact ct ⟨_,si h,rfl,rfl⟩ (tk [] ⟨.s,⟨⟩⟩ ⟨⟩)
 rintro _ _ ⟨s2,rfl,rfl,rfl⟩
 replace h:=hk5
 exact .d (bk h λs15 abv h=>⟨pR abv,s15,pT abv,(eS h)⟩)
mutual
def hC (a0:List ae) (a1:Int):Option (Int×(List ae)):=
 (
 gd a0 a0 a1 0
 :Option (Int×(List ae)))>>=λ(y1,l2)=>
 some (y1,l2)
partial_fixpoint
def gd (a0:List ae) (l8:List ae) (iH:Int) (uR:Int):Option (Int×(List ae)):=
 (if uR<(a0.length:Int) then
 idx l8 uR>>=λxx=>
 jm (bm ((bm (iH+1))+1))>>=λCW=>
 hC xx.af (bm ((bm ((bm (iH+1))+1))+1))>>=λ(H5,v26)=>
 gd a0 (l8.set uR.toNat (ae.mk iH (bm (iH+1)) CW v26)) H5 (bm (uR+1))
 else
 some (iH,l8))
partial_fixpoint
end
def acv (a0:List ae) (a1:Int) (r:Int×(List ae)):Prop:=∀g1000:Nat,∀eR:Nat,∀gX:Nat->List PV,DR ae.D eR gX a0->ACall Tryz.prog 55 [.own 0 g1000 0 eR,pI a1] [.row g1000 4 eR 29 gX] (λres h=>∃F0:Nat->List PV,DR ae.D eR F0 r.2/\res=pI r.1/\h=[.row g1000 4 eR 29 F0])
inductive iB:(List ae)->(List ae)->Int->Int->(Int×(List ae))->Prop
 | mk (G55:(List ae)->Int->Option (Int×(List ae))) (aJ0:∀a0 a1 r,G55 a0 a1=some r->acv a0 a1 r) (qM:(List ae)->(List ae)->Int->Int->Option (Int×(List ae))) (MQ:∀a0 l8 iH uR o,qM a0 l8 iH uR=some o->iB a0 l8 iH uR o) (a0:List ae) (l8:List ae) (iH:Int) (uR:Int) (o:Int×(List ae)) (h:(
 (if uR<(a0.length:Int) then
 idx l8 uR>>=λxx=>
 jm (bm ((bm (iH+1))+1))>>=λCW=>
 G55 xx.af (bm ((bm ((bm (iH+1))+1))+1))>>=λ(H5,v26)=>
 qM a0 (l8.set uR.toNat (ae.mk iH (bm (iH+1)) CW v26)) H5 (bm (uR+1))
 else
 some (iH,l8))
 )=some o):iB a0 l8 iH uR o
theorem AI:(∀a0 a1 r,hC a0 a1=some r->acv a0 a1 r)/\(∀a0 l8 iH uR o,gd a0 l8 iH uR=some o->iB a0 l8 iH uR o):=by
 refine hC.mutual_partial_correctness acv iB ?_ ?_
 intro _ aIq a0 a1 r h g1000 eR gX lX
 obtain rfl:=lX.len
 refine ep Tryz.func55 ?_
 refine .d ?_
 obtain ⟨o5,h,ym⟩:=bd h
 refine .cut (λσ η=>∃y1,∃l2,∃f3:Nat->List PV,DR ae.D a0.length f3 l2/\(y1,l2)=o5/\σ=[(1,pI y1)]/\η=[.row g1000 4 a0.length 29 f3]) ?_ ?_
 refine .d ?_
 have aIr:=aIq _ _ _ _ _ h
 refine le (iB.rec (motive:=λp34 l8 iH uR o32 _=>∀f9:Nat->List PV,DR ae.D a0.length f9 l8->a0=p34->o5=o32->aK _ _ [(0,.own 0 g1000 0 a0.length),(1,pI iH),(5,pI uR)] [.row g1000 4 a0.length 29 f9]) ?_ aIr gX lX rfl rfl) (tk [0] ⟨.oe,.i,.i,⟨⟩⟩ ⟨oda,⟨⟩⟩)
 intro _ aIs _ _ p34 l8 iH uR o32 h aIt f9 d10 anj aIu
 subst anj
 subst aIu
 refine aK.round (.d (.d ⟨rfl,(sD h (λnK h=>?_) (λnK h=>?_))⟩))
 refine .d (.d (bk h λxx vh h=>?_))
 obtain ⟨F19,f20,e22,d21⟩:=ae.ahe (DR.idx d10 vh)
 refine ⟨rfl,DR.bd d10 vh,_,aKc _,rfl,rfl,_,(da f9 uR.toNat [pI iH,pI xx.aE,.str xx.aq,.dI 4 xx.af.length 29 f20 F19]),e22,amH ⟨.same _,.same _,.same _,.same _,trivial⟩,(.d (.d ⟨rfl,DR.bd d10 vh,_,aKc _,rfl,rfl,_,(da f9 uR.toNat [pI iH,pI (bm (iH+1)),.str xx.aq,.dI 4 xx.af.length 29 f20 F19]),jh,Rj ⟨.same _,.same _,.same _,.same _,trivial⟩,(.d (.d (bk h λCW abd h=>(b8 (xp abd) ⟨rfl,DR.bd d10 vh,_,aKc _,rfl,rfl,_,(da f9 uR.toNat [pI iH,pI (bm (iH+1)),.str CW,.dI 4 xx.af.length 29 f20 F19]),jh,Rj ⟨.same _,.same _,.same _,.same _,trivial⟩,?_⟩))))⟩))⟩
 refine .ex [.row g1000 4 a0.length 29 (da f9 uR.toNat [pI iH,pI (bm (iH+1)),.str CW,.own 1 0 0 xx.af.length]),.row 0 4 xx.af.length 29 f20] (exs 0 3 [pI iH,pI (bm (iH+1)),.str CW,.dI 4 xx.af.length 29 f20 F19] [pI iH,pI (bm (iH+1)),.str CW,.own 1 0 0 xx.af.length] (da f9 uR.toNat [pI iH,pI (bm (iH+1)),.str CW,.own 1 0 0 xx.af.length]) (DR.lt d10 vh) jh jh Rk rfl rfl rfl rfl) (.d ⟨rfl,DR.bd d10 vh,_,aKc _,rfl,rfl,_,jh,?_⟩)
 obtain ⟨⟨H5,v26⟩,akJ,h⟩:=bd h
 refine QY (aIs _ _ _ akJ _ _ _ d21) [1] ⟨(OQ d21),⟨⟩⟩ λf28 d29=>?_
 refine .ab 0 uR.toNat 3 1 _ (λ_=>pf (DR.lt d10 vh) (d29).po) λF30=>?_
 have d31:DR ae.D a0.length (da f9 uR.toNat [pI iH,pI (bm (iH+1)),.str CW,.dI 4 xx.af.length 29 f28 F30]) (l8.set uR.toNat (ae.mk iH (bm (iH+1)) CW v26)):=DR.set d10 (O2 vh) (ae.bh (x:=(ae.mk iH (bm (iH+1)) CW v26)) d29:ae.D [pI iH,pI (bm (iH+1)),.str CW,.dI 4 xx.af.length 29 f28 F30] (ae.mk iH (bm (iH+1)) CW v26))
 exact lg (aIt _ _ _ _ _ h _ d31 rfl rfl) (tk [0] ⟨.oe,.i,.i,⟨⟩⟩ ⟨oda,⟨⟩⟩)
 exact ct ⟨_,_,f9,d10,si h,rfl,rfl⟩ (tk [0] Al ⟨oda,⟨⟩⟩)
 rintro _ _ ⟨y1,l2,f3,d4,rfl,rfl,rfl⟩
 replace h:=ym
 refine .d ?_
 obtain rfl:=si h
 exact en [0] ⟨f3,d4,rfl,rfl⟩ .i ⟨oda,⟨⟩⟩
 intro F0 F1 n8 n9 a0 l8 iH uR o h
 exact .mk F0 n8 F1 n9 a0 l8 iH uR o h
theorem Ey {a0:List ae} {a1:Int} {r:Int×(List ae)} {g1000:Nat} {eR:Nat} {gX:Nat->List PV} (h:hC a0 a1=some r) (lX:DR ae.D eR gX a0):ACall Tryz.prog 55 [.own 0 g1000 0 eR,pI a1] [.row g1000 4 eR 29 gX] (λres h=>∃F0:Nat->List PV,DR ae.D eR F0 r.2/\res=pI r.1/\h=[.row g1000 4 eR 29 F0]):=AI.1 a0 a1 r h g1000 eR gX lX
def nH (a0:ae) (a1:Int):Option (Int×ae):=
 hC a0.af a1>>=λ(v1,v2)=>
 some (v1,(ae.mk a0.ai a0.aE a0.aq v2))
theorem FQ {a0:ae} {a1:Int} {r:Int×ae} {g1000:Nat} {eR:Nat} {gX:Nat->List PV} (h:nH a0 a1=some r) (lX:DR ae.D eR gX a0.af):ACall Tryz.prog 21 [.agg [pI a0.ai,pI a0.aE,.str a0.aq,.own 0 g1000 0 eR],pI a1] [.row g1000 4 eR 29 gX] (λres h=>∃F0:Nat->List PV,DR ae.D eR F0 r.2.af/\res=pI r.1/\h=[.row g1000 4 eR 29 F0]):=by
 obtain rfl:=lX.len
 refine ep Tryz.func21 ?_
 unfold nH at h
 refine .d (.d ⟨rfl,rfl,_,rfl,?_⟩)
 obtain ⟨⟨v1,v2⟩,tD,h⟩:=bd h
 refine QY (Ey (g1000:=g1000) tD lX) [0] ⟨(OQ lX),⟨⟩⟩ λf4 d5=>?_
 refine .d ?_
 obtain rfl:=si h
 exact en [0] ⟨f4,d5,rfl,rfl⟩ .i ⟨oda,⟨⟩⟩
set_option maxRecDepth 100000
mutual
def gl (a0:List ae) (a1:Int):Option (Int):=
 ((
 gf a0 a1 0
 :Option ((Int) ⊕ Int))>>=λo2=>match o2 with
 | .inr r=>some r
 | .inl y1=>
 some y1
 )
partial_fixpoint
def gf (a0:List ae) (y5:Int) (y6:Int):Option ((Int) ⊕ Int):=
 (if y6<(a0.length:Int) then
 idx a0 y6>>=λDN=>
 (if DN.ai=y5 then
 idx a0 y6>>=λEK=>
 (if EK.aE=(bm (y5+1)) then
 idx a0 y6>>=λxx=>
 jm (bm ((bm (y5+1))+1))>>=λnL=>
 (if xx.aq=nL then
 idx a0 y6>>=λx22=>
 gl x22.af (bm ((bm ((bm (y5+1))+1))+1))>>=λv24=>
 (if v24<0 then
 some (.inr (-1))
 else
 gf a0 v24 (bm (y6+1)))
 else
 some (.inr (-1)))
 else
 some (.inr (-1)))
 else
 some (.inr (-1)))
 else
 some (.inl y5))
partial_fixpoint
end
def acw (a0:List ae) (a1:Int) (r:Int):Prop:=aCm 56 a0 a1 r
inductive iC:(List ae)->Int->Int->((Int) ⊕ Int)->Prop
 | mk (G56:(List ae)->Int->Option (Int)) (aJ1:∀a0 a1 r,G56 a0 a1=some r->acw a0 a1 r) (qN:(List ae)->Int->Int->Option ((Int) ⊕ Int)) (MR:∀a0 y5 y6 o,qN a0 y5 y6=some o->iC a0 y5 y6 o) (a0:List ae) (y5:Int) (y6:Int) (o:(Int) ⊕ Int) (h:(
 (if y6<(a0.length:Int) then
 idx a0 y6>>=λDN=>
 (if DN.ai=y5 then
 idx a0 y6>>=λEK=>
 (if EK.aE=(bm (y5+1)) then
 idx a0 y6>>=λxx=>
 jm (bm ((bm (y5+1))+1))>>=λnL=>
 (if xx.aq=nL then
 idx a0 y6>>=λx22=>
 G56 x22.af (bm ((bm ((bm (y5+1))+1))+1))>>=λv24=>
 (if v24<0 then
 some (.inr (-1))
 else
 qN a0 v24 (bm (y6+1)))
 else
 some (.inr (-1)))
 else
 some (.inr (-1)))
 else
 some (.inr (-1)))
 else
 some (.inl y5))
 )=some o):iC a0 y5 y6 o
theorem AJ:(∀a0 a1 r,gl a0 a1=some r->acw a0 a1 r)/\(∀a0 y5 y6 o,gf a0 y5 y6=some o->iC a0 y5 y6 o):=by
 refine gl.mutual_partial_correctness acw iC ?_ ?_
 intro _ aIv a0 a1 r h
 refine ep Tryz.func56 ?_
 refine .d ?_
 obtain ⟨o2,h,ID⟩:=bd h
 refine .cut (λσ η=>∃y1,.inl y1=o2/\σ=[(1,pI y1)]/\η=[]) ?_ ?_
 refine .d ?_
 have aIw:=aIv _ _ _ _ h
 refine le (iC.rec (motive:=λp29 y5 y6 T9 _=>a0=p29->o2=T9->aK _ _ [(0,sl 4 ae.cells a0),(1,pI y5),(5,pI y6)] []) ?_ aIw rfl rfl) (tk [] Hq ⟨⟩)
 intro _ hG9 _ _ p29 y5 y6 T9 h ih7  ank aIx
 subst ank
 subst aIx
 refine aK.round (.d (.d (sD h (λlS h=>?_) (λlS h=>?_))))
 refine .d (.d (.d (bk h λDN vX h=>⟨bf vX,_,(aU vX).trans (ae.aO DN),(sN h (λsj h=>?_) (λsj h=>?_))⟩)))
 refine .d ?_
 exact aMl
 refine .d (.d (.d (bk h λEK yE h=>⟨bf yE,_,(aU yE).trans (ae.aO EK),(sN h (λnK h=>?_) (λnK h=>?_))⟩)))
 refine .d ?_
 exact aMl
 refine .d (.d (.d (.float [(0,true),(1,true),(2,true),(3,true),(4,true),(5,true),(6,false),(7,true)] aNh ?_)))
 refine bk h λxx vh h=>⟨bf vh,_,(aU vh).trans (ae.aO xx),(bk h λnL VX h=>(b8 (xp VX) (UJ h (λEM h=>?_) (λEM h=>?_))))⟩
 refine .d ?_
 exact aMl
 refine .d (.d (bk h λx22 Tz h=>⟨bf Tz,_,(aU Tz).trans (ae.aO x22),(bk h λv24 Nt h=>(b8 (hG9 _ _ _ Nt) (.d (sD h (λwP h=>?_) (λwP h=>?_)))))⟩))
 refine .d ?_
 exact aMl
 exact lg (ih7 _ _ _ _ h rfl rfl) (tk [] Hq ⟨⟩)
 exact aMM
 exact aMe
 exact aMv
theorem Ez {a0:List ae} {a1:Int} {r:Int} (h:gl a0 a1=some r):aCm 56 a0 a1 r:=AJ.1 a0 a1 r h
def lF (a0:ae) (a1:Int):Option (Int):=
 gl a0.af a1>>=λv1=>
 (if v1<0 then
 some (-1)
 else
 some v1)
theorem xq {a0:ae} {a1:Int} {r:Int} (h:lF a0 a1=some r):sg7 22 a0 a1 r:=by
 refine ep Tryz.func22 ?_
 unfold lF at h
 refine .d (.d ⟨rfl,rfl,_,rfl,(bk h λv1 tu h=>(b8 (Ez tu) (.d (.d (sD h (λzA h=>?_) (λzA h=>?_))))))⟩)
 exact aML
 exact aML
set_option maxRecDepth 100000
def gV (a0:aD):Option (Bool):=
 (if (a0.length:Int)>1048576 then
 some true
 else
 (
 kl a0>>=λ(ml,wV,yq)=>
 some (ml.ai,ml.aE,ml.aq,ml.af,wV,yq)
 :Option (Int×Int×aD×(List ae)×Int×Int))>>=λ(y2,y3,s4,l5,y8,y9)=>
 iR a0>>=λ(nL,v20,v21)=>
 ((
 kK nL (ae.mk y2 y3 s4 l5)>>=λv28=>
 (if v28=true then
 (if v20=y8 then
 (if v21=y9 then
 some (.inl ())
 else
 some (.inr false))
 else
 some (.inr false))
 else
 some (.inr false))
 :Option iD)>>=λo25=>match o25 with
 | .inr r=>some r
 | .inl _=>
 nH nL 1>>=λ(zB,Fc)=>
 lF (ae.mk nL.ai nL.aE nL.aq Fc.af) 1>>=λuu=>
 ((
 (if uu<0 then
 some (.inr false)
 else
 some (.inl ()))
 :Option iD)>>=λo40=>match o40 with
 | .inr r=>some r
 | .inl _=>
 (if uu=zB then
 iR a0>>=λ(qO,v46,vy)=>
 ((
 kK qO (ae.mk y2 y3 s4 l5)>>=λQN=>
 (if QN=true then
 (if v46=y8 then
 (if vy=y9 then
 some (.inl ())
 else
 some (.inr false))
 else
 some (.inr false))
 else
 some (.inr false))
 :Option iD)>>=λo51=>match o51 with
 | .inr r=>some r
 | .inl _=>
 lF (ae.mk nL.ai nL.aE nL.aq Fc.af) 1>>=λv59=>
 (if v59<0 then
 some false
 else
 (if v59=zB then
 some true
 else
 some false))
 )
 else
 some false)
 )
 ))
theorem te {a0:aD} {r:Bool} (h:gV a0=some r):sg3 7 a0 r:=by
 refine ep Tryz.func7 ?_
 unfold gV at h
 refine .d (.d (.d (sD h (λmJ h=>?_) (λmJ h=>?_))))
 exact aMI
 obtain ⟨T4,h,Hu⟩:=bd h
 refine .cut (λσ η=>∃y2,∃y3,∃s4,∃l5,∃y8,∃y9,∃f6:Nat->List PV,DR ae.D l5.length f6 l5/\(y2,y3,s4,l5,y8,y9)=T4/\σ=[(0,.str a0),(3,.aA 0 0 0 0),(4,pI y8),(5,pI y9)]/\η=[.row 0 4 1 29 (λ_=>[pI y2,pI y3,.str s4,.own 1 0 0 l5.length]),.row 0 4 l5.length 29 f6]) ?_ ?_
 obtain ⟨⟨ml,wV,yq⟩,Ir,h⟩:=bd h
 refine amI (Ac Ir) ?_
 rintro _ _ ⟨f17,d18,rfl,rfl⟩
 exact ⟨.fM [.agg [pI ml.ai,pI ml.aE,.str ml.aq,.own 0 0 0 ml.af.length],pI wV,pI yq],[.row 0 4 ml.af.length 29 f17],rfl,(by simp only [aKp,aKI,shr,shd d18];rfl),rfl,_,_,rfl,aj,(ct ⟨_,_,_,_,_,_,f17,d18,si h,rfl,rfl⟩ (tk [1,0] ⟨.s,.p,.i,.i,⟨⟩⟩ ⟨(nb rfl ⟨.i,.i,.s,.oe,⟨⟩⟩),yY,⟨⟩⟩))⟩
 rintro _ _ ⟨y2,y3,s4,l5,y8,y9,f6,d7,rfl,rfl,rfl⟩
 replace h:=Hu
 refine .d ?_
 obtain ⟨⟨nL,v20,v21⟩,zQ,h⟩:=bd h
 refine amI (sL zQ) ?_
 rintro _ _ ⟨f23,d24,rfl,rfl⟩
 refine ⟨.fM [.agg [pI nL.ai,pI nL.aE,.str nL.aq,.own 2 0 0 nL.af.length],pI v20,pI v21],[.row 0 4 1 29 (λ_=>[pI y2,pI y3,.str s4,.own 1 0 0 l5.length]),.row 0 4 l5.length 29 f6,.row 0 4 nL.af.length 29 f23],rfl,(by simp only [aKp,aKI,shr,shd d24];rfl),rfl,_,_,rfl,aj,?_⟩
 obtain ⟨o25,h,TG⟩:=bd h
 refine .cut (λσ η=>.inl ()=o25/\σ=[(0,.str a0),(3,.aA 0 0 0 0),(4,pI y8),(5,pI y9),(6,.aA 2 0 0 0)]/\η=[.row 0 4 1 29 (λ_=>[pI y2,pI y3,.str s4,.own 1 0 0 l5.length]),.row 0 4 l5.length 29 f6,.row 0 4 1 29 (λ_=>[pI nL.ai,pI nL.aE,.str nL.aq,.own 3 0 0 nL.af.length]),.row 0 4 nL.af.length 29 f23]) ?_ ?_
 refine .d ⟨rfl,_,rfl,rfl,_,rfl,(bk h λv28 akH h=>(T6 (AW akH) ⟨.kR ⟨.i,.i,.s,(.rd d24),⟨⟩⟩,.kR ⟨.i,.i,.s,(.rd d7),⟨⟩⟩,⟨⟩⟩ (fP h (λHr h=>?_) (λHr h=>?_))))⟩
 refine .t (.t (.t (.t (.t (.t (.t (.t (.d ?_))))))))
 exact aMo
 refine .f (.f (.f (sN h (λzL h=>?_) (λzL h=>?_))))
 refine .t (.t (.t (.t (.d ?_))))
 exact aMo
 refine .f (.f (.f (sN h (λCe h=>?_) (λCe h=>?_))))
 refine .d ?_
 exact aMo
 exact ct ⟨si h,rfl,rfl⟩ (tk [0,1,3,2] ⟨.s,.p,.i,.i,.p,⟨⟩⟩ aCn)
 rintro _ _ ⟨rfl,rfl,rfl⟩
 replace h:=TG
 refine .d (.d ⟨rfl,_,rfl,?_⟩)
 obtain ⟨⟨zB,Fc⟩,Zx,h⟩:=bd h
 refine QY (FQ (g1000:=0) Zx d24) [3] ⟨(OQ d24),⟨⟩⟩ λf36 d37=>?_
 refine .d (.d ⟨rfl,_,rfl,(bk h λuu Ns h=>(T6 (xq Ns) ⟨.kR ⟨.i,.i,.s,(.rd d37 (by first | rfl | exact d37.len | exact d37.len.symm)),⟨⟩⟩,.i,⟨⟩⟩ ?_))⟩)
 obtain ⟨o40,h,adX⟩:=bd h
 refine .cut (λσ η=>.inl ()=o40/\σ=[(0,.str a0),(3,.aA 0 0 0 0),(4,pI y8),(5,pI y9),(6,.aA 2 0 0 0),(9,pI zB),(10,pI uu)]/\η=[.row 0 4 1 29 (λ_=>[pI y2,pI y3,.str s4,.own 1 0 0 l5.length]),.row 0 4 l5.length 29 f6,.row 0 4 1 29 (λ_=>[pI nL.ai,pI nL.aE,.str nL.aq,.own 3 0 0 nL.af.length]),.row 0 4 nL.af.length 29 f36]) ?_ ?_
 refine .d (sD h (λO0 h=>?_) (λO0 h=>?_))
 refine .d ?_
 obtain rfl:=si h
 replace h:=adX
 exact eB h
 exact ct ⟨si h,rfl,rfl⟩ (tk [0,1,2,3] ⟨.s,.p,.i,.i,.p,.i,.i,⟨⟩⟩ aCn)
 rintro _ _ ⟨rfl,rfl,rfl⟩
 replace h:=adX
 refine .d (.d (sN h (λakL h=>?_) (λakL h=>?_)))
 exact aMI
 refine .d ?_
 obtain ⟨⟨qO,v46,vy⟩,aa1,h⟩:=bd h
 refine amI (sL aa1) ?_
 rintro _ _ ⟨f49,d50,rfl,rfl⟩
 refine ⟨.fM [.agg [pI qO.ai,pI qO.aE,.str qO.aq,.own 4 0 0 qO.af.length],pI v46,pI vy],[.row 0 4 1 29 (λ_=>[pI y2,pI y3,.str s4,.own 1 0 0 l5.length]),.row 0 4 l5.length 29 f6,.row 0 4 1 29 (λ_=>[pI nL.ai,pI nL.aE,.str nL.aq,.own 3 0 0 nL.af.length]),.row 0 4 nL.af.length 29 f36,.row 0 4 qO.af.length 29 f49],rfl,(by simp only [aKp,aKI,shr,shd d50];rfl),rfl,_,_,rfl,aj,?_⟩
 obtain ⟨o51,h,afD⟩:=bd h
 refine .cut (λσ η=>.inl ()=o51/\σ=[(6,.aA 0 0 0 0),(9,pI zB)]/\η=[.row 0 4 1 29 (λ_=>[pI nL.ai,pI nL.aE,.str nL.aq,.own 1 0 0 nL.af.length]),.row 0 4 nL.af.length 29 f36]) ?_ ?_
 refine .d ⟨rfl,_,rfl,rfl,_,rfl,(bk h λQN Oi h=>(T6 (AW Oi) ⟨.kR ⟨.i,.i,.s,(.rd d50),⟨⟩⟩,.kR ⟨.i,.i,.s,(.rd d7),⟨⟩⟩,⟨⟩⟩ (fP h (λM6 h=>?_) (λM6 h=>?_))))⟩
 refine .t (.t (.t (.t (.t (.t (.t (.t (.d ?_))))))))
 exact aMn
 refine .f (.f (.f (sN h (λUL h=>?_) (λUL h=>?_))))
 refine .t (.t (.t (.t (.d ?_))))
 exact aMn
 refine .f (.f (.f (sN h (λHm h=>?_) (λHm h=>?_))))
 refine .d ?_
 exact aMn
 exact ct ⟨si h,rfl,rfl⟩ (tk [2,3] JQ ⟨(nb rfl ⟨.i,.i,.s,.oe,⟨⟩⟩),yY,⟨⟩⟩)
 rintro _ _ ⟨rfl,rfl,rfl⟩
 replace h:=afD
 refine .d (.d ⟨rfl,_,rfl,(bk h λv59 akE h=>(T6 (xq akE) ⟨.kR ⟨.i,.i,.s,(.rd d37 (by first | rfl | exact d37.len | exact d37.len.symm)),⟨⟩⟩,.i,⟨⟩⟩ (.d (.d (sD h (λM7 h=>?_) (λM7 h=>?_))))))⟩)
 exact aMI
 refine .d (.d (sN h (λM8 h=>?_) (λM8 h=>?_)))
 exact aMI
 exact aMI
def wl (l:List ae):Nat:=l.length+J1 l
theorem afE (l m:List ae):J1 (l++m)=J1 l+J1 m:=by
 induction l with
 | nil=>simp [J1]
 | cons x r ih=>simp only [aKY,J1];omega
theorem gU (l m:List ae):wl (l++m)=wl l+wl m:=by unfold wl;rw [afE,abL];omega
theorem cG (x:ae):wl [x]=1+wt x:=rfl
theorem iI (k m:Int) (t:aD) (l:List ae):wt (.mk k m t l)=t.length+wl l:=by rw [w6];unfold wl;simp only [ae.mW,ae.kM];omega
theorem gv:wl []=0:=rfl
theorem jk (x:ae) (l:List ae):wl (x::l)=1+wt x+wl l:=by unfold wl;simp only [an,J1];omega
theorem anl (l:List ae):l.length<=wl l:=by unfold wl;omega
section
variable {ts:List ah} {e e':Int}
theorem jM {i:Nat}:((pS ts e (.g i)).av<0)=True:=by
 show ((-1:Int)<0)=True
 exact eq_true aNd
theorem pD (H:Tk ts e) {i:Nat}:((pS ts e (.b i)).av<0)=False:=by
 have:=am4 H i
 exact eq_false (show ¬pl ts e i<0 by omega)
theorem iM {i:Nat}:((qS ts e' (.g i)).av=true)=False:=eq_false (show ¬false=true by decide)
theorem iL {i:Nat}:((qS ts e' (.b i)).av=true)=True:=eq_true rfl
theorem Py {i:Nat}:((qS ts e' (.d i)).av=true)=False:=eq_false (show ¬false=true by decide)
structure Rs (ts:List ah) (v:Bool) (D:Nat) (s s':JS) (n m:ae):Prop where
 ok:s'.Ok ts
 le:s.pos<=s'.pos
 good:∀i',s'=.g i'->∃i,s=.g i/\i<i'/\n=m/\(wt n:Int)+8192+16384*(i:Int)<=16384*(i':Int)/\yo n=uZ n/\(v=true->i'=i+1->(n.ai==4)=(kd ts i==2))
 dm:∀j,s'=.d j->(∃i,s=.g i)/\s.pos<j/\1<=D/\(D=1->yo m=false)
structure RL (ts:List ah) (a:List ae) (s s':JS) (l m:List ae):Prop where
 ok:s'.Ok ts
 nd:s'.nd=true
 le:s.pos<=s'.pos
 len:l.length+s.pos<=a.length+s'.pos+1
 lem:m.length+s.pos<=s'.pos+1
 good:∀i',s'=.g i'->∃i,s=.g i/\i+1<i'/\l=a++m/\(wl m:Int)+16384*(i:Int)+16384<=16384*(i':Int)
theorem okp {s:JS} (h:s.Ok ts):s.pos<=ts.length:=by
 cases s with
 | g i=>exact h
 | b i=>exact h
 | d i=>exact aKC h.1
theorem fL (s:JS) (w:aD):s.pos<=(wS ts s w).pos:=by
 cases s with
 | g i=>
  rw [Et]
  cases tw ts i w with
  | true=>exact aKQ i
  | false=>exact As i
 | b i=>exact As i
 | d i=>exact As i
theorem lM (s:JS) (k:Int):s.pos<=(nS ts s k).pos:=by
 cases s with
 | g i=>
  rw [Ms]
  cases wZ ts k i with
  | true=>exact aKQ i
  | false=>exact As i
 | b i=>exact As i
 | d i=>exact As i
theorem eV {s:JS} {w:aD} {k:Nat} (h:wS ts s w=.g k):∃i,s=.g i/\k=i+1/\tw ts i w=true:=by
 cases s with
 | g i=>
  rw [Et] at h
  cases ht:tw ts i w with
  | true=>rw [ht] at h;cases h;exact ⟨i,rfl,rfl,ht⟩
  | false=>rw [ht] at h;cases h
 | b i=>cases h
 | d i=>cases h
theorem lj {s:JS} {c:Int} {k:Nat} (h:nS ts s c=.g k):∃i,s=.g i/\k=i+1/\wZ ts c i=true:=by
 cases s with
 | g i=>
  rw [Ms] at h
  cases ht:wZ ts c i with
  | true=>rw [ht] at h;cases h;exact ⟨i,rfl,rfl,ht⟩
  | false=>rw [ht] at h;cases h
 | b i=>cases h
 | d i=>cases h
theorem rC (s:JS):(MM s).pos=s.pos:=by cases s<;>rfl
theorem DW (s:JS):(MM s).nd=true:=by cases s<;>rfl
theorem Av {s:JS} (h:s.Ok ts):(MM s).Ok ts:=by
 cases s with
 | g i=>exact h
 | b i=>exact h
 | d i=>exact aKC h.1
theorem L4 {s:JS} {k:Nat} (h:MM s=.g k):False:=by cases s<;>cases h
theorem ahq {s:JS}:∃j,MM s=.b j:=by cases s<;>exact ⟨_,rfl⟩
theorem DX (s:JS):((qS ts e' (MM s)).av=true)=True:=by
 obtain ⟨j,h⟩:=@ahq s
 rw [h,iL]
theorem zn {s:JS} (hd:s.nd=true):(∃i,s=.g i)\/∃j,s=.b j:=by
 cases s with
 | g i=>exact .inl ⟨i,rfl⟩
 | b j=>exact .inr ⟨j,rfl⟩
 | d j=>cases hd
def S5 (x:Option (((List ah)×Int×Int×Int×(List ae)) ⊕ ((List ae)×aC))) (l:List ae) (p:aC):Prop:=x=some (.inr (l,p))\/x=some (.inl (p.fT,p.fI,p.aw,p.av,l))
def I5 (x:Option (((List ah)×Int×Int×Bool×(List ae)) ⊕ ((List ae)×ak))) (l:List ae) (p:ak):Prop:=x=some (.inr (l,p))\/x=some (.inl (p.ao,p.bx,p.aw,p.av,l))
theorem S5.run {x:Option (((List ah)×Int×Int×Int×(List ae)) ⊕ ((List ae)×aC))} {l:List ae} {p:aC} (h:S5 x l p):(x>>=λo=>match o with
  | .inr r=>some r
  | .inl (SL,xd,qa,xB,oq)=>some (oq,(aC.mk SL xd qa xB)))=some (l,p):=by
 rcases h with h | h<;>rw [h]<;>rfl
theorem I5.run {x:Option (((List ah)×Int×Int×Bool×(List ae)) ⊕ ((List ae)×ak))} {l:List ae} {p:ak} (h:I5 x l p):(x>>=λo=>match o with
  | .inr r=>some r
  | .inl (SL,xd,qa,xB,oq)=>some (oq,(ak.mk SL xd qa xB)))=some (l,p):=by
 rcases h with h | h<;>rw [h]<;>rfl
theorem eY {l:List ae} (x:ae) (h:l.length<=20000):cC 56 l [x]=some (l++[x]):=jX aNm
theorem EA (H:Tk ts e) (k:Int):∀(N:Nat) (i:Nat) (l m:List ae),ts.length - i<N->i<=ts.length->l.length<=10000->m.length<=10000->l.length+ts.length<=10000+i->m.length+ts.length<=10000+i->
  ∃s' x,S5 (dk k (pS ts e (.g i)).fT (pS ts e (.g i)).fI (pS ts e (.g i)).aw (pS ts e (.g i)).av l) (l++x) (pS ts e s')/\
   I5 (cd k (qS ts e' (.g i)).ao (qS ts e' (.g i)).bx (qS ts e' (.g i)).aw (qS ts e' (.g i)).av m) (m++x) (qS ts e' s')/\
   s'.Ok ts/\s'.nd=true/\i<=s'.pos/\x.length+i<=s'.pos+1/\(∀i',s'=.g i'->i<i'/\(wl x:Int)+16384*(i:Int)<=16384*(i':Int))
 | 0,i,l,m,h,_,_,_,_,_=>by omega
 | N+1,i,l,m,hN,hi,hl,hm,HG,hm2=>by
  have hL:=H.len
  have hi0:(JS.g i).Ok ts:=hi
  obtain ⟨s1,num,ed,hd1,FR,hsp,e1,e2⟩:∃(s1:JS) (num:Int),s1.Ok ts/\s1.nd=true/\i<=s1.pos/\(∃i1,s1=.g i1/\i<=i1)/\
    (aB (pS ts e (.g i)) [38]>>=λ(MA,xc)=>(if MA=true then some (xc.fT,xc.fI,xc.aw,xc.av,(1:Int)) else some (xc.fT,xc.fI,xc.aw,xc.av,0)))=some ((pS ts e s1).fT,(pS ts e s1).fI,(pS ts e s1).aw,(pS ts e s1).av,num)/\
    (au (qS ts e' (.g i)) [38]>>=λ(v37,uu)=>(if v37=true then some (uu.ao,uu.bx,uu.aw,uu.av,(1:Int)) else some (uu.ao,uu.bx,uu.aw,uu.av,0)))=some ((qS ts e' s1).ao,(qS ts e' s1).bx,(qS ts e' s1).aw,(qS ts e' s1).av,num):=by
   rcases IF (ts:=ts) (.g i) [38] with h | ⟨i1,h1,h⟩
   ·exact ⟨.g i,0,hi,rfl,As _,⟨i,rfl,As _⟩,by rw [ax H hi0 h];rfl,by rw [ar H hi0 h];rfl⟩
   ·cases h1
    exact ⟨.g (i+1),1,bU h,rfl,aKQ _,⟨i+1,rfl,aKQ _⟩,by rw [cg H h];rfl,by rw [bE H h];rfl⟩
  obtain ⟨i1,rfl,Ud⟩:=hsp
  have nJ:(nS ts (.g i1) 2).Ok ts:=qG ed aNd
  have hd2:=@tc ts (.g i1) 2
  have My:i1<=(nS ts (.g i1) 2).pos:=lM (.g i1) 2
  have hx:=iK H (.g i1) 2
  generalize hs2e:nS ts (.g i1) 2=s2 at*
  generalize hte:nT ts (.g i1) 2=t at*
  have eS:dk k (pS ts e (.g i)).fT (pS ts e (.g i)).fI (pS ts e (.g i)).aw (pS ts e (.g i)).av l=
    (aB (pS ts e s2) [44]>>=λ(tt,v53)=>(if tt=true then dk k v53.fT v53.fI v53.aw v53.av (l++[.mk k num t []]) else aL v53 [41]>>=λyD=>some (.inr (l++[.mk k num t []],yD)))):=by
   rw [dk]
   simp only [jM,if_true,iJ,e1,sb,nW H _ ed 2,hte,hs2e]
   rw [eY _ aNc,sb]
  have eI:cd k (qS ts e' (.g i)).ao (qS ts e' (.g i)).bx (qS ts e' (.g i)).aw (qS ts e' (.g i)).av m=
    (au (qS ts e' s2) [41]>>=λ(v46,vy)=>(if v46=true then some (.inr (m++[.mk k num t []],vy)) else aI vy [44]>>=λtt=>cd k tt.ao tt.bx tt.aw tt.av (m++[.mk k num t []]))):=by
   rw [cd]
   simp only [iM,if_false,dc,e2,sb,nC H _ ed hd1 2 (.inl rfl),hte,hs2e]
   rw [eY _ aNc,sb]
  rw [eS,eI]
  have hw1:wl [ae.mk k num t []]<=4001:=by rw [cG,iI,gv];omega
  have pL:∀i2,s2=.g i2->i1<i2:=λi2 h=>by
   rw [<-hs2e] at h
   obtain ⟨i0,h1,h2,_⟩:=lj h
   cases h1;omega
  rcases IF (ts:=ts) s2 [44] with h | ⟨i2,rfl,h⟩
  ·rw [ax H nJ h,sb]
   simp only [amb,if_false]
   rw [dN H _ nJ [41],sb]
   rcases IF (ts:=ts) s2 [41] with h2 | ⟨i2,rfl,h2⟩
   ·rw [ar H nJ h2,sb]
    simp only [amb,if_false]
    rw [eM H _ nJ [44],sb,jV h,jV h2]
    refine ⟨MM s2,[.mk k num t []],.inl rfl,.inr ?_,Av nJ,DW _,by rw [rC];omega,?_,λi' h=>(L4 h).elim⟩
    ·rw [cd]
     simp only [DX,if_true]
    ·rw [rC];simp only [an,mg];omega
   ·have:=pL i2 rfl
    simp only [bE H h2,sb,if_true,Et,h2,cond_true]
    refine ⟨.g (i2+1),[.mk k num t []],.inl rfl,.inl rfl,bU h2,rfl,by show i<=i2+1;omega,?_,λi' h=>?_⟩
    ·simp only [an,mg];show 0+1+i<=i2+1+1;omega
    ·cases h;omega
  ·have:=pL i2 rfl
   have bc:=bU h
   simp only [cg H h,ar H nJ (show tS ts (.g i2) [41]=false from ay h aNd),sb,if_true,amb,if_false,eM H _ nJ [44],Et,h,cond_true]
   obtain ⟨s',x,h1,h2,h3,h4,h5,h6,h7⟩:=EA H k N (i2+1) (l++[.mk k num t []]) (m++[.mk k num t []]) aNc aNc aNq aNq aNq aNq
   rw [aKy] at h1 h2
   refine ⟨s',_,h1,h2,h3,h4,by omega,?_,λi' h=>?_⟩
   ·simp only [abL,an,mg];omega
   ·obtain ⟨q1,q2⟩:=h7 i' h
    rw [gU]
    omega
theorem Ar (H:Tk ts e) (k:Int) (hk:k=24\/k=25) (a:List ae) (ha:a.length<=5000) (s:JS) (hs:s.Ok ts) (hd:s.nd=true) (hu:k=25->∀i,s=.g i->tw ts i [40]=true->tw ts (i+1) [41]=false):
  ∃s' l m,eH (pS ts e s) k a=some (l,pS ts e s')/\fA (qS ts e' s) k=some (m,qS ts e' s')/\RL ts a s s' l m:=by
 have hL:=H.len
 have ed:=jU hs [40]
 have FR:=fL (ts:=ts) s [40]
 have hd1:=me (ts:=ts) s [40]
 unfold eH fA
 rw [dN H s hs [40],sb,eM H s hs [40],sb]
 have go:∀s1:JS,s1=wS ts s [40]->tS ts s1 [41]=false->∃s' l m,
   ((dk k (pS ts e s1).fT (pS ts e s1).fI (pS ts e s1).aw (pS ts e s1).av a)>>=λT3=>match T3 with
    | .inr r=>some r
    | .inl (SL,xd,qa,xB,oq)=>some (oq,(aC.mk SL xd qa xB)))=some (l,pS ts e s')/\
   ((cd k (qS ts e' s1).ao (qS ts e' s1).bx (qS ts e' s1).aw (qS ts e' s1).av [])>>=λT3=>match T3 with
    | .inr r=>some r
    | .inl (SL,xd,qa,xB,oq)=>some (oq,(ak.mk SL xd qa xB)))=some (m,qS ts e' s')/\RL ts a s s' l m:=by
  intro s1 h1 hf
  subst h1
  rcases zn hd1 with ⟨i,hi⟩ | ⟨j,hj⟩
  ·obtain ⟨i0,h0,h00,aCQ⟩:=eV hi
   subst h0;subst h00
   rw [hi] at ed ⊢
   have ed:i0+1<=ts.length:=ed
   obtain ⟨s',x,h1,h2,h3,h4,h5,h6,h7⟩:=EA (e':=e') H k _ (i0+1) a [] (aKe _) ed aNc aNf aNc aNl
   refine ⟨s',_,_,h1.run,h2.run,h3,h4,by show i0<=_;omega,?_,?_,λi' rT=>⟨i0,rfl,?_,rfl,?_⟩⟩
   ·simp only [abL];show _+i0<=_;omega
   ·simp only [aKk];show _+i0<=_;omega
   ·have:=(h7 i' rT).1;omega
   ·have:=(h7 i' rT).2;simp only [aKk];omega
  ·rw [hj] at ed FR ⊢
   refine ⟨.b j,a,[],?_,?_,ed,rfl,FR,?_,?_,λi' h=>by cases h⟩
   ·rw [dk];simp only [pD H,if_false,sb,iJ]
   ·rw [cd];simp only [iL,if_true,sb,dc]
   ·have:s.pos<=j:=FR
    show a.length+s.pos<=a.length+j+1;omega
   ·have:s.pos<=j:=FR
    show 0+s.pos<=j+1;omega
 rcases IF (ts:=ts) (wS ts s [40]) [41] with h | ⟨i,hi,h⟩
 ·obtain ⟨s',l,m,h1,h2,h3⟩:=go _ rfl h
  refine ⟨s',l,m,?_,?_,h3⟩
  ·rw [<-h1]
   split
   ·rw [ax H ed h,sb];rfl
   ·rfl
  ·rw [<-h2,ar H ed h,sb];rfl
 ·obtain ⟨i0,h0,h00,aCQ⟩:=eV hi
  subst h0;subst h00
  rcases hk with rfl | rfl
  ·rw [if_pos rfl,hi]
   simp only [cg H h,bE H h,sb,if_true]
   refine ⟨.g (i0+1+1),a,[],rfl,rfl,bU h,rfl,by show i0<=i0+1+1;omega,?_,?_,λi' h=>?_⟩
   ·show a.length+i0<=a.length+(i0+1+1)+1;omega
   ·show 0+i0<=i0+1+1+1;omega
   ·cases h;exact ⟨i0,rfl,by omega,by simp,by rw [gv];omega⟩
  ·have:=hu rfl i0 rfl aCQ
   rw [this] at h;cases h
end
set_option maxRecDepth 100000
theorem acx {n:ae} {i:Nat} (h:i<n.af.length):wt n.af[i]<wt n:=by
 have:=HI _ _ (aKr h);have:=w6 n;omega
theorem Ry:∀(N:Nat) (n:ae),wt n<N->N<=1099511627776->kU n=some (n,n)
 | 0,n,h,_=>by omega
 | N+1,n,h,hN=>by
  have hk:n.af.length<=wt n:=by have:=w6 n;omega
  have go:∀(f i:Nat),n.af.length<=i+f->i<=n.af.length->ir n n.af [] (n.af.take i) (i:Int)=some (n.af,[],n.af):=by
   intro f
   induction f with
   | zero=>
    intro i h1 h2
    obtain rfl:i=n.af.length:=by omega
    rw [ir,if_neg aNc,List.take_length]
   | succ f ih=>
    intro i h1 h2
    rw [ir]
    by_cases hc:i<n.af.length
    ·have hx:=Ry N n.af[i] (by have:=acx hc;omega) aNc
     rw [if_pos aNc,eu hc,sb,hx,sb]
     dsimp only
     rw [jX (by simp only [aLz,an,mg];omega),sb,bN aNc]
     have e1:n.af.set ((i:Int).toNat) (ae.mk n.af[i].ai n.af[i].aE n.af[i].aq n.af[i].af)=n.af:=by
      rw [TM,aLg,List.set_getElem_self]
     have e2:n.af.take i++[n.af[i]]=n.af.take (i+1):=(List.take_succ_eq_append_getElem hc).symm
     rw [e1,e2]
     exact ih (i+1) aNc aNc
    ·obtain rfl:i=n.af.length:=by omega
     rw [if_neg aNc,List.take_length]
  have g0:=go n.af.length 0 aNc aNc
  rw [List.take_zero] at g0
  replace g0:ir n n.af [] [] 0=some (n.af,[],n.af):=g0
  rw [kU,g0,sb]
  dsimp only
  rw [TM]
theorem ahs:∀(N:Nat) (n:ae),wt n<N->N<=1099511627776->kK n n=some true
 | 0,n,h,_=>by omega
 | N+1,n,h,hN=>by
  have hk:n.af.length<=wt n:=by have:=w6 n;omega
  have go:∀(f i:Nat),n.af.length<=i+f->ik n.af n.af (i:Int)=some (.inl ()):=by
   intro f
   induction f with
   | zero=>intro i h1;rw [ik,if_neg aNc]
   | succ f ih=>
    intro i h1
    rw [ik]
    by_cases hc:i<n.af.length
    ·rw [if_pos aNc,eu hc,sb,sb,ahs N n.af[i] (by have:=acx hc;omega) aNc,sb,if_pos rfl,bN aNc]
     exact ih (i+1) aNc
    ·rw [if_neg aNc]
  have g0:=go n.af.length 0 aNc
  replace g0:ik n.af n.af 0=some (.inl ()):=g0
  rw [kK,if_pos rfl,if_pos rfl,if_pos rfl,vg,if_pos rfl,g0,sb,sb,if_pos rfl]
theorem ahB:∀(f:Nat) (y:Int) (s:aD),0<=y->y<=9223372036854775807->y<10 ^ f->s.length+f<=1000->∃r,iT y s=some r/\r.length<=s.length+f
 | 0,y,s,h0,hm,h1,h2=>by
  rw [iT,if_neg aNc];exact ⟨s,rfl,by omega⟩
 | f+1,y,s,h0,hm,h1,h2=>by
  rw [iT]
  by_cases h:y>0
  ·have h3:y.tdiv 10=y / 10:=Int.tdiv_eq_ediv_of_nonneg h0
   rw [Int.pow_succ] at h1
   have hb:bm (y.tdiv 10)=y / 10:=by rw [h3];exact WJ aNc aNc
   have e:wQ ([UInt8.ofNat (IntKind.u8.wrap (bm (48+(y.tmod 10)))).toNat]:List UInt8) s=some ([UInt8.ofNat (IntKind.u8.wrap (bm (48+(y.tmod 10)))).toNat]++s):=if_pos aNl
   rw [if_pos h,e,sb,hb]
   obtain ⟨r,e2,h4⟩:=ahB f (y / 10) ([UInt8.ofNat (IntKind.u8.wrap (bm (48+(y.tmod 10)))).toNat]++s) aNc aNc aNc aNl
   exact ⟨r,e2,by simp at h4;omega⟩
  ·rw [if_neg h];exact ⟨s,rfl,by omega⟩
theorem acy (k:Int) (h:k<=9223372036854775807):∃s,jm k=some s:=by
 unfold jm
 by_cases hk:k<=0
 ·rw [if_pos hk];exact ⟨_,rfl⟩
 ·rw [if_neg hk]
  obtain ⟨r,e,hr⟩:=ahB 19 k [] aNc h aNc aNf
  rw [e,sb]
  have:wQ [109] r=some ([109]++r):=if_pos (by simp at hr ⊢;omega)
  rw [this];exact ⟨_,rfl⟩
theorem Ha:∀(N:Nat) (l:List ae),wl l<N->∀k:Nat,k+3*wl l<=4611686018427387904->∃(k':Nat) (l':List ae),hC l (k:Int)=some ((k':Int),l')/\k<=k'/\k'<=k+3*wl l/\gl l' (k:Int)=some (k':Int)
 | 0,l,h=>by omega
 | N+1,l,h=>by
  intro k hk
  have hlen:=anl l
  have go:∀(f i k:Nat) (D:List ae),l.length=i+f->D.length=i->k+3*wl (l.drop i)<=4611686018427387904->∃(k':Nat) (E:List ae),E.length=f/\gd l (D++l.drop i) (k:Int) (i:Int)=some ((k':Int),D++E)/\k<=k'/\k'<=k+3*wl (l.drop i)/\gf (D++E) (k:Int) (i:Int)=some (.inl (k':Int)):=by
   intro f
   induction f with
   | zero=>
    intro i k D h1 h2 h3
    refine ⟨k,[],rfl,?_,As _,by omega,?_⟩
    ·rw [gd,if_neg aNc,aKa aNc]
    ·rw [gf,if_neg (by rw [aKF];omega)]
   | succ f ih=>
    intro i k D h1 h2 h3
    have hc:i<l.length:=by omega
    have hd:=aKg hc
    have hwl:wl (l.drop i)=1+wt l[i]+wl (l.drop (i+1)):=by rw [hd,jk]
    have hx:wl l[i].af<=wt l[i]:=by have:=iI l[i].ai l[i].aE l[i].aq l[i].af;rw [TM] at this;omega
    have hN:wl (l.drop i)<=wl l:=by
     have:=gU (l.take i) (l.drop i);rw [List.take_append_drop] at this;omega
    obtain ⟨t,et⟩:=acy (((k+2:Nat):Int)) aNc
    have w1:bm ((k:Int)+1)=((k+1:Nat):Int):=bN aNc
    have w2:bm (((k+1:Nat):Int)+1)=((k+2:Nat):Int):=bN aNc
    have w3:bm (((k+2:Nat):Int)+1)=((k+3:Nat):Int):=bN aNc
    obtain ⟨k2,q,e1,e2,e3,e4⟩:=Ha N l[i].af aNc (k+3) aNc
    obtain ⟨k',E,hE,e5,e6,e7,e8⟩:=ih (i+1) k2 (D++[ae.mk (k:Int) ((k+1:Nat):Int) t q]) aNc (by simp [h2]) aNc
    have en:∀(z:ae) (R:List ae),idx (D++z::R) (i:Int)=some z:=λz R=>by
     rw [eu (by simp only [abL,an];omega),aLr aNc]
     simp [h2]
    have es:(D++l[i]::l.drop (i+1)).set ((i:Int).toNat) (ae.mk (k:Int) ((k+1:Nat):Int) t q)=(D++[ae.mk (k:Int) ((k+1:Nat):Int) t q])++l.drop (i+1):=by
     rw [aLg,List.set_append_right _ _ aNc,h2,aLm,aLq,aKy];rfl
    refine ⟨k',ae.mk (k:Int) ((k+1:Nat):Int) t q::E,by simp [hE],?_,by omega,by omega,?_⟩
    ·rw [gd,if_pos aNc,hd,en,sb,w1,w2,et,sb,w3,e1,sb]
     dsimp only
     rw [es,bN aNc,e5,aKy];rfl
    ·rw [gf,if_pos (by simp only [abL,an];omega),en,sb,ae.qh,if_pos rfl,sb,ae.rh,w1,if_pos rfl,sb,w2,et,sb,ae.mW,if_pos rfl,sb,w3,ae.kM,e4,sb,if_neg aNc,bN aNc]
     rw [aKy] at e8
     exact e8
  obtain ⟨k',E,hE,e5,e6,e7,e8⟩:=go l.length 0 k [] aNc rfl (by rw [aKh];omega)
  rw [aKh] at e5 e7
  refine ⟨k',E,?_,e6,e7,?_⟩
  ·replace e5:gd l l (k:Int) 0=some ((k':Int),E):=e5
   rw [hC,e5,sb]
  ·replace e8:gf E (k:Int) 0=some (.inl (k':Int)):=e8
   rw [gl,e8,sb]
theorem aCx (n:ae) (h:wt n<=1099511627776):∃(k:Nat) (m:ae),nH n 1=some ((k:Int),m)/\lF (ae.mk n.ai n.aE n.aq m.af) 1=some (k:Int):=by
 have hx:wl n.af<=wt n:=by have:=iI n.ai n.aE n.aq n.af;rw [TM] at this;omega
 obtain ⟨k,l,e1,e2,e3,e4⟩:=Ha (wl n.af+1) n.af aNc 1 aNc
 replace e1:hC n.af 1=some ((k:Int),l):=e1
 replace e4:gl l 1=some (k:Int):=e4
 refine ⟨k,ae.mk n.ai n.aE n.aq l,?_,?_⟩
 ·rw [nH,e1,sb]
 ·unfold lF
  show (gl l 1>>=_)=_
  rw [e4,sb,if_neg aNc]
def C1 (ts:List ah) (e e':Int) (v:Bool) (D:Nat) (s:JS) (fs:aC->Option (ae×aC)) (fi:ak->Option (ae×ak)):Prop:=
 ∃s' n m,fs (pS ts e s)=some (n,pS ts e s')/\fi (qS ts e' s)=some (m,qS ts e' s')/\Rs ts v D s s' n m
def aCs (lv:Nat) (q:ak):Option (ae×ak):=match lv with
 | 4=>eN q
 | 5=>dF q
 | n=>bn q n
structure PC (ts:List ah) (e e':Int) (s:JS):Prop where
 aJ2:C1 ts e e' true 0 s aJ aH
 chain:∀u:Bool,C1 ts e e' true 1 s (λp=>gg p u) (λq=>bW q (!u))
 un:C1 ts e e' true 1 s fu cy
 bin:∀lv:Nat,4<=lv->lv<=11->C1 ts e e' true 1 s (λp=>cu p lv) (aCs lv)
 aH8:C1 ts e e' true 1 s eO bY
 cond:C1 ts e e' true 1 s je dj
 expr:C1 ts e e' false 2 s bz a7
 list:C1 ts e e' false 0 s jd gq
 args:∀a:List ae,a.length<=100->∃s' l m,dU (pS ts e s) a=some (l,pS ts e s')/\cV (qS ts e' s)=some (m,qS ts e' s')/\RL ts a s s' l m
 block:C1 ts e e' false 0 s bV bs
 stmt:C1 ts e e' false 0 s bb aR
section
variable {ts:List ah} {e e':Int}
theorem Rs.bad {v:Bool} {D:Nat} {j:Nat} {n m:ae} (hj:j<=ts.length):Rs ts v D (.b j) (.b j) n m:=⟨hj,As _,λi h=>aNy,λi h=>aNy⟩
theorem C1.bad {v:Bool} {D:Nat} {j:Nat} {fs:aC->Option (ae×aC)} {fi:ak->Option (ae×ak)} (hj:j<=ts.length) (n m:ae) (h1:fs (pS ts e (.b j))=some (n,pS ts e (.b j))) (h2:fi (qS ts e' (.b j))=some (m,qS ts e' (.b j))):C1 ts e e' v D (.b j) fs fi:=
 ⟨_,n,m,h1,h2,Rs.bad hj⟩
section
variable {j:Nat} (H:Tk ts e) (hj:(JS.b j).Ok ts)
include H hj
theorem acz:∃n,aJ (pS ts e (.b j))=some (n,pS ts e (.b j)):=by
 rw [aJ,if_pos (show (pS ts e (.b j)).fI>=((pS ts e (.b j)).fT.length:Int) from Int.le_refl _),rA H _ hj,sb]
 exact aMK
theorem acA:∃n,aH (qS ts e' (.b j))=some (n,qS ts e' (.b j)):=by
 rw [aH,bP H _ hj,sb]
 exact aMK
theorem RM (u:Bool):∃n,gg (pS ts e (.b j)) u=some (n,pS ts e (.b j)):=by
 obtain ⟨n,h⟩:=acz H hj
 rw [gg,h,sb]
 dsimp only
 rw [aZ]
 simp only [pD H,if_false,sb,iJ]
 exact aMK
theorem RN (u:Bool):∃n,bW (qS ts e' (.b j)) u=some (n,qS ts e' (.b j)):=by
 obtain ⟨n,h⟩:=acA (e':=e') H hj
 rw [bW,h,sb]
 dsimp only
 rw [aG]
 simp only [iL,if_true,sb,dc]
 exact aMK
theorem aCR:∃n,fu (pS ts e (.b j))=some (n,pS ts e (.b j)):=by
 obtain ⟨n,h⟩:=RM H hj true
 rw [fu]
 simp only [ax H hj (w:=[33]) rfl,ax H hj (w:=[45]) rfl,sb,amb,if_false]
 rw [ng,h]
 exact aMK
theorem aCS:∃n,cy (qS ts e' (.b j))=some (n,qS ts e' (.b j)):=by
 obtain ⟨n,h⟩:=RN (e':=e') H hj false
 rw [cy]
 simp only [ar (e':=e') H hj (w:=[33]) rfl,ar (e':=e') H hj (w:=[45]) rfl,sb,amb,if_false]
 rw [h]
 exact aMK
theorem acB:∀k lv:Nat,lv+k=11->∃n,cu (pS ts e (.b j)) lv=some (n,pS ts e (.b j))
 | 0,lv,h=>by
  obtain rfl:lv=11:=h
  obtain ⟨n,h⟩:=aCR H hj
  rw [cu,if_pos (show ((11:Nat):Int)=11 from rfl),h]
  exact aMK
 | k+1,lv,h=>by
  obtain ⟨n,h1⟩:=acB k (lv+1) aNc
  rw [cu,if_neg aNc,bN aNc,h1,sb]
  dsimp only
  rw [aP,if_neg (show ¬(pS ts e (.b j)).fI<((pS ts e (.b j)).fT.length:Int) from λh=>by have h:(ts.length:Int)<ts.length:=h;omega)]
  exact aMK
theorem acC:∀k lv:Nat,lv+k=11->∃n,bn (qS ts e' (.b j)) lv=some (n,qS ts e' (.b j))
 | 0,lv,h=>by
  obtain rfl:lv=11:=h
  obtain ⟨n,h⟩:=aCS (e':=e') H hj
  rw [bn,if_pos aNd,h]
  exact aMK
 | k+1,lv,h=>by
  obtain ⟨n,h1⟩:=acC k (lv+1) aNc
  rw [bn,if_neg aNc,bN aNc,h1,sb]
  dsimp only
  rw [bI]
  simp only [iL,if_true,sb,dc]
  exact aMK
theorem aCT:∃n,dF (qS ts e' (.b j))=some (n,qS ts e' (.b j)):=by
 obtain ⟨n,h⟩:=acC (e':=e') H hj 5 6 rfl
 have h:bn (qS ts e' (.b j)) 6=some (n,qS ts e' (.b j)):=h
 rw [dF,h,sb]
 dsimp only
 rw [bR]
 simp only [dc,ar (e':=e') H hj (w:=[38,38]) rfl,sb,amb,if_false]
 exact aMK
theorem bOr:∃n,eN (qS ts e' (.b j))=some (n,qS ts e' (.b j)):=by
 obtain ⟨n,h⟩:=aCT (e':=e') H hj
 rw [eN,h,sb]
 dsimp only
 rw [ca]
 simp only [dc,ar (e':=e') H hj (w:=[124,124]) rfl,sb,amb,if_false]
 exact aMK
theorem acD:∃n,eO (pS ts e (.b j))=some (n,pS ts e (.b j)):=by
 obtain ⟨n,h⟩:=acB H hj 7 4 rfl
 have h:cu (pS ts e (.b j)) 4=some (n,pS ts e (.b j)):=h
 rw [eO,h,sb]
 simp only [ax H hj (w:=[63,63]) rfl,sb,amb,if_false]
 exact aMK
theorem acE:∃n,bY (qS ts e' (.b j))=some (n,qS ts e' (.b j)):=by
 obtain ⟨n,h⟩:=bOr (e':=e') H hj
 rw [bY,h,sb]
 simp only [ar (e':=e') H hj (w:=[63,63]) rfl,sb,amb,if_false]
 exact aMK
theorem acF:∃n,je (pS ts e (.b j))=some (n,pS ts e (.b j)):=by
 obtain ⟨n,h⟩:=acD H hj
 rw [je,h,sb]
 simp only [ax H hj (w:=[63]) rfl,sb,amb,if_false]
 exact aMK
theorem acG:∃n,dj (qS ts e' (.b j))=some (n,qS ts e' (.b j)):=by
 obtain ⟨n,h⟩:=acE (e':=e') H hj
 rw [dj,h,sb]
 simp only [ar (e':=e') H hj (w:=[63]) rfl,sb,amb,if_false]
 exact aMK
theorem PH:∃n,bz (pS ts e (.b j))=some (n,pS ts e (.b j)):=by
 obtain ⟨n,h⟩:=acF H hj
 rw [bz,h,sb]
 simp only [dG H _ hj 6 [61] aNd,sb,show aS ts (.b j) 0 6 [61]=false from rfl,amb,if_false]
 exact aMK
theorem anm:∃n,a7 (qS ts e' (.b j))=some (n,qS ts e' (.b j)):=by
 obtain ⟨n,h⟩:=acG (e':=e') H hj
 rw [a7,h,sb]
 simp only [iL,if_true]
 exact aMK
theorem ann:∃n,jd (pS ts e (.b j))=some (n,pS ts e (.b j)):=by
 rw [jd]
 simp only [ax H hj (w:=[93]) rfl,sb,amb,if_false]
 rw [eJ]
 simp only [pD H,if_false,sb,iJ]
 exact aMK
theorem ano:∃n,gq (qS ts e' (.b j))=some (n,qS ts e' (.b j)):=by
 rw [gq]
 simp only [ar (e':=e') H hj (w:=[93]) rfl,sb,amb,if_false]
 rw [cW]
 simp only [iL,if_true,sb,dc]
 exact aMK
theorem abA (a:List ae):dU (pS ts e (.b j)) a=some (a,pS ts e (.b j)):=by
 rw [dU]
 simp only [dN H _ hj [40],show wS ts (.b j) [40]=.b j from rfl,ax H hj (w:=[41]) rfl,sb,amb,if_false]
 rw [dV]
 simp only [pD H,if_false,sb,iJ]
theorem IG:cV (qS ts e' (.b j))=some ([],qS ts e' (.b j)):=by
 rw [cV]
 simp only [eM (e':=e') H _ hj [40],show wS ts (.b j) [40]=.b j from rfl,ar (e':=e') H hj (w:=[41]) rfl,sb,amb,if_false]
 rw [cM]
 simp only [iL,if_true,sb,dc]
theorem Rn:∃n,bV (pS ts e (.b j))=some (n,pS ts e (.b j)):=by
 rw [bV]
 simp only [dN H _ hj [123],show wS ts (.b j) [123]=.b j from rfl,sb]
 rw [dh]
 simp only [pD H,if_false,sb,iJ]
 exact aMK
theorem afF:∃n,bs (qS ts e' (.b j))=some (n,qS ts e' (.b j)):=by
 rw [bs]
 simp only [eM (e':=e') H _ hj [123],show wS ts (.b j) [123]=.b j from rfl,sb]
 rw [cw]
 simp only [iL,if_true,sb,dc]
 exact aMK
theorem anp:∃n,bb (pS ts e (.b j))=some (n,pS ts e (.b j)):=by
 obtain ⟨n,h⟩:=PH H hj
 have ef:∀w:aD,w≠[]->aB (pS ts e (.b j)) w=some (false,pS ts e (.b j)):=λw hw=>ax H hj rfl hw
 refine ⟨.mk 33 0 [] [n],?_⟩
 rw [bb]
 refine aF (dG H _ hj 1 [] aNd) ?_
 refine aF (dG H _ hj 6 [123] aNd) ?_
 refine aF (ef [105,102] aNd) ?_
 refine aF (ef [119,104,105,108,101] aNd) ?_
 refine aF (ef [102,111,114,101,97,99,104] aNd) ?_
 refine aF (ef [116,114,121] aNd) ?_
 refine aF (ef [101,99,104,111] aNd) ?_
 refine aF (ef [98,114,101,97,107] aNd) ?_
 refine aF (ef [99,111,110,116,105,110,117,101] aNd) ?_
 refine aF (ef [114,101,116,117,114,110] aNd) ?_
 refine aF (ef [103,108,111,98,97,108] aNd) ?_
 refine aF (ef [117,110,115,101,116] aNd) ?_
 refine aF (ef [116,104,114,111,119] aNd) ?_
 refine aF (ef [121,105,101,108,100] aNd) ?_
 refine (dP (a:=((pS ts e (.b j)).fT,(pS ts e (.b j)).fI,(pS ts e (.b j)).aw,(pS ts e (.b j)).av,false)) ?_).trans ?_
 ·refine aF (dG H _ hj 2 [] aNd) ?_;rfl
 refine bQ are ?_
 refine aF (ef [105,110,99,108,117,100,101] aNd) ?_
 refine aW h ?_
 refine aW (dN H _ hj [59]) ?_
 rfl
theorem anq:∃n,aR (qS ts e' (.b j))=some (n,qS ts e' (.b j)):=by
 rw [aR]
 simp only [bP (e':=e') H _ hj,sb,iL,if_true]
 exact aMK
theorem abM:PC ts e e' (.b j):=by
 have Du:j<=ts.length:=hj
 refine ⟨?_,λu=>?_,?_,λlv h4 h11=>?_,?_,?_,?_,?_,λa ha=>?_,?_,?_⟩
 ·obtain ⟨n,h⟩:=acz H hj;obtain ⟨m,h2⟩:=acA (e':=e') H hj;exact C1.bad Du n m h h2
 ·obtain ⟨n,h⟩:=RM H hj u;obtain ⟨m,h2⟩:=RN (e':=e') H hj (!u);exact C1.bad Du n m h h2
 ·obtain ⟨n,h⟩:=aCR H hj;obtain ⟨m,h2⟩:=aCS (e':=e') H hj;exact C1.bad Du n m h h2
 ·obtain ⟨n,h⟩:=acB H hj (11 - lv) lv aNc
  match lv,h4 with
  | 4,_=>obtain ⟨m,h2⟩:=bOr (e':=e') H hj;exact C1.bad Du n m h h2
  | 5,_=>obtain ⟨m,h2⟩:=aCT (e':=e') H hj;exact C1.bad Du n m h h2
  | k+6,_=>obtain ⟨m,h2⟩:=acC (e':=e') H hj (11 - (k+6)) (k+6) aNc;exact C1.bad Du n m h h2
 ·obtain ⟨n,h⟩:=acD H hj;obtain ⟨m,h2⟩:=acE (e':=e') H hj;exact C1.bad Du n m h h2
 ·obtain ⟨n,h⟩:=acF H hj;obtain ⟨m,h2⟩:=acG (e':=e') H hj;exact C1.bad Du n m h h2
 ·obtain ⟨n,h⟩:=PH H hj;obtain ⟨m,h2⟩:=anm (e':=e') H hj;exact C1.bad Du n m h h2
 ·obtain ⟨n,h⟩:=ann H hj;obtain ⟨m,h2⟩:=ano (e':=e') H hj;exact C1.bad Du n m h h2
 ·exact ⟨_,_,_,abA H hj a,IG H hj,Du,rfl,As _,by omega,by show 0+j<=j+1;omega,λi h=>by cases h⟩
 ·obtain ⟨n,h⟩:=Rn H hj;obtain ⟨m,h2⟩:=afF (e':=e') H hj;exact C1.bad Du n m h h2
 ·obtain ⟨n,h⟩:=anp H hj;obtain ⟨m,h2⟩:=anq (e':=e') H hj;exact C1.bad Du n m h h2
end
end
theorem qF {k m:Int} {t:aD} {l:List ae} (h:k≠7):yo (.mk k m t l)=uZ (.mk k m t l):=by
 unfold yo uZ
 rw [if_neg (λhh=>h hh.1),if_neg (λhh=>h hh.1)]
theorem DT {k m:Int} {t:aD} {l:List ae} (h7:k≠7) (h4:k≠4) (h8:k≠8):yo (.mk k m t l)=false:=by
 unfold yo
 rw [if_neg (λhh=>h7 hh.1),beq_eq_false_iff_ne.2 h4,beq_eq_false_iff_ne.2 h8]
 rfl
theorem amU {m:Int} {t:aD} {a b:ae}:yo (.mk 7 m t [a,b])=yo a:=by
 unfold yo
 rw [if_pos ⟨rfl,by simp⟩]
 cases a;rfl
theorem amV {m:Int} {t:aD} {a b:ae}:uZ (.mk 7 m t [a,b])=uZ a:=by
 unfold uZ
 rw [if_pos ⟨rfl,by simp⟩]
 cases a;rfl
theorem rz {a b:aD} (h:a.length+b.length<=100000):wQ a b=some (a++b):=if_pos aNc
section
variable {ts:List ah} {e e':Int}
theorem aCU {i:Nat} {w:aD} (h:tw ts i w=true):wS ts (.g i) w=.g (i+1):=by rw [Et,h];rfl
theorem aCt {i:Nat} {w:aD} (h:tw ts i w=false):wS ts (.g i) w=.b i:=by rw [Et,h];rfl
theorem Pt {i:Nat} {k:Int} (h:wZ ts k i=true):nS ts (.g i) k=.g (i+1):=by rw [Ms,h];rfl
theorem abB {i:Nat} {k:Int} (h:wZ ts k i=false):nS ts (.g i) k=.b i:=by rw [Ms,h];rfl
theorem Ps {i:Nat} {k:Int} (h:wZ ts k i=true):nT ts (.g i) k=tx ts i:=by rw [aci,h];rfl
theorem afh {i:Nat} {k:Int} (h:wZ ts k i=false):nT ts (.g i) k=[]:=by rw [aci,h];rfl
theorem Au (H:Tk ts e) {i:Nat} {w:aD} (h:tw ts i w=true) (hw:w≠[]:=by decide):aL (pS ts e (.g i)) w=some (pS ts e (.g (i+1))):=by
 rw [dN H (.g i) (aKC (bU h)) w hw,aCU h]
theorem DV (H:Tk ts e) {i:Nat} {w:aD} (h:tw ts i w=true):aI (qS ts e' (.g i)) w=some (qS ts e' (.g (i+1))):=by
 rw [eM H (.g i) (aKC (bU h)) w (.inr rfl),aCU h]
theorem Pu (H:Tk ts e) {i:Nat} (hi:i<=ts.length) {k:Int} (h:wZ ts k i=false) (hk:k≠0:=by decide):cf (pS ts e (.g i)) k=some ([],pS ts e (.b i)):=by
 rw [nW H (.g i) hi k hk,afh h,abB h]
theorem Pv (H:Tk ts e) {i:Nat} (hi:i<=ts.length) {k:Int} (h:wZ ts k i=false) (hk:k=2\/k=3):bu (qS ts e' (.g i)) k=some ([],qS ts e' (.b i)):=by
 rw [nC H (.g i) hi rfl k hk,afh h,abB h]
structure Lt (ts:List ah) (i:Nat) (s:JS):Prop where
 ok:s.Ok ts
 nd:s.nd=true
 lt:∀k,s=.g k->i<k
theorem Lt.w {i:Nat} {s:JS} (hs:s.Ok ts) (hp:i<=s.pos) (w:aD):Lt ts i (wS ts s w):=
 ⟨jU hs w,me s w,λk h=>by obtain ⟨i1,rfl,rfl,_⟩:=eV h;have:i<=i1:=hp;omega⟩
theorem Lt.n {i:Nat} {s:JS} (hs:s.Ok ts) (hp:i<=s.pos) {c:Int} (hc:c≠0):Lt ts i (nS ts s c):=
 ⟨qG hs hc,tc s c,λk h=>by obtain ⟨i1,rfl,rfl,_⟩:=lj h;have:i<=i1:=hp;omega⟩
theorem Lt.g {i k:Nat} (h:i<k) (hk:k<=ts.length):Lt ts i (.g k):=⟨hk,rfl,λk' h'=>by cases h';exact h⟩
theorem Lt.b {i j:Nat} (hj:j<=ts.length):Lt ts i (.b j):=⟨hj,rfl,λk' h'=>by cases h'⟩
theorem Lt.r {i:Nat} {s s':JS} {a l m:List ae} (h:RL ts a s s' l m) (hl:∀k,s=.g k->i<=k):Lt ts i s':=⟨h.ok,h.nd,λk hk=>by obtain ⟨i1,h1,h2,_⟩:=h.good k hk;have:=hl _ h1;omega⟩
theorem Lt.rs {i:Nat} {v:Bool} {s s':JS} {n m:ae} (h:Rs ts v 0 s s' n m) (hl:∀k,s=.g k->i<=k):Lt ts i s':=⟨h.ok,by
 cases s' with
 | d j=>have:=(h.dm j rfl).2.2.1;omega
 | _=>rfl,λk hk=>by obtain ⟨i1,h1,h2,_⟩:=h.good k hk;have:=hl _ h1;omega⟩
theorem Lt.fl {i:Nat} {s:JS} (hs:s.Ok ts):Lt ts i (MM s):=⟨Av hs,DW s,λk h=>(L4 h).elim⟩
theorem Rs.leaf {v:Bool} {D i:Nat} {k m:Int} {t:aD} (hk:k≠7) (hi:i<ts.length) (ht:t.length<=4000) (hv:(k==4)=(kd ts i==2)):Rs ts v D (.g i) (.g (i+1)) (.mk k m t []) (.mk k m t []):=
 ⟨hi,aKQ i,λi' h=>by cases h;exact ⟨i,rfl,aKe i,rfl,by rw [iI,gv];omega,qF hk,λ_ _=>hv⟩,λj h=>by cases h⟩
theorem Rs.up {v v':Bool} {D i i1:Nat} {s':JS} {n m:ae} (h:Rs ts v D (.g i1) s' n m) (hi:i<i1):Rs ts v' D (.g i) s' n m:=
 ⟨h.ok,by have:i1<=s'.pos:=h.le;show i<=s'.pos;omega,λi' h'=>by
  obtain ⟨i2,h1,h2,h3,h4,h5,h6⟩:=h.good i' h'
  cases h1
  exact ⟨i,rfl,by omega,h3,by omega,h5,λ_ hh=>by omega⟩,λj hj=>by
  obtain ⟨_,q2,q3,q4⟩:=h.dm j hj
  have q2:i1<j:=q2
  exact ⟨⟨i,rfl⟩,by show i<j;omega,q3,q4⟩⟩
theorem Rs.want {v v':Bool} {D D' i i1:Nat} {s':JS} {n m:ae} (h:Rs ts v D (.g i1) s' n m) (hi:i<i1) (w:aD):Rs ts v' D' (.g i) (wS ts s' w) n m:=
 ⟨jU h.ok w,by have:i1<=s'.pos:=h.le;have:=fL (ts:=ts) s' w;show i<=_;omega,λi' h'=>by
  obtain ⟨i2,h1,h2,_⟩:=eV h'
  obtain ⟨i3,q1,q2,q3,q4,q5,q6⟩:=h.good i2 h1
  cases q1
  exact ⟨i,rfl,by omega,q3,by omega,q5,λ_ hh=>by omega⟩,λj hj=>by
  have:=me (ts:=ts) s' w
  rw [hj] at this;cases this⟩
theorem Rs.node {v:Bool} {D i:Nat} {s':JS} {k m:Int} {t t':aD} {l l':List ae} (hk:k≠7) (yu:s'.Ok ts) (hnd:s'.nd=true) (hle:i<=s'.pos)
  (hg:∀i',s'=.g i'->i+1<i'/\t=t'/\l=l'/\(t.length:Int)+(wl l:Int)+8192+16384*(i:Int)<=16384*(i':Int)):Rs ts v D (.g i) s' (.mk k m t l) (.mk k m t' l'):=
 ⟨yu,hle,λi' h=>by
  obtain ⟨h1,rfl,rfl,h2⟩:=hg i' h
  exact ⟨i,rfl,by omega,rfl,by rw [iI];omega,qF hk,λ_ hh=>by omega⟩,λj hj=>by rw [hj] at hnd;cases hnd⟩
theorem vY {i:Nat} (h6:kd ts i≠6) (h3:kd ts i≠3) (w:aD):tw ts i w=false:=by
 unfold tw
 rw [beq_eq_false_iff_ne.2 h6,beq_eq_false_iff_ne.2 h3];rfl
theorem lh {i:Nat} {w:aD} (h:tw ts i w=true):kd ts i≠4/\kd ts i≠5/\kd ts i≠2/\kd ts i≠1:=by have:=(Rq h).1;omega
def jR (ts:List ah) (i:Nat):Bool:=kd ts i==4||(kd ts i==5||(tw ts i [116,114,117,101]||(tw ts i [102,97,108,115,101]||tw ts i [110,117,108,108])))
theorem tW (H:Tk ts e) {i:Nat} (hi:i<=ts.length):((if (tok ts i).ai=4 then
 some ((qS ts e' (.g i)).ao,(qS ts e' (.g i)).bx,(qS ts e' (.g i)).aw,(qS ts e' (.g i)).av,true)
 else
 (if (tok ts i).ai=5 then
 some ((qS ts e' (.g i)).ao,(qS ts e' (.g i)).bx,(qS ts e' (.g i)).aw,(qS ts e' (.g i)).av,true)
 else
 aV (qS ts e' (.g i)) 0 [116,114,117,101]>>=λ(ady,xA)=>
 (if ady=true then
 some (xA.ao,xA.bx,xA.aw,xA.av,true)
 else
 aV xA 0 [102,97,108,115,101]>>=λ(Kf,Br)=>
 (if Kf=true then
 some (Br.ao,Br.bx,Br.aw,Br.av,true)
 else
 aV Br 0 [110,117,108,108]>>=λ(adz,zW)=>
 some (zW.ao,zW.bx,zW.aw,zW.av,adz))))):Option ((List ah)×Int×Int×Bool×Bool))=
  some ((qS ts e' (.g i)).ao,(qS ts e' (.g i)).bx,(qS ts e' (.g i)).aw,(qS ts e' (.g i)).av,jR ts i):=by
 have hs:(JS.g i).Ok ts:=hi
 have is:=λw=>eZ (e':=e') H _ hs w
 have is:∀w,aV (qS ts e' (.g i)) 0 w=some (tw ts i w,qS ts e' (.g i)):=is
 unfold jR kd
 by_cases h4:(tok ts i).ai=4
 ·rw [if_pos h4,h4];rfl
 by_cases h5:(tok ts i).ai=5
 ·rw [if_neg h4,if_pos h5,h5];rfl
 rw [if_neg h4,if_neg h5,beq_eq_false_iff_ne.2 h4,beq_eq_false_iff_ne.2 h5,aKu,aKu]
 cases h1:tw ts i [116,114,117,101] with
 | true=>refine du ((is _).trans aNL) ?_;rfl
 | false=>
  refine aF ((is _).trans aNL) ?_
  cases h2:tw ts i [102,97,108,115,101] with
  | true=>refine du ((is _).trans (by rw [h2])) ?_;rfl
  | false=>
   refine aF ((is _).trans (by rw [h2])) ?_
   refine aW (is _) ?_
   rfl
theorem qg {i:Nat}:¬(qS ts e' (.g i)).av=true:=by rw [iM];exact id
theorem ae9 (H:Tk ts e) {i:Nat} (h0:tw ts i [40]=true) (h1:tw ts (i+1) [41]=true) (a:List ae) (ha:a.length<=5000):
  ∃l,eH (pS ts e (.g i)) 25 a=some (l,pS ts e (.b (i+1)))/\l.length<=a.length+1:=by
 have hs:(JS.g i).Ok ts:=aKC (bU h0)
 have ed:(JS.g (i+1)).Ok ts:=aKC (bU h1)
 have hb:(JS.b (i+1)).Ok ts:=aKC (bU h1)
 have hn:wZ ts 2 (i+1)=false:=by
  unfold wZ
  rw [beq_eq_false_iff_ne.2 (lh h1).2.2.1];rfl
 refine ⟨a++[.mk 25 0 [] []],?_,by simp⟩
 unfold eH
 refine aW (Au H h0) ?_
 refine (dP (a:=(Sum.inl ((pS ts e (.g (i+1))).fT,(pS ts e (.g (i+1))).fI,(pS ts e (.g (i+1))).aw,(pS ts e (.g (i+1))).av):((List ah)×Int×Int×Int) ⊕ ((List ae)×aC))) rfl).trans ?_
 refine S5.run (x:=dk 25 (pS ts e (.g (i+1))).fT (pS ts e (.g (i+1))).fI (pS ts e (.g (i+1))).aw (pS ts e (.g (i+1))).av a) (.inl ?_)
 rw [dk]
 simp only [jM,if_true]
 refine (dP (a:=((pS ts e (.g (i+1))).fT,(pS ts e (.g (i+1))).fI,(pS ts e (.g (i+1))).aw,(pS ts e (.g (i+1))).av,(0:Int))) ?_).trans ?_
 ·refine aF (ax (w:=[38]) H ed (ay h1 aNd)) ?_
  rfl
 refine aW (Pu H ed hn) ?_
 refine aW (eY _ aNc) ?_
 refine aF (ax (w:=[44]) H hb rfl) ?_
 refine aW (dN H _ hb [41]) ?_
 rfl
end
end Go.Am
