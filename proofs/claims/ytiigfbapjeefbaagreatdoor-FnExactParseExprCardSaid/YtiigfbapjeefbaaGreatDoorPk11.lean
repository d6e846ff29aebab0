/- Texts of the proof, joined and shortened. -/
import Derived.Test.YtiigfbapjeefbaaGreatDoorPk10
set_option linter.unusedVariables false
set_option linter.unusedSimpArgs false
namespace Go.Am
open Go Go.RowKit Go.Proofs
def ltr (c:UInt8):Bool:=decide ((97<=c.toNat/\c.toNat<=122)\/(65<=c.toNat/\c.toNat<=90)\/c.toNat=95)
def nmW:aB->Bool | c::_=>ltr c | []=>false
def G7:List aB:=[[61,61,61],[33,61,61],[60,61,62],[61,61],[33,61],[60,61],[62,61],[61,62],[45,62],[58,58],[38,38],[124,124],[63,63],[43],[45],[42],[47],[37],[46],[61],[33],[60],[62],[40],[41],[91],[93],[123],[125],[44],[59],[63],[58],[38]]
structure Tk (ts:List af) (e:Int):Prop where
 len:ts.length<=4000
 e0:0<=e
 at0:∀t∈ts,0<=t.bM
 txt:∀t∈ts,t.aq.length<=4000
 nam:∀t∈ts,t.aj=3->nmW t.aq=true
 mrk:∀t∈ts,t.aj=6->G7.contains t.aq=true
inductive JS where
 | g (i:Nat)
 | b (j:Nat)
 | d (j:Nat)
def tok (ts:List af) (i:Nat):af:=ts.getD i ⟨0,0,[],0⟩
def kd (ts:List af) (i:Nat):Int:=(tok ts i).aj
def tx (ts:List af) (i:Nat):aB:=(tok ts i).aq
def pl (ts:List af) (e:Int) (j:Nat):Int:=if j<ts.length then (tok ts j).bM else e
def pS (ts:List af) (e:Int):JS->aA
 | .g i=>⟨ts,i,e,-1⟩
 | .b j=>⟨ts,ts.length,e,pl ts e j⟩
 | .d j=>⟨ts,ts.length,e,pl ts e j⟩
def qS (ts:List af) (e:Int):JS->ai
 | .g i=>⟨ts,i,e,false⟩
 | .b j=>⟨ts,j,e,true⟩
 | .d j=>⟨ts,j,e,false⟩
def JS.pos:JS->Nat | .g i=>i | .b i=>i | .d i=>i
def tw (ts:List af) (i:Nat) (w:aB):Bool:=(kd ts i==6||kd ts i==3)&&tx ts i==w
def JS.Ok (ts:List af):JS->Prop | .g i=>i<=ts.length | .b i=>i<=ts.length | .d i=>i<ts.length/\tw ts i [61]=true
def JS.nd:JS->Bool | .d _=>false | _=>true
def tS (ts:List af) (s:JS) (w:aB):Bool:=match s with | .g i=>tw ts i w | _=>false
def wS (ts:List af) (s:JS) (w:aB):JS:=match s with | .g i=>(bif tw ts i w then .g (i+1) else .b i) | .b j=>.b j | .d j=>.b j
def wa (ts:List af) (k:Int) (i:Nat):Bool:=kd ts i==k&&good (tx ts i)
def nS (ts:List af) (s:JS) (k:Int):JS:=match s with | .g i=>(bif wa ts k i then .g (i+1) else .b i) | .b j=>.b j | .d j=>.b j
def nT (ts:List af) (s:JS) (k:Int):aB:=match s with | .g i=>(bif wa ts k i then tx ts i else []) | _=>[]
def aT (ts:List af) (i:Nat) (k:Int) (w:aB):Bool:=kd ts i==k&&(w==([]:aB)||tx ts i==w)
def aS (ts:List af) (s:JS) (o:Nat) (k:Int) (w:aB):Bool:=match s with | .g i=>aT ts (i+o) k w | _=>false
theorem eg {α β:Type} {x:Option α} {a:α} {F:α->Option β} (h:x=some a):(x>>=F)=F a:=by rw [h];rfl
theorem aX {α β:Type} {x:Option α} {a:α} {F:α->Option β} {r:Option β} (h:x=some a) (k:F a=r):(x>>=F)=r:=(eg h).trans k
theorem dH {α β:Type} {x:Option α} {a:α} {F:α->Option β} {r A B:Option β} {c:Prop} {i:Decidable c} (h:x=some a) (k:A=r) (e:F a=@ite _ c i A B:=by rfl) (hc:c:=by rfl):(x>>=F)=r:=(eg h).trans (e.trans ((if_pos hc).trans k))
theorem aG {α β:Type} {x:Option α} {a:α} {F:α->Option β} {r A B:Option β} {c:Prop} {i:Decidable c} (h:x=some a) (k:B=r) (e:F a=@ite _ c i A B:=by rfl) (hc:¬c:=by exact aHI):(x>>=F)=r:=(eg h).trans (e.trans ((if_neg hc).trans k))
theorem nH {β:Type} {r A B:β} {c:Prop} {i:Decidable c} (hc:c) (k:A=r):@ite _ c i A B=r:=(if_pos hc).trans k
theorem ca {β:Type} {r A B:β} {c:Prop} {i:Decidable c} (hc:¬c) (k:B=r):@ite _ c i A B=r:=(if_neg hc).trans k
theorem oS (p:aA):aA.mk p.fT p.fI p.az p.ay=p:=rfl
theorem dO (p:ai):ai.mk p.ar p.bM p.az p.ay=p:=rfl
theorem Rg (n:ae):ae.mk n.aj n.aP n.aq n.ah=n:=by cases n;rfl
theorem wW {x:Int} (h1: -9223372036854775808<=x) (h2:x<=9223372036854775807):bq x=x:=U7 h1 h2
section
variable {ts:List af} {e e':Int}
theorem aay {i:Nat} (h:i<ts.length):ts[i]=tok ts i:=by unfold tok;rw [aHL,abF h];rfl
theorem Bd {i:Nat} (h:¬i<ts.length):tok ts i=⟨0,0,[],0⟩:=by unfold tok;rw [aHL,aIw aKK];rfl
theorem tP {i:Nat} (h:kd ts i≠0):i<ts.length:=by
 by_cases hi:i<ts.length
 ·exact hi
 ·exfalso;apply h;unfold kd;rw [Bd hi]
theorem PO {i:Nat} {w:aB} (h:tw ts i w=true):(kd ts i=6\/kd ts i=3)/\tx ts i=w:=by
 unfold tw at h
 simpa using h
theorem cw {i:Nat} {w:aB} (h:tw ts i w=true):i<ts.length:=tP (by have:=(PO h).1;omega)
theorem aw {i:Nat} {w w2:aB} (h:tw ts i w=true) (hn:(w==w2)=false):tw ts i w2=false:=by
 obtain ⟨_,h2⟩:=PO h
 unfold tw
 rw [h2,hn,aIl]
theorem Be {i:Nat} (h:i<ts.length):tok ts i∈ts:=by rw [<-aay h];exact aIh h
theorem vu (H:Tk ts e) (i:Nat):(tx ts i).length<=4000:=by
 by_cases h:i<ts.length
 ·exact H.txt _ (Be h)
 ·unfold tx;rw [Bd h];simp
theorem ji {i:Nat} (h:i<ts.length):idx ts (i:Int)=some (tok ts i):=by rw [fJ h,aay h]
theorem adn (H:Tk ts e) (j:Nat):0<=pl ts e j:=by
 unfold pl
 split
 ·rename_i h;exact H.at0 _ (Be h)
 ·exact H.e0
theorem aM {i:Nat} {w:aB} (H:Tk ts e) (hw:nmW w=false) (hn:w≠[]):aT ts i 6 w=tw ts i w:=by
 unfold aT tw
 rw [beq_eq_false_iff_ne.2 hn,aIi]
 by_cases h3:kd ts i=3
 ·have bg:i<ts.length:=tP aKK
  have:=H.nam _ (Be bg) h3
  have hx:(tx ts i==w)=false:=by
   rw [beq_eq_false_iff_ne]
   intro hh
   rw [<-hh] at hw
   rw [show tx ts i=(tok ts i).aq from rfl,this] at hw
   cases hw
  rw [hx,aIl,aIl]
 ·rw [beq_eq_false_iff_ne.2 h3,aIo]
theorem aN {i:Nat} {w:aB} (H:Tk ts e) (hw:G7.contains w=false) (hn:w≠[]):aT ts i 3 w=tw ts i w:=by
 unfold aT tw
 rw [beq_eq_false_iff_ne.2 hn,aIi]
 by_cases h3:kd ts i=6
 ·have bg:i<ts.length:=tP aKK
  have:=H.mrk _ (Be bg) h3
  have hx:(tx ts i==w)=false:=by
   rw [beq_eq_false_iff_ne]
   intro hh
   rw [<-hh] at hw
   rw [show tx ts i=(tok ts i).aq from rfl,this] at hw
   cases hw
  rw [hx,aIl,aIl]
 ·rw [beq_eq_false_iff_ne.2 h3,aIi]
theorem sAt (H:Tk ts e) (s:JS) (hs:s.Ok ts) (o:Nat) (ho:o<=10) (k:Int) (hk:k≠0) (w:aB):bE (pS ts e s) (o:Int) k w=some (aS ts s o k w,pS ts e s):=by
 have hl:=H.len
 have out:∀x:Int,x=(ts.length:Int)->∀bd:Int,bE ⟨ts,x,e,bd⟩ (o:Int) k w=some (false,⟨ts,x,e,bd⟩):=λx hx bd=>by
  subst hx
  unfold bE
  rw [if_neg]
  rw [wW]<;>simp only<;>omega
 cases s with
 | g i=>
  have hi:i<=ts.length:=hs
  show bE ⟨ts,(i:Int),e,-1⟩ (o:Int) k w=some (aT ts (i+o) k w,⟨ts,(i:Int),e,-1⟩)
  have ew:bq ((i:Int)+(o:Int))=((i+o:Nat):Int):=by rw [wW aKK aKK];omega
  unfold bE
  simp only [ew]
  by_cases h:i+o<ts.length
  ·rw [if_pos aKK,ji h,sb]
   unfold aT kd tx
   by_cases h2:(tok ts (i+o)).aj=k
   ·rw [if_pos h2,h2,beq_self_eq_true,aIO]
    by_cases h3:w=[]
    ·rw [if_pos h3,h3];rfl
    ·rw [if_neg h3,sb,beq_eq_false_iff_ne.2 h3];rfl
   ·rw [if_neg h2,beq_eq_false_iff_ne.2 h2];rfl
  ·rw [if_neg aKK]
   unfold aT kd
   rw [Bd h,beq_eq_false_iff_ne.2 (aIT hk)];rfl
 | b j=>exact out _ rfl _
 | d j=>exact out _ rfl _
theorem eJ (H:Tk ts e) (s:JS) (hs:s.Ok ts) (k:Int) (w:aB) (hk:k≠0):bE (pS ts e s) 0 k w=some (aS ts s 0 k w,pS ts e s):=sAt H s hs 0 aKK k hk w
theorem aFA (H:Tk ts e) (s:JS) (hs:s.Ok ts) (k:Int) (w:aB) (hk:k≠0):bE (pS ts e s) 1 k w=some (aS ts s 1 k w,pS ts e s):=sAt H s hs 1 aKK k hk w
theorem aFB (H:Tk ts e) (s:JS) (hs:s.Ok ts) (k:Int) (w:aB) (hk:k≠0):bE (pS ts e s) 2 k w=some (aS ts s 2 k w,pS ts e s):=sAt H s hs 2 aKK k hk w
theorem tO (H:Tk ts e) {i:Nat} (h:i<=ts.length):aA.mk (pS ts e (.g i)).fT (bq ((pS ts e (.g i)).fI+1)) (pS ts e (.g i)).az (pS ts e (.g i)).ay=pS ts e (.g (i+1)):=by
 have:=H.len
 show aA.mk ts (bq ((i:Int)+1)) e (-1)=⟨ts,((i+1:Nat):Int),e,-1⟩
 rw [bQ aKK]
theorem aaz {i:Nat} {w:aB} (hw:w≠[]):tw ts i w=(aT ts i 6 w||aT ts i 3 w):=by
 unfold tw aT
 rw [beq_eq_false_iff_ne.2 hw,aIi]
 cases kd ts i==6<;>cases kd ts i==3<;>cases tx ts i==w<;>rfl
theorem ax (H:Tk ts e) {s:JS} (hs:s.Ok ts) {w:aB} (h:tS ts s w=false) (hw:w≠[]:=by decide):aE (pS ts e s) w=some (false,pS ts e s):=by
 have h6:aS ts s 0 6 w=false:=by
  cases s with
  | g i=>have:tw ts i w=false:=h;rw [aaz hw,Bool.or_eq_false_iff] at this;exact this.1
  | _=>rfl
 have h3:aS ts s 0 3 w=false:=by
  cases s with
  | g i=>have:tw ts i w=false:=h;rw [aaz hw,Bool.or_eq_false_iff] at this;exact this.2
  | _=>rfl
 unfold aE
 rw [eJ H s hs _ _ aKL,sb,h6]
 simp only [amb,if_false]
 rw [eJ H s hs _ _ aKL,sb,h3]
 rfl
theorem c8 (H:Tk ts e) {i:Nat} {w:aB} (h:tw ts i w=true) (hw:w≠[]:=by decide):aE (pS ts e (.g i)) w=some (true,pS ts e (.g (i+1))):=by
 have bg:=cw h
 have hs:(JS.g i).Ok ts:=aIn bg
 rw [aaz hw] at h
 unfold aE
 rw [eJ H _ hs _ _ aKL,sb]
 have e6:aS ts (.g i) 0 6 w=aT ts i 6 w:=rfl
 have e3:aS ts (.g i) 0 3 w=aT ts i 3 w:=rfl
 rw [e6]
 cases h6:aT ts i 6 w with
 | true=>dsimp only;rw [if_pos rfl,tO H hs]
 | false=>
  rw [h6,aIi] at h
  simp only [amb,if_false]
  rw [eJ H _ hs _ _ aKL,sb,e3,h]
  dsimp only
  rw [if_pos rfl,tO H hs]
def K3:JS->JS | .g i=>.b i | .b j=>.b j | .d j=>.b j
theorem sf (H:Tk ts e) (s:JS) (hs:s.Ok ts):dh (pS ts e s)=some (.mk 0 0 [] [],pS ts e (K3 s)):=by
 have bad:∀j:Nat,dh ⟨ts,(ts.length:Int),e,pl ts e j⟩=some (.mk 0 0 [] [],⟨ts,(ts.length:Int),e,pl ts e j⟩):=λj=>by
  have:=adn H j
  unfold dh
  rw [if_neg (by simp only;omega)]
 cases s with
 | g i=>
  have hi:i<=ts.length:=hs
  show dh ⟨ts,(i:Int),e,-1⟩=some (.mk 0 0 [] [],⟨ts,(ts.length:Int),e,pl ts e i⟩)
  unfold dh pl
  rw [if_pos (show (-1:Int)<0 by decide)]
  by_cases h:i<ts.length
  ·simp only
   rw [if_pos aKK,ji h,sb,if_pos h]
  ·simp only
   rw [if_neg aKK,if_neg h]
 | b j=>exact bad j
 | d j=>exact bad j
theorem Du {i:Nat} {w:aB}:wS ts (.g i) w=(bif tw ts i w then .g (i+1) else .b i):=rfl
theorem KP {i:Nat} {k:Int}:nS ts (.g i) k=(bif wa ts k i then .g (i+1) else .b i):=rfl
theorem aaA {i:Nat} {k:Int}:nT ts (.g i) k=(bif wa ts k i then tx ts i else []):=rfl
theorem jI {s:JS} {w:aB} (h:tS ts s w=false):wS ts s w=K3 s:=by
 cases s with
 | g i=>have:tw ts i w=false:=h;rw [Du,this];rfl
 | _=>rfl
theorem Kh (s:JS) (w:aB):tS ts s w=false\/∃i,s=.g i/\tw ts i w=true:=by
 cases h:tS ts s w with
 | false=>exact .inl rfl
 | true=>
  cases s with
  | g i=>exact .inr ⟨i,rfl,h⟩
  | _=>cases h
theorem er (H:Tk ts e) (s:JS) (hs:s.Ok ts) (w:aB) (hw:w≠[]:=by decide):aR (pS ts e s) w=some (pS ts e (wS ts s w)):=by
 unfold aR
 rcases Kh (ts:=ts) s w with h | ⟨i,rfl,h⟩
 ·rw [ax H hs h hw,sb]
  simp only [amb,if_false]
  rw [sf H s hs,sb,jI h]
 ·rw [c8 H h hw,sb,Du,h];rfl
theorem lT {s:JS} (hs:s.Ok ts) (w:aB):(wS ts s w).Ok ts:=by
 cases s with
 | g i=>
  rw [Du]
  cases h:tw ts i w with
  | true=>exact cw h
  | false=>exact hs
 | b j=>exact hs
 | d j=>exact aIn hs.1
theorem pB (s:JS) (w:aB):(wS ts s w).nd=true:=by
 cases s with
 | g i=>rw [Du];cases tw ts i w<;>rfl
 | _=>rfl
theorem Fl (s:JS) (k:Int):(nS ts s k).nd=true:=by
 cases s with
 | g i=>rw [KP];cases wa ts k i<;>rfl
 | _=>rfl
theorem N5 {k:Int} {i:Nat} (hk:k≠0) (h:wa ts k i=true):i<ts.length:=by
 unfold wa at h
 simp only [As,beq_iff_eq] at h
 exact tP (by rw [h.1];exact hk)
theorem Ab {s:JS} (hs:s.Ok ts) {k:Int} (hk:k≠0):(nS ts s k).Ok ts:=by
 cases s with
 | g i=>
  rw [KP]
  cases h:wa ts k i with
  | true=>exact N5 hk h
  | false=>exact hs
 | b j=>exact hs
 | d j=>exact aIn hs.1
theorem mh (H:Tk ts e) (s:JS) (k:Int):(nT ts s k).length<=4000:=by
 cases s with
 | g i=>
  rw [aaA]
  cases wa ts k i with
  | true=>exact vu H i
  | false=>exact aIS _
 | _=>exact aIS _
theorem ZT {i:Nat} (h:i<4001):bq (bq ((i:Int)+1) - 1)=(i:Int):=by rw [bQ aKK];rw [wW aKK aKK];omega
theorem vt (H:Tk ts e) (s:JS) (hs:s.Ok ts) (k:Int) (hk:k≠0:=by decide):dw (pS ts e s) k=some (nT ts s k,pS ts e (nS ts s k)):=by
 have hl:=H.len
 unfold dw
 rw [eJ H s hs _ _ hk,sb]
 cases s with
 | g i=>
  have hi:i<=ts.length:=hs
  have ea:aS ts (.g i) 0 k []=(kd ts i==k):=by show (kd ts i==k&&true)=_;rw [aIj]
  rw [ea]
  rw [KP,aaA]
  unfold wa
  cases hkd:kd ts i==k with
  | false=>
   simp only [amb,if_false]
   rw [sf H _ hs];rfl
  | true=>
   have bg:i<ts.length:=tP (by rw [beq_iff_eq] at hkd;rw [hkd];exact hk)
   dsimp only
   rw [if_pos rfl]
   show (idx ts (i:Int)>>=_)=_
   rw [ji bg,sb,Oo,sb]
   cases hg:good (tok ts i).aq with
   | true=>
    rw [if_pos rfl]
    show (idx ts (bq (bq ((i:Int)+1) - 1))>>=_)=_
    rw [ZT aKK,ji bg,sb,tO H hs]
    unfold tx
    rw [hg];rfl
   | false=>
    simp only [amb,if_false]
    rw [sf H _ hs,sb]
    unfold tx
    rw [hg];rfl
 | b j=>simp only [aS,amb,if_false];rw [sf H _ hs];rfl
 | d j=>simp only [aS,amb,if_false];rw [sf H _ hs];rfl
theorem Nr (H:Tk ts e) (s:JS) (hs:s.Ok ts):gG (pS ts e s)=some (.mk 4 0 (nT ts s 2) [],pS ts e (nS ts s 2)):=by unfold gG;rw [vt H s hs 2,sb]
theorem agp (H:Tk ts e) (s:JS) (hs:s.Ok ts) (o:Nat) (ho:o<=10):dB (qS ts e' s) (o:Int)=some (tok ts (s.pos+o),qS ts e' s):=by
 have hl:=H.len
 have hp:s.pos<=ts.length:=by
  cases s with
  | g i=>exact hs
  | b i=>exact hs
  | d i=>exact aIn hs.1
 have e1:(qS ts e' s).bM=(s.pos:Int):=by cases s<;>rfl
 have e2:(qS ts e' s).ar=ts:=by cases s<;>rfl
 have ew:bq ((s.pos:Int)+(o:Int))=((s.pos+o:Nat):Int):=by rw [wW aKK aKK];omega
 unfold dB
 rw [e1,e2,ew]
 by_cases h:s.pos+o<ts.length
 ·rw [if_pos aKK,ji h,sb]
 ·rw [if_neg aKK,Bd h]
theorem b8 (H:Tk ts e) (s:JS) (hs:s.Ok ts):dB (qS ts e' s) 0=some (tok ts s.pos,qS ts e' s):=agp H s hs 0 aKK
theorem iIs (H:Tk ts e) (s:JS) (hs:s.Ok ts) (o:Nat) (ho:o<=10) (w:aB):aW (qS ts e' s) (o:Int) w=some (tw ts (s.pos+o) w,qS ts e' s):=by
 unfold aW tw kd tx
 rw [agp H s hs o ho,sb]
 dsimp only
 by_cases h6:(tok ts (s.pos+o)).aj=6
 ·rw [if_pos h6,h6];rfl
 ·rw [if_neg h6,beq_eq_false_iff_ne.2 h6,aIi]
  by_cases h3:(tok ts (s.pos+o)).aj=3
  ·rw [if_pos h3,h3];rfl
  ·rw [if_neg h3,beq_eq_false_iff_ne.2 h3];rfl
theorem eV (H:Tk ts e) (s:JS) (hs:s.Ok ts) (w:aB):aW (qS ts e' s) 0 w=some (tw ts s.pos w,qS ts e' s):=iIs H s hs 0 aKK w
theorem adW (H:Tk ts e) (s:JS) (hs:s.Ok ts) (w:aB):aW (qS ts e' s) 1 w=some (tw ts (s.pos+1) w,qS ts e' s):=iIs H s hs 1 aKK w
theorem aFC (H:Tk ts e) (s:JS) (hs:s.Ok ts) (w:aB):aW (qS ts e' s) 2 w=some (tw ts (s.pos+2) w,qS ts e' s):=iIs H s hs 2 aKK w
theorem se (H:Tk ts e) {i:Nat} (h:i<=ts.length):ai.mk (qS ts e' (.g i)).ar (bq ((qS ts e' (.g i)).bM+1)) (qS ts e' (.g i)).az (qS ts e' (.g i)).ay=qS ts e' (.g (i+1)):=by
 have:=H.len
 show ai.mk ts (bq ((i:Int)+1)) e' false=⟨ts,((i+1:Nat):Int),e',false⟩
 rw [bQ aKK]
theorem au (H:Tk ts e) {s:JS} (hs:s.Ok ts) {w:aB} (h:tS ts s w=false) (hw:(w==([61]:aB))=false\/s.nd=true:=by exact .inl aKL):av (qS ts e' s) w=some (false,qS ts e' s):=by
 unfold av
 cases s with
 | g i=>
  have h:tw ts i w=false:=h
  rw [if_neg aLg,eV H _ hs,sb]
  show (if tw ts i w=true then _ else _)=_
  rw [h];rfl
 | b j=>rfl
 | d j=>
  have hw:(w==([61]:aB))=false:=hw.resolve_right (by simp [JS.nd])
  rw [if_neg aLg,eV H _ hs,sb]
  show (if tw ts j w=true then _ else _)=_
  rw [aw hs.2 (by rw [aJr] at hw ⊢;intro hh;apply hw;rw [beq_iff_eq] at hh ⊢;exact hh.symm)];rfl
theorem bU (H:Tk ts e) {i:Nat} {w:aB} (h:tw ts i w=true):av (qS ts e' (.g i)) w=some (true,qS ts e' (.g (i+1))):=by
 have hs:(JS.g i).Ok ts:=aIn (cw h)
 unfold av
 rw [if_neg aLg,eV H _ hs,sb]
 show (if tw ts i w=true then _ else _)=_
 rw [h,if_pos rfl,se H hs]
theorem PU {s:JS}:ai.mk (qS ts e' s).ar (qS ts e' s).bM (qS ts e' s).az true=qS ts e' (K3 s):=by cases s<;>rfl
theorem fL (H:Tk ts e) (s:JS) (hs:s.Ok ts) (w:aB) (hw:(w==([61]:aB))=false\/s.nd=true:=by exact .inl aKL):aK (qS ts e' s) w=some (qS ts e' (wS ts s w)):=by
 unfold aK
 rcases Kh (ts:=ts) s w with h | ⟨i,rfl,h⟩
 ·rw [au H hs h hw,sb]
  simp only [amb,if_false]
  rw [jI h,PU]
 ·rw [bU H h,sb,Du,h];rfl
theorem tQ (H:Tk ts e) (s:JS) (hs:s.Ok ts) (hd:s.nd=true) (k:Int) (hk:k=2\/k=3):bT (qS ts e' s) k=some (nT ts s k,qS ts e' (nS ts s k)):=by
 unfold bT
 rw [b8 H s hs,sb]
 cases s with
 | g i=>
  have hi:i<=ts.length:=hs
  dsimp only
  rw [if_neg aLg]
  show (if kd ts i=k then _ else _)=_
  rw [aaA,KP]
  unfold wa
  by_cases hkd:kd ts i=k
  ·have step:(bK (tok ts i).aq>>=λv7=>(if v7=true then some ((tok ts i).aq,(ai.mk (qS ts e' (.g i)).ar (bq ((qS ts e' (.g i)).bM+1)) (qS ts e' (.g i)).az (qS ts e' (.g i)).ay)) else some ([],(ai.mk (qS ts e' (.g i)).ar (qS ts e' (.g i)).bM (qS ts e' (.g i)).az true))))=
     some ((bif good (tx ts i) then tx ts i else []),qS ts e' (bif good (tx ts i) then .g (i+1) else .b i)):=by
    rw [uE,sb,se H hi]
    unfold tx
    cases good (tok ts i).aq<;>rfl
   have hb:(kd ts i==k)=true:=by rw [hkd];exact beq_self_eq_true k
   rw [if_pos hkd,hb,aIO]
   rcases hk with rfl | rfl
   ·rw [if_neg aKL,if_pos rfl];exact step
   ·rw [if_pos rfl];exact step
  ·have hb:(kd ts i==k)=false:=beq_eq_false_iff_ne.2 hkd
   rw [if_neg hkd,hb];rfl
 | b j=>rfl
 | d j=>cases hd
theorem Ns (H:Tk ts e) (s:JS) (hs:s.Ok ts) (hd:s.nd=true):cm (qS ts e' s)=some (.mk 4 0 (nT ts s 2) [],qS ts e' (nS ts s 2)):=by unfold cm;rw [tQ H s hs hd 2 (.inl rfl),sb]
end
def wl (l:List ae):Nat:=l.length+Gk l
theorem aef (l m:List ae):Gk (l++m)=Gk l+Gk m:=by
 induction l with
 | nil=>simp [Gk]
 | cons x r ih=>simp only [aIM,Gk];omega
theorem ki (l m:List ae):wl (l++m)=wl l+wl m:=by unfold wl;rw [aef,aHK];omega
theorem df (x:ae):wl [x]=1+wt x:=rfl
theorem lR (k m:Int) (t:aB) (l:List ae):wt (.mk k m t l)=t.length+wl l:=by rw [zR];unfold wl;simp only [ae.mS,ae.kK];omega
theorem mi:wl []=0:=rfl
theorem ja (x:ae) (l:List ae):wl (x::l)=1+wt x+wl l:=by unfold wl;simp only [an,Gk];omega
theorem ak5 (l:List ae):l.length<=wl l:=by unfold wl;omega
section
variable {ts:List af} {e e':Int}
theorem mj {i:Nat}:((pS ts e (.g i)).ay<0)=True:=by
 show ((-1:Int)<0)=True
 exact eq_true aKL
theorem rm (H:Tk ts e) {i:Nat}:((pS ts e (.b i)).ay<0)=False:=by
 have:=adn H i
 exact eq_false (show ¬pl ts e i<0 by omega)
theorem kj {i:Nat}:((qS ts e' (.g i)).ay=true)=False:=eq_false (show ¬false=true by decide)
theorem jC {i:Nat}:((qS ts e' (.b i)).ay=true)=True:=eq_true rfl
theorem Nn {i:Nat}:((qS ts e' (.d i)).ay=true)=False:=eq_false (show ¬false=true by decide)
structure Rs (ts:List af) (v:Bool) (D:Nat) (s s':JS) (n m:ae):Prop where
 ok:s'.Ok ts
 le:s.pos<=s'.pos
 good:∀i',s'=.g i'->∃i,s=.g i/\i<i'/\n=m/\(wt n:Int)+8192+16384*(i:Int)<=16384*(i':Int)/\xz n=uu n/\(v=true->i'=i+1->(n.aj==4)=(kd ts i==2))
 dm:∀j,s'=.d j->(∃i,s=.g i)/\s.pos<j/\1<=D/\(D=1->xz m=false)
structure RL (ts:List af) (a:List ae) (s s':JS) (l m:List ae):Prop where
 ok:s'.Ok ts
 nd:s'.nd=true
 le:s.pos<=s'.pos
 len:l.length+s.pos<=a.length+s'.pos+1
 lem:m.length+s.pos<=s'.pos+1
 good:∀i',s'=.g i'->∃i,s=.g i/\i+1<i'/\l=a++m/\(wl m:Int)+16384*(i:Int)+16384<=16384*(i':Int)
theorem okp {s:JS} (h:s.Ok ts):s.pos<=ts.length:=by
 cases s with
 | g i=>exact h
 | b i=>exact h
 | d i=>exact aIn h.1
theorem iy (s:JS) (w:aB):s.pos<=(wS ts s w).pos:=by
 cases s with
 | g i=>
  rw [Du]
  cases tw ts i w with
  | true=>exact aIK i
  | false=>exact No i
 | b i=>exact No i
 | d i=>exact No i
theorem tn (s:JS) (k:Int):s.pos<=(nS ts s k).pos:=by
 cases s with
 | g i=>
  rw [KP]
  cases wa ts k i with
  | true=>exact aIK i
  | false=>exact No i
 | b i=>exact No i
 | d i=>exact No i
theorem gv {s:JS} {w:aB} {k:Nat} (h:wS ts s w=.g k):∃i,s=.g i/\k=i+1/\tw ts i w=true:=by
 cases s with
 | g i=>
  rw [Du] at h
  cases ht:tw ts i w with
  | true=>rw [ht] at h;cases h;exact ⟨i,rfl,rfl,ht⟩
  | false=>rw [ht] at h;cases h
 | b i=>cases h
 | d i=>cases h
theorem rl {s:JS} {c:Int} {k:Nat} (h:nS ts s c=.g k):∃i,s=.g i/\k=i+1/\wa ts c i=true:=by
 cases s with
 | g i=>
  rw [KP] at h
  cases ht:wa ts c i with
  | true=>rw [ht] at h;cases h;exact ⟨i,rfl,rfl,ht⟩
  | false=>rw [ht] at h;cases h
 | b i=>cases h
 | d i=>cases h
theorem qM (s:JS):(K3 s).pos=s.pos:=by cases s<;>rfl
theorem CU (s:JS):(K3 s).nd=true:=by cases s<;>rfl
theorem zo {s:JS} (h:s.Ok ts):(K3 s).Ok ts:=by
 cases s with
 | g i=>exact h
 | b i=>exact h
 | d i=>exact aIn h.1
theorem Kj {s:JS} {k:Nat} (h:K3 s=.g k):False:=by cases s<;>cases h
theorem agj {s:JS}:∃j,K3 s=.b j:=by cases s<;>exact ⟨_,rfl⟩
theorem CV (s:JS):((qS ts e' (K3 s)).ay=true)=True:=by
 obtain ⟨j,h⟩:=@agj s
 rw [h,jC]
theorem Kk {s:JS} (hd:s.nd=true):(∃i,s=.g i)\/∃j,s=.b j:=by
 cases s with
 | g i=>exact .inl ⟨i,rfl⟩
 | b j=>exact .inr ⟨j,rfl⟩
 | d j=>cases hd
def S5 (x:Option (((List af)×Int×Int×Int×(List ae)) ⊕ ((List ae)×aA))) (l:List ae) (p:aA):Prop:=x=some (.inr (l,p))\/x=some (.inl (p.fT,p.fI,p.az,p.ay,l))
def I5 (x:Option (((List af)×Int×Int×Bool×(List ae)) ⊕ ((List ae)×ai))) (l:List ae) (p:ai):Prop:=x=some (.inr (l,p))\/x=some (.inl (p.ar,p.bM,p.az,p.ay,l))
theorem S5.run {x:Option (((List af)×Int×Int×Int×(List ae)) ⊕ ((List ae)×aA))} {l:List ae} {p:aA} (h:S5 x l p):(x>>=λo=>match o with
  | .inr r=>some r
  | .inl (QU,EZ,sw,wM,pt)=>some (pt,(aA.mk QU EZ sw wM)))=some (l,p):=by
 rcases h with h | h<;>rw [h]<;>rfl
theorem I5.run {x:Option (((List af)×Int×Int×Bool×(List ae)) ⊕ ((List ae)×ai))} {l:List ae} {p:ai} (h:I5 x l p):(x>>=λo=>match o with
  | .inr r=>some r
  | .inl (QU,EZ,sw,wM,pt)=>some (pt,(ai.mk QU EZ sw wM)))=some (l,p):=by
 rcases h with h | h<;>rw [h]<;>rfl
theorem jh {l:List ae} (x:ae) (h:l.length<=20000):db 56 l [x]=some (l++[x]):=km aKU
theorem Dv (H:Tk ts e) (k:Int):∀(N:Nat) (i:Nat) (l m:List ae),ts.length - i<N->i<=ts.length->l.length<=10000->m.length<=10000->l.length+ts.length<=10000+i->m.length+ts.length<=10000+i->
  ∃s' x,S5 (dq k (pS ts e (.g i)).fT (pS ts e (.g i)).fI (pS ts e (.g i)).az (pS ts e (.g i)).ay l) (l++x) (pS ts e s')/\
   I5 (bY k (qS ts e' (.g i)).ar (qS ts e' (.g i)).bM (qS ts e' (.g i)).az (qS ts e' (.g i)).ay m) (m++x) (qS ts e' s')/\
   s'.Ok ts/\s'.nd=true/\i<=s'.pos/\x.length+i<=s'.pos+1/\(∀i',s'=.g i'->i<i'/\(wl x:Int)+16384*(i:Int)<=16384*(i':Int))
 | 0,i,l,m,h,_,_,_,_,_=>by omega
 | N+1,i,l,m,hN,hi,hl,hm,DS,hm2=>by
  have hL:=H.len
  have hi0:(JS.g i).Ok ts:=hi
  obtain ⟨s1,num,fu,hd1,Dx,hsp,e1,e2⟩:∃(s1:JS) (num:Int),s1.Ok ts/\s1.nd=true/\i<=s1.pos/\(∃i1,s1=.g i1/\i<=i1)/\
    (aE (pS ts e (.g i)) [38]>>=λ(KS,D0)=>(if KS=true then some (D0.fT,D0.fI,D0.az,D0.ay,(1:Int)) else some (D0.fT,D0.fI,D0.az,D0.ay,0)))=some ((pS ts e s1).fT,(pS ts e s1).fI,(pS ts e s1).az,(pS ts e s1).ay,num)/\
    (av (qS ts e' (.g i)) [38]>>=λ(v37,yY)=>(if v37=true then some (yY.ar,yY.bM,yY.az,yY.ay,(1:Int)) else some (yY.ar,yY.bM,yY.az,yY.ay,0)))=some ((qS ts e' s1).ar,(qS ts e' s1).bM,(qS ts e' s1).az,(qS ts e' s1).ay,num):=by
   rcases Kh (ts:=ts) (.g i) [38] with h | ⟨i1,h1,h⟩
   ·exact ⟨.g i,0,hi,rfl,No _,⟨i,rfl,No _⟩,by rw [ax H hi0 h];rfl,by rw [au H hi0 h];rfl⟩
   ·cases h1
    exact ⟨.g (i+1),1,cw h,rfl,aIK _,⟨i+1,rfl,aIK _⟩,by rw [c8 H h];rfl,by rw [bU H h];rfl⟩
  obtain ⟨i1,rfl,Hp⟩:=hsp
  have nI:(nS ts (.g i1) 2).Ok ts:=Ab fu aKL
  have hd2:=@Fl ts (.g i1) 2
  have Hy:i1<=(nS ts (.g i1) 2).pos:=tn (.g i1) 2
  have hx:=mh H (.g i1) 2
  generalize hs2e:nS ts (.g i1) 2=s2 at*
  generalize hte:nT ts (.g i1) 2=t at*
  have eS:dq k (pS ts e (.g i)).fT (pS ts e (.g i)).fI (pS ts e (.g i)).az (pS ts e (.g i)).ay l=
    (aE (pS ts e s2) [44]>>=λ(qn,v53)=>(if qn=true then dq k v53.fT v53.fI v53.az v53.ay (l++[.mk k num t []]) else aR v53 [41]>>=λKW=>some (.inr (l++[.mk k num t []],KW)))):=by
   rw [dq]
   simp only [mj,if_true,oS,e1,sb,vt H _ fu 2,hte,hs2e]
   rw [jh _ aKK,sb]
  have eI:bY k (qS ts e' (.g i)).ar (qS ts e' (.g i)).bM (qS ts e' (.g i)).az (qS ts e' (.g i)).ay m=
    (av (qS ts e' s2) [41]>>=λ(v46,wE)=>(if v46=true then some (.inr (m++[.mk k num t []],wE)) else aK wE [44]>>=λqn=>bY k qn.ar qn.bM qn.az qn.ay (m++[.mk k num t []]))):=by
   rw [bY]
   simp only [kj,if_false,dO,e2,sb,tQ H _ fu hd1 2 (.inl rfl),hte,hs2e]
   rw [jh _ aKK,sb]
  rw [eS,eI]
  have hw1:wl [ae.mk k num t []]<=4001:=by rw [df,lR,mi];omega
  have Ac:∀i2,s2=.g i2->i1<i2:=λi2 h=>by
   rw [<-hs2e] at h
   obtain ⟨i0,h1,h2,_⟩:=rl h
   cases h1;omega
  rcases Kh (ts:=ts) s2 [44] with h | ⟨i2,rfl,h⟩
  ·rw [ax H nI h,sb]
   simp only [amb,if_false]
   rw [er H _ nI [41],sb]
   rcases Kh (ts:=ts) s2 [41] with h2 | ⟨i2,rfl,h2⟩
   ·rw [au H nI h2,sb]
    simp only [amb,if_false]
    rw [fL H _ nI [44],sb,jI h,jI h2]
    refine ⟨K3 s2,[.mk k num t []],.inl rfl,.inr ?_,zo nI,CU _,by rw [qM];omega,?_,λi' h=>(Kj h).elim⟩
    ·rw [bY]
     simp only [CV,if_true]
    ·rw [qM];simp only [an,At];omega
   ·have:=Ac i2 rfl
    simp only [bU H h2,sb,if_true,Du,h2,cond_true]
    refine ⟨.g (i2+1),[.mk k num t []],.inl rfl,.inl rfl,cw h2,rfl,by show i<=i2+1;omega,?_,λi' h=>?_⟩
    ·simp only [an,At];show 0+1+i<=i2+1+1;omega
    ·cases h;omega
  ·have:=Ac i2 rfl
   have bg:=cw h
   simp only [c8 H h,au H nI (show tS ts (.g i2) [41]=false from aw h aKL),sb,if_true,amb,if_false,fL H _ nI [44],Du,h,cond_true]
   obtain ⟨s',x,h1,h2,h3,h4,h5,h6,h7⟩:=Dv H k N (i2+1) (l++[.mk k num t []]) (m++[.mk k num t []]) aKK aKK aKY aKY aKY aKY
   rw [aIe] at h1 h2
   refine ⟨s',_,h1,h2,h3,h4,by omega,?_,λi' h=>?_⟩
   ·simp only [aHK,an,At];omega
   ·obtain ⟨q1,q2⟩:=h7 i' h
    rw [ki]
    omega
theorem FF (H:Tk ts e) (k:Int) (hk:k=24\/k=25) (a:List ae) (ha:a.length<=5000) (s:JS) (hs:s.Ok ts) (hd:s.nd=true) (hu:k=25->∀i,s=.g i->tw ts i [40]=true->tw ts (i+1) [41]=false):
  ∃s' l m,gW (pS ts e s) k a=some (l,pS ts e s')/\fq (qS ts e' s) k=some (m,qS ts e' s')/\RL ts a s s' l m:=by
 have hL:=H.len
 have fu:=lT hs [40]
 have Dx:=iy (ts:=ts) s [40]
 have hd1:=pB (ts:=ts) s [40]
 unfold gW fq
 rw [er H s hs [40],sb,fL H s hs [40],sb]
 have go:∀s1:JS,s1=wS ts s [40]->tS ts s1 [41]=false->∃s' l m,
   ((dq k (pS ts e s1).fT (pS ts e s1).fI (pS ts e s1).az (pS ts e s1).ay a)>>=λo22=>match o22 with
    | .inr r=>some r
    | .inl (QU,EZ,sw,wM,pt)=>some (pt,(aA.mk QU EZ sw wM)))=some (l,pS ts e s')/\
   ((bY k (qS ts e' s1).ar (qS ts e' s1).bM (qS ts e' s1).az (qS ts e' s1).ay [])>>=λo22=>match o22 with
    | .inr r=>some r
    | .inl (QU,EZ,sw,wM,pt)=>some (pt,(ai.mk QU EZ sw wM)))=some (m,qS ts e' s')/\RL ts a s s' l m:=by
  intro s1 h1 hf
  subst h1
  rcases Kk hd1 with ⟨i,hi⟩ | ⟨j,hj⟩
  ·obtain ⟨i0,h0,h00,aBi⟩:=gv hi
   subst h0;subst h00
   rw [hi] at fu ⊢
   have fu:i0+1<=ts.length:=fu
   obtain ⟨s',x,h1,h2,h3,h4,h5,h6,h7⟩:=Dv (e':=e') H k _ (i0+1) a [] (aHP _) fu aKK aKN aKK aKT
   refine ⟨s',_,_,h1.run,h2.run,h3,h4,by show i0<=_;omega,?_,?_,λi' rf=>⟨i0,rfl,?_,rfl,?_⟩⟩
   ·simp only [aHK];show _+i0<=_;omega
   ·simp only [aIg];show _+i0<=_;omega
   ·have:=(h7 i' rf).1;omega
   ·have:=(h7 i' rf).2;simp only [aIg];omega
  ·rw [hj] at fu Dx ⊢
   refine ⟨.b j,a,[],?_,?_,fu,rfl,Dx,?_,?_,λi' h=>by cases h⟩
   ·rw [dq];simp only [rm H,if_false,sb,oS]
   ·rw [bY];simp only [jC,if_true,sb,dO]
   ·have:s.pos<=j:=Dx
    show a.length+s.pos<=a.length+j+1;omega
   ·have:s.pos<=j:=Dx
    show 0+s.pos<=j+1;omega
 rcases Kh (ts:=ts) (wS ts s [40]) [41] with h | ⟨i,hi,h⟩
 ·obtain ⟨s',l,m,h1,h2,h3⟩:=go _ rfl h
  refine ⟨s',l,m,?_,?_,h3⟩
  ·rw [<-h1]
   split
   ·rw [ax H fu h,sb];rfl
   ·rfl
  ·rw [<-h2,au H fu h,sb];rfl
 ·obtain ⟨i0,h0,h00,aBi⟩:=gv hi
  subst h0;subst h00
  rcases hk with rfl | rfl
  ·rw [if_pos rfl,hi]
   simp only [c8 H h,bU H h,sb,if_true]
   refine ⟨.g (i0+1+1),a,[],rfl,rfl,cw h,rfl,by show i0<=i0+1+1;omega,?_,?_,λi' h=>?_⟩
   ·show a.length+i0<=a.length+(i0+1+1)+1;omega
   ·show 0+i0<=i0+1+1+1;omega
   ·cases h;exact ⟨i0,rfl,by omega,by simp,by rw [mi];omega⟩
  ·have:=hu rfl i0 rfl aBi
   rw [this] at h;cases h
end
def C1 (ts:List af) (e e':Int) (v:Bool) (D:Nat) (s:JS) (fs:aA->Option (ae×aA)) (fi:ai->Option (ae×ai)):Prop:=
 ∃s' n m,fs (pS ts e s)=some (n,pS ts e s')/\fi (qS ts e' s)=some (m,qS ts e' s')/\Rs ts v D s s' n m
def aAS (lv:Nat) (q:ai):Option (ae×ai):=match lv with
 | 4=>eG q
 | 5=>dG q
 | n=>bm q n
structure PC (ts:List af) (e e':Int) (s:JS):Prop where
 aHE:C1 ts e e' true 0 s a7 aH
 chain:∀u:Bool,C1 ts e e' true 1 s (λp=>gm p u) (λq=>bV q (!u))
 un:C1 ts e e' true 1 s ff cn
 bin:∀lv:Nat,4<=lv->lv<=11->C1 ts e e' true 1 s (λp=>cj p lv) (aAS lv)
 aFu:C1 ts e e' true 1 s eH bW
 cond:C1 ts e e' true 1 s iU dn
 expr:C1 ts e e' false 2 s bp aU
 list:C1 ts e e' false 0 s iT gr
 args:∀a:List ae,a.length<=100->∃s' l m,dS (pS ts e s) a=some (l,pS ts e s')/\cV (qS ts e' s)=some (m,qS ts e' s')/\RL ts a s s' l m
 block:C1 ts e e' false 0 s cO bL
 stmt:C1 ts e e' false 0 s bc aL
section
variable {ts:List af} {e e':Int}
theorem Rs.bad {v:Bool} {D:Nat} {j:Nat} {n m:ae} (hj:j<=ts.length):Rs ts v D (.b j) (.b j) n m:=⟨hj,No _,λi h=>aLh,λi h=>aLh⟩
theorem C1.bad {v:Bool} {D:Nat} {j:Nat} {fs:aA->Option (ae×aA)} {fi:ai->Option (ae×ai)} (hj:j<=ts.length) (n m:ae) (h1:fs (pS ts e (.b j))=some (n,pS ts e (.b j))) (h2:fi (qS ts e' (.b j))=some (m,qS ts e' (.b j))):C1 ts e e' v D (.b j) fs fi:=
 ⟨_,n,m,h1,h2,Rs.bad hj⟩
section
variable {j:Nat} (H:Tk ts e) (hj:(JS.b j).Ok ts)
include H hj
theorem aaB:∃n,a7 (pS ts e (.b j))=some (n,pS ts e (.b j)):=by
 rw [a7,if_pos (show (pS ts e (.b j)).fI>=((pS ts e (.b j)).fT.length:Int) from Int.le_refl _),sf H _ hj,sb]
 exact aKt
theorem aaC:∃n,aH (qS ts e' (.b j))=some (n,qS ts e' (.b j)):=by
 rw [aH,b8 H _ hj,sb]
 exact aKt
theorem Qc (u:Bool):∃n,gm (pS ts e (.b j)) u=some (n,pS ts e (.b j)):=by
 obtain ⟨n,h⟩:=aaB H hj
 rw [gm,h,sb]
 dsimp only
 rw [aZ]
 simp only [rm H,if_false,sb,oS]
 exact aKt
theorem Qd (u:Bool):∃n,bV (qS ts e' (.b j)) u=some (n,qS ts e' (.b j)):=by
 obtain ⟨n,h⟩:=aaC (e':=e') H hj
 rw [bV,h,sb]
 dsimp only
 rw [aF]
 simp only [jC,if_true,sb,dO]
 exact aKt
theorem aBj:∃n,ff (pS ts e (.b j))=some (n,pS ts e (.b j)):=by
 obtain ⟨n,h⟩:=Qc H hj true
 rw [ff]
 simp only [ax H hj (w:=[33]) rfl,ax H hj (w:=[45]) rfl,sb,amb,if_false]
 rw [mV,h]
 exact aKt
theorem aBk:∃n,cn (qS ts e' (.b j))=some (n,qS ts e' (.b j)):=by
 obtain ⟨n,h⟩:=Qd (e':=e') H hj false
 rw [cn]
 simp only [au (e':=e') H hj (w:=[33]) rfl,au (e':=e') H hj (w:=[45]) rfl,sb,amb,if_false]
 rw [h]
 exact aKt
theorem aaD:∀k lv:Nat,lv+k=11->∃n,cj (pS ts e (.b j)) lv=some (n,pS ts e (.b j))
 | 0,lv,h=>by
  obtain rfl:lv=11:=h
  obtain ⟨n,h⟩:=aBj H hj
  rw [cj,if_pos (show ((11:Nat):Int)=11 from rfl),h]
  exact aKt
 | k+1,lv,h=>by
  obtain ⟨n,h1⟩:=aaD k (lv+1) aKK
  rw [cj,if_neg aKK,bQ aKK,h1,sb]
  dsimp only
  rw [aJ,if_neg (show ¬(pS ts e (.b j)).fI<((pS ts e (.b j)).fT.length:Int) from λh=>by have h:(ts.length:Int)<ts.length:=h;omega)]
  exact aKt
theorem aaE:∀k lv:Nat,lv+k=11->∃n,bm (qS ts e' (.b j)) lv=some (n,qS ts e' (.b j))
 | 0,lv,h=>by
  obtain rfl:lv=11:=h
  obtain ⟨n,h⟩:=aBk (e':=e') H hj
  rw [bm,if_pos aKL,h]
  exact aKt
 | k+1,lv,h=>by
  obtain ⟨n,h1⟩:=aaE k (lv+1) aKK
  rw [bm,if_neg aKK,bQ aKK,h1,sb]
  dsimp only
  rw [bD]
  simp only [jC,if_true,sb,dO]
  exact aKt
theorem aBl:∃n,dG (qS ts e' (.b j))=some (n,qS ts e' (.b j)):=by
 obtain ⟨n,h⟩:=aaE (e':=e') H hj 5 6 rfl
 have h:bm (qS ts e' (.b j)) 6=some (n,qS ts e' (.b j)):=h
 rw [dG,h,sb]
 dsimp only
 rw [bR]
 simp only [dO,au (e':=e') H hj (w:=[38,38]) rfl,sb,amb,if_false]
 exact aKt
theorem bOr:∃n,eG (qS ts e' (.b j))=some (n,qS ts e' (.b j)):=by
 obtain ⟨n,h⟩:=aBl (e':=e') H hj
 rw [eG,h,sb]
 dsimp only
 rw [bX]
 simp only [dO,au (e':=e') H hj (w:=[124,124]) rfl,sb,amb,if_false]
 exact aKt
theorem aaF:∃n,eH (pS ts e (.b j))=some (n,pS ts e (.b j)):=by
 obtain ⟨n,h⟩:=aaD H hj 7 4 rfl
 have h:cj (pS ts e (.b j)) 4=some (n,pS ts e (.b j)):=h
 rw [eH,h,sb]
 simp only [ax H hj (w:=[63,63]) rfl,sb,amb,if_false]
 exact aKt
theorem aaG:∃n,bW (qS ts e' (.b j))=some (n,qS ts e' (.b j)):=by
 obtain ⟨n,h⟩:=bOr (e':=e') H hj
 rw [bW,h,sb]
 simp only [au (e':=e') H hj (w:=[63,63]) rfl,sb,amb,if_false]
 exact aKt
theorem aaH:∃n,iU (pS ts e (.b j))=some (n,pS ts e (.b j)):=by
 obtain ⟨n,h⟩:=aaF H hj
 rw [iU,h,sb]
 simp only [ax H hj (w:=[63]) rfl,sb,amb,if_false]
 exact aKt
theorem aaI:∃n,dn (qS ts e' (.b j))=some (n,qS ts e' (.b j)):=by
 obtain ⟨n,h⟩:=aaG (e':=e') H hj
 rw [dn,h,sb]
 simp only [au (e':=e') H hj (w:=[63]) rfl,sb,amb,if_false]
 exact aKt
theorem NC:∃n,bp (pS ts e (.b j))=some (n,pS ts e (.b j)):=by
 obtain ⟨n,h⟩:=aaH H hj
 rw [bp,h,sb]
 simp only [eJ H _ hj 6 [61] aKL,sb,show aS ts (.b j) 0 6 [61]=false from rfl,amb,if_false]
 exact aKt
theorem alM:∃n,aU (qS ts e' (.b j))=some (n,qS ts e' (.b j)):=by
 obtain ⟨n,h⟩:=aaI (e':=e') H hj
 rw [aU,h,sb]
 simp only [jC,if_true]
 exact aKt
theorem alN:∃n,iT (pS ts e (.b j))=some (n,pS ts e (.b j)):=by
 rw [iT]
 simp only [ax H hj (w:=[93]) rfl,sb,amb,if_false]
 rw [eF]
 simp only [rm H,if_false,sb,oS]
 exact aKt
theorem alO:∃n,gr (qS ts e' (.b j))=some (n,qS ts e' (.b j)):=by
 rw [gr]
 simp only [au (e':=e') H hj (w:=[93]) rfl,sb,amb,if_false]
 rw [cW]
 simp only [jC,if_true,sb,dO]
 exact aKt
theorem aaJ (a:List ae):dS (pS ts e (.b j)) a=some (a,pS ts e (.b j)):=by
 rw [dS]
 simp only [er H _ hj [40],show wS ts (.b j) [40]=.b j from rfl,ax H hj (w:=[41]) rfl,sb,amb,if_false]
 rw [dT]
 simp only [rm H,if_false,sb,oS]
theorem G4:cV (qS ts e' (.b j))=some ([],qS ts e' (.b j)):=by
 rw [cV]
 simp only [fL (e':=e') H _ hj [40],show wS ts (.b j) [40]=.b j from rfl,au (e':=e') H hj (w:=[41]) rfl,sb,amb,if_false]
 rw [cF]
 simp only [jC,if_true,sb,dO]
theorem Qe:∃n,cO (pS ts e (.b j))=some (n,pS ts e (.b j)):=by
 rw [cO]
 simp only [er H _ hj [123],show wS ts (.b j) [123]=.b j from rfl,sb]
 rw [dj]
 simp only [rm H,if_false,sb,oS]
 exact aKt
theorem aeg:∃n,bL (qS ts e' (.b j))=some (n,qS ts e' (.b j)):=by
 rw [bL]
 simp only [fL (e':=e') H _ hj [123],show wS ts (.b j) [123]=.b j from rfl,sb]
 rw [ck]
 simp only [jC,if_true,sb,dO]
 exact aKt
theorem alP:∃n,bc (pS ts e (.b j))=some (n,pS ts e (.b j)):=by
 obtain ⟨n,h⟩:=NC H hj
 have ef:∀w:aB,w≠[]->aE (pS ts e (.b j)) w=some (false,pS ts e (.b j)):=λw hw=>ax H hj rfl hw
 refine ⟨.mk 33 0 [] [n],?_⟩
 rw [bc]
 refine aG (eJ H _ hj 1 [] aKL) ?_
 refine aG (eJ H _ hj 6 [123] aKL) ?_
 refine aG (ef [105,102] aKL) ?_
 refine aG (ef [119,104,105,108,101] aKL) ?_
 refine aG (ef [102,111,114,101,97,99,104] aKL) ?_
 refine aG (ef [116,114,121] aKL) ?_
 refine aG (ef [101,99,104,111] aKL) ?_
 refine aG (ef [98,114,101,97,107] aKL) ?_
 refine aG (ef [99,111,110,116,105,110,117,101] aKL) ?_
 refine aG (ef [114,101,116,117,114,110] aKL) ?_
 refine aG (ef [103,108,111,98,97,108] aKL) ?_
 refine aG (ef [117,110,115,101,116] aKL) ?_
 refine aG (ef [116,104,114,111,119] aKL) ?_
 refine aG (ef [121,105,101,108,100] aKL) ?_
 refine (eg (a:=((pS ts e (.b j)).fT,(pS ts e (.b j)).fI,(pS ts e (.b j)).az,(pS ts e (.b j)).ay,false)) ?_).trans ?_
 ·refine aG (eJ H _ hj 2 [] aKL) ?_;rfl
 refine ca aHI ?_
 refine aG (ef [105,110,99,108,117,100,101] aKL) ?_
 refine aX h ?_
 refine aX (er H _ hj [59]) ?_
 rfl
theorem alQ:∃n,aL (qS ts e' (.b j))=some (n,qS ts e' (.b j)):=by
 rw [aL]
 simp only [b8 (e':=e') H _ hj,sb,jC,if_true]
 exact aKt
theorem ZV:PC ts e e' (.b j):=by
 have yK:j<=ts.length:=hj
 refine ⟨?_,λu=>?_,?_,λlv h4 h11=>?_,?_,?_,?_,?_,λa ha=>?_,?_,?_⟩
 ·obtain ⟨n,h⟩:=aaB H hj;obtain ⟨m,h2⟩:=aaC (e':=e') H hj;exact C1.bad yK n m h h2
 ·obtain ⟨n,h⟩:=Qc H hj u;obtain ⟨m,h2⟩:=Qd (e':=e') H hj (!u);exact C1.bad yK n m h h2
 ·obtain ⟨n,h⟩:=aBj H hj;obtain ⟨m,h2⟩:=aBk (e':=e') H hj;exact C1.bad yK n m h h2
 ·obtain ⟨n,h⟩:=aaD H hj (11 - lv) lv aKK
  match lv,h4 with
  | 4,_=>obtain ⟨m,h2⟩:=bOr (e':=e') H hj;exact C1.bad yK n m h h2
  | 5,_=>obtain ⟨m,h2⟩:=aBl (e':=e') H hj;exact C1.bad yK n m h h2
  | k+6,_=>obtain ⟨m,h2⟩:=aaE (e':=e') H hj (11 - (k+6)) (k+6) aKK;exact C1.bad yK n m h h2
 ·obtain ⟨n,h⟩:=aaF H hj;obtain ⟨m,h2⟩:=aaG (e':=e') H hj;exact C1.bad yK n m h h2
 ·obtain ⟨n,h⟩:=aaH H hj;obtain ⟨m,h2⟩:=aaI (e':=e') H hj;exact C1.bad yK n m h h2
 ·obtain ⟨n,h⟩:=NC H hj;obtain ⟨m,h2⟩:=alM (e':=e') H hj;exact C1.bad yK n m h h2
 ·obtain ⟨n,h⟩:=alN H hj;obtain ⟨m,h2⟩:=alO (e':=e') H hj;exact C1.bad yK n m h h2
 ·exact ⟨_,_,_,aaJ H hj a,G4 H hj,yK,rfl,No _,by omega,by show 0+j<=j+1;omega,λi h=>by cases h⟩
 ·obtain ⟨n,h⟩:=Qe H hj;obtain ⟨m,h2⟩:=aeg (e':=e') H hj;exact C1.bad yK n m h h2
 ·obtain ⟨n,h⟩:=alP H hj;obtain ⟨m,h2⟩:=alQ (e':=e') H hj;exact C1.bad yK n m h h2
end
end
theorem qh {k m:Int} {t:aB} {l:List ae} (h:k≠7):xz (.mk k m t l)=uu (.mk k m t l):=by
 unfold xz uu
 rw [if_neg (λhh=>h hh.1),if_neg (λhh=>h hh.1)]
theorem CR {k m:Int} {t:aB} {l:List ae} (h7:k≠7) (h4:k≠4) (h8:k≠8):xz (.mk k m t l)=false:=by
 unfold xz
 rw [if_neg (λhh=>h7 hh.1),beq_eq_false_iff_ne.2 h4,beq_eq_false_iff_ne.2 h8]
 rfl
theorem alR {m:Int} {t:aB} {a b:ae}:xz (.mk 7 m t [a,b])=xz a:=by
 unfold xz
 rw [if_pos ⟨rfl,by simp⟩]
 cases a;rfl
theorem alS {m:Int} {t:aB} {a b:ae}:uu (.mk 7 m t [a,b])=uu a:=by
 unfold uu
 rw [if_pos ⟨rfl,by simp⟩]
 cases a;rfl
theorem qL {a b:aB} (h:a.length+b.length<=100000):sF a b=some (a++b):=if_pos aKK
section
variable {ts:List af} {e e':Int}
theorem aBm {i:Nat} {w:aB} (h:tw ts i w=true):wS ts (.g i) w=.g (i+1):=by rw [Du,h];rfl
theorem aAT {i:Nat} {w:aB} (h:tw ts i w=false):wS ts (.g i) w=.b i:=by rw [Du,h];rfl
theorem NA {i:Nat} {k:Int} (h:wa ts k i=true):nS ts (.g i) k=.g (i+1):=by rw [KP,h];rfl
theorem ZS {i:Nat} {k:Int} (h:wa ts k i=false):nS ts (.g i) k=.b i:=by rw [KP,h];rfl
theorem NB {i:Nat} {k:Int} (h:wa ts k i=true):nT ts (.g i) k=tx ts i:=by rw [aaA,h];rfl
theorem adX {i:Nat} {k:Int} (h:wa ts k i=false):nT ts (.g i) k=[]:=by rw [aaA,h];rfl
theorem zn (H:Tk ts e) {i:Nat} {w:aB} (h:tw ts i w=true) (hw:w≠[]:=by decide):aR (pS ts e (.g i)) w=some (pS ts e (.g (i+1))):=by
 rw [er H (.g i) (aIn (cw h)) w hw,aBm h]
theorem CT (H:Tk ts e) {i:Nat} {w:aB} (h:tw ts i w=true):aK (qS ts e' (.g i)) w=some (qS ts e' (.g (i+1))):=by
 rw [fL H (.g i) (aIn (cw h)) w (.inr rfl),aBm h]
theorem N6 (H:Tk ts e) {i:Nat} (hi:i<=ts.length) {k:Int} (h:wa ts k i=false) (hk:k≠0:=by decide):dw (pS ts e (.g i)) k=some ([],pS ts e (.b i)):=by
 rw [vt H (.g i) hi k hk,adX h,ZS h]
theorem Nq (H:Tk ts e) {i:Nat} (hi:i<=ts.length) {k:Int} (h:wa ts k i=false) (hk:k=2\/k=3):bT (qS ts e' (.g i)) k=some ([],qS ts e' (.b i)):=by
 rw [tQ H (.g i) hi rfl k hk,adX h,ZS h]
structure Lt (ts:List af) (i:Nat) (s:JS):Prop where
 ok:s.Ok ts
 nd:s.nd=true
 lt:∀k,s=.g k->i<k
theorem Lt.w {i:Nat} {s:JS} (hs:s.Ok ts) (hp:i<=s.pos) (w:aB):Lt ts i (wS ts s w):=
 ⟨lT hs w,pB s w,λk h=>by obtain ⟨i1,rfl,rfl,_⟩:=gv h;have:i<=i1:=hp;omega⟩
theorem Lt.n {i:Nat} {s:JS} (hs:s.Ok ts) (hp:i<=s.pos) {c:Int} (hc:c≠0):Lt ts i (nS ts s c):=
 ⟨Ab hs hc,Fl s c,λk h=>by obtain ⟨i1,rfl,rfl,_⟩:=rl h;have:i<=i1:=hp;omega⟩
theorem Lt.g {i k:Nat} (h:i<k) (hk:k<=ts.length):Lt ts i (.g k):=⟨hk,rfl,λk' h'=>by cases h';exact h⟩
theorem Lt.b {i j:Nat} (hj:j<=ts.length):Lt ts i (.b j):=⟨hj,rfl,λk' h'=>by cases h'⟩
theorem Lt.r {i:Nat} {s s':JS} {a l m:List ae} (h:RL ts a s s' l m) (hl:∀k,s=.g k->i<=k):Lt ts i s':=⟨h.ok,h.nd,λk hk=>by obtain ⟨i1,h1,h2,_⟩:=h.good k hk;have:=hl _ h1;omega⟩
theorem Lt.rs {i:Nat} {v:Bool} {s s':JS} {n m:ae} (h:Rs ts v 0 s s' n m) (hl:∀k,s=.g k->i<=k):Lt ts i s':=⟨h.ok,by
 cases s' with
 | d j=>have:=(h.dm j rfl).2.2.1;omega
 | _=>rfl,λk hk=>by obtain ⟨i1,h1,h2,_⟩:=h.good k hk;have:=hl _ h1;omega⟩
theorem Lt.fl {i:Nat} {s:JS} (hs:s.Ok ts):Lt ts i (K3 s):=⟨zo hs,CU s,λk h=>(Kj h).elim⟩
theorem Rs.leaf {v:Bool} {D i:Nat} {k m:Int} {t:aB} (hk:k≠7) (hi:i<ts.length) (ht:t.length<=4000) (hv:(k==4)=(kd ts i==2)):Rs ts v D (.g i) (.g (i+1)) (.mk k m t []) (.mk k m t []):=
 ⟨hi,aIK i,λi' h=>by cases h;exact ⟨i,rfl,aHP i,rfl,by rw [lR,mi];omega,qh hk,λ_ _=>hv⟩,λj h=>by cases h⟩
theorem Rs.up {v v':Bool} {D i i1:Nat} {s':JS} {n m:ae} (h:Rs ts v D (.g i1) s' n m) (hi:i<i1):Rs ts v' D (.g i) s' n m:=
 ⟨h.ok,by have:i1<=s'.pos:=h.le;show i<=s'.pos;omega,λi' h'=>by
  obtain ⟨i2,h1,h2,h3,h4,h5,h6⟩:=h.good i' h'
  cases h1
  exact ⟨i,rfl,by omega,h3,by omega,h5,λ_ hh=>by omega⟩,λj hj=>by
  obtain ⟨_,q2,q3,q4⟩:=h.dm j hj
  have q2:i1<j:=q2
  exact ⟨⟨i,rfl⟩,by show i<j;omega,q3,q4⟩⟩
theorem Rs.want {v v':Bool} {D D' i i1:Nat} {s':JS} {n m:ae} (h:Rs ts v D (.g i1) s' n m) (hi:i<i1) (w:aB):Rs ts v' D' (.g i) (wS ts s' w) n m:=
 ⟨lT h.ok w,by have:i1<=s'.pos:=h.le;have:=iy (ts:=ts) s' w;show i<=_;omega,λi' h'=>by
  obtain ⟨i2,h1,h2,_⟩:=gv h'
  obtain ⟨i3,q1,q2,q3,q4,q5,q6⟩:=h.good i2 h1
  cases q1
  exact ⟨i,rfl,by omega,q3,by omega,q5,λ_ hh=>by omega⟩,λj hj=>by
  have:=pB (ts:=ts) s' w
  rw [hj] at this;cases this⟩
theorem Rs.node {v:Bool} {D i:Nat} {s':JS} {k m:Int} {t t':aB} {l l':List ae} (hk:k≠7) (wi:s'.Ok ts) (hnd:s'.nd=true) (hle:i<=s'.pos)
  (hg:∀i',s'=.g i'->i+1<i'/\t=t'/\l=l'/\(t.length:Int)+(wl l:Int)+8192+16384*(i:Int)<=16384*(i':Int)):Rs ts v D (.g i) s' (.mk k m t l) (.mk k m t' l'):=
 ⟨wi,hle,λi' h=>by
  obtain ⟨h1,rfl,rfl,h2⟩:=hg i' h
  exact ⟨i,rfl,by omega,rfl,by rw [lR];omega,qh hk,λ_ hh=>by omega⟩,λj hj=>by rw [hj] at hnd;cases hnd⟩
theorem Kp {i:Nat} (h6:kd ts i≠6) (h3:kd ts i≠3) (w:aB):tw ts i w=false:=by
 unfold tw
 rw [beq_eq_false_iff_ne.2 h6,beq_eq_false_iff_ne.2 h3];rfl
theorem kX {i:Nat} {w:aB} (h:tw ts i w=true):kd ts i≠4/\kd ts i≠5/\kd ts i≠2/\kd ts i≠1:=by have:=(PO h).1;omega
def lF (ts:List af) (i:Nat):Bool:=kd ts i==4||(kd ts i==5||(tw ts i [116,114,117,101]||(tw ts i [102,97,108,115,101]||tw ts i [110,117,108,108])))
theorem tm (H:Tk ts e) {i:Nat} (hi:i<=ts.length):((if (tok ts i).aj=4 then
 some ((qS ts e' (.g i)).ar,(qS ts e' (.g i)).bM,(qS ts e' (.g i)).az,(qS ts e' (.g i)).ay,true)
 else
 (if (tok ts i).aj=5 then
 some ((qS ts e' (.g i)).ar,(qS ts e' (.g i)).bM,(qS ts e' (.g i)).az,(qS ts e' (.g i)).ay,true)
 else
 aW (qS ts e' (.g i)) 0 [116,114,117,101]>>=λ(abA,wL)=>
 (if abA=true then
 some (wL.ar,wL.bM,wL.az,wL.ay,true)
 else
 aW wL 0 [102,97,108,115,101]>>=λ(Iq,Ax)=>
 (if Iq=true then
 some (Ax.ar,Ax.bM,Ax.az,Ax.ay,true)
 else
 aW Ax 0 [110,117,108,108]>>=λ(abB,zb)=>
 some (zb.ar,zb.bM,zb.az,zb.ay,abB))))):Option ((List af)×Int×Int×Bool×Bool))=
  some ((qS ts e' (.g i)).ar,(qS ts e' (.g i)).bM,(qS ts e' (.g i)).az,(qS ts e' (.g i)).ay,lF ts i):=by
 have hs:(JS.g i).Ok ts:=hi
 have is:=λw=>eV (e':=e') H _ hs w
 have is:∀w,aW (qS ts e' (.g i)) 0 w=some (tw ts i w,qS ts e' (.g i)):=is
 unfold lF kd
 by_cases h4:(tok ts i).aj=4
 ·rw [if_pos h4,h4];rfl
 by_cases h5:(tok ts i).aj=5
 ·rw [if_neg h4,if_pos h5,h5];rfl
 rw [if_neg h4,if_neg h5,beq_eq_false_iff_ne.2 h4,beq_eq_false_iff_ne.2 h5,aIi,aIi]
 cases h1:tw ts i [116,114,117,101] with
 | true=>refine dH ((is _).trans aLw) ?_;rfl
 | false=>
  refine aG ((is _).trans aLw) ?_
  cases h2:tw ts i [102,97,108,115,101] with
  | true=>refine dH ((is _).trans (by rw [h2])) ?_;rfl
  | false=>
   refine aG ((is _).trans (by rw [h2])) ?_
   refine aX (is _) ?_
   rfl
theorem qg {i:Nat}:¬(qS ts e' (.g i)).ay=true:=by rw [kj];exact id
theorem aeh (H:Tk ts e) {i:Nat} (h0:tw ts i [40]=true) (h1:tw ts (i+1) [41]=true) (a:List ae) (ha:a.length<=5000):
  ∃l,gW (pS ts e (.g i)) 25 a=some (l,pS ts e (.b (i+1)))/\l.length<=a.length+1:=by
 have hs:(JS.g i).Ok ts:=aIn (cw h0)
 have fu:(JS.g (i+1)).Ok ts:=aIn (cw h1)
 have hb:(JS.b (i+1)).Ok ts:=aIn (cw h1)
 have hn:wa ts 2 (i+1)=false:=by
  unfold wa
  rw [beq_eq_false_iff_ne.2 (kX h1).2.2.1];rfl
 refine ⟨a++[.mk 25 0 [] []],?_,by simp⟩
 unfold gW
 refine aX (zn H h0) ?_
 refine (eg (a:=(Sum.inl ((pS ts e (.g (i+1))).fT,(pS ts e (.g (i+1))).fI,(pS ts e (.g (i+1))).az,(pS ts e (.g (i+1))).ay):((List af)×Int×Int×Int) ⊕ ((List ae)×aA))) rfl).trans ?_
 refine S5.run (x:=dq 25 (pS ts e (.g (i+1))).fT (pS ts e (.g (i+1))).fI (pS ts e (.g (i+1))).az (pS ts e (.g (i+1))).ay a) (.inl ?_)
 rw [dq]
 simp only [mj,if_true]
 refine (eg (a:=((pS ts e (.g (i+1))).fT,(pS ts e (.g (i+1))).fI,(pS ts e (.g (i+1))).az,(pS ts e (.g (i+1))).ay,(0:Int))) ?_).trans ?_
 ·refine aG (ax (w:=[38]) H fu (aw h1 aKL)) ?_
  rfl
 refine aX (N6 H fu hn) ?_
 refine aX (jh _ aKK) ?_
 refine aG (ax (w:=[44]) H hb rfl) ?_
 refine aX (er H _ hb [41]) ?_
 rfl
end
section
variable {ts:List af} {e e':Int}
theorem oV {i:Nat} (h:i<ts.length):¬(pS ts e (.g i)).fI>=((pS ts e (.g i)).fT.length:Int):=λhh=>by
 have hh:(i:Int)>=(ts.length:Int):=hh
 omega
theorem yo {i:Nat} {w:aB} (h:tw ts i w=true) (h1:(w==([116,114,117,101]:aB))=false) (h2:(w==([102,97,108,115,101]:aB))=false) (h3:(w==([110,117,108,108]:aB))=false):lF ts i=false:=by
 obtain ⟨k4,k5,k2,_⟩:=kX h
 unfold lF
 rw [beq_eq_false_iff_ne.2 k4,beq_eq_false_iff_ne.2 k5,aw h h1,aw h h2,aw h h3];rfl
theorem aFx {i:Nat} {k:Int} (hk:kd ts i≠k):wa ts k i=false:=by unfold wa;rw [beq_eq_false_iff_ne.2 hk];rfl
theorem R2 (H:Tk ts e) {i:Nat} (hi:i<=ts.length) (IH:∀s,Lt ts i s->PC ts e e' s) (hw:tw ts i [110,117,108,108]=true):C1 ts e e' true 0 (.g i) a7 aH:=by
 have hs:(JS.g i).Ok ts:=hi
 have bg:=cw hw
 obtain ⟨k4,k5,k2,_⟩:=kX hw
 refine ⟨.g (i+1),.mk 3 0 [] [],.mk 3 0 [] [],?_,?_,Rs.leaf aKL bg aKN aLv⟩
 ·rw [a7]
  refine ca (oV bg) ?_
  refine (eg (ji bg)).trans ?_
  refine ca k4 ?_
  refine ca k5 ?_
  refine ca k2 ?_
  refine dH (c8 H hw) ?_
  rfl
 ·rw [aH]
  refine (eg (b8 H _ hs)).trans ?_
  refine ca qg ?_
  refine aX (tm H hi) ?_
  refine nH (show lF ts i=true by unfold lF;simp [hw]) ?_
  refine (eg (a:=(ae.mk 3 0 [] [],qS ts e' (.g (i+1)))) ?_).trans rfl
  unfold eo
  rw [dO]
  refine (eg (b8 H _ hs)).trans ?_
  refine ca k4 ?_
  refine ca k5 ?_
  refine dH (bU H hw) ?_
  rfl
theorem N7 (H:Tk ts e) {i:Nat} (hi:i<=ts.length) (IH:∀s,Lt ts i s->PC ts e e' s) (hw:tw ts i [102,97,108,115,101]=true):C1 ts e e' true 0 (.g i) a7 aH:=by
 have hs:(JS.g i).Ok ts:=hi
 have bg:=cw hw
 obtain ⟨k4,k5,k2,_⟩:=kX hw
 refine ⟨.g (i+1),.mk 3 1 [] [],.mk 3 1 [] [],?_,?_,Rs.leaf aKL bg aKN aLv⟩
 ·rw [a7]
  refine ca (oV bg) ?_
  refine (eg (ji bg)).trans ?_
  refine ca k4 ?_
  refine ca k5 ?_
  refine ca k2 ?_
  refine aG (ax H hs (w:=[110,117,108,108]) (aw hw aKL)) ?_
  refine dH (c8 H hw) ?_
  rfl
 ·rw [aH]
  refine (eg (b8 H _ hs)).trans ?_
  refine ca qg ?_
  refine aX (tm H hi) ?_
  refine nH (show lF ts i=true by unfold lF;simp [hw]) ?_
  refine (eg (a:=(ae.mk 3 1 [] [],qS ts e' (.g (i+1)))) ?_).trans rfl
  unfold eo
  rw [dO]
  refine (eg (b8 H _ hs)).trans ?_
  refine ca k4 ?_
  refine ca k5 ?_
  refine aG (au H hs (w:=[110,117,108,108]) (aw hw aKL)) ?_
  refine dH (bU H hw) ?_
  rfl
theorem R3 (H:Tk ts e) {i:Nat} (hi:i<=ts.length) (IH:∀s,Lt ts i s->PC ts e e' s) (hw:tw ts i [116,114,117,101]=true):C1 ts e e' true 0 (.g i) a7 aH:=by
 have hs:(JS.g i).Ok ts:=hi
 have bg:=cw hw
 obtain ⟨k4,k5,k2,_⟩:=kX hw
 refine ⟨.g (i+1),.mk 3 2 [] [],.mk 3 2 [] [],?_,?_,Rs.leaf aKL bg aKN aLv⟩
 ·rw [a7]
  refine ca (oV bg) ?_
  refine (eg (ji bg)).trans ?_
  refine ca k4 ?_
  refine ca k5 ?_
  refine ca k2 ?_
  refine aG (ax H hs (w:=[110,117,108,108]) (aw hw aKL)) ?_
  refine aG (ax H hs (w:=[102,97,108,115,101]) (aw hw aKL)) ?_
  refine dH (c8 H hw) ?_
  rfl
 ·rw [aH]
  refine (eg (b8 H _ hs)).trans ?_
  refine ca qg ?_
  refine aX (tm H hi) ?_
  refine nH (show lF ts i=true by unfold lF;simp [hw]) ?_
  refine (eg (a:=(ae.mk 3 2 [] [],qS ts e' (.g (i+1)))) ?_).trans rfl
  unfold eo
  rw [dO]
  refine (eg (b8 H _ hs)).trans ?_
  refine ca k4 ?_
  refine ca k5 ?_
  refine aG (au H hs (w:=[110,117,108,108]) (aw hw aKL)) ?_
  refine aG (au H hs (w:=[102,97,108,115,101]) (aw hw aKL)) ?_
  refine dH (bU H hw) ?_
  rfl
theorem R4 (H:Tk ts e) {i:Nat} (hi:i<=ts.length) (IH:∀s,Lt ts i s->PC ts e e' s) (hw:tw ts i [91]=true):C1 ts e e' true 0 (.g i) a7 aH:=by
 have hs:(JS.g i).Ok ts:=hi
 have bg:=cw hw
 obtain ⟨k4,k5,k2,_⟩:=kX hw
 obtain ⟨s',n,m,h1,h2,h3⟩:=(IH _ (Lt.g (aHP i) bg)).list
 refine ⟨s',n,m,?_,?_,h3.up (aHP i)⟩
 ·rw [a7]
  refine ca (oV bg) ?_
  refine (eg (ji bg)).trans ?_
  refine ca k4 ?_
  refine ca k5 ?_
  refine ca k2 ?_
  refine aG (ax H hs (w:=[110,117,108,108]) (aw hw aKL)) ?_
  refine aG (ax H hs (w:=[102,97,108,115,101]) (aw hw aKL)) ?_
  refine aG (ax H hs (w:=[116,114,117,101]) (aw hw aKL)) ?_
  refine dH (c8 H hw) ?_
  refine aX h1 ?_
  rfl
 ·rw [aH]
  refine (eg (b8 H _ hs)).trans ?_
  refine ca qg ?_
  refine aX (tm H hi) ?_
  refine ca (show ¬lF ts i=true by rw [yo hw aKL aKL aKL];exact aHI) ?_
  refine ca k2 ?_
  refine dH (bU H hw) ?_
  refine aX h2 ?_
  rfl
theorem aaK (H:Tk ts e) {i:Nat} (hi:i<=ts.length) (IH:∀s,Lt ts i s->PC ts e e' s) (hw:tw ts i [40]=true):C1 ts e e' true 0 (.g i) a7 aH:=by
 have hs:(JS.g i).Ok ts:=hi
 have bg:=cw hw
 obtain ⟨k4,k5,k2,_⟩:=kX hw
 obtain ⟨s',n,m,h1,h2,h3⟩:=(IH _ (Lt.g (aHP i) bg)).expr
 refine ⟨wS ts s' [41],n,m,?_,?_,h3.want (aHP i) [41]⟩
 ·rw [a7]
  refine ca (oV bg) ?_
  refine (eg (ji bg)).trans ?_
  refine ca k4 ?_
  refine ca k5 ?_
  refine ca k2 ?_
  refine aG (ax H hs (w:=[110,117,108,108]) (aw hw aKL)) ?_
  refine aG (ax H hs (w:=[102,97,108,115,101]) (aw hw aKL)) ?_
  refine aG (ax H hs (w:=[116,114,117,101]) (aw hw aKL)) ?_
  refine aG (ax H hs (w:=[91]) (aw hw aKL)) ?_
  refine dH (c8 H hw) ?_
  refine aX h1 ?_
  refine aX (er H _ h3.ok [41]) ?_
  rfl
 ·rw [aH]
  refine (eg (b8 H _ hs)).trans ?_
  refine ca qg ?_
  refine aX (tm H hi) ?_
  refine ca (show ¬lF ts i=true by rw [yo hw aKL aKL aKL];exact aHI) ?_
  refine ca k2 ?_
  refine aG (au H hs (w:=[91]) (aw hw aKL)) ?_
  refine dH (bU H hw) ?_
  refine aX h2 ?_
  refine aX (fL H _ h3.ok [41]) ?_
  rfl
theorem aaL (H:Tk ts e) {i:Nat} (hi:i<=ts.length) (IH:∀s,Lt ts i s->PC ts e e' s) (hw:tw ts i [110,101,119]=true):C1 ts e e' true 0 (.g i) a7 aH:=by
 have hs:(JS.g i).Ok ts:=hi
 have bg:=cw hw
 obtain ⟨k4,k5,k2,_⟩:=kX hw
 have fu:(JS.g (i+1)).Ok ts:=bg
 rcases Kh (ts:=ts) (.g (i+1)) [115,116,97,116,105,99] with sy | ⟨i1,h0,sy⟩
 ·have hL:=Lt.n (c:=3) fu (i:=i+1) (No _) aKL
  obtain ⟨s2,l,m,h1,h2,h3⟩:=(IH (nS ts (.g (i+1)) 3) ⟨hL.ok,hL.nd,λk hk=>by have:=hL.lt k hk;omega⟩).args [] aKN
  have hx:=mh H (.g (i+1)) 3
  refine ⟨s2,.mk 22 0 (nT ts (.g (i+1)) 3) l,.mk 22 0 (nT ts (.g (i+1)) 3) m,?_,?_,Rs.node aKL h3.ok h3.nd ?_ ?_⟩
  ·rw [a7]
   refine ca (oV bg) ?_
   refine (eg (ji bg)).trans ?_
   refine ca k4 ?_
   refine ca k5 ?_
   refine ca k2 ?_
   refine aG (ax H hs (w:=[110,117,108,108]) (aw hw aKL)) ?_
   refine aG (ax H hs (w:=[102,97,108,115,101]) (aw hw aKL)) ?_
   refine aG (ax H hs (w:=[116,114,117,101]) (aw hw aKL)) ?_
   refine aG (ax H hs (w:=[91]) (aw hw aKL)) ?_
   refine aG (ax H hs (w:=[40]) (aw hw aKL)) ?_
   refine dH (c8 H hw) ?_
   refine aG (ax H fu sy) ?_
   refine aX (vt H _ fu 3) ?_
   refine aX h1 ?_
   rfl
  ·rw [aH]
   refine (eg (b8 H _ hs)).trans ?_
   refine ca qg ?_
   refine aX (tm H hi) ?_
   refine ca (show ¬lF ts i=true by rw [yo hw aKL aKL aKL];exact aHI) ?_
   refine ca k2 ?_
   refine aG (au H hs (w:=[91]) (aw hw aKL)) ?_
   refine aG (au H hs (w:=[40]) (aw hw aKL)) ?_
   refine dH (bU H hw) ?_
   refine (eg (a:=(nT ts (.g (i+1)) 3,qS ts e' (nS ts (.g (i+1)) 3))) ?_).trans ?_
   ·unfold cy
    refine aG (au H fu sy) ?_
    refine aX (tQ H _ fu rfl 3 (.inr rfl)) ?_
    rfl
   refine aX h2 ?_
   rfl
  ·have:=h3.le;have q:=@tn ts (.g (i+1)) 3
   have q:i+1<=(nS ts (.g (i+1)) 3).pos:=q
   omega
  ·intro i' rf
   obtain ⟨k,q1,q2,q3,q4⟩:=h3.good i' rf
   obtain ⟨k1,q5,q6,_⟩:=rl q1
   cases q5
   refine ⟨by omega,rfl,q3,?_⟩
   rw [aIg] at q3
   rw [q3]
   omega
 ·cases h0
  have zp:=cw sy
  obtain ⟨s2,l,m,h1,h2,h3⟩:=(IH (.g (i+1+1)) (Lt.g aKK zp)).args [] aKN
  refine ⟨s2,.mk 22 0 [115,116,97,116,105,99] l,.mk 22 0 [115,116,97,116,105,99] m,?_,?_,Rs.node aKL h3.ok h3.nd ?_ ?_⟩
  ·rw [a7]
   refine ca (oV bg) ?_
   refine (eg (ji bg)).trans ?_
   refine ca k4 ?_
   refine ca k5 ?_
   refine ca k2 ?_
   refine aG (ax H hs (w:=[110,117,108,108]) (aw hw aKL)) ?_
   refine aG (ax H hs (w:=[102,97,108,115,101]) (aw hw aKL)) ?_
   refine aG (ax H hs (w:=[116,114,117,101]) (aw hw aKL)) ?_
   refine aG (ax H hs (w:=[91]) (aw hw aKL)) ?_
   refine aG (ax H hs (w:=[40]) (aw hw aKL)) ?_
   refine dH (c8 H hw) ?_
   refine dH (c8 H sy) ?_
   refine aX h1 ?_
   rfl
  ·rw [aH]
   refine (eg (b8 H _ hs)).trans ?_
   refine ca qg ?_
   refine aX (tm H hi) ?_
   refine ca (show ¬lF ts i=true by rw [yo hw aKL aKL aKL];exact aHI) ?_
   refine ca k2 ?_
   refine aG (au H hs (w:=[91]) (aw hw aKL)) ?_
   refine aG (au H hs (w:=[40]) (aw hw aKL)) ?_
   refine dH (bU H hw) ?_
   refine (eg (a:=(([115,116,97,116,105,99]:aB),qS ts e' (.g (i+1+1)))) ?_).trans ?_
   ·unfold cy
    refine dH (bU H sy) ?_
    rfl
   refine aX h2 ?_
   rfl
  ·have:=h3.le
   have:i+1+1<=s2.pos:=this
   omega
  ·intro i' rf
   obtain ⟨k,q1,q2,q3,q4⟩:=h3.good i' rf
   cases q1
   refine ⟨by omega,rfl,q3,?_⟩
   rw [aIg] at q3
   rw [q3]
   simp only [an,At]
   omega
theorem aaM (H:Tk ts e) {i:Nat} (hi:i<=ts.length) (IH:∀s,Lt ts i s->PC ts e e' s) (hw:tw ts i [102,117,110,99,116,105,111,110]=true):C1 ts e e' true 0 (.g i) a7 aH:=by
 have hs:(JS.g i).Ok ts:=hi
 have bg:=cw hw
 obtain ⟨k4,k5,k2,_⟩:=kX hw
 have hL:=H.len
 have fu:(JS.g (i+1)).Ok ts:=bg
 obtain ⟨s1,l,m,h1,h2,h3⟩:=FF (e':=e') H 24 (.inl rfl) [] aKN (.g (i+1)) fu rfl (λh=>by cases h)
 have hlen:=h3.len
 have aHF:=h3.lem
 have Dx:=okp h3.ok
 have adT:i+1<=s1.pos:=h3.le
 have hpm:ju (qS ts e' (.g (i+1)))=some (m,qS ts e' s1):=by unfold ju;rw [h2,sb]
 simp only [At] at hlen
 have l1:Lt ts i s1:=Lt.r h3 (λk hk=>by cases hk;omega)
 rcases Kh (ts:=ts) s1 [117,115,101] with hu | ⟨i1,rfl,hu⟩
 ·obtain ⟨s2,n,n2,g1,g2,g3⟩:=(IH s1 l1).block
  have l2:=Lt.rs (i:=i) g3 (λk hk=>aIn (l1.lt k hk))
  refine ⟨s2,.mk 23 0 [] (l++[n]),.mk 23 0 [] (m++[n2]),?_,?_,Rs.node aKL g3.ok l2.nd ?_ ?_⟩
  ·rw [a7]
   refine ca (oV bg) ?_
   refine (eg (ji bg)).trans ?_
   refine ca k4 ?_
   refine ca k5 ?_
   refine ca k2 ?_
   refine aG (ax H hs (w:=[110,117,108,108]) (aw hw aKL)) ?_
   refine aG (ax H hs (w:=[102,97,108,115,101]) (aw hw aKL)) ?_
   refine aG (ax H hs (w:=[116,114,117,101]) (aw hw aKL)) ?_
   refine aG (ax H hs (w:=[91]) (aw hw aKL)) ?_
   refine aG (ax H hs (w:=[40]) (aw hw aKL)) ?_
   refine aG (ax H hs (w:=[110,101,119]) (aw hw aKL)) ?_
   refine dH (c8 H hw) ?_
   refine aX h1 ?_
   refine aG (ax H h3.ok hu) ?_
   refine aX g1 ?_
   refine aX (jh _ aKK) ?_
   rfl
  ·rw [aH]
   refine (eg (b8 H _ hs)).trans ?_
   refine ca qg ?_
   refine aX (tm H hi) ?_
   refine ca (show ¬lF ts i=true by rw [yo hw aKL aKL aKL];exact aHI) ?_
   refine ca k2 ?_
   refine aG (au H hs (w:=[91]) (aw hw aKL)) ?_
   refine aG (au H hs (w:=[40]) (aw hw aKL)) ?_
   refine aG (au H hs (w:=[110,101,119]) (aw hw aKL)) ?_
   refine dH (bU H hw) ?_
   refine aX hpm ?_
   refine aG (au H h3.ok hu) ?_
   refine aX g2 ?_
   refine aX (jh _ aKK) ?_
   rfl
  ·have:=g3.le;omega
  ·intro i' rf
   obtain ⟨k,q1,q2,q3,q4,_⟩:=g3.good i' rf
   obtain ⟨k1,q5,q6,q7,q8⟩:=h3.good k q1
   cases q5
   rw [aIg] at q7
   subst q7;subst q3
   refine ⟨by omega,rfl,rfl,?_⟩
   rw [ki,df]
   simp only [At]
   omega
 ·have zp:=cw hu
  have nI:(JS.g (i1+1)).Ok ts:=zp
  have Sf:i+1<=i1:=adT
  have step1:av (qS ts e' (.g i1)) [117,115,101]=some (true,qS ts e' (.g (i1+1))):=bU H hu
  cases hb:(tw ts (i1+1) [40]&&tw ts (i1+1+1) [41]) with
  | true=>
   rw [As] at hb
   obtain ⟨l',g1,g2⟩:=aeh H hb.1 hb.2 l aKK
   have xc:=cw hb.2
   have K2:(JS.b (i1+1+1)).Ok ts:=aIn xc
   obtain ⟨n,g3⟩:=Qe H K2
   refine ⟨.b (i1+1+1),.mk 23 0 [] (l'++[n]),.mk 23 0 [] m,?_,?_,Rs.node aKL K2 rfl (by show i<=i1+1+1;omega) (λi' h=>by cases h)⟩
   ·rw [a7]
    refine ca (oV bg) ?_
    refine (eg (ji bg)).trans ?_
    refine ca k4 ?_
    refine ca k5 ?_
    refine ca k2 ?_
    refine aG (ax H hs (w:=[110,117,108,108]) (aw hw aKL)) ?_
    refine aG (ax H hs (w:=[102,97,108,115,101]) (aw hw aKL)) ?_
    refine aG (ax H hs (w:=[116,114,117,101]) (aw hw aKL)) ?_
    refine aG (ax H hs (w:=[91]) (aw hw aKL)) ?_
    refine aG (ax H hs (w:=[40]) (aw hw aKL)) ?_
    refine aG (ax H hs (w:=[110,101,119]) (aw hw aKL)) ?_
    refine dH (c8 H hw) ?_
    refine aX h1 ?_
    refine dH (c8 H hu) ?_
    refine aX g1 ?_
    refine aX g3 ?_
    refine aX (jh _ aKK) ?_
    rfl
   ·rw [aH]
    refine (eg (b8 H _ hs)).trans ?_
    refine ca qg ?_
    refine aX (tm H hi) ?_
    refine ca (show ¬lF ts i=true by rw [yo hw aKL aKL aKL];exact aHI) ?_
    refine ca k2 ?_
    refine aG (au H hs (w:=[91]) (aw hw aKL)) ?_
    refine aG (au H hs (w:=[40]) (aw hw aKL)) ?_
    refine aG (au H hs (w:=[110,101,119]) (aw hw aKL)) ?_
    refine dH (bU H hw) ?_
    refine aX hpm ?_
    refine dH step1 ?_
    refine (eg (a:=((qS ts e' (.g (i1+1))).ar,(qS ts e' (.g (i1+1))).bM,(qS ts e' (.g (i1+1))).az,(qS ts e' (.g (i1+1))).ay,true)) ?_).trans ?_
    ·refine dH ((eV (e':=e') H (.g (i1+1)) nI [40]).trans (by rw [show tw ts (JS.g (i1+1)).pos [40]=true from hb.1])) ?_
     refine aX ((adW (e':=e') H (.g (i1+1)) nI [41]).trans (by rw [show tw ts ((JS.g (i1+1)).pos+1) [41]=true from hb.2])) ?_
     rfl
    refine nH rfl ?_
    have:ai.mk (qS ts e' (.g (i1+1))).ar (bq ((qS ts e' (.g (i1+1))).bM+1)) (qS ts e' (.g (i1+1))).az true=qS ts e' (.b (i1+1+1)):=by
     show ai.mk ts (bq (((i1+1:Nat):Int)+1)) e' true=_
     rw [bQ aKK];rfl
    rw [this]
  | false=>
   have hnb:tw ts (i1+1) [40]=true->tw ts (i1+1+1) [41]=false:=λh=>by rw [h,aIO] at hb;exact hb
   obtain ⟨s3,l2,m2,g1,g2,g3⟩:=FF (e':=e') H 25 (.inr rfl) l aKK (.g (i1+1)) nI rfl (λ_ k hk=>by cases hk;exact hnb)
   have l3:Lt ts i s3:=Lt.r g3 (λk hk=>by cases hk;omega)
   obtain ⟨s4,n,n2,f1,f2,f3⟩:=(IH s3 l3).block
   have l4:=Lt.rs (i:=i) f3 (λk hk=>aIn (l3.lt k hk))
   have hp3:=okp g3.ok
   have aFv:i1+1<=s3.pos:=g3.le
   have aGD:=g3.len
   have aGE:=g3.lem
   refine ⟨s4,.mk 23 0 [] (l2++[n]),.mk 23 0 [] (m++m2++[n2]),?_,?_,Rs.node aKL f3.ok l4.nd ?_ ?_⟩
   ·rw [a7]
    refine ca (oV bg) ?_
    refine (eg (ji bg)).trans ?_
    refine ca k4 ?_
    refine ca k5 ?_
    refine ca k2 ?_
    refine aG (ax H hs (w:=[110,117,108,108]) (aw hw aKL)) ?_
    refine aG (ax H hs (w:=[102,97,108,115,101]) (aw hw aKL)) ?_
    refine aG (ax H hs (w:=[116,114,117,101]) (aw hw aKL)) ?_
    refine aG (ax H hs (w:=[91]) (aw hw aKL)) ?_
    refine aG (ax H hs (w:=[40]) (aw hw aKL)) ?_
    refine aG (ax H hs (w:=[110,101,119]) (aw hw aKL)) ?_
    refine dH (c8 H hw) ?_
    refine aX h1 ?_
    refine dH (c8 H hu) ?_
    refine aX g1 ?_
    refine aX f1 ?_
    refine aX (jh _ aKK) ?_
    rfl
   ·rw [aH]
    refine (eg (b8 H _ hs)).trans ?_
    refine ca qg ?_
    refine aX (tm H hi) ?_
    refine ca (show ¬lF ts i=true by rw [yo hw aKL aKL aKL];exact aHI) ?_
    refine ca k2 ?_
    refine aG (au H hs (w:=[91]) (aw hw aKL)) ?_
    refine aG (au H hs (w:=[40]) (aw hw aKL)) ?_
    refine aG (au H hs (w:=[110,101,119]) (aw hw aKL)) ?_
    refine dH (bU H hw) ?_
    refine aX hpm ?_
    refine dH step1 ?_
    refine (eg (a:=((qS ts e' (.g (i1+1))).ar,(qS ts e' (.g (i1+1))).bM,(qS ts e' (.g (i1+1))).az,(qS ts e' (.g (i1+1))).ay,false)) ?_).trans ?_
    ·cases Dz:tw ts (i1+1) [40] with
     | false=>
      refine aG ((eV (e':=e') H (.g (i1+1)) nI [40]).trans (by rw [show tw ts (JS.g (i1+1)).pos [40]=false from Dz])) ?_
      rfl
     | true=>
      refine dH ((eV (e':=e') H (.g (i1+1)) nI [40]).trans (by rw [show tw ts (JS.g (i1+1)).pos [40]=true from Dz])) ?_
      refine aX ((adW (e':=e') H (.g (i1+1)) nI [41]).trans (by rw [show tw ts ((JS.g (i1+1)).pos+1) [41]=false from hnb Dz])) ?_
      rfl
    refine ca aHI ?_
    refine aX g2 ?_
    refine aX (km (b:=56) (l:=m) (m:=m2) aKK) ?_
    refine aX f2 ?_
    refine aX (jh _ (by rw [aHK];omega)) ?_
    rfl
   ·have:=f3.le;omega
   ·intro i' rf
    obtain ⟨k,q1,q2,q3,q4,_⟩:=f3.good i' rf
    obtain ⟨k1,q5,q6,q7,q8⟩:=g3.good k q1
    cases q5
    obtain ⟨k2,q9,q10,q11,q12⟩:=h3.good i1 rfl
    cases q9
    rw [aIg] at q11
    subst q11;subst q3;subst q7
    refine ⟨by omega,rfl,rfl,?_⟩
    rw [ki,ki,df]
    simp only [At]
    omega
end
set_option maxRecDepth 10000
section
variable {ts:List af} {e e':Int}
theorem FG (H:Tk ts e) {i:Nat} (IH:∀s,Lt ts i s->PC ts e e' s) (s0:JS) (hs:s0.Ok ts) (hd:s0.nd=true) (hl:i<=s0.pos):
  ∃s' l m,dS (pS ts e (nS ts (wS ts s0 [58,58]) 3)) []=some (l,pS ts e s')/\cV (qS ts e' (nS ts (wS ts s0 [58,58]) 3))=some (m,qS ts e' s')/\s'.Ok ts/\s'.nd=true/\i<=s'.pos/\
   ∀i',s'=.g i'->∃i0,s0=.g i0/\i0+2<i'/\l=m/\(wl l:Int)+16384*(i0:Int)+32768<=16384*(i':Int):=by
 have h1:=lT hs [58,58]
 have p1:=iy (ts:=ts) s0 [58,58]
 have p2:=tn (ts:=ts) (wS ts s0 [58,58]) 3
 have hL:=Lt.n (ts:=ts) (c:=3) (i:=i) h1 aKK aKL
 obtain ⟨s',l,m,g1,g2,g3⟩:=(IH _ hL).args [] aKN
 refine ⟨s',l,m,g1,g2,g3.ok,g3.nd,by have:=g3.le;omega,λi' rf=>?_⟩
 obtain ⟨k,q1,q2,q3,q4⟩:=g3.good i' rf
 obtain ⟨k1,q5,q7,_⟩:=rl q1
 obtain ⟨k2,q6,q8,_⟩:=gv q5
 rw [aIg] at q3
 subst q3
 exact ⟨k2,q6,by omega,rfl,by omega⟩
theorem KQ (H:Tk ts e) {i:Nat} (hi:i<=ts.length) (IH:∀s,Lt ts i s->PC ts e e' s) (hw:tw ts i [115,116,97,116,105,99]=true):C1 ts e e' true 0 (.g i) a7 aH:=by
 have hs:(JS.g i).Ok ts:=hi
 have bg:=cw hw
 obtain ⟨k4,k5,k2,_⟩:=kX hw
 have fu:(JS.g (i+1)).Ok ts:=bg
 obtain ⟨s',l,m,g1,g2,g3,g4,g5,g6⟩:=FG H IH (.g (i+1)) fu rfl (aIK i)
 refine ⟨s',.mk 21 0 ([115,116,97,116,105,99]++[58,58]++nT ts (wS ts (.g (i+1)) [58,58]) 3) l,.mk 21 0 ([115,116,97,116,105,99]++[58,58]++nT ts (wS ts (.g (i+1)) [58,58]) 3) m,?_,?_,Rs.node aKL g3 g4 ?_ ?_⟩
 ·rw [a7]
  refine ca (oV bg) ?_
  refine (eg (ji bg)).trans ?_
  refine ca k4 ?_
  refine ca k5 ?_
  refine ca k2 ?_
  refine aG (ax H hs (w:=[110,117,108,108]) (aw hw aKL)) ?_
  refine aG (ax H hs (w:=[102,97,108,115,101]) (aw hw aKL)) ?_
  refine aG (ax H hs (w:=[116,114,117,101]) (aw hw aKL)) ?_
  refine aG (ax H hs (w:=[91]) (aw hw aKL)) ?_
  refine aG (ax H hs (w:=[40]) (aw hw aKL)) ?_
  refine aG (ax H hs (w:=[110,101,119]) (aw hw aKL)) ?_
  refine aG (ax H hs (w:=[102,117,110,99,116,105,111,110]) (aw hw aKL)) ?_
  refine (eg (a:=(Sum.inl ((pS ts e (.g (i+1))).fT,(pS ts e (.g (i+1))).fI,(pS ts e (.g (i+1))).az,(pS ts e (.g (i+1))).ay,([115,116,97,116,105,99]:aB)):((List af)×Int×Int×Int×aB) ⊕ (ae×aA))) ?_).trans ?_
  ·refine dH (c8 H hw) ?_
   rfl
  refine aX (er H _ fu [58,58]) ?_
  refine aX (qL (a:=([115,116,97,116,105,99]:aB)) (b:=[58,58]) aLj) ?_
  refine aX (vt H _ (lT fu _) 3) ?_
  refine aX (qL aLe) ?_
  refine aX g1 ?_
  rfl
 ·rw [aH]
  refine (eg (b8 H _ hs)).trans ?_
  refine ca qg ?_
  refine aX (tm H hi) ?_
  refine ca (show ¬lF ts i=true by rw [yo hw aKL aKL aKL];exact aHI) ?_
  refine ca k2 ?_
  refine aG (au H hs (w:=[91]) (aw hw aKL)) ?_
  refine aG (au H hs (w:=[40]) (aw hw aKL)) ?_
  refine aG (au H hs (w:=[110,101,119]) (aw hw aKL)) ?_
  refine aG (au H hs (w:=[102,117,110,99,116,105,111,110]) (aw hw aKL)) ?_
  refine (eg (a:=(([115,116,97,116,105,99]:aB),qS ts e' (.g (i+1)))) ?_).trans ?_
  ·unfold cy
   refine dH (bU H hw) ?_
   rfl
  refine (eg (a:=(Sum.inl ((qS ts e' (.g (i+1))).ar,(qS ts e' (.g (i+1))).bM,(qS ts e' (.g (i+1))).az,(qS ts e' (.g (i+1))).ay):((List af)×Int×Int×Bool) ⊕ (ae×ai))) ?_).trans ?_
  ·refine nH rfl ?_
   rfl
  refine aX (fL H _ fu [58,58]) ?_
  refine aX (qL (a:=([115,116,97,116,105,99]:aB)) (b:=[58,58]) aLj) ?_
  refine aX (tQ H _ (lT fu _) (pB _ _) 3 (.inr rfl)) ?_
  refine aX (qL aLe) ?_
  refine aX g2 ?_
  rfl
 ·exact g5
 ·intro i' rf
  obtain ⟨i0,q1,q2,q3,q4⟩:=g6 i' rf
  cases q1
  refine ⟨by omega,rfl,q3,?_⟩
  have:=(show ([115,116,97,116,105,99]:aB).length<=4000 by decide)
  have:=mh H (wS ts (.g (i+1)) [58,58]) 3
  simp only [aHK,an,At]
  omega
theorem R5 (H:Tk ts e) {i:Nat} (hi:i<=ts.length) (IH:∀s,Lt ts i s->PC ts e e' s) (k4:¬kd ts i=4) (k5:¬kd ts i=5) (k2:¬kd ts i=2) (f1:tw ts i [110,117,108,108]=false) (f2:tw ts i [102,97,108,115,101]=false) (f3:tw ts i [116,114,117,101]=false) (f4:tw ts i [91]=false) (f5:tw ts i [40]=false) (f6:tw ts i [110,101,119]=false) (f7:tw ts i [102,117,110,99,116,105,111,110]=false) (f8:tw ts i [115,116,97,116,105,99]=false):C1 ts e e' true 0 (.g i) a7 aH:=by
 have hs:(JS.g i).Ok ts:=hi
 have Ki:lF ts i=false:=by unfold lF;rw [beq_eq_false_iff_ne.2 k4,beq_eq_false_iff_ne.2 k5,f1,f2,f3];rfl
 cases hn:wa ts 3 i with
 | true=>
  have bg:=N5 aKL hn
  have fu:(JS.g (i+1)).Ok ts:=bg
  have hx:=vu H i
  have hns:¬tx ts i=([115,116,97,116,105,99]:aB):=λhh=>by
   unfold wa at hn
   rw [As,beq_iff_eq] at hn
   unfold tw at f8
   rw [hn.1,hh] at f8
   exact absurd f8 aKL
  have hcn:cy (qS ts e' (.g i))=some (tx ts i,qS ts e' (.g (i+1))):=by
   unfold cy
   refine aG (au H hs f8) ?_
   refine aX ((tQ H (.g i) hs rfl 3 (.inr rfl)).trans (by rw [NB hn,NA hn])) ?_
   rfl
  have hsn:dw (pS ts e (.g i)) 3=some (tx ts i,pS ts e (.g (i+1))):=by rw [vt H (.g i) hs 3,NB hn,NA hn]
  cases hp:tw ts (i+1) [40] with
  | true=>
   obtain ⟨s',l,m,g1,g2,g3⟩:=(IH (.g (i+1)) (Lt.g (aHP i) bg)).args [] aKN
   refine ⟨s',.mk 18 0 (tx ts i) l,.mk 18 0 (tx ts i) m,?_,?_,Rs.node aKL g3.ok g3.nd ?_ ?_⟩
   ·rw [a7]
    refine ca (oV bg) ?_
    refine (eg (ji bg)).trans ?_
    refine ca k4 ?_
    refine ca k5 ?_
    refine ca k2 ?_
    refine aG (ax H hs (w:=[110,117,108,108]) f1) ?_
    refine aG (ax H hs (w:=[102,97,108,115,101]) f2) ?_
    refine aG (ax H hs (w:=[116,114,117,101]) f3) ?_
    refine aG (ax H hs (w:=[91]) f4) ?_
    refine aG (ax H hs (w:=[40]) f5) ?_
    refine aG (ax H hs (w:=[110,101,119]) f6) ?_
    refine aG (ax H hs (w:=[102,117,110,99,116,105,111,110]) f7) ?_
    refine (eg (a:=(Sum.inr (ae.mk 18 0 (tx ts i) l,pS ts e s'):((List af)×Int×Int×Int×aB) ⊕ (ae×aA))) ?_).trans ?_
    ·refine aG (ax H hs f8) ?_
     refine aX hsn ?_
     refine dH ((eJ H _ fu 6 [40] aKL).trans (by rw [show aS ts (.g (i+1)) 0 6 [40]=true from (aM H aKL aKL).trans hp])) ?_
     refine aX g1 ?_
     rfl
    rfl
   ·rw [aH]
    refine (eg (b8 H _ hs)).trans ?_
    refine ca qg ?_
    refine aX (tm H hi) ?_
    refine ca (show ¬lF ts i=true by rw [Ki];exact aHI) ?_
    refine ca k2 ?_
    refine aG (au H hs (w:=[91]) f4) ?_
    refine aG (au H hs (w:=[40]) f5) ?_
    refine aG (au H hs (w:=[110,101,119]) f6) ?_
    refine aG (au H hs (w:=[102,117,110,99,116,105,111,110]) f7) ?_
    refine aX hcn ?_
    refine (eg (a:=(Sum.inr (ae.mk 18 0 (tx ts i) m,qS ts e' s'):((List af)×Int×Int×Bool) ⊕ (ae×ai))) ?_).trans ?_
    ·refine ca hns ?_
     refine dH ((eV (e':=e') H (.g (i+1)) fu [40]).trans (by rw [show tw ts (JS.g (i+1)).pos [40]=true from hp])) ?_
     refine aX g2 ?_
     rfl
    rfl
   ·have:=g3.le
    have:i+1<=s'.pos:=this
    omega
   ·intro i' rf
    obtain ⟨k,q1,q2,q3,q4⟩:=g3.good i' rf
    cases q1
    rw [aIg] at q3
    subst q3
    exact ⟨by omega,rfl,rfl,by omega⟩
  | false=>
   obtain ⟨s',l,m,g1,g2,g3,g4,g5,g6⟩:=FG H IH (.g (i+1)) fu rfl (aIK i)
   refine ⟨s',.mk 21 0 (tx ts i++[58,58]++nT ts (wS ts (.g (i+1)) [58,58]) 3) l,.mk 21 0 (tx ts i++[58,58]++nT ts (wS ts (.g (i+1)) [58,58]) 3) m,?_,?_,Rs.node aKL g3 g4 ?_ ?_⟩
   ·rw [a7]
    refine ca (oV bg) ?_
    refine (eg (ji bg)).trans ?_
    refine ca k4 ?_
    refine ca k5 ?_
    refine ca k2 ?_
    refine aG (ax H hs (w:=[110,117,108,108]) f1) ?_
    refine aG (ax H hs (w:=[102,97,108,115,101]) f2) ?_
    refine aG (ax H hs (w:=[116,114,117,101]) f3) ?_
    refine aG (ax H hs (w:=[91]) f4) ?_
    refine aG (ax H hs (w:=[40]) f5) ?_
    refine aG (ax H hs (w:=[110,101,119]) f6) ?_
    refine aG (ax H hs (w:=[102,117,110,99,116,105,111,110]) f7) ?_
    refine (eg (a:=(Sum.inl ((pS ts e (.g (i+1))).fT,(pS ts e (.g (i+1))).fI,(pS ts e (.g (i+1))).az,(pS ts e (.g (i+1))).ay,(tx ts i)):((List af)×Int×Int×Int×aB) ⊕ (ae×aA))) ?_).trans ?_
    ·refine aG (ax H hs f8) ?_
     refine aX hsn ?_
     refine aG ((eJ H _ fu 6 [40] aKL).trans (by rw [show aS ts (.g (i+1)) 0 6 [40]=false from (aM H aKL aKL).trans hp])) ?_
     rfl
    refine aX (er H _ fu [58,58]) ?_
    refine aX (qL (a:=(tx ts i)) (b:=[58,58]) (by have:=hx;simp only [an,At];omega)) ?_
    refine aX (vt H _ (lT fu _) 3) ?_
    refine aX (qL aLm) ?_
    refine aX g1 ?_
    rfl
   ·rw [aH]
    refine (eg (b8 H _ hs)).trans ?_
    refine ca qg ?_
    refine aX (tm H hi) ?_
    refine ca (show ¬lF ts i=true by rw [Ki];exact aHI) ?_
    refine ca k2 ?_
    refine aG (au H hs (w:=[91]) f4) ?_
    refine aG (au H hs (w:=[40]) f5) ?_
    refine aG (au H hs (w:=[110,101,119]) f6) ?_
    refine aG (au H hs (w:=[102,117,110,99,116,105,111,110]) f7) ?_
    refine (eg (a:=((tx ts i),qS ts e' (.g (i+1)))) ?_).trans ?_
    ·exact hcn
    refine (eg (a:=(Sum.inl ((qS ts e' (.g (i+1))).ar,(qS ts e' (.g (i+1))).bM,(qS ts e' (.g (i+1))).az,(qS ts e' (.g (i+1))).ay):((List af)×Int×Int×Bool) ⊕ (ae×ai))) ?_).trans ?_
    ·refine ca hns ?_
     refine aG ((eV (e':=e') H (.g (i+1)) fu [40]).trans (by rw [show tw ts (JS.g (i+1)).pos [40]=false from hp])) ?_
     rfl
    refine aX (fL H _ fu [58,58]) ?_
    refine aX (qL (a:=(tx ts i)) (b:=[58,58]) (by have:=hx;simp only [an,At];omega)) ?_
    refine aX (tQ H _ (lT fu _) (pB _ _) 3 (.inr rfl)) ?_
    refine aX (qL aLm) ?_
    refine aX g2 ?_
    rfl
   ·exact g5
   ·intro i' rf
    obtain ⟨i0,q1,q2,q3,q4⟩:=g6 i' rf
    cases q1
    refine ⟨by omega,rfl,q3,?_⟩
    have:=hx
    have:=mh H (wS ts (.g (i+1)) [58,58]) 3
    simp only [aHK,an,At]
    omega
 | false=>
  have fu:(JS.b i).Ok ts:=hi
  refine ⟨.b i,if i<ts.length then .mk 21 0 ([]++[58,58]++[]) [] else .mk 0 0 [] [],.mk 21 0 ([]++[58,58]++[]) [],?_,?_,⟨hi,No i,λi' h=>aLh,λi' h=>aLh⟩⟩
  ·by_cases bg:i<ts.length
   ·rw [if_pos bg]
    rw [a7]
    refine ca (oV bg) ?_
    refine (eg (ji bg)).trans ?_
    refine ca k4 ?_
    refine ca k5 ?_
    refine ca k2 ?_
    refine aG (ax H hs (w:=[110,117,108,108]) f1) ?_
    refine aG (ax H hs (w:=[102,97,108,115,101]) f2) ?_
    refine aG (ax H hs (w:=[116,114,117,101]) f3) ?_
    refine aG (ax H hs (w:=[91]) f4) ?_
    refine aG (ax H hs (w:=[40]) f5) ?_
    refine aG (ax H hs (w:=[110,101,119]) f6) ?_
    refine aG (ax H hs (w:=[102,117,110,99,116,105,111,110]) f7) ?_
    refine (eg (a:=(Sum.inl ((pS ts e (.b i)).fT,(pS ts e (.b i)).fI,(pS ts e (.b i)).az,(pS ts e (.b i)).ay,[]):((List af)×Int×Int×Int×aB) ⊕ (ae×aA))) ?_).trans ?_
    ·refine aG (ax H hs f8) ?_
     refine aX (N6 H hi hn) ?_
     refine aG (eJ H _ fu 6 [40] aKL) ?_
     rfl
    refine aX (er H _ fu [58,58]) ?_
    refine aX (qL (a:=[]) (b:=[58,58]) aKL) ?_
    refine aX (vt H _ fu 3) ?_
    refine aX (qL (a:=[]++[58,58]) (b:=[]) aKL) ?_
    refine aX (aaJ H fu []) ?_
    rfl
   ·rw [if_neg bg,a7]
    refine nH (show (pS ts e (.g i)).fI>=((pS ts e (.g i)).fT.length:Int) from by show (i:Int)>=(ts.length:Int);omega) ?_
    refine aX (sf H _ hs) ?_
    rfl
  ·rw [aH]
   refine (eg (b8 H _ hs)).trans ?_
   refine ca qg ?_
   refine aX (tm H hi) ?_
   refine ca (show ¬lF ts i=true by rw [Ki];exact aHI) ?_
   refine ca k2 ?_
   refine aG (au H hs (w:=[91]) f4) ?_
   refine aG (au H hs (w:=[40]) f5) ?_
   refine aG (au H hs (w:=[110,101,119]) f6) ?_
   refine aG (au H hs (w:=[102,117,110,99,116,105,111,110]) f7) ?_
   refine (eg (a:=(([]:aB),qS ts e' (.b i))) ?_).trans ?_
   ·unfold cy
    refine aG (au H hs f8) ?_
    refine aX (Nq H hi hn (.inr rfl)) ?_
    rfl
   refine (eg (a:=(Sum.inl ((qS ts e' (.b i)).ar,(qS ts e' (.b i)).bM,(qS ts e' (.b i)).az,(qS ts e' (.b i)).ay):((List af)×Int×Int×Bool) ⊕ (ae×ai))) ?_).trans ?_
   ·refine ca (show ¬([]:aB)=[115,116,97,116,105,99] by decide) ?_
    refine aG ((eV (e':=e') H (.b i) fu [40]).trans (by rw [show tw ts (JS.b i).pos [40]=false from f5])) ?_
    rfl
   refine aX (fL H _ fu [58,58]) ?_
   refine aX (qL (a:=[]) (b:=[58,58]) aKL) ?_
   refine aX (tQ H _ fu rfl 3 (.inr rfl)) ?_
   refine aX (qL (a:=[]++[58,58]) (b:=[]) aKL) ?_
   refine aX (G4 H fu) ?_
   rfl
theorem PW (H:Tk ts e) {i:Nat} (hi:i<=ts.length) (IH:∀s,Lt ts i s->PC ts e e' s):C1 ts e e' true 0 (.g i) a7 aH:=by
 have hs:(JS.g i).Ok ts:=hi
 have lf:∀{k m:Int} {t:aB},kd ts i≠0->t.length<=4000->k≠7->(k==4)=(kd ts i==2)->Rs ts true 0 (.g i) (.g (i+1)) (.mk k m t []) (.mk k m t []):=λh0 ht hk hv=>Rs.leaf hk (tP h0) ht hv
 by_cases k4:kd ts i=4
 ·have bg:i<ts.length:=tP aKK
  refine ⟨.g (i+1),.mk 1 (tok ts i).aP [] [],.mk 1 (tok ts i).aP [] [],?_,?_,lf aKK aKN aKL (by rw [k4];rfl)⟩
  ·rw [a7]
   refine ca (oV bg) ?_
   refine (eg (ji bg)).trans ?_
   refine nH k4 ?_
   rw [tO H hi]
  ·rw [aH]
   refine (eg (b8 H _ hs)).trans ?_
   refine ca qg ?_
   refine aX (tm H hi) ?_
   refine nH (show lF ts i=true by unfold lF;rw [k4];rfl) ?_
   refine (eg (a:=(ae.mk 1 (tok ts i).aP [] [],qS ts e' (.g (i+1)))) ?_).trans rfl
   unfold eo
   rw [dO]
   refine (eg (b8 H _ hs)).trans ?_
   refine nH k4 ?_
   rw [se H hi]
   rfl
 by_cases k5:kd ts i=5
 ·have bg:i<ts.length:=tP aKK
  refine ⟨.g (i+1),.mk 2 0 (tx ts i) [],.mk 2 0 (tx ts i) [],?_,?_,lf aKK (vu H i) aKL (by rw [k5];rfl)⟩
  ·rw [a7]
   refine ca (oV bg) ?_
   refine (eg (ji bg)).trans ?_
   refine ca k4 ?_
   refine nH k5 ?_
   rw [tO H hi]
   rfl
  ·rw [aH]
   refine (eg (b8 H _ hs)).trans ?_
   refine ca qg ?_
   refine aX (tm H hi) ?_
   refine nH (show lF ts i=true by unfold lF;rw [k5];rfl) ?_
   refine (eg (a:=(ae.mk 2 0 (tx ts i) [],qS ts e' (.g (i+1)))) ?_).trans rfl
   unfold eo
   rw [dO]
   refine (eg (b8 H _ hs)).trans ?_
   refine ca k4 ?_
   refine nH k5 ?_
   rw [se H hi]
   rfl
 by_cases k2:kd ts i=2
 ·have bg:i<ts.length:=tP aKK
  have xB:∀w,tw ts i w=false:=Kp aKK aKK
  refine ⟨nS ts (.g i) 2,.mk 4 0 (nT ts (.g i) 2) [],.mk 4 0 (nT ts (.g i) 2) [],?_,?_,?_⟩
  ·rw [a7]
   refine ca (oV bg) ?_
   refine (eg (ji bg)).trans ?_
   refine ca k4 ?_
   refine ca k5 ?_
   refine nH k2 ?_
   refine aX (Nr H _ hs) ?_
   rfl
  ·rw [aH]
   refine (eg (b8 H _ hs)).trans ?_
   refine ca qg ?_
   refine aX (tm H hi) ?_
   refine ca (show ¬lF ts i=true by unfold lF;rw [k2,xB,xB,xB];decide) ?_
   refine nH k2 ?_
   rw [dO]
   refine aX (Ns H _ hs rfl) ?_
   rfl
  ·cases hn:wa ts 2 i with
   | true=>rw [NA hn,NB hn];exact lf aKK (vu H i) aKL (by rw [k2];rfl)
   | false=>rw [ZS hn];exact ⟨hi,No i,λi' h=>aLh,λi' h=>aLh⟩
 cases f1:tw ts i [110,117,108,108] with
 | true=>exact R2 H hi IH f1
 | false=>
 cases f2:tw ts i [102,97,108,115,101] with
 | true=>exact N7 H hi IH f2
 | false=>
 cases f3:tw ts i [116,114,117,101] with
 | true=>exact R3 H hi IH f3
 | false=>
 cases f4:tw ts i [91] with
 | true=>exact R4 H hi IH f4
 | false=>
 cases f5:tw ts i [40] with
 | true=>exact aaK H hi IH f5
 | false=>
 cases f6:tw ts i [110,101,119] with
 | true=>exact aaL H hi IH f6
 | false=>
 cases f7:tw ts i [102,117,110,99,116,105,111,110] with
 | true=>exact aaM H hi IH f7
 | false=>
 cases f8:tw ts i [115,116,97,116,105,99] with
 | true=>exact KQ H hi IH f8
 | false=>
 exact R5 H hi IH k4 k5 k2 f1 f2 f3 f4 f5 f6 f7 f8
end
set_option maxRecDepth 10000
def S9 (x:Option (((List af)×Int×Int×Int×(List ae)×Int×Int×aB×(List ae)) ⊕ (ae×aA))) (n:ae) (p:aA):Prop:=x=some (.inr (n,p))\/x=some (.inl (p.fT,p.fI,p.az,p.ay,[],n.aj,n.aP,n.aq,n.ah))
def I9 (x:Option (((List af)×Int×Int×Bool×(List ae)×Int×Int×aB×(List ae)) ⊕ (ae×ai))) (n:ae) (p:ai):Prop:=x=some (.inr (n,p))\/x=some (.inl (p.ar,p.bM,p.az,p.ay,[],n.aj,n.aP,n.aq,n.ah))
theorem S9.run {x:Option (((List af)×Int×Int×Int×(List ae)×Int×Int×aB×(List ae)) ⊕ (ae×aA))} {n:ae} {p:aA} (h:S9 x n p):(x>>=λo=>match o with
  | .inr r=>some r
  | .inl (BW,BX,BY,BZ,D2,B1,B2,B3,xY)=>some ((ae.mk B1 B2 B3 xY),(aA.mk BW BX BY BZ)))=some (n,p):=by
 cases n
 rcases h with h | h<;>rw [h]<;>rfl
theorem I9.run {x:Option (((List af)×Int×Int×Bool×(List ae)×Int×Int×aB×(List ae)) ⊕ (ae×ai))} {n:ae} {p:ai} (h:I9 x n p):(x>>=λo=>match o with
  | .inr r=>some r
  | .inl (BW,BX,BY,BZ,D2,B1,B2,B3,xY)=>some ((ae.mk B1 B2 B3 xY),(ai.mk BW BX BY BZ)))=some (n,p):=by
 cases n
 rcases h with h | h<;>rw [h]<;>rfl
section
variable {ts:List af} {e e':Int}
theorem ZR (H:Tk ts e) {i:Nat} (h:i<=ts.length):ai.mk (qS ts e' (.g i)).ar (bq ((qS ts e' (.g i)).bM+2)) (qS ts e' (.g i)).az (qS ts e' (.g i)).ay=qS ts e' (.g (i+2)):=by
 have:=H.len
 show ai.mk ts (bq ((i:Int)+2)) e' false=⟨ts,((i+2:Nat):Int),e',false⟩
 rw [wW aKK aKK];rfl
def vC (ts:List af) (i:Nat) (n:ae) (u:Bool):Bool:=tw ts i [91]&&(tw ts (i+1) [93]&&(xz n&&u))
theorem Dw (H:Tk ts e) {i:Nat} (hi:i<=ts.length) (u:Bool) (k m:Int) (t:aB) (l:List ae):((
 aW (qS ts e' (.g i)) 0 [91]>>=λ(QK,ue)=>
 (if QK=true then
 aW ue 1 [93]>>=λ(QL,jN)=>
 (if QL=true then
 eX (ae.mk k m t l)>>=λQM=>
 (if QM=true then
 some (jN.ar,jN.bM,jN.az,jN.ay,(!(!u)))
 else
 some (jN.ar,jN.bM,jN.az,jN.ay,false))
 else
 some (jN.ar,jN.bM,jN.az,jN.ay,false))
 else
 some (ue.ar,ue.bM,ue.az,ue.ay,false))
 :Option ((List af)×Int×Int×Bool×Bool))=some ((qS ts e' (.g i)).ar,(qS ts e' (.g i)).bM,(qS ts e' (.g i)).az,(qS ts e' (.g i)).ay,vC ts i (.mk k m t l) u)):=by
 have hs:(JS.g i).Ok ts:=hi
 have is0:∀w,aW (qS ts e' (.g i)) 0 w=some (tw ts i w,qS ts e' (.g i)):=λw=>eV (e':=e') H _ hs w
 have is1:∀w,aW (qS ts e' (.g i)) 1 w=some (tw ts (i+1) w,qS ts e' (.g i)):=λw=>adW (e':=e') H _ hs w
 unfold vC
 cases h1:tw ts i [91] with
 | false=>refine aG ((is0 _).trans aLw) ?_;rfl
 | true=>
  refine dH ((is0 _).trans aLw) ?_
  cases h2:tw ts (i+1) [93] with
  | false=>refine aG ((is1 _).trans (by rw [h2])) ?_;rfl
  | true=>
   refine dH ((is1 _).trans (by rw [h2])) ?_
   cases h3:xz (.mk k m t l) with
   | false=>refine aG ((oX _).trans (by rw [h3])) ?_;rfl
   | true=>refine dH ((oX _).trans (by rw [h3])) ?_;rw [Bool.not_not];rfl
structure Inv (ts:List af) (i0 i:Nat) (n:ae):Prop where
 lt:i0<i
 wt:(wt n:Int)+8192+16384*(i0:Int)<=16384*(i:Int)
 tg:xz n=uu n
 va:i=i0+1->(n.aj==4)=(kd ts i0==2)
theorem Rs.inv {D i0 i:Nat} {n m:ae} (h:Rs ts true D (.g i0) (.g i) n m):n=m/\Inv ts i0 i n:=by
 obtain ⟨k,h1,h2,h3,h4,h5,h6⟩:=h.good i rfl
 cases h1
 exact ⟨h3,h2,h4,h5,h6 rfl⟩
theorem Inv.rs {i0 i D:Nat} {n:ae} (h:Inv ts i0 i n) (hi:i<=ts.length):Rs ts true D (.g i0) (.g i) n n:=
 ⟨hi,aIn h.lt,λi' h'=>by cases h';exact ⟨i0,rfl,h.lt,rfl,h.wt,h.tg,λ_=>h.va⟩,λj hj=>by cases hj⟩
theorem Rs.b {v:Bool} {D i0 j:Nat} {n m:ae} (hj:j<=ts.length) (h:i0<=j):Rs ts v D (.g i0) (.b j) n m:=⟨hj,h,λi h=>aLh,λi h=>aLh⟩
theorem qm (H:Tk ts e) {i0:Nat} (IH:∀s,Lt ts i0 s->PC ts e e' s) (u:Bool):∀(N:Nat) (s:JS) (n m:ae),s.Ok ts->s.nd=true->i0<=s.pos->(∀i,s=.g i->ts.length - i<N/\n=m/\Inv ts i0 i n)->
  ∃s' n' m',S9 (aZ u (pS ts e s).fT (pS ts e s).fI (pS ts e s).az (pS ts e s).ay [] n.aj n.aP n.aq n.ah) n' (pS ts e s')/\
   I9 (aF (!u) (qS ts e' s).ar (qS ts e' s).bM (qS ts e' s).az (qS ts e' s).ay [] m.aj m.aP m.aq m.ah) m' (qS ts e' s')/\Rs ts true 1 (.g i0) s' n' m'
 | N,.d j,n,m,_,hd,_,_=>by cases hd
 | N,.b j,n,m,hs,_,hp,_=>by
  refine ⟨.b j,n,m,.inr ?_,.inr ?_,Rs.b hs hp⟩
  ·rw [aZ];simp only [rm H,if_false]
  ·rw [aF];simp only [jC,if_true]
 | 0,.g i,n,m,_,_,_,h=>by have:=(h i rfl).1;omega
 | N+1,.g i,n,m,hs,_,hp,hinv=>by
  obtain ⟨hN,rfl,inv⟩:=hinv i rfl
  have hi:i<=ts.length:=hs
  have hL:=H.len
  have adQ:=inv.lt
  obtain ⟨k,a,t,l⟩:=n
  have mk:∀(i2:Nat) (k' a':Int) (t':aB) (l':List ae),i0+1<i2->xz (.mk k' a' t' l')=uu (.mk k' a' t' l')->(t'.length:Int)+(wl l':Int)+8192+16384*(i0:Int)<=16384*(i2:Int)->Inv ts i0 i2 (.mk k' a' t' l'):=λi2 k' a' t' l' h1 h2 h3=>⟨by omega,by rw [lR];omega,h2,λhh=>by omega⟩
  have hwt:=inv.wt
  cases hb:tw ts i [91] with
  | true=>
   have bg:=cw hb
   have fu:(JS.g (i+1)).Ok ts:=bg
   cases hq:vC ts i (.mk k a t l) u with
   | true=>
    unfold vC at hq
    simp only [As] at hq
    obtain ⟨_,h93,EC,hu⟩:=hq
    have hq:vC ts i (.mk k a t l) u=true:=by unfold vC;rw [hb,h93,EC,hu];rfl
    have zp:=cw h93
    have nI:(JS.g (i+1+1)).Ok ts:=zp
    have l2:=Lt.w (i:=i0) nI (show i0<=i+1+1 by omega) [61]
    obtain ⟨s',x,y,g1,g2,g3⟩:=(IH _ l2).expr
    have hle:i0<=s'.pos:=by have:=g3.le;have q:=@iy ts (.g (i+1+1)) [61];have q:i+1+1<=(wS ts (.g (i+1+1)) [61]).pos:=q;omega
    refine ⟨s',.mk 16 0 [] [.mk k a t l,x],.mk 16 0 [] [.mk k a t l,y],.inl ?_,.inl ?_,⟨g3.ok,hle,λi' h=>?_,λj hj=>?_⟩⟩
    ·rw [aZ]
     simp only [mj,if_true]
     refine dH (c8 H hb) ?_
     refine nH hu ?_
     refine dH ((oW _).trans (congrArg some (show uu (.mk k a t l)=true by rw [<-inv.tg];exact EC))) ?_
     refine dH (c8 H h93) ?_
     refine aX (er H _ nI [61]) ?_
     refine aX g1 ?_
     rfl
    ·rw [aF]
     simp only [kj,if_false]
     refine aX (Dw H hi u k a t l) ?_
     refine nH hq ?_
     rw [ZR H hi]
     refine aX (fL H (.g (i+2)) nI [61] (.inr rfl)) ?_
     refine aX g2 ?_
     rfl
    ·obtain ⟨k1,q1,q2,q3,q4,q5,_⟩:=g3.good i' h
     obtain ⟨k2,q6,q7,_⟩:=gv q1
     cases q6
     subst q3
     refine ⟨i0,rfl,by omega,rfl,?_,qh aKL,λ_ hh=>by omega⟩
     rw [lR,ja,df]
     simp only [At]
     omega
    ·obtain ⟨⟨k1,q1⟩,q2,q3,q4⟩:=g3.dm j hj
     obtain ⟨k2,q6,q7,_⟩:=gv q1
     cases q6
     rw [q1] at q2
     have q2:k1<j:=q2
     exact ⟨⟨i0,rfl⟩,by show i0<j;omega,No _,λ_=>CR aKL aKL aKL⟩
   | false=>
    obtain ⟨s1,x,y,g1,g2,g3⟩:=(IH _ (Lt.g (show i0<i+1 by omega) bg)).expr
    have nI:=lT g3.ok [93]
    have hle:i0<=(wS ts s1 [93]).pos:=by have:=g3.le;have q:=@iy ts s1 [93];have:i+1<=s1.pos:=this;omega
    obtain ⟨s',n',m',f1,f2,f3⟩:=qm H IH u N (wS ts s1 [93]) (.mk 7 0 [] [.mk k a t l,x]) (.mk 7 0 [] [.mk k a t l,y]) nI (pB _ _) hle (λi2 h2=>by
     obtain ⟨i1,q1,q2,q3⟩:=gv h2
     obtain ⟨k1,q4,q5,q6,q7,q8,_⟩:=g3.good i1 q1
     cases q4
     subst q6
     have:=cw q3
     refine ⟨by omega,rfl,mk _ _ _ _ _ aKK (by rw [alR,alS];exact inv.tg) ?_⟩
     rw [ja,df]
     simp only [At]
     omega)
    refine ⟨s',n',m',?_,?_,f3⟩
    ·have key:aZ u (pS ts e (.g i)).fT (pS ts e (.g i)).fI (pS ts e (.g i)).az (pS ts e (.g i)).ay [] k a t l=
       aZ u (pS ts e (wS ts s1 [93])).fT (pS ts e (wS ts s1 [93])).fI (pS ts e (wS ts s1 [93])).az (pS ts e (wS ts s1 [93])).ay [] 7 0 [] [.mk k a t l,x]:=by
      rw [aZ]
      simp only [mj,if_true]
      refine dH (c8 H hb) ?_
      cases u with
      | false=>
       refine ca aHI ?_
       refine aX g1 ?_
       refine aX (er H _ g3.ok [93]) ?_
       rfl
      | true=>
       refine nH rfl ?_
       cases EC:uu (.mk k a t l) with
       | false=>
        refine aG ((oW _).trans (congrArg some EC)) ?_
        refine aX g1 ?_
        refine aX (er H _ g3.ok [93]) ?_
        rfl
       | true=>
        refine dH ((oW _).trans (congrArg some EC)) ?_
        have h93:tw ts (i+1) [93]=false:=by
         unfold vC at hq
         rw [hb,inv.tg,EC,aIO,aIj,aIj] at hq
         exact hq
        refine aG (ax (w:=[93]) H fu h93) ?_
        refine aX g1 ?_
        refine aX (er H _ g3.ok [93]) ?_
        rfl
     rw [show aZ u (pS ts e (.g i)).fT (pS ts e (.g i)).fI (pS ts e (.g i)).az (pS ts e (.g i)).ay [] (ae.mk k a t l).aj (ae.mk k a t l).aP (ae.mk k a t l).aq (ae.mk k a t l).ah=_ from key]
     exact f1
    ·have key:aF (!u) (qS ts e' (.g i)).ar (qS ts e' (.g i)).bM (qS ts e' (.g i)).az (qS ts e' (.g i)).ay [] k a t l=
       aF (!u) (qS ts e' (wS ts s1 [93])).ar (qS ts e' (wS ts s1 [93])).bM (qS ts e' (wS ts s1 [93])).az (qS ts e' (wS ts s1 [93])).ay [] 7 0 [] [.mk k a t l,y]:=by
      rw [aF]
      simp only [kj,if_false]
      refine aX (Dw H hi u k a t l) ?_
      refine ca (show ¬vC ts i (.mk k a t l) u=true by rw [hq];exact aHI) ?_
      rw [dO]
      refine dH (bU H hb) ?_
      refine aX g2 ?_
      refine aX (fL H _ g3.ok [93]) ?_
      rfl
     rw [show aF (!u) (qS ts e' (.g i)).ar (qS ts e' (.g i)).bM (qS ts e' (.g i)).az (qS ts e' (.g i)).ay [] (ae.mk k a t l).aj (ae.mk k a t l).aP (ae.mk k a t l).aq (ae.mk k a t l).ah=_ from key]
     exact f2
  | false=>
   have hq:vC ts i (.mk k a t l) u=false:=by unfold vC;rw [hb];rfl
   have hqn:¬vC ts i (.mk k a t l) u=true:=by rw [hq];exact aHI
   cases hc:tw ts i [45,62] with
   | true=>
    have bg:=cw hc
    have fu:(JS.g (i+1)).Ok ts:=bg
    have hx:=mh H (.g (i+1)) 3
    cases hn:wa ts 3 (i+1) with
    | false=>
     have lA:(JS.b (i+1)).Ok ts:=bg
     refine ⟨.b (i+1),.mk 8 0 [] [.mk k a t l],if tw ts (i+1) [40]=true then .mk 20 0 [] [.mk k a t l] else .mk 8 0 [] [.mk k a t l],.inr ?_,.inr ?_,Rs.b bg aKK⟩
     ·rw [aZ]
      simp only [mj,if_true]
      refine aG (ax (w:=[91]) H hs hb) ?_
      refine dH (c8 H hc) ?_
      refine aX (N6 H fu hn) ?_
      refine aG (eJ H _ lA 6 [40] aKL) ?_
      rw [aZ]
      simp only [rm H,if_false]
      rfl
     ·rw [aF]
      simp only [kj,if_false]
      refine aX (Dw H hi u k a t l) ?_
      refine ca hqn ?_
      rw [dO]
      refine aG (au (w:=[91]) H hs hb) ?_
      refine dH (bU H hc) ?_
      refine aX (Nq H fu hn (.inr rfl)) ?_
      cases Dz:tw ts (i+1) [40] with
      | true=>
       refine dH ((eV (e':=e') H (.b (i+1)) lA [40]).trans (by rw [show tw ts (JS.b (i+1)).pos [40]=true from Dz])) ?_
       refine aX (G4 H lA) ?_
       refine aX (km (b:=56) (l:=[ae.mk k a t l]) (m:=[]) aKN) ?_
       rw [aF]
       simp only [jC,if_true]
       rfl
      | false=>
       refine aG ((eV (e':=e') H (.b (i+1)) lA [40]).trans (by rw [show tw ts (JS.b (i+1)).pos [40]=false from Dz])) ?_
       rw [aF]
       simp only [jC,if_true,amb,if_false]
       rfl
    | true=>
     have zp:=N5 aKL hn
     have nI:(JS.g (i+1+1)).Ok ts:=zp
     have hxl:=vu H (i+1)
     have hsn:dw (pS ts e (.g (i+1))) 3=some (tx ts (i+1),pS ts e (.g (i+1+1))):=by rw [vt H (.g (i+1)) fu 3,NB hn,NA hn]
     have Sh:bT (qS ts e' (.g (i+1))) 3=some (tx ts (i+1),qS ts e' (.g (i+1+1))):=by rw [tQ H (.g (i+1)) fu rfl 3 (.inr rfl),NB hn,NA hn]
     cases Dz:tw ts (i+1+1) [40] with
     | true=>
      obtain ⟨s1,la,lb,g1,g2,g3⟩:=(IH _ (Lt.g (show i0<i+1+1 by omega) zp)).args [.mk k a t l] aKN
      have hlb:=g3.lem
      have aGb:=okp g3.ok
      have hle:i0<=s1.pos:=by have:i+1+1<=s1.pos:=g3.le;omega
      obtain ⟨s',n',m',f1,f2,f3⟩:=qm H IH u N s1 (.mk 20 0 (tx ts (i+1)) la) (.mk 20 0 (tx ts (i+1)) ([.mk k a t l]++lb)) g3.ok g3.nd hle (λi2 h2=>by
       obtain ⟨k1,q1,q2,q3,q4⟩:=g3.good i2 h2
       cases q1
       subst q3
       refine ⟨by omega,rfl,mk _ _ _ _ _ aKK (qh aKL) ?_⟩
       rw [ki,df]
       omega)
      refine ⟨s',n',m',?_,?_,f3⟩
      ·have key:aZ u (pS ts e (.g i)).fT (pS ts e (.g i)).fI (pS ts e (.g i)).az (pS ts e (.g i)).ay [] k a t l=aZ u (pS ts e s1).fT (pS ts e s1).fI (pS ts e s1).az (pS ts e s1).ay [] 20 0 (tx ts (i+1)) la:=by
        rw [aZ]
        simp only [mj,if_true]
        refine aG (ax (w:=[91]) H hs hb) ?_
        refine dH (c8 H hc) ?_
        refine aX hsn ?_
        refine dH ((eJ H _ nI 6 [40] aKL).trans (by rw [show aS ts (.g (i+1+1)) 0 6 [40]=true from (aM H aKL aKL).trans Dz])) ?_
        refine aX g1 ?_
        rfl
       rw [show aZ u (pS ts e (.g i)).fT (pS ts e (.g i)).fI (pS ts e (.g i)).az (pS ts e (.g i)).ay [] (ae.mk k a t l).aj (ae.mk k a t l).aP (ae.mk k a t l).aq (ae.mk k a t l).ah=_ from key]
       exact f1
      ·have key:aF (!u) (qS ts e' (.g i)).ar (qS ts e' (.g i)).bM (qS ts e' (.g i)).az (qS ts e' (.g i)).ay [] k a t l=aF (!u) (qS ts e' s1).ar (qS ts e' s1).bM (qS ts e' s1).az (qS ts e' s1).ay [] 20 0 (tx ts (i+1)) ([.mk k a t l]++lb):=by
        rw [aF]
        simp only [kj,if_false]
        refine aX (Dw H hi u k a t l) ?_
        refine ca hqn ?_
        rw [dO]
        refine aG (au (w:=[91]) H hs hb) ?_
        refine dH (bU H hc) ?_
        refine aX Sh ?_
        refine dH ((eV (e':=e') H (.g (i+1+1)) nI [40]).trans (by rw [show tw ts (JS.g (i+1+1)).pos [40]=true from Dz])) ?_
        refine aX g2 ?_
        refine aX (km (b:=56) (l:=[ae.mk k a t l]) (m:=lb) aKU) ?_
        rfl
       rw [show aF (!u) (qS ts e' (.g i)).ar (qS ts e' (.g i)).bM (qS ts e' (.g i)).az (qS ts e' (.g i)).ay [] (ae.mk k a t l).aj (ae.mk k a t l).aP (ae.mk k a t l).aq (ae.mk k a t l).ah=_ from key]
       exact f2
     | false=>
      obtain ⟨s',n',m',f1,f2,f3⟩:=qm H IH u N (.g (i+1+1)) (.mk 8 0 (tx ts (i+1)) [.mk k a t l]) (.mk 8 0 (tx ts (i+1)) [.mk k a t l]) nI rfl (by show i0<=i+1+1;omega) (λi2 h2=>by
       cases h2
       refine ⟨by omega,rfl,mk _ _ _ _ _ aKK (qh aKL) ?_⟩
       rw [df]
       omega)
      refine ⟨s',n',m',?_,?_,f3⟩
      ·have key:aZ u (pS ts e (.g i)).fT (pS ts e (.g i)).fI (pS ts e (.g i)).az (pS ts e (.g i)).ay [] k a t l=aZ u (pS ts e (.g (i+1+1))).fT (pS ts e (.g (i+1+1))).fI (pS ts e (.g (i+1+1))).az (pS ts e (.g (i+1+1))).ay [] 8 0 (tx ts (i+1)) [.mk k a t l]:=by
        rw [aZ]
        simp only [mj,if_true]
        refine aG (ax (w:=[91]) H hs hb) ?_
        refine dH (c8 H hc) ?_
        refine aX hsn ?_
        refine aG ((eJ H _ nI 6 [40] aKL).trans (by rw [show aS ts (.g (i+1+1)) 0 6 [40]=false from (aM H aKL aKL).trans Dz])) ?_
        rfl
       rw [show aZ u (pS ts e (.g i)).fT (pS ts e (.g i)).fI (pS ts e (.g i)).az (pS ts e (.g i)).ay [] (ae.mk k a t l).aj (ae.mk k a t l).aP (ae.mk k a t l).aq (ae.mk k a t l).ah=_ from key]
       exact f1
      ·have key:aF (!u) (qS ts e' (.g i)).ar (qS ts e' (.g i)).bM (qS ts e' (.g i)).az (qS ts e' (.g i)).ay [] k a t l=aF (!u) (qS ts e' (.g (i+1+1))).ar (qS ts e' (.g (i+1+1))).bM (qS ts e' (.g (i+1+1))).az (qS ts e' (.g (i+1+1))).ay [] 8 0 (tx ts (i+1)) [.mk k a t l]:=by
        rw [aF]
        simp only [kj,if_false]
        refine aX (Dw H hi u k a t l) ?_
        refine ca hqn ?_
        rw [dO]
        refine aG (au (w:=[91]) H hs hb) ?_
        refine dH (bU H hc) ?_
        refine aX Sh ?_
        refine aG ((eV (e':=e') H (.g (i+1+1)) nI [40]).trans (by rw [show tw ts (JS.g (i+1+1)).pos [40]=false from Dz])) ?_
        rfl
       rw [show aF (!u) (qS ts e' (.g i)).ar (qS ts e' (.g i)).bM (qS ts e' (.g i)).az (qS ts e' (.g i)).ay [] (ae.mk k a t l).aj (ae.mk k a t l).aP (ae.mk k a t l).aq (ae.mk k a t l).ah=_ from key]
       exact f2
   | false=>
    cases Dz:tw ts i [40] with
    | true=>
     obtain ⟨s1,la,lb,g1,g2,g3⟩:=(IH _ (Lt.g adQ hi)).args [.mk k a t l] aKN
     have hlb:=g3.lem
     have aGb:=okp g3.ok
     have hle:i0<=s1.pos:=by have:i<=s1.pos:=g3.le;omega
     obtain ⟨s',n',m',f1,f2,f3⟩:=qm H IH u N s1 (.mk 19 0 [] la) (.mk 19 0 [] ([.mk k a t l]++lb)) g3.ok g3.nd hle (λi2 h2=>by
      obtain ⟨k1,q1,q2,q3,q4⟩:=g3.good i2 h2
      cases q1
      subst q3
      have alT:=okp g3.ok
      rw [h2] at alT
      have alT:i2<=ts.length:=alT
      refine ⟨by omega,rfl,mk _ _ _ _ _ aKK (qh aKL) ?_⟩
      rw [ki,df]
      simp only [At]
      have aHG:=cw Dz
      omega)
     refine ⟨s',n',m',?_,?_,f3⟩
     ·have key:aZ u (pS ts e (.g i)).fT (pS ts e (.g i)).fI (pS ts e (.g i)).az (pS ts e (.g i)).ay [] k a t l=aZ u (pS ts e s1).fT (pS ts e s1).fI (pS ts e s1).az (pS ts e s1).ay [] 19 0 [] la:=by
       rw [aZ]
       simp only [mj,if_true]
       refine aG (ax (w:=[91]) H hs hb) ?_
       refine aG (ax (w:=[45,62]) H hs hc) ?_
       refine dH ((eJ H _ hs 6 [40] aKL).trans (by rw [show aS ts (.g i) 0 6 [40]=true from (aM H aKL aKL).trans Dz])) ?_
       refine aX g1 ?_
       rfl
      rw [show aZ u (pS ts e (.g i)).fT (pS ts e (.g i)).fI (pS ts e (.g i)).az (pS ts e (.g i)).ay [] (ae.mk k a t l).aj (ae.mk k a t l).aP (ae.mk k a t l).aq (ae.mk k a t l).ah=_ from key]
      exact f1
     ·have key:aF (!u) (qS ts e' (.g i)).ar (qS ts e' (.g i)).bM (qS ts e' (.g i)).az (qS ts e' (.g i)).ay [] k a t l=aF (!u) (qS ts e' s1).ar (qS ts e' s1).bM (qS ts e' s1).az (qS ts e' s1).ay [] 19 0 [] ([.mk k a t l]++lb):=by
       rw [aF]
       simp only [kj,if_false]
       refine aX (Dw H hi u k a t l) ?_
       refine ca hqn ?_
       rw [dO]
       refine aG (au (w:=[91]) H hs hb) ?_
       refine aG (au (w:=[45,62]) H hs hc) ?_
       refine dH ((eV (e':=e') H (.g i) hs [40]).trans (by rw [show tw ts (JS.g i).pos [40]=true from Dz])) ?_
       refine aX g2 ?_
       refine aX (km (b:=56) (l:=[ae.mk k a t l]) (m:=lb) aKU) ?_
       rfl
      rw [show aF (!u) (qS ts e' (.g i)).ar (qS ts e' (.g i)).bM (qS ts e' (.g i)).az (qS ts e' (.g i)).ay [] (ae.mk k a t l).aj (ae.mk k a t l).aP (ae.mk k a t l).aq (ae.mk k a t l).ah=_ from key]
      exact f2
    | false=>
     refine ⟨.g i,.mk k a t l,.mk k a t l,.inl ?_,.inl ?_,inv.rs hi⟩
     ·rw [aZ]
      simp only [mj,if_true]
      refine aG (ax (w:=[91]) H hs hb) ?_
      refine aG (ax (w:=[45,62]) H hs hc) ?_
      refine aG ((eJ H _ hs 6 [40] aKL).trans (by rw [show aS ts (.g i) 0 6 [40]=false from (aM H aKL aKL).trans Dz])) ?_
      rfl
     ·rw [aF]
      simp only [kj,if_false]
      refine aX (Dw H hi u k a t l) ?_
      refine ca hqn ?_
      rw [dO]
      refine aG (au (w:=[91]) H hs hb) ?_
      refine aG (au (w:=[45,62]) H hs hc) ?_
      refine aG ((eV (e':=e') H (.g i) hs [40]).trans (by rw [show tw ts (JS.g i).pos [40]=false from Dz])) ?_
      rfl
theorem Ke (H:Tk ts e) {i:Nat} (hi:i<=ts.length) (IH:∀s,Lt ts i s->PC ts e e' s) (u:Bool):C1 ts e e' true 1 (.g i) (λp=>gm p u) (λq=>bV q (!u)):=by
 obtain ⟨s1,n,m,g1,g2,g3⟩:=PW H hi IH
 have hd:s1.nd=true:=by
  cases s1 with
  | d j=>have:=(g3.dm j rfl).2.2.1;omega
  | _=>rfl
 obtain ⟨s',n',m',f1,f2,f3⟩:=qm H IH u (ts.length+1) s1 n m g3.ok hd g3.le (λi1 h1=>by
  subst h1
  obtain ⟨q1,q2⟩:=g3.inv
  exact ⟨by omega,q1,q2⟩)
 refine ⟨s',n',m',?_,?_,f3⟩
 ·show gm (pS ts e (.g i)) u=_
  rw [gm]
  refine aX g1 ?_
  exact f1.run
 ·show bV (qS ts e' (.g i)) (!u)=_
  rw [bV]
  refine aX g2 ?_
  exact f2.run
end
end Go.Am
